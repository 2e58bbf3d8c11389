/- What the machine's calls of these functions come to: just what the plain functions say. Written by program. -/
import Derived.Test.YtjdnnkdhajhdkaaGreatDoorProg
import Derived.Test.YtjdnnkdhajhdkaaGreatDoorKitXi
import Derived.Test.YtjdnnkdhajhdkaaGreatDoorZD
import Derived.Test.YtjdnnkdhajhdkaaGreatDoorShelf
set_option linter.unusedVariables false
set_option linter.unnecessarySimpa false
set_option linter.unusedSimpArgs false
set_option maxRecDepth 100000
set_option maxHeartbeats 1000000
namespace Go.Proofs.YtjdnnkdhajhdkaaGreatDoor
open Go Go.RowKit Go.Proofs.YtjdnnkdhajhdkaaGreatDoor.Kit
variable {w0 : World} {H0 H : Hp} {F : List Ch}
def kBlob:Kd Blob:=Kd.iso ((Kd.pair Kd.string (Kd.pair (Kd.int .i64) (Kd.pair (Kd.int .i64) (Kd.pair (Kd.int .i64) (Kd.int .i64)))))) (fun x=>(x.Digest,x.Size,x.Used,x.Until,x.Pins))
theorem kBlob_open {H:Hp} {x:Blob} {c:List Value} (h:kBlob.K H x c):c=[.string x.Digest,iv x.Size,iv x.Used,iv x.Until,iv x.Pins]:=by
 obtain ⟨p0,q0,rfl,g0,h0⟩:=h
 obtain rfl:p0=[_]:=g0
 obtain ⟨p1,q1,rfl,g1,h1⟩:=h0
 obtain rfl:p1=[_]:=g1
 obtain ⟨p2,q2,rfl,g2,h2⟩:=h1
 obtain rfl:p2=[_]:=g2
 obtain ⟨p3,q3,rfl,g3,h3⟩:=h2
 obtain rfl:p3=[_]:=g3
 obtain rfl:q3=[_]:=h3
 rfl
theorem kBlob_mk {H:Hp} {x:Blob}:kBlob.K H x [.string x.Digest,iv x.Size,iv x.Used,iv x.Until,iv x.Pins]:=⟨[.string x.Digest],[iv x.Size,iv x.Used,iv x.Until,iv x.Pins],rfl,rfl,⟨[iv x.Size],[iv x.Used,iv x.Until,iv x.Pins],rfl,rfl,⟨[iv x.Used],[iv x.Until,iv x.Pins],rfl,rfl,⟨[iv x.Until],[iv x.Pins],rfl,rfl,rfl⟩⟩⟩⟩
def kEntry:Kd Entry:=Kd.iso ((Kd.pair Kd.string (Kd.pair (Kd.slice Kd.string) (Kd.int .i64)))) (fun x=>(x.Key,x.Refs,x.Used))
theorem kEntry_open {H:Hp} {x:Entry} {c:List Value} (h:kEntry.K H x c):∃ A1 c1,c=[.string x.Key,.slice A1 x.Refs.length c1,iv x.Used]∧x.Refs.length≤c1∧Kd.Row Kd.string H A1 x.Refs:=by
 obtain ⟨p0,q0,rfl,g0,h0⟩:=h
 obtain rfl:p0=[_]:=g0
 obtain ⟨p1,q1,rfl,g1,h1⟩:=h0
 obtain ⟨A1,c1,rfl,u1,v1⟩:=g1
 obtain rfl:q1=[_]:=h1
 exact ⟨A1,c1,rfl,u1,v1⟩
theorem kEntry_mk {H:Hp} {x:Entry} {A1:Option Addr} {c1:Nat} (u1:x.Refs.length≤c1) (v1:Kd.Row Kd.string H A1 x.Refs):kEntry.K H x [.string x.Key,.slice A1 x.Refs.length c1,iv x.Used]:=⟨[.string x.Key],[.slice A1 x.Refs.length c1,iv x.Used],rfl,rfl,⟨[.slice A1 x.Refs.length c1],[iv x.Used],rfl,⟨A1,c1,rfl,u1,v1⟩,rfl⟩⟩
def kCache:Kd Cache:=Kd.iso ((Kd.pair (Kd.int .i64) (Kd.pair (Kd.int .i64) (Kd.pair (Kd.slice kBlob) (Kd.slice kEntry))))) (fun x=>(x.Room,x.Lease,x.Blobs,x.Entries))
theorem kCache_open {H:Hp} {x:Cache} {c:List Value} (h:kCache.K H x c):∃ A2 c2,∃ A3 c3,c=[iv x.Room,iv x.Lease,.slice A2 x.Blobs.length c2,.slice A3 x.Entries.length c3]∧x.Blobs.length≤c2∧Kd.Row kBlob H A2 x.Blobs∧x.Entries.length≤c3∧Kd.Row kEntry H A3 x.Entries:=by
 obtain ⟨p0,q0,rfl,g0,h0⟩:=h
 obtain rfl:p0=[_]:=g0
 obtain ⟨p1,q1,rfl,g1,h1⟩:=h0
 obtain rfl:p1=[_]:=g1
 obtain ⟨p2,q2,rfl,g2,h2⟩:=h1
 obtain ⟨A2,c2,rfl,u2,v2⟩:=g2
 obtain ⟨A3,c3,rfl,u3,v3⟩:=h2
 exact ⟨A2,c2,A3,c3,rfl,u2,v2,u3,v3⟩
theorem kCache_mk {H:Hp} {x:Cache} {A2:Option Addr} {c2:Nat} {A3:Option Addr} {c3:Nat} (u2:x.Blobs.length≤c2) (v2:Kd.Row kBlob H A2 x.Blobs) (u3:x.Entries.length≤c3) (v3:Kd.Row kEntry H A3 x.Entries):kCache.K H x [iv x.Room,iv x.Lease,.slice A2 x.Blobs.length c2,.slice A3 x.Entries.length c3]:=⟨[iv x.Room],[iv x.Lease,.slice A2 x.Blobs.length c2,.slice A3 x.Entries.length c3],rfl,rfl,⟨[iv x.Lease],[.slice A2 x.Blobs.length c2,.slice A3 x.Entries.length c3],rfl,rfl,⟨[.slice A2 x.Blobs.length c2],[.slice A3 x.Entries.length c3],rfl,⟨A2,c2,rfl,u2,v2⟩,⟨A3,c3,rfl,u3,v3⟩⟩⟩⟩
def kCacheEvent:Kd CacheEvent:=Kd.iso ((Kd.pair (Kd.int .i64) (Kd.pair (Kd.int .i64) (Kd.pair Kd.string (Kd.pair (Kd.slice Kd.string) (Kd.pair Kd.string (Kd.int .i64))))))) (fun x=>(x.Kind,x.At,x.Digest,x.Digests,x.Key,x.Size))
theorem kCacheEvent_open {H:Hp} {x:CacheEvent} {c:List Value} (h:kCacheEvent.K H x c):∃ A3 c3,c=[iv x.Kind,iv x.At,.string x.Digest,.slice A3 x.Digests.length c3,.string x.Key,iv x.Size]∧x.Digests.length≤c3∧Kd.Row Kd.string H A3 x.Digests:=by
 obtain ⟨p0,q0,rfl,g0,h0⟩:=h
 obtain rfl:p0=[_]:=g0
 obtain ⟨p1,q1,rfl,g1,h1⟩:=h0
 obtain rfl:p1=[_]:=g1
 obtain ⟨p2,q2,rfl,g2,h2⟩:=h1
 obtain rfl:p2=[_]:=g2
 obtain ⟨p3,q3,rfl,g3,h3⟩:=h2
 obtain ⟨A3,c3,rfl,u3,v3⟩:=g3
 obtain ⟨p4,q4,rfl,g4,h4⟩:=h3
 obtain rfl:p4=[_]:=g4
 obtain rfl:q4=[_]:=h4
 exact ⟨A3,c3,rfl,u3,v3⟩
theorem kCacheEvent_mk {H:Hp} {x:CacheEvent} {A3:Option Addr} {c3:Nat} (u3:x.Digests.length≤c3) (v3:Kd.Row Kd.string H A3 x.Digests):kCacheEvent.K H x [iv x.Kind,iv x.At,.string x.Digest,.slice A3 x.Digests.length c3,.string x.Key,iv x.Size]:=⟨[iv x.Kind],[iv x.At,.string x.Digest,.slice A3 x.Digests.length c3,.string x.Key,iv x.Size],rfl,rfl,⟨[iv x.At],[.string x.Digest,.slice A3 x.Digests.length c3,.string x.Key,iv x.Size],rfl,rfl,⟨[.string x.Digest],[.slice A3 x.Digests.length c3,.string x.Key,iv x.Size],rfl,rfl,⟨[.slice A3 x.Digests.length c3],[.string x.Key,iv x.Size],rfl,⟨A3,c3,rfl,u3,v3⟩,⟨[.string x.Key],[iv x.Size],rfl,rfl,rfl⟩⟩⟩⟩⟩
def kCacheAnswer:Kd CacheAnswer:=Kd.iso ((Kd.pair Kd.bool (Kd.pair (Kd.slice Kd.string) (Kd.slice Kd.string)))) (fun x=>(x.Done,x.Missing,x.Gone))
theorem kCacheAnswer_open {H:Hp} {x:CacheAnswer} {c:List Value} (h:kCacheAnswer.K H x c):∃ A1 c1,∃ A2 c2,c=[.bool x.Done,.slice A1 x.Missing.length c1,.slice A2 x.Gone.length c2]∧x.Missing.length≤c1∧Kd.Row Kd.string H A1 x.Missing∧x.Gone.length≤c2∧Kd.Row Kd.string H A2 x.Gone:=by
 obtain ⟨p0,q0,rfl,g0,h0⟩:=h
 obtain rfl:p0=[_]:=g0
 obtain ⟨p1,q1,rfl,g1,h1⟩:=h0
 obtain ⟨A1,c1,rfl,u1,v1⟩:=g1
 obtain ⟨A2,c2,rfl,u2,v2⟩:=h1
 exact ⟨A1,c1,A2,c2,rfl,u1,v1,u2,v2⟩
theorem kCacheAnswer_mk {H:Hp} {x:CacheAnswer} {A1:Option Addr} {c1:Nat} {A2:Option Addr} {c2:Nat} (u1:x.Missing.length≤c1) (v1:Kd.Row Kd.string H A1 x.Missing) (u2:x.Gone.length≤c2) (v2:Kd.Row Kd.string H A2 x.Gone):kCacheAnswer.K H x [.bool x.Done,.slice A1 x.Missing.length c1,.slice A2 x.Gone.length c2]:=⟨[.bool x.Done],[.slice A1 x.Missing.length c1,.slice A2 x.Gone.length c2],rfl,rfl,⟨[.slice A1 x.Missing.length c1],[.slice A2 x.Gone.length c2],rfl,⟨A1,c1,rfl,u1,v1⟩,⟨A2,c2,rfl,u2,v2⟩⟩⟩
noncomputable def C12:Ctx:={ P:=Tryz.prog,f:=12,N:=8,c:=bodyOf Tryz.f12 }
def S12 (F:List Ch) (H0:Hp) (r:List Blob) (v:Value) (H:Hp) (cs:List Ch):Prop:=∃ (A0:Option Addr) (c0:Nat) (ch0:Ch),H0=H∧v=.slice A0 r.length c0∧ch0::F=cs∧SlOwn kBlob 45 H A0 c0 r ch0
theorem slices_Clone_Blob_c {a0:List Blob} {Aa0:Option Addr} {na0 ca0:Nat} {r:List Blob} (hra0:Rw kBlob H F Aa0 a0) (hca0:na0≤ca0) (hna0:na0=a0.length) (heq:slices_Clone_Blob.f a0=some r):CallsH Tryz.prog 12 #[.slice Aa0 na0 ca0] H w0 F (S12 F H r):=by
 refine calls_of_runH (F:=C12) Tryz.func12 (by kernel_rfl) Tryz.ntmps12 (args:=[.slice Aa0 na0 ca0]) (by kernel_rfl) ?_
 subst hna0
 unfold slices_Clone_Blob.f at heq
 obtain ⟨hn,heq⟩:=guard?_some heq
 obtain rfl:=Option.some.inj heq
 refine Ra 1 [0] [.c [1]]<|Rd 1 [0] [(0,.slice Aa0 a0.length ca0)]<|Ra 2 [1,0,0] [.c [1,0,1],.c [1,1]] ?_
 cases Aa0 with
 | none =>
  have h0:a0=[]:=by
   cases a0 with
   | nil=>rfl
   | cons x xs=>obtain ⟨b,off,cs,e,fr,hA,_⟩:=hra0 (by simp); cases hA
  subst h0
  refine Rd 2 [4] [(4,.bool true)]<|Ct true rfl<|Ra 1 [1,0,1,0,0] [.c [1,0,1,0,1],.c [1,1]]<|Rd 1 [2] [(2,.slice none 0 0)]<|RunH.nilc ?_
  exact RunH.done (by kernel_rfl) Tryz.func12 (v:=.slice none ([]:List Blob).length 0) (by kernel_rfl) ⟨none,0,none,rfl,rfl,rfl,SlOwn.nil⟩
 | some ad =>
  refine Rd 2 [0,4] [(0,.slice (some ad) a0.length ca0),(4,.bool false)]<|Cf false rfl<|Ra 2 [1,1,0] [.c [1,1,1]] ?_
  refine RgH.does (DoesH.new (d:=5) (v:=fun g=>.slice (some ⟨g,0,none⟩) 0 0) (o:=fun g=>.cells #[] 45 (0,0)) (fun g=>by kernel_rfl)) ?_
  rintro _ _ _ _ ⟨g,rfl,rfl,rfl⟩
  have ho:SlOwn kBlob 45 H (some ⟨g,0,none⟩) 0 ([]:List Blob) (some (g,.cells #[] 45 (0,0))):=.inr ⟨g,0,#[],rfl,rfl,by simp,by simp [maxLen],by simp,Kd.Rep.nil⟩
  refine Rk 2 [5,6] [(5,.slice (some ⟨g,0,none⟩) 0 0),(6,.slice (some ad) a0.length ca0)] ?_
  refine RgH.does (DoesH.append (d:=7) (k:=0) (t:=22) (e:=45) (bytes:=48) (kd:=kBlob) (n:=0) (m:=a0.length) (xs:=([]:List Blob)) (ys:=a0) (A:=some ⟨g,0,none⟩) (B:=some ad) (c:=0) (cB:=ca0) (by kernel_rfl) rfl rfl (by kernel_rfl) rfl ho (fun w hh=>hra0.rdb (hh.drop 1)) (room_le hn) (by have:=room_le hn; omega)) ?_
  rintro _ _ _ _ ⟨A1,c1,ch1,rfl,rfl,rfl,ho1⟩
  refine Rd 4 [2] [(2,.slice A1 (([]:List Blob)++a0).length c1)] ?_
  exact RunH.done (by kernel_rfl) Tryz.func12 (v:=.slice A1 (([]:List Blob)++a0).length c1) (by kernel_rfl) ⟨A1,c1,ch1,rfl,rfl,rfl,ho1⟩
noncomputable def C13:Ctx:={ P:=Tryz.prog,f:=13,N:=8,c:=bodyOf Tryz.f13 }
def S13 (F:List Ch) (H0:Hp) (r:List ByteArray) (v:Value) (H:Hp) (cs:List Ch):Prop:=∃ (A0:Option Addr) (c0:Nat) (ch0:Ch),H0=H∧v=.slice A0 r.length c0∧ch0::F=cs∧SlOwn Kd.string 9 H A0 c0 r ch0
theorem slices_Clone_string_c {a0:List ByteArray} {Aa0:Option Addr} {na0 ca0:Nat} {r:List ByteArray} (hra0:Rw Kd.string H F Aa0 a0) (hca0:na0≤ca0) (hna0:na0=a0.length) (heq:slices_Clone_string.f a0=some r):CallsH Tryz.prog 13 #[.slice Aa0 na0 ca0] H w0 F (S13 F H r):=by
 refine calls_of_runH (F:=C13) Tryz.func13 (by kernel_rfl) Tryz.ntmps13 (args:=[.slice Aa0 na0 ca0]) (by kernel_rfl) ?_
 subst hna0
 unfold slices_Clone_string.f at heq
 obtain ⟨hn,heq⟩:=guard?_some heq
 obtain rfl:=Option.some.inj heq
 refine Ra 1 [0] [.c [1]]<|Rd 1 [0] [(0,.slice Aa0 a0.length ca0)]<|Ra 2 [1,0,0] [.c [1,0,1],.c [1,1]] ?_
 cases Aa0 with
 | none =>
  have h0:a0=[]:=by
   cases a0 with
   | nil=>rfl
   | cons x xs=>obtain ⟨b,off,cs,e,fr,hA,_⟩:=hra0 (by simp); cases hA
  subst h0
  refine Rd 2 [4] [(4,.bool true)]<|Ct true rfl<|Ra 1 [1,0,1,0,0] [.c [1,0,1,0,1],.c [1,1]]<|Rd 1 [2] [(2,.slice none 0 0)]<|RunH.nilc ?_
  exact RunH.done (by kernel_rfl) Tryz.func13 (v:=.slice none ([]:List ByteArray).length 0) (by kernel_rfl) ⟨none,0,none,rfl,rfl,rfl,SlOwn.nil⟩
 | some ad =>
  refine Rd 2 [0,4] [(0,.slice (some ad) a0.length ca0),(4,.bool false)]<|Cf false rfl<|Ra 2 [1,1,0] [.c [1,1,1]] ?_
  refine RgH.does (DoesH.new (d:=5) (v:=fun g=>.slice (some ⟨g,0,none⟩) 0 0) (o:=fun g=>.cells #[] 9 (0,0)) (fun g=>by kernel_rfl)) ?_
  rintro _ _ _ _ ⟨g,rfl,rfl,rfl⟩
  have ho:SlOwn Kd.string 9 H (some ⟨g,0,none⟩) 0 ([]:List ByteArray) (some (g,.cells #[] 9 (0,0))):=.inr ⟨g,0,#[],rfl,rfl,by simp,by simp [maxLen],by simp,Kd.Rep.nil⟩
  refine Rk 2 [5,6] [(5,.slice (some ⟨g,0,none⟩) 0 0),(6,.slice (some ad) a0.length ca0)] ?_
  refine RgH.does (DoesH.append (d:=7) (k:=0) (t:=26) (e:=9) (bytes:=16) (kd:=Kd.string) (n:=0) (m:=a0.length) (xs:=([]:List ByteArray)) (ys:=a0) (A:=some ⟨g,0,none⟩) (B:=some ad) (c:=0) (cB:=ca0) (by kernel_rfl) rfl rfl (by kernel_rfl) rfl ho (fun w hh=>hra0.rdb (hh.drop 1)) (room_le hn) (by have:=room_le hn; omega)) ?_
  rintro _ _ _ _ ⟨A1,c1,ch1,rfl,rfl,rfl,ho1⟩
  refine Rd 4 [2] [(2,.slice A1 (([]:List ByteArray)++a0).length c1)] ?_
  exact RunH.done (by kernel_rfl) Tryz.func13 (v:=.slice A1 (([]:List ByteArray)++a0).length c1) (by kernel_rfl) ⟨A1,c1,ch1,rfl,rfl,rfl,ho1⟩
noncomputable def C4:Ctx:={ P:=Tryz.prog,f:=4,N:=33,c:=bodyOf Tryz.f4 }
def S4 (F:List Ch) (H0:Hp) (r:Cache) (v:Value) (H:Hp) (cs:List Ch):Prop:=∃ (A0_2:Option Addr) (c0_2:Nat) (ch0_2:Ch) (A0_3:Option Addr) (c0_3:Nat) (ch0_3:Ch),v=.agg #[iv r.Room,iv r.Lease,.slice A0_2 r.Blobs.length c0_2,.slice A0_3 r.Entries.length c0_3]∧ch0_2::ch0_3::F=cs∧SlOwn kBlob 45 H A0_2 c0_2 r.Blobs ch0_2∧SlOwn kEntry 47 H A0_3 c0_3 r.Entries ch0_3
theorem smithyardref7_Copy.e1_c {r:Cache}:∀ (H:Hp) (a0:Cache) (Aa0_3:Option Addr) (ca0_3 g1 g2:Nat) (y1:List Blob) (A1:Option Addr) (c1:Nat) (ch1:Ch) (v_entries3:List Entry) (Av_entries3:Option Addr) (nv_entries3 cv_entries3:Nat) (chv_entries3:Ch) ,Rw kEntry H F Aa0_3 a0.Entries→a0.Entries.length≤ca0_3→SlOwn kBlob 45 H A1 c1 y1 ch1→SlOwn kEntry 47 H Av_entries3 cv_entries3 v_entries3 chv_entries3→nv_entries3=v_entries3.length→smithyardref7_Copy.e1 a0 y1 v_entries3=some r→RunH C4 (S4 F H0 r) H0 w0 [.c [1,1,1,1,0],.c [1,1,1,1,1]] [(1,pg g1 0),(2,pg g2 0),(3,.slice Av_entries3 nv_entries3 cv_entries3)] H (chv_entries3::ch1::(some (g2,.cells #[iv 0,iv 0,.slice none 0 0,.slice none 0 0] 25 (0,0)))::(some (g1,.cells #[iv a0.Room,iv a0.Lease,.slice A1 y1.length c1,.slice Aa0_3 a0.Entries.length ca0_3] 25 (0,0)))::F):=by
 intro H a0 Aa0_3 ca0_3 g1 g2 y1 A1 c1 ch1 v_entries3 Av_entries3 nv_entries3 cv_entries3 chv_entries3 hra0_3 hca0_3 ho1 hov_entries3 hnv_entries3 heq
 subst hnv_entries3
 unfold smithyardref7_Copy.e1 at heq
 refine Sa 0<|Zk 2 ?_
 refine RgH.does (DoesH.store (k:=3) (g:=g1) (off:=3) (v:=.slice Av_entries3 v_entries3.length cv_entries3) (cells':=#[iv a0.Room,iv a0.Lease,.slice A1 y1.length c1,.slice Av_entries3 v_entries3.length cv_entries3]) (by kernel_rfl) rfl (by kernel_rfl) (by kernel_rfl)) ?_
 rintro _ _ _ _ ⟨rfl,rfl,rfl⟩
 refine RgH.nrm ?_
 refine Dn<|Sa 1<|Zv 1 (bxs 3) ?_
 refine RgH.does (DoesH.store (k:=2) (g:=g2) (off:=0) (v:=.agg #[iv a0.Room,iv a0.Lease,.slice A1 y1.length c1,.slice Av_entries3 v_entries3.length cv_entries3]) (cells':=#[iv a0.Room,iv a0.Lease,.slice A1 y1.length c1,.slice Av_entries3 v_entries3.length cv_entries3]) (by kernel_rfl) rfl (by kernel_rfl) (by kernel_rfl)) ?_
 rintro _ _ _ _ ⟨rfl,rfl,rfl⟩
 refine RgH.nrm ?_
 refine Dn ?_
 obtain rfl:=Option.some.inj heq
 refine Up 4 [2,1,0] ?_
 exact RunH.doneM' 1 (vs:=[.agg #[iv a0.Room,iv a0.Lease,.slice A1 y1.length c1,.slice Av_entries3 v_entries3.length cv_entries3]]) (v:=.agg #[iv a0.Room,iv a0.Lease,.slice A1 y1.length c1,.slice Av_entries3 v_entries3.length cv_entries3]) (by kernel_rfl) Tryz.func4 (fun w hh=>show ResAll _ _ _ [.cell 2 25] _ from ⟨⟨⟨g2,0,none⟩,by kernel_rfl,trS_run _ (vs:=[iv a0.Room,iv a0.Lease,.slice A1 y1.length c1,.slice Av_entries3 v_entries3.length cv_entries3]) (r:=[]) (es:=[.load ⟨g2,0,none⟩ (iv a0.Room),.load ⟨g2,1,none⟩ (iv a0.Lease),.load ⟨g2,2,none⟩ (.slice A1 y1.length c1),.load ⟨g2,3,none⟩ (.slice Av_entries3 v_entries3.length cv_entries3)]) (by kernel_rfl) ⟨(hh.box 0 rfl rfl),(hh.box 0 rfl rfl),(hh.box 0 rfl rfl),(hh.box 0 rfl rfl)⟩⟩,trivial⟩) rfl (cs':=ch1::chv_entries3::F) rfl ⟨A1,c1,ch1,Av_entries3,cv_entries3,chv_entries3,rfl,rfl,ho1,hov_entries3⟩
theorem smithyardref7_Copy.l2_c {r:Cache} (e1:Cache→(List Blob)→(List Entry)→Option Cache)
  (he1:∀ (H:Hp) (a0:Cache) (Aa0_3:Option Addr) (ca0_3 g1 g2:Nat) (y1:List Blob) (A1:Option Addr) (c1:Nat) (ch1:Ch) (v_entries3:List Entry) (Av_entries3:Option Addr) (nv_entries3 cv_entries3:Nat) (chv_entries3:Ch) ,Rw kEntry H F Aa0_3 a0.Entries→a0.Entries.length≤ca0_3→SlOwn kBlob 45 H A1 c1 y1 ch1→SlOwn kEntry 47 H Av_entries3 cv_entries3 v_entries3 chv_entries3→nv_entries3=v_entries3.length→e1 a0 y1 v_entries3=some r→RunH C4 (S4 F H0 r) H0 w0 [.c [1,1,1,1,0],.c [1,1,1,1,1]] [(1,pg g1 0),(2,pg g2 0),(3,.slice Av_entries3 nv_entries3 cv_entries3)] H (chv_entries3::ch1::(some (g2,.cells #[iv 0,iv 0,.slice none 0 0,.slice none 0 0] 25 (0,0)))::(some (g1,.cells #[iv a0.Room,iv a0.Lease,.slice A1 y1.length c1,.slice Aa0_3 a0.Entries.length ca0_3] 25 (0,0)))::F)):∀ (k:Nat),∀ (H:Hp) (a0:Cache) (Aa0_3:Option Addr) (ca0_3 g1 g2:Nat) (y1:List Blob) (A1:Option Addr) (c1:Nat) (ch1:Ch) (v_entries3:List Entry) (Av_entries3:Option Addr) (nv_entries3 cv_entries3:Nat) (chv_entries3:Ch) (v_i4:Int) ,Rw kEntry H F Aa0_3 a0.Entries→a0.Entries.length≤ca0_3→SlOwn kBlob 45 H A1 c1 y1 ch1→SlOwn kEntry 47 H Av_entries3 cv_entries3 v_entries3 chv_entries3→nv_entries3=v_entries3.length→smithyardref7_Copy.l2 e1 k a0 y1 v_entries3 v_i4=some r→RunH C4 (S4 F H0 r) H0 w0 [.c [1,1,1,0,1,0,0],.l [1,1,1,0,1,0,0],.b 0,.c [1,1,1,1]] [(1,pg g1 0),(2,pg g2 0),(3,.slice Av_entries3 nv_entries3 cv_entries3),(4,iv v_i4)] H (chv_entries3::ch1::(some (g2,.cells #[iv 0,iv 0,.slice none 0 0,.slice none 0 0] 25 (0,0)))::(some (g1,.cells #[iv a0.Room,iv a0.Lease,.slice A1 y1.length c1,.slice Aa0_3 a0.Entries.length ca0_3] 25 (0,0)))::F):=by
 intro k
 induction k with
 | zero=>intro H a0 Aa0_3 ca0_3 g1 g2 y1 A1 c1 ch1 v_entries3 Av_entries3 nv_entries3 cv_entries3 chv_entries3 v_i4 hra0_3 hca0_3 ho1 hov_entries3 hnv_entries3 heq; exact nomatch (show (none:Option Cache)=some r from heq)
 | succ k ihk =>
  intro H a0 Aa0_3 ca0_3 g1 g2 y1 A1 c1 ch1 v_entries3 Av_entries3 nv_entries3 cv_entries3 chv_entries3 v_i4 hra0_3 hca0_3 ho1 hov_entries3 hnv_entries3 heq
  subst hnv_entries3
  rw [smithyardref7_Copy.l2] at heq
  refine Sa 2<|Zw 5 [bx 3 3] ?_
  refine Cb heq ?_ ?_
  ·intro hb1 heq
   refine Sa 4 ?_
   obtain ⟨x1,hx1,heq⟩:=bind_some heq
   obtain ⟨ha1,cs1,hK1,hcc1⟩:=hra0_3.get hx1
   obtain ⟨A2,c2,rfl,hc1,hr1⟩:=kEntry_open hK1
   refine Zv 5 ([bx 3 3,nx ha1 hx1]++ers hcc1 4) ?_
   refine RgH.does (DoesH.new (d:=5) (v:=fun g=>.pointer (some ⟨g,0,none⟩)) (o:=fun g=>.cells #[.string ByteArray.empty,.slice none 0 0,iv 0] 47 (0,0)) (fun g=>by kernel_rfl)) ?_
   rintro _ _ _ _ ⟨g3,rfl,rfl,rfl⟩
   refine RgH.does (DoesH.store (k:=0) (g:=g3) (off:=0) (v:=.agg #[.string x1.Key,.slice A2 x1.Refs.length c2,iv x1.Used]) (cells':=#[.string x1.Key,.slice A2 x1.Refs.length c2,iv x1.Used]) (by kernel_rfl) rfl (by kernel_rfl) (by kernel_rfl)) ?_
   rintro _ _ _ _ ⟨rfl,rfl,rfl⟩
   refine RgH.nrm ?_
   refine Dn<|Sa 1<|Zv 2 [bx 0 1] ?_
   obtain ⟨y2,hy2,heq⟩:=bind_some heq
   refine RgH.does (cal 24 (slices_Clone_string_c (a0:=x1.Refs) (Rw.of hr1) hc1 rfl hy2)) ?_
   rintro _ _ _ _ ⟨_,rfl,A3,c3,ch2,rfl,rfl,rfl,ho2⟩
   refine Zk 4 ?_
   refine RgH.does (DoesH.store (k:=1) (g:=g3) (off:=1) (v:=.slice A3 y2.length c3) (cells':=#[.string x1.Key,.slice A3 y2.length c3,iv x1.Used]) (by kernel_rfl) rfl (by kernel_rfl) (by kernel_rfl)) ?_
   rintro _ _ _ _ ⟨rfl,rfl,rfl⟩
   refine RgH.nrm ?_
   refine Dn<|Sa 0<|Zv 2 (bxs 1) ?_
   have hc2:=ho2.cap
   refine Hs.freezeS ho2 (fun H hl hr2=>?_)
   replace ho1:=ho1.mono hl
   replace hra0_3:=hra0_3.mono hl
   replace hov_entries3:=hov_entries3.mono hl
   refine RgH.does (DoesH.new (d:=28) (v:=fun g=>.slice (some ⟨g,0,none⟩) 1 1) (o:=fun g=>.cells #[.string x1.Key,.slice A3 y2.length c3,iv x1.Used] 47 (0,0)) (fun g=>by kernel_rfl)) ?_
   rintro _ _ _ _ ⟨g4,rfl,rfl,rfl⟩
   have ho3:SlOwn kEntry 47 H (some ⟨g4,0,none⟩) 1 ([(⟨x1.Key,y2,x1.Used⟩:Entry)]:List Entry) (some (g4,.cells #[.string x1.Key,.slice A3 y2.length c3,iv x1.Used] 47 (0,0))):=SlOwn.lit (xs:=([(⟨x1.Key,y2,x1.Used⟩:Entry)]:List Entry)) (by kernel_rfl) (Nat.le_of_ble_eq_true (by kernel_rfl)) (Kd.Rep.one (kEntry_mk hc2 hr2))
   obtain ⟨hn1,heq⟩:=guard?_some heq
   refine RgH.does (DoesH.append (d:=29) (k:=2) (t:=23) (e:=47) (bytes:=48) (kd:=kEntry) (n:=v_entries3.length) (m:=1) (xs:=v_entries3) (ys:=([(⟨x1.Key,y2,x1.Used⟩:Entry)]:List Entry)) (A:=Av_entries3) (B:=(some ⟨g4,0,none⟩)) (c:=cv_entries3) (cB:=1) (by kernel_rfl) rfl rfl (by kernel_rfl) rfl hov_entries3 (fun w hh=>ho3.rdb (hh.chin 0 rfl)) (room_le hn1) (by have:=room_le hn1; omega)) ?_
   rintro _ _ _ _ ⟨A4,c4,ch3,rfl,rfl,rfl,ho4⟩
   refine RgH.nrm ?_
   refine Zd 5<|Sa 1<|Zd 3<|An 1 ?_
   exact Gt 2 [] (ihk _ a0 _ _ _ _ y1 _ _ _ (v_entries3++([(⟨x1.Key,y2,x1.Used⟩:Entry)]:List Entry)) _ _ _ _ (w64 (v_i4+1)) hra0_3 hca0_3 ho1 ho4 rfl heq)
  ·intro hb1 heq
   refine An 2 ?_
   exact Gt 0 [] (he1 _ a0 _ _ _ _ y1 _ _ _ v_entries3 _ _ _ _ hra0_3 hca0_3 ho1 hov_entries3 rfl heq)
theorem smithyardref7_Copy_c {a0:Cache} {Aa0_2:Option Addr} {na0_2 ca0_2:Nat} {Aa0_3:Option Addr} {na0_3 ca0_3:Nat} {r:Cache} (heq:smithyardref7_Copy.f a0=some r) (hra0_2:Rw kBlob H0 F Aa0_2 a0.Blobs) (hca0_2:na0_2≤ca0_2) (hna0_2:na0_2=a0.Blobs.length) (hra0_3:Rw kEntry H0 F Aa0_3 a0.Entries) (hca0_3:na0_3≤ca0_3) (hna0_3:na0_3=a0.Entries.length):CallsH Tryz.prog 4 #[.agg #[iv a0.Room,iv a0.Lease,.slice Aa0_2 na0_2 ca0_2,.slice Aa0_3 na0_3 ca0_3]] H0 w0 (F) (S4 F H0 r):=by
 refine Co C4 Tryz.func4 Tryz.ntmps4 ?_
 subst hna0_2
 subst hna0_3
 unfold smithyardref7_Copy.f at heq
 suffices key:∀ (H:Hp),Rw kBlob H F Aa0_2 a0.Blobs→Rw kEntry H F Aa0_3 a0.Entries→RunH C4 (S4 F H0 r) H0 w0 [.c []] (argL 0 [.agg #[iv a0.Room,iv a0.Lease,.slice Aa0_2 (a0.Blobs.length) ca0_2,.slice Aa0_3 (a0.Entries.length) ca0_3]]) H (F) from key H0 hra0_2 hra0_3
 intro H hra0_2 hra0_3
 refine Sa 1 ?_
 refine RgH.does (DoesH.new (d:=1) (v:=fun g=>.pointer (some ⟨g,0,none⟩)) (o:=fun g=>.cells #[iv a0.Room,iv a0.Lease,.slice Aa0_2 a0.Blobs.length ca0_2,.slice Aa0_3 a0.Entries.length ca0_3] 25 (0,0)) (fun g=>by kernel_rfl)) ?_
 rintro _ _ _ _ ⟨g1,rfl,rfl,rfl⟩
 refine RgH.does (DoesH.new (d:=2) (v:=fun g=>.pointer (some ⟨g,0,none⟩)) (o:=fun g=>.cells #[iv 0,iv 0,.slice none 0 0,.slice none 0 0] 25 (0,0)) (fun g=>by kernel_rfl)) ?_
 rintro _ _ _ _ ⟨g2,rfl,rfl,rfl⟩
 refine Dn<|Sa 1<|Zv 2 [bx 1 2] ?_
 obtain ⟨y1,hy1,heq⟩:=bind_some heq
 refine RgH.does (cal 8 (slices_Clone_Blob_c (a0:=a0.Blobs) (hra0_2.wk (fun _ h=>(.tail _ (.tail _ h)))) hca0_2 rfl hy1)) ?_
 rintro _ _ _ _ ⟨_,rfl,A1,c1,ch1,rfl,rfl,rfl,ho1⟩
 refine Zk 4 ?_
 refine RgH.does (DoesH.store (k:=2) (g:=g1) (off:=2) (v:=.slice A1 y1.length c1) (cells':=#[iv a0.Room,iv a0.Lease,.slice A1 y1.length c1,.slice Aa0_3 a0.Entries.length ca0_3]) (by kernel_rfl) rfl (by kernel_rfl) (by kernel_rfl)) ?_
 rintro _ _ _ _ ⟨rfl,rfl,rfl⟩
 refine RgH.nrm ?_
 refine Dn<|Sa 1<|Zd 1<|Sa 2<|Zd 1<|An 2<|RunH.nilc ?_
 have ho5:SlOwn kEntry 47 H none 0 ([]:List Entry) none:=SlOwn.nil
 exact Gt 0 [] (((smithyardref7_Copy.l2_c (e1:=smithyardref7_Copy.e1) (smithyardref7_Copy.e1_c)) big) _ a0 _ _ _ _ y1 _ _ _ ([]:List Entry) _ _ _ _ 0 hra0_3 hca0_3 ho1 ho5 rfl heq)
noncomputable def C5:Ctx:={ P:=Tryz.prog,f:=5,N:=25,c:=bodyOf Tryz.f5 }
def S5 (F:List Ch) (H0:Hp) (r:(List CacheEvent)) (v:Value) (H:Hp) (cs:List Ch):Prop:=∃ (A0:Option Addr) (c0:Nat) (ch0:Ch),v=.slice A0 r.length c0∧ch0::F=cs∧SlOwn kCacheEvent 28 H A0 c0 r ch0
theorem smithyardref7_CopyEvents.e1_c {r:(List CacheEvent)}:∀ (H:Hp) (v_out3:List CacheEvent) (Av_out3:Option Addr) (nv_out3 cv_out3:Nat) (chv_out3:Ch) ,SlOwn kCacheEvent 28 H Av_out3 cv_out3 v_out3 chv_out3→nv_out3=v_out3.length→smithyardref7_CopyEvents.e1 v_out3=some r→RunH C5 (S5 F H0 r) H0 w0 [.c [1,1,1,0],.c [1,1,1,1]] [(3,.slice Av_out3 nv_out3 cv_out3)] H (chv_out3::F):=by
 intro H v_out3 Av_out3 nv_out3 cv_out3 chv_out3 hov_out3 hnv_out3 heq
 subst hnv_out3
 unfold smithyardref7_CopyEvents.e1 at heq
 refine Sa 0<|Zd 2 ?_
 obtain rfl:=Option.some.inj heq
 exact RunH.done (by kernel_rfl) Tryz.func5 (v:=.slice Av_out3 v_out3.length cv_out3) (by kernel_rfl) ⟨Av_out3,cv_out3,chv_out3,rfl,rfl,hov_out3⟩
theorem smithyardref7_CopyEvents.l2_c {r:(List CacheEvent)} (e1:(List CacheEvent)→Option (List CacheEvent))
  (he1:∀ (H:Hp) (v_out3:List CacheEvent) (Av_out3:Option Addr) (nv_out3 cv_out3:Nat) (chv_out3:Ch) ,SlOwn kCacheEvent 28 H Av_out3 cv_out3 v_out3 chv_out3→nv_out3=v_out3.length→e1 v_out3=some r→RunH C5 (S5 F H0 r) H0 w0 [.c [1,1,1,0],.c [1,1,1,1]] [(3,.slice Av_out3 nv_out3 cv_out3)] H (chv_out3::F)):∀ (k:Nat),∀ (H:Hp) (a0:List CacheEvent) (Aa0:Option Addr) (ca0:Nat) (v_out3:List CacheEvent) (Av_out3:Option Addr) (nv_out3 cv_out3:Nat) (chv_out3:Ch) (v_i4:Int) ,Rw kCacheEvent H F Aa0 a0→a0.length≤ca0→SlOwn kCacheEvent 28 H Av_out3 cv_out3 v_out3 chv_out3→nv_out3=v_out3.length→smithyardref7_CopyEvents.l2 e1 k a0 v_out3 v_i4=some r→RunH C5 (S5 F H0 r) H0 w0 [.c [1,1,0,1,0,0],.l [1,1,0,1,0,0],.b 0,.c [1,1,1]] [(0,.slice Aa0 a0.length ca0),(3,.slice Av_out3 nv_out3 cv_out3),(4,iv v_i4)] H (chv_out3::F):=by
 intro k
 induction k with
 | zero=>intro H a0 Aa0 ca0 v_out3 Av_out3 nv_out3 cv_out3 chv_out3 v_i4 hra0 hca0 hov_out3 hnv_out3 heq; exact nomatch (show (none:Option (List CacheEvent))=some r from heq)
 | succ k ihk =>
  intro H a0 Aa0 ca0 v_out3 Av_out3 nv_out3 cv_out3 chv_out3 v_i4 hra0 hca0 hov_out3 hnv_out3 heq
  subst hnv_out3
  rw [smithyardref7_CopyEvents.l2] at heq
  refine Sa 2<|Zd 4 ?_
  refine Cb heq ?_ ?_
  ·intro hb1 heq
   refine Sa 4 ?_
   obtain ⟨x1,hx1,heq⟩:=bind_some heq
   obtain ⟨ha1,cs1,hK1,hcc1⟩:=hra0.get hx1
   obtain ⟨A1,c1,rfl,hc1,hr1⟩:=kCacheEvent_open hK1
   refine Zv 4 ([nx ha1 hx1]++ers hcc1 1) ?_
   refine RgH.does (DoesH.new (d:=5) (v:=fun g=>.pointer (some ⟨g,0,none⟩)) (o:=fun g=>.cells #[iv 0,iv 0,.string ByteArray.empty,.slice none 0 0,.string ByteArray.empty,iv 0] 28 (0,0)) (fun g=>by kernel_rfl)) ?_
   rintro _ _ _ _ ⟨g1,rfl,rfl,rfl⟩
   refine RgH.does (DoesH.store (k:=0) (g:=g1) (off:=0) (v:=.agg #[iv x1.Kind,iv x1.At,.string x1.Digest,.slice A1 x1.Digests.length c1,.string x1.Key,iv x1.Size]) (cells':=#[iv x1.Kind,iv x1.At,.string x1.Digest,.slice A1 x1.Digests.length c1,.string x1.Key,iv x1.Size]) (by kernel_rfl) rfl (by kernel_rfl) (by kernel_rfl)) ?_
   rintro _ _ _ _ ⟨rfl,rfl,rfl⟩
   refine RgH.nrm ?_
   refine Dn<|Sa 1<|Zv 2 [bx 0 3] ?_
   obtain ⟨y1,hy1,heq⟩:=bind_some heq
   refine RgH.does (cal 18 (slices_Clone_string_c (a0:=x1.Digests) (Rw.of hr1) hc1 rfl hy1)) ?_
   rintro _ _ _ _ ⟨_,rfl,A2,c2,ch1,rfl,rfl,rfl,ho1⟩
   refine Zk 4 ?_
   refine RgH.does (DoesH.store (k:=1) (g:=g1) (off:=3) (v:=.slice A2 y1.length c2) (cells':=#[iv x1.Kind,iv x1.At,.string x1.Digest,.slice A2 y1.length c2,.string x1.Key,iv x1.Size]) (by kernel_rfl) rfl (by kernel_rfl) (by kernel_rfl)) ?_
   rintro _ _ _ _ ⟨rfl,rfl,rfl⟩
   refine RgH.nrm ?_
   refine Dn<|Sa 0<|Zv 2 (bxs 1) ?_
   have hc2:=ho1.cap
   refine Hs.freezeS ho1 (fun H hl hr2=>?_)
   replace hra0:=hra0.mono hl
   replace hov_out3:=hov_out3.mono hl
   refine RgH.does (DoesH.new (d:=22) (v:=fun g=>.slice (some ⟨g,0,none⟩) 1 1) (o:=fun g=>.cells #[iv x1.Kind,iv x1.At,.string x1.Digest,.slice A2 y1.length c2,.string x1.Key,iv x1.Size] 28 (0,0)) (fun g=>by kernel_rfl)) ?_
   rintro _ _ _ _ ⟨g2,rfl,rfl,rfl⟩
   have ho2:SlOwn kCacheEvent 28 H (some ⟨g2,0,none⟩) 1 ([(⟨x1.Kind,x1.At,x1.Digest,y1,x1.Key,x1.Size⟩:CacheEvent)]:List CacheEvent) (some (g2,.cells #[iv x1.Kind,iv x1.At,.string x1.Digest,.slice A2 y1.length c2,.string x1.Key,iv x1.Size] 28 (0,0))):=SlOwn.lit (xs:=([(⟨x1.Kind,x1.At,x1.Digest,y1,x1.Key,x1.Size⟩:CacheEvent)]:List CacheEvent)) (by kernel_rfl) (Nat.le_of_ble_eq_true (by kernel_rfl)) (Kd.Rep.one (kCacheEvent_mk hc2 hr2))
   obtain ⟨hn1,heq⟩:=guard?_some heq
   refine RgH.does (DoesH.append (d:=23) (k:=2) (t:=30) (e:=28) (bytes:=80) (kd:=kCacheEvent) (n:=v_out3.length) (m:=1) (xs:=v_out3) (ys:=([(⟨x1.Kind,x1.At,x1.Digest,y1,x1.Key,x1.Size⟩:CacheEvent)]:List CacheEvent)) (A:=Av_out3) (B:=(some ⟨g2,0,none⟩)) (c:=cv_out3) (cB:=1) (by kernel_rfl) rfl rfl (by kernel_rfl) rfl hov_out3 (fun w hh=>ho2.rdb (hh.chin 0 rfl)) (room_le hn1) (by have:=room_le hn1; omega)) ?_
   rintro _ _ _ _ ⟨A3,c3,ch2,rfl,rfl,rfl,ho3⟩
   refine RgH.nrm ?_
   refine Zd 5<|Sa 1<|Zd 3<|An 1 ?_
   exact Gt 2 [] (ihk _ a0 _ _ (v_out3++([(⟨x1.Kind,x1.At,x1.Digest,y1,x1.Key,x1.Size⟩:CacheEvent)]:List CacheEvent)) _ _ _ _ (w64 (v_i4+1)) hra0 hca0 ho3 rfl heq)
  ·intro hb1 heq
   refine An 2 ?_
   exact Gt 0 [] (he1 _ v_out3 _ _ _ _ hov_out3 rfl heq)
theorem smithyardref7_CopyEvents_c {a0:List CacheEvent} {Aa0:Option Addr} {na0 ca0:Nat} {r:(List CacheEvent)} (heq:smithyardref7_CopyEvents.f a0=some r) (hra0:Rw kCacheEvent H0 F Aa0 a0) (hca0:na0≤ca0) (hna0:na0=a0.length):CallsH Tryz.prog 5 #[.slice Aa0 na0 ca0] H0 w0 (F) (S5 F H0 r):=by
 refine Co C5 Tryz.func5 Tryz.ntmps5 ?_
 subst hna0
 unfold smithyardref7_CopyEvents.f at heq
 suffices key:∀ (H:Hp),Rw kCacheEvent H F Aa0 a0→RunH C5 (S5 F H0 r) H0 w0 [.c []] (argL 0 [.slice Aa0 (a0.length) ca0]) H (F) from key H0 hra0
 intro H hra0
 refine Sa 1<|Zd 1<|Sa 1<|Zd 1<|Sa 2<|Zd 1<|An 2<|RunH.nilc ?_
 have ho4:SlOwn kCacheEvent 28 H none 0 ([]:List CacheEvent) none:=SlOwn.nil
 exact Gt 0 [] (((smithyardref7_CopyEvents.l2_c (e1:=smithyardref7_CopyEvents.e1) (smithyardref7_CopyEvents.e1_c)) big) _ a0 _ _ ([]:List CacheEvent) _ _ _ _ 0 hra0 hca0 ho4 rfl heq)
noncomputable def C22:Ctx:={ P:=Tryz.prog,f:=22,N:=15,c:=bodyOf Tryz.f22 }
def S22 (F:List Ch) (H0:Hp) (r:Bool) (v:Value) (H:Hp) (cs:List Ch):Prop:=H0=H∧v=.bool r∧F=cs
theorem cache_within_c {a0 a1 a2:Int} {r:Bool} (heq:cache_within.f a0 a1 a2=some r):CallsH Tryz.prog 22 #[iv a0,iv a1,iv a2] H w0 (F) (S22 F H r):=by
 refine Co C22 Tryz.func22 Tryz.ntmps22 ?_
 unfold cache_within.f at heq
 refine Sa 1<|Zd 1<|An 1 ?_
 obtain ⟨t1,ht1,heq⟩:=bind_some heq
 have K1:RunH C22 (S22 F H r) H w0 [.c [1,1]] [(6,.bool t1)] H (F):=by
  obtain rfl:=Option.some.inj heq
  exact RunH.done (by kernel_rfl) Tryz.func22 (v:=.bool t1) (by kernel_rfl) ⟨rfl,rfl,rfl⟩
 replace heq:=ht1
 refine Sa 0<|Zk 4 ?_
 rcases bool_cases (decide (a1≤a0)) with hb1 | hb1
 ·replace heq:=bif_true hb1 heq
  refine Zs 10 (congrArg Value.bool hb1)<|Zk 9 ?_
  obtain rfl:=Option.some.inj heq
  refine Dn ?_
  exact Gt 0 [] (K1)
 ·replace heq:=bif_false hb1 heq
  refine Zs 10 (congrArg Value.bool hb1)<|Zk 9 ?_
  obtain rfl:=Option.some.inj heq
  refine Dn ?_
  exact Gt 0 [] (K1)
def S49 (F:List Ch) (H0:Hp) (r:ByteArray) (v:Value) (H:Hp) (cs:List Ch):Prop:=H0=H∧v=.string r∧F=cs
theorem strings_Trim_c {a0:ByteArray} {a1:ByteArray} {r:ByteArray} (heq:strings_Trim.f a0 a1=some r):CallsH Tryz.prog 49 #[.string a0,.string a1] H w0 F (S49 F H r):=by
 intro w hh
 unfold strings_Trim.f at heq
 obtain ⟨hn,heq⟩:=guard?_some heq
 obtain rfl:=Option.some.inj heq
 refine (Shelf.Tryz.strings_Trim a0 a1 w (by simp at hn; exact hn.1) (by simp at hn; exact hn.2.1) (by have h:=hn; rw [Bool.and_eq_true,Bool.and_eq_true] at h; exact ascii_of_all h.2.2)).mono ?_
 rintro e w' ⟨rfl,hx⟩
 exact ⟨_,rfl,H,F,Le.refl H,hh.later hx,rfl,rfl,rfl⟩
noncomputable def C24:Ctx:={ P:=Tryz.prog,f:=24,N:=11,c:=bodyOf Tryz.f24 }
def S24 (F:List Ch) (H0:Hp) (r:Bool) (v:Value) (H:Hp) (cs:List Ch):Prop:=H0=H∧v=.bool r∧F=cs
theorem blob_IsDigest_c {a0:ByteArray} {r:Bool} (heq:blob_IsDigest.f a0=some r):CallsH Tryz.prog 24 #[.string a0] H w0 (F) (S24 F H r):=by
 refine Co C24 Tryz.func24 Tryz.ntmps24 ?_
 unfold blob_IsDigest.f at heq
 refine Sa 1<|Zd 1<|An 1 ?_
 obtain ⟨t1,ht1,heq⟩:=bind_some heq
 have K1:RunH C24 (S24 F H r) H w0 [.c [1,1]] [(2,.bool t1)] H (F):=by
  obtain rfl:=Option.some.inj heq
  exact RunH.done (by kernel_rfl) Tryz.func24 (v:=.bool t1) (by kernel_rfl) ⟨rfl,rfl,rfl⟩
 replace heq:=ht1
 refine Sa 0<|Zk 4 ?_
 rcases bool_cases ((a0.size:Int) == 16) with hb1 | hb1
 ·replace heq:=bif_true hb1 heq
  refine Zs 6 (congrArg Value.bool hb1)<|Zk 5 ?_
  obtain ⟨y1,hy1,heq⟩:=bind_some heq
  refine RgH.does (cal 8 (strings_Trim_c (a0:=a0) (a1:=({ data:=#[48,49,50,51,52,53,54,55,56,57,97,98,99,100,101,102] }:ByteArray))  hy1)) ?_
  rintro _ _ _ _ ⟨_,rfl,rfl,rfl,rfl⟩
  refine Zk 9 ?_
  obtain rfl:=Option.some.inj heq
  refine Dn ?_
  exact Gt 0 [] (K1)
 ·replace heq:=bif_false hb1 heq
  refine Zs 6 (congrArg Value.bool hb1)<|Zk 9 ?_
  obtain rfl:=Option.some.inj heq
  refine Dn ?_
  exact Gt 0 [] (K1)
noncomputable def C26:Ctx:={ P:=Tryz.prog,f:=26,N:=5,c:=bodyOf Tryz.f26 }
def S26 (F:List Ch) (H0:Hp) (r:Bool) (v:Value) (H:Hp) (cs:List Ch):Prop:=H0=H∧v=.bool r∧F=cs
theorem cache_isMoment_c {a0:Int} {r:Bool} (heq:cache_isMoment.f a0=some r):CallsH Tryz.prog 26 #[iv a0] H w0 (F) (S26 F H r):=by
 refine Co C26 Tryz.func26 Tryz.ntmps26 ?_
 unfold cache_isMoment.f at heq
 refine Sa 1<|Zd 1<|Sa 1<|Zk 1 ?_
 obtain ⟨y1,hy1,heq⟩:=bind_some heq
 refine RgH.does (cal 4 (cache_within_c hy1 )) ?_
 rintro _ _ _ _ ⟨_,rfl,rfl,rfl,rfl⟩
 refine Zd 3 ?_
 obtain rfl:=Option.some.inj heq
 exact RunH.done (by kernel_rfl) Tryz.func26 (v:=.bool y1) (by kernel_rfl) ⟨rfl,rfl,rfl⟩
noncomputable def C23:Ctx:={ P:=Tryz.prog,f:=23,N:=68,c:=bodyOf Tryz.f23 }
def S23 (F:List Ch) (H0:Hp) (r:Int) (v:Value) (H:Hp) (cs:List Ch):Prop:=H0=H∧v=iv r∧F=cs
theorem cache_checkBlobs.e1_c {r:Int}:∀ (a1 v_sum5:Int) ,cache_checkBlobs.e1 a1 v_sum5=some r→RunH C23 (S23 F H r) H w0 [.c [1,1,1,1,0,0],.c [1,1,1,1,0,1],.c [1,1,1,1,1]] [(1,iv a1),(5,iv v_sum5)] H (F):=by
 intro a1 v_sum5  heq
 unfold cache_checkBlobs.e1 at heq
 refine Sa 0<|Zd 3 ?_
 refine Cb heq ?_ ?_
 ·intro hb2 heq
  refine Sa 1<|Zd 1 ?_
  obtain rfl:=Option.some.inj heq
  exact RunH.done (by kernel_rfl) Tryz.func23 (v:=iv 16) (by kernel_rfl) ⟨rfl,rfl,rfl⟩
 ·intro hb2 heq
  refine Sa 2<|Zd 1 ?_
  obtain rfl:=Option.some.inj heq
  exact RunH.done (by kernel_rfl) Tryz.func23 (v:=iv 0) (by kernel_rfl) ⟨rfl,rfl,rfl⟩
theorem cache_checkBlobs.l2_c {r:Int} (e1:Int→Int→Option Int)
  (he1:∀ (a1 v_sum5:Int) ,e1 a1 v_sum5=some r→RunH C23 (S23 F H r) H w0 [.c [1,1,1,1,0,0],.c [1,1,1,1,0,1],.c [1,1,1,1,1]] [(1,iv a1),(5,iv v_sum5)] H (F)):∀ (k:Nat),∀ (a0:List Blob) (Aa0:Option Addr) (ca0:Nat) (a1 v_sum5 v13:Int) ,Rw kBlob H F Aa0 a0→a0.length≤ca0→cache_checkBlobs.l2 e1 k a0 a1 v_sum5 v13=some r→RunH C23 (S23 F H r) H w0 [.c [1,1,1,0,1,0,0],.l [1,1,1,0,1,0,0],.b 0,.c [1,1,1,1]] [(0,.slice Aa0 a0.length ca0),(1,iv a1),(5,iv v_sum5),(11,.slice Aa0 a0.length ca0),(12,iv (a0.length:Int)),(13,iv v13)] H (F):=by
 intro k
 induction k with
 | zero=>intro a0 Aa0 ca0 a1 v_sum5 v13 hra0 hca0 heq; exact nomatch (show (none:Option Int)=some r from heq)
 | succ k ihk =>
  intro a0 Aa0 ca0 a1 v_sum5 v13 hra0 hca0 heq
  rw [cache_checkBlobs.l2] at heq
  refine Sa 1<|Zd 1<|An 1 ?_
  refine Cb heq ?_ ?_
  ·intro hb3 heq
   refine Sa 4 ?_
   obtain ⟨x1,hx1,heq⟩:=bind_some heq
   obtain ⟨ha1,cs1,hK1,hcc1⟩:=hra0.get hx1
   obtain ⟨rfl⟩:=kBlob_open hK1
   refine Zv 3 ([nx ha1 hx1]++ers hcc1 0) ?_
   refine RgH.does (DoesH.new (d:=7) (v:=fun g=>.pointer (some ⟨g,0,none⟩)) (o:=fun g=>.cells #[.string ByteArray.empty,iv 0,iv 0,iv 0,iv 0] 45 (0,0)) (fun g=>by kernel_rfl)) ?_
   rintro _ _ _ _ ⟨g1,rfl,rfl,rfl⟩
   refine Zk 5 ?_
   refine RgH.does (DoesH.store (k:=0) (g:=g1) (off:=0) (v:=.agg #[.string x1.Digest,iv x1.Size,iv x1.Used,iv x1.Until,iv x1.Pins]) (cells':=#[.string x1.Digest,iv x1.Size,iv x1.Used,iv x1.Until,iv x1.Pins]) (by kernel_rfl) rfl (by kernel_rfl) (by kernel_rfl)) ?_
   rintro _ _ _ _ ⟨rfl,rfl,rfl⟩
   refine RgH.nrm ?_
   refine Dn<|Sa 3<|Zv 2 [bx 0 0] ?_
   obtain ⟨y1,hy1,heq⟩:=bind_some heq
   refine RgH.does (cal 21 (blob_IsDigest_c hy1 )) ?_
   rintro _ _ _ _ ⟨_,rfl,rfl,rfl,rfl⟩
   refine Zd 5 ?_
   refine Cb heq ?_ ?_
   ·intro hb4 heq
    refine Sa 1<|Zd 1 ?_
    obtain rfl:=Option.some.inj heq
    refine Up 1 [] ?_
    exact RunH.done (by kernel_rfl) Tryz.func23 (v:=iv 3) (by kernel_rfl) ⟨rfl,rfl,rfl⟩
   ·intro hb4 heq
    refine An 1 ?_
    obtain ⟨t1,ht1,heq⟩:=bind_some heq
    have K2:RunH C23 (S23 F H r) H w0 [.c [1,1,1,0,1,0,0,1,1,0,0,1,0,0,1,1,1],.b 2,.c [1,1,1,0,1,0,0,1,1,0,0,1,1],.b 1,.c [1,1,1,0,1,0,0,1,1,1],.l [1,1,1,0,1,0,0],.b 0,.c [1,1,1,1]] [(0,.slice Aa0 a0.length ca0),(1,iv a1),(5,iv v_sum5),(6,iv v13),(7,pg g1 0),(11,.slice Aa0 a0.length ca0),(12,iv (a0.length:Int)),(13,iv v13),(23,.bool t1)] H ((some (g1,.cells #[.string x1.Digest,iv x1.Size,iv x1.Used,iv x1.Until,iv x1.Pins] 45 (0,0)))::F):=by
     refine Cb heq ?_ ?_
     ·intro hb8 heq
      refine Sa 1<|Zd 1 ?_
      obtain rfl:=Option.some.inj heq
      refine Up 1 [] ?_
      exact RunH.done (by kernel_rfl) Tryz.func23 (v:=iv 1) (by kernel_rfl) ⟨rfl,rfl,rfl⟩
     ·intro hb8 heq
      refine An 1 ?_
      obtain ⟨t2,ht2,heq⟩:=bind_some heq
      have K3:RunH C23 (S23 F H r) H w0 [.c [1,1,1,0,1,0,0,1,1,0,0,1,0,0,1,1,1,1,1],.b 2,.c [1,1,1,0,1,0,0,1,1,0,0,1,1],.b 1,.c [1,1,1,0,1,0,0,1,1,1],.l [1,1,1,0,1,0,0],.b 0,.c [1,1,1,1]] [(0,.slice Aa0 a0.length ca0),(1,iv a1),(5,iv v_sum5),(7,pg g1 0),(11,.slice Aa0 a0.length ca0),(12,iv (a0.length:Int)),(13,iv v13),(46,.bool t2)] H ((some (g1,.cells #[.string x1.Digest,iv x1.Size,iv x1.Used,iv x1.Until,iv x1.Pins] 45 (0,0)))::F):=by
       refine Cb heq ?_ ?_
       ·intro hb10 heq
        refine Sa 1<|Zd 1 ?_
        obtain rfl:=Option.some.inj heq
        refine Up 1 [] ?_
        exact RunH.done (by kernel_rfl) Tryz.func23 (v:=iv 8) (by kernel_rfl) ⟨rfl,rfl,rfl⟩
       ·intro hb10 heq
        refine Sa 2<|Zw 5 [bx 0 1]<|Sa 1<|Zd 2<|An 1 ?_
        exact Gt 1 [] (ihk a0 _ _ a1 (w64 (v_sum5+x1.Size)) (w64 (v13+1)) hra0 hca0 heq)
      replace heq:=ht2
      refine Sd 0 14 [] [3,3,3,3,3,3,3,3,3,3,3,3,3,3]<|Zr [0,1,2] 11 [] (Pk 1 [0]) (Pk 1 [0]) ?_
      rcases bool_cases (decide (0<v13)) with hb9 | hb9
      ·replace heq:=bif_true hb9 heq
       refine Zu 49 (congrArg Value.bool hb9) ?_
       obtain ⟨x2,hx2,heq⟩:=bind_some heq
       obtain ⟨ha2,cs2,hK2,hcc2⟩:=hra0.get hx2
       obtain ⟨rfl⟩:=kBlob_open hK2
       refine Zr [3,4,5,6,7,8,9,10,11,12,13] 0 [bx 0 0,nx ha2 hx2,er hcc2 1 0] (Pk 1 [0]) (Pk 1 [0]) ?_
       obtain rfl:=Option.some.inj heq
       refine DrH.done (by kernel_rfl) ?_
       exact Gt 0 [] (K3)
      ·replace heq:=bif_false hb9 heq
       refine Zu 49 (congrArg Value.bool hb9)<|Zr [3,4,5,6,7,8,9,10,11,12,13] 0 [] (Pk 1 [0]) (Pk 1 [0]) ?_
       obtain rfl:=Option.some.inj heq
       refine DrH.done (by kernel_rfl) ?_
       exact Gt 0 [] (K3)
    replace heq:=ht1
    refine Sa 0<|Zv 2 [bx 0 1] ?_
    obtain ⟨y2,hy2,heq⟩:=bind_some heq
    refine RgH.does (cal 26 (cache_within_c hy2 )) ?_
    rintro _ _ _ _ ⟨_,rfl,rfl,rfl,rfl⟩
    refine Zk 5 ?_
    rcases bool_cases (!y2) with hb5 | hb5
    ·replace heq:=bif_true hb5 heq
     refine Zs 28 (congrArg Value.bool hb5)<|Zk 23 ?_
     obtain rfl:=Option.some.inj heq
     refine Dn ?_
     exact Gt 0 [] (K2)
    ·replace heq:=bif_false hb5 heq
     refine Zs 28 (congrArg Value.bool hb5)<|Zv 7 [bx 0 2] ?_
     obtain ⟨y3,hy3,heq⟩:=bind_some heq
     refine RgH.does (cal 31 (cache_isMoment_c hy3 )) ?_
     rintro _ _ _ _ ⟨_,rfl,rfl,rfl,rfl⟩
     refine Zk 11 ?_
     rcases bool_cases (!y3) with hb6 | hb6
     ·replace heq:=bif_true hb6 heq
      refine Zs 34 (congrArg Value.bool hb6)<|Zk 23 ?_
      obtain rfl:=Option.some.inj heq
      refine Dn ?_
      exact Gt 0 [] (K2)
     ·replace heq:=bif_false hb6 heq
      refine Zs 34 (congrArg Value.bool hb6)<|Zv 13 [bx 0 3] ?_
      obtain ⟨y4,hy4,heq⟩:=bind_some heq
      refine RgH.does (cal 37 (cache_within_c hy4 )) ?_
      rintro _ _ _ _ ⟨_,rfl,rfl,rfl,rfl⟩
      refine Zk 17 ?_
      rcases bool_cases (!y4) with hb7 | hb7
      ·replace heq:=bif_true hb7 heq
       refine Zs 40 (congrArg Value.bool hb7)<|Zk 23 ?_
       obtain rfl:=Option.some.inj heq
       refine Dn ?_
       exact Gt 0 [] (K2)
      ·replace heq:=bif_false hb7 heq
       refine Zs 40 (congrArg Value.bool hb7)<|Zv 19 [bx 0 4] ?_
       obtain ⟨y5,hy5,heq⟩:=bind_some heq
       refine RgH.does (cal 43 (cache_within_c hy5 )) ?_
       rintro _ _ _ _ ⟨_,rfl,rfl,rfl,rfl⟩
       refine Zk 23 ?_
       obtain rfl:=Option.some.inj heq
       refine Dn ?_
       exact Gt 0 [] (K2)
  ·intro hb3 heq
   refine An 3 ?_
   exact Gt 0 [] (he1 a1 v_sum5 heq)
theorem cache_checkBlobs_c {a0:List Blob} {Aa0:Option Addr} {na0 ca0:Nat} {a1:Int} {r:Int} (heq:cache_checkBlobs.f a0 a1=some r) (hra0:Rw kBlob H F Aa0 a0) (hca0:na0≤ca0) (hna0:na0=a0.length):CallsH Tryz.prog 23 #[.slice Aa0 na0 ca0,iv a1] H w0 (F) (S23 F H r):=by
 refine Co C23 Tryz.func23 Tryz.ntmps23 ?_
 subst hna0
 unfold cache_checkBlobs.f at heq
 refine Sa 1<|Zd 1<|Sa 2<|Zd 3 ?_
 refine Cb heq ?_ ?_
 ·intro hb1 heq
  refine Sa 1<|Zd 1 ?_
  obtain rfl:=Option.some.inj heq
  exact RunH.done (by kernel_rfl) Tryz.func23 (v:=iv 2) (by kernel_rfl) ⟨rfl,rfl,rfl⟩
 ·intro hb1 heq
  refine Sa 2<|Zd 1<|Sa 2<|Zd 3<|An 2 ?_
  exact Gt 0 [] (((cache_checkBlobs.l2_c (e1:=cache_checkBlobs.e1) (cache_checkBlobs.e1_c)) big) a0 _ _ a1 0 0 hra0 hca0 heq)
noncomputable def C25:Ctx:={ P:=Tryz.prog,f:=25,N:=33,c:=bodyOf Tryz.f25 }
def S25 (F:List Ch) (H0:Hp) (r:Int) (v:Value) (H:Hp) (cs:List Ch):Prop:=H0=H∧v=iv r∧F=cs
theorem cache_checkDigests.e1_c {r:Int}:cache_checkDigests.e1=some r→RunH C25 (S25 F H r) H w0 [.c [1,1,1,0],.c [1,1,1,1]] [] H (F):=by
 intro   heq
 unfold cache_checkDigests.e1 at heq
 refine Sa 0<|Zd 1 ?_
 obtain rfl:=Option.some.inj heq
 exact RunH.done (by kernel_rfl) Tryz.func25 (v:=iv 0) (by kernel_rfl) ⟨rfl,rfl,rfl⟩
theorem cache_checkDigests.l2_c {r:Int} (e1:Option Int)
  (he1:e1=some r→RunH C25 (S25 F H r) H w0 [.c [1,1,1,0],.c [1,1,1,1]] [] H (F)):∀ (k:Nat),∀ (a0:List ByteArray) (Aa0:Option Addr) (ca0:Nat) (v13:Int) ,Rw Kd.string H F Aa0 a0→a0.length≤ca0→cache_checkDigests.l2 e1 k a0 v13=some r→RunH C25 (S25 F H r) H w0 [.c [1,1,0,1,0,0],.l [1,1,0,1,0,0],.b 0,.c [1,1,1]] [(0,.slice Aa0 a0.length ca0),(11,.slice Aa0 a0.length ca0),(12,iv (a0.length:Int)),(13,iv v13)] H (F):=by
 intro k
 induction k with
 | zero=>intro a0 Aa0 ca0 v13 hra0 hca0 heq; exact nomatch (show (none:Option Int)=some r from heq)
 | succ k ihk =>
  intro a0 Aa0 ca0 v13 hra0 hca0 heq
  rw [cache_checkDigests.l2] at heq
  refine Sa 1<|Zd 1<|An 1 ?_
  refine Cb heq ?_ ?_
  ·intro hb2 heq
   refine Sa 4 ?_
   obtain ⟨x1,hx1,heq⟩:=bind_some heq
   obtain ⟨ha1,cs1,hK1,hcc1⟩:=hra0.get hx1
   obtain rfl:cs1=[.string x1]:=hK1
   refine Zw 5 [nx ha1 hx1,er hcc1 0 0]<|Sa 2<|Zk 1 ?_
   obtain ⟨y1,hy1,heq⟩:=bind_some heq
   refine RgH.does (cal 19 (blob_IsDigest_c hy1 )) ?_
   rintro _ _ _ _ ⟨_,rfl,rfl,rfl,rfl⟩
   refine Zd 3 ?_
   refine Cb heq ?_ ?_
   ·intro hb3 heq
    refine Sa 1<|Zd 1 ?_
    obtain rfl:=Option.some.inj heq
    exact RunH.done (by kernel_rfl) Tryz.func25 (v:=iv 3) (by kernel_rfl) ⟨rfl,rfl,rfl⟩
   ·intro hb3 heq
    refine An 2 ?_
    obtain ⟨t1,ht1,heq⟩:=bind_some heq
    have K1:RunH C25 (S25 F H r) H w0 [.c [1,1,0,1,0,0,1,1,0,0,1,1,1],.b 1,.c [1,1,0,1,0,0,1,1,1],.l [1,1,0,1,0,0],.b 0,.c [1,1,1]] [(0,.slice Aa0 a0.length ca0),(11,.slice Aa0 a0.length ca0),(12,iv (a0.length:Int)),(13,iv v13),(31,.bool t1)] H (F):=by
     refine Cb heq ?_ ?_
     ·intro hb5 heq
      refine Sa 1<|Zd 1 ?_
      obtain rfl:=Option.some.inj heq
      exact RunH.done (by kernel_rfl) Tryz.func25 (v:=iv 8) (by kernel_rfl) ⟨rfl,rfl,rfl⟩
     ·intro hb5 heq
      refine Sa 2<|Zd 2<|An 1 ?_
      exact Gt 0 [] (ihk a0 _ _ (w64 (v13+1)) hra0 hca0 heq)
    replace heq:=ht1
    refine Sa 0<|Zk 3 ?_
    rcases bool_cases (decide (0<v13)) with hb4 | hb4
    ·replace heq:=bif_true hb4 heq
     refine Zs 23 (congrArg Value.bool hb4) ?_
     obtain ⟨x2,hx2,heq⟩:=bind_some heq
     obtain ⟨ha2,cs2,hK2,hcc2⟩:=hra0.get hx2
     obtain rfl:cs2=[.string x2]:=hK2
     refine Zv 11 [nx ha2 hx2,er hcc2 0 0] ?_
     obtain rfl:=Option.some.inj heq
     refine Dn ?_
     exact Gt 0 [] (K1)
    ·replace heq:=bif_false hb4 heq
     refine Zs 23 (congrArg Value.bool hb4)<|Zk 11 ?_
     obtain rfl:=Option.some.inj heq
     refine Dn ?_
     exact Gt 0 [] (K1)
  ·intro hb2 heq
   refine An 2 ?_
   exact Gt 0 [] (he1 heq)
theorem cache_checkDigests_c {a0:List ByteArray} {Aa0:Option Addr} {na0 ca0:Nat} {a1:Int} {r:Int} (heq:cache_checkDigests.f a0 a1=some r) (hra0:Rw Kd.string H F Aa0 a0) (hca0:na0≤ca0) (hna0:na0=a0.length):CallsH Tryz.prog 25 #[.slice Aa0 na0 ca0,iv a1] H w0 (F) (S25 F H r):=by
 refine Co C25 Tryz.func25 Tryz.ntmps25 ?_
 subst hna0
 unfold cache_checkDigests.f at heq
 refine Sa 1<|Zd 1<|Sa 2<|Zd 4 ?_
 refine Cb heq ?_ ?_
 ·intro hb1 heq
  refine Sa 1<|Zd 1 ?_
  obtain rfl:=Option.some.inj heq
  exact RunH.done (by kernel_rfl) Tryz.func25 (v:=iv 2) (by kernel_rfl) ⟨rfl,rfl,rfl⟩
 ·intro hb1 heq
  refine Sa 3<|Zd 3<|An 2 ?_
  exact Gt 0 [] (((cache_checkDigests.l2_c (e1:=cache_checkDigests.e1) (cache_checkDigests.e1_c)) big) a0 _ _ 0 hra0 hca0 heq)
noncomputable def C14:Ctx:={ P:=Tryz.prog,f:=14,N:=66,c:=bodyOf Tryz.f14 }
def S14 (F:List Ch) (H0:Hp) (r:Int) (v:Value) (H:Hp) (cs:List Ch):Prop:=H0=H∧v=iv r∧F=cs
theorem cache_CheckCache.e1_c {r:Int}:cache_CheckCache.e1=some r→RunH C14 (S14 F H r) H w0 [.c [1,1,1,1,1,0],.c [1,1,1,1,1,1]] [] H (F):=by
 intro   heq
 unfold cache_CheckCache.e1 at heq
 refine Sa 0<|Zd 1 ?_
 obtain rfl:=Option.some.inj heq
 exact RunH.done (by kernel_rfl) Tryz.func14 (v:=iv 0) (by kernel_rfl) ⟨rfl,rfl,rfl⟩
theorem cache_CheckCache.l2_c {r:Int} (e1:Option Int)
  (he1:e1=some r→RunH C14 (S14 F H r) H w0 [.c [1,1,1,1,1,0],.c [1,1,1,1,1,1]] [] H (F)):∀ (k:Nat),∀ (a0:Cache) (Aa0_2:Option Addr) (ca0_2:Nat) (Aa0_3:Option Addr) (ca0_3 g1:Nat) (v32:Int) ,Rw kBlob H F Aa0_2 a0.Blobs→a0.Blobs.length≤ca0_2→Rw kEntry H F Aa0_3 a0.Entries→a0.Entries.length≤ca0_3→cache_CheckCache.l2 e1 k a0 v32=some r→RunH C14 (S14 F H r) H w0 [.c [1,1,1,1,0,1,0,0],.l [1,1,1,1,0,1,0,0],.b 0,.c [1,1,1,1,1]] [(1,pg g1 0),(30,.slice Aa0_3 a0.Entries.length ca0_3),(31,iv (a0.Entries.length:Int)),(32,iv v32)] H ((some (g1,.cells #[iv a0.Room,iv a0.Lease,.slice Aa0_2 a0.Blobs.length ca0_2,.slice Aa0_3 a0.Entries.length ca0_3] 25 (0,0)))::F):=by
 intro k
 induction k with
 | zero=>intro a0 Aa0_2 ca0_2 Aa0_3 ca0_3 g1 v32 hra0_2 hca0_2 hra0_3 hca0_3 heq; exact nomatch (show (none:Option Int)=some r from heq)
 | succ k ihk =>
  intro a0 Aa0_2 ca0_2 Aa0_3 ca0_3 g1 v32 hra0_2 hca0_2 hra0_3 hca0_3 heq
  rw [cache_CheckCache.l2] at heq
  refine Sa 1<|Zd 1<|An 1 ?_
  refine Cb heq ?_ ?_
  ·intro hb5 heq
   refine Sa 4 ?_
   obtain ⟨x1,hx1,heq⟩:=bind_some heq
   obtain ⟨ha1,cs1,hK1,hcc1⟩:=hra0_3.get hx1
   obtain ⟨A1,c1,rfl,hc1,hr1⟩:=kEntry_open hK1
   refine Zv 3 ([nx ha1 hx1]++ers hcc1 1) ?_
   refine RgH.does (DoesH.new (d:=5) (v:=fun g=>.pointer (some ⟨g,0,none⟩)) (o:=fun g=>.cells #[.string ByteArray.empty,.slice none 0 0,iv 0] 47 (0,0)) (fun g=>by kernel_rfl)) ?_
   rintro _ _ _ _ ⟨g2,rfl,rfl,rfl⟩
   refine Zk 5 ?_
   refine RgH.does (DoesH.store (k:=0) (g:=g2) (off:=0) (v:=.agg #[.string x1.Key,.slice A1 x1.Refs.length c1,iv x1.Used]) (cells':=#[.string x1.Key,.slice A1 x1.Refs.length c1,iv x1.Used]) (by kernel_rfl) rfl (by kernel_rfl) (by kernel_rfl)) ?_
   rintro _ _ _ _ ⟨rfl,rfl,rfl⟩
   refine RgH.nrm ?_
   refine Dn<|Sa 2<|Zv 2 [bx 0 0] ?_
   obtain ⟨y4,hy4,heq⟩:=bind_some heq
   refine RgH.does (cal 39 (blob_IsDigest_c hy4 )) ?_
   rintro _ _ _ _ ⟨_,rfl,rfl,rfl,rfl⟩
   refine Zd 4 ?_
   refine Cb heq ?_ ?_
   ·intro hb6 heq
    refine Sa 1<|Zd 1 ?_
    obtain rfl:=Option.some.inj heq
    refine Up 2 [] ?_
    exact RunH.done (by kernel_rfl) Tryz.func14 (v:=iv 3) (by kernel_rfl) ⟨rfl,rfl,rfl⟩
   ·intro hb6 heq
    refine Sa 3<|Zv 2 [bx 0 1] ?_
    obtain ⟨y5,hy5,heq⟩:=bind_some heq
    refine RgH.does (cal 43 (cache_checkDigests_c hy5 (Rw.of hr1) hc1 rfl)) ?_
    rintro _ _ _ _ ⟨_,rfl,rfl,rfl,rfl⟩
    refine Zd 4<|Sa 1<|Zd 2 ?_
    refine Cb heq ?_ ?_
    ·intro hb7 heq
     refine Sa 1<|Zd 2 ?_
     obtain rfl:=Option.some.inj heq
     refine Up 2 [] ?_
     exact RunH.done (by kernel_rfl) Tryz.func14 (v:=iv y5) (by kernel_rfl) ⟨rfl,rfl,rfl⟩
    ·intro hb7 heq
     refine Sa 3<|Zv 2 [bx 0 2] ?_
     obtain ⟨y6,hy6,heq⟩:=bind_some heq
     refine RgH.does (cal 49 (cache_isMoment_c hy6 )) ?_
     rintro _ _ _ _ ⟨_,rfl,rfl,rfl,rfl⟩
     refine Zd 4 ?_
     refine Cb heq ?_ ?_
     ·intro hb8 heq
      refine Sa 1<|Zd 1 ?_
      obtain rfl:=Option.some.inj heq
      refine Up 2 [] ?_
      exact RunH.done (by kernel_rfl) Tryz.func14 (v:=iv 1) (by kernel_rfl) ⟨rfl,rfl,rfl⟩
     ·intro hb8 heq
      refine An 2 ?_
      obtain ⟨t2,ht2,heq⟩:=bind_some heq
      have K4:RunH C14 (S14 F H r) H w0 [.c [1,1,1,1,0,1,0,0,1,1,0,0,1,1,1,1,1],.b 1,.c [1,1,1,1,0,1,0,0,1,1,1],.l [1,1,1,1,0,1,0,0],.b 0,.c [1,1,1,1,1]] [(1,pg g1 0),(30,.slice Aa0_3 a0.Entries.length ca0_3),(31,iv (a0.Entries.length:Int)),(32,iv v32),(64,.bool t2)] H ((some (g1,.cells #[iv a0.Room,iv a0.Lease,.slice Aa0_2 a0.Blobs.length ca0_2,.slice Aa0_3 a0.Entries.length ca0_3] 25 (0,0)))::F):=by
       refine Cb heq ?_ ?_
       ·intro hb10 heq
        refine Sa 1<|Zd 1 ?_
        obtain rfl:=Option.some.inj heq
        refine Up 1 [] ?_
        exact RunH.done (by kernel_rfl) Tryz.func14 (v:=iv 8) (by kernel_rfl) ⟨rfl,rfl,rfl⟩
       ·intro hb10 heq
        refine Sa 2<|Zd 2<|An 1 ?_
        exact Gt 0 [] (ihk a0 _ _ _ _ _ (w64 (v32+1)) hra0_2 hca0_2 hra0_3 hca0_3 heq)
      replace heq:=ht2
      refine Sd 0 14 [] [3,3,3,3,3,3,3,3,3,3,3,3,3,3]<|Zr [0,1,2] 11 [] (Pk 2 [0,1]) (Pk 2 [0,1]) ?_
      rcases bool_cases (decide (0<v32)) with hb9 | hb9
      ·replace heq:=bif_true hb9 heq
       refine Zu 53 (congrArg Value.bool hb9) ?_
       obtain ⟨x2,hx2,heq⟩:=bind_some heq
       obtain ⟨ha2,cs2,hK2,hcc2⟩:=hra0_3.get hx2
       obtain ⟨A2,c2,rfl,hc2,hr2⟩:=kEntry_open hK2
       refine Zr [3,4,5,6,7,8,9,10,11,12,13] 0 [bx 0 0,bx 1 3,nx ha2 hx2,er hcc2 2 0] (Pk 2 [0,1]) (Pk 2 [0,1]) ?_
       obtain rfl:=Option.some.inj heq
       refine DrH.done (by kernel_rfl) ?_
       exact Gt 1 [] (K4)
      ·replace heq:=bif_false hb9 heq
       refine Zu 53 (congrArg Value.bool hb9)<|Zr [3,4,5,6,7,8,9,10,11,12,13] 0 [] (Pk 2 [0,1]) (Pk 2 [0,1]) ?_
       obtain rfl:=Option.some.inj heq
       refine DrH.done (by kernel_rfl) ?_
       exact Gt 1 [] (K4)
  ·intro hb5 heq
   refine An 2 ?_
   exact Gt 1 [] (he1 heq)
theorem cache_CheckCache_c {a0:Cache} {Aa0_2:Option Addr} {na0_2 ca0_2:Nat} {Aa0_3:Option Addr} {na0_3 ca0_3:Nat} {r:Int} (heq:cache_CheckCache.f a0=some r) (hra0_2:Rw kBlob H F Aa0_2 a0.Blobs) (hca0_2:na0_2≤ca0_2) (hna0_2:na0_2=a0.Blobs.length) (hra0_3:Rw kEntry H F Aa0_3 a0.Entries) (hca0_3:na0_3≤ca0_3) (hna0_3:na0_3=a0.Entries.length):CallsH Tryz.prog 14 #[.agg #[iv a0.Room,iv a0.Lease,.slice Aa0_2 na0_2 ca0_2,.slice Aa0_3 na0_3 ca0_3]] H w0 (F) (S14 F H r):=by
 refine Co C14 Tryz.func14 Tryz.ntmps14 ?_
 subst hna0_2
 subst hna0_3
 unfold cache_CheckCache.f at heq
 refine Sa 1 ?_
 refine RgH.does (DoesH.new (d:=1) (v:=fun g=>.pointer (some ⟨g,0,none⟩)) (o:=fun g=>.cells #[iv a0.Room,iv a0.Lease,.slice Aa0_2 a0.Blobs.length ca0_2,.slice Aa0_3 a0.Entries.length ca0_3] 25 (0,0)) (fun g=>by kernel_rfl)) ?_
 rintro _ _ _ _ ⟨g1,rfl,rfl,rfl⟩
 refine Zd 2<|An 2 ?_
 obtain ⟨t1,ht1,heq⟩:=bind_some heq
 have K2:RunH C14 (S14 F H r) H w0 [.c [1,0,1],.c [1,1]] [(1,pg g1 0),(16,.bool t1)] H ((some (g1,.cells #[iv a0.Room,iv a0.Lease,.slice Aa0_2 a0.Blobs.length ca0_2,.slice Aa0_3 a0.Entries.length ca0_3] 25 (0,0)))::F):=by
  refine Cb heq ?_ ?_
  ·intro hb2 heq
   refine Sa 1<|Zd 1 ?_
   obtain rfl:=Option.some.inj heq
   refine Up 1 [] ?_
   exact RunH.done (by kernel_rfl) Tryz.func14 (v:=iv 1) (by kernel_rfl) ⟨rfl,rfl,rfl⟩
  ·intro hb2 heq
   refine Sa 3<|Zv 4 [bx 0 2,bx 0 0] ?_
   obtain ⟨y3,hy3,heq⟩:=bind_some heq
   refine RgH.does (cal 21 (cache_checkBlobs_c hy3 (hra0_2.wk (fun _ h=>(.tail _ h))) hca0_2 rfl)) ?_
   rintro _ _ _ _ ⟨_,rfl,rfl,rfl,rfl⟩
   refine Zd 6<|Sa 1<|Zd 2 ?_
   refine Cb heq ?_ ?_
   ·intro hb3 heq
    refine Sa 1<|Zd 2 ?_
    obtain rfl:=Option.some.inj heq
    refine Up 1 [] ?_
    exact RunH.done (by kernel_rfl) Tryz.func14 (v:=iv y3) (by kernel_rfl) ⟨rfl,rfl,rfl⟩
   ·intro hb3 heq
    refine Sa 3<|Zw 4 [bx 0 3] ?_
    refine Cb heq ?_ ?_
    ·intro hb4 heq
     refine Sa 1<|Zd 1 ?_
     obtain rfl:=Option.some.inj heq
     refine Up 1 [] ?_
     exact RunH.done (by kernel_rfl) Tryz.func14 (v:=iv 2) (by kernel_rfl) ⟨rfl,rfl,rfl⟩
    ·intro hb4 heq
     refine Sa 3<|Zw 4 [bx 0 3]<|An 2 ?_
     exact Gt 0 [] (((cache_CheckCache.l2_c (e1:=cache_CheckCache.e1) (cache_CheckCache.e1_c)) big) a0 _ _ _ _ _ 0 hra0_2 hca0_2 hra0_3 hca0_3 heq)
 replace heq:=ht1
 refine Sa 0<|Zv 2 [bx 0 0] ?_
 obtain ⟨y1,hy1,heq⟩:=bind_some heq
 refine RgH.does (cal 9 (cache_within_c hy1 )) ?_
 rintro _ _ _ _ ⟨_,rfl,rfl,rfl,rfl⟩
 refine Zk 5 ?_
 rcases bool_cases (!y1) with hb1 | hb1
 ·replace heq:=bif_true hb1 heq
  refine Zs 11 (congrArg Value.bool hb1)<|Zk 10 ?_
  obtain rfl:=Option.some.inj heq
  refine Dn ?_
  exact Gt 0 [] (K2)
 ·replace heq:=bif_false hb1 heq
  refine Zs 11 (congrArg Value.bool hb1)<|Zv 7 [bx 0 1] ?_
  obtain ⟨y2,hy2,heq⟩:=bind_some heq
  refine RgH.does (cal 14 (cache_within_c hy2 )) ?_
  rintro _ _ _ _ ⟨_,rfl,rfl,rfl,rfl⟩
  refine Zk 10 ?_
  obtain rfl:=Option.some.inj heq
  refine Dn ?_
  exact Gt 0 [] (K2)
noncomputable def C27:Ctx:={ P:=Tryz.prog,f:=27,N:=8,c:=bodyOf Tryz.f27 }
def S27 (F:List Ch) (H0:Hp) (r:List Entry) (v:Value) (H:Hp) (cs:List Ch):Prop:=∃ (A0:Option Addr) (c0:Nat) (ch0:Ch),H0=H∧v=.slice A0 r.length c0∧ch0::F=cs∧SlOwn kEntry 47 H A0 c0 r ch0
theorem slices_Clone_Entry_c {a0:List Entry} {Aa0:Option Addr} {na0 ca0:Nat} {r:List Entry} (hra0:Rw kEntry H F Aa0 a0) (hca0:na0≤ca0) (hna0:na0=a0.length) (heq:slices_Clone_Entry.f a0=some r):CallsH Tryz.prog 27 #[.slice Aa0 na0 ca0] H w0 F (S27 F H r):=by
 refine calls_of_runH (F:=C27) Tryz.func27 (by kernel_rfl) Tryz.ntmps27 (args:=[.slice Aa0 na0 ca0]) (by kernel_rfl) ?_
 subst hna0
 unfold slices_Clone_Entry.f at heq
 obtain ⟨hn,heq⟩:=guard?_some heq
 obtain rfl:=Option.some.inj heq
 refine Ra 1 [0] [.c [1]]<|Rd 1 [0] [(0,.slice Aa0 a0.length ca0)]<|Ra 2 [1,0,0] [.c [1,0,1],.c [1,1]] ?_
 cases Aa0 with
 | none =>
  have h0:a0=[]:=by
   cases a0 with
   | nil=>rfl
   | cons x xs=>obtain ⟨b,off,cs,e,fr,hA,_⟩:=hra0 (by simp); cases hA
  subst h0
  refine Rd 2 [4] [(4,.bool true)]<|Ct true rfl<|Ra 1 [1,0,1,0,0] [.c [1,0,1,0,1],.c [1,1]]<|Rd 1 [2] [(2,.slice none 0 0)]<|RunH.nilc ?_
  exact RunH.done (by kernel_rfl) Tryz.func27 (v:=.slice none ([]:List Entry).length 0) (by kernel_rfl) ⟨none,0,none,rfl,rfl,rfl,SlOwn.nil⟩
 | some ad =>
  refine Rd 2 [0,4] [(0,.slice (some ad) a0.length ca0),(4,.bool false)]<|Cf false rfl<|Ra 2 [1,1,0] [.c [1,1,1]] ?_
  refine RgH.does (DoesH.new (d:=5) (v:=fun g=>.slice (some ⟨g,0,none⟩) 0 0) (o:=fun g=>.cells #[] 47 (0,0)) (fun g=>by kernel_rfl)) ?_
  rintro _ _ _ _ ⟨g,rfl,rfl,rfl⟩
  have ho:SlOwn kEntry 47 H (some ⟨g,0,none⟩) 0 ([]:List Entry) (some (g,.cells #[] 47 (0,0))):=.inr ⟨g,0,#[],rfl,rfl,by simp,by simp [maxLen],by simp,Kd.Rep.nil⟩
  refine Rk 2 [5,6] [(5,.slice (some ⟨g,0,none⟩) 0 0),(6,.slice (some ad) a0.length ca0)] ?_
  refine RgH.does (DoesH.append (d:=7) (k:=0) (t:=23) (e:=47) (bytes:=48) (kd:=kEntry) (n:=0) (m:=a0.length) (xs:=([]:List Entry)) (ys:=a0) (A:=some ⟨g,0,none⟩) (B:=some ad) (c:=0) (cB:=ca0) (by kernel_rfl) rfl rfl (by kernel_rfl) rfl ho (fun w hh=>hra0.rdb (hh.drop 1)) (room_le hn) (by have:=room_le hn; omega)) ?_
  rintro _ _ _ _ ⟨A1,c1,ch1,rfl,rfl,rfl,ho1⟩
  refine Rd 4 [2] [(2,.slice A1 (([]:List Entry)++a0).length c1)] ?_
  exact RunH.done (by kernel_rfl) Tryz.func27 (v:=.slice A1 (([]:List Entry)++a0).length c1) (by kernel_rfl) ⟨A1,c1,ch1,rfl,rfl,rfl,ho1⟩
noncomputable def C15:Ctx:={ P:=Tryz.prog,f:=15,N:=32,c:=bodyOf Tryz.f15 }
def S15 (F:List Ch) (H0:Hp) (r:Cache) (v:Value) (H:Hp) (cs:List Ch):Prop:=∃ (A0_2:Option Addr) (c0_2:Nat) (ch0_2:Ch) (A0_3:Option Addr) (c0_3:Nat) (ch0_3:Ch),v=.agg #[iv r.Room,iv r.Lease,.slice A0_2 r.Blobs.length c0_2,.slice A0_3 r.Entries.length c0_3]∧ch0_2::ch0_3::F=cs∧SlOwn kBlob 45 H A0_2 c0_2 r.Blobs ch0_2∧SlOwn kEntry 47 H A0_3 c0_3 r.Entries ch0_3
theorem cache_own.e1_c {r:Cache}:∀ (H:Hp) (a0:Cache) (g1 g2:Nat) (y1:List Blob) (A1:Option Addr) (c1:Nat) (ch1:Ch) (v_c1_3:List Entry) (Av_c1_3:Option Addr) (nv_c1_3 cv_c1_3:Nat) (chv_c1_3:Ch) ,SlOwn kBlob 45 H A1 c1 y1 ch1→SlOwn kEntry 47 H Av_c1_3 cv_c1_3 v_c1_3 chv_c1_3→nv_c1_3=v_c1_3.length→cache_own.e1 a0 y1 v_c1_3=some r→RunH C15 (S15 F H0 r) H0 w0 [.c [1,1,1,0],.c [1,1,1,1]] [(1,pg g1 0),(2,pg g2 0)] H (chv_c1_3::ch1::(some (g2,.cells #[iv 0,iv 0,.slice none 0 0,.slice none 0 0] 25 (0,0)))::(some (g1,.cells #[iv a0.Room,iv a0.Lease,.slice A1 y1.length c1,.slice Av_c1_3 nv_c1_3 cv_c1_3] 25 (0,0)))::F):=by
 intro H a0 g1 g2 y1 A1 c1 ch1 v_c1_3 Av_c1_3 nv_c1_3 cv_c1_3 chv_c1_3 ho1 hov_c1_3 hnv_c1_3 heq
 subst hnv_c1_3
 unfold cache_own.e1 at heq
 refine Sa 0<|Zv 1 (bxs 3) ?_
 refine RgH.does (DoesH.store (k:=2) (g:=g2) (off:=0) (v:=.agg #[iv a0.Room,iv a0.Lease,.slice A1 y1.length c1,.slice Av_c1_3 v_c1_3.length cv_c1_3]) (cells':=#[iv a0.Room,iv a0.Lease,.slice A1 y1.length c1,.slice Av_c1_3 v_c1_3.length cv_c1_3]) (by kernel_rfl) rfl (by kernel_rfl) (by kernel_rfl)) ?_
 rintro _ _ _ _ ⟨rfl,rfl,rfl⟩
 refine RgH.nrm ?_
 refine Dn ?_
 obtain rfl:=Option.some.inj heq
 refine Up 4 [2,1,0] ?_
 exact RunH.doneM' 1 (vs:=[.agg #[iv a0.Room,iv a0.Lease,.slice A1 y1.length c1,.slice Av_c1_3 v_c1_3.length cv_c1_3]]) (v:=.agg #[iv a0.Room,iv a0.Lease,.slice A1 y1.length c1,.slice Av_c1_3 v_c1_3.length cv_c1_3]) (by kernel_rfl) Tryz.func15 (fun w hh=>show ResAll _ _ _ [.cell 2 25] _ from ⟨⟨⟨g2,0,none⟩,by kernel_rfl,trS_run _ (vs:=[iv a0.Room,iv a0.Lease,.slice A1 y1.length c1,.slice Av_c1_3 v_c1_3.length cv_c1_3]) (r:=[]) (es:=[.load ⟨g2,0,none⟩ (iv a0.Room),.load ⟨g2,1,none⟩ (iv a0.Lease),.load ⟨g2,2,none⟩ (.slice A1 y1.length c1),.load ⟨g2,3,none⟩ (.slice Av_c1_3 v_c1_3.length cv_c1_3)]) (by kernel_rfl) ⟨(hh.box 0 rfl rfl),(hh.box 0 rfl rfl),(hh.box 0 rfl rfl),(hh.box 0 rfl rfl)⟩⟩,trivial⟩) rfl (cs':=ch1::chv_c1_3::F) rfl ⟨A1,c1,ch1,Av_c1_3,cv_c1_3,chv_c1_3,rfl,rfl,ho1,hov_c1_3⟩
theorem cache_own.l2_c {r:Cache} (e1:Cache→(List Blob)→(List Entry)→Option Cache)
  (he1:∀ (H:Hp) (a0:Cache) (g1 g2:Nat) (y1:List Blob) (A1:Option Addr) (c1:Nat) (ch1:Ch) (v_c1_3:List Entry) (Av_c1_3:Option Addr) (nv_c1_3 cv_c1_3:Nat) (chv_c1_3:Ch) ,SlOwn kBlob 45 H A1 c1 y1 ch1→SlOwn kEntry 47 H Av_c1_3 cv_c1_3 v_c1_3 chv_c1_3→nv_c1_3=v_c1_3.length→e1 a0 y1 v_c1_3=some r→RunH C15 (S15 F H0 r) H0 w0 [.c [1,1,1,0],.c [1,1,1,1]] [(1,pg g1 0),(2,pg g2 0)] H (chv_c1_3::ch1::(some (g2,.cells #[iv 0,iv 0,.slice none 0 0,.slice none 0 0] 25 (0,0)))::(some (g1,.cells #[iv a0.Room,iv a0.Lease,.slice A1 y1.length c1,.slice Av_c1_3 nv_c1_3 cv_c1_3] 25 (0,0)))::F)):∀ (k:Nat),∀ (H:Hp) (a0:Cache) (g1 g2:Nat) (y1:List Blob) (A1:Option Addr) (c1:Nat) (ch1:Ch) (y2 v_c1_3:List Entry) (Av_c1_3:Option Addr) (nv_c1_3 cv_c1_3:Nat) (chv_c1_3:Ch) (v15:Int) ,SlOwn kBlob 45 H A1 c1 y1 ch1→SlOwn kEntry 47 H Av_c1_3 cv_c1_3 v_c1_3 chv_c1_3→nv_c1_3=v_c1_3.length→cache_own.l2 e1 k a0 y1 y2 v_c1_3 v15=some r→RunH C15 (S15 F H0 r) H0 w0 [.c [1,1,0,1,0,0],.l [1,1,0,1,0,0],.b 0,.c [1,1,1]] [(1,pg g1 0),(2,pg g2 0),(14,iv (y2.length:Int)),(15,iv v15)] H (chv_c1_3::ch1::(some (g2,.cells #[iv 0,iv 0,.slice none 0 0,.slice none 0 0] 25 (0,0)))::(some (g1,.cells #[iv a0.Room,iv a0.Lease,.slice A1 y1.length c1,.slice Av_c1_3 nv_c1_3 cv_c1_3] 25 (0,0)))::F):=by
 intro k
 induction k with
 | zero=>intro H a0 g1 g2 y1 A1 c1 ch1 y2 v_c1_3 Av_c1_3 nv_c1_3 cv_c1_3 chv_c1_3 v15 ho1 hov_c1_3 hnv_c1_3 heq; exact nomatch (show (none:Option Cache)=some r from heq)
 | succ k ihk =>
  intro H a0 g1 g2 y1 A1 c1 ch1 y2 v_c1_3 Av_c1_3 nv_c1_3 cv_c1_3 chv_c1_3 v15 ho1 hov_c1_3 hnv_c1_3 heq
  subst hnv_c1_3
  rw [cache_own.l2] at heq
  refine Sa 1<|Zd 1<|An 1 ?_
  refine Cb heq ?_ ?_
  ·intro hb1 heq
   refine Sa 4<|Zd 2<|Sd 0 13 [] [3,3,3,3,3,3,3,3,3,0,0,3,2] ?_
   obtain ⟨x1,hx1,heq⟩:=bind_some heq
   obtain ⟨ha1,cs1,hK1,hcc1⟩:=hov_c1_3.get hx1
   obtain ⟨A3,c3,rfl,hc1,hr1⟩:=kEntry_open hK1
   refine Zr [0,1,2,3,4,5,6,7,8] 4 [bx 3 3,bx 3 3,nx ha1 hx1,el hcc1 0 1] (Pk 4 [0,1,2,3]) (Pk 4 [0,1,2,3]) ?_
   obtain ⟨y3,hy3,heq⟩:=bind_some heq
   refine Dz 9 (cal 27 (slices_Clone_string_c (a0:=x1.Refs) (Rw.of hr1) hc1 rfl hy3)) ?_
   rintro _ _ _ _ ⟨_,rfl,A4,c4,ch3,rfl,rfl,rfl,ho3⟩
   refine ⟨fun _ w hh=>⟨fun _=>(Pk 5 [1,2,3,4]) w hh,fun _=>(Pk 5 [1,2,3,4]) w hh,(fun h=>by cases h)⟩,?_⟩
   obtain ⟨ha2,cs2,hK2,hcc2⟩:=hov_c1_3.get hx1
   obtain ⟨A5,c5,rfl,hc2,hr2⟩:=kEntry_open hK2
   refine Dz 10 (DoesH.pureop (d:=28) (v:=.pointer (some ((adr Av_c1_3).add (v15.toNat*3)))) (vs:=[]) (evs:=[.need (Av_c1_3=some (adr Av_c1_3)∧(0:Int)≤v15∧v15<((v_c1_3.length:Nat):Int))]) (by kernel_rfl) (fun w hh=>⟨ha2,(at?_some hx1).1,(at?_some hx1).2.1⟩)) ?_
   rintro _ _ _ _ ⟨rfl,rfl,rfl⟩
   refine ⟨fun _ w hh=>⟨fun _=>(Pk 5 [1,2,3,4]) w hh,fun _=>(Pk 5 [1,2,3,4]) w hh,(fun h=>by cases h)⟩,?_⟩
   refine Zr [11] 1 [] (Pk 5 [1,2,3,4]) (Pk 4 [0,1,2,3]) ?_
   have hc3:=ho3.cap
   refine DrH.freezeS ho3 (fun H hl hr3=>?_)
   have hle:=hl
   replace ho1:=ho1.mono hl
   replace hov_c1_3:=hov_c1_3.mono hl
   obtain ⟨ha3,cs3,hK3,hcc3⟩:=hov_c1_3.get hx1
   obtain ⟨A6,c6,rfl,hc4,hr4⟩:=kEntry_open hK3
   refine Dz 12 (DoesH.storeEl (a:=(((adr Av_c1_3).add (v15.toNat*3)).add 1)) (k:=0) (kd:=kEntry) (c0:=[.string x1.Key,.slice A6 x1.Refs.length c6,iv x1.Used]) (x':=(⟨x1.Key,y3,x1.Used⟩:Entry)) (o:=1) (ix:=v15) (v:=.slice A4 y3.length c4) (by kernel_rfl) rfl hov_c1_3 hx1 (by kernel_rfl) hcc3 rfl (Nat.le_of_ble_eq_true (by kernel_rfl)) (kEntry_mk hc3 hr3)) ?_
   rintro _ _ _ _ ⟨ch4,rfl,rfl,rfl,ho4⟩
   have hn1:v_c1_3.length=(v_c1_3.set v15.toNat (⟨x1.Key,y3,x1.Used⟩:Entry)).length:=by rw [List.length_set]
   refine ⟨fun _ w hh=>⟨(fun h=>by cases h),(fun h=>absurd h (by decide)),(fun h=>by cases h)⟩,?_⟩
   refine DrH.nrm ?_
   refine DrH.done (by kernel_rfl) ?_
   refine Sa 1<|Zd 2<|An 1 ?_
   exact Gt 0 [] (ihk _ a0 _ _ y1 _ _ _ y2 (v_c1_3.set v15.toNat (⟨x1.Key,y3,x1.Used⟩:Entry)) _ _ _ _ (w64 (v15+1)) ho1 ho4 hn1 heq)
  ·intro hb1 heq
   refine An 2 ?_
   exact Gt 0 [] (he1 _ a0 _ _ y1 _ _ _ v_c1_3 _ _ _ _ ho1 hov_c1_3 rfl heq)
theorem cache_own_c {a0:Cache} {Aa0_2:Option Addr} {na0_2 ca0_2:Nat} {Aa0_3:Option Addr} {na0_3 ca0_3:Nat} {r:Cache} (heq:cache_own.f a0=some r) (hra0_2:Rw kBlob H0 F Aa0_2 a0.Blobs) (hca0_2:na0_2≤ca0_2) (hna0_2:na0_2=a0.Blobs.length) (hra0_3:Rw kEntry H0 F Aa0_3 a0.Entries) (hca0_3:na0_3≤ca0_3) (hna0_3:na0_3=a0.Entries.length):CallsH Tryz.prog 15 #[.agg #[iv a0.Room,iv a0.Lease,.slice Aa0_2 na0_2 ca0_2,.slice Aa0_3 na0_3 ca0_3]] H0 w0 (F) (S15 F H0 r):=by
 refine Co C15 Tryz.func15 Tryz.ntmps15 ?_
 subst hna0_2
 subst hna0_3
 unfold cache_own.f at heq
 suffices key:∀ (H:Hp),Rw kBlob H F Aa0_2 a0.Blobs→Rw kEntry H F Aa0_3 a0.Entries→RunH C15 (S15 F H0 r) H0 w0 [.c []] (argL 0 [.agg #[iv a0.Room,iv a0.Lease,.slice Aa0_2 (a0.Blobs.length) ca0_2,.slice Aa0_3 (a0.Entries.length) ca0_3]]) H (F) from key H0 hra0_2 hra0_3
 intro H hra0_2 hra0_3
 refine Sa 1 ?_
 refine RgH.does (DoesH.new (d:=1) (v:=fun g=>.pointer (some ⟨g,0,none⟩)) (o:=fun g=>.cells #[iv a0.Room,iv a0.Lease,.slice Aa0_2 a0.Blobs.length ca0_2,.slice Aa0_3 a0.Entries.length ca0_3] 25 (0,0)) (fun g=>by kernel_rfl)) ?_
 rintro _ _ _ _ ⟨g1,rfl,rfl,rfl⟩
 refine RgH.does (DoesH.new (d:=2) (v:=fun g=>.pointer (some ⟨g,0,none⟩)) (o:=fun g=>.cells #[iv 0,iv 0,.slice none 0 0,.slice none 0 0] 25 (0,0)) (fun g=>by kernel_rfl)) ?_
 rintro _ _ _ _ ⟨g2,rfl,rfl,rfl⟩
 refine Dn<|An 1<|Sd 2 10 [0] [3,3,0,3,3,0,3,1,3,2]<|Zr [0,1,3,4] 6 [bx 1 2,bx 1 3] (Pk 2 [0,1]) (Pk 2 [0]) ?_
 obtain ⟨y1,hy1,heq⟩:=bind_some heq
 refine Dz 2 (cal 6 (slices_Clone_Blob_c (a0:=a0.Blobs) (hra0_2.wk (fun _ h=>(.tail _ (.tail _ h)))) hca0_2 rfl hy1)) ?_
 rintro _ _ _ _ ⟨_,rfl,A1,c1,ch1,rfl,rfl,rfl,ho1⟩
 refine ⟨fun _ w hh=>⟨fun _=>(Pk 3 [1,2]) w hh,fun _=>(Pk 3 [1]) w hh,(fun h=>by cases h)⟩,?_⟩
 refine Zr [6] 4 [] (Pk 3 [1,2]) (Pk 2 [0]) ?_
 obtain ⟨y2,hy2,heq⟩:=bind_some heq
 refine Dz 5 (cal 9 (slices_Clone_Entry_c (a0:=a0.Entries) (hra0_3.wk (fun _ h=>(.tail _ (.tail _ (.tail _ h))))) hca0_3 rfl hy2)) ?_
 rintro _ _ _ _ ⟨_,rfl,A2,c2,ch2,rfl,rfl,rfl,ho2⟩
 refine ⟨fun _ w hh=>⟨fun _=>(Pk 4 [2,3]) w hh,fun _=>(Pk 4 [2]) w hh,(fun h=>by cases h)⟩,?_⟩
 refine Dz 7 (DoesH.store (k:=3) (g:=g1) (off:=2) (v:=.slice A1 y1.length c1) (cells':=#[iv a0.Room,iv a0.Lease,.slice A1 y1.length c1,.slice Aa0_3 a0.Entries.length ca0_3]) (by kernel_rfl) rfl (by kernel_rfl) (by kernel_rfl)) ?_
 rintro _ _ _ _ ⟨rfl,rfl,rfl⟩
 refine ⟨fun _ w hh=>⟨(fun h=>by cases h),fun _=>(Pk 4 [2]) w hh,(fun h=>by cases h)⟩,?_⟩
 refine DrH.nrm ?_
 refine Zt [8] 1 [] (Pk 4 [2]) ?_
 refine Dz 9 (DoesH.store (k:=3) (g:=g1) (off:=3) (v:=.slice A2 y2.length c2) (cells':=#[iv a0.Room,iv a0.Lease,.slice A1 y1.length c1,.slice A2 y2.length c2]) (by kernel_rfl) rfl (by kernel_rfl) (by kernel_rfl)) ?_
 rintro _ _ _ _ ⟨rfl,rfl,rfl⟩
 refine ⟨fun _ w hh=>⟨(fun h=>by cases h),(fun h=>absurd h (by decide)),(fun h=>by cases h)⟩,?_⟩
 refine DrH.nrm ?_
 refine DrH.done (by kernel_rfl) ?_
 refine Sa 2<|Zw 4 [bx 3 3]<|An 2 ?_
 exact Gt 0 [] (((cache_own.l2_c (e1:=cache_own.e1) (cache_own.e1_c)) big) _ a0 _ _ y1 _ _ _ y2 y2 _ _ _ _ 0 ho1 ho2 rfl heq)
noncomputable def C50:Ctx:={ P:=Tryz.prog,f:=50,N:=15,c:=bodyOf Tryz.f50 }
def S50 (F:List Ch) (H0:Hp) (r:Bool × Bool × Bool × Bool) (v:Value) (H:Hp) (cs:List Ch):Prop:=H0=H∧v=.tuple #[.bool r.1,.bool r.2.1,.bool r.2.2.1,.bool r.2.2.2]∧F=cs
theorem cache_fields_c {a0:Int} {r:Bool × Bool × Bool × Bool} (heq:cache_fields.f a0=some r):CallsH Tryz.prog 50 #[iv a0] H w0 (F) (S50 F H r):=by
 refine Co C50 Tryz.func50 Tryz.ntmps50 ?_
 unfold cache_fields.f at heq
 refine Sa 1<|Zd 4<|Sa 2<|Zd 1<|Sa 2<|Zd 2 ?_
 refine Cb heq ?_ ?_
 ·intro hb1 heq
  refine Sa 1<|Zd 4 ?_
  obtain rfl:=Option.some.inj heq
  exact RunH.done (by kernel_rfl) Tryz.func50 (v:=.tuple #[.bool true,.bool false,.bool false,.bool true]) (by kernel_rfl) ⟨rfl,rfl,rfl⟩
 ·intro hb1 heq
  refine Sa 1<|Zd 2 ?_
  refine Cb heq ?_ ?_
  ·intro hb2 heq
   refine Sa 1<|Zd 4 ?_
   obtain rfl:=Option.some.inj heq
   exact RunH.done (by kernel_rfl) Tryz.func50 (v:=.tuple #[.bool false,.bool true,.bool false,.bool false]) (by kernel_rfl) ⟨rfl,rfl,rfl⟩
  ·intro hb2 heq
   refine Sa 1<|Zd 2 ?_
   refine Cb heq ?_ ?_
   ·intro hb3 heq
    refine Sa 1<|Zd 4 ?_
    obtain rfl:=Option.some.inj heq
    exact RunH.done (by kernel_rfl) Tryz.func50 (v:=.tuple #[.bool false,.bool true,.bool true,.bool false]) (by kernel_rfl) ⟨rfl,rfl,rfl⟩
   ·intro hb3 heq
    refine Sa 1<|Zd 2 ?_
    refine Cb heq ?_ ?_
    ·intro hb4 heq
     refine Sa 1<|Zd 4 ?_
     obtain rfl:=Option.some.inj heq
     exact RunH.done (by kernel_rfl) Tryz.func50 (v:=.tuple #[.bool false,.bool false,.bool true,.bool false]) (by kernel_rfl) ⟨rfl,rfl,rfl⟩
    ·intro hb4 heq
     refine Sa 3<|Zd 4 ?_
     obtain rfl:=Option.some.inj heq
     exact RunH.done (by kernel_rfl) Tryz.func50 (v:=.tuple #[.bool true,.bool false,.bool false,.bool false]) (by kernel_rfl) ⟨rfl,rfl,rfl⟩
noncomputable def C28:Ctx:={ P:=Tryz.prog,f:=28,N:=81,c:=bodyOf Tryz.f28 }
def S28 (F:List Ch) (H0:Hp) (r:Int) (v:Value) (H:Hp) (cs:List Ch):Prop:=H0=H∧v=iv r∧F=cs
theorem cache_checkEvent.j2_c {r:Int}:∀ (a0:CacheEvent) (Aa0_3:Option Addr) (ca0_3 g1:Nat) (v50:Bool) ,Rw Kd.string H F Aa0_3 a0.Digests→a0.Digests.length≤ca0_3→cache_checkEvent.j2 a0 v50=some r→RunH C28 (S28 F H r) H w0 [.c [1,1,1,0,0,1,1,1],.b 0,.c [1,1,1,1]] [(1,pg g1 0),(50,.bool v50)] H ((some (g1,.cells #[iv a0.Kind,iv a0.At,.string a0.Digest,.slice Aa0_3 a0.Digests.length ca0_3,.string a0.Key,iv a0.Size] 28 (0,0)))::F):=by
 intro a0 Aa0_3 ca0_3 g1 v50 hra0_3 hca0_3 heq
 unfold cache_checkEvent.j2 at heq
 refine Cb heq ?_ ?_
 ·intro hb5 heq
  refine Sa 1<|Zd 1 ?_
  obtain rfl:=Option.some.inj heq
  refine Up 1 [] ?_
  exact RunH.done (by kernel_rfl) Tryz.func28 (v:=iv 3) (by kernel_rfl) ⟨rfl,rfl,rfl⟩
 ·intro hb5 heq
  refine Sa 4<|Zv 2 [bx 0 3] ?_
  obtain ⟨y4,hy4,heq⟩:=bind_some heq
  refine RgH.does (cal 67 (cache_checkDigests_c hy4 (hra0_3.wk (fun _ h=>(.tail _ h))) hca0_3 rfl)) ?_
  rintro _ _ _ _ ⟨_,rfl,rfl,rfl,rfl⟩
  refine Zd 4<|Sa 1<|Zd 2 ?_
  refine Cb heq ?_ ?_
  ·intro hb6 heq
   refine Sa 1<|Zd 2 ?_
   obtain rfl:=Option.some.inj heq
   refine Up 1 [] ?_
   exact RunH.done (by kernel_rfl) Tryz.func28 (v:=iv y4) (by kernel_rfl) ⟨rfl,rfl,rfl⟩
  ·intro hb6 heq
   refine An 3 ?_
   obtain ⟨t3,ht3,heq⟩:=bind_some heq
   have K4:RunH C28 (S28 F H r) H w0 [.c [1,1,1,1,1,0,1],.c [1,1,1,1,1,1]] [(80,.bool t3)] H (F):=by
    refine Cb heq ?_ ?_
    ·intro hb8 heq
     refine Sa 1<|Zd 1 ?_
     obtain rfl:=Option.some.inj heq
     exact RunH.done (by kernel_rfl) Tryz.func28 (v:=iv 1) (by kernel_rfl) ⟨rfl,rfl,rfl⟩
    ·intro hb8 heq
     refine Sa 2<|Zd 1 ?_
     obtain rfl:=Option.some.inj heq
     exact RunH.done (by kernel_rfl) Tryz.func28 (v:=iv 0) (by kernel_rfl) ⟨rfl,rfl,rfl⟩
   replace heq:=ht3
   refine Sa 0<|Zv 2 [bx 0 5] ?_
   obtain ⟨y5,hy5,heq⟩:=bind_some heq
   refine RgH.does (cal 73 (cache_within_c hy5 )) ?_
   rintro _ _ _ _ ⟨_,rfl,rfl,rfl,rfl⟩
   refine Zk 5 ?_
   rcases bool_cases (!y5) with hb7 | hb7
   ·replace heq:=bif_true hb7 heq
    refine Zs 75 (congrArg Value.bool hb7)<|Zk 10 ?_
    obtain rfl:=Option.some.inj heq
    refine Dn ?_
    exact Gt 1 [] (K4)
   ·replace heq:=bif_false hb7 heq
    refine Zs 75 (congrArg Value.bool hb7)<|Zv 7 [bx 0 1] ?_
    obtain ⟨y6,hy6,heq⟩:=bind_some heq
    refine RgH.does (cal 78 (cache_isMoment_c hy6 )) ?_
    rintro _ _ _ _ ⟨_,rfl,rfl,rfl,rfl⟩
    refine Zk 10 ?_
    obtain rfl:=Option.some.inj heq
    refine Dn ?_
    exact Gt 1 [] (K4)
theorem cache_checkEvent.j1_c {r:Int}:∀ (a0:CacheEvent) (Aa0_3:Option Addr) (ca0_3 g1:Nat) (y2:Bool × Bool × Bool × Bool) (v20:Bool) ,Rw Kd.string H F Aa0_3 a0.Digests→a0.Digests.length≤ca0_3→cache_checkEvent.j1 a0 y2 v20=some r→RunH C28 (S28 F H r) H w0 [.c [1,1,1,0,0,1],.b 0,.c [1,1,1,1]] [(1,pg g1 0),(3,.bool y2.1),(5,.bool y2.2.2.1),(20,.bool v20)] H ((some (g1,.cells #[iv a0.Kind,iv a0.At,.string a0.Digest,.slice Aa0_3 a0.Digests.length ca0_3,.string a0.Key,iv a0.Size] 28 (0,0)))::F):=by
 intro a0 Aa0_3 ca0_3 g1 y2 v20 hra0_3 hca0_3 heq
 unfold cache_checkEvent.j1 at heq
 refine Cb heq ?_ ?_
 ·intro hb3 heq
  refine Sa 1<|Zd 1 ?_
  obtain rfl:=Option.some.inj heq
  refine Up 1 [] ?_
  exact RunH.done (by kernel_rfl) Tryz.func28 (v:=iv 3) (by kernel_rfl) ⟨rfl,rfl,rfl⟩
 ·intro hb3 heq
  refine An 2 ?_
  obtain ⟨t2,ht2,heq⟩:=bind_some heq
  have K3:RunH C28 (S28 F H r) H w0 [.c [1,1,1,0,0,1,1,0,1],.c [1,1,1,0,0,1,1,1],.b 0,.c [1,1,1,1]] [(1,pg g1 0),(5,.bool y2.2.2.1),(50,.bool t2)] H ((some (g1,.cells #[iv a0.Kind,iv a0.At,.string a0.Digest,.slice Aa0_3 a0.Digests.length ca0_3,.string a0.Key,iv a0.Size] 28 (0,0)))::F):=by
   refine Cb heq ?_ ?_
   ·intro hb9 heq
    refine An 1 ?_
    exact Gt 0 [] ((cache_checkEvent.j2_c) a0 _ _ _ t2 hra0_3 hca0_3 heq)
   ·intro hb9 heq
    obtain ⟨t4,ht4,heq⟩:=bind_some heq
    have K5:RunH C28 (S28 F H r) H w0 [.c [1,1,1,0,0,1,1,1],.b 0,.c [1,1,1,1]] [(1,pg g1 0),(50,.bool t4)] H ((some (g1,.cells #[iv a0.Kind,iv a0.At,.string a0.Digest,.slice Aa0_3 a0.Digests.length ca0_3,.string a0.Key,iv a0.Size] 28 (0,0)))::F):=by
     exact Gt 0 [] ((cache_checkEvent.j2_c) a0 _ _ _ t4 hra0_3 hca0_3 heq)
    replace heq:=ht4
    refine Sa 0<|Zk 2 ?_
    rcases bool_cases (y2.2.2.1) with hb10 | hb10
    ·replace heq:=bif_true hb10 heq
     refine Zs 59 (congrArg Value.bool hb10)<|Zv 4 [bx 0 4] ?_
     obtain ⟨y7,hy7,heq⟩:=bind_some heq
     refine RgH.does (cal 62 (blob_IsDigest_c hy7 )) ?_
     rintro _ _ _ _ ⟨_,rfl,rfl,rfl,rfl⟩
     refine Zk 8 ?_
     obtain rfl:=Option.some.inj heq
     refine Dn ?_
     exact Gt 0 [] (K5)
    ·replace heq:=bif_false hb10 heq
     refine Zs 59 (congrArg Value.bool hb10)<|Zk 8 ?_
     obtain rfl:=Option.some.inj heq
     refine Dn ?_
     exact Gt 0 [] (K5)
  replace heq:=ht2
  refine Sa 0<|Zk 2 ?_
  rcases bool_cases (y2.1) with hb4 | hb4
  ·replace heq:=bif_true hb4 heq
   refine Zs 52 (congrArg Value.bool hb4)<|Zv 4 [bx 0 2] ?_
   obtain ⟨y3,hy3,heq⟩:=bind_some heq
   refine RgH.does (cal 55 (blob_IsDigest_c hy3 )) ?_
   rintro _ _ _ _ ⟨_,rfl,rfl,rfl,rfl⟩
   refine Zk 8 ?_
   obtain rfl:=Option.some.inj heq
   refine Dn ?_
   exact Gt 0 [] (K3)
  ·replace heq:=bif_false hb4 heq
   refine Zs 52 (congrArg Value.bool hb4)<|Zk 8 ?_
   obtain rfl:=Option.some.inj heq
   refine Dn ?_
   exact Gt 0 [] (K3)
theorem cache_checkEvent_c {a0:CacheEvent} {Aa0_3:Option Addr} {na0_3 ca0_3:Nat} {r:Int} (heq:cache_checkEvent.f a0=some r) (hra0_3:Rw Kd.string H F Aa0_3 a0.Digests) (hca0_3:na0_3≤ca0_3) (hna0_3:na0_3=a0.Digests.length):CallsH Tryz.prog 28 #[.agg #[iv a0.Kind,iv a0.At,.string a0.Digest,.slice Aa0_3 na0_3 ca0_3,.string a0.Key,iv a0.Size]] H w0 (F) (S28 F H r):=by
 refine Co C28 Tryz.func28 Tryz.ntmps28 ?_
 subst hna0_3
 unfold cache_checkEvent.f at heq
 refine Sa 1 ?_
 refine RgH.does (DoesH.new (d:=1) (v:=fun g=>.pointer (some ⟨g,0,none⟩)) (o:=fun g=>.cells #[iv a0.Kind,iv a0.At,.string a0.Digest,.slice Aa0_3 a0.Digests.length ca0_3,.string a0.Key,iv a0.Size] 28 (0,0)) (fun g=>by kernel_rfl)) ?_
 rintro _ _ _ _ ⟨g1,rfl,rfl,rfl⟩
 refine Zd 2<|Sa 2<|Zv 2 [bx 0 0] ?_
 obtain ⟨y1,hy1,heq⟩:=bind_some heq
 refine RgH.does (cal 10 (cache_within_c hy1 )) ?_
 rintro _ _ _ _ ⟨_,rfl,rfl,rfl,rfl⟩
 refine Zd 4 ?_
 refine Cb heq ?_ ?_
 ·intro hb1 heq
  refine Sa 1<|Zd 1 ?_
  obtain rfl:=Option.some.inj heq
  refine Up 1 [] ?_
  exact RunH.done (by kernel_rfl) Tryz.func28 (v:=iv 4) (by kernel_rfl) ⟨rfl,rfl,rfl⟩
 ·intro hb1 heq
  refine Sa 2<|Zv 2 [bx 0 0] ?_
  obtain ⟨y2,hy2,heq⟩:=bind_some heq
  refine RgH.does (cal 15 (cache_fields_c hy2 )) ?_
  rintro _ _ _ _ ⟨_,rfl,rfl,rfl,rfl⟩
  refine Zd 12<|An 4 ?_
  obtain ⟨t1,ht1,heq⟩:=bind_some heq
  have K2:RunH C28 (S28 F H r) H w0 [.c [1,1,1,0,0,0,1],.c [1,1,1,0,0,1],.b 0,.c [1,1,1,1]] [(1,pg g1 0),(3,.bool y2.1),(4,.bool y2.2.1),(5,.bool y2.2.2.1),(6,.bool y2.2.2.2),(20,.bool t1)] H ((some (g1,.cells #[iv a0.Kind,iv a0.At,.string a0.Digest,.slice Aa0_3 a0.Digests.length ca0_3,.string a0.Key,iv a0.Size] 28 (0,0)))::F):=by
   refine Cb heq ?_ ?_
   ·intro hb11 heq
    refine An 1 ?_
    exact Gt 0 [] ((cache_checkEvent.j1_c) a0 _ _ _ y2 t1 hra0_3 hca0_3 heq)
   ·intro hb11 heq
    refine An 1 ?_
    obtain ⟨t5,ht5,heq⟩:=bind_some heq
    have K6:RunH C28 (S28 F H r) H w0 [.c [1,1,1,0,0,0,1,1,1],.c [1,1,1,0,0,1],.b 0,.c [1,1,1,1]] [(1,pg g1 0),(3,.bool y2.1),(5,.bool y2.2.2.1),(6,.bool y2.2.2.2),(20,.bool t5)] H ((some (g1,.cells #[iv a0.Kind,iv a0.At,.string a0.Digest,.slice Aa0_3 a0.Digests.length ca0_3,.string a0.Key,iv a0.Size] 28 (0,0)))::F):=by
     refine Cb heq ?_ ?_
     ·intro hb13 heq
      refine An 1 ?_
      exact Gt 0 [] ((cache_checkEvent.j1_c) a0 _ _ _ y2 t5 hra0_3 hca0_3 heq)
     ·intro hb13 heq
      refine An 1 ?_
      obtain ⟨t6,ht6,heq⟩:=bind_some heq
      have K7:RunH C28 (S28 F H r) H w0 [.c [1,1,1,0,0,0,1,1,1,1,1],.c [1,1,1,0,0,1],.b 0,.c [1,1,1,1]] [(1,pg g1 0),(3,.bool y2.1),(5,.bool y2.2.2.1),(6,.bool y2.2.2.2),(20,.bool t6)] H ((some (g1,.cells #[iv a0.Kind,iv a0.At,.string a0.Digest,.slice Aa0_3 a0.Digests.length ca0_3,.string a0.Key,iv a0.Size] 28 (0,0)))::F):=by
       refine Cb heq ?_ ?_
       ·intro hb15 heq
        refine An 1 ?_
        exact Gt 0 [] ((cache_checkEvent.j1_c) a0 _ _ _ y2 t6 hra0_3 hca0_3 heq)
       ·intro hb15 heq
        obtain ⟨t7,ht7,heq⟩:=bind_some heq
        have K8:RunH C28 (S28 F H r) H w0 [.c [1,1,1,0,0,1],.b 0,.c [1,1,1,1]] [(1,pg g1 0),(3,.bool y2.1),(5,.bool y2.2.2.1),(20,.bool t7)] H ((some (g1,.cells #[iv a0.Kind,iv a0.At,.string a0.Digest,.slice Aa0_3 a0.Digests.length ca0_3,.string a0.Key,iv a0.Size] 28 (0,0)))::F):=by
         exact Gt 0 [] ((cache_checkEvent.j1_c) a0 _ _ _ y2 t7 hra0_3 hca0_3 heq)
        replace heq:=ht7
        refine Sa 0<|Zk 3 ?_
        rcases bool_cases (!y2.2.2.2) with hb16 | hb16
        ·replace heq:=bif_true hb16 heq
         refine Zs 45 (congrArg Value.bool hb16)<|Zv 8 [bx 0 5] ?_
         obtain rfl:=Option.some.inj heq
         refine Dn ?_
         exact Gt 0 [] (K8)
        ·replace heq:=bif_false hb16 heq
         refine Zs 45 (congrArg Value.bool hb16)<|Zk 8 ?_
         obtain rfl:=Option.some.inj heq
         refine Dn ?_
         exact Gt 0 [] (K8)
      replace heq:=ht6
      refine Sa 0<|Zk 3 ?_
      rcases bool_cases (!y2.2.2.1) with hb14 | hb14
      ·replace heq:=bif_true hb14 heq
       refine Zs 38 (congrArg Value.bool hb14)<|Zv 8 [bx 0 4] ?_
       obtain rfl:=Option.some.inj heq
       refine Dn ?_
       exact Gt 0 [] (K7)
      ·replace heq:=bif_false hb14 heq
       refine Zs 38 (congrArg Value.bool hb14)<|Zk 8 ?_
       obtain rfl:=Option.some.inj heq
       refine Dn ?_
       exact Gt 0 [] (K7)
    replace heq:=ht5
    refine Sa 0<|Zk 3 ?_
    rcases bool_cases (!y2.2.1) with hb12 | hb12
    ·replace heq:=bif_true hb12 heq
     refine Zs 30 (congrArg Value.bool hb12)<|Zv 9 [bx 0 3] ?_
     obtain rfl:=Option.some.inj heq
     refine Dn ?_
     exact Gt 0 [] (K6)
    ·replace heq:=bif_false hb12 heq
     refine Zs 30 (congrArg Value.bool hb12)<|Zk 9 ?_
     obtain rfl:=Option.some.inj heq
     refine Dn ?_
     exact Gt 0 [] (K6)
  replace heq:=ht1
  refine Sa 0<|Zk 3 ?_
  rcases bool_cases (!y2.1) with hb2 | hb2
  ·replace heq:=bif_true hb2 heq
   refine Zs 23 (congrArg Value.bool hb2)<|Zv 8 [bx 0 2] ?_
   obtain rfl:=Option.some.inj heq
   refine Dn ?_
   exact Gt 0 [] (K2)
  ·replace heq:=bif_false hb2 heq
   refine Zs 23 (congrArg Value.bool hb2)<|Zk 8 ?_
   obtain rfl:=Option.some.inj heq
   refine Dn ?_
   exact Gt 0 [] (K2)
noncomputable def C29:Ctx:={ P:=Tryz.prog,f:=29,N:=33,c:=bodyOf Tryz.f29 }
def S29 (F:List Ch) (H0:Hp) (r:Int) (v:Value) (H:Hp) (cs:List Ch):Prop:=H0=H∧v=iv r∧F=cs
theorem cache_newest.e2_c {r:Int}:∀ (v_n3:Int) ,cache_newest.e2 v_n3=some r→RunH C29 (S29 F H r) H w0 [.c [1,1,1,1,0],.c [1,1,1,1,1]] [(3,iv v_n3)] H (F):=by
 intro v_n3  heq
 unfold cache_newest.e2 at heq
 refine Sa 0<|Zd 2 ?_
 obtain rfl:=Option.some.inj heq
 exact RunH.done (by kernel_rfl) Tryz.func29 (v:=iv v_n3) (by kernel_rfl) ⟨rfl,rfl,rfl⟩
theorem cache_newest.l3_c {r:Int} (e2:Int→Option Int)
  (he2:∀ (v_n3:Int) ,e2 v_n3=some r→RunH C29 (S29 F H r) H w0 [.c [1,1,1,1,0],.c [1,1,1,1,1]] [(3,iv v_n3)] H (F)):∀ (k:Nat),∀ (a0:Cache) (Aa0_3:Option Addr) (ca0_3:Nat) (v_n3 v23:Int) ,Rw kEntry H F Aa0_3 a0.Entries→a0.Entries.length≤ca0_3→cache_newest.l3 e2 k a0 v_n3 v23=some r→RunH C29 (S29 F H r) H w0 [.c [1,1,1,0,1,0,0],.l [1,1,1,0,1,0,0],.b 2,.c [1,1,1,1]] [(3,iv v_n3),(21,.slice Aa0_3 a0.Entries.length ca0_3),(22,iv (a0.Entries.length:Int)),(23,iv v23)] H (F):=by
 intro k
 induction k with
 | zero=>intro a0 Aa0_3 ca0_3 v_n3 v23 hra0_3 hca0_3 heq; exact nomatch (show (none:Option Int)=some r from heq)
 | succ k ihk =>
  intro a0 Aa0_3 ca0_3 v_n3 v23 hra0_3 hca0_3 heq
  rw [cache_newest.l3] at heq
  refine Sa 1<|Zd 1<|An 1 ?_
  refine Cb heq ?_ ?_
  ·intro hb1 heq
   refine Sa 4 ?_
   obtain ⟨x1,hx1,heq⟩:=bind_some heq
   obtain ⟨ha1,cs1,hK1,hcc1⟩:=hra0_3.get hx1
   obtain ⟨A1,c1,rfl,hc1,hr1⟩:=kEntry_open hK1
   refine Zv 2 ([nx ha1 hx1]++ers hcc1 0) ?_
   refine RgH.does (DoesH.new (d:=7) (v:=fun g=>.pointer (some ⟨g,0,none⟩)) (o:=fun g=>.cells #[.string ByteArray.empty,.slice none 0 0,iv 0] 47 (0,0)) (fun g=>by kernel_rfl)) ?_
   rintro _ _ _ _ ⟨g2,rfl,rfl,rfl⟩
   refine RgH.does (DoesH.store (k:=0) (g:=g2) (off:=0) (v:=.agg #[.string x1.Key,.slice A1 x1.Refs.length c1,iv x1.Used]) (cells':=#[.string x1.Key,.slice A1 x1.Refs.length c1,iv x1.Used]) (by kernel_rfl) rfl (by kernel_rfl) (by kernel_rfl)) ?_
   rintro _ _ _ _ ⟨rfl,rfl,rfl⟩
   refine RgH.nrm ?_
   refine Dn<|Sa 0<|Zw 5 [bx 0 2]<|Sa 1<|Zd 2<|An 1 ?_
   exact Gt 1 [] (ihk a0 _ _ (max2 v_n3 x1.Used) (w64 (v23+1)) hra0_3 hca0_3 heq)
  ·intro hb1 heq
   refine An 2 ?_
   exact Gt 0 [] (he2 v_n3 heq)
theorem cache_newest.e1_c {r:Int}:∀ (a0:Cache) (Aa0_2:Option Addr) (ca0_2:Nat) (Aa0_3:Option Addr) (ca0_3 g1:Nat) (v_n3:Int) ,Rw kBlob H F Aa0_2 a0.Blobs→a0.Blobs.length≤ca0_2→Rw kEntry H F Aa0_3 a0.Entries→a0.Entries.length≤ca0_3→cache_newest.e1 a0 v_n3=some r→RunH C29 (S29 F H r) H w0 [.c [1,1,1,0,0],.c [1,1,1,0,1],.c [1,1,1,1]] [(1,pg g1 0),(3,iv v_n3)] H ((some (g1,.cells #[iv a0.Room,iv a0.Lease,.slice Aa0_2 a0.Blobs.length ca0_2,.slice Aa0_3 a0.Entries.length ca0_3] 25 (0,0)))::F):=by
 intro a0 Aa0_2 ca0_2 Aa0_3 ca0_3 g1 v_n3 hra0_2 hca0_2 hra0_3 hca0_3 heq
 unfold cache_newest.e1 at heq
 refine Sa 0<|Zw 4 [bx 0 3]<|An 2 ?_
 exact Gt 1 [] (((cache_newest.l3_c (e2:=cache_newest.e2) (cache_newest.e2_c)) big) a0 _ _ v_n3 0 hra0_3 hca0_3 heq)
theorem cache_newest.l4_c {r:Int} (e1:Cache→Int→Option Int)
  (he1:∀ (a0:Cache) (Aa0_2:Option Addr) (ca0_2:Nat) (Aa0_3:Option Addr) (ca0_3 g1:Nat) (v_n3:Int) ,Rw kBlob H F Aa0_2 a0.Blobs→a0.Blobs.length≤ca0_2→Rw kEntry H F Aa0_3 a0.Entries→a0.Entries.length≤ca0_3→e1 a0 v_n3=some r→RunH C29 (S29 F H r) H w0 [.c [1,1,1,0,0],.c [1,1,1,0,1],.c [1,1,1,1]] [(1,pg g1 0),(3,iv v_n3)] H ((some (g1,.cells #[iv a0.Room,iv a0.Lease,.slice Aa0_2 a0.Blobs.length ca0_2,.slice Aa0_3 a0.Entries.length ca0_3] 25 (0,0)))::F)):∀ (k:Nat),∀ (a0:Cache) (Aa0_2:Option Addr) (ca0_2:Nat) (Aa0_3:Option Addr) (ca0_3 g1:Nat) (v_n3 v11:Int) ,Rw kBlob H F Aa0_2 a0.Blobs→a0.Blobs.length≤ca0_2→Rw kEntry H F Aa0_3 a0.Entries→a0.Entries.length≤ca0_3→cache_newest.l4 e1 k a0 v_n3 v11=some r→RunH C29 (S29 F H r) H w0 [.c [1,1,0,1,0,0],.l [1,1,0,1,0,0],.b 0,.c [1,1,1]] [(1,pg g1 0),(3,iv v_n3),(9,.slice Aa0_2 a0.Blobs.length ca0_2),(10,iv (a0.Blobs.length:Int)),(11,iv v11)] H ((some (g1,.cells #[iv a0.Room,iv a0.Lease,.slice Aa0_2 a0.Blobs.length ca0_2,.slice Aa0_3 a0.Entries.length ca0_3] 25 (0,0)))::F):=by
 intro k
 induction k with
 | zero=>intro a0 Aa0_2 ca0_2 Aa0_3 ca0_3 g1 v_n3 v11 hra0_2 hca0_2 hra0_3 hca0_3 heq; exact nomatch (show (none:Option Int)=some r from heq)
 | succ k ihk =>
  intro a0 Aa0_2 ca0_2 Aa0_3 ca0_3 g1 v_n3 v11 hra0_2 hca0_2 hra0_3 hca0_3 heq
  rw [cache_newest.l4] at heq
  refine Sa 1<|Zd 1<|An 1 ?_
  refine Cb heq ?_ ?_
  ·intro hb2 heq
   refine Sa 4 ?_
   obtain ⟨x2,hx2,heq⟩:=bind_some heq
   obtain ⟨ha2,cs2,hK2,hcc2⟩:=hra0_2.get hx2
   obtain ⟨rfl⟩:=kBlob_open hK2
   refine Zv 2 ([nx ha2 hx2]++ers hcc2 1) ?_
   refine RgH.does (DoesH.new (d:=5) (v:=fun g=>.pointer (some ⟨g,0,none⟩)) (o:=fun g=>.cells #[.string ByteArray.empty,iv 0,iv 0,iv 0,iv 0] 45 (0,0)) (fun g=>by kernel_rfl)) ?_
   rintro _ _ _ _ ⟨g3,rfl,rfl,rfl⟩
   refine RgH.does (DoesH.store (k:=0) (g:=g3) (off:=0) (v:=.agg #[.string x2.Digest,iv x2.Size,iv x2.Used,iv x2.Until,iv x2.Pins]) (cells':=#[.string x2.Digest,iv x2.Size,iv x2.Used,iv x2.Until,iv x2.Pins]) (by kernel_rfl) rfl (by kernel_rfl) (by kernel_rfl)) ?_
   rintro _ _ _ _ ⟨rfl,rfl,rfl⟩
   refine RgH.nrm ?_
   refine Dn<|Sa 0<|Zw 5 [bx 0 2]<|Sa 1<|Zd 2<|An 1 ?_
   exact Gt 1 [] (ihk a0 _ _ _ _ _ (max2 v_n3 x2.Used) (w64 (v11+1)) hra0_2 hca0_2 hra0_3 hca0_3 heq)
  ·intro hb2 heq
   refine An 3 ?_
   exact Gt 0 [] (he1 a0 _ _ _ _ _ v_n3 hra0_2 hca0_2 hra0_3 hca0_3 heq)
theorem cache_newest_c {a0:Cache} {Aa0_2:Option Addr} {na0_2 ca0_2:Nat} {Aa0_3:Option Addr} {na0_3 ca0_3:Nat} {r:Int} (heq:cache_newest.f a0=some r) (hra0_2:Rw kBlob H F Aa0_2 a0.Blobs) (hca0_2:na0_2≤ca0_2) (hna0_2:na0_2=a0.Blobs.length) (hra0_3:Rw kEntry H F Aa0_3 a0.Entries) (hca0_3:na0_3≤ca0_3) (hna0_3:na0_3=a0.Entries.length):CallsH Tryz.prog 29 #[.agg #[iv a0.Room,iv a0.Lease,.slice Aa0_2 na0_2 ca0_2,.slice Aa0_3 na0_3 ca0_3]] H w0 (F) (S29 F H r):=by
 refine Co C29 Tryz.func29 Tryz.ntmps29 ?_
 subst hna0_2
 subst hna0_3
 unfold cache_newest.f at heq
 refine Sa 1 ?_
 refine RgH.does (DoesH.new (d:=1) (v:=fun g=>.pointer (some ⟨g,0,none⟩)) (o:=fun g=>.cells #[iv a0.Room,iv a0.Lease,.slice Aa0_2 a0.Blobs.length ca0_2,.slice Aa0_3 a0.Entries.length ca0_3] 25 (0,0)) (fun g=>by kernel_rfl)) ?_
 rintro _ _ _ _ ⟨g1,rfl,rfl,rfl⟩
 refine Zd 2<|Sa 1<|Zd 1<|Sa 2<|Zw 4 [bx 0 2]<|An 2 ?_
 exact Gt 0 [] (((cache_newest.l4_c (e1:=cache_newest.e1) (cache_newest.e1_c)) big) a0 _ _ _ _ _ 0 0 hra0_2 hca0_2 hra0_3 hca0_3 heq)
def S53 (F:List Ch) (H0:Hp) (r:Int) (v:Value) (H:Hp) (cs:List Ch):Prop:=H0=H∧v=iv r∧F=cs
theorem strings_Compare_c {a0:ByteArray} {a1:ByteArray} {r:Int} (heq:strings_Compare.f a0 a1=some r):CallsH Tryz.prog 53 #[.string a0,.string a1] H w0 F (S53 F H r):=by
 intro w hh
 unfold strings_Compare.f at heq
 obtain rfl:=Option.some.inj heq
 refine (Shelf.Tryz.strings_Compare a0 a1 w).mono ?_
 rintro e w' ⟨rfl,rfl⟩
 exact ⟨_,rfl,H,F,Le.refl H,hh,rfl,rfl,rfl⟩
noncomputable def C52:Ctx:={ P:=Tryz.prog,f:=52,N:=9,c:=bodyOf Tryz.f52 }
def S52 (F:List Ch) (H0:Hp) (r:Int) (v:Value) (H:Hp) (cs:List Ch):Prop:=H0=H∧v=iv r∧F=cs
theorem cache_find_1_c {a0:Blob} {a1:ByteArray} {r:Int} (heq:cache_find_1.f a0 a1=some r):CallsH Tryz.prog 52 #[.agg #[.string a0.Digest,iv a0.Size,iv a0.Used,iv a0.Until,iv a0.Pins],.string a1] H w0 (F) (S52 F H r):=by
 refine Co C52 Tryz.func52 Tryz.ntmps52 ?_
 unfold cache_find_1.f at heq
 refine Sa 1 ?_
 refine RgH.does (DoesH.new (d:=2) (v:=fun g=>.pointer (some ⟨g,0,none⟩)) (o:=fun g=>.cells #[.string a0.Digest,iv a0.Size,iv a0.Used,iv a0.Until,iv a0.Pins] 45 (0,0)) (fun g=>by kernel_rfl)) ?_
 rintro _ _ _ _ ⟨g1,rfl,rfl,rfl⟩
 refine Zd 2<|Sa 1<|Zv 3 [bx 0 0] ?_
 obtain ⟨y1,hy1,heq⟩:=bind_some heq
 refine RgH.does (cal 8 (strings_Compare_c (a0:=a0.Digest) (a1:=a1)  hy1)) ?_
 rintro _ _ _ _ ⟨_,rfl,rfl,rfl,rfl⟩
 refine Zd 5 ?_
 obtain rfl:=Option.some.inj heq
 refine Up 1 [] ?_
 exact RunH.done (by kernel_rfl) Tryz.func52 (v:=iv y1) (by kernel_rfl) ⟨rfl,rfl,rfl⟩
noncomputable def C51:Ctx:={ P:=Tryz.prog,f:=51,N:=49,c:=bodyOf Tryz.f51 }
def S51 (F:List Ch) (H0:Hp) (r:Int × Bool) (v:Value) (H:Hp) (cs:List Ch):Prop:=H0=H∧v=.tuple #[iv r.1,.bool r.2]∧F=cs
theorem slices_BinarySearchFunc_Blob_string.e1_c {r:Int × Bool}:∀ (a0:List Blob) (Aa0:Option Addr) (ca0:Nat) (a1:ByteArray) (v_i9:Int) ,Rw kBlob H F Aa0 a0→a0.length≤ca0→slices_BinarySearchFunc_Blob_string.e1 a0 a1 v_i9=some r→RunH C51 (S51 F H r) H w0 [.c [1,1,1,1,0],.c [1,1,1,1,1]] [(0,.slice Aa0 a0.length ca0),(1,.string a1),(2,.func (.func 52) #[] #[]),(8,iv (a0.length:Int)),(9,iv v_i9)] H (F):=by
 intro a0 Aa0 ca0 a1 v_i9 hra0 hca0 heq
 unfold slices_BinarySearchFunc_Blob_string.e1 at heq
 obtain ⟨t1,ht1,heq⟩:=bind_some heq
 have K1:RunH C51 (S51 F H r) H w0 [.c [1,1,1,1,1]] [(6,iv v_i9),(7,.bool t1)] H (F):=by
  obtain rfl:=Option.some.inj heq
  exact RunH.done (by kernel_rfl) Tryz.func51 (v:=.tuple #[iv v_i9,.bool t1]) (by kernel_rfl) ⟨rfl,rfl,rfl⟩
 replace heq:=ht1
 refine Sa 0<|Zk 5 ?_
 rcases bool_cases (decide (v_i9<(a0.length:Int))) with hb1 | hb1
 ·replace heq:=bif_true hb1 heq
  refine Zs 39 (congrArg Value.bool hb1) ?_
  obtain ⟨x1,hx1,heq⟩:=bind_some heq
  obtain ⟨ha1,cs1,hK1,hcc1⟩:=hra0.get hx1
  obtain ⟨rfl⟩:=kBlob_open hK1
  refine Zv 11 ([nx ha1 hx1]++ers hcc1 0) ?_
  obtain ⟨y1,hy1,heq⟩:=bind_some heq
  refine RgH.does (cal 46 (cache_find_1_c hy1 )) ?_
  rintro _ _ _ _ ⟨_,rfl,rfl,rfl,rfl⟩
  refine Zk 16 ?_
  obtain rfl:=Option.some.inj heq
  refine Dn ?_
  exact Gt 0 [] (K1)
 ·replace heq:=bif_false hb1 heq
  refine Zs 39 (congrArg Value.bool hb1)<|Zk 16 ?_
  obtain rfl:=Option.some.inj heq
  refine Dn ?_
  exact Gt 0 [] (K1)
theorem slices_BinarySearchFunc_Blob_string.l2_c {r:Int × Bool} (e1:(List Blob)→ByteArray→Int→Option (Int × Bool))
  (he1:∀ (a0:List Blob) (Aa0:Option Addr) (ca0:Nat) (a1:ByteArray) (v_i9:Int) ,Rw kBlob H F Aa0 a0→a0.length≤ca0→e1 a0 a1 v_i9=some r→RunH C51 (S51 F H r) H w0 [.c [1,1,1,1,0],.c [1,1,1,1,1]] [(0,.slice Aa0 a0.length ca0),(1,.string a1),(2,.func (.func 52) #[] #[]),(8,iv (a0.length:Int)),(9,iv v_i9)] H (F)):∀ (k:Nat),∀ (a0:List Blob) (Aa0:Option Addr) (ca0:Nat) (a1:ByteArray) (v_i9 v_j10:Int) ,Rw kBlob H F Aa0 a0→a0.length≤ca0→slices_BinarySearchFunc_Blob_string.l2 e1 k a0 a1 v_i9 v_j10=some r→RunH C51 (S51 F H r) H w0 [.c [1,1,1,0,0,0],.l [1,1,1,0,0,0],.b 0,.c [1,1,1,1]] [(0,.slice Aa0 a0.length ca0),(1,.string a1),(2,.func (.func 52) #[] #[]),(8,iv (a0.length:Int)),(9,iv v_i9),(10,iv v_j10)] H (F):=by
 intro k
 induction k with
 | zero=>intro a0 Aa0 ca0 a1 v_i9 v_j10 hra0 hca0 heq; exact nomatch (show (none:Option (Int × Bool))=some r from heq)
 | succ k ihk =>
  intro a0 Aa0 ca0 a1 v_i9 v_j10 hra0 hca0 heq
  rw [slices_BinarySearchFunc_Blob_string.l2] at heq
  refine Sa 2<|Zd 3 ?_
  refine Cb heq ?_ ?_
  ·intro hb2 heq
   refine Sa 3<|Zw 7 [⟨.need ((0:Int)≤1),fun w hh=>(show (0:Int)≤1 by decide)⟩]<|Sa 1 ?_
   obtain ⟨x2,hx2,heq⟩:=bind_some heq
   obtain ⟨ha2,cs2,hK2,hcc2⟩:=hra0.get hx2
   obtain ⟨rfl⟩:=kBlob_open hK2
   refine Zv 6 ([nx ha2 hx2]++ers hcc2 0) ?_
   obtain ⟨y2,hy2,heq⟩:=bind_some heq
   refine RgH.does (cal 30 (cache_find_1_c hy2 )) ?_
   rintro _ _ _ _ ⟨_,rfl,rfl,rfl,rfl⟩
   refine Zd 8 ?_
   refine Cb heq ?_ ?_
   ·intro hb3 heq
    refine Sa 0<|Zd 3<|An 2 ?_
    exact Gt 0 [] (ihk a0 _ _ a1 (w64 ((w64 (iShr .u64 (IntKind.wrap .u64 (w64 (v_i9+v_j10))) 1))+1)) v_j10 hra0 hca0 heq)
   ·intro hb3 heq
    refine Sa 0<|Zd 2<|An 2 ?_
    exact Gt 0 [] (ihk a0 _ _ a1 v_i9 (w64 (iShr .u64 (IntKind.wrap .u64 (w64 (v_i9+v_j10))) 1)) hra0 hca0 heq)
  ·intro hb2 heq
   refine An 2 ?_
   exact Gt 0 [] (he1 a0 _ _ a1 v_i9 hra0 hca0 heq)
theorem slices_BinarySearchFunc_Blob_string_c {a0:List Blob} {Aa0:Option Addr} {na0 ca0:Nat} {a1:ByteArray} {r:Int × Bool} (heq:slices_BinarySearchFunc_Blob_string.f a0 a1=some r) (hra0:Rw kBlob H F Aa0 a0) (hca0:na0≤ca0) (hna0:na0=a0.length):CallsH Tryz.prog 51 #[.slice Aa0 na0 ca0,.string a1,.func (.func 52) #[] #[]] H w0 (F) (S51 F H r):=by
 refine Co C51 Tryz.func51 Tryz.ntmps51 ?_
 subst hna0
 unfold slices_BinarySearchFunc_Blob_string.f at heq
 refine Sa 1<|Zd 2<|Sa 1<|Zd 3<|Sa 1<|Zd 3<|An 3 ?_
 exact Gt 0 [] (((slices_BinarySearchFunc_Blob_string.l2_c (e1:=slices_BinarySearchFunc_Blob_string.e1) (slices_BinarySearchFunc_Blob_string.e1_c)) big) a0 _ _ a1 0 (a0.length:Int) hra0 hca0 heq)
noncomputable def C30:Ctx:={ P:=Tryz.prog,f:=30,N:=12,c:=bodyOf Tryz.f30 }
def S30 (F:List Ch) (H0:Hp) (r:Int × Bool) (v:Value) (H:Hp) (cs:List Ch):Prop:=H0=H∧v=.tuple #[iv r.1,.bool r.2]∧F=cs
theorem cache_find_c {a0:Cache} {Aa0_2:Option Addr} {na0_2 ca0_2:Nat} {Aa0_3:Option Addr} {na0_3 ca0_3:Nat} {a1:ByteArray} {r:Int × Bool} (heq:cache_find.f a0 a1=some r) (hra0_2:Rw kBlob H F Aa0_2 a0.Blobs) (hca0_2:na0_2≤ca0_2) (hna0_2:na0_2=a0.Blobs.length) (hra0_3:Rw kEntry H F Aa0_3 a0.Entries) (hca0_3:na0_3≤ca0_3) (hna0_3:na0_3=a0.Entries.length):CallsH Tryz.prog 30 #[.agg #[iv a0.Room,iv a0.Lease,.slice Aa0_2 na0_2 ca0_2,.slice Aa0_3 na0_3 ca0_3],.string a1] H w0 (F) (S30 F H r):=by
 refine Co C30 Tryz.func30 Tryz.ntmps30 ?_
 subst hna0_2
 subst hna0_3
 unfold cache_find.f at heq
 refine Sa 1 ?_
 refine RgH.does (DoesH.new (d:=2) (v:=fun g=>.pointer (some ⟨g,0,none⟩)) (o:=fun g=>.cells #[iv a0.Room,iv a0.Lease,.slice Aa0_2 a0.Blobs.length ca0_2,.slice Aa0_3 a0.Entries.length ca0_3] 25 (0,0)) (fun g=>by kernel_rfl)) ?_
 rintro _ _ _ _ ⟨g1,rfl,rfl,rfl⟩
 refine Zd 3<|Sa 1<|Zv 3 [bx 0 2] ?_
 obtain ⟨y1,hy1,heq⟩:=bind_some heq
 refine RgH.does (cal 9 (slices_BinarySearchFunc_Blob_string_c hy1 (hra0_2.wk (fun _ h=>(.tail _ h))) hca0_2 rfl)) ?_
 rintro _ _ _ _ ⟨_,rfl,rfl,rfl,rfl⟩
 refine Zd 8 ?_
 obtain rfl:=Option.some.inj heq
 refine Up 1 [] ?_
 exact RunH.done (by kernel_rfl) Tryz.func30 (v:=.tuple #[iv y1.1,.bool y1.2]) (by kernel_rfl) ⟨rfl,rfl,rfl⟩
noncomputable def C37:Ctx:={ P:=Tryz.prog,f:=37,N:=14,c:=bodyOf Tryz.f37 }
def S37 (F:List Ch) (H0:Hp) (r:Bool) (v:Value) (H:Hp) (cs:List Ch):Prop:=H0=H∧v=.bool r∧F=cs
theorem cache_held_c {a0:Blob} {a1:Int} {r:Bool} (heq:cache_held.f a0 a1=some r):CallsH Tryz.prog 37 #[.agg #[.string a0.Digest,iv a0.Size,iv a0.Used,iv a0.Until,iv a0.Pins],iv a1] H w0 (F) (S37 F H r):=by
 refine Co C37 Tryz.func37 Tryz.ntmps37 ?_
 unfold cache_held.f at heq
 refine Sa 1 ?_
 refine RgH.does (DoesH.new (d:=2) (v:=fun g=>.pointer (some ⟨g,0,none⟩)) (o:=fun g=>.cells #[.string a0.Digest,iv a0.Size,iv a0.Used,iv a0.Until,iv a0.Pins] 45 (0,0)) (fun g=>by kernel_rfl)) ?_
 rintro _ _ _ _ ⟨g1,rfl,rfl,rfl⟩
 refine Zd 2<|An 1 ?_
 obtain ⟨t1,ht1,heq⟩:=bind_some heq
 have K2:RunH C37 (S37 F H r) H w0 [.c [1,1]] [(4,.bool t1)] H (F):=by
  obtain rfl:=Option.some.inj heq
  exact RunH.done (by kernel_rfl) Tryz.func37 (v:=.bool t1) (by kernel_rfl) ⟨rfl,rfl,rfl⟩
 replace heq:=ht1
 refine Sa 0<|Zv 4 [bx 0 4] ?_
 rcases bool_cases (decide (0<a0.Pins)) with hb1 | hb1
 ·replace heq:=bif_true hb1 heq
  refine Zs 8 (congrArg Value.bool hb1)<|Zk 10 ?_
  obtain rfl:=Option.some.inj heq
  refine Dn ?_
  exact Gt 1 [] (K2)
 ·replace heq:=bif_false hb1 heq
  refine Zs 8 (congrArg Value.bool hb1)<|Zv 10 [bx 0 3] ?_
  obtain rfl:=Option.some.inj heq
  refine Dn ?_
  exact Gt 1 [] (K2)
noncomputable def C94:Ctx:={ P:=Tryz.prog,f:=94,N:=7,c:=bodyOf Tryz.f94 }
def S94 (F:List Ch) (H0:Hp) (r:Bool) (v:Value) (H:Hp) (cs:List Ch):Prop:=H0=H∧v=.bool r∧F=cs
theorem cache_leaving_1_c {a0:Blob} {ga1:Nat} {a1:Int} {r:Bool} (heq:cache_leaving_1.f a0 a1=some r) (hga1:InG H F ga1 (.cells #[iv a1] 3 (0,0))):CallsH Tryz.prog 94 #[.agg #[.string a0.Digest,iv a0.Size,iv a0.Used,iv a0.Until,iv a0.Pins],.pointer (some ⟨ga1,0,none⟩)] H w0 (F) (S94 F H r):=by
 refine Co C94 Tryz.func94 Tryz.ntmps94 ?_
 unfold cache_leaving_1.f at heq
 refine Sa 1 ?_
 refine RgH.does (DoesH.new (d:=2) (v:=fun g=>.pointer (some ⟨g,0,none⟩)) (o:=fun g=>.cells #[.string a0.Digest,iv a0.Size,iv a0.Used,iv a0.Until,iv a0.Pins] 45 (0,0)) (fun g=>by kernel_rfl)) ?_
 rintro _ _ _ _ ⟨g1,rfl,rfl,rfl⟩
 refine Zd 2<|Sa 1<|Zv 2 (bxs 0++[rb hga1 1 0]) ?_
 obtain ⟨y1,hy1,heq⟩:=bind_some heq
 refine RgH.does (cal 6 (cache_held_c hy1 )) ?_
 rintro _ _ _ _ ⟨_,rfl,rfl,rfl,rfl⟩
 refine Zd 4 ?_
 obtain rfl:=Option.some.inj heq
 refine Up 1 [] ?_
 exact RunH.done (by kernel_rfl) Tryz.func94 (v:=.bool y1) (by kernel_rfl) ⟨rfl,rfl,rfl⟩
noncomputable def C87:Ctx:={ P:=Tryz.prog,f:=87,N:=19,c:=bodyOf Tryz.f87 }
def S87 (F:List Ch) (H0:Hp) (r:Int) (v:Value) (H:Hp) (cs:List Ch):Prop:=H0=H∧v=iv r∧F=cs
theorem slices_IndexFunc_Blob.e1_c {r:Int}:slices_IndexFunc_Blob.e1=some r→RunH C87 (S87 F H r) H w0 [.c [1,1,0],.c [1,1,1]] [] H (F):=by
 intro   heq
 unfold slices_IndexFunc_Blob.e1 at heq
 refine Sa 0<|Zd 1 ?_
 obtain rfl:=Option.some.inj heq
 exact RunH.done (by kernel_rfl) Tryz.func87 (v:=iv (-1)) (by kernel_rfl) ⟨rfl,rfl,rfl⟩
theorem slices_IndexFunc_Blob.l2_c {r:Int} (e1:Option Int)
  (he1:e1=some r→RunH C87 (S87 F H r) H w0 [.c [1,1,0],.c [1,1,1]] [] H (F)):∀ (k:Nat),∀ (a0:List Blob) (Aa0:Option Addr) (ca0 ga1q0:Nat) (a1q0 v8:Int) ,Rw kBlob H F Aa0 a0→a0.length≤ca0→InG H F ga1q0 (.cells #[iv a1q0] 3 (0,0))→slices_IndexFunc_Blob.l2 e1 k a0 a1q0 v8=some r→RunH C87 (S87 F H r) H w0 [.c [1,0,1,0,0],.l [1,0,1,0,0],.b 0,.c [1,1]] [(0,.slice Aa0 a0.length ca0),(1,.func (.func 94) #[] #[.pointer (some ⟨ga1q0,0,none⟩)]),(7,iv (a0.length:Int)),(8,iv v8)] H (F):=by
 intro k
 induction k with
 | zero=>intro a0 Aa0 ca0 ga1q0 a1q0 v8 hra0 hca0 hga1q0 heq; exact nomatch (show (none:Option Int)=some r from heq)
 | succ k ihk =>
  intro a0 Aa0 ca0 ga1q0 a1q0 v8 hra0 hca0 hga1q0 heq
  rw [slices_IndexFunc_Blob.l2] at heq
  refine Sa 1<|Zd 1<|An 1 ?_
  refine Cb heq ?_ ?_
  ·intro hb1 heq
   refine Sa 4<|Zd 2<|Sa 1 ?_
   obtain ⟨x1,hx1,heq⟩:=bind_some heq
   obtain ⟨ha1,cs1,hK1,hcc1⟩:=hra0.get hx1
   obtain ⟨rfl⟩:=kBlob_open hK1
   refine Zv 5 ([nx ha1 hx1]++ers hcc1 0) ?_
   obtain ⟨y1,hy1,heq⟩:=bind_some heq
   refine RgH.does (cal 16 (cache_leaving_1_c hy1 hga1q0)) ?_
   rintro _ _ _ _ ⟨_,rfl,rfl,rfl,rfl⟩
   refine Dn ?_
   refine Cb heq ?_ ?_
   ·intro hb2 heq
    refine Sa 1<|Zd 2 ?_
    obtain rfl:=Option.some.inj heq
    exact RunH.done (by kernel_rfl) Tryz.func87 (v:=iv v8) (by kernel_rfl) ⟨rfl,rfl,rfl⟩
   ·intro hb2 heq
    refine Sa 2<|Zd 2<|An 1 ?_
    exact Gt 0 [] (ihk a0 _ _ _ a1q0 (w64 (v8+1)) hra0 hca0 hga1q0 heq)
  ·intro hb1 heq
   refine An 2 ?_
   exact Gt 0 [] (he1 heq)
theorem slices_IndexFunc_Blob_c {a0:List Blob} {Aa0:Option Addr} {na0 ca0 ga1q0:Nat} {a1q0:Int} {r:Int} (heq:slices_IndexFunc_Blob.f a0 a1q0=some r) (hra0:Rw kBlob H F Aa0 a0) (hca0:na0≤ca0) (hna0:na0=a0.length) (hga1q0:InG H F ga1q0 (.cells #[iv a1q0] 3 (0,0))):CallsH Tryz.prog 87 #[.slice Aa0 na0 ca0,.func (.func 94) #[] #[.pointer (some ⟨ga1q0,0,none⟩)]] H w0 (F) (S87 F H r):=by
 refine Co C87 Tryz.func87 Tryz.ntmps87 ?_
 subst hna0
 unfold slices_IndexFunc_Blob.f at heq
 refine Sa 1<|Zd 1<|Sa 2<|Zd 3<|An 2 ?_
 exact Gt 0 [] (((slices_IndexFunc_Blob.l2_c (e1:=slices_IndexFunc_Blob.e1) (slices_IndexFunc_Blob.e1_c)) big) a0 _ _ _ a1q0 0 hra0 hca0 hga1q0 heq)
noncomputable def C59:Ctx:={ P:=Tryz.prog,f:=59,N:=42,c:=bodyOf Tryz.f59 }
def S59 (F:List Ch) (H0:Hp) (r:(List Blob)) (v:Value) (H:Hp) (cs:List Ch):Prop:=∃ (A0:Option Addr) (c0:Nat) (ch0:Ch),H0=H∧v=.slice A0 r.length c0∧ch0::F=cs∧SlOwn kBlob 45 H A0 c0 r ch0
theorem slices_DeleteFunc_Blob.e1_c {r:(List Blob)}:∀ (v_s0:List Blob) (Av_s0:Option Addr) (nv_s0 cv_s0:Nat) (chv_s0:Ch) (v_i5:Int) ,SlOwn kBlob 45 H Av_s0 cv_s0 v_s0 chv_s0→nv_s0=v_s0.length→slices_DeleteFunc_Blob.e1 v_s0 v_i5=some r→RunH C59 (S59 F H r) H w0 [.c [1,1,1,1,0],.c [1,1,1,1,1]] [(0,.slice Av_s0 nv_s0 cv_s0),(5,iv v_i5)] H (chv_s0::F):=by
 intro v_s0 Av_s0 nv_s0 cv_s0 chv_s0 v_i5 hov_s0 hnv_s0 heq
 subst hnv_s0
 unfold slices_DeleteFunc_Blob.e1 at heq
 refine Sa 0 ?_
 obtain ⟨hn2,heq⟩:=guard?_some heq
 have hn1:v_s0.length - v_i5.toNat=(v_s0.drop v_i5.toNat).length:=by have h1:=both_of hn2; have h3:=trivial; (try simp); (try omega)
 have ho1:=hov_s0.drop v_i5.toNat (by have h2:=hov_s0.cap; have h3:=trivial; have h1:=both_of hn2; omega)
 refine Zv 3 [⟨.need ((0:Int)≤v_i5∧v_i5≤((v_s0.length:Nat):Int)),fun w hh=>(both_of hn2)⟩] ?_
 refine RgH.does (DoesH.clear (k:=0) (j:=v_i5.toNat) (n:=v_s0.length - v_i5.toNat) (t:=22) (e:=45) (bytes:=48) (kd:=kBlob) (A:=Av_s0) (A2:=(shiftA cv_s0 v_i5.toNat 5 Av_s0)) (c:=cv_s0) (c2:=(cv_s0 - v_i5.toNat)) (xs:=v_s0) (z:=(⟨ByteArray.empty,0,0,0,0⟩:Blob)) (zc:=#[.string ByteArray.empty,iv 0,iv 0,iv 0,iv 0]) (by kernel_rfl) (by have h3:=trivial; omega) (by kernel_rfl) (by kernel_rfl) kBlob_mk (by kernel_rfl) rfl hov_s0 (by have h1:=both_of hn2; have h3:=trivial; omega) (fun h b off hA=>shiftA_at h hov_s0.cap hA)) ?_
 rintro _ _ _ _ ⟨ch1,rfl,rfl,rfl,ho2⟩
 have hn3:v_s0.length=(v_s0.take v_i5.toNat++List.replicate (v_s0.length - v_i5.toNat) (⟨ByteArray.empty,0,0,0,0⟩:Blob)).length:=by have h1:=both_of hn2; have h3:=trivial; simp; omega
 refine RgH.nrm ?_
 refine Dn<|Sa 1 ?_
 obtain ⟨hn5,heq⟩:=guard?_some heq
 have hn4:v_i5.toNat=((v_s0.take v_i5.toNat++List.replicate (v_s0.length - v_i5.toNat) (⟨ByteArray.empty,0,0,0,0⟩:Blob)).take v_i5.toNat).length:=by have h1:=both_of hn5; have h3:=hn3; (try simp); (try omega)
 have ho3:=ho2.take v_i5.toNat
 refine Zw 4 [⟨.need ((0:Int)≤v_i5∧v_i5≤((cv_s0:Nat):Int)),fun w hh=>⟨(both_of hn5).1,(by have h1:=(both_of hn5).2; have h2:=(show v_s0.length≤cv_s0 from by have:=ho2.cap; have:=hn3; omega); have h3:=hn3; omega)⟩⟩] ?_
 obtain rfl:=Option.some.inj heq
 exact RunH.done (by kernel_rfl) Tryz.func59 (v:=.slice Av_s0 v_i5.toNat cv_s0) (by kernel_rfl) ⟨Av_s0,cv_s0,ch1,rfl,(by first | rfl | exact congrArg (fun q=>Value.slice _ q _) hn4 | (rw [hn4]; done) | (simp only [← hn4])),(by first | rfl | (rw [hn4]; done) | (rw [hn4]; rfl) | (simp only [List.length_set]; done) | (simp only [List.length_set]; rfl)),ho3⟩
theorem slices_DeleteFunc_Blob.j3_c {r:(List Blob)} (backl2:Int→(List Blob)→Int→Int→Option (List Blob))
  (hbackl2:∀ (ga1q0:Nat) (a1q0:Int) (v_s0:List Blob) (Av_s0:Option Addr) (nv_s0 cv_s0:Nat) (chv_s0:Ch) (v_i5 v_j6:Int) ,InG H F ga1q0 (.cells #[iv a1q0] 3 (0,0))→SlOwn kBlob 45 H Av_s0 cv_s0 v_s0 chv_s0→nv_s0=v_s0.length→backl2 a1q0 v_s0 v_i5 v_j6=some r→RunH C59 (S59 F H r) H w0 [.c [1,1,1,0,1,0,0],.l [1,1,1,0,1,0,0],.b 0,.c [1,1,1,1]] [(0,.slice Av_s0 nv_s0 cv_s0),(1,.func (.func 94) #[] #[.pointer (some ⟨ga1q0,0,none⟩)]),(5,iv v_i5),(6,iv v_j6)] H (chv_s0::F)):∀ (ga1q0:Nat) (a1q0 v_j6:Int) (v_s0:List Blob) (Av_s0:Option Addr) (nv_s0 cv_s0:Nat) (chv_s0:Ch) (v_i5:Int) ,InG H F ga1q0 (.cells #[iv a1q0] 3 (0,0))→SlOwn kBlob 45 H Av_s0 cv_s0 v_s0 chv_s0→nv_s0=v_s0.length→slices_DeleteFunc_Blob.j3 backl2 a1q0 v_j6 v_s0 v_i5=some r→RunH C59 (S59 F H r) H w0 [.c [1,1,1,0,1,0,0,1,1],.l [1,1,1,0,1,0,0],.b 0,.c [1,1,1,1]] [(0,.slice Av_s0 nv_s0 cv_s0),(1,.func (.func 94) #[] #[.pointer (some ⟨ga1q0,0,none⟩)]),(5,iv v_i5),(6,iv v_j6)] H (chv_s0::F):=by
 intro ga1q0 a1q0 v_j6 v_s0 Av_s0 nv_s0 cv_s0 chv_s0 v_i5 hga1q0 hov_s0 hnv_s0 heq
 subst hnv_s0
 unfold slices_DeleteFunc_Blob.j3 at heq
 refine Sa 0<|Zd 3<|An 1 ?_
 exact Gt 0 [] (hbackl2 _ a1q0 v_s0 _ _ _ _ v_i5 (w64 (v_j6+1)) hga1q0 hov_s0 rfl heq)
theorem slices_DeleteFunc_Blob.l2_c {r:(List Blob)} (e1:(List Blob)→Int→Option (List Blob))
  (he1:∀ (v_s0:List Blob) (Av_s0:Option Addr) (nv_s0 cv_s0:Nat) (chv_s0:Ch) (v_i5:Int) ,SlOwn kBlob 45 H Av_s0 cv_s0 v_s0 chv_s0→nv_s0=v_s0.length→e1 v_s0 v_i5=some r→RunH C59 (S59 F H r) H w0 [.c [1,1,1,1,0],.c [1,1,1,1,1]] [(0,.slice Av_s0 nv_s0 cv_s0),(5,iv v_i5)] H (chv_s0::F)):∀ (k:Nat),∀ (ga1q0:Nat) (a1q0:Int) (v_s0:List Blob) (Av_s0:Option Addr) (nv_s0 cv_s0:Nat) (chv_s0:Ch) (v_i5 v_j6:Int) ,InG H F ga1q0 (.cells #[iv a1q0] 3 (0,0))→SlOwn kBlob 45 H Av_s0 cv_s0 v_s0 chv_s0→nv_s0=v_s0.length→slices_DeleteFunc_Blob.l2 e1 k a1q0 v_s0 v_i5 v_j6=some r→RunH C59 (S59 F H r) H w0 [.c [1,1,1,0,1,0,0],.l [1,1,1,0,1,0,0],.b 0,.c [1,1,1,1]] [(0,.slice Av_s0 nv_s0 cv_s0),(1,.func (.func 94) #[] #[.pointer (some ⟨ga1q0,0,none⟩)]),(5,iv v_i5),(6,iv v_j6)] H (chv_s0::F):=by
 intro k
 induction k with
 | zero=>intro ga1q0 a1q0 v_s0 Av_s0 nv_s0 cv_s0 chv_s0 v_i5 v_j6 hga1q0 hov_s0 hnv_s0 heq; exact nomatch (show (none:Option (List Blob))=some r from heq)
 | succ k ihk =>
  intro ga1q0 a1q0 v_s0 Av_s0 nv_s0 cv_s0 chv_s0 v_i5 v_j6 hga1q0 hov_s0 hnv_s0 heq
  subst hnv_s0
  rw [slices_DeleteFunc_Blob.l2] at heq
  refine Sa 2<|Zd 4 ?_
  refine Cb heq ?_ ?_
  ·intro hb2 heq
   refine Sa 4 ?_
   obtain ⟨x1,hx1,heq⟩:=bind_some heq
   obtain ⟨ha1,cs1,hK1,hcc1⟩:=hov_s0.get hx1
   obtain ⟨rfl⟩:=kBlob_open hK1
   refine Zv 4 ([nx ha1 hx1]++els hcc1 0) ?_
   refine RgH.does (DoesH.new (d:=7) (v:=fun g=>.pointer (some ⟨g,0,none⟩)) (o:=fun g=>.cells #[.string ByteArray.empty,iv 0,iv 0,iv 0,iv 0] 45 (0,0)) (fun g=>by kernel_rfl)) ?_
   rintro _ _ _ _ ⟨g1,rfl,rfl,rfl⟩
   refine RgH.does (DoesH.store (k:=0) (g:=g1) (off:=0) (v:=.agg #[.string x1.Digest,iv x1.Size,iv x1.Used,iv x1.Until,iv x1.Pins]) (cells':=#[.string x1.Digest,iv x1.Size,iv x1.Used,iv x1.Until,iv x1.Pins]) (by kernel_rfl) rfl (by kernel_rfl) (by kernel_rfl)) ?_
   rintro _ _ _ _ ⟨rfl,rfl,rfl⟩
   refine RgH.nrm ?_
   refine Dn<|Sa 1<|Zv 2 (bxs 0) ?_
   obtain ⟨y2,hy2,heq⟩:=bind_some heq
   refine RgH.does (cal 28 (cache_leaving_1_c hy2 (hga1q0.wk (fun _ h=>(.tail _ (.tail _ h)))))) ?_
   rintro _ _ _ _ ⟨_,rfl,rfl,rfl,rfl⟩
   refine Zd 4 ?_
   refine Cb heq ?_ ?_
   ·intro hb3 heq
    refine Sa 1 ?_
    obtain ⟨x2,hx2,heq⟩:=bind_some heq
    obtain ⟨ha2,cs2,hK2,hcc2⟩:=hov_s0.get hx2
    obtain ⟨rfl⟩:=kBlob_open hK2
    refine Zv 4 (bxs 0++[nx ha2 hx2]) ?_
    obtain ⟨ha3,cs3,hK3,hcc3⟩:=hov_s0.get hx2
    obtain ⟨rfl⟩:=kBlob_open hK3
    refine RgH.does (DoesH.storeEl (a:=((adr Av_s0).add (v_i5.toNat*5))) (k:=1) (kd:=kBlob) (c0:=[.string x2.Digest,iv x2.Size,iv x2.Used,iv x2.Until,iv x2.Pins]) (x':=x1) (o:=0) (ix:=v_i5) (v:=.agg #[.string x1.Digest,iv x1.Size,iv x1.Used,iv x1.Until,iv x1.Pins]) (by kernel_rfl) rfl hov_s0 hx2 (by kernel_rfl) hcc3 rfl (Nat.le_of_ble_eq_true (by kernel_rfl)) kBlob_mk) ?_
    rintro _ _ _ _ ⟨ch2,rfl,rfl,rfl,ho4⟩
    have hn6:v_s0.length=(v_s0.set v_i5.toNat x1).length:=by rw [List.length_set]
    refine RgH.nrm ?_
    refine Dn<|Sa 0<|Zd 3<|An 1 ?_
    exact Gt 1 [] ((slices_DeleteFunc_Blob.j3_c (backl2:=(slices_DeleteFunc_Blob.l2 e1 k)) ihk) _ a1q0 v_j6 (v_s0.set v_i5.toNat x1) _ _ _ _ (w64 (v_i5+1)) hga1q0 ho4 hn6 heq)
   ·intro hb3 heq
    refine An 2 ?_
    exact Gt 1 [] ((slices_DeleteFunc_Blob.j3_c (backl2:=(slices_DeleteFunc_Blob.l2 e1 k)) ihk) _ a1q0 v_j6 v_s0 _ _ _ _ v_i5 hga1q0 hov_s0 rfl heq)
  ·intro hb2 heq
   refine An 2 ?_
   exact Gt 0 [] (he1 v_s0 _ _ _ _ v_i5 hov_s0 rfl heq)
theorem slices_DeleteFunc_Blob_c {a0:List Blob} {Aa0:Option Addr} {na0 ca0:Nat} {cha0:Ch} {ga1q0:Nat} {a1q0:Int} {r:(List Blob)} (heq:slices_DeleteFunc_Blob.f a0 a1q0=some r) (hoa0:SlOwn kBlob 45 H Aa0 ca0 a0 cha0) (hna0:na0=a0.length) (hga1q0:InG H F ga1q0 (.cells #[iv a1q0] 3 (0,0))):CallsH Tryz.prog 59 #[.slice Aa0 na0 ca0,.func (.func 94) #[] #[.pointer (some ⟨ga1q0,0,none⟩)]] H w0 (cha0::F) (S59 F H r):=by
 refine Co C59 Tryz.func59 Tryz.ntmps59 ?_
 subst hna0
 unfold slices_DeleteFunc_Blob.f at heq
 refine Sa 1<|Zd 1<|Sa 1<|Zk 2 ?_
 obtain ⟨y1,hy1,heq⟩:=bind_some heq
 refine RgH.does (cal 10 (slices_IndexFunc_Blob_c hy1 (hoa0.rw (.head _)) hoa0.cap rfl (hga1q0.wk (fun _ h=>(.tail _ h))))) ?_
 rintro _ _ _ _ ⟨_,rfl,rfl,rfl,rfl⟩
 refine Zd 4<|Sa 2<|Zd 2 ?_
 refine Cb heq ?_ ?_
 ·intro hb1 heq
  refine Sa 1<|Zd 2 ?_
  obtain rfl:=Option.some.inj heq
  exact RunH.done (by kernel_rfl) Tryz.func59 (v:=.slice Aa0 a0.length ca0) (by kernel_rfl) ⟨Aa0,ca0,cha0,rfl,rfl,rfl,hoa0⟩
 ·intro hb1 heq
  refine Sa 3<|Zd 3<|An 2 ?_
  exact Gt 0 [] (((slices_DeleteFunc_Blob.l2_c (e1:=slices_DeleteFunc_Blob.e1) (slices_DeleteFunc_Blob.e1_c)) big) _ a1q0 a0 _ _ _ _ y1 (w64 (y1+1)) hga1q0 hoa0 rfl heq)
noncomputable def C104:Ctx:={ P:=Tryz.prog,f:=104,N:=6,c:=bodyOf Tryz.f104 }
def S104 (F:List Ch) (H0:Hp) (r:Bool) (v:Value) (H:Hp) (cs:List Ch):Prop:=H0=H∧v=.bool r∧F=cs
theorem cmp_isNaN_int_c {a0:Int} {r:Bool} (heq:cmp_isNaN_int.f a0=some r):CallsH Tryz.prog 104 #[iv a0] H w0 (F) (S104 F H r):=by
 refine Co C104 Tryz.func104 Tryz.ntmps104 ?_
 unfold cmp_isNaN_int.f at heq
 refine Sa 1<|Zd 1<|Sa 1<|Zd 4 ?_
 obtain rfl:=Option.some.inj heq
 exact RunH.done (by kernel_rfl) Tryz.func104 (v:=.bool (a0 != a0)) (by kernel_rfl) ⟨rfl,rfl,rfl⟩
noncomputable def C97:Ctx:={ P:=Tryz.prog,f:=97,N:=20,c:=bodyOf Tryz.f97 }
def S97 (F:List Ch) (H0:Hp) (r:Int) (v:Value) (H:Hp) (cs:List Ch):Prop:=H0=H∧v=iv r∧F=cs
theorem cmp_Compare_int_c {a0 a1:Int} {r:Int} (heq:cmp_Compare_int.f a0 a1=some r):CallsH Tryz.prog 97 #[iv a0,iv a1] H w0 (F) (S97 F H r):=by
 refine Co C97 Tryz.func97 Tryz.ntmps97 ?_
 unfold cmp_Compare_int.f at heq
 refine Sa 1<|Zd 1<|Sa 1<|Zk 1 ?_
 obtain ⟨y1,hy1,heq⟩:=bind_some heq
 refine RgH.does (cal 8 (cmp_isNaN_int_c hy1 )) ?_
 rintro _ _ _ _ ⟨_,rfl,rfl,rfl,rfl⟩
 refine Zd 3<|Sa 1<|Zk 1 ?_
 obtain ⟨y2,hy2,heq⟩:=bind_some heq
 refine RgH.does (cal 10 (cmp_isNaN_int_c hy2 )) ?_
 rintro _ _ _ _ ⟨_,rfl,rfl,rfl,rfl⟩
 refine Zd 3<|Sa 2<|Zd 1 ?_
 refine Cb heq ?_ ?_
 ·intro hb1 heq
  refine Sa 2<|Zd 1 ?_
  refine Cb heq ?_ ?_
  ·intro hb2 heq
   refine Sa 1<|Zd 1 ?_
   obtain rfl:=Option.some.inj heq
   exact RunH.done (by kernel_rfl) Tryz.func97 (v:=iv 0) (by kernel_rfl) ⟨rfl,rfl,rfl⟩
  ·intro hb2 heq
   refine Sa 2<|Zd 1 ?_
   obtain rfl:=Option.some.inj heq
   exact RunH.done (by kernel_rfl) Tryz.func97 (v:=iv (-1)) (by kernel_rfl) ⟨rfl,rfl,rfl⟩
 ·intro hb1 heq
  refine Sa 3<|Zd 1 ?_
  refine Cb heq ?_ ?_
  ·intro hb3 heq
   refine Sa 1<|Zd 1 ?_
   obtain rfl:=Option.some.inj heq
   exact RunH.done (by kernel_rfl) Tryz.func97 (v:=iv 1) (by kernel_rfl) ⟨rfl,rfl,rfl⟩
  ·intro hb3 heq
   refine Sa 3<|Zd 3 ?_
   refine Cb heq ?_ ?_
   ·intro hb4 heq
    refine Sa 1<|Zd 1 ?_
    obtain rfl:=Option.some.inj heq
    exact RunH.done (by kernel_rfl) Tryz.func97 (v:=iv (-1)) (by kernel_rfl) ⟨rfl,rfl,rfl⟩
   ·intro hb4 heq
    refine Sa 3<|Zd 3 ?_
    refine Cb heq ?_ ?_
    ·intro hb5 heq
     refine Sa 1<|Zd 1 ?_
     obtain rfl:=Option.some.inj heq
     exact RunH.done (by kernel_rfl) Tryz.func97 (v:=iv 1) (by kernel_rfl) ⟨rfl,rfl,rfl⟩
    ·intro hb5 heq
     refine Sa 2<|Zd 1 ?_
     obtain rfl:=Option.some.inj heq
     exact RunH.done (by kernel_rfl) Tryz.func97 (v:=iv 0) (by kernel_rfl) ⟨rfl,rfl,rfl⟩
noncomputable def C96:Ctx:={ P:=Tryz.prog,f:=96,N:=10,c:=bodyOf Tryz.f96 }
def S96 (F:List Ch) (H0:Hp) (r:Int) (v:Value) (H:Hp) (cs:List Ch):Prop:=H0=H∧v=iv r∧F=cs
theorem cache_leaving_2_c {a0 a1:Blob} {r:Int} (heq:cache_leaving_2.f a0 a1=some r):CallsH Tryz.prog 96 #[.agg #[.string a0.Digest,iv a0.Size,iv a0.Used,iv a0.Until,iv a0.Pins],.agg #[.string a1.Digest,iv a1.Size,iv a1.Used,iv a1.Until,iv a1.Pins]] H w0 (F) (S96 F H r):=by
 refine Co C96 Tryz.func96 Tryz.ntmps96 ?_
 unfold cache_leaving_2.f at heq
 refine Sa 1 ?_
 refine RgH.does (DoesH.new (d:=2) (v:=fun g=>.pointer (some ⟨g,0,none⟩)) (o:=fun g=>.cells #[.string a0.Digest,iv a0.Size,iv a0.Used,iv a0.Until,iv a0.Pins] 45 (0,0)) (fun g=>by kernel_rfl)) ?_
 rintro _ _ _ _ ⟨g1,rfl,rfl,rfl⟩
 refine RgH.does (DoesH.new (d:=3) (v:=fun g=>.pointer (some ⟨g,0,none⟩)) (o:=fun g=>.cells #[.string a1.Digest,iv a1.Size,iv a1.Used,iv a1.Until,iv a1.Pins] 45 (0,0)) (fun g=>by kernel_rfl)) ?_
 rintro _ _ _ _ ⟨g2,rfl,rfl,rfl⟩
 refine Zd 3<|Sa 1<|Zv 4 [bx 1 2,bx 0 2] ?_
 obtain ⟨y1,hy1,heq⟩:=bind_some heq
 refine RgH.does (cal 9 (cmp_Compare_int_c hy1 )) ?_
 rintro _ _ _ _ ⟨_,rfl,rfl,rfl,rfl⟩
 refine Zd 6 ?_
 obtain rfl:=Option.some.inj heq
 refine Up 2 [] ?_
 exact RunH.done (by kernel_rfl) Tryz.func96 (v:=iv y1) (by kernel_rfl) ⟨rfl,rfl,rfl⟩
noncomputable def C111:Ctx:={ P:=Tryz.prog,f:=111,N:=53,c:=bodyOf Tryz.f111 }
def S111 (F:List Ch) (H0:Hp) (Aa0:Option Addr) (ca0:Nat) (la0:Nat) (r:(List Blob)) (v:Value) (H:Hp) (cs:List Ch):Prop:=∃ (ch0:Ch),H0=H∧v=.tuple #[]∧ch0::F=cs∧SlOwn kBlob 45 H Aa0 ca0 r ch0∧la0=r.length
theorem slices_insertionSortCmpFunc_Blob.e2_c {r:(List Blob)} (backl1:Int→Int→(List Blob)→Int→Option (List Blob))
  (hbackl1:∀ (Aa0:Option Addr) (ca0 la0:Nat) (a1 a2:Int) (v_data0:List Blob) (chv_data0:Ch) (nv_data0:Nat) (v_i8:Int) ,nv_data0=v_data0.length→la0=nv_data0→SlOwn kBlob 45 H Aa0 ca0 v_data0 chv_data0→backl1 a1 a2 v_data0 v_i8=some r→RunH C111 (S111 F H Aa0 ca0 la0 r) H w0 [.c [1,0,0],.l [1,0,0],.b 0] [(0,.slice Aa0 nv_data0 ca0),(1,iv a1),(2,iv a2),(3,.func (.func 96) #[] #[]),(8,iv v_i8)] H (chv_data0::F)):∀ (Aa0:Option Addr) (ca0 la0:Nat) (a1 a2 v_i8:Int) (v_data0:List Blob) (chv_data0:Ch) (nv_data0:Nat) ,nv_data0=v_data0.length→la0=nv_data0→SlOwn kBlob 45 H Aa0 ca0 v_data0 chv_data0→slices_insertionSortCmpFunc_Blob.e2 backl1 a1 a2 v_i8 v_data0=some r→RunH C111 (S111 F H Aa0 ca0 la0 r) H w0 [.c [1,0,0,1,1],.l [1,0,0],.b 0] [(0,.slice Aa0 nv_data0 ca0),(1,iv a1),(2,iv a2),(3,.func (.func 96) #[] #[]),(8,iv v_i8)] H (chv_data0::F):=by
 intro Aa0 ca0 la0 a1 a2 v_i8 v_data0 chv_data0 nv_data0 hnv_data0 hlv_data0 hov_data0 heq
 subst hnv_data0
 unfold slices_insertionSortCmpFunc_Blob.e2 at heq
 refine Sa 0<|Zd 3<|An 1 ?_
 exact Gt 0 [] (hbackl1 _ _ _ a1 a2 v_data0 _ _ (w64 (v_i8+1)) rfl hlv_data0 hov_data0 heq)
theorem slices_insertionSortCmpFunc_Blob.l3_c {r:(List Blob)} (e2:Int→Int→Int→(List Blob)→Option (List Blob))
  (he2:∀ (Aa0:Option Addr) (ca0 la0:Nat) (a1 a2 v_i8:Int) (v_data0:List Blob) (chv_data0:Ch) (nv_data0:Nat) ,nv_data0=v_data0.length→la0=nv_data0→SlOwn kBlob 45 H Aa0 ca0 v_data0 chv_data0→e2 a1 a2 v_i8 v_data0=some r→RunH C111 (S111 F H Aa0 ca0 la0 r) H w0 [.c [1,0,0,1,1],.l [1,0,0],.b 0] [(0,.slice Aa0 nv_data0 ca0),(1,iv a1),(2,iv a2),(3,.func (.func 96) #[] #[]),(8,iv v_i8)] H (chv_data0::F)):∀ (k:Nat),∀ (Aa0:Option Addr) (ca0 la0:Nat) (a1 a2 v_i8:Int) (v_data0:List Blob) (chv_data0:Ch) (nv_data0:Nat) (v_j9:Int) ,nv_data0=v_data0.length→la0=nv_data0→SlOwn kBlob 45 H Aa0 ca0 v_data0 chv_data0→slices_insertionSortCmpFunc_Blob.l3 e2 k a1 a2 v_i8 v_data0 v_j9=some r→RunH C111 (S111 F H Aa0 ca0 la0 r) H w0 [.c [1,0,0,1,0,0,1,0,0],.l [1,0,0,1,0,0,1,0,0],.b 2,.b 1,.c [1,0,0,1,1],.l [1,0,0],.b 0] [(0,.slice Aa0 nv_data0 ca0),(1,iv a1),(2,iv a2),(3,.func (.func 96) #[] #[]),(8,iv v_i8),(9,iv v_j9)] H (chv_data0::F):=by
 intro k
 induction k with
 | zero=>intro Aa0 ca0 la0 a1 a2 v_i8 v_data0 chv_data0 nv_data0 v_j9 hnv_data0 hlv_data0 hov_data0 heq; exact nomatch (show (none:Option (List Blob))=some r from heq)
 | succ k ihk =>
  intro Aa0 ca0 la0 a1 a2 v_i8 v_data0 chv_data0 nv_data0 v_j9 hnv_data0 hlv_data0 hov_data0 heq
  subst hnv_data0
  rw [slices_insertionSortCmpFunc_Blob.l3] at heq
  refine An 2 ?_
  obtain ⟨t1,ht1,heq⟩:=bind_some heq
  have K5:RunH C111 (S111 F H Aa0 ca0 la0 r) H w0 [.c [1,0,0,1,0,0,1,0,0,0,1],.c [1,0,0,1,0,0,1,0,0,1],.l [1,0,0,1,0,0,1,0,0],.b 2,.b 1,.c [1,0,0,1,1],.l [1,0,0],.b 0] [(0,.slice Aa0 v_data0.length ca0),(1,iv a1),(2,iv a2),(3,.func (.func 96) #[] #[]),(8,iv v_i8),(9,iv v_j9),(34,.bool t1)] H (chv_data0::F):=by
   refine Cb heq ?_ ?_
   ·intro hb3 heq
    refine An 3<|Sd 1 18 [] [3,3,3,3,3,3,3,3,3,3,3,3,3,3,3,1,3,2]<|Zr [0,1] 16 [] (Pk 1 [0]) (Pk 1 [])<|Zt [2,3,4] 13 [] (Pk 1 []) ?_
    obtain ⟨x3,hx3,heq⟩:=bind_some heq
    obtain ⟨ha3,cs3,hK3,hcc3⟩:=hov_data0.get hx3
    obtain ⟨rfl⟩:=kBlob_open hK3
    refine Zr [5,6,7,8,9] 8 ([nx ha3 hx3]++els hcc3 0) (Pk 1 [0]) (Pk 1 []) ?_
    obtain ⟨x4,hx4,heq⟩:=bind_some heq
    obtain ⟨ha4,cs4,hK4,hcc4⟩:=hov_data0.get hx4
    obtain ⟨rfl⟩:=kBlob_open hK4
    refine Zt [10,11,12] 5 [nx ha4 hx4] (Pk 1 []) ?_
    obtain ⟨ha5,cs5,hK5,hcc5⟩:=hov_data0.get hx4
    obtain ⟨rfl⟩:=kBlob_open hK5
    refine Zr [13,14] 3 (els hcc5 0++[nx ha5 hx4]) (Pk 1 [0]) (Pk 1 []) ?_
    obtain ⟨ha6,cs6,hK6,hcc6⟩:=hov_data0.get hx4
    obtain ⟨rfl⟩:=kBlob_open hK6
    refine Dz 15 (DoesH.storeEl (a:=((adr Aa0).add (v_j9.toNat*5))) (k:=0) (kd:=kBlob) (c0:=[.string x4.Digest,iv x4.Size,iv x4.Used,iv x4.Until,iv x4.Pins]) (x':=x3) (o:=0) (ix:=v_j9) (v:=.agg #[.string x3.Digest,iv x3.Size,iv x3.Used,iv x3.Until,iv x3.Pins]) (by kernel_rfl) rfl hov_data0 hx4 (by kernel_rfl) hcc6 rfl (Nat.le_of_ble_eq_true (by kernel_rfl)) kBlob_mk) ?_
    rintro _ _ _ _ ⟨ch1,rfl,rfl,rfl,ho1⟩
    have hn1:v_data0.length=(v_data0.set v_j9.toNat x3).length:=by rw [List.length_set]
    refine ⟨fun _ w hh=>⟨(fun h=>by cases h),fun _=>(Pk 1 []) w hh,(fun h=>by cases h)⟩,?_⟩
    refine DrH.nrm ?_
    obtain ⟨x5,hx5,heq⟩:=bind_some heq
    obtain ⟨ha7,cs7,hK7,hcc7⟩:=ho1.get hx5
    obtain ⟨rfl⟩:=kBlob_open hK7
    refine Zt [16] 1 [ny ha7 hx5 (show v_data0.length=_ from hn1)] (Pk 1 []) ?_
    obtain ⟨ha8,cs8,hK8,hcc8⟩:=ho1.get hx5
    obtain ⟨rfl⟩:=kBlob_open hK8
    refine Dz 17 (DoesH.storeEl (a:=((adr Aa0).add ((w64 (v_j9 - 1)).toNat*5))) (k:=0) (kd:=kBlob) (c0:=[.string x5.Digest,iv x5.Size,iv x5.Used,iv x5.Until,iv x5.Pins]) (x':=x4) (o:=0) (ix:=(w64 (v_j9 - 1))) (v:=.agg #[.string x4.Digest,iv x4.Size,iv x4.Used,iv x4.Until,iv x4.Pins]) (by kernel_rfl) rfl ho1 hx5 (by kernel_rfl) hcc8 rfl (Nat.le_of_ble_eq_true (by kernel_rfl)) kBlob_mk) ?_
    rintro _ _ _ _ ⟨ch2,rfl,rfl,rfl,ho2⟩
    have hn2:v_data0.length=((v_data0.set v_j9.toNat x3).set (w64 (v_j9 - 1)).toNat x4).length:=by rw [List.length_set]; exact hn1
    refine ⟨fun _ w hh=>⟨(fun h=>by cases h),(fun h=>absurd h (by decide)),(fun h=>by cases h)⟩,?_⟩
    refine DrH.nrm ?_
    refine DrH.done (by kernel_rfl) ?_
    refine Sa 1<|Zd 3<|An 1 ?_
    exact Gt 0 [] (ihk _ _ _ a1 a2 v_i8 ((v_data0.set v_j9.toNat x3).set (w64 (v_j9 - 1)).toNat x4) _ _ (w64 (v_j9 - 1)) hn2 hlv_data0 ho2 heq)
   ·intro hb3 heq
    refine An 2 ?_
    exact Gt 0 [] (he2 _ _ _ a1 a2 v_i8 v_data0 _ _ rfl hlv_data0 hov_data0 heq)
  replace heq:=ht1
  refine Sd 0 17 [] [3,3,3,3,3,3,3,3,3,3,3,3,3,3,0,3,3]<|Zr [0,1,2,3] 13 [] (Pk 1 [0]) (Pk 1 [0]) ?_
  rcases bool_cases (decide (a1<v_j9)) with hb2 | hb2
  ·replace heq:=bif_true hb2 heq
   refine Zu 21 (congrArg Value.bool hb2) ?_
   obtain ⟨x1,hx1,heq⟩:=bind_some heq
   obtain ⟨ha1,cs1,hK1,hcc1⟩:=hov_data0.get hx1
   obtain ⟨rfl⟩:=kBlob_open hK1
   obtain ⟨x2,hx2,heq⟩:=bind_some heq
   obtain ⟨ha2,cs2,hK2,hcc2⟩:=hov_data0.get hx2
   obtain ⟨rfl⟩:=kBlob_open hK2
   refine Zr [4,5,6,7,8,9,10,11,12,13] 3 ([nx ha1 hx1]++els hcc1 0++[nx ha2 hx2]++els hcc2 0) (Pk 1 [0]) (Pk 1 [0]) ?_
   obtain ⟨y1,hy1,heq⟩:=bind_some heq
   refine Dz 14 (cal 32 (cache_leaving_2_c hy1 )) ?_
   rintro _ _ _ _ ⟨_,rfl,rfl,rfl,rfl⟩
   refine ⟨fun _ w hh=>⟨fun _=>(Pk 1 [0]) w hh,fun _=>(Pk 1 [0]) w hh,(fun h=>by cases h)⟩,?_⟩
   refine Zr [15,16] 0 [] (Pk 1 [0]) (Pk 1 [0]) ?_
   obtain rfl:=Option.some.inj heq
   refine DrH.done (by kernel_rfl) ?_
   exact Gt 0 [] (K5)
  ·replace heq:=bif_false hb2 heq
   refine Zu 21 (congrArg Value.bool hb2)<|Zr [4,5,6,7,8,9,10,11,12,13,14,15,16] 0 [] (Pk 1 [0]) (Pk 1 [0]) ?_
   obtain rfl:=Option.some.inj heq
   refine DrH.done (by kernel_rfl) ?_
   exact Gt 0 [] (K5)
theorem slices_insertionSortCmpFunc_Blob.l1_c {r:(List Blob)}:∀ (k:Nat),∀ (Aa0:Option Addr) (ca0 la0:Nat) (a1 a2:Int) (v_data0:List Blob) (chv_data0:Ch) (nv_data0:Nat) (v_i8:Int) ,nv_data0=v_data0.length→la0=nv_data0→SlOwn kBlob 45 H Aa0 ca0 v_data0 chv_data0→slices_insertionSortCmpFunc_Blob.l1 k a1 a2 v_data0 v_i8=some r→RunH C111 (S111 F H Aa0 ca0 la0 r) H w0 [.c [1,0,0],.l [1,0,0],.b 0] [(0,.slice Aa0 nv_data0 ca0),(1,iv a1),(2,iv a2),(3,.func (.func 96) #[] #[]),(8,iv v_i8)] H (chv_data0::F):=by
 intro k
 induction k with
 | zero=>intro Aa0 ca0 la0 a1 a2 v_data0 chv_data0 nv_data0 v_i8 hnv_data0 hlv_data0 hov_data0 heq; exact nomatch (show (none:Option (List Blob))=some r from heq)
 | succ k ihk =>
  intro Aa0 ca0 la0 a1 a2 v_data0 chv_data0 nv_data0 v_i8 hnv_data0 hlv_data0 hov_data0 heq
  subst hnv_data0
  rw [slices_insertionSortCmpFunc_Blob.l1] at heq
  refine Sa 2<|Zd 3 ?_
  refine Cb heq ?_ ?_
  ·intro hb1 heq
   refine Sa 4<|Zd 2<|An 2 ?_
   exact Gt 0 [] (((slices_insertionSortCmpFunc_Blob.l3_c (e2:=slices_insertionSortCmpFunc_Blob.e2 ((slices_insertionSortCmpFunc_Blob.l1 k))) (slices_insertionSortCmpFunc_Blob.e2_c (backl1:=(slices_insertionSortCmpFunc_Blob.l1 k)) ihk)) big) _ _ _ a1 a2 v_i8 v_data0 _ _ v_i8 rfl hlv_data0 hov_data0 heq)
  ·intro hb1 heq
   refine An 1 ?_
   obtain rfl:=Option.some.inj heq
   exact RunH.done (by kernel_rfl) Tryz.func111 (v:=.tuple #[]) (by kernel_rfl) ⟨chv_data0,rfl,rfl,rfl,hov_data0,(hlv_data0.trans rfl)⟩
theorem slices_insertionSortCmpFunc_Blob_c {a0:List Blob} {Aa0:Option Addr} {na0 ca0:Nat} {cha0:Ch} {a1 a2:Int} {r:(List Blob)} (heq:slices_insertionSortCmpFunc_Blob.f a0 a1 a2=some r) (hoa0:SlOwn kBlob 45 H Aa0 ca0 a0 cha0) (hna0:na0=a0.length):CallsH Tryz.prog 111 #[.slice Aa0 na0 ca0,iv a1,iv a2,.func (.func 96) #[] #[]] H w0 (cha0::F) (S111 F H Aa0 ca0 na0 r):=by
 refine Co C111 Tryz.func111 Tryz.ntmps111 ?_
 suffices key0:∀ (la0:Nat),la0=na0→RunH C111 (S111 F H Aa0 ca0 la0 r) H w0 [.c []] (argL 0 [.slice Aa0 na0 ca0,iv a1,iv a2,.func (.func 96) #[] #[]]) H (cha0::F) from key0 na0 rfl
 intro la0 hla0
 subst hna0
 unfold slices_insertionSortCmpFunc_Blob.f at heq
 refine Sa 1<|Zd 3<|An 2 ?_
 exact Gt 0 [] (((slices_insertionSortCmpFunc_Blob.l1_c) big) _ _ _ a1 a2 a0 _ _ (w64 (a1+1)) rfl hla0 hoa0 heq)
noncomputable def C116:Ctx:={ P:=Tryz.prog,f:=116,N:=38,c:=bodyOf Tryz.f116 }
def S116 (F:List Ch) (H0:Hp) (Aa0:Option Addr) (ca0:Nat) (la0:Nat) (r:(List Blob)) (v:Value) (H:Hp) (cs:List Ch):Prop:=∃ (ch0:Ch),H0=H∧v=.tuple #[]∧ch0::F=cs∧SlOwn kBlob 45 H Aa0 ca0 r ch0∧la0=r.length
theorem slices_swapRangeCmpFunc_Blob.l1_c {r:(List Blob)}:∀ (k:Nat),∀ (Aa0:Option Addr) (ca0 la0:Nat) (a1 a2 a3:Int) (v_data0:List Blob) (chv_data0:Ch) (nv_data0:Nat) (v_i10:Int) ,nv_data0=v_data0.length→la0=nv_data0→SlOwn kBlob 45 H Aa0 ca0 v_data0 chv_data0→slices_swapRangeCmpFunc_Blob.l1 k a1 a2 a3 v_data0 v_i10=some r→RunH C116 (S116 F H Aa0 ca0 la0 r) H w0 [.c [1,0,0],.l [1,0,0],.b 0] [(0,.slice Aa0 nv_data0 ca0),(1,iv a1),(2,iv a2),(3,iv a3),(10,iv v_i10)] H (chv_data0::F):=by
 intro k
 induction k with
 | zero=>intro Aa0 ca0 la0 a1 a2 a3 v_data0 chv_data0 nv_data0 v_i10 hnv_data0 hlv_data0 hov_data0 heq; exact nomatch (show (none:Option (List Blob))=some r from heq)
 | succ k ihk =>
  intro Aa0 ca0 la0 a1 a2 a3 v_data0 chv_data0 nv_data0 v_i10 hnv_data0 hlv_data0 hov_data0 heq
  subst hnv_data0
  rw [slices_swapRangeCmpFunc_Blob.l1] at heq
  refine Sa 2<|Zd 3 ?_
  refine Cb heq ?_ ?_
  ·intro hb1 heq
   refine An 3<|Sd 1 24 [] [3,3,3,3,3,3,3,3,3,3,3,3,3,3,3,3,3,3,3,3,3,1,3,2]<|Zr [0,1,2,3] 20 [] (Pk 1 [0]) (Pk 1 [])<|Zt [4,5,6,7] 16 [] (Pk 1 []) ?_
   obtain ⟨x1,hx1,heq⟩:=bind_some heq
   obtain ⟨ha1,cs1,hK1,hcc1⟩:=hov_data0.get hx1
   obtain ⟨rfl⟩:=kBlob_open hK1
   refine Zr [8,9,10,11,12,13] 10 ([nx ha1 hx1]++els hcc1 0) (Pk 1 [0]) (Pk 1 []) ?_
   obtain ⟨x2,hx2,heq⟩:=bind_some heq
   obtain ⟨ha2,cs2,hK2,hcc2⟩:=hov_data0.get hx2
   obtain ⟨rfl⟩:=kBlob_open hK2
   refine Zt [14,15,16,17,18] 5 [nx ha2 hx2] (Pk 1 []) ?_
   obtain ⟨ha3,cs3,hK3,hcc3⟩:=hov_data0.get hx2
   obtain ⟨rfl⟩:=kBlob_open hK3
   refine Zr [19,20] 3 (els hcc3 0++[nx ha3 hx2]) (Pk 1 [0]) (Pk 1 []) ?_
   obtain ⟨ha4,cs4,hK4,hcc4⟩:=hov_data0.get hx2
   obtain ⟨rfl⟩:=kBlob_open hK4
   refine Dz 21 (DoesH.storeEl (a:=((adr Aa0).add ((w64 (a1+v_i10)).toNat*5))) (k:=0) (kd:=kBlob) (c0:=[.string x2.Digest,iv x2.Size,iv x2.Used,iv x2.Until,iv x2.Pins]) (x':=x1) (o:=0) (ix:=(w64 (a1+v_i10))) (v:=.agg #[.string x1.Digest,iv x1.Size,iv x1.Used,iv x1.Until,iv x1.Pins]) (by kernel_rfl) rfl hov_data0 hx2 (by kernel_rfl) hcc4 rfl (Nat.le_of_ble_eq_true (by kernel_rfl)) kBlob_mk) ?_
   rintro _ _ _ _ ⟨ch1,rfl,rfl,rfl,ho1⟩
   have hn1:v_data0.length=(v_data0.set (w64 (a1+v_i10)).toNat x1).length:=by rw [List.length_set]
   refine ⟨fun _ w hh=>⟨(fun h=>by cases h),fun _=>(Pk 1 []) w hh,(fun h=>by cases h)⟩,?_⟩
   refine DrH.nrm ?_
   obtain ⟨x3,hx3,heq⟩:=bind_some heq
   obtain ⟨ha5,cs5,hK5,hcc5⟩:=ho1.get hx3
   obtain ⟨rfl⟩:=kBlob_open hK5
   refine Zt [22] 1 [ny ha5 hx3 (show v_data0.length=_ from hn1)] (Pk 1 []) ?_
   obtain ⟨ha6,cs6,hK6,hcc6⟩:=ho1.get hx3
   obtain ⟨rfl⟩:=kBlob_open hK6
   refine Dz 23 (DoesH.storeEl (a:=((adr Aa0).add ((w64 (a2+v_i10)).toNat*5))) (k:=0) (kd:=kBlob) (c0:=[.string x3.Digest,iv x3.Size,iv x3.Used,iv x3.Until,iv x3.Pins]) (x':=x2) (o:=0) (ix:=(w64 (a2+v_i10))) (v:=.agg #[.string x2.Digest,iv x2.Size,iv x2.Used,iv x2.Until,iv x2.Pins]) (by kernel_rfl) rfl ho1 hx3 (by kernel_rfl) hcc6 rfl (Nat.le_of_ble_eq_true (by kernel_rfl)) kBlob_mk) ?_
   rintro _ _ _ _ ⟨ch2,rfl,rfl,rfl,ho2⟩
   have hn2:v_data0.length=((v_data0.set (w64 (a1+v_i10)).toNat x1).set (w64 (a2+v_i10)).toNat x2).length:=by rw [List.length_set]; exact hn1
   refine ⟨fun _ w hh=>⟨(fun h=>by cases h),(fun h=>absurd h (by decide)),(fun h=>by cases h)⟩,?_⟩
   refine DrH.nrm ?_
   refine DrH.done (by kernel_rfl) ?_
   refine Sa 1<|Zd 3<|An 1 ?_
   exact Gt 0 [] (ihk _ _ _ a1 a2 a3 ((v_data0.set (w64 (a1+v_i10)).toNat x1).set (w64 (a2+v_i10)).toNat x2) _ _ (w64 (v_i10+1)) hn2 hlv_data0 ho2 heq)
  ·intro hb1 heq
   refine An 1 ?_
   obtain rfl:=Option.some.inj heq
   exact RunH.done (by kernel_rfl) Tryz.func116 (v:=.tuple #[]) (by kernel_rfl) ⟨chv_data0,rfl,rfl,rfl,hov_data0,(hlv_data0.trans rfl)⟩
theorem slices_swapRangeCmpFunc_Blob_c {a0:List Blob} {Aa0:Option Addr} {na0 ca0:Nat} {cha0:Ch} {a1 a2 a3:Int} {r:(List Blob)} (heq:slices_swapRangeCmpFunc_Blob.f a0 a1 a2 a3=some r) (hoa0:SlOwn kBlob 45 H Aa0 ca0 a0 cha0) (hna0:na0=a0.length):CallsH Tryz.prog 116 #[.slice Aa0 na0 ca0,iv a1,iv a2,iv a3,.func (.func 96) #[] #[]] H w0 (cha0::F) (S116 F H Aa0 ca0 na0 r):=by
 refine Co C116 Tryz.func116 Tryz.ntmps116 ?_
 suffices key0:∀ (la0:Nat),la0=na0→RunH C116 (S116 F H Aa0 ca0 la0 r) H w0 [.c []] (argL 0 [.slice Aa0 na0 ca0,iv a1,iv a2,iv a3,.func (.func 96) #[] #[]]) H (cha0::F) from key0 na0 rfl
 intro la0 hla0
 subst hna0
 unfold slices_swapRangeCmpFunc_Blob.f at heq
 refine Sa 1<|Zd 1<|An 2 ?_
 exact Gt 0 [] (((slices_swapRangeCmpFunc_Blob.l1_c) big) _ _ _ a1 a2 a3 a0 _ _ 0 rfl hla0 hoa0 heq)
noncomputable def C114:Ctx:={ P:=Tryz.prog,f:=114,N:=58,c:=bodyOf Tryz.f114 }
def S114 (F:List Ch) (H0:Hp) (Aa0:Option Addr) (ca0:Nat) (la0:Nat) (r:(List Blob)) (v:Value) (H:Hp) (cs:List Ch):Prop:=∃ (ch0:Ch),H0=H∧v=.tuple #[]∧ch0::F=cs∧SlOwn kBlob 45 H Aa0 ca0 r ch0∧la0=r.length
theorem slices_rotateCmpFunc_Blob.e1_c {r:(List Blob)}:∀ (Aa0:Option Addr) (ca0 la0:Nat) (a2:Int) (v_data0:List Blob) (chv_data0:Ch) (nv_data0:Nat) (v_i10:Int) ,nv_data0=v_data0.length→la0=nv_data0→SlOwn kBlob 45 H Aa0 ca0 v_data0 chv_data0→slices_rotateCmpFunc_Blob.e1 a2 v_data0 v_i10=some r→RunH C114 (S114 F H Aa0 ca0 la0 r) H w0 [.c [1,1,1]] [(0,.slice Aa0 nv_data0 ca0),(2,iv a2),(4,.func (.func 96) #[] #[]),(10,iv v_i10)] H (chv_data0::F):=by
 intro Aa0 ca0 la0 a2 v_data0 chv_data0 nv_data0 v_i10 hnv_data0 hlv_data0 hov_data0 heq
 subst hnv_data0
 unfold slices_rotateCmpFunc_Blob.e1 at heq
 refine Sa 0<|Zk 7 ?_
 obtain ⟨y1,hy1,heq⟩:=bind_some heq
 refine RgH.does (cal 57 (slices_swapRangeCmpFunc_Blob_c hy1 hov_data0 rfl)) ?_
 rintro _ _ _ _ ⟨_,rfl,ch1,rfl,rfl,rfl,ho1,hn1⟩
 refine Dn ?_
 obtain rfl:=Option.some.inj heq
 exact RunH.done (by kernel_rfl) Tryz.func114 (v:=.tuple #[]) (by kernel_rfl) ⟨ch1,rfl,rfl,rfl,ho1,(hlv_data0.trans hn1)⟩
theorem slices_rotateCmpFunc_Blob.l2_c {r:(List Blob)} (e1:Int→(List Blob)→Int→Option (List Blob))
  (he1:∀ (Aa0:Option Addr) (ca0 la0:Nat) (a2:Int) (v_data0:List Blob) (chv_data0:Ch) (nv_data0:Nat) (v_i10:Int) ,nv_data0=v_data0.length→la0=nv_data0→SlOwn kBlob 45 H Aa0 ca0 v_data0 chv_data0→e1 a2 v_data0 v_i10=some r→RunH C114 (S114 F H Aa0 ca0 la0 r) H w0 [.c [1,1,1]] [(0,.slice Aa0 nv_data0 ca0),(2,iv a2),(4,.func (.func 96) #[] #[]),(10,iv v_i10)] H (chv_data0::F)):∀ (k:Nat),∀ (Aa0:Option Addr) (ca0 la0:Nat) (a2:Int) (v_data0:List Blob) (chv_data0:Ch) (nv_data0:Nat) (v_i10 v_j11:Int) ,nv_data0=v_data0.length→la0=nv_data0→SlOwn kBlob 45 H Aa0 ca0 v_data0 chv_data0→slices_rotateCmpFunc_Blob.l2 e1 k a2 v_data0 v_i10 v_j11=some r→RunH C114 (S114 F H Aa0 ca0 la0 r) H w0 [.c [1,1,0,0,0],.l [1,1,0,0,0],.b 0,.c [1,1,1]] [(0,.slice Aa0 nv_data0 ca0),(2,iv a2),(4,.func (.func 96) #[] #[]),(10,iv v_i10),(11,iv v_j11)] H (chv_data0::F):=by
 intro k
 induction k with
 | zero=>intro Aa0 ca0 la0 a2 v_data0 chv_data0 nv_data0 v_i10 v_j11 hnv_data0 hlv_data0 hov_data0 heq; exact nomatch (show (none:Option (List Blob))=some r from heq)
 | succ k ihk =>
  intro Aa0 ca0 la0 a2 v_data0 chv_data0 nv_data0 v_i10 v_j11 hnv_data0 hlv_data0 hov_data0 heq
  subst hnv_data0
  rw [slices_rotateCmpFunc_Blob.l2] at heq
  refine Sa 2<|Zd 3 ?_
  refine Cb heq ?_ ?_
  ·intro hb1 heq
   refine Sa 3<|Zd 3 ?_
   refine Cb heq ?_ ?_
   ·intro hb2 heq
    refine Sa 1<|Zk 7 ?_
    obtain ⟨y2,hy2,heq⟩:=bind_some heq
    refine RgH.does (cal 31 (slices_swapRangeCmpFunc_Blob_c hy2 hov_data0 rfl)) ?_
    rintro _ _ _ _ ⟨_,rfl,ch2,rfl,rfl,rfl,ho2,hn2⟩
    refine Dn<|Sa 0<|Zd 4<|An 2 ?_
    exact Gt 0 [] (ihk _ _ _ a2 y2 _ _ (w64 (v_i10 - v_j11)) v_j11 hn2 hlv_data0 ho2 heq)
   ·intro hb2 heq
    refine Sa 1<|Zk 11 ?_
    obtain ⟨y3,hy3,heq⟩:=bind_some heq
    refine RgH.does (cal 46 (slices_swapRangeCmpFunc_Blob_c hy3 hov_data0 rfl)) ?_
    rintro _ _ _ _ ⟨_,rfl,ch3,rfl,rfl,rfl,ho3,hn3⟩
    refine Dn<|Sa 0<|Zd 4<|An 2 ?_
    exact Gt 0 [] (ihk _ _ _ a2 y3 _ _ v_i10 (w64 (v_j11 - v_i10)) hn3 hlv_data0 ho3 heq)
  ·intro hb1 heq
   refine An 1 ?_
   exact Gt 0 [] (he1 _ _ _ a2 v_data0 _ _ v_i10 rfl hlv_data0 hov_data0 heq)
theorem slices_rotateCmpFunc_Blob_c {a0:List Blob} {Aa0:Option Addr} {na0 ca0:Nat} {cha0:Ch} {a1 a2 a3:Int} {r:(List Blob)} (heq:slices_rotateCmpFunc_Blob.f a0 a1 a2 a3=some r) (hoa0:SlOwn kBlob 45 H Aa0 ca0 a0 cha0) (hna0:na0=a0.length):CallsH Tryz.prog 114 #[.slice Aa0 na0 ca0,iv a1,iv a2,iv a3,.func (.func 96) #[] #[]] H w0 (cha0::F) (S114 F H Aa0 ca0 na0 r):=by
 refine Co C114 Tryz.func114 Tryz.ntmps114 ?_
 suffices key0:∀ (la0:Nat),la0=na0→RunH C114 (S114 F H Aa0 ca0 la0 r) H w0 [.c []] (argL 0 [.slice Aa0 na0 ca0,iv a1,iv a2,iv a3,.func (.func 96) #[] #[]]) H (cha0::F) from key0 na0 rfl
 intro la0 hla0
 subst hna0
 unfold slices_rotateCmpFunc_Blob.f at heq
 refine Sa 1<|Zd 4<|Sa 1<|Zd 4<|An 3 ?_
 exact Gt 0 [] (((slices_rotateCmpFunc_Blob.l2_c (e1:=slices_rotateCmpFunc_Blob.e1) (slices_rotateCmpFunc_Blob.e1_c)) big) _ _ _ a2 a0 _ _ (w64 (a2 - a1)) (w64 (a3 - a2)) rfl hla0 hoa0 heq)
noncomputable def C112:Ctx:={ P:=Tryz.prog,f:=112,N:=220,c:=bodyOf Tryz.f112 }
def S112 (F:List Ch) (H0:Hp) (Aa0:Option Addr) (ca0:Nat) (la0:Nat) (r:(List Blob)) (v:Value) (H:Hp) (cs:List Ch):Prop:=∃ (ch0:Ch),H0=H∧v=.tuple #[]∧ch0::F=cs∧SlOwn kBlob 45 H Aa0 ca0 r ch0∧la0=r.length
theorem slices_symMergeCmpFunc_Blob.l2_c {r:(List Blob)}:∀ (k:Nat),∀ (Aa0:Option Addr) (ca0 la0:Nat) (v_i10:Int) (v_data0:List Blob) (chv_data0:Ch) (nv_data0:Nat) (v_k13:Int) ,nv_data0=v_data0.length→la0=nv_data0→SlOwn kBlob 45 H Aa0 ca0 v_data0 chv_data0→slices_symMergeCmpFunc_Blob.l2 k v_i10 v_data0 v_k13=some r→RunH C112 (S112 F H Aa0 ca0 la0 r) H w0 [.c [0,1,0,1,1,1,0,1,0,0],.l [0,1,0,1,1,1,0,1,0,0],.b 2,.c [0,1,0,1,1,1,1],.c [1]] [(0,.slice Aa0 nv_data0 ca0),(10,iv v_i10),(13,iv v_k13)] H (chv_data0::F):=by
 intro k
 induction k with
 | zero=>intro Aa0 ca0 la0 v_i10 v_data0 chv_data0 nv_data0 v_k13 hnv_data0 hlv_data0 hov_data0 heq; exact nomatch (show (none:Option (List Blob))=some r from heq)
 | succ k ihk =>
  intro Aa0 ca0 la0 v_i10 v_data0 chv_data0 nv_data0 v_k13 hnv_data0 hlv_data0 hov_data0 heq
  subst hnv_data0
  rw [slices_symMergeCmpFunc_Blob.l2] at heq
  refine Sa 2<|Zd 4 ?_
  refine Cb heq ?_ ?_
  ·intro hb2 heq
   refine An 3<|Sd 1 18 [] [3,3,3,3,3,3,3,3,3,3,3,3,3,3,3,1,3,2]<|Zr [0,1] 16 [] (Pk 1 [0]) (Pk 1 [])<|Zt [2,3,4] 13 [] (Pk 1 []) ?_
   obtain ⟨x1,hx1,heq⟩:=bind_some heq
   obtain ⟨ha1,cs1,hK1,hcc1⟩:=hov_data0.get hx1
   obtain ⟨rfl⟩:=kBlob_open hK1
   refine Zr [5,6,7,8,9] 8 ([nx ha1 hx1]++els hcc1 0) (Pk 1 [0]) (Pk 1 []) ?_
   obtain ⟨x2,hx2,heq⟩:=bind_some heq
   obtain ⟨ha2,cs2,hK2,hcc2⟩:=hov_data0.get hx2
   obtain ⟨rfl⟩:=kBlob_open hK2
   refine Zt [10,11,12] 5 [nx ha2 hx2] (Pk 1 []) ?_
   obtain ⟨ha3,cs3,hK3,hcc3⟩:=hov_data0.get hx2
   obtain ⟨rfl⟩:=kBlob_open hK3
   refine Zr [13,14] 3 (els hcc3 0++[nx ha3 hx2]) (Pk 1 [0]) (Pk 1 []) ?_
   obtain ⟨ha4,cs4,hK4,hcc4⟩:=hov_data0.get hx2
   obtain ⟨rfl⟩:=kBlob_open hK4
   refine Dz 15 (DoesH.storeEl (a:=((adr Aa0).add (v_k13.toNat*5))) (k:=0) (kd:=kBlob) (c0:=[.string x2.Digest,iv x2.Size,iv x2.Used,iv x2.Until,iv x2.Pins]) (x':=x1) (o:=0) (ix:=v_k13) (v:=.agg #[.string x1.Digest,iv x1.Size,iv x1.Used,iv x1.Until,iv x1.Pins]) (by kernel_rfl) rfl hov_data0 hx2 (by kernel_rfl) hcc4 rfl (Nat.le_of_ble_eq_true (by kernel_rfl)) kBlob_mk) ?_
   rintro _ _ _ _ ⟨ch1,rfl,rfl,rfl,ho1⟩
   have hn1:v_data0.length=(v_data0.set v_k13.toNat x1).length:=by rw [List.length_set]
   refine ⟨fun _ w hh=>⟨(fun h=>by cases h),fun _=>(Pk 1 []) w hh,(fun h=>by cases h)⟩,?_⟩
   refine DrH.nrm ?_
   obtain ⟨x3,hx3,heq⟩:=bind_some heq
   obtain ⟨ha5,cs5,hK5,hcc5⟩:=ho1.get hx3
   obtain ⟨rfl⟩:=kBlob_open hK5
   refine Zt [16] 1 [ny ha5 hx3 (show v_data0.length=_ from hn1)] (Pk 1 []) ?_
   obtain ⟨ha6,cs6,hK6,hcc6⟩:=ho1.get hx3
   obtain ⟨rfl⟩:=kBlob_open hK6
   refine Dz 17 (DoesH.storeEl (a:=((adr Aa0).add ((w64 (v_k13+1)).toNat*5))) (k:=0) (kd:=kBlob) (c0:=[.string x3.Digest,iv x3.Size,iv x3.Used,iv x3.Until,iv x3.Pins]) (x':=x2) (o:=0) (ix:=(w64 (v_k13+1))) (v:=.agg #[.string x2.Digest,iv x2.Size,iv x2.Used,iv x2.Until,iv x2.Pins]) (by kernel_rfl) rfl ho1 hx3 (by kernel_rfl) hcc6 rfl (Nat.le_of_ble_eq_true (by kernel_rfl)) kBlob_mk) ?_
   rintro _ _ _ _ ⟨ch2,rfl,rfl,rfl,ho2⟩
   have hn2:v_data0.length=((v_data0.set v_k13.toNat x1).set (w64 (v_k13+1)).toNat x2).length:=by rw [List.length_set]; exact hn1
   refine ⟨fun _ w hh=>⟨(fun h=>by cases h),(fun h=>absurd h (by decide)),(fun h=>by cases h)⟩,?_⟩
   refine DrH.nrm ?_
   refine DrH.done (by kernel_rfl) ?_
   refine Sa 1<|Zd 3<|An 1 ?_
   exact Gt 0 [] (ihk _ _ _ v_i10 ((v_data0.set v_k13.toNat x1).set (w64 (v_k13+1)).toNat x2) _ _ (w64 (v_k13+1)) hn2 hlv_data0 ho2 heq)
  ·intro hb2 heq
   refine An 1 ?_
   obtain rfl:=Option.some.inj heq
   exact RunH.done (by kernel_rfl) Tryz.func112 (v:=.tuple #[]) (by kernel_rfl) ⟨chv_data0,rfl,rfl,rfl,hov_data0,(hlv_data0.trans rfl)⟩
theorem slices_symMergeCmpFunc_Blob.e1_c {r:(List Blob)}:∀ (a0:List Blob) (Aa0:Option Addr) (ca0:Nat) (cha0:Ch) (la0:Nat) (a1 v_i10:Int) ,SlOwn kBlob 45 H Aa0 ca0 a0 cha0→la0=a0.length→slices_symMergeCmpFunc_Blob.e1 a0 a1 v_i10=some r→RunH C112 (S112 F H Aa0 ca0 la0 r) H w0 [.c [0,1,0,1,1,1,0,0],.c [0,1,0,1,1,1,0,1],.c [0,1,0,1,1,1,1],.c [1]] [(0,.slice Aa0 a0.length ca0),(1,iv a1),(10,iv v_i10)] H (cha0::F):=by
 intro a0 Aa0 ca0 cha0 la0 a1 v_i10 hoa0 hla0 heq
 unfold slices_symMergeCmpFunc_Blob.e1 at heq
 refine Sa 0<|Zd 2<|An 2 ?_
 exact Gt 0 [] (((slices_symMergeCmpFunc_Blob.l2_c) big) _ _ _ v_i10 a0 _ _ a1 rfl hla0 hoa0 heq)
theorem slices_symMergeCmpFunc_Blob.l3_c {r:(List Blob)} (e1:(List Blob)→Int→Int→Option (List Blob))
  (he1:∀ (a0:List Blob) (Aa0:Option Addr) (ca0:Nat) (cha0:Ch) (la0:Nat) (a1 v_i10:Int) ,SlOwn kBlob 45 H Aa0 ca0 a0 cha0→la0=a0.length→e1 a0 a1 v_i10=some r→RunH C112 (S112 F H Aa0 ca0 la0 r) H w0 [.c [0,1,0,1,1,1,0,0],.c [0,1,0,1,1,1,0,1],.c [0,1,0,1,1,1,1],.c [1]] [(0,.slice Aa0 a0.length ca0),(1,iv a1),(10,iv v_i10)] H (cha0::F)):∀ (k:Nat),∀ (a0:List Blob) (Aa0:Option Addr) (ca0:Nat) (cha0:Ch) (la0:Nat) (a1 v_i10 v_j11:Int) ,SlOwn kBlob 45 H Aa0 ca0 a0 cha0→la0=a0.length→slices_symMergeCmpFunc_Blob.l3 e1 k a0 a1 v_i10 v_j11=some r→RunH C112 (S112 F H Aa0 ca0 la0 r) H w0 [.c [0,1,0,1,1,0,0,0],.l [0,1,0,1,1,0,0,0],.b 0,.c [0,1,0,1,1,1],.c [1]] [(0,.slice Aa0 a0.length ca0),(1,iv a1),(4,.func (.func 96) #[] #[]),(10,iv v_i10),(11,iv v_j11)] H (cha0::F):=by
 intro k
 induction k with
 | zero=>intro a0 Aa0 ca0 cha0 la0 a1 v_i10 v_j11 hoa0 hla0 heq; exact nomatch (show (none:Option (List Blob))=some r from heq)
 | succ k ihk =>
  intro a0 Aa0 ca0 cha0 la0 a1 v_i10 v_j11 hoa0 hla0 heq
  rw [slices_symMergeCmpFunc_Blob.l3] at heq
  refine Sa 2<|Zd 3 ?_
  refine Cb heq ?_ ?_
  ·intro hb3 heq
   refine Sa 3<|Zw 7 [⟨.need ((0:Int)≤1),fun w hh=>(show (0:Int)≤1 by decide)⟩]<|An 1<|Sd 0 11 [] [3,3,3,3,3,3,3,3,3,0,3] ?_
   obtain ⟨x4,hx4,heq⟩:=bind_some heq
   obtain ⟨ha7,cs7,hK7,hcc7⟩:=hoa0.get hx4
   obtain ⟨rfl⟩:=kBlob_open hK7
   obtain ⟨x5,hx5,heq⟩:=bind_some heq
   obtain ⟨ha8,cs8,hK8,hcc8⟩:=hoa0.get hx5
   obtain ⟨rfl⟩:=kBlob_open hK8
   refine Zr [0,1,2,3,4,5,6,7,8] 2 ([nx ha7 hx4]++els hcc7 0++[nx ha8 hx5]++els hcc8 0) (Pk 1 [0]) (Pk 1 [0]) ?_
   obtain ⟨y1,hy1,heq⟩:=bind_some heq
   refine Dz 9 (cal 49 (cache_leaving_2_c hy1 )) ?_
   rintro _ _ _ _ ⟨_,rfl,rfl,rfl,rfl⟩
   refine ⟨fun _ w hh=>⟨fun _=>(Pk 1 [0]) w hh,fun _=>(Pk 1 [0]) w hh,(fun h=>by cases h)⟩,?_⟩
   refine Zr [10] 0 [] (Pk 1 [0]) (Pk 1 [0]) ?_
   refine DrH.done (by kernel_rfl) ?_
   refine Cb heq ?_ ?_
   ·intro hb4 heq
    refine Sa 0<|Zd 3<|An 2 ?_
    exact Gt 0 [] (ihk a0 _ _ _ _ a1 (w64 ((w64 (iShr .u64 (IntKind.wrap .u64 (w64 (v_i10+v_j11))) 1))+1)) v_j11 hoa0 hla0 heq)
   ·intro hb4 heq
    refine Sa 0<|Zd 2<|An 2 ?_
    exact Gt 0 [] (ihk a0 _ _ _ _ a1 v_i10 (w64 (iShr .u64 (IntKind.wrap .u64 (w64 (v_i10+v_j11))) 1)) hoa0 hla0 heq)
  ·intro hb3 heq
   refine An 3 ?_
   exact Gt 0 [] (he1 a0 _ _ _ _ a1 v_i10 hoa0 hla0 heq)
theorem slices_symMergeCmpFunc_Blob.l5_c {r:(List Blob)}:∀ (k:Nat),∀ (Aa0:Option Addr) (ca0 la0:Nat) (v_i14:Int) (v_data0:List Blob) (chv_data0:Ch) (nv_data0:Nat) (v_k17:Int) ,nv_data0=v_data0.length→la0=nv_data0→SlOwn kBlob 45 H Aa0 ca0 v_data0 chv_data0→slices_symMergeCmpFunc_Blob.l5 k v_i14 v_data0 v_k17=some r→RunH C112 (S112 F H Aa0 ca0 la0 r) H w0 [.c [1,0,1,0,1,1,1,0,1,0,0],.l [1,0,1,0,1,1,1,0,1,0,0],.b 6,.c [1,0,1,0,1,1,1,1],.c [1,1]] [(0,.slice Aa0 nv_data0 ca0),(14,iv v_i14),(17,iv v_k17)] H (chv_data0::F):=by
 intro k
 induction k with
 | zero=>intro Aa0 ca0 la0 v_i14 v_data0 chv_data0 nv_data0 v_k17 hnv_data0 hlv_data0 hov_data0 heq; exact nomatch (show (none:Option (List Blob))=some r from heq)
 | succ k ihk =>
  intro Aa0 ca0 la0 v_i14 v_data0 chv_data0 nv_data0 v_k17 hnv_data0 hlv_data0 hov_data0 heq
  subst hnv_data0
  rw [slices_symMergeCmpFunc_Blob.l5] at heq
  refine Sa 2<|Zd 3 ?_
  refine Cb heq ?_ ?_
  ·intro hb6 heq
   refine An 3<|Sd 1 18 [] [3,3,3,3,3,3,3,3,3,3,3,3,3,3,3,1,3,2]<|Zr [0,1] 16 [] (Pk 1 [0]) (Pk 1 [])<|Zt [2,3,4] 13 [] (Pk 1 []) ?_
   obtain ⟨x6,hx6,heq⟩:=bind_some heq
   obtain ⟨ha9,cs9,hK9,hcc9⟩:=hov_data0.get hx6
   obtain ⟨rfl⟩:=kBlob_open hK9
   refine Zr [5,6,7,8,9] 8 ([nx ha9 hx6]++els hcc9 0) (Pk 1 [0]) (Pk 1 []) ?_
   obtain ⟨x7,hx7,heq⟩:=bind_some heq
   obtain ⟨ha10,cs10,hK10,hcc10⟩:=hov_data0.get hx7
   obtain ⟨rfl⟩:=kBlob_open hK10
   refine Zt [10,11,12] 5 [nx ha10 hx7] (Pk 1 []) ?_
   obtain ⟨ha11,cs11,hK11,hcc11⟩:=hov_data0.get hx7
   obtain ⟨rfl⟩:=kBlob_open hK11
   refine Zr [13,14] 3 (els hcc11 0++[nx ha11 hx7]) (Pk 1 [0]) (Pk 1 []) ?_
   obtain ⟨ha12,cs12,hK12,hcc12⟩:=hov_data0.get hx7
   obtain ⟨rfl⟩:=kBlob_open hK12
   refine Dz 15 (DoesH.storeEl (a:=((adr Aa0).add (v_k17.toNat*5))) (k:=0) (kd:=kBlob) (c0:=[.string x7.Digest,iv x7.Size,iv x7.Used,iv x7.Until,iv x7.Pins]) (x':=x6) (o:=0) (ix:=v_k17) (v:=.agg #[.string x6.Digest,iv x6.Size,iv x6.Used,iv x6.Until,iv x6.Pins]) (by kernel_rfl) rfl hov_data0 hx7 (by kernel_rfl) hcc12 rfl (Nat.le_of_ble_eq_true (by kernel_rfl)) kBlob_mk) ?_
   rintro _ _ _ _ ⟨ch3,rfl,rfl,rfl,ho3⟩
   have hn3:v_data0.length=(v_data0.set v_k17.toNat x6).length:=by rw [List.length_set]
   refine ⟨fun _ w hh=>⟨(fun h=>by cases h),fun _=>(Pk 1 []) w hh,(fun h=>by cases h)⟩,?_⟩
   refine DrH.nrm ?_
   obtain ⟨x8,hx8,heq⟩:=bind_some heq
   obtain ⟨ha13,cs13,hK13,hcc13⟩:=ho3.get hx8
   obtain ⟨rfl⟩:=kBlob_open hK13
   refine Zt [16] 1 [ny ha13 hx8 (show v_data0.length=_ from hn3)] (Pk 1 []) ?_
   obtain ⟨ha14,cs14,hK14,hcc14⟩:=ho3.get hx8
   obtain ⟨rfl⟩:=kBlob_open hK14
   refine Dz 17 (DoesH.storeEl (a:=((adr Aa0).add ((w64 (v_k17 - 1)).toNat*5))) (k:=0) (kd:=kBlob) (c0:=[.string x8.Digest,iv x8.Size,iv x8.Used,iv x8.Until,iv x8.Pins]) (x':=x7) (o:=0) (ix:=(w64 (v_k17 - 1))) (v:=.agg #[.string x7.Digest,iv x7.Size,iv x7.Used,iv x7.Until,iv x7.Pins]) (by kernel_rfl) rfl ho3 hx8 (by kernel_rfl) hcc14 rfl (Nat.le_of_ble_eq_true (by kernel_rfl)) kBlob_mk) ?_
   rintro _ _ _ _ ⟨ch4,rfl,rfl,rfl,ho4⟩
   have hn4:v_data0.length=((v_data0.set v_k17.toNat x6).set (w64 (v_k17 - 1)).toNat x7).length:=by rw [List.length_set]; exact hn3
   refine ⟨fun _ w hh=>⟨(fun h=>by cases h),(fun h=>absurd h (by decide)),(fun h=>by cases h)⟩,?_⟩
   refine DrH.nrm ?_
   refine DrH.done (by kernel_rfl) ?_
   refine Sa 1<|Zd 3<|An 1 ?_
   exact Gt 0 [] (ihk _ _ _ v_i14 ((v_data0.set v_k17.toNat x6).set (w64 (v_k17 - 1)).toNat x7) _ _ (w64 (v_k17 - 1)) hn4 hlv_data0 ho4 heq)
  ·intro hb6 heq
   refine An 1 ?_
   obtain rfl:=Option.some.inj heq
   exact RunH.done (by kernel_rfl) Tryz.func112 (v:=.tuple #[]) (by kernel_rfl) ⟨chv_data0,rfl,rfl,rfl,hov_data0,(hlv_data0.trans rfl)⟩
theorem slices_symMergeCmpFunc_Blob.e4_c {r:(List Blob)}:∀ (a0:List Blob) (Aa0:Option Addr) (ca0:Nat) (cha0:Ch) (la0:Nat) (a2 v_i14:Int) ,SlOwn kBlob 45 H Aa0 ca0 a0 cha0→la0=a0.length→slices_symMergeCmpFunc_Blob.e4 a0 a2 v_i14=some r→RunH C112 (S112 F H Aa0 ca0 la0 r) H w0 [.c [1,0,1,0,1,1,1,0,0],.c [1,0,1,0,1,1,1,0,1],.c [1,0,1,0,1,1,1,1],.c [1,1]] [(0,.slice Aa0 a0.length ca0),(2,iv a2),(14,iv v_i14)] H (cha0::F):=by
 intro a0 Aa0 ca0 cha0 la0 a2 v_i14 hoa0 hla0 heq
 unfold slices_symMergeCmpFunc_Blob.e4 at heq
 refine Sa 0<|Zd 2<|An 2 ?_
 exact Gt 0 [] (((slices_symMergeCmpFunc_Blob.l5_c) big) _ _ _ v_i14 a0 _ _ a2 rfl hla0 hoa0 heq)
theorem slices_symMergeCmpFunc_Blob.l6_c {r:(List Blob)} (e4:(List Blob)→Int→Int→Option (List Blob))
  (he4:∀ (a0:List Blob) (Aa0:Option Addr) (ca0:Nat) (cha0:Ch) (la0:Nat) (a2 v_i14:Int) ,SlOwn kBlob 45 H Aa0 ca0 a0 cha0→la0=a0.length→e4 a0 a2 v_i14=some r→RunH C112 (S112 F H Aa0 ca0 la0 r) H w0 [.c [1,0,1,0,1,1,1,0,0],.c [1,0,1,0,1,1,1,0,1],.c [1,0,1,0,1,1,1,1],.c [1,1]] [(0,.slice Aa0 a0.length ca0),(2,iv a2),(14,iv v_i14)] H (cha0::F)):∀ (k:Nat),∀ (a0:List Blob) (Aa0:Option Addr) (ca0:Nat) (cha0:Ch) (la0:Nat) (a2 v_i14 v_j15:Int) ,SlOwn kBlob 45 H Aa0 ca0 a0 cha0→la0=a0.length→slices_symMergeCmpFunc_Blob.l6 e4 k a0 a2 v_i14 v_j15=some r→RunH C112 (S112 F H Aa0 ca0 la0 r) H w0 [.c [1,0,1,0,1,1,0,0,0],.l [1,0,1,0,1,1,0,0,0],.b 4,.c [1,0,1,0,1,1,1],.c [1,1]] [(0,.slice Aa0 a0.length ca0),(2,iv a2),(4,.func (.func 96) #[] #[]),(14,iv v_i14),(15,iv v_j15)] H (cha0::F):=by
 intro k
 induction k with
 | zero=>intro a0 Aa0 ca0 cha0 la0 a2 v_i14 v_j15 hoa0 hla0 heq; exact nomatch (show (none:Option (List Blob))=some r from heq)
 | succ k ihk =>
  intro a0 Aa0 ca0 cha0 la0 a2 v_i14 v_j15 hoa0 hla0 heq
  rw [slices_symMergeCmpFunc_Blob.l6] at heq
  refine Sa 2<|Zd 3 ?_
  refine Cb heq ?_ ?_
  ·intro hb7 heq
   refine Sa 3<|Zw 7 [⟨.need ((0:Int)≤1),fun w hh=>(show (0:Int)≤1 by decide)⟩]<|An 1<|Sd 0 12 [] [3,3,3,3,3,3,3,3,3,0,3,3] ?_
   obtain ⟨x9,hx9,heq⟩:=bind_some heq
   obtain ⟨ha15,cs15,hK15,hcc15⟩:=hoa0.get hx9
   obtain ⟨rfl⟩:=kBlob_open hK15
   obtain ⟨x10,hx10,heq⟩:=bind_some heq
   obtain ⟨ha16,cs16,hK16,hcc16⟩:=hoa0.get hx10
   obtain ⟨rfl⟩:=kBlob_open hK16
   refine Zr [0,1,2,3,4,5,6,7,8] 3 ([nx ha15 hx9]++els hcc15 0++[nx ha16 hx10]++els hcc16 0) (Pk 1 [0]) (Pk 1 [0]) ?_
   obtain ⟨y2,hy2,heq⟩:=bind_some heq
   refine Dz 9 (cal 101 (cache_leaving_2_c hy2 )) ?_
   rintro _ _ _ _ ⟨_,rfl,rfl,rfl,rfl⟩
   refine ⟨fun _ w hh=>⟨fun _=>(Pk 1 [0]) w hh,fun _=>(Pk 1 [0]) w hh,(fun h=>by cases h)⟩,?_⟩
   refine Zr [10,11] 0 [] (Pk 1 [0]) (Pk 1 [0]) ?_
   refine DrH.done (by kernel_rfl) ?_
   refine Cb heq ?_ ?_
   ·intro hb8 heq
    refine Sa 0<|Zd 3<|An 2 ?_
    exact Gt 0 [] (ihk a0 _ _ _ _ a2 (w64 ((w64 (iShr .u64 (IntKind.wrap .u64 (w64 (v_i14+v_j15))) 1))+1)) v_j15 hoa0 hla0 heq)
   ·intro hb8 heq
    refine Sa 0<|Zd 2<|An 2 ?_
    exact Gt 0 [] (ihk a0 _ _ _ _ a2 v_i14 (w64 (iShr .u64 (IntKind.wrap .u64 (w64 (v_i14+v_j15))) 1)) hoa0 hla0 heq)
  ·intro hb7 heq
   refine An 3 ?_
   exact Gt 0 [] (he4 a0 _ _ _ _ a2 v_i14 hoa0 hla0 heq)
theorem slices_symMergeCmpFunc_Blob.j11_c {r:(List Blob)}:∀ (Aa0:Option Addr) (ca0 la0:Nat) (v_data0:List Blob) (chv_data0:Ch) (nv_data0:Nat) ,nv_data0=v_data0.length→la0=nv_data0→SlOwn kBlob 45 H Aa0 ca0 v_data0 chv_data0→slices_symMergeCmpFunc_Blob.j11 v_data0=some r→RunH C112 (S112 F H Aa0 ca0 la0 r) H w0 [] [(0,.slice Aa0 nv_data0 ca0)] H (chv_data0::F):=by
 intro Aa0 ca0 la0 v_data0 chv_data0 nv_data0 hnv_data0 hlv_data0 hov_data0 heq
 subst hnv_data0
 unfold slices_symMergeCmpFunc_Blob.j11 at heq
 obtain rfl:=Option.some.inj heq
 exact RunH.done (by kernel_rfl) Tryz.func112 (v:=.tuple #[]) (by kernel_rfl) ⟨chv_data0,rfl,rfl,rfl,hov_data0,(hlv_data0.trans rfl)⟩
theorem slices_symMergeCmpFunc_Blob.j10_c {r:(List Blob)} (rec_:(List Blob)→Int→Int→Int→Option (List Blob))
  (hrec_:∀ {H:Hp} {F:List Ch} {a0:List Blob} {Aa0:Option Addr} {na0:Nat} {ca0:Nat} {cha0:Ch} {a1:Int} {a2:Int} {a3:Int} {r:(List Blob)},SlOwn kBlob 45 H Aa0 ca0 a0 cha0→na0=a0.length→rec_ a0 a1 a2 a3=some r→CallsH Tryz.prog 112 #[.slice Aa0 na0 ca0,iv a1,iv a2,iv a3,.func (.func 96) #[] #[]] H w0 (cha0::F) (S112 F H Aa0 ca0 na0 r)):∀ (Aa0:Option Addr) (ca0 la0:Nat) (a1 a2 a3 v_start20:Int) (v_data0:List Blob) (chv_data0:Ch) (nv_data0:Nat) ,nv_data0=v_data0.length→la0=nv_data0→SlOwn kBlob 45 H Aa0 ca0 v_data0 chv_data0→slices_symMergeCmpFunc_Blob.j10 rec_ a1 a2 a3 v_start20 v_data0=some r→RunH C112 (S112 F H Aa0 ca0 la0 r) H w0 [.c [1,1,1,1,1,1,1,1,1,1,1,0],.c [1,1,1,1,1,1,1,1,1,1,1,1]] [(0,.slice Aa0 nv_data0 ca0),(3,iv a3),(4,.func (.func 96) #[] #[]),(18,iv (w64 (iShr .u64 (IntKind.wrap .u64 (w64 (a1+a3))) 1))),(24,iv (w64 ((w64 ((w64 (iShr .u64 (IntKind.wrap .u64 (w64 (a1+a3))) 1))+a2)) - v_start20)))] H (chv_data0::F):=by
 intro Aa0 ca0 la0 a1 a2 a3 v_start20 v_data0 chv_data0 nv_data0 hnv_data0 hlv_data0 hov_data0 heq
 subst hnv_data0
 unfold slices_symMergeCmpFunc_Blob.j10 at heq
 obtain ⟨t3,ht3,heq⟩:=bind_some heq
 have K8:RunH C112 (S112 F H Aa0 ca0 la0 r) H w0 [.c [1,1,1,1,1,1,1,1,1,1,1,1]] [(0,.slice Aa0 v_data0.length ca0),(3,iv a3),(4,.func (.func 96) #[] #[]),(18,iv (w64 (iShr .u64 (IntKind.wrap .u64 (w64 (a1+a3))) 1))),(24,iv (w64 ((w64 ((w64 (iShr .u64 (IntKind.wrap .u64 (w64 (a1+a3))) 1))+a2)) - v_start20))),(213,.bool t3)] H (chv_data0::F):=by
  refine Cb heq ?_ ?_
  ·intro hb12 heq
   refine Sa 0<|Zk 5 ?_
   obtain ⟨y3,hy3,heq⟩:=bind_some heq
   refine RgH.does (cal 219 (hrec_ (a0:=v_data0) (a1:=w64 (iShr .u64 (IntKind.wrap .u64 (w64 (a1+a3))) 1)) (a2:=w64 ((w64 ((w64 (iShr .u64 (IntKind.wrap .u64 (w64 (a1+a3))) 1))+a2)) - v_start20)) (a3:=a3) hov_data0 rfl hy3)) ?_
   rintro _ _ _ _ ⟨_,rfl,ch5,rfl,rfl,rfl,ho5,hn5⟩
   refine Dn ?_
   exact Gt 0 [] ((slices_symMergeCmpFunc_Blob.j11_c) _ _ _ y3 _ _ hn5 hlv_data0 ho5 heq)
  ·intro hb12 heq
   refine An 1 ?_
   exact Gt 0 [] ((slices_symMergeCmpFunc_Blob.j11_c) _ _ _ v_data0 _ _ rfl hlv_data0 hov_data0 heq)
 replace heq:=ht3
 refine Sa 0<|Zk 4 ?_
 rcases bool_cases (decide ((w64 (iShr .u64 (IntKind.wrap .u64 (w64 (a1+a3))) 1))<(w64 ((w64 ((w64 (iShr .u64 (IntKind.wrap .u64 (w64 (a1+a3))) 1))+a2)) - v_start20)))) with hb11 | hb11
 ·replace heq:=bif_true hb11 heq
  refine Zs 209 (congrArg Value.bool hb11)<|Zk 8 ?_
  obtain rfl:=Option.some.inj heq
  refine Dn ?_
  exact Gt 0 [] (K8)
 ·replace heq:=bif_false hb11 heq
  refine Zs 209 (congrArg Value.bool hb11)<|Zk 8 ?_
  obtain rfl:=Option.some.inj heq
  refine Dn ?_
  exact Gt 0 [] (K8)
theorem slices_symMergeCmpFunc_Blob.j9_c {r:(List Blob)} (rec_:(List Blob)→Int→Int→Int→Option (List Blob))
  (hrec_:∀ {H:Hp} {F:List Ch} {a0:List Blob} {Aa0:Option Addr} {na0:Nat} {ca0:Nat} {cha0:Ch} {a1:Int} {a2:Int} {a3:Int} {r:(List Blob)},SlOwn kBlob 45 H Aa0 ca0 a0 cha0→na0=a0.length→rec_ a0 a1 a2 a3=some r→CallsH Tryz.prog 112 #[.slice Aa0 na0 ca0,iv a1,iv a2,iv a3,.func (.func 96) #[] #[]] H w0 (cha0::F) (S112 F H Aa0 ca0 na0 r)):∀ (Aa0:Option Addr) (ca0 la0:Nat) (a1 a2 a3 v_start20:Int) (v_data0:List Blob) (chv_data0:Ch) (nv_data0:Nat) ,nv_data0=v_data0.length→la0=nv_data0→SlOwn kBlob 45 H Aa0 ca0 v_data0 chv_data0→slices_symMergeCmpFunc_Blob.j9 rec_ a1 a2 a3 v_start20 v_data0=some r→RunH C112 (S112 F H Aa0 ca0 la0 r) H w0 [.c [1,1,1,1,1,1,1,1,1,1,0,0],.c [1,1,1,1,1,1,1,1,1,1,0,1],.c [1,1,1,1,1,1,1,1,1,1,1]] [(0,.slice Aa0 nv_data0 ca0),(1,iv a1),(3,iv a3),(4,.func (.func 96) #[] #[]),(18,iv (w64 (iShr .u64 (IntKind.wrap .u64 (w64 (a1+a3))) 1))),(20,iv v_start20),(24,iv (w64 ((w64 ((w64 (iShr .u64 (IntKind.wrap .u64 (w64 (a1+a3))) 1))+a2)) - v_start20)))] H (chv_data0::F):=by
 intro Aa0 ca0 la0 a1 a2 a3 v_start20 v_data0 chv_data0 nv_data0 hnv_data0 hlv_data0 hov_data0 heq
 subst hnv_data0
 unfold slices_symMergeCmpFunc_Blob.j9 at heq
 obtain ⟨t2,ht2,heq⟩:=bind_some heq
 have K6:RunH C112 (S112 F H Aa0 ca0 la0 r) H w0 [.c [1,1,1,1,1,1,1,1,1,1,0,1],.c [1,1,1,1,1,1,1,1,1,1,1]] [(0,.slice Aa0 v_data0.length ca0),(1,iv a1),(3,iv a3),(4,.func (.func 96) #[] #[]),(18,iv (w64 (iShr .u64 (IntKind.wrap .u64 (w64 (a1+a3))) 1))),(20,iv v_start20),(24,iv (w64 ((w64 ((w64 (iShr .u64 (IntKind.wrap .u64 (w64 (a1+a3))) 1))+a2)) - v_start20))),(199,.bool t2)] H (chv_data0::F):=by
  refine Cb heq ?_ ?_
  ·intro hb13 heq
   refine Sa 0<|Zk 5 ?_
   obtain ⟨y4,hy4,heq⟩:=bind_some heq
   refine RgH.does (cal 205 (hrec_ (a0:=v_data0) (a1:=a1) (a2:=v_start20) (a3:=w64 (iShr .u64 (IntKind.wrap .u64 (w64 (a1+a3))) 1)) hov_data0 rfl hy4)) ?_
   rintro _ _ _ _ ⟨_,rfl,ch6,rfl,rfl,rfl,ho6,hn6⟩
   refine Dn<|An 1 ?_
   exact Gt 0 [] ((slices_symMergeCmpFunc_Blob.j10_c (rec_:=rec_) hrec_) _ _ _ a1 a2 a3 v_start20 y4 _ _ hn6 hlv_data0 ho6 heq)
  ·intro hb13 heq
   refine An 2 ?_
   exact Gt 0 [] ((slices_symMergeCmpFunc_Blob.j10_c (rec_:=rec_) hrec_) _ _ _ a1 a2 a3 v_start20 v_data0 _ _ rfl hlv_data0 hov_data0 heq)
 replace heq:=ht2
 refine Sa 0<|Zk 4 ?_
 rcases bool_cases (decide (a1<v_start20)) with hb10 | hb10
 ·replace heq:=bif_true hb10 heq
  refine Zs 195 (congrArg Value.bool hb10)<|Zk 8 ?_
  obtain rfl:=Option.some.inj heq
  refine Dn ?_
  exact Gt 0 [] (K6)
 ·replace heq:=bif_false hb10 heq
  refine Zs 195 (congrArg Value.bool hb10)<|Zk 8 ?_
  obtain rfl:=Option.some.inj heq
  refine Dn ?_
  exact Gt 0 [] (K6)
theorem slices_symMergeCmpFunc_Blob.e8_c {r:(List Blob)} (rec_:(List Blob)→Int→Int→Int→Option (List Blob))
  (hrec_:∀ {H:Hp} {F:List Ch} {a0:List Blob} {Aa0:Option Addr} {na0:Nat} {ca0:Nat} {cha0:Ch} {a1:Int} {a2:Int} {a3:Int} {r:(List Blob)},SlOwn kBlob 45 H Aa0 ca0 a0 cha0→na0=a0.length→rec_ a0 a1 a2 a3=some r→CallsH Tryz.prog 112 #[.slice Aa0 na0 ca0,iv a1,iv a2,iv a3,.func (.func 96) #[] #[]] H w0 (cha0::F) (S112 F H Aa0 ca0 na0 r)):∀ (a0:List Blob) (Aa0:Option Addr) (ca0:Nat) (cha0:Ch) (la0:Nat) (a1 a2 a3 v_start20:Int) ,SlOwn kBlob 45 H Aa0 ca0 a0 cha0→la0=a0.length→slices_symMergeCmpFunc_Blob.e8 rec_ a0 a1 a2 a3 v_start20=some r→RunH C112 (S112 F H Aa0 ca0 la0 r) H w0 [.c [1,1,1,1,1,1,1,1,0],.c [1,1,1,1,1,1,1,1,1]] [(0,.slice Aa0 a0.length ca0),(1,iv a1),(2,iv a2),(3,iv a3),(4,.func (.func 96) #[] #[]),(18,iv (w64 (iShr .u64 (IntKind.wrap .u64 (w64 (a1+a3))) 1))),(19,iv (w64 ((w64 (iShr .u64 (IntKind.wrap .u64 (w64 (a1+a3))) 1))+a2))),(20,iv v_start20)] H (cha0::F):=by
 intro a0 Aa0 ca0 cha0 la0 a1 a2 a3 v_start20 hoa0 hla0 heq
 unfold slices_symMergeCmpFunc_Blob.e8 at heq
 refine Sa 0<|Zd 4<|An 2 ?_
 obtain ⟨t1,ht1,heq⟩:=bind_some heq
 have K4:RunH C112 (S112 F H Aa0 ca0 la0 r) H w0 [.c [1,1,1,1,1,1,1,1,1,0,1],.c [1,1,1,1,1,1,1,1,1,1]] [(0,.slice Aa0 a0.length ca0),(1,iv a1),(2,iv a2),(3,iv a3),(4,.func (.func 96) #[] #[]),(18,iv (w64 (iShr .u64 (IntKind.wrap .u64 (w64 (a1+a3))) 1))),(20,iv v_start20),(24,iv (w64 ((w64 ((w64 (iShr .u64 (IntKind.wrap .u64 (w64 (a1+a3))) 1))+a2)) - v_start20))),(185,.bool t1)] H (cha0::F):=by
  refine Cb heq ?_ ?_
  ·intro hb14 heq
   refine Sa 0<|Zk 5 ?_
   obtain ⟨y5,hy5,heq⟩:=bind_some heq
   refine RgH.does (cal 191 (slices_rotateCmpFunc_Blob_c hy5 hoa0 rfl)) ?_
   rintro _ _ _ _ ⟨_,rfl,ch7,rfl,rfl,rfl,ho7,hn7⟩
   refine Dn<|An 2 ?_
   exact Gt 0 [] ((slices_symMergeCmpFunc_Blob.j9_c (rec_:=rec_) hrec_) _ _ _ a1 a2 a3 v_start20 y5 _ _ hn7 hla0 ho7 heq)
  ·intro hb14 heq
   refine An 3 ?_
   exact Gt 0 [] ((slices_symMergeCmpFunc_Blob.j9_c (rec_:=rec_) hrec_) _ _ _ a1 a2 a3 v_start20 a0 _ _ rfl hla0 hoa0 heq)
 replace heq:=ht1
 refine Sa 0<|Zk 4 ?_
 rcases bool_cases (decide (v_start20<a2)) with hb9 | hb9
 ·replace heq:=bif_true hb9 heq
  refine Zs 181 (congrArg Value.bool hb9)<|Zk 8 ?_
  obtain rfl:=Option.some.inj heq
  refine Dn ?_
  exact Gt 0 [] (K4)
 ·replace heq:=bif_false hb9 heq
  refine Zs 181 (congrArg Value.bool hb9)<|Zk 8 ?_
  obtain rfl:=Option.some.inj heq
  refine Dn ?_
  exact Gt 0 [] (K4)
theorem slices_symMergeCmpFunc_Blob.l12_c {r:(List Blob)} (e8:(List Blob)→Int→Int→Int→Int→Option (List Blob))
  (he8:∀ (a0:List Blob) (Aa0:Option Addr) (ca0:Nat) (cha0:Ch) (la0:Nat) (a1 a2 a3 v_start20:Int) ,SlOwn kBlob 45 H Aa0 ca0 a0 cha0→la0=a0.length→e8 a0 a1 a2 a3 v_start20=some r→RunH C112 (S112 F H Aa0 ca0 la0 r) H w0 [.c [1,1,1,1,1,1,1,1,0],.c [1,1,1,1,1,1,1,1,1]] [(0,.slice Aa0 a0.length ca0),(1,iv a1),(2,iv a2),(3,iv a3),(4,.func (.func 96) #[] #[]),(18,iv (w64 (iShr .u64 (IntKind.wrap .u64 (w64 (a1+a3))) 1))),(19,iv (w64 ((w64 (iShr .u64 (IntKind.wrap .u64 (w64 (a1+a3))) 1))+a2))),(20,iv v_start20)] H (cha0::F)):∀ (k:Nat),∀ (a0:List Blob) (Aa0:Option Addr) (ca0:Nat) (cha0:Ch) (la0:Nat) (a1 a2 a3 v_start20 v_r21:Int) ,SlOwn kBlob 45 H Aa0 ca0 a0 cha0→la0=a0.length→slices_symMergeCmpFunc_Blob.l12 e8 k a0 a1 a2 a3 v_start20 v_r21=some r→RunH C112 (S112 F H Aa0 ca0 la0 r) H w0 [.c [1,1,1,1,1,1,1,0,0,0],.l [1,1,1,1,1,1,1,0,0,0],.b 8,.c [1,1,1,1,1,1,1,1]] [(0,.slice Aa0 a0.length ca0),(1,iv a1),(2,iv a2),(3,iv a3),(4,.func (.func 96) #[] #[]),(18,iv (w64 (iShr .u64 (IntKind.wrap .u64 (w64 (a1+a3))) 1))),(19,iv (w64 ((w64 (iShr .u64 (IntKind.wrap .u64 (w64 (a1+a3))) 1))+a2))),(20,iv v_start20),(21,iv v_r21),(22,iv (w64 ((w64 ((w64 (iShr .u64 (IntKind.wrap .u64 (w64 (a1+a3))) 1))+a2)) - 1)))] H (cha0::F):=by
 intro k
 induction k with
 | zero=>intro a0 Aa0 ca0 cha0 la0 a1 a2 a3 v_start20 v_r21 hoa0 hla0 heq; exact nomatch (show (none:Option (List Blob))=some r from heq)
 | succ k ihk =>
  intro a0 Aa0 ca0 cha0 la0 a1 a2 a3 v_start20 v_r21 hoa0 hla0 heq
  rw [slices_symMergeCmpFunc_Blob.l12] at heq
  refine Sa 2<|Zd 3 ?_
  refine Cb heq ?_ ?_
  ·intro hb15 heq
   refine Sa 3<|Zw 7 [⟨.need ((0:Int)≤1),fun w hh=>(show (0:Int)≤1 by decide)⟩]<|An 1<|Sd 0 14 [] [3,3,3,3,3,3,3,3,3,3,3,0,3,3] ?_
   obtain ⟨x11,hx11,heq⟩:=bind_some heq
   obtain ⟨ha17,cs17,hK17,hcc17⟩:=hoa0.get hx11
   obtain ⟨rfl⟩:=kBlob_open hK17
   obtain ⟨x12,hx12,heq⟩:=bind_some heq
   obtain ⟨ha18,cs18,hK18,hcc18⟩:=hoa0.get hx12
   obtain ⟨rfl⟩:=kBlob_open hK18
   refine Zr [0,1,2,3,4,5,6,7,8,9,10] 3 ([nx ha17 hx11]++els hcc17 0++[nx ha18 hx12]++els hcc18 0) (Pk 1 [0]) (Pk 1 [0]) ?_
   obtain ⟨y6,hy6,heq⟩:=bind_some heq
   refine Dz 11 (cal 169 (cache_leaving_2_c hy6 )) ?_
   rintro _ _ _ _ ⟨_,rfl,rfl,rfl,rfl⟩
   refine ⟨fun _ w hh=>⟨fun _=>(Pk 1 [0]) w hh,fun _=>(Pk 1 [0]) w hh,(fun h=>by cases h)⟩,?_⟩
   refine Zr [12,13] 0 [] (Pk 1 [0]) (Pk 1 [0]) ?_
   refine DrH.done (by kernel_rfl) ?_
   refine Cb heq ?_ ?_
   ·intro hb16 heq
    refine Sa 0<|Zd 3<|An 2 ?_
    exact Gt 0 [] (ihk a0 _ _ _ _ a1 a2 a3 (w64 ((w64 (iShr .u64 (IntKind.wrap .u64 (w64 (v_start20+v_r21))) 1))+1)) v_r21 hoa0 hla0 heq)
   ·intro hb16 heq
    refine Sa 0<|Zd 2<|An 2 ?_
    exact Gt 0 [] (ihk a0 _ _ _ _ a1 a2 a3 v_start20 (w64 (iShr .u64 (IntKind.wrap .u64 (w64 (v_start20+v_r21))) 1)) hoa0 hla0 heq)
  ·intro hb15 heq
   refine An 2 ?_
   exact Gt 0 [] (he8 a0 _ _ _ _ a1 a2 a3 v_start20 hoa0 hla0 heq)
theorem slices_symMergeCmpFunc_Blob.j7_c {r:(List Blob)} (rec_:(List Blob)→Int→Int→Int→Option (List Blob))
  (hrec_:∀ {H:Hp} {F:List Ch} {a0:List Blob} {Aa0:Option Addr} {na0:Nat} {ca0:Nat} {cha0:Ch} {a1:Int} {a2:Int} {a3:Int} {r:(List Blob)},SlOwn kBlob 45 H Aa0 ca0 a0 cha0→na0=a0.length→rec_ a0 a1 a2 a3=some r→CallsH Tryz.prog 112 #[.slice Aa0 na0 ca0,iv a1,iv a2,iv a3,.func (.func 96) #[] #[]] H w0 (cha0::F) (S112 F H Aa0 ca0 na0 r)):∀ (a0:List Blob) (Aa0:Option Addr) (ca0:Nat) (cha0:Ch) (la0:Nat) (a1 a2 a3 v_start20 v_r21:Int) ,SlOwn kBlob 45 H Aa0 ca0 a0 cha0→la0=a0.length→slices_symMergeCmpFunc_Blob.j7 rec_ a0 a1 a2 a3 v_start20 v_r21=some r→RunH C112 (S112 F H Aa0 ca0 la0 r) H w0 [.c [1,1,1,1,1,1,0],.c [1,1,1,1,1,1,1]] [(0,.slice Aa0 a0.length ca0),(1,iv a1),(2,iv a2),(3,iv a3),(4,.func (.func 96) #[] #[]),(18,iv (w64 (iShr .u64 (IntKind.wrap .u64 (w64 (a1+a3))) 1))),(19,iv (w64 ((w64 (iShr .u64 (IntKind.wrap .u64 (w64 (a1+a3))) 1))+a2))),(20,iv v_start20),(21,iv v_r21)] H (cha0::F):=by
 intro a0 Aa0 ca0 cha0 la0 a1 a2 a3 v_start20 v_r21 hoa0 hla0 heq
 unfold slices_symMergeCmpFunc_Blob.j7 at heq
 refine Sa 0<|Zd 3<|An 3 ?_
 exact Gt 0 [] (((slices_symMergeCmpFunc_Blob.l12_c (e8:=slices_symMergeCmpFunc_Blob.e8 rec_) (slices_symMergeCmpFunc_Blob.e8_c (rec_:=rec_) hrec_)) big) a0 _ _ _ _ a1 a2 a3 v_start20 v_r21 hoa0 hla0 heq)
theorem slices_symMergeCmpFunc_Blob_g {rec_:(List Blob)→Int→Int→Int→Option (List Blob)} (hrec_:∀ {H:Hp} {F:List Ch} {a0:List Blob} {Aa0:Option Addr} {na0:Nat} {ca0:Nat} {cha0:Ch} {a1:Int} {a2:Int} {a3:Int} {r:(List Blob)},SlOwn kBlob 45 H Aa0 ca0 a0 cha0→na0=a0.length→rec_ a0 a1 a2 a3=some r→CallsH Tryz.prog 112 #[.slice Aa0 na0 ca0,iv a1,iv a2,iv a3,.func (.func 96) #[] #[]] H w0 (cha0::F) (S112 F H Aa0 ca0 na0 r)) {H:Hp} {F:List Ch} {a0:List Blob} {Aa0:Option Addr} {na0 ca0:Nat} {cha0:Ch} {a1 a2 a3:Int} {r:(List Blob)} (heq:slices_symMergeCmpFunc_Blob.g rec_ a0 a1 a2 a3=some r) (hoa0:SlOwn kBlob 45 H Aa0 ca0 a0 cha0) (hna0:na0=a0.length):CallsH Tryz.prog 112 #[.slice Aa0 na0 ca0,iv a1,iv a2,iv a3,.func (.func 96) #[] #[]] H w0 (cha0::F) (S112 F H Aa0 ca0 na0 r):=by
 refine Co C112 Tryz.func112 Tryz.ntmps112 ?_
 suffices key0:∀ (la0:Nat),la0=na0→RunH C112 (S112 F H Aa0 ca0 la0 r) H w0 [.c []] (argL 0 [.slice Aa0 na0 ca0,iv a1,iv a2,iv a3,.func (.func 96) #[] #[]]) H (cha0::F) from key0 na0 rfl
 intro la0 hla0
 subst hna0
 unfold slices_symMergeCmpFunc_Blob.g at heq
 refine Sa 2<|Zd 4 ?_
 refine Cb heq ?_ ?_
 ·intro hb1 heq
  refine Sa 1<|Zd 2<|Sa 1<|Zd 2<|An 3 ?_
  exact Gt 0 [] (((slices_symMergeCmpFunc_Blob.l3_c (e1:=slices_symMergeCmpFunc_Blob.e1) (slices_symMergeCmpFunc_Blob.e1_c)) big) a0 _ _ _ _ a1 a2 a3 hoa0 hla0 heq)
 ·intro hb1 heq
  refine Sa 3<|Zd 4 ?_
  refine Cb heq ?_ ?_
  ·intro hb5 heq
   refine Sa 1<|Zd 2<|Sa 1<|Zd 2<|An 3 ?_
   exact Gt 0 [] (((slices_symMergeCmpFunc_Blob.l6_c (e4:=slices_symMergeCmpFunc_Blob.e4) (slices_symMergeCmpFunc_Blob.e4_c)) big) a0 _ _ _ _ a2 a1 a2 hoa0 hla0 heq)
  ·intro hb5 heq
   refine Sa 2<|Zw 7 [⟨.need ((0:Int)≤1),fun w hh=>(show (0:Int)≤1 by decide)⟩]<|Sa 1<|Zd 4<|Sa 1<|Zd 2<|Sa 2<|Zd 3 ?_
   refine Cb heq ?_ ?_
   ·intro hb17 heq
    refine Sa 1<|Zd 4<|Sa 0<|Zd 2<|An 1 ?_
    exact Gt 0 [] ((slices_symMergeCmpFunc_Blob.j7_c (rec_:=rec_) hrec_) a0 _ _ _ _ a1 a2 a3 (w64 ((w64 ((w64 (iShr .u64 (IntKind.wrap .u64 (w64 (a1+a3))) 1))+a2)) - a3)) (w64 (iShr .u64 (IntKind.wrap .u64 (w64 (a1+a3))) 1)) hoa0 hla0 heq)
   ·intro hb17 heq
    refine Sa 1<|Zd 2<|Sa 0<|Zd 2<|An 1 ?_
    exact Gt 0 [] ((slices_symMergeCmpFunc_Blob.j7_c (rec_:=rec_) hrec_) a0 _ _ _ _ a1 a2 a3 a1 a2 hoa0 hla0 heq)
theorem slices_symMergeCmpFunc_Blob_k:∀ (k:Nat),∀ {H:Hp} {F:List Ch} {a0:List Blob} {Aa0:Option Addr} {na0:Nat} {ca0:Nat} {cha0:Ch} {a1:Int} {a2:Int} {a3:Int} {r:(List Blob)},SlOwn kBlob 45 H Aa0 ca0 a0 cha0→na0=a0.length→slices_symMergeCmpFunc_Blob.fk k a0 a1 a2 a3=some r→CallsH Tryz.prog 112 #[.slice Aa0 na0 ca0,iv a1,iv a2,iv a3,.func (.func 96) #[] #[]] H w0 (cha0::F) (S112 F H Aa0 ca0 na0 r):=by
 intro k
 induction k with
 | zero=>intro H F a0 Aa0 na0 ca0 cha0 a1 a2 a3 r h0_ h1_ heq; cases heq
 | succ k ih =>
  intro H F a0 Aa0 na0 ca0 cha0 a1 a2 a3 r h0_ h1_ heq
  exact slices_symMergeCmpFunc_Blob_g (rec_:=slices_symMergeCmpFunc_Blob.fk k) ih heq h0_ h1_
theorem slices_symMergeCmpFunc_Blob_c {a0:List Blob} {Aa0:Option Addr} {na0 ca0:Nat} {cha0:Ch} {a1 a2 a3:Int} {r:(List Blob)} (heq:slices_symMergeCmpFunc_Blob.f a0 a1 a2 a3=some r) (hoa0:SlOwn kBlob 45 H Aa0 ca0 a0 cha0) (hna0:na0=a0.length):CallsH Tryz.prog 112 #[.slice Aa0 na0 ca0,iv a1,iv a2,iv a3,.func (.func 96) #[] #[]] H w0 (cha0::F) (S112 F H Aa0 ca0 na0 r):=by
 exact slices_symMergeCmpFunc_Blob_k big hoa0 hna0 heq
noncomputable def C103:Ctx:={ P:=Tryz.prog,f:=103,N:=63,c:=bodyOf Tryz.f103 }
def S103 (F:List Ch) (H0:Hp) (Aa0:Option Addr) (ca0:Nat) (la0:Nat) (r:(List Blob)) (v:Value) (H:Hp) (cs:List Ch):Prop:=∃ (ch0:Ch),H0=H∧v=.tuple #[]∧ch0::F=cs∧SlOwn kBlob 45 H Aa0 ca0 r ch0∧la0=r.length
theorem slices_stableCmpFunc_Blob.j4_c {r:(List Blob)} (backl2:Int→(List Blob)→Int→Option (List Blob))
  (hbackl2:∀ (Aa0:Option Addr) (ca0 la0:Nat) (a1:Int) (v_data0:List Blob) (chv_data0:Ch) (nv_data0:Nat) (v_blockSize6:Int) ,nv_data0=v_data0.length→la0=nv_data0→SlOwn kBlob 45 H Aa0 ca0 v_data0 chv_data0→backl2 a1 v_data0 v_blockSize6=some r→RunH C103 (S103 F H Aa0 ca0 la0 r) H w0 [.c [1,1,1,1,0,0],.l [1,1,1,1,0,0],.b 2] [(0,.slice Aa0 nv_data0 ca0),(1,iv a1),(2,.func (.func 96) #[] #[]),(6,iv v_blockSize6)] H (chv_data0::F)):∀ (Aa0:Option Addr) (ca0 la0:Nat) (a1 v_blockSize6:Int) (v_data0:List Blob) (chv_data0:Ch) (nv_data0:Nat) ,nv_data0=v_data0.length→la0=nv_data0→SlOwn kBlob 45 H Aa0 ca0 v_data0 chv_data0→slices_stableCmpFunc_Blob.j4 backl2 a1 v_blockSize6 v_data0=some r→RunH C103 (S103 F H Aa0 ca0 la0 r) H w0 [.c [1,1,1,1,0,0,1,0,1,1,1],.b 3,.l [1,1,1,1,0,0],.b 2] [(0,.slice Aa0 nv_data0 ca0),(1,iv a1),(2,.func (.func 96) #[] #[]),(6,iv v_blockSize6)] H (chv_data0::F):=by
 intro Aa0 ca0 la0 a1 v_blockSize6 v_data0 chv_data0 nv_data0 hnv_data0 hlv_data0 hov_data0 heq
 subst hnv_data0
 unfold slices_stableCmpFunc_Blob.j4 at heq
 refine Sa 0<|Zd 3<|An 2 ?_
 exact Gt 0 [] (hbackl2 _ _ _ a1 v_data0 _ _ (w64 (v_blockSize6*2)) rfl hlv_data0 hov_data0 heq)
theorem slices_stableCmpFunc_Blob.e3_c {r:(List Blob)} (backl2:Int→(List Blob)→Int→Option (List Blob))
  (hbackl2:∀ (Aa0:Option Addr) (ca0 la0:Nat) (a1:Int) (v_data0:List Blob) (chv_data0:Ch) (nv_data0:Nat) (v_blockSize6:Int) ,nv_data0=v_data0.length→la0=nv_data0→SlOwn kBlob 45 H Aa0 ca0 v_data0 chv_data0→backl2 a1 v_data0 v_blockSize6=some r→RunH C103 (S103 F H Aa0 ca0 la0 r) H w0 [.c [1,1,1,1,0,0],.l [1,1,1,1,0,0],.b 2] [(0,.slice Aa0 nv_data0 ca0),(1,iv a1),(2,.func (.func 96) #[] #[]),(6,iv v_blockSize6)] H (chv_data0::F)):∀ (Aa0:Option Addr) (ca0 la0:Nat) (a1:Int) (v_data0:List Blob) (chv_data0:Ch) (v_blockSize6 v_a7:Int) ,la0=v_data0.length→SlOwn kBlob 45 H Aa0 ca0 v_data0 chv_data0→slices_stableCmpFunc_Blob.e3 backl2 a1 v_data0 v_blockSize6 v_a7=some r→RunH C103 (S103 F H Aa0 ca0 la0 r) H w0 [.c [1,1,1,1,0,0,1,0,1,1,0,0],.c [1,1,1,1,0,0,1,0,1,1,0,1],.c [1,1,1,1,0,0,1,0,1,1,1],.b 3,.l [1,1,1,1,0,0],.b 2] [(0,.slice Aa0 v_data0.length ca0),(1,iv a1),(2,.func (.func 96) #[] #[]),(6,iv v_blockSize6),(7,iv v_a7)] H (chv_data0::F):=by
 intro Aa0 ca0 la0 a1 v_data0 chv_data0 v_blockSize6 v_a7 hlv_data0 hov_data0 heq
 unfold slices_stableCmpFunc_Blob.e3 at heq
 refine Sa 0<|Zd 4<|Sa 1<|Zd 3 ?_
 refine Cb heq ?_ ?_
 ·intro hb2 heq
  refine Sa 0<|Zk 5 ?_
  obtain ⟨y2,hy2,heq⟩:=bind_some heq
  refine RgH.does (cal 60 (slices_symMergeCmpFunc_Blob_c hy2 hov_data0 rfl)) ?_
  rintro _ _ _ _ ⟨_,rfl,ch2,rfl,rfl,rfl,ho2,hn2⟩
  refine Dn ?_
  exact Gt 0 [] ((slices_stableCmpFunc_Blob.j4_c (backl2:=backl2) hbackl2) _ _ _ a1 v_blockSize6 y2 _ _ hn2 hlv_data0 ho2 heq)
 ·intro hb2 heq
  refine An 1 ?_
  exact Gt 0 [] ((slices_stableCmpFunc_Blob.j4_c (backl2:=backl2) hbackl2) _ _ _ a1 v_blockSize6 v_data0 _ _ rfl hlv_data0 hov_data0 heq)
theorem slices_stableCmpFunc_Blob.l5_c {r:(List Blob)} (e3:Int→(List Blob)→Int→Int→Option (List Blob))
  (he3:∀ (Aa0:Option Addr) (ca0 la0:Nat) (a1:Int) (v_data0:List Blob) (chv_data0:Ch) (v_blockSize6 v_a7:Int) ,la0=v_data0.length→SlOwn kBlob 45 H Aa0 ca0 v_data0 chv_data0→e3 a1 v_data0 v_blockSize6 v_a7=some r→RunH C103 (S103 F H Aa0 ca0 la0 r) H w0 [.c [1,1,1,1,0,0,1,0,1,1,0,0],.c [1,1,1,1,0,0,1,0,1,1,0,1],.c [1,1,1,1,0,0,1,0,1,1,1],.b 3,.l [1,1,1,1,0,0],.b 2] [(0,.slice Aa0 v_data0.length ca0),(1,iv a1),(2,.func (.func 96) #[] #[]),(6,iv v_blockSize6),(7,iv v_a7)] H (chv_data0::F)):∀ (k:Nat),∀ (Aa0:Option Addr) (ca0 la0:Nat) (a1 v_blockSize6:Int) (v_data0:List Blob) (chv_data0:Ch) (nv_data0:Nat) (v_a7 v_b8:Int) ,nv_data0=v_data0.length→la0=nv_data0→SlOwn kBlob 45 H Aa0 ca0 v_data0 chv_data0→slices_stableCmpFunc_Blob.l5 e3 k a1 v_blockSize6 v_data0 v_a7 v_b8=some r→RunH C103 (S103 F H Aa0 ca0 la0 r) H w0 [.c [1,1,1,1,0,0,1,0,1,0,0,0],.l [1,1,1,1,0,0,1,0,1,0,0,0],.b 4,.c [1,1,1,1,0,0,1,0,1,1],.b 3,.l [1,1,1,1,0,0],.b 2] [(0,.slice Aa0 nv_data0 ca0),(1,iv a1),(2,.func (.func 96) #[] #[]),(6,iv v_blockSize6),(7,iv v_a7),(8,iv v_b8)] H (chv_data0::F):=by
 intro k
 induction k with
 | zero=>intro Aa0 ca0 la0 a1 v_blockSize6 v_data0 chv_data0 nv_data0 v_a7 v_b8 hnv_data0 hlv_data0 hov_data0 heq; exact nomatch (show (none:Option (List Blob))=some r from heq)
 | succ k ihk =>
  intro Aa0 ca0 la0 a1 v_blockSize6 v_data0 chv_data0 nv_data0 v_a7 v_b8 hnv_data0 hlv_data0 hov_data0 heq
  subst hnv_data0
  rw [slices_stableCmpFunc_Blob.l5] at heq
  refine Sa 2<|Zd 3 ?_
  refine Cb heq ?_ ?_
  ·intro hb3 heq
   refine Sa 3<|Zk 7 ?_
   obtain ⟨y3,hy3,heq⟩:=bind_some heq
   refine RgH.does (cal 43 (slices_symMergeCmpFunc_Blob_c hy3 hov_data0 rfl)) ?_
   rintro _ _ _ _ ⟨_,rfl,ch3,rfl,rfl,rfl,ho3,hn3⟩
   refine Dn<|Sa 1<|Zd 2<|Sa 0<|Zd 5<|An 2 ?_
   exact Gt 0 [] (ihk _ _ _ a1 v_blockSize6 y3 _ _ v_b8 (w64 (v_b8+(w64 (2*v_blockSize6)))) hn3 hlv_data0 ho3 heq)
  ·intro hb3 heq
   refine An 3 ?_
   exact Gt 0 [] (he3 _ _ _ a1 v_data0 _ v_blockSize6 v_a7 hlv_data0 hov_data0 heq)
theorem slices_stableCmpFunc_Blob.l2_c {r:(List Blob)}:∀ (k:Nat),∀ (Aa0:Option Addr) (ca0 la0:Nat) (a1:Int) (v_data0:List Blob) (chv_data0:Ch) (nv_data0:Nat) (v_blockSize6:Int) ,nv_data0=v_data0.length→la0=nv_data0→SlOwn kBlob 45 H Aa0 ca0 v_data0 chv_data0→slices_stableCmpFunc_Blob.l2 k a1 v_data0 v_blockSize6=some r→RunH C103 (S103 F H Aa0 ca0 la0 r) H w0 [.c [1,1,1,1,0,0],.l [1,1,1,1,0,0],.b 2] [(0,.slice Aa0 nv_data0 ca0),(1,iv a1),(2,.func (.func 96) #[] #[]),(6,iv v_blockSize6)] H (chv_data0::F):=by
 intro k
 induction k with
 | zero=>intro Aa0 ca0 la0 a1 v_data0 chv_data0 nv_data0 v_blockSize6 hnv_data0 hlv_data0 hov_data0 heq; exact nomatch (show (none:Option (List Blob))=some r from heq)
 | succ k ihk =>
  intro Aa0 ca0 la0 a1 v_data0 chv_data0 nv_data0 v_blockSize6 hnv_data0 hlv_data0 hov_data0 heq
  subst hnv_data0
  rw [slices_stableCmpFunc_Blob.l2] at heq
  refine Sa 2<|Zd 3 ?_
  refine Cb heq ?_ ?_
  ·intro hb1 heq
   refine Sa 3<|Zd 4<|An 3 ?_
   exact Gt 0 [] (((slices_stableCmpFunc_Blob.l5_c (e3:=slices_stableCmpFunc_Blob.e3 ((slices_stableCmpFunc_Blob.l2 k))) (slices_stableCmpFunc_Blob.e3_c (backl2:=(slices_stableCmpFunc_Blob.l2 k)) ihk)) big) _ _ _ a1 v_blockSize6 v_data0 _ _ 0 (w64 (2*v_blockSize6)) rfl hlv_data0 hov_data0 heq)
  ·intro hb1 heq
   refine An 1 ?_
   obtain rfl:=Option.some.inj heq
   exact RunH.done (by kernel_rfl) Tryz.func103 (v:=.tuple #[]) (by kernel_rfl) ⟨chv_data0,rfl,rfl,rfl,hov_data0,(hlv_data0.trans rfl)⟩
theorem slices_stableCmpFunc_Blob.e1_c {r:(List Blob)}:∀ (Aa0:Option Addr) (ca0 la0:Nat) (a1:Int) (v_data0:List Blob) (chv_data0:Ch) (nv_data0:Nat) (v_a7:Int) ,nv_data0=v_data0.length→la0=nv_data0→SlOwn kBlob 45 H Aa0 ca0 v_data0 chv_data0→slices_stableCmpFunc_Blob.e1 a1 v_data0 v_a7=some r→RunH C103 (S103 F H Aa0 ca0 la0 r) H w0 [.c [1,1,1,0],.c [1,1,1,1]] [(0,.slice Aa0 nv_data0 ca0),(1,iv a1),(2,.func (.func 96) #[] #[]),(6,iv 20),(7,iv v_a7)] H (chv_data0::F):=by
 intro Aa0 ca0 la0 a1 v_data0 chv_data0 nv_data0 v_a7 hnv_data0 hlv_data0 hov_data0 heq
 subst hnv_data0
 unfold slices_stableCmpFunc_Blob.e1 at heq
 refine Sa 0<|Zk 4 ?_
 obtain ⟨y1,hy1,heq⟩:=bind_some heq
 refine RgH.does (cal 27 (slices_insertionSortCmpFunc_Blob_c hy1 hov_data0 rfl)) ?_
 rintro _ _ _ _ ⟨_,rfl,ch1,rfl,rfl,rfl,ho1,hn1⟩
 refine Dn<|An 2 ?_
 exact Gt 0 [] (((slices_stableCmpFunc_Blob.l2_c) big) _ _ _ a1 y1 _ _ 20 hn1 hlv_data0 ho1 heq)
theorem slices_stableCmpFunc_Blob.l6_c {r:(List Blob)} (e1:Int→(List Blob)→Int→Option (List Blob))
  (he1:∀ (Aa0:Option Addr) (ca0 la0:Nat) (a1:Int) (v_data0:List Blob) (chv_data0:Ch) (nv_data0:Nat) (v_a7:Int) ,nv_data0=v_data0.length→la0=nv_data0→SlOwn kBlob 45 H Aa0 ca0 v_data0 chv_data0→e1 a1 v_data0 v_a7=some r→RunH C103 (S103 F H Aa0 ca0 la0 r) H w0 [.c [1,1,1,0],.c [1,1,1,1]] [(0,.slice Aa0 nv_data0 ca0),(1,iv a1),(2,.func (.func 96) #[] #[]),(6,iv 20),(7,iv v_a7)] H (chv_data0::F)):∀ (k:Nat),∀ (Aa0:Option Addr) (ca0 la0:Nat) (a1:Int) (v_data0:List Blob) (chv_data0:Ch) (nv_data0:Nat) (v_a7 v_b8:Int) ,nv_data0=v_data0.length→la0=nv_data0→SlOwn kBlob 45 H Aa0 ca0 v_data0 chv_data0→slices_stableCmpFunc_Blob.l6 e1 k a1 v_data0 v_a7 v_b8=some r→RunH C103 (S103 F H Aa0 ca0 la0 r) H w0 [.c [1,1,0,0,0],.l [1,1,0,0,0],.b 0,.c [1,1,1]] [(0,.slice Aa0 nv_data0 ca0),(1,iv a1),(2,.func (.func 96) #[] #[]),(6,iv 20),(7,iv v_a7),(8,iv v_b8)] H (chv_data0::F):=by
 intro k
 induction k with
 | zero=>intro Aa0 ca0 la0 a1 v_data0 chv_data0 nv_data0 v_a7 v_b8 hnv_data0 hlv_data0 hov_data0 heq; exact nomatch (show (none:Option (List Blob))=some r from heq)
 | succ k ihk =>
  intro Aa0 ca0 la0 a1 v_data0 chv_data0 nv_data0 v_a7 v_b8 hnv_data0 hlv_data0 hov_data0 heq
  subst hnv_data0
  rw [slices_stableCmpFunc_Blob.l6] at heq
  refine Sa 2<|Zd 3 ?_
  refine Cb heq ?_ ?_
  ·intro hb4 heq
   refine Sa 3<|Zk 4 ?_
   obtain ⟨y4,hy4,heq⟩:=bind_some heq
   refine RgH.does (cal 18 (slices_insertionSortCmpFunc_Blob_c hy4 hov_data0 rfl)) ?_
   rintro _ _ _ _ ⟨_,rfl,ch4,rfl,rfl,rfl,ho4,hn4⟩
   refine Dn<|Sa 1<|Zd 2<|Sa 0<|Zd 4<|An 2 ?_
   exact Gt 0 [] (ihk _ _ _ a1 y4 _ _ v_b8 (w64 (v_b8+20)) hn4 hlv_data0 ho4 heq)
  ·intro hb4 heq
   refine An 2 ?_
   exact Gt 0 [] (he1 _ _ _ a1 v_data0 _ _ v_a7 rfl hlv_data0 hov_data0 heq)
theorem slices_stableCmpFunc_Blob_c {a0:List Blob} {Aa0:Option Addr} {na0 ca0:Nat} {cha0:Ch} {a1:Int} {r:(List Blob)} (heq:slices_stableCmpFunc_Blob.f a0 a1=some r) (hoa0:SlOwn kBlob 45 H Aa0 ca0 a0 cha0) (hna0:na0=a0.length):CallsH Tryz.prog 103 #[.slice Aa0 na0 ca0,iv a1,.func (.func 96) #[] #[]] H w0 (cha0::F) (S103 F H Aa0 ca0 na0 r):=by
 refine Co C103 Tryz.func103 Tryz.ntmps103 ?_
 suffices key0:∀ (la0:Nat),la0=na0→RunH C103 (S103 F H Aa0 ca0 la0 r) H w0 [.c []] (argL 0 [.slice Aa0 na0 ca0,iv a1,.func (.func 96) #[] #[]]) H (cha0::F) from key0 na0 rfl
 intro la0 hla0
 subst hna0
 unfold slices_stableCmpFunc_Blob.f at heq
 refine Sa 1<|Zd 1<|Sa 1<|Zd 3<|An 3 ?_
 exact Gt 0 [] (((slices_stableCmpFunc_Blob.l6_c (e1:=slices_stableCmpFunc_Blob.e1) (slices_stableCmpFunc_Blob.e1_c)) big) _ _ _ a1 a0 _ _ 0 20 rfl hla0 hoa0 heq)
noncomputable def C95:Ctx:={ P:=Tryz.prog,f:=95,N:=9,c:=bodyOf Tryz.f95 }
def S95 (F:List Ch) (H0:Hp) (Aa0:Option Addr) (ca0:Nat) (la0:Nat) (r:(List Blob)) (v:Value) (H:Hp) (cs:List Ch):Prop:=∃ (ch0:Ch),H0=H∧v=.tuple #[]∧ch0::F=cs∧SlOwn kBlob 45 H Aa0 ca0 r ch0∧la0=r.length
theorem slices_SortStableFunc_Blob_c {a0:List Blob} {Aa0:Option Addr} {na0 ca0:Nat} {cha0:Ch} {r:(List Blob)} (heq:slices_SortStableFunc_Blob.f a0=some r) (hoa0:SlOwn kBlob 45 H Aa0 ca0 a0 cha0) (hna0:na0=a0.length):CallsH Tryz.prog 95 #[.slice Aa0 na0 ca0,.func (.func 96) #[] #[]] H w0 (cha0::F) (S95 F H Aa0 ca0 na0 r):=by
 refine Co C95 Tryz.func95 Tryz.ntmps95 ?_
 suffices key0:∀ (la0:Nat),la0=na0→RunH C95 (S95 F H Aa0 ca0 la0 r) H w0 [.c []] (argL 0 [.slice Aa0 na0 ca0,.func (.func 96) #[] #[]]) H (cha0::F) from key0 na0 rfl
 intro la0 hla0
 subst hna0
 unfold slices_SortStableFunc_Blob.f at heq
 refine Sa 0<|Zk 4 ?_
 obtain ⟨y1,hy1,heq⟩:=bind_some heq
 refine RgH.does (cal 8 (slices_stableCmpFunc_Blob_c hy1 hoa0 rfl)) ?_
 rintro _ _ _ _ ⟨_,rfl,ch1,rfl,rfl,rfl,ho1,hn1⟩
 refine Dn ?_
 obtain rfl:=Option.some.inj heq
 exact RunH.done (by kernel_rfl) Tryz.func95 (v:=.tuple #[]) (by kernel_rfl) ⟨ch1,rfl,rfl,rfl,ho1,(hla0.trans hn1)⟩
noncomputable def C78:Ctx:={ P:=Tryz.prog,f:=78,N:=14,c:=bodyOf Tryz.f78 }
def S78 (F:List Ch) (H0:Hp) (r:(List Blob)) (v:Value) (H:Hp) (cs:List Ch):Prop:=∃ (A0:Option Addr) (c0:Nat) (ch0:Ch),H0=H∧v=.slice A0 r.length c0∧ch0::F=cs∧SlOwn kBlob 45 H A0 c0 r ch0
theorem cache_leaving_c {a0:Cache} {Aa0_2:Option Addr} {na0_2 ca0_2:Nat} {Aa0_3:Option Addr} {na0_3 ca0_3:Nat} {a1:Int} {r:(List Blob)} (heq:cache_leaving.f a0 a1=some r) (hra0_2:Rw kBlob H F Aa0_2 a0.Blobs) (hca0_2:na0_2≤ca0_2) (hna0_2:na0_2=a0.Blobs.length) (hra0_3:Rw kEntry H F Aa0_3 a0.Entries) (hca0_3:na0_3≤ca0_3) (hna0_3:na0_3=a0.Entries.length):CallsH Tryz.prog 78 #[.agg #[iv a0.Room,iv a0.Lease,.slice Aa0_2 na0_2 ca0_2,.slice Aa0_3 na0_3 ca0_3],iv a1] H w0 (F) (S78 F H r):=by
 refine Co C78 Tryz.func78 Tryz.ntmps78 ?_
 subst hna0_2
 subst hna0_3
 unfold cache_leaving.f at heq
 refine Sa 1 ?_
 refine RgH.does (DoesH.new (d:=2) (v:=fun g=>.pointer (some ⟨g,0,none⟩)) (o:=fun g=>.cells #[iv a0.Room,iv a0.Lease,.slice Aa0_2 a0.Blobs.length ca0_2,.slice Aa0_3 a0.Entries.length ca0_3] 25 (0,0)) (fun g=>by kernel_rfl)) ?_
 rintro _ _ _ _ ⟨g1,rfl,rfl,rfl⟩
 refine RgH.does (DoesH.new (d:=3) (v:=fun g=>.pointer (some ⟨g,0,none⟩)) (o:=fun g=>.cells #[iv a1] 3 (0,0)) (fun g=>by kernel_rfl)) ?_
 rintro _ _ _ _ ⟨g2,rfl,rfl,rfl⟩
 refine Zd 3<|Sa 1<|Zv 2 [bx 1 2] ?_
 obtain ⟨y1,hy1,heq⟩:=bind_some heq
 refine RgH.does (cal 8 (slices_Clone_Blob_c (a0:=a0.Blobs) (hra0_2.wk (fun _ h=>(.tail _ (.tail _ h)))) hca0_2 rfl hy1)) ?_
 rintro _ _ _ _ ⟨_,rfl,A1,c1,ch1,rfl,rfl,rfl,ho1⟩
 refine Zk 4 ?_
 obtain ⟨y2,hy2,heq⟩:=bind_some heq
 refine RgH.does (cal 10 (slices_DeleteFunc_Blob_c hy2 ho1 rfl (.inr (.head _)))) ?_
 rintro _ _ _ _ ⟨_,rfl,A2,c2,ch2,rfl,rfl,rfl,ho2⟩
 refine Zd 6<|Sa 1<|Zk 1 ?_
 obtain ⟨y3,hy3,heq⟩:=bind_some heq
 refine RgH.does (cal 12 (slices_SortStableFunc_Blob_c hy3 ho2 rfl)) ?_
 rintro _ _ _ _ ⟨_,rfl,ch3,rfl,rfl,rfl,ho3,hn1⟩
 refine Dn<|Sa 1<|Zd 2 ?_
 obtain rfl:=Option.some.inj heq
 refine Up 3 [0] ?_
 exact RunH.done (by kernel_rfl) Tryz.func78 (v:=.slice A2 y2.length c2) (by kernel_rfl) ⟨A2,c2,ch3,rfl,(by first | rfl | exact congrArg (fun q=>Value.slice _ q _) hn1 | (rw [hn1]; done) | (simp only [← hn1])),(by first | rfl | (rw [hn1]; done) | (rw [hn1]; rfl) | (simp only [List.length_set]; done) | (simp only [List.length_set]; rfl)),ho3⟩
noncomputable def C79:Ctx:={ P:=Tryz.prog,f:=79,N:=19,c:=bodyOf Tryz.f79 }
def S79 (F:List Ch) (H0:Hp) (r:Int) (v:Value) (H:Hp) (cs:List Ch):Prop:=H0=H∧v=iv r∧F=cs
theorem cache_used.e1_c {r:Int}:∀ (v_sum3:Int) ,cache_used.e1 v_sum3=some r→RunH C79 (S79 F H r) H w0 [.c [1,1,1,0],.c [1,1,1,1]] [(3,iv v_sum3)] H (F):=by
 intro v_sum3  heq
 unfold cache_used.e1 at heq
 refine Sa 0<|Zd 2 ?_
 obtain rfl:=Option.some.inj heq
 exact RunH.done (by kernel_rfl) Tryz.func79 (v:=iv v_sum3) (by kernel_rfl) ⟨rfl,rfl,rfl⟩
theorem cache_used.l2_c {r:Int} (e1:Int→Option Int)
  (he1:∀ (v_sum3:Int) ,e1 v_sum3=some r→RunH C79 (S79 F H r) H w0 [.c [1,1,1,0],.c [1,1,1,1]] [(3,iv v_sum3)] H (F)):∀ (k:Nat),∀ (a0:Cache) (Aa0_2:Option Addr) (ca0_2:Nat) (v_sum3 v9:Int) ,Rw kBlob H F Aa0_2 a0.Blobs→a0.Blobs.length≤ca0_2→cache_used.l2 e1 k a0 v_sum3 v9=some r→RunH C79 (S79 F H r) H w0 [.c [1,1,0,1,0,0],.l [1,1,0,1,0,0],.b 0,.c [1,1,1]] [(3,iv v_sum3),(7,.slice Aa0_2 a0.Blobs.length ca0_2),(8,iv (a0.Blobs.length:Int)),(9,iv v9)] H (F):=by
 intro k
 induction k with
 | zero=>intro a0 Aa0_2 ca0_2 v_sum3 v9 hra0_2 hca0_2 heq; exact nomatch (show (none:Option Int)=some r from heq)
 | succ k ihk =>
  intro a0 Aa0_2 ca0_2 v_sum3 v9 hra0_2 hca0_2 heq
  rw [cache_used.l2] at heq
  refine Sa 1<|Zd 1<|An 1 ?_
  refine Cb heq ?_ ?_
  ·intro hb1 heq
   refine Sa 4 ?_
   obtain ⟨x1,hx1,heq⟩:=bind_some heq
   obtain ⟨ha1,cs1,hK1,hcc1⟩:=hra0_2.get hx1
   obtain ⟨rfl⟩:=kBlob_open hK1
   refine Zv 2 ([nx ha1 hx1]++ers hcc1 0) ?_
   refine RgH.does (DoesH.new (d:=5) (v:=fun g=>.pointer (some ⟨g,0,none⟩)) (o:=fun g=>.cells #[.string ByteArray.empty,iv 0,iv 0,iv 0,iv 0] 45 (0,0)) (fun g=>by kernel_rfl)) ?_
   rintro _ _ _ _ ⟨g2,rfl,rfl,rfl⟩
   refine RgH.does (DoesH.store (k:=0) (g:=g2) (off:=0) (v:=.agg #[.string x1.Digest,iv x1.Size,iv x1.Used,iv x1.Until,iv x1.Pins]) (cells':=#[.string x1.Digest,iv x1.Size,iv x1.Used,iv x1.Until,iv x1.Pins]) (by kernel_rfl) rfl (by kernel_rfl) (by kernel_rfl)) ?_
   rintro _ _ _ _ ⟨rfl,rfl,rfl⟩
   refine RgH.nrm ?_
   refine Dn<|Sa 0<|Zw 5 [bx 0 1]<|Sa 1<|Zd 2<|An 1 ?_
   exact Gt 1 [] (ihk a0 _ _ (w64 (v_sum3+x1.Size)) (w64 (v9+1)) hra0_2 hca0_2 heq)
  ·intro hb1 heq
   refine An 2 ?_
   exact Gt 0 [] (he1 v_sum3 heq)
theorem cache_used_c {a0:Cache} {Aa0_2:Option Addr} {na0_2 ca0_2:Nat} {Aa0_3:Option Addr} {na0_3 ca0_3:Nat} {r:Int} (heq:cache_used.f a0=some r) (hra0_2:Rw kBlob H F Aa0_2 a0.Blobs) (hca0_2:na0_2≤ca0_2) (hna0_2:na0_2=a0.Blobs.length) (hra0_3:Rw kEntry H F Aa0_3 a0.Entries) (hca0_3:na0_3≤ca0_3) (hna0_3:na0_3=a0.Entries.length):CallsH Tryz.prog 79 #[.agg #[iv a0.Room,iv a0.Lease,.slice Aa0_2 na0_2 ca0_2,.slice Aa0_3 na0_3 ca0_3]] H w0 (F) (S79 F H r):=by
 refine Co C79 Tryz.func79 Tryz.ntmps79 ?_
 subst hna0_2
 subst hna0_3
 unfold cache_used.f at heq
 refine Sa 1 ?_
 refine RgH.does (DoesH.new (d:=1) (v:=fun g=>.pointer (some ⟨g,0,none⟩)) (o:=fun g=>.cells #[iv a0.Room,iv a0.Lease,.slice Aa0_2 a0.Blobs.length ca0_2,.slice Aa0_3 a0.Entries.length ca0_3] 25 (0,0)) (fun g=>by kernel_rfl)) ?_
 rintro _ _ _ _ ⟨g1,rfl,rfl,rfl⟩
 refine Zd 2<|Sa 1<|Zd 1<|Sa 2<|Zw 4 [bx 0 2]<|An 2 ?_
 exact Gt 1 [] (((cache_used.l2_c (e1:=cache_used.e1) (cache_used.e1_c)) big) a0 _ _ 0 0 hra0_2 hca0_2 heq)
noncomputable def C80:Ctx:={ P:=Tryz.prog,f:=80,N:=6,c:=bodyOf Tryz.f80 }
def S80 (F:List Ch) (H0:Hp) (r:Int) (v:Value) (H:Hp) (cs:List Ch):Prop:=H0=H∧v=iv r∧F=cs
theorem cache_sumOf_c {a0:List Blob} {Aa0:Option Addr} {na0 ca0:Nat} {r:Int} (heq:cache_sumOf.f a0=some r) (hra0:Rw kBlob H F Aa0 a0) (hca0:na0≤ca0) (hna0:na0=a0.length):CallsH Tryz.prog 80 #[.slice Aa0 na0 ca0] H w0 (F) (S80 F H r):=by
 refine Co C80 Tryz.func80 Tryz.ntmps80 ?_
 subst hna0
 unfold cache_sumOf.f at heq
 refine Sa 1<|Zd 1<|Sa 1<|Zk 2 ?_
 obtain ⟨y1,hy1,heq⟩:=bind_some heq
 refine RgH.does (cal 5 (cache_used_c (a0:=(⟨0,0,a0,([]:List Entry)⟩:Cache)) hy1 hra0 hca0 rfl (Rw.nil (A:=none)) (Nat.le_refl _) rfl)) ?_
 rintro _ _ _ _ ⟨_,rfl,rfl,rfl,rfl⟩
 refine Zd 4 ?_
 obtain rfl:=Option.some.inj heq
 exact RunH.done (by kernel_rfl) Tryz.func80 (v:=iv y1) (by kernel_rfl) ⟨rfl,rfl,rfl⟩
noncomputable def C60:Ctx:={ P:=Tryz.prog,f:=60,N:=8,c:=bodyOf Tryz.f60 }
def S60 (F:List Ch) (H0:Hp) (r:Bool) (v:Value) (H:Hp) (cs:List Ch):Prop:=H0=H∧v=.bool r∧F=cs
theorem cache_drop_1_c {a0:Blob} {ga1:Nat} {a1:List (ByteArray × Bool)} {Aa1_0:Option Nat} {r:Bool} (heq:cache_drop_1.f a0 a1=some r) (hra1_0:Mw Value.string Kd.bool false H F Aa1_0 a1) (hga1:InG H F ga1 (.cells #[.map Aa1_0] 86 (0,0))):CallsH Tryz.prog 60 #[.agg #[.string a0.Digest,iv a0.Size,iv a0.Used,iv a0.Until,iv a0.Pins],.pointer (some ⟨ga1,0,none⟩)] H w0 (F) (S60 F H r):=by
 refine Co C60 Tryz.func60 Tryz.ntmps60 ?_
 unfold cache_drop_1.f at heq
 refine Sa 1 ?_
 refine RgH.does (DoesH.new (d:=2) (v:=fun g=>.pointer (some ⟨g,0,none⟩)) (o:=fun g=>.cells #[.string a0.Digest,iv a0.Size,iv a0.Used,iv a0.Until,iv a0.Pins] 45 (0,0)) (fun g=>by kernel_rfl)) ?_
 rintro _ _ _ _ ⟨g1,rfl,rfl,rfl⟩
 refine Zd 2<|Sa 1<|Zv 3 [rb hga1 1 0,bx 0 0] ?_
 refine RgH.does (DoesH.lookup (d:=7) (t:=86) (m:=a1) (k:=a0.Digest) (z:=.bool false) (zc:=[.bool false]) (z0:=false) (ok:=false) (kd:=Kd.bool) (ag:=false) (by kernel_rfl) (KyAt.string Tryz.underlying9) rfl rfl (fun w hh=>hra1_0.on (hh.drop 1))) ?_
 rintro _ _ _ _ ⟨cc1,rfl,rfl,rfl,hcc1⟩
 obtain rfl:cc1=[.bool (mgetD a1 a0.Digest false)]:=hcc1
 refine RgH.val1 (v':=.bool (mgetD a1 a0.Digest false)) rfl ?_
 refine Zd 5 ?_
 obtain rfl:=Option.some.inj heq
 refine Up 1 [] ?_
 exact RunH.done (by kernel_rfl) Tryz.func60 (v:=.bool (mgetD a1 a0.Digest false)) (by kernel_rfl) ⟨rfl,rfl,rfl⟩
noncomputable def C87v2:Ctx:={ P:=Tryz.prog,f:=87,N:=19,c:=bodyOf Tryz.f87 }
def S87v2 (F:List Ch) (H0:Hp) (r:Int) (v:Value) (H:Hp) (cs:List Ch):Prop:=H0=H∧v=iv r∧F=cs
theorem slices_IndexFunc_Blob_2.e1_c {r:Int}:slices_IndexFunc_Blob_2.e1=some r→RunH C87v2 (S87v2 F H r) H w0 [.c [1,1,0],.c [1,1,1]] [] H (F):=by
 intro   heq
 unfold slices_IndexFunc_Blob_2.e1 at heq
 refine Sa 0<|Zd 1 ?_
 obtain rfl:=Option.some.inj heq
 exact RunH.done (by kernel_rfl) Tryz.func87 (v:=iv (-1)) (by kernel_rfl) ⟨rfl,rfl,rfl⟩
theorem slices_IndexFunc_Blob_2.l2_c {r:Int} (e1:Option Int)
  (he1:e1=some r→RunH C87v2 (S87v2 F H r) H w0 [.c [1,1,0],.c [1,1,1]] [] H (F)):∀ (k:Nat),∀ (a0:List Blob) (Aa0:Option Addr) (ca0 ga1q0:Nat) (a1q0:List (ByteArray × Bool)) (Aa1q0_0:Option Nat) (v8:Int) ,Rw kBlob H F Aa0 a0→a0.length≤ca0→Mw Value.string Kd.bool false H F Aa1q0_0 a1q0→InG H F ga1q0 (.cells #[.map Aa1q0_0] 86 (0,0))→slices_IndexFunc_Blob_2.l2 e1 k a0 a1q0 v8=some r→RunH C87v2 (S87v2 F H r) H w0 [.c [1,0,1,0,0],.l [1,0,1,0,0],.b 0,.c [1,1]] [(0,.slice Aa0 a0.length ca0),(1,.func (.func 60) #[] #[.pointer (some ⟨ga1q0,0,none⟩)]),(7,iv (a0.length:Int)),(8,iv v8)] H (F):=by
 intro k
 induction k with
 | zero=>intro a0 Aa0 ca0 ga1q0 a1q0 Aa1q0_0 v8 hra0 hca0 hra1q0_0 hga1q0 heq; exact nomatch (show (none:Option Int)=some r from heq)
 | succ k ihk =>
  intro a0 Aa0 ca0 ga1q0 a1q0 Aa1q0_0 v8 hra0 hca0 hra1q0_0 hga1q0 heq
  rw [slices_IndexFunc_Blob_2.l2] at heq
  refine Sa 1<|Zd 1<|An 1 ?_
  refine Cb heq ?_ ?_
  ·intro hb1 heq
   refine Sa 4<|Zd 2<|Sa 1 ?_
   obtain ⟨x1,hx1,heq⟩:=bind_some heq
   obtain ⟨ha1,cs1,hK1,hcc1⟩:=hra0.get hx1
   obtain ⟨rfl⟩:=kBlob_open hK1
   refine Zv 5 ([nx ha1 hx1]++ers hcc1 0) ?_
   obtain ⟨y1,hy1,heq⟩:=bind_some heq
   refine RgH.does (cal 16 (cache_drop_1_c hy1 hra1q0_0 hga1q0)) ?_
   rintro _ _ _ _ ⟨_,rfl,rfl,rfl,rfl⟩
   refine Dn ?_
   refine Cb heq ?_ ?_
   ·intro hb2 heq
    refine Sa 1<|Zd 2 ?_
    obtain rfl:=Option.some.inj heq
    exact RunH.done (by kernel_rfl) Tryz.func87 (v:=iv v8) (by kernel_rfl) ⟨rfl,rfl,rfl⟩
   ·intro hb2 heq
    refine Sa 2<|Zd 2<|An 1 ?_
    exact Gt 0 [] (ihk a0 _ _ _ a1q0 _ (w64 (v8+1)) hra0 hca0 hra1q0_0 hga1q0 heq)
  ·intro hb1 heq
   refine An 2 ?_
   exact Gt 0 [] (he1 heq)
theorem slices_IndexFunc_Blob_2_c {a0:List Blob} {Aa0:Option Addr} {na0 ca0 ga1q0:Nat} {a1q0:List (ByteArray × Bool)} {Aa1q0_0:Option Nat} {r:Int} (heq:slices_IndexFunc_Blob_2.f a0 a1q0=some r) (hra0:Rw kBlob H F Aa0 a0) (hca0:na0≤ca0) (hna0:na0=a0.length) (hra1q0_0:Mw Value.string Kd.bool false H F Aa1q0_0 a1q0) (hga1q0:InG H F ga1q0 (.cells #[.map Aa1q0_0] 86 (0,0))):CallsH Tryz.prog 87 #[.slice Aa0 na0 ca0,.func (.func 60) #[] #[.pointer (some ⟨ga1q0,0,none⟩)]] H w0 (F) (S87v2 F H r):=by
 refine Co C87v2 Tryz.func87 Tryz.ntmps87 ?_
 subst hna0
 unfold slices_IndexFunc_Blob_2.f at heq
 refine Sa 1<|Zd 1<|Sa 2<|Zd 3<|An 2 ?_
 exact Gt 0 [] (((slices_IndexFunc_Blob_2.l2_c (e1:=slices_IndexFunc_Blob_2.e1) (slices_IndexFunc_Blob_2.e1_c)) big) a0 _ _ _ a1q0 _ 0 hra0 hca0 hra1q0_0 hga1q0 heq)
noncomputable def C59v2:Ctx:={ P:=Tryz.prog,f:=59,N:=42,c:=bodyOf Tryz.f59 }
def S59v2 (F:List Ch) (H0:Hp) (r:(List Blob)) (v:Value) (H:Hp) (cs:List Ch):Prop:=∃ (A0:Option Addr) (c0:Nat) (ch0:Ch),H0=H∧v=.slice A0 r.length c0∧ch0::F=cs∧SlOwn kBlob 45 H A0 c0 r ch0
theorem slices_DeleteFunc_Blob_2.e1_c {r:(List Blob)}:∀ (v_s0:List Blob) (Av_s0:Option Addr) (nv_s0 cv_s0:Nat) (chv_s0:Ch) (v_i5:Int) ,SlOwn kBlob 45 H Av_s0 cv_s0 v_s0 chv_s0→nv_s0=v_s0.length→slices_DeleteFunc_Blob_2.e1 v_s0 v_i5=some r→RunH C59v2 (S59v2 F H r) H w0 [.c [1,1,1,1,0],.c [1,1,1,1,1]] [(0,.slice Av_s0 nv_s0 cv_s0),(5,iv v_i5)] H (chv_s0::F):=by
 intro v_s0 Av_s0 nv_s0 cv_s0 chv_s0 v_i5 hov_s0 hnv_s0 heq
 subst hnv_s0
 unfold slices_DeleteFunc_Blob_2.e1 at heq
 refine Sa 0 ?_
 obtain ⟨hn2,heq⟩:=guard?_some heq
 have hn1:v_s0.length - v_i5.toNat=(v_s0.drop v_i5.toNat).length:=by have h1:=both_of hn2; have h3:=trivial; (try simp); (try omega)
 have ho1:=hov_s0.drop v_i5.toNat (by have h2:=hov_s0.cap; have h3:=trivial; have h1:=both_of hn2; omega)
 refine Zv 3 [⟨.need ((0:Int)≤v_i5∧v_i5≤((v_s0.length:Nat):Int)),fun w hh=>(both_of hn2)⟩] ?_
 refine RgH.does (DoesH.clear (k:=0) (j:=v_i5.toNat) (n:=v_s0.length - v_i5.toNat) (t:=22) (e:=45) (bytes:=48) (kd:=kBlob) (A:=Av_s0) (A2:=(shiftA cv_s0 v_i5.toNat 5 Av_s0)) (c:=cv_s0) (c2:=(cv_s0 - v_i5.toNat)) (xs:=v_s0) (z:=(⟨ByteArray.empty,0,0,0,0⟩:Blob)) (zc:=#[.string ByteArray.empty,iv 0,iv 0,iv 0,iv 0]) (by kernel_rfl) (by have h3:=trivial; omega) (by kernel_rfl) (by kernel_rfl) kBlob_mk (by kernel_rfl) rfl hov_s0 (by have h1:=both_of hn2; have h3:=trivial; omega) (fun h b off hA=>shiftA_at h hov_s0.cap hA)) ?_
 rintro _ _ _ _ ⟨ch1,rfl,rfl,rfl,ho2⟩
 have hn3:v_s0.length=(v_s0.take v_i5.toNat++List.replicate (v_s0.length - v_i5.toNat) (⟨ByteArray.empty,0,0,0,0⟩:Blob)).length:=by have h1:=both_of hn2; have h3:=trivial; simp; omega
 refine RgH.nrm ?_
 refine Dn<|Sa 1 ?_
 obtain ⟨hn5,heq⟩:=guard?_some heq
 have hn4:v_i5.toNat=((v_s0.take v_i5.toNat++List.replicate (v_s0.length - v_i5.toNat) (⟨ByteArray.empty,0,0,0,0⟩:Blob)).take v_i5.toNat).length:=by have h1:=both_of hn5; have h3:=hn3; (try simp); (try omega)
 have ho3:=ho2.take v_i5.toNat
 refine Zw 4 [⟨.need ((0:Int)≤v_i5∧v_i5≤((cv_s0:Nat):Int)),fun w hh=>⟨(both_of hn5).1,(by have h1:=(both_of hn5).2; have h2:=(show v_s0.length≤cv_s0 from by have:=ho2.cap; have:=hn3; omega); have h3:=hn3; omega)⟩⟩] ?_
 obtain rfl:=Option.some.inj heq
 exact RunH.done (by kernel_rfl) Tryz.func59 (v:=.slice Av_s0 v_i5.toNat cv_s0) (by kernel_rfl) ⟨Av_s0,cv_s0,ch1,rfl,(by first | rfl | exact congrArg (fun q=>Value.slice _ q _) hn4 | (rw [hn4]; done) | (simp only [← hn4])),(by first | rfl | (rw [hn4]; done) | (rw [hn4]; rfl) | (simp only [List.length_set]; done) | (simp only [List.length_set]; rfl)),ho3⟩
theorem slices_DeleteFunc_Blob_2.j3_c {r:(List Blob)} (backl2:(List (ByteArray × Bool))→(List Blob)→Int→Int→Option (List Blob))
  (hbackl2:∀ (ga1q0:Nat) (a1q0:List (ByteArray × Bool)) (Aa1q0_0:Option Nat) (v_s0:List Blob) (Av_s0:Option Addr) (nv_s0 cv_s0:Nat) (chv_s0:Ch) (v_i5 v_j6:Int) ,Mw Value.string Kd.bool false H F Aa1q0_0 a1q0→InG H F ga1q0 (.cells #[.map Aa1q0_0] 86 (0,0))→SlOwn kBlob 45 H Av_s0 cv_s0 v_s0 chv_s0→nv_s0=v_s0.length→backl2 a1q0 v_s0 v_i5 v_j6=some r→RunH C59v2 (S59v2 F H r) H w0 [.c [1,1,1,0,1,0,0],.l [1,1,1,0,1,0,0],.b 0,.c [1,1,1,1]] [(0,.slice Av_s0 nv_s0 cv_s0),(1,.func (.func 60) #[] #[.pointer (some ⟨ga1q0,0,none⟩)]),(5,iv v_i5),(6,iv v_j6)] H (chv_s0::F)):∀ (ga1q0:Nat) (a1q0:List (ByteArray × Bool)) (Aa1q0_0:Option Nat) (v_j6:Int) (v_s0:List Blob) (Av_s0:Option Addr) (nv_s0 cv_s0:Nat) (chv_s0:Ch) (v_i5:Int) ,Mw Value.string Kd.bool false H F Aa1q0_0 a1q0→InG H F ga1q0 (.cells #[.map Aa1q0_0] 86 (0,0))→SlOwn kBlob 45 H Av_s0 cv_s0 v_s0 chv_s0→nv_s0=v_s0.length→slices_DeleteFunc_Blob_2.j3 backl2 a1q0 v_j6 v_s0 v_i5=some r→RunH C59v2 (S59v2 F H r) H w0 [.c [1,1,1,0,1,0,0,1,1],.l [1,1,1,0,1,0,0],.b 0,.c [1,1,1,1]] [(0,.slice Av_s0 nv_s0 cv_s0),(1,.func (.func 60) #[] #[.pointer (some ⟨ga1q0,0,none⟩)]),(5,iv v_i5),(6,iv v_j6)] H (chv_s0::F):=by
 intro ga1q0 a1q0 Aa1q0_0 v_j6 v_s0 Av_s0 nv_s0 cv_s0 chv_s0 v_i5 hra1q0_0 hga1q0 hov_s0 hnv_s0 heq
 subst hnv_s0
 unfold slices_DeleteFunc_Blob_2.j3 at heq
 refine Sa 0<|Zd 3<|An 1 ?_
 exact Gt 0 [] (hbackl2 _ a1q0 _ v_s0 _ _ _ _ v_i5 (w64 (v_j6+1)) hra1q0_0 hga1q0 hov_s0 rfl heq)
theorem slices_DeleteFunc_Blob_2.l2_c {r:(List Blob)} (e1:(List Blob)→Int→Option (List Blob))
  (he1:∀ (v_s0:List Blob) (Av_s0:Option Addr) (nv_s0 cv_s0:Nat) (chv_s0:Ch) (v_i5:Int) ,SlOwn kBlob 45 H Av_s0 cv_s0 v_s0 chv_s0→nv_s0=v_s0.length→e1 v_s0 v_i5=some r→RunH C59v2 (S59v2 F H r) H w0 [.c [1,1,1,1,0],.c [1,1,1,1,1]] [(0,.slice Av_s0 nv_s0 cv_s0),(5,iv v_i5)] H (chv_s0::F)):∀ (k:Nat),∀ (ga1q0:Nat) (a1q0:List (ByteArray × Bool)) (Aa1q0_0:Option Nat) (v_s0:List Blob) (Av_s0:Option Addr) (nv_s0 cv_s0:Nat) (chv_s0:Ch) (v_i5 v_j6:Int) ,Mw Value.string Kd.bool false H F Aa1q0_0 a1q0→InG H F ga1q0 (.cells #[.map Aa1q0_0] 86 (0,0))→SlOwn kBlob 45 H Av_s0 cv_s0 v_s0 chv_s0→nv_s0=v_s0.length→slices_DeleteFunc_Blob_2.l2 e1 k a1q0 v_s0 v_i5 v_j6=some r→RunH C59v2 (S59v2 F H r) H w0 [.c [1,1,1,0,1,0,0],.l [1,1,1,0,1,0,0],.b 0,.c [1,1,1,1]] [(0,.slice Av_s0 nv_s0 cv_s0),(1,.func (.func 60) #[] #[.pointer (some ⟨ga1q0,0,none⟩)]),(5,iv v_i5),(6,iv v_j6)] H (chv_s0::F):=by
 intro k
 induction k with
 | zero=>intro ga1q0 a1q0 Aa1q0_0 v_s0 Av_s0 nv_s0 cv_s0 chv_s0 v_i5 v_j6 hra1q0_0 hga1q0 hov_s0 hnv_s0 heq; exact nomatch (show (none:Option (List Blob))=some r from heq)
 | succ k ihk =>
  intro ga1q0 a1q0 Aa1q0_0 v_s0 Av_s0 nv_s0 cv_s0 chv_s0 v_i5 v_j6 hra1q0_0 hga1q0 hov_s0 hnv_s0 heq
  subst hnv_s0
  rw [slices_DeleteFunc_Blob_2.l2] at heq
  refine Sa 2<|Zd 4 ?_
  refine Cb heq ?_ ?_
  ·intro hb2 heq
   refine Sa 4 ?_
   obtain ⟨x1,hx1,heq⟩:=bind_some heq
   obtain ⟨ha1,cs1,hK1,hcc1⟩:=hov_s0.get hx1
   obtain ⟨rfl⟩:=kBlob_open hK1
   refine Zv 4 ([nx ha1 hx1]++els hcc1 0) ?_
   refine RgH.does (DoesH.new (d:=7) (v:=fun g=>.pointer (some ⟨g,0,none⟩)) (o:=fun g=>.cells #[.string ByteArray.empty,iv 0,iv 0,iv 0,iv 0] 45 (0,0)) (fun g=>by kernel_rfl)) ?_
   rintro _ _ _ _ ⟨g1,rfl,rfl,rfl⟩
   refine RgH.does (DoesH.store (k:=0) (g:=g1) (off:=0) (v:=.agg #[.string x1.Digest,iv x1.Size,iv x1.Used,iv x1.Until,iv x1.Pins]) (cells':=#[.string x1.Digest,iv x1.Size,iv x1.Used,iv x1.Until,iv x1.Pins]) (by kernel_rfl) rfl (by kernel_rfl) (by kernel_rfl)) ?_
   rintro _ _ _ _ ⟨rfl,rfl,rfl⟩
   refine RgH.nrm ?_
   refine Dn<|Sa 1<|Zv 2 (bxs 0) ?_
   obtain ⟨y2,hy2,heq⟩:=bind_some heq
   refine RgH.does (cal 28 (cache_drop_1_c hy2 (hra1q0_0.wk (fun _ h=>(.tail _ (.tail _ h)))) (hga1q0.wk (fun _ h=>(.tail _ (.tail _ h)))))) ?_
   rintro _ _ _ _ ⟨_,rfl,rfl,rfl,rfl⟩
   refine Zd 4 ?_
   refine Cb heq ?_ ?_
   ·intro hb3 heq
    refine Sa 1 ?_
    obtain ⟨x2,hx2,heq⟩:=bind_some heq
    obtain ⟨ha2,cs2,hK2,hcc2⟩:=hov_s0.get hx2
    obtain ⟨rfl⟩:=kBlob_open hK2
    refine Zv 4 (bxs 0++[nx ha2 hx2]) ?_
    obtain ⟨ha3,cs3,hK3,hcc3⟩:=hov_s0.get hx2
    obtain ⟨rfl⟩:=kBlob_open hK3
    refine RgH.does (DoesH.storeEl (a:=((adr Av_s0).add (v_i5.toNat*5))) (k:=1) (kd:=kBlob) (c0:=[.string x2.Digest,iv x2.Size,iv x2.Used,iv x2.Until,iv x2.Pins]) (x':=x1) (o:=0) (ix:=v_i5) (v:=.agg #[.string x1.Digest,iv x1.Size,iv x1.Used,iv x1.Until,iv x1.Pins]) (by kernel_rfl) rfl hov_s0 hx2 (by kernel_rfl) hcc3 rfl (Nat.le_of_ble_eq_true (by kernel_rfl)) kBlob_mk) ?_
    rintro _ _ _ _ ⟨ch2,rfl,rfl,rfl,ho4⟩
    have hn6:v_s0.length=(v_s0.set v_i5.toNat x1).length:=by rw [List.length_set]
    refine RgH.nrm ?_
    refine Dn<|Sa 0<|Zd 3<|An 1 ?_
    exact Gt 1 [] ((slices_DeleteFunc_Blob_2.j3_c (backl2:=(slices_DeleteFunc_Blob_2.l2 e1 k)) ihk) _ a1q0 _ v_j6 (v_s0.set v_i5.toNat x1) _ _ _ _ (w64 (v_i5+1)) hra1q0_0 hga1q0 ho4 hn6 heq)
   ·intro hb3 heq
    refine An 2 ?_
    exact Gt 1 [] ((slices_DeleteFunc_Blob_2.j3_c (backl2:=(slices_DeleteFunc_Blob_2.l2 e1 k)) ihk) _ a1q0 _ v_j6 v_s0 _ _ _ _ v_i5 hra1q0_0 hga1q0 hov_s0 rfl heq)
  ·intro hb2 heq
   refine An 2 ?_
   exact Gt 0 [] (he1 v_s0 _ _ _ _ v_i5 hov_s0 rfl heq)
theorem slices_DeleteFunc_Blob_2_c {a0:List Blob} {Aa0:Option Addr} {na0 ca0:Nat} {cha0:Ch} {ga1q0:Nat} {a1q0:List (ByteArray × Bool)} {Aa1q0_0:Option Nat} {r:(List Blob)} (heq:slices_DeleteFunc_Blob_2.f a0 a1q0=some r) (hoa0:SlOwn kBlob 45 H Aa0 ca0 a0 cha0) (hna0:na0=a0.length) (hra1q0_0:Mw Value.string Kd.bool false H F Aa1q0_0 a1q0) (hga1q0:InG H F ga1q0 (.cells #[.map Aa1q0_0] 86 (0,0))):CallsH Tryz.prog 59 #[.slice Aa0 na0 ca0,.func (.func 60) #[] #[.pointer (some ⟨ga1q0,0,none⟩)]] H w0 (cha0::F) (S59v2 F H r):=by
 refine Co C59v2 Tryz.func59 Tryz.ntmps59 ?_
 subst hna0
 unfold slices_DeleteFunc_Blob_2.f at heq
 refine Sa 1<|Zd 1<|Sa 1<|Zk 2 ?_
 obtain ⟨y1,hy1,heq⟩:=bind_some heq
 refine RgH.does (cal 10 (slices_IndexFunc_Blob_2_c hy1 (hoa0.rw (.head _)) hoa0.cap rfl (hra1q0_0.wk (fun _ h=>(.tail _ h))) (hga1q0.wk (fun _ h=>(.tail _ h))))) ?_
 rintro _ _ _ _ ⟨_,rfl,rfl,rfl,rfl⟩
 refine Zd 4<|Sa 2<|Zd 2 ?_
 refine Cb heq ?_ ?_
 ·intro hb1 heq
  refine Sa 1<|Zd 2 ?_
  obtain rfl:=Option.some.inj heq
  exact RunH.done (by kernel_rfl) Tryz.func59 (v:=.slice Aa0 a0.length ca0) (by kernel_rfl) ⟨Aa0,ca0,cha0,rfl,rfl,rfl,hoa0⟩
 ·intro hb1 heq
  refine Sa 3<|Zd 3<|An 2 ?_
  exact Gt 0 [] (((slices_DeleteFunc_Blob_2.l2_c (e1:=slices_DeleteFunc_Blob_2.e1) (slices_DeleteFunc_Blob_2.e1_c)) big) _ a1q0 _ a0 _ _ _ _ y1 (w64 (y1+1)) hra1q0_0 hga1q0 hoa0 rfl heq)
noncomputable def C55:Ctx:={ P:=Tryz.prog,f:=55,N:=95,c:=bodyOf Tryz.f55 }
def S55 (F:List Ch) (H0:Hp) (r:List Blob) (v:Value) (H:Hp) (cs:List Ch):Prop:=∃ (A0:Option Addr) (c0:Nat) (ch0:Ch),H0=H∧v=.slice A0 r.length c0∧ch0::F=cs∧SlOwn kBlob 45 H A0 c0 r ch0
theorem slices_Insert_Blob_c {a0:List Blob} {Aa0:Option Addr} {na0 ca0:Nat} {cha0:Ch} {a1:Int} {a2:List Blob} {Aa2:Option Addr} {na2 ca2:Nat} {cha2:Ch} {r:List Blob} (hoa0:SlOwn kBlob 45 H Aa0 ca0 a0 cha0) (hna0:na0=a0.length) (hoa2:SlOwn kBlob 45 H Aa2 ca2 a2 cha2) (hna2:na2=a2.length) (heq:slices_Insert_Blob.f a0 a1 a2=some r):CallsH Tryz.prog 55 #[.slice Aa0 na0 ca0,iv a1,.slice Aa2 na2 ca2] H w0 (cha0::cha2::F) (S55 F H r):=by
 refine calls_of_runH (F:=C55) Tryz.func55 (by kernel_rfl) Tryz.ntmps55 (args:=[.slice Aa0 na0 ca0,iv a1,.slice Aa2 na2 ca2]) (by kernel_rfl) ?_
 subst hna0 hna2
 unfold slices_Insert_Blob.f at heq
 obtain ⟨hn,heq⟩:=guard?_some heq
 obtain rfl:=Option.some.inj heq
 simp only [Bool.and_eq_true,decide_eq_true_eq] at hn
 obtain ⟨h0,h1,h2,h3⟩:=hn
 have h3:=room_le h3
 obtain ⟨I,rfl⟩:∃ I:Nat,a1=(I:Int):=⟨a1.toNat,by omega⟩
 have hI:I≤a0.length:=by omega
 have hbig:a0.length+a2.length≤140737490452480:=by
  have:(a0.length+a2.length)*1≤(a0.length+a2.length)*48:=Nat.mul_le_mul_left _ (by omega)
  omega
 have hw1:w64 ((a0.length:Int)+(a2.length:Int))=((a0.length+a2.length:Nat):Int):=by unfold w64; rw [IntKind.wrap_i64]; omega
 have hw2:w64 ((I:Int)+(a2.length:Int))=((I+a2.length:Nat):Int):=by unfold w64; rw [IntKind.wrap_i64]; omega
 have hw3:w64 (((a0.length+a2.length:Nat):Int) - (I:Int))=((a0.length+a2.length - I:Nat):Int):=by rw [show ((a0.length+a2.length:Nat):Int) - (I:Int)=((a0.length+a2.length - I:Nat):Int) by omega]; unfold w64; rw [IntKind.wrap_i64]; omega
 simp only [Int.toNat_natCast]
 refine An 1<|Rr<|Rd 1 [0,1,2] [(0,.slice Aa0 a0.length ca0),(1,iv (I:Int)),(2,.slice Aa2 a2.length ca2)]<|An 1<|Rr<|Rw' 3 [0,1,2] [] [.need ((0:Int)≤(I:Int)∧(I:Int)≤((a0.length:Nat):Int))] [(0,.slice Aa0 a0.length ca0),(1,iv (I:Int)),(2,.slice Aa2 a2.length ca2)] (fun w hh=>⟨h0,h1⟩)<|An 1<|Rr<|Rd 3 [0,1,2,7] [(0,.slice Aa0 a0.length ca0),(1,iv (I:Int)),(2,.slice Aa2 a2.length ca2),(7,iv (a2.length:Int))]<|An 2<|Rr<|Rd 2 [0,1,2,7,16] [(0,.slice Aa0 a0.length ca0),(1,iv (I:Int)),(2,.slice Aa2 a2.length ca2),(7,iv (a2.length:Int)),(16,.bool ((a2.length:Int) == 0))]<|Cf ((a2.length:Int) == 0) (beq_eq_false_iff_ne.2 (by omega))<|An 2<|Rr<|Rd 3 [0,1,2,7,8] [(0,.slice Aa0 a0.length ca0),(1,iv (I:Int)),(2,.slice Aa2 a2.length ca2),(7,iv (a2.length:Int)),(8,iv (a0.length:Int))]<|An 2<|Rr<|Rd 3 [0,1,2,7,8,22] [(0,.slice Aa0 a0.length ca0),(1,iv (I:Int)),(2,.slice Aa2 a2.length ca2),(7,iv (a2.length:Int)),(8,iv (a0.length:Int)),(22,.bool ((I:Int) == (a0.length:Int)))] ?_
 rcases bool_cases ((I:Int) == (a0.length:Int)) with hb | hb
 ·have hIn:I=a0.length:=by have:=eq_of_beq hb; omega
  have e:a0.take I++a2++a0.drop I=a0++a2:=by rw [hIn]; simp
  rw [e]
  refine Ct ((I:Int) == (a0.length:Int)) hb<|An 1<|Rr<|Rk 2 [23,24] [(23,.slice Aa0 a0.length ca0),(24,.slice Aa2 a2.length ca2)] ?_
  refine RgH.does (DoesH.append (d:=25) (k:=0) (t:=22) (e:=45) (bytes:=48) (kd:=kBlob) (n:=a0.length) (m:=a2.length) (xs:=a0) (ys:=a2) (A:=Aa0) (B:=Aa2) (c:=ca0) (cB:=ca2) (by kernel_rfl) rfl rfl (by kernel_rfl) rfl hoa0 (fun w hh=>hoa2.rdb (hh.chin 1 rfl)) h3 (by omega)) ?_
  rintro _ _ _ _ ⟨A1,c1,ch1,rfl,rfl,rfl,ho1⟩
  refine Rd 4 [6] [(6,.slice A1 (a0++a2).length c1)] ?_
  refine RunH.pick 2 [0] (cs':=ch1::F) (by kernel_rfl) rfl ?_
  exact RunH.done (by kernel_rfl) Tryz.func55 (v:=.slice A1 (a0++a2).length c1) (by kernel_rfl) ⟨A1,c1,ch1,rfl,rfl,rfl,ho1⟩
 ·have hIn:I<a0.length:=by have:=beq_eq_false_iff_ne.1 hb; omega
  have hx:a0≠[]:=by intro h; subst h; simp at hIn
  have hy:a2≠[]:=by intro h; subst h; simp at h2
  have hrl:(a0.take I++a2++a0.drop I).length=a0.length+a2.length:=by simp; omega
  rcases hoa0 with ⟨h,_⟩ | ⟨b,off,cells,rfl,rfl,k3,k4,k5,k6⟩
  ·exact absurd h hx
  rcases hoa2 with ⟨h,_⟩ | ⟨vb,voff,vcells,rfl,rfl,q3,q4,q5,q6⟩
  ·exact absurd h hy
  obtain ⟨newsV,v1,v2,v3,v4⟩:=Rep.toList q6
  obtain ⟨newsD,d1,d2,d3,d4⟩:=Rep.toList (Rep.drop k6 I)
  have hsz:(kBlob).sz=5:=rfl
  have hdl:(a0.drop I).length=a0.length - I:=by simp
  rw [hdl] at d1
  rw [hsz] at v1 d1 d2 k5 q5
  refine Cf ((I:Int) == (a0.length:Int)) hb<|An 3<|Rr<|Rd 6 [0,1,2,7,8,31] [(0,.slice (some ⟨b,off,none⟩) a0.length ca0),(1,iv (I:Int)),(2,.slice (some ⟨vb,voff,none⟩) a2.length ca2),(7,iv (a2.length:Int)),(8,iv (a0.length:Int)),(31,.bool (decide ((ca0:Int)<w64 ((a0.length:Int)+(a2.length:Int)))))] ?_
  rcases bool_cases (decide ((ca0:Int)<w64 ((a0.length:Int)+(a2.length:Int)))) with hc | hc
  ·have hroom:ca0<a0.length+a2.length:=by rw [hw1] at hc; have:=of_decide_eq_true hc; omega
   refine Ct (decide ((ca0:Int)<w64 ((a0.length:Int)+(a2.length:Int)))) hc<|An 1<|Rr<|Rv 8 [0,1,2,7,34,39] [] [.need ((0:Int)≤(I:Int)∧(I:Int)≤((ca0:Nat):Int))] [(0,.slice (some ⟨b,off,none⟩) a0.length ca0),(1,iv (I:Int)),(2,.slice (some ⟨vb,voff,none⟩) a2.length ca2),(7,iv (a2.length:Int)),(34,.slice (some ⟨b,off,none⟩) I ca0),(39,iv (w64 (w64 ((a0.length:Int)+(a2.length:Int)) - (I:Int))))] (fun w hh=>⟨h0,by omega⟩) ?_
   have hzq:w64 (w64 ((a0.length:Int)+(a2.length:Int)) - (I:Int))=((a0.length+a2.length - I:Nat):Int):=by rw [hw1,hw3]
   have hrt:Kd.Rep kBlob H cells off (a0.take I):=Rep.take k6 I
   have htl:(a0.take I).length=I:=by simp; omega
   refine RgH.does (DoesH.appendZeros (dd:=40) (kd:=kBlob) (t:=22) (tn:=3) (e:=45) (bytes:=48) (q:=a0.length+a2.length - I) (A:=some ⟨b,off,none⟩) (a:=⟨b,off,none⟩) (c:=ca0) (n:=I) (xs:=a0.take I) (by kernel_rfl) rfl hzq (by kernel_rfl) htl.symm (by kernel_rfl) (fun w hh hne=>⟨b,off,cells,45,(0,0),rfl,hh.chin 0 rfl,hrt⟩) (by omega) (by omega) (by rw [show I+(a0.length+a2.length - I)=a0.length+a2.length by omega]; exact h3) (by omega)) ?_
   rintro _ _ _ _ ⟨g,c',cells2,rfl,rfl,rfl,g1,g2,g3,g4⟩
   rw [hsz] at g3
   refine Rd 10 [0,1,2,7,9] [(0,.slice (some ⟨b,off,none⟩) a0.length ca0),(1,iv (I:Int)),(2,.slice (some ⟨vb,voff,none⟩) a2.length ca2),(7,iv (a2.length:Int)),(9,.slice (some ⟨g,0,none⟩) (I+(a0.length+a2.length - I)) c')]<|An 1<|Rr<|Rv 4 [0,1,2,7,9,43,44] [] [.need ((0:Int)≤(I:Int)∧(I:Int)≤((I+(a0.length+a2.length - I):Nat):Int))] [(0,.slice (some ⟨b,off,none⟩) a0.length ca0),(1,iv (I:Int)),(2,.slice (some ⟨vb,voff,none⟩) a2.length ca2),(7,iv (a2.length:Int)),(9,.slice (some ⟨g,0,none⟩) (I+(a0.length+a2.length - I)) c'),(43,.slice (shiftA c' I 5 (some ⟨g,0,none⟩)) (I+(a0.length+a2.length - I) - I) (c' - I)),(44,.slice (some ⟨vb,voff,none⟩) a2.length ca2)] (fun w hh=>⟨h0,by omega⟩) ?_
   refine RgH.does (DoesH.copyRaw (k:=0) (t:=22) (e:=45) (bytes:=48) (sz:=5) (A1:=shiftA c' I 5 (some ⟨g,0,none⟩)) (A2:=some ⟨vb,voff,none⟩) (dd:=some 45) (dc:=c' - I) (sc:=ca2) (dl:=I+(a0.length+a2.length - I) - I) (sl:=a2.length) (b:=g) (o:=0+I*5) (a:=⟨vb,voff,none⟩) (cells:=cells2) (news:=newsV) (by kernel_rfl) (shiftA_at (n:=I+1) (by omega) (by omega) rfl) rfl (by kernel_rfl) rfl (by rw [v1]; congr 1; simp only [Nat.min_def]; split <;> omega) (fun w hh j u hu=>by rw [add_plain]; exact blk_cell (hh.chin 2 rfl) (v2 j u hu)) v3 (by rw [v1]; omega)) ?_
   rintro _ _ _ _ ⟨rfl,rfl,rfl⟩
   refine Rd 5 [0,1,2,7,9] [(0,.slice (some ⟨b,off,none⟩) a0.length ca0),(1,iv (I:Int)),(2,.slice (some ⟨vb,voff,none⟩) a2.length ca2),(7,iv (a2.length:Int)),(9,.slice (some ⟨g,0,none⟩) (I+(a0.length+a2.length - I)) c')]<|An 1 ?_
   refine RunH.draw (fun w=>True) (fun w=>True) [3,3,3,3,3,3,3,3,0] (n:=9) (ls:=[false,false,false,false,false,false,false,false,false]) (by kernel_rfl) (by kernel_rfl) (by kernel_rfl) rfl ?_
   refine Dr [0,1,2,3,4,5,6,7] 1 (nb 9 255) [] [.need ((0:Int)≤w64 ((I:Int)+(a2.length:Int))∧w64 ((I:Int)+(a2.length:Int))≤((I+(a0.length+a2.length - I):Nat):Int)),.need ((0:Int)≤(I:Int)∧(I:Int)≤((a0.length:Nat):Int))] [(53,.slice (shiftA ca0 I 5 (some ⟨b,off,none⟩)) (a0.length - I) (ca0 - I)),(52,iv (I:Int)),(51,.slice (some ⟨b,off,none⟩) a0.length ca0),(50,.slice (shiftA c' (w64 ((I:Int)+(a2.length:Int))).toNat 5 (some ⟨g,0,none⟩)) (I+(a0.length+a2.length - I) - (w64 ((I:Int)+(a2.length:Int))).toNat) (c' - (w64 ((I:Int)+(a2.length:Int))).toNat)),(49,iv (w64 ((I:Int)+(a2.length:Int)))),(48,iv (a2.length:Int)),(47,iv (I:Int)),(46,.slice (some ⟨g,0,none⟩) (I+(a0.length+a2.length - I)) c'),(0,.slice (some ⟨b,off,none⟩) a0.length ca0),(1,iv (I:Int)),(2,.slice (some ⟨vb,voff,none⟩) a2.length ca2),(7,iv (a2.length:Int)),(9,.slice (some ⟨g,0,none⟩) (I+(a0.length+a2.length - I)) c')] (fun w hh=>trivial) (fun w hh=>trivial) (fun w hh=>⟨by rw [hw2]; constructor <;> omega,h0,h1⟩) ?_
   refine DrH.does (n:=0) (ls':=[true,true,true,true,true,true,true,true,true]) 8 (by kernel_rfl) rfl (DoesH.copyRaw (k:=0) (t:=22) (e:=45) (bytes:=48) (sz:=5) (A1:=shiftA c' (w64 ((I:Int)+(a2.length:Int))).toNat 5 (some ⟨g,0,none⟩)) (A2:=shiftA ca0 I 5 (some ⟨b,off,none⟩)) (dd:=some 54) (dc:=c' - (w64 ((I:Int)+(a2.length:Int))).toNat) (sc:=ca0 - I) (dl:=I+(a0.length+a2.length - I) - (w64 ((I:Int)+(a2.length:Int))).toNat) (sl:=a0.length - I) (b:=g) (o:=0+(I+a2.length)*5) (a:=⟨b,off+I*5,none⟩) (cells:=owr cells2 (0+I*5) newsV) (news:=newsD) (by kernel_rfl) (by rw [hw2]; exact shiftA_at (n:=I+a2.length+1) (by omega) (by omega) rfl) (shiftA_at hIn k3 rfl) (by kernel_rfl) rfl (by rw [d1,hw2]; congr 1; simp only [Nat.min_def,Int.toNat_natCast]; split <;> omega) (fun w hh j u hu=>by rw [add_plain]; exact blk_cell (hh.chin 1 rfl) (d2 j u hu)) d3 (by rw [owr_size,d1]; omega)) ?_
   rintro _ _ _ _ ⟨rfl,rfl,rfl⟩
   refine ⟨fun _ w hh=>⟨fun _=>trivial,fun _=>trivial,(fun h=>by cases h)⟩,?_⟩
   refine Kr [9] [(9,.slice (some ⟨g,0,none⟩) (I+(a0.length+a2.length - I)) c')] ?_
   refine DrH.done (by kernel_rfl) ?_
   refine An 1<|Rr<|Rd 2 [6] [(6,.slice (some ⟨g,0,none⟩) (I+(a0.length+a2.length - I)) c')] ?_
   have r1:Kd.Rep kBlob H (owr cells2 (0+I*5) newsV) 0 (a0.take I++a2):=by
    have:=Rep.owr g4 v4 (by rw [htl,hsz,v1]; omega)
    rwa [htl,hsz] at this
   have hl1:(a0.take I++a2).length=I+a2.length:=by rw [List.length_append,htl]
   have r2:Kd.Rep kBlob H (owr (owr cells2 (0+I*5) newsV) (0+(I+a2.length)*5) newsD) 0 (a0.take I++a2++a0.drop I):=by
    have:=Rep.owr r1 d4 (by rw [hl1,hsz,d1,owr_size]; omega)
    rwa [hl1,hsz] at this
   have ho:SlOwn kBlob 45 H (some ⟨g,0,none⟩) c' (a0.take I++a2++a0.drop I) (some (g,.cells (owr (owr cells2 (0+I*5) newsV) (0+(I+a2.length)*5) newsD) 45 (0,0))):=.inr ⟨g,0,_,rfl,rfl,by rw [hrl]; omega,g2,by rw [owr_size,owr_size,hsz]; exact g3,r2⟩
   refine RunH.pick 3 [0] (cs':=some (g,.cells (owr (owr cells2 (0+I*5) newsV) (0+(I+a2.length)*5) newsD) 45 (0,0))::F) (by kernel_rfl) rfl ?_
   exact RunH.done (by kernel_rfl) Tryz.func55 (v:=.slice (some ⟨g,0,none⟩) (I+(a0.length+a2.length - I)) c') (by kernel_rfl) ⟨some ⟨g,0,none⟩,c',_,rfl,by rw [hrl,show I+(a0.length+a2.length - I)=a0.length+a2.length by omega],rfl,ho⟩
  ·have hroom:a0.length+a2.length≤ca0:=by rw [hw1] at hc; have:=of_decide_eq_false hc; omega
   refine Cf (decide ((ca0:Int)<w64 ((a0.length:Int)+(a2.length:Int)))) hc<|An 2<|Rr<|Rv 6 [0,1,2,7] [] [.need ((0:Int)≤w64 ((a0.length:Int)+(a2.length:Int))∧w64 ((a0.length:Int)+(a2.length:Int))≤((ca0:Nat):Int))] [(0,.slice (some ⟨b,off,none⟩) (w64 ((a0.length:Int)+(a2.length:Int))).toNat ca0),(1,iv (I:Int)),(2,.slice (some ⟨vb,voff,none⟩) a2.length ca2),(7,iv (a2.length:Int))] (fun w hh=>by rw [hw1]; constructor <;> omega) ?_
   refine RgH.val1 (v':=.slice (some ⟨b,off,none⟩) (a0.length+a2.length) ca0) (by rw [hw1]; rfl) ?_
   refine Dn<|An 2<|Rr<|Rv 6 [0,1,2,7,61,66] [] [.need ((0:Int)≤w64 ((I:Int)+(a2.length:Int))∧w64 ((I:Int)+(a2.length:Int))≤((a0.length+a2.length:Nat):Int))] [(0,.slice (some ⟨b,off,none⟩) (a0.length+a2.length) ca0),(1,iv (I:Int)),(2,.slice (some ⟨vb,voff,none⟩) a2.length ca2),(7,iv (a2.length:Int)),(61,.slice (some ⟨vb,voff,none⟩) a2.length ca2),(66,.slice (shiftA ca0 (w64 ((I:Int)+(a2.length:Int))).toNat 5 (some ⟨b,off,none⟩)) (a0.length+a2.length - (w64 ((I:Int)+(a2.length:Int))).toNat) (ca0 - (w64 ((I:Int)+(a2.length:Int))).toNat))] (fun w hh=>by rw [hw2]; constructor <;> omega) ?_
   have hsh:shiftA ca0 (w64 ((I:Int)+(a2.length:Int))).toNat 5 (some ⟨b,off,none⟩)=some ⟨b,off+(I+a2.length)*5,none⟩:=by rw [hw2]; exact shiftA_at (n:=a0.length+a2.length) (by omega) hroom rfl
   have hne:∀ w,Heap H w0 w (some (b,.cells cells 45 (0,0))::some (vb,.cells vcells 45 (0,0))::F)→vb≠b:=fun w hh=>hh.dif 1 0 _ _ rfl rfl (by omega)
   refine RgH.does (DoesH.ext (d:=67) (g:=81) (args:=#[.slice (some ⟨vb,voff,none⟩) a2.length ca2,.slice (shiftA ca0 (w64 ((I:Int)+(a2.length:Int))).toNat 5 (some ⟨b,off,none⟩)) (a0.length+a2.length - (w64 ((I:Int)+(a2.length:Int))).toNat) (ca0 - (w64 ((I:Int)+(a2.length:Int))).toNat)]) (v:=.bool false) (by kernel_rfl) (fun w hh=>by rw [hsh]; exact run_overlaps_own (e:=4) Tryz.func81 (by kernel_rfl) (by kernel_rfl) (by kernel_rfl) (by kernel_rfl) (show elemOk Tryz.prog 22 45 5 48=true by kernel_rfl) (hh.chin 1 rfl) (hh.chin 0 rfl) (hne w hh) (by omega))) ?_
   rintro _ _ _ _ ⟨rfl,rfl,rfl⟩
   refine Rd 8 [0,1,2,7,68] [(0,.slice (some ⟨b,off,none⟩) (a0.length+a2.length) ca0),(1,iv (I:Int)),(2,.slice (some ⟨vb,voff,none⟩) a2.length ca2),(7,iv (a2.length:Int)),(68,.bool true)]<|Ct true rfl<|An 1 ?_
   refine RunH.draw (fun w=>True) (fun w=>True) [3,3,3,3,3,3,3,3,0] (n:=9) (ls:=[false,false,false,false,false,false,false,false,false]) (by kernel_rfl) (by kernel_rfl) (by kernel_rfl) rfl ?_
   refine Dr [0,1,2,3,4,5,6,7] 1 (nb 9 255) [] [.need ((0:Int)≤w64 ((I:Int)+(a2.length:Int))∧w64 ((I:Int)+(a2.length:Int))≤((a0.length+a2.length:Nat):Int)),.need ((0:Int)≤(I:Int)∧(I:Int)≤((a0.length+a2.length:Nat):Int))] [(76,.slice (shiftA ca0 I 5 (some ⟨b,off,none⟩)) (a0.length+a2.length - I) (ca0 - I)),(75,iv (I:Int)),(74,.slice (some ⟨b,off,none⟩) (a0.length+a2.length) ca0),(73,.slice (shiftA ca0 (w64 ((I:Int)+(a2.length:Int))).toNat 5 (some ⟨b,off,none⟩)) (a0.length+a2.length - (w64 ((I:Int)+(a2.length:Int))).toNat) (ca0 - (w64 ((I:Int)+(a2.length:Int))).toNat)),(72,iv (w64 ((I:Int)+(a2.length:Int)))),(71,iv (a2.length:Int)),(70,iv (I:Int)),(69,.slice (some ⟨b,off,none⟩) (a0.length+a2.length) ca0),(0,.slice (some ⟨b,off,none⟩) (a0.length+a2.length) ca0),(1,iv (I:Int)),(2,.slice (some ⟨vb,voff,none⟩) a2.length ca2),(7,iv (a2.length:Int)),(68,.bool true)] (fun w hh=>trivial) (fun w hh=>trivial) (fun w hh=>⟨by rw [hw2]; constructor <;> omega,h0,by omega⟩) ?_
   refine DrH.does (n:=0) (ls':=[true,true,true,true,true,true,true,true,true]) 8 (by kernel_rfl) rfl (DoesH.copyRaw (k:=0) (t:=22) (e:=45) (bytes:=48) (sz:=5) (A1:=shiftA ca0 (w64 ((I:Int)+(a2.length:Int))).toNat 5 (some ⟨b,off,none⟩)) (A2:=shiftA ca0 I 5 (some ⟨b,off,none⟩)) (dd:=some 77) (dc:=ca0 - (w64 ((I:Int)+(a2.length:Int))).toNat) (sc:=ca0 - I) (dl:=a0.length+a2.length - (w64 ((I:Int)+(a2.length:Int))).toNat) (sl:=a0.length+a2.length - I) (b:=b) (o:=off+(I+a2.length)*5) (a:=⟨b,off+I*5,none⟩) (cells:=cells) (news:=newsD) (by kernel_rfl) hsh (shiftA_at hIn k3 rfl) (by kernel_rfl) rfl (by rw [d1,hw2]; congr 1; simp only [Nat.min_def,Int.toNat_natCast]; split <;> omega) (fun w hh j u hu=>by rw [add_plain]; exact blk_cell (hh.chin 0 rfl) (d2 j u hu)) d3 (by rw [d1]; omega)) ?_
   rintro _ _ _ _ ⟨rfl,rfl,rfl⟩
   refine ⟨fun _ w hh=>⟨fun _=>trivial,fun _=>trivial,(fun h=>by cases h)⟩,?_⟩
   refine Kr [0,1,2] [(0,.slice (some ⟨b,off,none⟩) (a0.length+a2.length) ca0),(1,iv (I:Int)),(2,.slice (some ⟨vb,voff,none⟩) a2.length ca2)] ?_
   refine DrH.done (by kernel_rfl) ?_
   refine An 1<|Rr<|Rv 4 [0,80,81] [] [.need ((0:Int)≤(I:Int)∧(I:Int)≤((a0.length+a2.length:Nat):Int))] [(0,.slice (some ⟨b,off,none⟩) (a0.length+a2.length) ca0),(80,.slice (shiftA ca0 I 5 (some ⟨b,off,none⟩)) (a0.length+a2.length - I) (ca0 - I)),(81,.slice (some ⟨vb,voff,none⟩) a2.length ca2)] (fun w hh=>⟨h0,by omega⟩) ?_
   refine RgH.does (DoesH.copyRaw (k:=0) (t:=22) (e:=45) (bytes:=48) (sz:=5) (A1:=shiftA ca0 I 5 (some ⟨b,off,none⟩)) (A2:=some ⟨vb,voff,none⟩) (dd:=some 82) (dc:=ca0 - I) (sc:=ca2) (dl:=a0.length+a2.length - I) (sl:=a2.length) (b:=b) (o:=off+I*5) (a:=⟨vb,voff,none⟩) (cells:=owr cells (off+(I+a2.length)*5) newsD) (news:=newsV) (by kernel_rfl) (shiftA_at hIn k3 rfl) rfl (by kernel_rfl) rfl (by rw [v1]; congr 1; simp only [Nat.min_def]; split <;> omega) (fun w hh j u hu=>by rw [add_plain]; exact blk_cell (hh.chin 1 rfl) (v2 j u hu)) v3 (by rw [owr_size,v1]; omega)) ?_
   rintro _ _ _ _ ⟨rfl,rfl,rfl⟩
   refine Rd 5 [0] [(0,.slice (some ⟨b,off,none⟩) (a0.length+a2.length) ca0)]<|An 1<|Rr<|Rd 2 [6] [(6,.slice (some ⟨b,off,none⟩) (a0.length+a2.length) ca0)] ?_
   have htl:(a0.take I).length=I:=by simp; omega
   have s1:Kd.Rep kBlob H (owr (owr cells (off+(I+a2.length)*5) newsD) (off+I*5) newsV) off (a0.take I):=Rep.outw (Rep.outw (Rep.take k6 I) (by rw [d1]; omega) (by rw [htl,hsz]; omega)) (by rw [owr_size,v1]; omega) (by rw [htl,hsz]; omega)
   have s2:Kd.Rep kBlob H (owr (owr cells (off+(I+a2.length)*5) newsD) (off+I*5) newsV) (off+I*5) a2:=Rep.inw v4 (by rw [owr_size,v1]; omega)
   have s3:Kd.Rep kBlob H (owr (owr cells (off+(I+a2.length)*5) newsD) (off+I*5) newsV) (off+(I+a2.length)*5) (a0.drop I):=Rep.outw (Rep.inw d4 (by rw [d1]; omega)) (by rw [owr_size,v1]; omega) (by rw [v1]; omega)
   have hl1:(a0.take I++a2).length=I+a2.length:=by rw [List.length_append,htl]
   have r2:Kd.Rep kBlob H (owr (owr cells (off+(I+a2.length)*5) newsD) (off+I*5) newsV) off (a0.take I++a2++a0.drop I):=Rep.glue (Rep.glue s1 (by rw [htl,hsz]; exact s2)) (by rw [hl1,hsz]; exact s3)
   have ho:SlOwn kBlob 45 H (some ⟨b,off,none⟩) ca0 (a0.take I++a2++a0.drop I) (some (b,.cells (owr (owr cells (off+(I+a2.length)*5) newsD) (off+I*5) newsV) 45 (0,0))):=.inr ⟨b,off,_,rfl,rfl,by rw [hrl]; omega,k4,by rw [owr_size,owr_size,hsz]; exact k5,r2⟩
   refine RunH.pick 2 [0] (cs':=some (b,.cells (owr (owr cells (off+(I+a2.length)*5) newsD) (off+I*5) newsV) 45 (0,0))::F) (by kernel_rfl) rfl ?_
   exact RunH.done (by kernel_rfl) Tryz.func55 (v:=.slice (some ⟨b,off,none⟩) (a0.length+a2.length) ca0) (by kernel_rfl) ⟨some ⟨b,off,none⟩,ca0,_,rfl,by rw [hrl],rfl,ho⟩
noncomputable def C32v3:Ctx:={ P:=Tryz.prog,f:=32,N:=67,c:=bodyOf Tryz.f32 }
def S32v3 (F:List Ch) (H0:Hp) (ga0:Nat) (r:Cache) (v:Value) (H:Hp) (cs:List Ch):Prop:=∃ (A0_2:Option Addr) (c0_2:Nat) (ch0_2:Ch) (A0_3:Option Addr) (c0_3:Nat) (ch0_3:Ch),H0=H∧v=.tuple #[]∧some (ga0,.cells #[iv r.Room,iv r.Lease,.slice A0_2 r.Blobs.length c0_2,.slice A0_3 r.Entries.length c0_3] 25 (0,0))::ch0_2::ch0_3::F=cs∧SlOwn kBlob 45 H A0_2 c0_2 r.Blobs ch0_2∧SlOwn kEntry 47 H A0_3 c0_3 r.Entries ch0_3
theorem cache_touch_3.j3_c {r:Cache} (backl1:Cache→(List ByteArray)→Int→Bool→Bool→(List Blob)→Int→Option Cache)
  (hbackl1:∀ (ga0:Nat) (a0:Cache) (Aa0_3:Option Addr) (ca0_3:Nat) (cha0_3:Ch) (a1:List ByteArray) (Aa1:Option Addr) (ca1:Nat) (a2:Int) (a3 a4:Bool) (v_c0_2:List Blob) (Av_c0_2:Option Addr) (nv_c0_2 cv_c0_2:Nat) (chv_c0_2:Ch) (v16:Int) ,SlOwn kEntry 47 H Aa0_3 ca0_3 a0.Entries cha0_3→Rw Kd.string H F Aa1 a1→a1.length≤ca1→SlOwn kBlob 45 H Av_c0_2 cv_c0_2 v_c0_2 chv_c0_2→nv_c0_2=v_c0_2.length→backl1 a0 a1 a2 a3 a4 v_c0_2 v16=some r→RunH C32v3 (S32v3 F H ga0 r) H w0 [.c [1,0,0],.l [1,0,0],.b 0] [(0,pg ga0 0),(2,iv a2),(3,.bool a3),(4,.bool a4),(14,.slice Aa1 a1.length ca1),(15,iv (a1.length:Int)),(16,iv v16)] H ((some (ga0,.cells #[iv a0.Room,iv a0.Lease,.slice Av_c0_2 nv_c0_2 cv_c0_2,.slice Aa0_3 a0.Entries.length ca0_3] 25 (0,0)))::chv_c0_2::cha0_3::F)):∀ (ga0:Nat) (a0:Cache) (Aa0_3:Option Addr) (ca0_3:Nat) (cha0_3:Ch) (a1:List ByteArray) (Aa1:Option Addr) (ca1:Nat) (a2:Int) (a3 a4:Bool) (v16:Int) (v_c0_2:List Blob) (Av_c0_2:Option Addr) (nv_c0_2 cv_c0_2:Nat) (chv_c0_2:Ch) ,SlOwn kEntry 47 H Aa0_3 ca0_3 a0.Entries cha0_3→Rw Kd.string H F Aa1 a1→a1.length≤ca1→SlOwn kBlob 45 H Av_c0_2 cv_c0_2 v_c0_2 chv_c0_2→nv_c0_2=v_c0_2.length→cache_touch_3.j3 backl1 a0 a1 a2 a3 a4 v16 v_c0_2=some r→RunH C32v3 (S32v3 F H ga0 r) H w0 [.c [1,0,0,1,1,1],.l [1,0,0],.b 0] [(0,pg ga0 0),(2,iv a2),(3,.bool a3),(4,.bool a4),(14,.slice Aa1 a1.length ca1),(15,iv (a1.length:Int)),(16,iv v16)] H ((some (ga0,.cells #[iv a0.Room,iv a0.Lease,.slice Av_c0_2 nv_c0_2 cv_c0_2,.slice Aa0_3 a0.Entries.length ca0_3] 25 (0,0)))::chv_c0_2::cha0_3::F):=by
 intro ga0 a0 Aa0_3 ca0_3 cha0_3 a1 Aa1 ca1 a2 a3 a4 v16 v_c0_2 Av_c0_2 nv_c0_2 cv_c0_2 chv_c0_2 hoa0_3 hra1 hca1 hov_c0_2 hnv_c0_2 heq
 subst hnv_c0_2
 unfold cache_touch_3.j3 at heq
 refine Sa 0<|Zd 2<|An 1 ?_
 exact Gt 0 [] (hbackl1 _ a0 _ _ _ a1 _ _ a2 a3 a4 v_c0_2 _ _ _ _ (w64 (v16+1)) hoa0_3 hra1 hca1 hov_c0_2 rfl heq)
theorem cache_touch_3.j2_c {r:Cache} (backl1:Cache→(List ByteArray)→Int→Bool→Bool→(List Blob)→Int→Option Cache)
  (hbackl1:∀ (ga0:Nat) (a0:Cache) (Aa0_3:Option Addr) (ca0_3:Nat) (cha0_3:Ch) (a1:List ByteArray) (Aa1:Option Addr) (ca1:Nat) (a2:Int) (a3 a4:Bool) (v_c0_2:List Blob) (Av_c0_2:Option Addr) (nv_c0_2 cv_c0_2:Nat) (chv_c0_2:Ch) (v16:Int) ,SlOwn kEntry 47 H Aa0_3 ca0_3 a0.Entries cha0_3→Rw Kd.string H F Aa1 a1→a1.length≤ca1→SlOwn kBlob 45 H Av_c0_2 cv_c0_2 v_c0_2 chv_c0_2→nv_c0_2=v_c0_2.length→backl1 a0 a1 a2 a3 a4 v_c0_2 v16=some r→RunH C32v3 (S32v3 F H ga0 r) H w0 [.c [1,0,0],.l [1,0,0],.b 0] [(0,pg ga0 0),(2,iv a2),(3,.bool a3),(4,.bool a4),(14,.slice Aa1 a1.length ca1),(15,iv (a1.length:Int)),(16,iv v16)] H ((some (ga0,.cells #[iv a0.Room,iv a0.Lease,.slice Av_c0_2 nv_c0_2 cv_c0_2,.slice Aa0_3 a0.Entries.length ca0_3] 25 (0,0)))::chv_c0_2::cha0_3::F)):∀ (ga0:Nat) (a0:Cache) (Aa0_3:Option Addr) (ca0_3:Nat) (cha0_3:Ch) (a1:List ByteArray) (Aa1:Option Addr) (ca1:Nat) (a2:Int) (a3 a4:Bool) (v16:Int) (y1:Int × Bool) (v_c0_2:List Blob) (Av_c0_2:Option Addr) (nv_c0_2 cv_c0_2:Nat) (chv_c0_2:Ch) ,SlOwn kEntry 47 H Aa0_3 ca0_3 a0.Entries cha0_3→Rw Kd.string H F Aa1 a1→a1.length≤ca1→SlOwn kBlob 45 H Av_c0_2 cv_c0_2 v_c0_2 chv_c0_2→nv_c0_2=v_c0_2.length→cache_touch_3.j2 backl1 a0 a1 a2 a3 a4 v16 y1 v_c0_2=some r→RunH C32v3 (S32v3 F H ga0 r) H w0 [.c [1,0,0,1,1,0,0,1,1,1,0],.c [1,0,0,1,1,0,0,1,1,1,1],.b 1,.c [1,0,0,1,1,1],.l [1,0,0],.b 0] [(0,pg ga0 0),(2,iv a2),(3,.bool a3),(4,.bool a4),(12,iv y1.1),(13,.bool y1.2),(14,.slice Aa1 a1.length ca1),(15,iv (a1.length:Int)),(16,iv v16)] H ((some (ga0,.cells #[iv a0.Room,iv a0.Lease,.slice Av_c0_2 nv_c0_2 cv_c0_2,.slice Aa0_3 a0.Entries.length ca0_3] 25 (0,0)))::chv_c0_2::cha0_3::F):=by
 intro ga0 a0 Aa0_3 ca0_3 cha0_3 a1 Aa1 ca1 a2 a3 a4 v16 y1 v_c0_2 Av_c0_2 nv_c0_2 cv_c0_2 chv_c0_2 hoa0_3 hra1 hca1 hov_c0_2 hnv_c0_2 heq
 subst hnv_c0_2
 unfold cache_touch_3.j2 at heq
 obtain ⟨t2,ht2,heq⟩:=bind_some heq
 have K7:RunH C32v3 (S32v3 F H ga0 r) H w0 [.c [1,0,0,1,1,0,0,1,1,1,1],.b 1,.c [1,0,0,1,1,1],.l [1,0,0],.b 0] [(0,pg ga0 0),(2,iv a2),(3,.bool a3),(4,.bool a4),(12,iv y1.1),(14,.slice Aa1 a1.length ca1),(15,iv (a1.length:Int)),(16,iv v16),(43,.bool t2)] H ((some (ga0,.cells #[iv a0.Room,iv a0.Lease,.slice Av_c0_2 v_c0_2.length cv_c0_2,.slice Aa0_3 a0.Entries.length ca0_3] 25 (0,0)))::chv_c0_2::cha0_3::F):=by
  refine Cb heq ?_ ?_
  ·intro hb4 heq
   refine Sd 0 23 [] [3,3,3,3,3,3,3,3,3,3,3,3,3,3,3,3,3,3,3,3,0,3,2] ?_
   obtain ⟨x2,hx2,heq⟩:=bind_some heq
   obtain ⟨ha2,cs2,hK2,hcc2⟩:=hov_c0_2.get hx2
   obtain ⟨rfl⟩:=kBlob_open hK2
   refine Zr [0,1,2,3,4,5,6,7,8,9,10,11,12,13,14,15,16,17,18,19] 3 [bx 0 2,bx 0 2,nx ha2 hx2,el hcc2 1 3,bx 0 1] (Pk 3 [0,1,2]) (Pk 3 [0,1,2]) ?_
   obtain ⟨ha3,cs3,hK3,hcc3⟩:=hov_c0_2.get hx2
   obtain ⟨rfl⟩:=kBlob_open hK3
   refine Dz 20 (DoesH.pureop (d:=64) (v:=.pointer (some ((adr Av_c0_2).add (y1.1.toNat*5)))) (vs:=[]) (evs:=[.need (Av_c0_2=some (adr Av_c0_2)∧(0:Int)≤y1.1∧y1.1<((v_c0_2.length:Nat):Int))]) (by kernel_rfl) (fun w hh=>⟨ha3,(at?_some hx2).1,(at?_some hx2).2.1⟩)) ?_
   rintro _ _ _ _ ⟨rfl,rfl,rfl⟩
   refine ⟨fun _ w hh=>⟨fun _=>(Pk 3 [0,1,2]) w hh,fun _=>(Pk 3 [0,1,2]) w hh,(fun h=>by cases h)⟩,?_⟩
   refine Zr [21] 1 [] (Pk 3 [0,1,2]) (Pk 3 [0,1,2]) ?_
   obtain ⟨ha4,cs4,hK4,hcc4⟩:=hov_c0_2.get hx2
   obtain ⟨rfl⟩:=kBlob_open hK4
   refine Dz 22 (DoesH.storeEl (a:=(((adr Av_c0_2).add (y1.1.toNat*5)).add 3)) (k:=1) (kd:=kBlob) (c0:=[.string x2.Digest,iv x2.Size,iv x2.Used,iv x2.Until,iv x2.Pins]) (x':=(⟨x2.Digest,x2.Size,x2.Used,max2 x2.Until (w64 (a2+a0.Lease)),x2.Pins⟩:Blob)) (o:=3) (ix:=y1.1) (v:=iv (max2 x2.Until (w64 (a2+a0.Lease)))) (by kernel_rfl) rfl hov_c0_2 hx2 (by kernel_rfl) hcc4 rfl (Nat.le_of_ble_eq_true (by kernel_rfl)) kBlob_mk) ?_
   rintro _ _ _ _ ⟨ch1,rfl,rfl,rfl,ho1⟩
   have hn1:v_c0_2.length=(v_c0_2.set y1.1.toNat (⟨x2.Digest,x2.Size,x2.Used,max2 x2.Until (w64 (a2+a0.Lease)),x2.Pins⟩:Blob)).length:=by rw [List.length_set]
   refine ⟨fun _ w hh=>⟨(fun h=>by cases h),(fun h=>absurd h (by decide)),(fun h=>by cases h)⟩,?_⟩
   refine DrH.nrm ?_
   refine DrH.done (by kernel_rfl) ?_
   refine An 1 ?_
   exact Gt 0 [] ((cache_touch_3.j3_c (backl1:=backl1) hbackl1) _ a0 _ _ _ a1 _ _ a2 a3 a4 v16 (v_c0_2.set y1.1.toNat (⟨x2.Digest,x2.Size,x2.Used,max2 x2.Until (w64 (a2+a0.Lease)),x2.Pins⟩:Blob)) _ _ _ _ hoa0_3 hra1 hca1 ho1 hn1 heq)
  ·intro hb4 heq
   refine An 2 ?_
   exact Gt 0 [] ((cache_touch_3.j3_c (backl1:=backl1) hbackl1) _ a0 _ _ _ a1 _ _ a2 a3 a4 v16 v_c0_2 _ _ _ _ hoa0_3 hra1 hca1 hov_c0_2 rfl heq)
 replace heq:=ht2
 refine Sa 0<|Zk 2 ?_
 rcases bool_cases (y1.2) with hb3 | hb3
 ·replace heq:=bif_true hb3 heq
  refine Zs 41 (congrArg Value.bool hb3)<|Zk 4 ?_
  obtain rfl:=Option.some.inj heq
  refine Dn ?_
  exact Gt 0 [] (K7)
 ·replace heq:=bif_false hb3 heq
  refine Zs 41 (congrArg Value.bool hb3)<|Zk 4 ?_
  obtain rfl:=Option.some.inj heq
  refine Dn ?_
  exact Gt 0 [] (K7)
theorem cache_touch_3.l1_c {r:Cache}:∀ (k:Nat),∀ (ga0:Nat) (a0:Cache) (Aa0_3:Option Addr) (ca0_3:Nat) (cha0_3:Ch) (a1:List ByteArray) (Aa1:Option Addr) (ca1:Nat) (a2:Int) (a3 a4:Bool) (v_c0_2:List Blob) (Av_c0_2:Option Addr) (nv_c0_2 cv_c0_2:Nat) (chv_c0_2:Ch) (v16:Int) ,SlOwn kEntry 47 H Aa0_3 ca0_3 a0.Entries cha0_3→Rw Kd.string H F Aa1 a1→a1.length≤ca1→SlOwn kBlob 45 H Av_c0_2 cv_c0_2 v_c0_2 chv_c0_2→nv_c0_2=v_c0_2.length→cache_touch_3.l1 k a0 a1 a2 a3 a4 v_c0_2 v16=some r→RunH C32v3 (S32v3 F H ga0 r) H w0 [.c [1,0,0],.l [1,0,0],.b 0] [(0,pg ga0 0),(2,iv a2),(3,.bool a3),(4,.bool a4),(14,.slice Aa1 a1.length ca1),(15,iv (a1.length:Int)),(16,iv v16)] H ((some (ga0,.cells #[iv a0.Room,iv a0.Lease,.slice Av_c0_2 nv_c0_2 cv_c0_2,.slice Aa0_3 a0.Entries.length ca0_3] 25 (0,0)))::chv_c0_2::cha0_3::F):=by
 intro k
 induction k with
 | zero=>intro ga0 a0 Aa0_3 ca0_3 cha0_3 a1 Aa1 ca1 a2 a3 a4 v_c0_2 Av_c0_2 nv_c0_2 cv_c0_2 chv_c0_2 v16 hoa0_3 hra1 hca1 hov_c0_2 hnv_c0_2 heq; exact nomatch (show (none:Option Cache)=some r from heq)
 | succ k ihk =>
  intro ga0 a0 Aa0_3 ca0_3 cha0_3 a1 Aa1 ca1 a2 a3 a4 v_c0_2 Av_c0_2 nv_c0_2 cv_c0_2 chv_c0_2 v16 hoa0_3 hra1 hca1 hov_c0_2 hnv_c0_2 heq
  subst hnv_c0_2
  rw [cache_touch_3.l1] at heq
  refine Sa 1<|Zd 1<|An 1 ?_
  refine Cb heq ?_ ?_
  ·intro hb1 heq
   refine Sa 4 ?_
   obtain ⟨x1,hx1,heq⟩:=bind_some heq
   obtain ⟨ha1,cs1,hK1,hcc1⟩:=hra1.get hx1
   obtain rfl:cs1=[.string x1]:=hK1
   refine Zw 3 [nx ha1 hx1,er hcc1 3 0]<|Sa 1<|Zv 4 (bxs 0) ?_
   obtain ⟨y1,hy1,heq⟩:=bind_some heq
   refine RgH.does (cal 25 (cache_find_c (a0:=(⟨a0.Room,a0.Lease,v_c0_2,a0.Entries⟩:Cache)) hy1 (hov_c0_2.rw (.tail _ (.head _))) hov_c0_2.cap rfl (hoa0_3.rw (.tail _ (.tail _ (.head _)))) hoa0_3.cap rfl)) ?_
   rintro _ _ _ _ ⟨_,rfl,rfl,rfl,rfl⟩
   refine Zd 10<|An 2 ?_
   obtain ⟨t1,ht1,heq⟩:=bind_some heq
   have K5:RunH C32v3 (S32v3 F H ga0 r) H w0 [.c [1,0,0,1,1,0,0,1,1,0,1],.c [1,0,0,1,1,0,0,1,1,1],.b 1,.c [1,0,0,1,1,1],.l [1,0,0],.b 0] [(0,pg ga0 0),(2,iv a2),(3,.bool a3),(4,.bool a4),(12,iv y1.1),(13,.bool y1.2),(14,.slice Aa1 a1.length ca1),(15,iv (a1.length:Int)),(16,iv v16),(31,.bool t1)] H ((some (ga0,.cells #[iv a0.Room,iv a0.Lease,.slice Av_c0_2 v_c0_2.length cv_c0_2,.slice Aa0_3 a0.Entries.length ca0_3] 25 (0,0)))::chv_c0_2::cha0_3::F):=by
    refine Cb heq ?_ ?_
    ·intro hb5 heq
     refine Sa 0 ?_
     obtain ⟨x3,hx3,heq⟩:=bind_some heq
     obtain ⟨ha5,cs5,hK5,hcc5⟩:=hov_c0_2.get hx3
     obtain ⟨rfl⟩:=kBlob_open hK5
     refine Zv 8 [bx 0 2,nx ha5 hx3] ?_
     obtain ⟨ha6,cs6,hK6,hcc6⟩:=hov_c0_2.get hx3
     obtain ⟨rfl⟩:=kBlob_open hK6
     refine RgH.does (DoesH.storeEl (a:=(((adr Av_c0_2).add (y1.1.toNat*5)).add 2)) (k:=1) (kd:=kBlob) (c0:=[.string x3.Digest,iv x3.Size,iv x3.Used,iv x3.Until,iv x3.Pins]) (x':=(⟨x3.Digest,x3.Size,a2,x3.Until,x3.Pins⟩:Blob)) (o:=2) (ix:=y1.1) (v:=iv a2) (by kernel_rfl) rfl hov_c0_2 hx3 (by kernel_rfl) hcc6 rfl (Nat.le_of_ble_eq_true (by kernel_rfl)) kBlob_mk) ?_
     rintro _ _ _ _ ⟨ch2,rfl,rfl,rfl,ho2⟩
     have hn2:v_c0_2.length=(v_c0_2.set y1.1.toNat (⟨x3.Digest,x3.Size,a2,x3.Until,x3.Pins⟩:Blob)).length:=by rw [List.length_set]
     refine RgH.nrm ?_
     refine Dn<|An 1 ?_
     exact Gt 0 [] ((cache_touch_3.j2_c (backl1:=(cache_touch_3.l1 k)) ihk) _ a0 _ _ _ a1 _ _ a2 a3 a4 v16 y1 (v_c0_2.set y1.1.toNat (⟨x3.Digest,x3.Size,a2,x3.Until,x3.Pins⟩:Blob)) _ _ _ _ hoa0_3 hra1 hca1 ho2 hn2 heq)
    ·intro hb5 heq
     refine An 2 ?_
     exact Gt 0 [] ((cache_touch_3.j2_c (backl1:=(cache_touch_3.l1 k)) ihk) _ a0 _ _ _ a1 _ _ a2 a3 a4 v16 y1 v_c0_2 _ _ _ _ hoa0_3 hra1 hca1 hov_c0_2 rfl heq)
   replace heq:=ht1
   refine Sa 0<|Zk 2 ?_
   rcases bool_cases (y1.2) with hb2 | hb2
   ·replace heq:=bif_true hb2 heq
    refine Zs 29 (congrArg Value.bool hb2)<|Zk 4 ?_
    obtain rfl:=Option.some.inj heq
    refine Dn ?_
    exact Gt 0 [] (K5)
   ·replace heq:=bif_false hb2 heq
    refine Zs 29 (congrArg Value.bool hb2)<|Zk 4 ?_
    obtain rfl:=Option.some.inj heq
    refine Dn ?_
    exact Gt 0 [] (K5)
  ·intro hb1 heq
   refine An 1 ?_
   obtain rfl:=Option.some.inj heq
   exact RunH.done (by kernel_rfl) Tryz.func32 (v:=.tuple #[]) (by kernel_rfl) ⟨Av_c0_2,cv_c0_2,chv_c0_2,Aa0_3,ca0_3,cha0_3,rfl,rfl,rfl,hov_c0_2,hoa0_3⟩
theorem cache_touch_3_c {ga0:Nat} {a0:Cache} {Aa0_2:Option Addr} {na0_2 ca0_2:Nat} {cha0_2:Ch} {Aa0_3:Option Addr} {na0_3 ca0_3:Nat} {cha0_3:Ch} {a1:List ByteArray} {Aa1:Option Addr} {na1 ca1:Nat} {a2:Int} {a3 a4:Bool} {r:Cache} (heq:cache_touch_3.f a0 a1 a2 a3 a4=some r) (hoa0_2:SlOwn kBlob 45 H Aa0_2 ca0_2 a0.Blobs cha0_2) (hna0_2:na0_2=a0.Blobs.length) (hoa0_3:SlOwn kEntry 47 H Aa0_3 ca0_3 a0.Entries cha0_3) (hna0_3:na0_3=a0.Entries.length) (hra1:Rw Kd.string H F Aa1 a1) (hca1:na1≤ca1) (hna1:na1=a1.length):CallsH Tryz.prog 32 #[.pointer (some ⟨ga0,0,none⟩),.slice Aa1 na1 ca1,iv a2,.bool a3,.bool a4] H w0 ((some (ga0,.cells #[iv a0.Room,iv a0.Lease,.slice Aa0_2 na0_2 ca0_2,.slice Aa0_3 na0_3 ca0_3] 25 (0,0)))::cha0_2::cha0_3::F) (S32v3 F H ga0 r):=by
 refine Co C32v3 Tryz.func32 Tryz.ntmps32 ?_
 subst hna0_2
 subst hna0_3
 subst hna1
 unfold cache_touch_3.f at heq
 refine Sa 1<|Zd 3<|An 2 ?_
 exact Gt 0 [] (((cache_touch_3.l1_c) big) _ a0 _ _ _ a1 _ _ a2 a3 a4 a0.Blobs _ _ _ _ 0 hoa0_3 hra1 hca1 hoa0_2 rfl heq)
noncomputable def C38v3:Ctx:={ P:=Tryz.prog,f:=38,N:=26,c:=bodyOf Tryz.f38 }
def S38v3 (F:List Ch) (H0:Hp) (ga0:Nat) (r:Cache) (v:Value) (H:Hp) (cs:List Ch):Prop:=∃ (A0_2:Option Addr) (c0_2:Nat) (ch0_2:Ch) (A0_3:Option Addr) (c0_3:Nat) (ch0_3:Ch),H0=H∧v=.tuple #[]∧some (ga0,.cells #[iv r.Room,iv r.Lease,.slice A0_2 r.Blobs.length c0_2,.slice A0_3 r.Entries.length c0_3] 25 (0,0))::ch0_2::ch0_3::F=cs∧SlOwn kBlob 45 H A0_2 c0_2 r.Blobs ch0_2∧SlOwn kEntry 47 H A0_3 c0_3 r.Entries ch0_3
theorem cache_drop_3.e1_c {r:Cache}:∀ (ga0:Nat) (a0:Cache) (Aa0_2:Option Addr) (ca0_2:Nat) (cha0_2:Ch) (Aa0_3:Option Addr) (ca0_3:Nat) (cha0_3:Ch) (g2:Nat) (v_has4_0:List (ByteArray × Bool)) (gv_has4_0:Nat) (chv_has4_0:Ch) ,SlOwn kBlob 45 H Aa0_2 ca0_2 a0.Blobs cha0_2→SlOwn kEntry 47 H Aa0_3 ca0_3 a0.Entries cha0_3→MpOwn Value.string Kd.bool false H gv_has4_0 v_has4_0 chv_has4_0→cache_drop_3.e1 a0 v_has4_0=some r→RunH C38v3 (S38v3 F H ga0 r) H w0 [.c [1,1]] [(0,pg ga0 0),(4,pg g2 0)] H ((some (g2,.cells #[.map (some gv_has4_0)] 86 (0,0)))::chv_has4_0::(some (ga0,.cells #[iv a0.Room,iv a0.Lease,.slice Aa0_2 a0.Blobs.length ca0_2,.slice Aa0_3 a0.Entries.length ca0_3] 25 (0,0)))::cha0_2::cha0_3::F):=by
 intro ga0 a0 Aa0_2 ca0_2 cha0_2 Aa0_3 ca0_3 cha0_3 g2 v_has4_0 gv_has4_0 chv_has4_0 hoa0_2 hoa0_3 hov_has4_0 heq
 unfold cache_drop_3.e1 at heq
 refine Sa 0<|Zv 6 [bx 2 2]<|Ug 4 [3,0,1,2] ?_
 obtain ⟨y1,hy1,heq⟩:=bind_some heq
 refine RgH.does (cal 23 (slices_DeleteFunc_Blob_2_c hy1 hoa0_2 rfl (hov_has4_0.mw (.tail _ (.head _))) (.inr (.head _)))) ?_
 rintro _ _ _ _ ⟨_,rfl,A1,c1,ch1,rfl,rfl,rfl,ho2⟩
 refine Zk 9 ?_
 refine RgH.does (DoesH.store (k:=3) (g:=ga0) (off:=2) (v:=.slice A1 y1.length c1) (cells':=#[iv a0.Room,iv a0.Lease,.slice A1 y1.length c1,.slice Aa0_3 a0.Entries.length ca0_3]) (by kernel_rfl) rfl (by kernel_rfl) (by kernel_rfl)) ?_
 rintro _ _ _ _ ⟨rfl,rfl,rfl⟩
 refine RgH.nrm ?_
 refine Dn ?_
 obtain rfl:=Option.some.inj heq
 refine Up 4 [3,0] ?_
 exact RunH.done (by kernel_rfl) Tryz.func38 (v:=.tuple #[]) (by kernel_rfl) ⟨A1,c1,ch1,Aa0_3,ca0_3,cha0_3,rfl,rfl,rfl,ho2,hoa0_3⟩
theorem cache_drop_3.l2_c {r:Cache} (e1:Cache→(List (ByteArray × Bool))→Option Cache)
  (he1:∀ (ga0:Nat) (a0:Cache) (Aa0_2:Option Addr) (ca0_2:Nat) (cha0_2:Ch) (Aa0_3:Option Addr) (ca0_3:Nat) (cha0_3:Ch) (g2:Nat) (v_has4_0:List (ByteArray × Bool)) (gv_has4_0:Nat) (chv_has4_0:Ch) ,SlOwn kBlob 45 H Aa0_2 ca0_2 a0.Blobs cha0_2→SlOwn kEntry 47 H Aa0_3 ca0_3 a0.Entries cha0_3→MpOwn Value.string Kd.bool false H gv_has4_0 v_has4_0 chv_has4_0→e1 a0 v_has4_0=some r→RunH C38v3 (S38v3 F H ga0 r) H w0 [.c [1,1]] [(0,pg ga0 0),(4,pg g2 0)] H ((some (g2,.cells #[.map (some gv_has4_0)] 86 (0,0)))::chv_has4_0::(some (ga0,.cells #[iv a0.Room,iv a0.Lease,.slice Aa0_2 a0.Blobs.length ca0_2,.slice Aa0_3 a0.Entries.length ca0_3] 25 (0,0)))::cha0_2::cha0_3::F)):∀ (k:Nat),∀ (ga0:Nat) (a0:Cache) (Aa0_2:Option Addr) (ca0_2:Nat) (cha0_2:Ch) (Aa0_3:Option Addr) (ca0_3:Nat) (cha0_3:Ch) (a1:List ByteArray) (Aa1:Option Addr) (ca1 g2:Nat) (v_has4_0:List (ByteArray × Bool)) (gv_has4_0:Nat) (chv_has4_0:Ch) (v10:Int) ,SlOwn kBlob 45 H Aa0_2 ca0_2 a0.Blobs cha0_2→SlOwn kEntry 47 H Aa0_3 ca0_3 a0.Entries cha0_3→Rw Kd.string H F Aa1 a1→a1.length≤ca1→MpOwn Value.string Kd.bool false H gv_has4_0 v_has4_0 chv_has4_0→cache_drop_3.l2 e1 k a0 a1 v_has4_0 v10=some r→RunH C38v3 (S38v3 F H ga0 r) H w0 [.c [1,0,1,0,0],.l [1,0,1,0,0],.b 0,.c [1,1]] [(0,pg ga0 0),(4,pg g2 0),(8,.slice Aa1 a1.length ca1),(9,iv (a1.length:Int)),(10,iv v10)] H ((some (g2,.cells #[.map (some gv_has4_0)] 86 (0,0)))::chv_has4_0::(some (ga0,.cells #[iv a0.Room,iv a0.Lease,.slice Aa0_2 a0.Blobs.length ca0_2,.slice Aa0_3 a0.Entries.length ca0_3] 25 (0,0)))::cha0_2::cha0_3::F):=by
 intro k
 induction k with
 | zero=>intro ga0 a0 Aa0_2 ca0_2 cha0_2 Aa0_3 ca0_3 cha0_3 a1 Aa1 ca1 g2 v_has4_0 gv_has4_0 chv_has4_0 v10 hoa0_2 hoa0_3 hra1 hca1 hov_has4_0 heq; exact nomatch (show (none:Option Cache)=some r from heq)
 | succ k ihk =>
  intro ga0 a0 Aa0_2 ca0_2 cha0_2 Aa0_3 ca0_3 cha0_3 a1 Aa1 ca1 g2 v_has4_0 gv_has4_0 chv_has4_0 v10 hoa0_2 hoa0_3 hra1 hca1 hov_has4_0 heq
  rw [cache_drop_3.l2] at heq
  refine Sa 1<|Zd 1<|An 1 ?_
  refine Cb heq ?_ ?_
  ·intro hb1 heq
   refine Sa 4 ?_
   obtain ⟨x1,hx1,heq⟩:=bind_some heq
   obtain ⟨ha1,cs1,hK1,hcc1⟩:=hra1.get hx1
   obtain rfl:cs1=[.string x1]:=hK1
   refine Zw 3 [nx ha1 hx1,er hcc1 5 0]<|Sa 0<|Zv 2 [bx 0 0] ?_
   refine RgH.does (DoesH.mapUpdate (kk:=1) (cv:=[.bool true]) (k:=x1) (v:=true) (by kernel_rfl) (KyAt.string Tryz.underlying9) rfl rfl rfl hov_has4_0) ?_
   rintro _ _ _ _ ⟨ch2,rfl,rfl,rfl,ho3⟩
   refine RgH.nrm ?_
   refine Dn<|Sa 1<|Zd 2<|An 1 ?_
   exact Gt 0 [] (ihk _ a0 _ _ _ _ _ _ a1 _ _ _ (mput v_has4_0 x1 true) _ _ (w64 (v10+1)) hoa0_2 hoa0_3 hra1 hca1 ho3 heq)
  ·intro hb1 heq
   refine An 1 ?_
   exact Gt 0 [] (he1 _ a0 _ _ _ _ _ _ _ v_has4_0 _ _ hoa0_2 hoa0_3 hov_has4_0 heq)
theorem cache_drop_3_c {ga0:Nat} {a0:Cache} {Aa0_2:Option Addr} {na0_2 ca0_2:Nat} {cha0_2:Ch} {Aa0_3:Option Addr} {na0_3 ca0_3:Nat} {cha0_3:Ch} {a1:List ByteArray} {Aa1:Option Addr} {na1 ca1:Nat} {r:Cache} (heq:cache_drop_3.f a0 a1=some r) (hoa0_2:SlOwn kBlob 45 H Aa0_2 ca0_2 a0.Blobs cha0_2) (hna0_2:na0_2=a0.Blobs.length) (hoa0_3:SlOwn kEntry 47 H Aa0_3 ca0_3 a0.Entries cha0_3) (hna0_3:na0_3=a0.Entries.length) (hra1:Rw Kd.string H F Aa1 a1) (hca1:na1≤ca1) (hna1:na1=a1.length):CallsH Tryz.prog 38 #[.pointer (some ⟨ga0,0,none⟩),.slice Aa1 na1 ca1] H w0 ((some (ga0,.cells #[iv a0.Room,iv a0.Lease,.slice Aa0_2 na0_2 ca0_2,.slice Aa0_3 na0_3 ca0_3] 25 (0,0)))::cha0_2::cha0_3::F) (S38v3 F H ga0 r):=by
 refine Co C38v3 Tryz.func38 Tryz.ntmps38 ?_
 subst hna0_2
 subst hna0_3
 subst hna1
 unfold cache_drop_3.f at heq
 refine Sa 1 ?_
 refine RgH.does (DoesH.new (d:=7) (v:=fun g=>.map (some g)) (o:=fun g=>.map #[] 0) (fun g=>by kernel_rfl)) ?_
 rintro _ _ _ _ ⟨g1,rfl,rfl,rfl⟩
 have ho1:MpOwn Value.string Kd.bool false H g1 ([]:List (ByteArray × Bool)) (some (g1,.map #[] 0)):=MpOwn.made
 refine RgH.does (DoesH.new (d:=4) (v:=fun g=>.pointer (some ⟨g,0,none⟩)) (o:=fun g=>.cells #[.map none] 86 (0,0)) (fun g=>by kernel_rfl)) ?_
 rintro _ _ _ _ ⟨g2,rfl,rfl,rfl⟩
 refine RgH.does (DoesH.store (k:=0) (g:=g2) (off:=0) (v:=.map (some g1)) (cells':=#[.map (some g1)]) (by kernel_rfl) rfl (by kernel_rfl) (by kernel_rfl)) ?_
 rintro _ _ _ _ ⟨rfl,rfl,rfl⟩
 refine RgH.nrm ?_
 refine Dn<|Sa 2<|Zd 3<|An 2 ?_
 exact Gt 0 [] (((cache_drop_3.l2_c (e1:=cache_drop_3.e1) (cache_drop_3.e1_c)) big) _ a0 _ _ _ _ _ _ a1 _ _ _ ([]:List (ByteArray × Bool)) _ _ 0 hoa0_2 hoa0_3 hra1 hca1 ho1 heq)
noncomputable def C54v2:Ctx:={ P:=Tryz.prog,f:=54,N:=50,c:=bodyOf Tryz.f54 }
def S54v2 (F:List Ch) (H0:Hp) (ga0:Nat) (r:(List ByteArray) × Bool × Cache) (v:Value) (H:Hp) (cs:List Ch):Prop:=∃ (A0:Option Addr) (c0:Nat) (ch0:Ch) (A2_2:Option Addr) (c2_2:Nat) (ch2_2:Ch) (A2_3:Option Addr) (c2_3:Nat) (ch2_3:Ch),H0=H∧v=.tuple #[.slice A0 r.1.length c0,.bool r.2.1]∧ch0::some (ga0,.cells #[iv r.2.2.Room,iv r.2.2.Lease,.slice A2_2 r.2.2.Blobs.length c2_2,.slice A2_3 r.2.2.Entries.length c2_3] 25 (0,0))::ch2_2::ch2_3::F=cs∧SlOwn Kd.string 9 H A0 c0 r.1 ch0∧SlOwn kBlob 45 H A2_2 c2_2 r.2.2.Blobs ch2_2∧SlOwn kEntry 47 H A2_3 c2_3 r.2.2.Entries ch2_3
theorem cache_clear_2.e1_c {r:(List ByteArray) × Bool × Cache}:∀ (ga0:Nat) (a0:Cache) (Aa0_2:Option Addr) (ca0_2:Nat) (cha0_2:Ch) (Aa0_3:Option Addr) (ca0_3:Nat) (cha0_3:Ch) (v_gone10:List ByteArray) (Av_gone10:Option Addr) (nv_gone10 cv_gone10:Nat) (chv_gone10:Ch) ,SlOwn kBlob 45 H Aa0_2 ca0_2 a0.Blobs cha0_2→SlOwn kEntry 47 H Aa0_3 ca0_3 a0.Entries cha0_3→SlOwn Kd.string 9 H Av_gone10 cv_gone10 v_gone10 chv_gone10→nv_gone10=v_gone10.length→cache_clear_2.e1 a0 v_gone10=some r→RunH C54v2 (S54v2 F H ga0 r) H w0 [.c [1,1,1,1,1,1,0],.c [1,1,1,1,1,1,1]] [(0,pg ga0 0),(10,.slice Av_gone10 nv_gone10 cv_gone10)] H (chv_gone10::(some (ga0,.cells #[iv a0.Room,iv a0.Lease,.slice Aa0_2 a0.Blobs.length ca0_2,.slice Aa0_3 a0.Entries.length ca0_3] 25 (0,0)))::cha0_2::cha0_3::F):=by
 intro ga0 a0 Aa0_2 ca0_2 cha0_2 Aa0_3 ca0_3 cha0_3 v_gone10 Av_gone10 nv_gone10 cv_gone10 chv_gone10 hoa0_2 hoa0_3 hov_gone10 hnv_gone10 heq
 subst hnv_gone10
 unfold cache_clear_2.e1 at heq
 refine Sa 0<|Zk 2<|Ug 4 [1,2,3,0] ?_
 obtain ⟨y4,hy4,heq⟩:=bind_some heq
 refine RgH.does (cal 48 (cache_drop_3_c hy4 hoa0_2 rfl hoa0_3 rfl (hov_gone10.rw (.head _)) hov_gone10.cap rfl)) ?_
 rintro _ _ _ _ ⟨_,rfl,A2,c2,ch2,A3,c3,ch3,rfl,rfl,rfl,ho3,ho4⟩
 refine Dn<|Sa 1<|Zd 3 ?_
 obtain rfl:=Option.some.inj heq
 refine Up 4 [3,0,1,2] ?_
 exact RunH.done (by kernel_rfl) Tryz.func54 (v:=.tuple #[.slice Av_gone10 v_gone10.length cv_gone10,.bool true]) (by kernel_rfl) ⟨Av_gone10,cv_gone10,chv_gone10,A2,c2,ch2,A3,c3,ch3,rfl,rfl,rfl,hov_gone10,ho3,ho4⟩
theorem cache_clear_2.l2_c {r:(List ByteArray) × Bool × Cache} (e1:Cache→(List ByteArray)→Option ((List ByteArray) × Bool × Cache))
  (he1:∀ (ga0:Nat) (a0:Cache) (Aa0_2:Option Addr) (ca0_2:Nat) (cha0_2:Ch) (Aa0_3:Option Addr) (ca0_3:Nat) (cha0_3:Ch) (v_gone10:List ByteArray) (Av_gone10:Option Addr) (nv_gone10 cv_gone10:Nat) (chv_gone10:Ch) ,SlOwn kBlob 45 H Aa0_2 ca0_2 a0.Blobs cha0_2→SlOwn kEntry 47 H Aa0_3 ca0_3 a0.Entries cha0_3→SlOwn Kd.string 9 H Av_gone10 cv_gone10 v_gone10 chv_gone10→nv_gone10=v_gone10.length→e1 a0 v_gone10=some r→RunH C54v2 (S54v2 F H ga0 r) H w0 [.c [1,1,1,1,1,1,0],.c [1,1,1,1,1,1,1]] [(0,pg ga0 0),(10,.slice Av_gone10 nv_gone10 cv_gone10)] H (chv_gone10::(some (ga0,.cells #[iv a0.Room,iv a0.Lease,.slice Aa0_2 a0.Blobs.length ca0_2,.slice Aa0_3 a0.Entries.length ca0_3] 25 (0,0)))::cha0_2::cha0_3::F)):∀ (k:Nat),∀ (ga0:Nat) (a0:Cache) (Aa0_2:Option Addr) (ca0_2:Nat) (cha0_2:Ch) (Aa0_3:Option Addr) (ca0_3:Nat) (cha0_3:Ch) (y1:(List Blob)) (A1:Option Addr) (c1:Nat) (ch1:Ch) (v_over9:Int) (v_gone10:List ByteArray) (Av_gone10:Option Addr) (nv_gone10 cv_gone10:Nat) (chv_gone10:Ch) (v30:Int) ,SlOwn kBlob 45 H Aa0_2 ca0_2 a0.Blobs cha0_2→SlOwn kEntry 47 H Aa0_3 ca0_3 a0.Entries cha0_3→SlOwn kBlob 45 H A1 c1 y1 ch1→SlOwn Kd.string 9 H Av_gone10 cv_gone10 v_gone10 chv_gone10→nv_gone10=v_gone10.length→cache_clear_2.l2 e1 k a0 y1 v_over9 v_gone10 v30=some r→RunH C54v2 (S54v2 F H ga0 r) H w0 [.c [1,1,1,1,1,0,1,0,0],.l [1,1,1,1,1,0,1,0,0],.b 0,.c [1,1,1,1,1,1]] [(0,pg ga0 0),(9,iv v_over9),(10,.slice Av_gone10 nv_gone10 cv_gone10),(28,.slice A1 y1.length c1),(29,iv (y1.length:Int)),(30,iv v30)] H (chv_gone10::ch1::(some (ga0,.cells #[iv a0.Room,iv a0.Lease,.slice Aa0_2 a0.Blobs.length ca0_2,.slice Aa0_3 a0.Entries.length ca0_3] 25 (0,0)))::cha0_2::cha0_3::F):=by
 intro k
 induction k with
 | zero=>intro ga0 a0 Aa0_2 ca0_2 cha0_2 Aa0_3 ca0_3 cha0_3 y1 A1 c1 ch1 v_over9 v_gone10 Av_gone10 nv_gone10 cv_gone10 chv_gone10 v30 hoa0_2 hoa0_3 ho1 hov_gone10 hnv_gone10 heq; exact nomatch (show (none:Option ((List ByteArray) × Bool × Cache))=some r from heq)
 | succ k ihk =>
  intro ga0 a0 Aa0_2 ca0_2 cha0_2 Aa0_3 ca0_3 cha0_3 y1 A1 c1 ch1 v_over9 v_gone10 Av_gone10 nv_gone10 cv_gone10 chv_gone10 v30 hoa0_2 hoa0_3 ho1 hov_gone10 hnv_gone10 heq
  subst hnv_gone10
  rw [cache_clear_2.l2] at heq
  refine Sa 1<|Zd 1<|An 1 ?_
  refine Cb heq ?_ ?_
  ·intro hb2 heq
   refine Sa 4 ?_
   obtain ⟨x1,hx1,heq⟩:=bind_some heq
   obtain ⟨ha1,cs1,hK1,hcc1⟩:=ho1.get hx1
   obtain ⟨rfl⟩:=kBlob_open hK1
   refine Zv 2 ([nx ha1 hx1]++els hcc1 1) ?_
   refine RgH.does (DoesH.new (d:=12) (v:=fun g=>.pointer (some ⟨g,0,none⟩)) (o:=fun g=>.cells #[.string ByteArray.empty,iv 0,iv 0,iv 0,iv 0] 45 (0,0)) (fun g=>by kernel_rfl)) ?_
   rintro _ _ _ _ ⟨g1,rfl,rfl,rfl⟩
   refine RgH.does (DoesH.store (k:=0) (g:=g1) (off:=0) (v:=.agg #[.string x1.Digest,iv x1.Size,iv x1.Used,iv x1.Until,iv x1.Pins]) (cells':=#[.string x1.Digest,iv x1.Size,iv x1.Used,iv x1.Until,iv x1.Pins]) (by kernel_rfl) rfl (by kernel_rfl) (by kernel_rfl)) ?_
   rintro _ _ _ _ ⟨rfl,rfl,rfl⟩
   refine RgH.nrm ?_
   refine Dn<|Sa 2<|Zd 2 ?_
   refine Cb heq ?_ ?_
   ·intro hb3 heq
    refine An 2 ?_
    exact Gt 3 [1] (he1 _ a0 _ _ _ _ _ _ v_gone10 _ _ _ _ hoa0_2 hoa0_3 hov_gone10 rfl heq)
   ·intro hb3 heq
    refine Sa 2<|Zw 5 [bx 0 1]<|Sa 0<|Zv 3 [bx 0 0] ?_
    refine RgH.does (DoesH.new (d:=43) (v:=fun g=>.slice (some ⟨g,0,none⟩) 1 1) (o:=fun g=>.cells #[.string x1.Digest] 9 (0,0)) (fun g=>by kernel_rfl)) ?_
    rintro _ _ _ _ ⟨g2,rfl,rfl,rfl⟩
    have ho5:SlOwn Kd.string 9 H (some ⟨g2,0,none⟩) 1 ([x1.Digest]:List ByteArray) (some (g2,.cells #[.string x1.Digest] 9 (0,0))):=SlOwn.lit (xs:=([x1.Digest]:List ByteArray)) (by kernel_rfl) (Nat.le_of_ble_eq_true (by kernel_rfl)) (Kd.Rep.scalars rfl)
    obtain ⟨hn1,heq⟩:=guard?_some heq
    refine RgH.does (DoesH.append (d:=44) (k:=2) (t:=26) (e:=9) (bytes:=16) (kd:=Kd.string) (n:=v_gone10.length) (m:=1) (xs:=v_gone10) (ys:=([x1.Digest]:List ByteArray)) (A:=Av_gone10) (B:=(some ⟨g2,0,none⟩)) (c:=cv_gone10) (cB:=1) (by kernel_rfl) rfl rfl (by kernel_rfl) rfl hov_gone10 (fun w hh=>ho5.rdb (hh.chin 0 rfl)) (room_le hn1) (by have:=room_le hn1; omega)) ?_
    rintro _ _ _ _ ⟨A4,c4,ch4,rfl,rfl,rfl,ho6⟩
    refine RgH.nrm ?_
    refine Zd 6<|Sa 1<|Zd 2<|An 1 ?_
    exact Gt 2 [] (ihk _ a0 _ _ _ _ _ _ y1 _ _ _ (w64 (v_over9 - x1.Size)) (v_gone10++([x1.Digest]:List ByteArray)) _ _ _ _ (w64 (v30+1)) hoa0_2 hoa0_3 ho1 ho6 rfl heq)
  ·intro hb2 heq
   refine An 2 ?_
   exact Gt 2 [0] (he1 _ a0 _ _ _ _ _ _ v_gone10 _ _ _ _ hoa0_2 hoa0_3 hov_gone10 rfl heq)
theorem cache_clear_2_c {ga0:Nat} {a0:Cache} {Aa0_2:Option Addr} {na0_2 ca0_2:Nat} {cha0_2:Ch} {Aa0_3:Option Addr} {na0_3 ca0_3:Nat} {cha0_3:Ch} {a1 a2:Int} {r:(List ByteArray) × Bool × Cache} (heq:cache_clear_2.f a0 a1 a2=some r) (hoa0_2:SlOwn kBlob 45 H Aa0_2 ca0_2 a0.Blobs cha0_2) (hna0_2:na0_2=a0.Blobs.length) (hoa0_3:SlOwn kEntry 47 H Aa0_3 ca0_3 a0.Entries cha0_3) (hna0_3:na0_3=a0.Entries.length):CallsH Tryz.prog 54 #[.pointer (some ⟨ga0,0,none⟩),iv a1,iv a2] H w0 ((some (ga0,.cells #[iv a0.Room,iv a0.Lease,.slice Aa0_2 na0_2 ca0_2,.slice Aa0_3 na0_3 ca0_3] 25 (0,0)))::cha0_2::cha0_3::F) (S54v2 F H ga0 r):=by
 refine Co C54v2 Tryz.func54 Tryz.ntmps54 ?_
 subst hna0_2
 subst hna0_3
 unfold cache_clear_2.f at heq
 refine Sa 1<|Zd 2<|Sa 1<|Zv 4 (bxs 0) ?_
 obtain ⟨y1,hy1,heq⟩:=bind_some heq
 refine RgH.does (cal 17 (cache_leaving_c hy1 (hoa0_2.rw (.tail _ (.head _))) hoa0_2.cap rfl (hoa0_3.rw (.tail _ (.tail _ (.head _)))) hoa0_3.cap rfl)) ?_
 rintro _ _ _ _ ⟨_,rfl,A1,c1,ch1,rfl,rfl,rfl,ho1⟩
 refine Zd 6<|Sa 1<|Zv 3 (bxs 1) ?_
 obtain ⟨y2,hy2,heq⟩:=bind_some heq
 refine RgH.does (cal 21 (cache_used_c hy2 (hoa0_2.rw (.tail _ (.tail _ (.head _)))) hoa0_2.cap rfl (hoa0_3.rw (.tail _ (.tail _ (.tail _ (.head _))))) hoa0_3.cap rfl)) ?_
 rintro _ _ _ _ ⟨_,rfl,rfl,rfl,rfl⟩
 refine Zd 7<|Sa 2<|Zk 2 ?_
 obtain ⟨y3,hy3,heq⟩:=bind_some heq
 refine RgH.does (cal 26 (cache_sumOf_c hy3 (ho1.rw (.head _)) ho1.cap rfl)) ?_
 rintro _ _ _ _ ⟨_,rfl,rfl,rfl,rfl⟩
 refine Zd 4 ?_
 refine Cb heq ?_ ?_
 ·intro hb1 heq
  refine Sa 1<|Zd 2<|RunH.nilc ?_
  have ho2:SlOwn Kd.string 9 H none 0 ([]:List ByteArray) none:=SlOwn.nil
  obtain rfl:=Option.some.inj heq
  refine Up 2 [0] ?_
  exact RunH.done (by kernel_rfl) Tryz.func54 (v:=.tuple #[.slice none 0 0,.bool false]) (by kernel_rfl) ⟨none,0,none,Aa0_2,ca0_2,cha0_2,Aa0_3,ca0_3,cha0_3,rfl,rfl,rfl,ho2,hoa0_2,hoa0_3⟩
 ·intro hb1 heq
  refine Sa 2<|Zd 1<|Sa 2<|Zd 3<|An 2<|RunH.nilc ?_
  have ho7:SlOwn Kd.string 9 H none 0 ([]:List ByteArray) none:=SlOwn.nil
  exact Gt 0 [] (((cache_clear_2.l2_c (e1:=cache_clear_2.e1) (cache_clear_2.e1_c)) big) _ a0 _ _ _ _ _ _ y1 _ _ _ (w64 (y2 - a1)) ([]:List ByteArray) _ _ _ _ 0 hoa0_2 hoa0_3 ho1 ho7 rfl heq)
end Go.Proofs.YtjdnnkdhajhdkaaGreatDoor
