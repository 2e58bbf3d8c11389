/- What the machine's calls of these functions come to: just what the plain functions say. Written by program. -/
import Derived.Test.YtkjilepjblffeaaDoorProg
import Derived.Test.YtkjilepjblffeaaDoorKitX
import Derived.Test.YtkjilepjblffeaaDoorUD
import Derived.Test.YtkjilepjblffeaaDoorShelf
set_option linter.unusedVariables false
set_option linter.unusedSimpArgs false
set_option maxRecDepth 100000
set_option maxHeartbeats 1000000
namespace Go.Proofs.YtkjilepjblffeaaDoor
open Go Go.RowKit Go.Proofs.YtkjilepjblffeaaDoor.Kit
def kBlob:Kd Blob:=Kd.iso ((Kd.pair Kd.string (Kd.pair (Kd.int .i64) (Kd.pair (Kd.int .i64) (Kd.pair (Kd.int .i64) (Kd.int .i64)))))) (fun x=>(x.Digest,x.Size,x.Used,x.Until,x.Pins))
theorem kBlob_open {H:Hp} {x:Blob} {c:List Value} (h:kBlob.K H x c):c=[.string x.Digest,iv x.Size,iv x.Used,iv x.Until,iv x.Pins]:=by
 obtain ⟨p0,q0,rfl,g0,h0⟩:=h
 obtain rfl:p0=[_]:=g0
 obtain ⟨p1,q1,rfl,g1,h1⟩:=h0
 obtain rfl:p1=[_]:=g1
 obtain ⟨p2,q2,rfl,g2,h2⟩:=h1
 obtain rfl:p2=[_]:=g2
 obtain ⟨p3,q3,rfl,g3,h3⟩:=h2
 obtain rfl:p3=[_]:=g3
 obtain rfl:q3=[_]:=h3
 rfl
theorem kBlob_mk {H:Hp} {x:Blob}:kBlob.K H x [.string x.Digest,iv x.Size,iv x.Used,iv x.Until,iv x.Pins]:=⟨[.string x.Digest],[iv x.Size,iv x.Used,iv x.Until,iv x.Pins],rfl,rfl,⟨[iv x.Size],[iv x.Used,iv x.Until,iv x.Pins],rfl,rfl,⟨[iv x.Used],[iv x.Until,iv x.Pins],rfl,rfl,⟨[iv x.Until],[iv x.Pins],rfl,rfl,rfl⟩⟩⟩⟩
def kEntry:Kd Entry:=Kd.iso ((Kd.pair Kd.string (Kd.pair (Kd.slice Kd.string) (Kd.int .i64)))) (fun x=>(x.Key,x.Refs,x.Used))
theorem kEntry_open {H:Hp} {x:Entry} {c:List Value} (h:kEntry.K H x c):∃ A1 c1,c=[.string x.Key,.slice A1 x.Refs.length c1,iv x.Used]∧x.Refs.length≤c1∧Kd.Row Kd.string H A1 x.Refs:=by
 obtain ⟨p0,q0,rfl,g0,h0⟩:=h
 obtain rfl:p0=[_]:=g0
 obtain ⟨p1,q1,rfl,g1,h1⟩:=h0
 obtain ⟨A1,c1,rfl,u1,v1⟩:=g1
 obtain rfl:q1=[_]:=h1
 exact ⟨A1,c1,rfl,u1,v1⟩
theorem kEntry_mk {H:Hp} {x:Entry} {A1:Option Addr} {c1:Nat} (u1:x.Refs.length≤c1) (v1:Kd.Row Kd.string H A1 x.Refs):kEntry.K H x [.string x.Key,.slice A1 x.Refs.length c1,iv x.Used]:=⟨[.string x.Key],[.slice A1 x.Refs.length c1,iv x.Used],rfl,rfl,⟨[.slice A1 x.Refs.length c1],[iv x.Used],rfl,⟨A1,c1,rfl,u1,v1⟩,rfl⟩⟩
def kCache:Kd Cache:=Kd.iso ((Kd.pair (Kd.int .i64) (Kd.pair (Kd.int .i64) (Kd.pair (Kd.slice kBlob) (Kd.slice kEntry))))) (fun x=>(x.Room,x.Lease,x.Blobs,x.Entries))
theorem kCache_open {H:Hp} {x:Cache} {c:List Value} (h:kCache.K H x c):∃ A2 c2,∃ A3 c3,c=[iv x.Room,iv x.Lease,.slice A2 x.Blobs.length c2,.slice A3 x.Entries.length c3]∧x.Blobs.length≤c2∧Kd.Row kBlob H A2 x.Blobs∧x.Entries.length≤c3∧Kd.Row kEntry H A3 x.Entries:=by
 obtain ⟨p0,q0,rfl,g0,h0⟩:=h
 obtain rfl:p0=[_]:=g0
 obtain ⟨p1,q1,rfl,g1,h1⟩:=h0
 obtain rfl:p1=[_]:=g1
 obtain ⟨p2,q2,rfl,g2,h2⟩:=h1
 obtain ⟨A2,c2,rfl,u2,v2⟩:=g2
 obtain ⟨A3,c3,rfl,u3,v3⟩:=h2
 exact ⟨A2,c2,A3,c3,rfl,u2,v2,u3,v3⟩
theorem kCache_mk {H:Hp} {x:Cache} {A2:Option Addr} {c2:Nat} {A3:Option Addr} {c3:Nat} (u2:x.Blobs.length≤c2) (v2:Kd.Row kBlob H A2 x.Blobs) (u3:x.Entries.length≤c3) (v3:Kd.Row kEntry H A3 x.Entries):kCache.K H x [iv x.Room,iv x.Lease,.slice A2 x.Blobs.length c2,.slice A3 x.Entries.length c3]:=⟨[iv x.Room],[iv x.Lease,.slice A2 x.Blobs.length c2,.slice A3 x.Entries.length c3],rfl,rfl,⟨[iv x.Lease],[.slice A2 x.Blobs.length c2,.slice A3 x.Entries.length c3],rfl,rfl,⟨[.slice A2 x.Blobs.length c2],[.slice A3 x.Entries.length c3],rfl,⟨A2,c2,rfl,u2,v2⟩,⟨A3,c3,rfl,u3,v3⟩⟩⟩⟩
def kCacheEvent:Kd CacheEvent:=Kd.iso ((Kd.pair (Kd.int .i64) (Kd.pair (Kd.int .i64) (Kd.pair Kd.string (Kd.pair (Kd.slice Kd.string) (Kd.pair Kd.string (Kd.int .i64))))))) (fun x=>(x.Kind,x.At,x.Digest,x.Digests,x.Key,x.Size))
theorem kCacheEvent_open {H:Hp} {x:CacheEvent} {c:List Value} (h:kCacheEvent.K H x c):∃ A3 c3,c=[iv x.Kind,iv x.At,.string x.Digest,.slice A3 x.Digests.length c3,.string x.Key,iv x.Size]∧x.Digests.length≤c3∧Kd.Row Kd.string H A3 x.Digests:=by
 obtain ⟨p0,q0,rfl,g0,h0⟩:=h
 obtain rfl:p0=[_]:=g0
 obtain ⟨p1,q1,rfl,g1,h1⟩:=h0
 obtain rfl:p1=[_]:=g1
 obtain ⟨p2,q2,rfl,g2,h2⟩:=h1
 obtain rfl:p2=[_]:=g2
 obtain ⟨p3,q3,rfl,g3,h3⟩:=h2
 obtain ⟨A3,c3,rfl,u3,v3⟩:=g3
 obtain ⟨p4,q4,rfl,g4,h4⟩:=h3
 obtain rfl:p4=[_]:=g4
 obtain rfl:q4=[_]:=h4
 exact ⟨A3,c3,rfl,u3,v3⟩
theorem kCacheEvent_mk {H:Hp} {x:CacheEvent} {A3:Option Addr} {c3:Nat} (u3:x.Digests.length≤c3) (v3:Kd.Row Kd.string H A3 x.Digests):kCacheEvent.K H x [iv x.Kind,iv x.At,.string x.Digest,.slice A3 x.Digests.length c3,.string x.Key,iv x.Size]:=⟨[iv x.Kind],[iv x.At,.string x.Digest,.slice A3 x.Digests.length c3,.string x.Key,iv x.Size],rfl,rfl,⟨[iv x.At],[.string x.Digest,.slice A3 x.Digests.length c3,.string x.Key,iv x.Size],rfl,rfl,⟨[.string x.Digest],[.slice A3 x.Digests.length c3,.string x.Key,iv x.Size],rfl,rfl,⟨[.slice A3 x.Digests.length c3],[.string x.Key,iv x.Size],rfl,⟨A3,c3,rfl,u3,v3⟩,⟨[.string x.Key],[iv x.Size],rfl,rfl,rfl⟩⟩⟩⟩⟩
def kCacheAnswer:Kd CacheAnswer:=Kd.iso ((Kd.pair Kd.bool (Kd.pair (Kd.slice Kd.string) (Kd.slice Kd.string)))) (fun x=>(x.Done,x.Missing,x.Gone))
theorem kCacheAnswer_open {H:Hp} {x:CacheAnswer} {c:List Value} (h:kCacheAnswer.K H x c):∃ A1 c1,∃ A2 c2,c=[.bool x.Done,.slice A1 x.Missing.length c1,.slice A2 x.Gone.length c2]∧x.Missing.length≤c1∧Kd.Row Kd.string H A1 x.Missing∧x.Gone.length≤c2∧Kd.Row Kd.string H A2 x.Gone:=by
 obtain ⟨p0,q0,rfl,g0,h0⟩:=h
 obtain rfl:p0=[_]:=g0
 obtain ⟨p1,q1,rfl,g1,h1⟩:=h0
 obtain ⟨A1,c1,rfl,u1,v1⟩:=g1
 obtain ⟨A2,c2,rfl,u2,v2⟩:=h1
 exact ⟨A1,c1,A2,c2,rfl,u1,v1,u2,v2⟩
theorem kCacheAnswer_mk {H:Hp} {x:CacheAnswer} {A1:Option Addr} {c1:Nat} {A2:Option Addr} {c2:Nat} (u1:x.Missing.length≤c1) (v1:Kd.Row Kd.string H A1 x.Missing) (u2:x.Gone.length≤c2) (v2:Kd.Row Kd.string H A2 x.Gone):kCacheAnswer.K H x [.bool x.Done,.slice A1 x.Missing.length c1,.slice A2 x.Gone.length c2]:=⟨[.bool x.Done],[.slice A1 x.Missing.length c1,.slice A2 x.Gone.length c2],rfl,rfl,⟨[.slice A1 x.Missing.length c1],[.slice A2 x.Gone.length c2],rfl,⟨A1,c1,rfl,u1,v1⟩,⟨A2,c2,rfl,u2,v2⟩⟩⟩
noncomputable def C55:Ctx:={ P:=Tryd.prog,f:=55,N:=8,c:=bodyOf Tryd.f55 }
def S55 (F:List Ch) (H0:Hp) (r:List Blob) (v:Value) (H:Hp) (cs:List Ch):Prop:=∃ (A0:Option Addr) (c0:Nat) (ch0:Ch),H0=H∧v=.slice A0 r.length c0∧ch0::F=cs∧SlOwn kBlob 47 H A0 c0 r ch0
theorem slices_Clone_Blob_c {w0:World} {H:Hp} {F:List Ch} {a0:List Blob} {Aa0:Option Addr} {na0 ca0:Nat} {r:List Blob} (hra0:Rw kBlob H F Aa0 a0) (hca0:na0≤ca0) (hna0:na0=a0.length) (heq:slices_Clone_Blob.f a0=some r):CallsH Tryd.prog 55 #[.slice Aa0 na0 ca0] H w0 F (S55 F H r):=by
 refine calls_of_runH (F:=C55) Tryd.func55 (by kernel_rfl) Tryd.ntmps55 (args:=[.slice Aa0 na0 ca0]) (by kernel_rfl) ?_
 subst hna0
 unfold slices_Clone_Blob.f at heq
 obtain ⟨hn,heq⟩:=guard?_some heq
 obtain rfl:=Option.some.inj heq
 refine Ra 1 [0] [.c [1]]<|Rd 1 [0] [(0,.slice Aa0 a0.length ca0)]<|Ra 2 [1,0,0] [.c [1,0,1],.c [1,1]] ?_
 cases Aa0 with
 | none =>
  have h0:a0=[]:=by
   cases a0 with
   | nil=>rfl
   | cons x xs=>obtain ⟨b,off,cs,e,fr,hA,_⟩:=hra0 (by simp); cases hA
  subst h0
  refine Rd 2 [4] [(4,.bool true)]<|Ct true rfl<|Ra 1 [1,0,1,0,0] [.c [1,0,1,0,1],.c [1,1]]<|Rd 1 [2] [(2,.slice none 0 0)]<|RunH.nilc ?_
  exact RunH.done (by kernel_rfl) Tryd.func55 (v:=.slice none ([]:List Blob).length 0) (by kernel_rfl) ⟨none,0,none,rfl,rfl,rfl,SlOwn.nil⟩
 | some ad =>
  refine Rd 2 [0,4] [(0,.slice (some ad) a0.length ca0),(4,.bool false)]<|Cf false rfl<|Ra 2 [1,1,0] [.c [1,1,1]] ?_
  refine RgH.does (DoesH.new (d:=5) (v:=fun g=>.slice (some ⟨g,0,none⟩) 0 0) (o:=fun g=>.cells #[] 47 (0,0)) (fun g=>by kernel_rfl)) ?_
  rintro _ _ _ _ ⟨g,rfl,rfl,rfl⟩
  have ho:SlOwn kBlob 47 H (some ⟨g,0,none⟩) 0 ([]:List Blob) (some (g,.cells #[] 47 (0,0))):=.inr ⟨g,0,#[],rfl,rfl,by simp,by simp [maxLen],by simp,Kd.Rep.nil⟩
  refine Rk 2 [5,6] [(5,.slice (some ⟨g,0,none⟩) 0 0),(6,.slice (some ad) a0.length ca0)] ?_
  refine RgH.does (DoesH.append (d:=7) (k:=0) (t:=22) (e:=47) (bytes:=48) (kd:=kBlob) (n:=0) (m:=a0.length) (xs:=([]:List Blob)) (ys:=a0) (A:=some ⟨g,0,none⟩) (B:=some ad) (c:=0) (cB:=ca0) (by kernel_rfl) rfl rfl (by kernel_rfl) rfl ho (fun w hh=>hra0.rdb (hh.drop 1)) (room_le hn) (by have:=room_le hn; omega)) ?_
  rintro _ _ _ _ ⟨A1,c1,ch1,rfl,rfl,rfl,ho1⟩
  refine Rd 4 [2] [(2,.slice A1 (([]:List Blob)++a0).length c1)] ?_
  exact RunH.done (by kernel_rfl) Tryd.func55 (v:=.slice A1 (([]:List Blob)++a0).length c1) (by kernel_rfl) ⟨A1,c1,ch1,rfl,rfl,rfl,ho1⟩
noncomputable def C42:Ctx:={ P:=Tryd.prog,f:=42,N:=8,c:=bodyOf Tryd.f42 }
def S42 (F:List Ch) (H0:Hp) (r:List ByteArray) (v:Value) (H:Hp) (cs:List Ch):Prop:=∃ (A0:Option Addr) (c0:Nat) (ch0:Ch),H0=H∧v=.slice A0 r.length c0∧ch0::F=cs∧SlOwn Kd.string 9 H A0 c0 r ch0
theorem slices_Clone_string_c {w0:World} {H:Hp} {F:List Ch} {a0:List ByteArray} {Aa0:Option Addr} {na0 ca0:Nat} {r:List ByteArray} (hra0:Rw Kd.string H F Aa0 a0) (hca0:na0≤ca0) (hna0:na0=a0.length) (heq:slices_Clone_string.f a0=some r):CallsH Tryd.prog 42 #[.slice Aa0 na0 ca0] H w0 F (S42 F H r):=by
 refine calls_of_runH (F:=C42) Tryd.func42 (by kernel_rfl) Tryd.ntmps42 (args:=[.slice Aa0 na0 ca0]) (by kernel_rfl) ?_
 subst hna0
 unfold slices_Clone_string.f at heq
 obtain ⟨hn,heq⟩:=guard?_some heq
 obtain rfl:=Option.some.inj heq
 refine Ra 1 [0] [.c [1]]<|Rd 1 [0] [(0,.slice Aa0 a0.length ca0)]<|Ra 2 [1,0,0] [.c [1,0,1],.c [1,1]] ?_
 cases Aa0 with
 | none =>
  have h0:a0=[]:=by
   cases a0 with
   | nil=>rfl
   | cons x xs=>obtain ⟨b,off,cs,e,fr,hA,_⟩:=hra0 (by simp); cases hA
  subst h0
  refine Rd 2 [4] [(4,.bool true)]<|Ct true rfl<|Ra 1 [1,0,1,0,0] [.c [1,0,1,0,1],.c [1,1]]<|Rd 1 [2] [(2,.slice none 0 0)]<|RunH.nilc ?_
  exact RunH.done (by kernel_rfl) Tryd.func42 (v:=.slice none ([]:List ByteArray).length 0) (by kernel_rfl) ⟨none,0,none,rfl,rfl,rfl,SlOwn.nil⟩
 | some ad =>
  refine Rd 2 [0,4] [(0,.slice (some ad) a0.length ca0),(4,.bool false)]<|Cf false rfl<|Ra 2 [1,1,0] [.c [1,1,1]] ?_
  refine RgH.does (DoesH.new (d:=5) (v:=fun g=>.slice (some ⟨g,0,none⟩) 0 0) (o:=fun g=>.cells #[] 9 (0,0)) (fun g=>by kernel_rfl)) ?_
  rintro _ _ _ _ ⟨g,rfl,rfl,rfl⟩
  have ho:SlOwn Kd.string 9 H (some ⟨g,0,none⟩) 0 ([]:List ByteArray) (some (g,.cells #[] 9 (0,0))):=.inr ⟨g,0,#[],rfl,rfl,by simp,by simp [maxLen],by simp,Kd.Rep.nil⟩
  refine Rk 2 [5,6] [(5,.slice (some ⟨g,0,none⟩) 0 0),(6,.slice (some ad) a0.length ca0)] ?_
  refine RgH.does (DoesH.append (d:=7) (k:=0) (t:=34) (e:=9) (bytes:=16) (kd:=Kd.string) (n:=0) (m:=a0.length) (xs:=([]:List ByteArray)) (ys:=a0) (A:=some ⟨g,0,none⟩) (B:=some ad) (c:=0) (cB:=ca0) (by kernel_rfl) rfl rfl (by kernel_rfl) rfl ho (fun w hh=>hra0.rdb (hh.drop 1)) (room_le hn) (by have:=room_le hn; omega)) ?_
  rintro _ _ _ _ ⟨A1,c1,ch1,rfl,rfl,rfl,ho1⟩
  refine Rd 4 [2] [(2,.slice A1 (([]:List ByteArray)++a0).length c1)] ?_
  exact RunH.done (by kernel_rfl) Tryd.func42 (v:=.slice A1 (([]:List ByteArray)++a0).length c1) (by kernel_rfl) ⟨A1,c1,ch1,rfl,rfl,rfl,ho1⟩
noncomputable def C57:Ctx:={ P:=Tryd.prog,f:=57,N:=15,c:=bodyOf Tryd.f57 }
def S57 (F:List Ch) (H0:Hp) (r:Bool) (v:Value) (H:Hp) (cs:List Ch):Prop:=H0=H∧v=.bool r∧F=cs
theorem cache_within_c {w0:World} {H:Hp} {F:List Ch} {a0:Int} {a1:Int} {a2:Int} {r:Bool} (heq:cache_within.f a0 a1 a2=some r):CallsH Tryd.prog 57 #[iv a0,iv a1,iv a2] H w0 (F) (S57 F H r):=by
 refine calls_of_runH (F:=C57) Tryd.func57 (by kernel_rfl) Tryd.ntmps57 (args:=[iv a0,iv a1,iv a2]) (by kernel_rfl) ?_
 unfold cache_within.f at heq
 refine Ra 1 [0] [.c [1]]<|Rd 1 [0,1,2] [(0,iv a0),(1,iv a1),(2,iv a2)]<|Ad 1 [.c [1,0],.c [1,1]] ?_
 obtain ⟨t1,ht1,heq⟩:=bind_some heq
 have K1:RunH C57 (S57 F H r) H w0 [.c [1,1]] [(6,.bool t1)] H (F):=by
  obtain rfl:=Option.some.inj heq
  exact RunH.done (by kernel_rfl) Tryd.func57 (v:=.bool t1) (by kernel_rfl) ⟨rfl,rfl,rfl⟩
 replace heq:=ht1
 refine Rr<|Rk 4 [10,0,2] [(10,.bool (decide (a1≤a0))),(0,iv a0),(2,iv a2)] ?_
 rcases bool_cases (decide (a1≤a0)) with hb1 | hb1
 ·replace heq:=bif_true hb1 heq
  refine RgH.val1 (v':=.bool true) (congrArg Value.bool hb1) ?_
  refine Rk 9 [6] [(6,.bool (decide (a0≤a2)))] ?_
  obtain rfl:=Option.some.inj heq
  refine Kg [6] [(6,.bool (decide (a0≤a2)))]<|Dn ?_
  exact K1
 ·replace heq:=bif_false hb1 heq
  refine RgH.val1 (v':=.bool false) (congrArg Value.bool hb1) ?_
  refine Rk 9 [6] [(6,.bool false)] ?_
  obtain rfl:=Option.some.inj heq
  refine Kg [6] [(6,.bool false)]<|Dn ?_
  exact K1
def S106 (F:List Ch) (H0:Hp) (r:ByteArray) (v:Value) (H:Hp) (cs:List Ch):Prop:=H0=H∧v=.string r∧F=cs
theorem strings_Trim_c {w0:World} {H:Hp} {F:List Ch} {a0:ByteArray} {a1:ByteArray} {r:ByteArray} (heq:strings_Trim.f a0 a1=some r):CallsH Tryd.prog 106 #[.string a0,.string a1] H w0 F (S106 F H r):=by
 intro w hh
 unfold strings_Trim.f at heq
 obtain ⟨hn,heq⟩:=guard?_some heq
 obtain rfl:=Option.some.inj heq
 refine (Shelf.Tryd.strings_Trim a0 a1 w (by simp at hn; exact hn.1) (by simp at hn; exact hn.2.1) (by have h:=hn; rw [Bool.and_eq_true,Bool.and_eq_true] at h; exact ascii_of_all h.2.2)).mono ?_
 rintro e w' ⟨rfl,hx⟩
 exact ⟨_,rfl,H,F,Le.refl H,hh.later hx,rfl,rfl,rfl⟩
noncomputable def C59:Ctx:={ P:=Tryd.prog,f:=59,N:=11,c:=bodyOf Tryd.f59 }
def S59 (F:List Ch) (H0:Hp) (r:Bool) (v:Value) (H:Hp) (cs:List Ch):Prop:=H0=H∧v=.bool r∧F=cs
theorem blob_IsDigest_c {w0:World} {H:Hp} {F:List Ch} {a0:ByteArray} {r:Bool} (heq:blob_IsDigest.f a0=some r):CallsH Tryd.prog 59 #[.string a0] H w0 (F) (S59 F H r):=by
 refine calls_of_runH (F:=C59) Tryd.func59 (by kernel_rfl) Tryd.ntmps59 (args:=[.string a0]) (by kernel_rfl) ?_
 unfold blob_IsDigest.f at heq
 refine Ra 1 [0] [.c [1]]<|Rd 1 [0] [(0,.string a0)]<|Ad 1 [.c [1,0],.c [1,1]] ?_
 obtain ⟨t1,ht1,heq⟩:=bind_some heq
 have K1:RunH C59 (S59 F H r) H w0 [.c [1,1]] [(2,.bool t1)] H (F):=by
  obtain rfl:=Option.some.inj heq
  exact RunH.done (by kernel_rfl) Tryd.func59 (v:=.bool t1) (by kernel_rfl) ⟨rfl,rfl,rfl⟩
 replace heq:=ht1
 refine Rr<|Rk 4 [6,0] [(6,.bool ((a0.size:Int) == 16)),(0,.string a0)] ?_
 rcases bool_cases ((a0.size:Int) == 16) with hb1 | hb1
 ·replace heq:=bif_true hb1 heq
  refine RgH.val1 (v':=.bool true) (congrArg Value.bool hb1) ?_
  refine Rk 5 [6,7] [(6,.bool true),(7,.string a0)] ?_
  obtain ⟨y1,hy1,heq⟩:=bind_some heq
  refine RgH.does (DoesH.call (d:=8) (g:=106) (args:=#[.string a0,.string ({ data:=#[48,49,50,51,52,53,54,55,56,57,97,98,99,100,101,102] }:ByteArray)]) (by kernel_rfl) (strings_Trim_c (a0:=a0) (a1:=({ data:=#[48,49,50,51,52,53,54,55,56,57,97,98,99,100,101,102] }:ByteArray))  hy1)) ?_
  rintro _ _ _ _ ⟨_,rfl,rfl,rfl,rfl⟩
  refine Rk 9 [2] [(2,.bool (sEq y1 ({ data:=#[] }:ByteArray)))] ?_
  obtain rfl:=Option.some.inj heq
  refine Kg [2] [(2,.bool (sEq y1 ({ data:=#[] }:ByteArray)))]<|Dn ?_
  exact K1
 ·replace heq:=bif_false hb1 heq
  refine RgH.val1 (v':=.bool false) (congrArg Value.bool hb1) ?_
  refine Rk 9 [2] [(2,.bool false)] ?_
  obtain rfl:=Option.some.inj heq
  refine Kg [2] [(2,.bool false)]<|Dn ?_
  exact K1
noncomputable def C61:Ctx:={ P:=Tryd.prog,f:=61,N:=5,c:=bodyOf Tryd.f61 }
def S61 (F:List Ch) (H0:Hp) (r:Bool) (v:Value) (H:Hp) (cs:List Ch):Prop:=H0=H∧v=.bool r∧F=cs
theorem cache_isMoment_c {w0:World} {H:Hp} {F:List Ch} {a0:Int} {r:Bool} (heq:cache_isMoment.f a0=some r):CallsH Tryd.prog 61 #[iv a0] H w0 (F) (S61 F H r):=by
 refine calls_of_runH (F:=C61) Tryd.func61 (by kernel_rfl) Tryd.ntmps61 (args:=[iv a0]) (by kernel_rfl) ?_
 unfold cache_isMoment.f at heq
 refine Ra 1 [0] [.c [1]]<|Rd 1 [0] [(0,iv a0)]<|Ra 1 [1,0] [.c [1,1]]<|Rk 1 [3] [(3,iv a0)] ?_
 obtain ⟨y1,hy1,heq⟩:=bind_some heq
 refine RgH.does (DoesH.call (d:=4) (g:=57) (args:=#[iv a0,iv 0,iv 1000000000]) (by kernel_rfl) (cache_within_c (a0:=a0) (a1:=0) (a2:=1000000000)  hy1)) ?_
 rintro _ _ _ _ ⟨_,rfl,rfl,rfl,rfl⟩
 refine Rd 3 [2] [(2,.bool y1)] ?_
 obtain rfl:=Option.some.inj heq
 exact RunH.done (by kernel_rfl) Tryd.func61 (v:=.bool y1) (by kernel_rfl) ⟨rfl,rfl,rfl⟩
noncomputable def C58:Ctx:={ P:=Tryd.prog,f:=58,N:=68,c:=bodyOf Tryd.f58 }
def S58 (F:List Ch) (H0:Hp) (r:Int) (v:Value) (H:Hp) (cs:List Ch):Prop:=H0=H∧v=iv r∧F=cs
theorem cache_checkBlobs.e1_c {w0:World} {H:Hp} {F:List Ch} {r:Int}:∀ (a1:Int) (v_sum5:Int) ,cache_checkBlobs.e1 a1 v_sum5=some r→RunH C58 (S58 F H r) H w0 [.c [1,1,1,1,0,0],.c [1,1,1,1,0,1],.c [1,1,1,1,1]] [(1,iv a1),(5,iv v_sum5)] H (F):=by
 intro a1 v_sum5  heq
 unfold cache_checkBlobs.e1 at heq
 refine Rr<|Rd 3 [67] [(67,.bool (decide (a1<v_sum5)))] ?_
 rcases bool_cases (decide (a1<v_sum5)) with hb2 | hb2
 ·replace heq:=bif_true hb2 heq
  refine Ct (decide (a1<v_sum5)) hb2<|Ra 1 [1,1,1,1,0,1,0,0] [.c [1,1,1,1,0,1,0,1],.c [1,1,1,1,1]]<|Rd 1 [4] [(4,iv 16)] ?_
  obtain rfl:=Option.some.inj heq
  exact RunH.done (by kernel_rfl) Tryd.func58 (v:=iv 16) (by kernel_rfl) ⟨rfl,rfl,rfl⟩
 ·replace heq:=bif_false hb2 heq
  refine Cf (decide (a1<v_sum5)) hb2<|Ra 2 [1,1,1,1,1,0] [.c [1,1,1,1,1,1]]<|Rd 1 [4] [(4,iv 0)] ?_
  obtain rfl:=Option.some.inj heq
  exact RunH.done (by kernel_rfl) Tryd.func58 (v:=iv 0) (by kernel_rfl) ⟨rfl,rfl,rfl⟩
theorem cache_checkBlobs.l2_c {w0:World} {H:Hp} {F:List Ch} {r:Int} (e1:Int→Int→Option Int)
  (he1:∀ (a1:Int) (v_sum5:Int) ,e1 a1 v_sum5=some r→RunH C58 (S58 F H r) H w0 [.c [1,1,1,1,0,0],.c [1,1,1,1,0,1],.c [1,1,1,1,1]] [(1,iv a1),(5,iv v_sum5)] H (F)):∀ (k:Nat),∀ (a0:List Blob) (Aa0:Option Addr) (ca0:Nat) (a1:Int) (v_sum5:Int) (v13:Int) ,Rw kBlob H F Aa0 a0→a0.length≤ca0→cache_checkBlobs.l2 e1 k a0 a1 v_sum5 v13=some r→RunH C58 (S58 F H r) H w0 [.c [1,1,1,0,1,0,0],.l [1,1,1,0,1,0,0],.b 0,.c [1,1,1,1]] [(0,.slice Aa0 a0.length ca0),(1,iv a1),(5,iv v_sum5),(11,.slice Aa0 a0.length ca0),(12,iv (a0.length:Int)),(13,iv v13)] H (F):=by
 intro k
 induction k with
 | zero=>intro a0 Aa0 ca0 a1 v_sum5 v13 hra0 hca0 heq; exact nomatch (show (none:Option Int)=some r from heq)
 | succ k ihk =>
  intro a0 Aa0 ca0 a1 v_sum5 v13 hra0 hca0 heq
  rw [cache_checkBlobs.l2] at heq
  refine Ra 1 [1,1,1,0,1,0,0,0] [.c [1,1,1,0,1,0,0,1],.l [1,1,1,0,1,0,0],.b 0,.c [1,1,1,1]]<|Rd 1 [0,1,5,11,12,13,14] [(0,.slice Aa0 a0.length ca0),(1,iv a1),(5,iv v_sum5),(11,.slice Aa0 a0.length ca0),(12,iv (a0.length:Int)),(13,iv v13),(14,.bool (decide (v13<(a0.length:Int))))]<|Ad 1 [.c [1,1,1,0,1,0,0,1,0],.c [1,1,1,0,1,0,0,1,1],.l [1,1,1,0,1,0,0],.b 0,.c [1,1,1,1]] ?_
  rcases bool_cases (decide (v13<(a0.length:Int))) with hb3 | hb3
  ·replace heq:=bif_true hb3 heq
   refine Ct (decide (v13<(a0.length:Int))) hb3<|Ra 4 [1,1,1,0,1,0,0,1,1,0,0,0] [.c [1,1,1,0,1,0,0,1,1,0,0,1],.b 1,.c [1,1,1,0,1,0,0,1,1,1],.l [1,1,1,0,1,0,0],.b 0,.c [1,1,1,1]] ?_
   obtain ⟨x1,hx1,heq⟩:=bind_some heq
   obtain ⟨ha1,cs1,hK1,hcc1⟩:=hra0.get hx1
   obtain ⟨rfl⟩:=kBlob_open hK1
   refine Rv 3 [0,1,5,11,12,13,15,17] [.string x1.Digest,iv x1.Size,iv x1.Used,iv x1.Until,iv x1.Pins] [.need (Aa0=some (adr Aa0)∧(0:Int)≤v13∧v13<((a0.length:Nat):Int)),.load (((adr Aa0).add (v13.toNat*5)).add 0) (.string x1.Digest),.load (((adr Aa0).add (v13.toNat*5)).add 1) (iv x1.Size),.load (((adr Aa0).add (v13.toNat*5)).add 2) (iv x1.Used),.load (((adr Aa0).add (v13.toNat*5)).add 3) (iv x1.Until),.load (((adr Aa0).add (v13.toNat*5)).add 4) (iv x1.Pins)] [(0,.slice Aa0 a0.length ca0),(1,iv a1),(5,iv v_sum5),(11,.slice Aa0 a0.length ca0),(12,iv (a0.length:Int)),(13,iv v13),(15,iv v13),(17,.agg #[.string x1.Digest,iv x1.Size,iv x1.Used,iv x1.Until,iv x1.Pins])] (fun w hh=>⟨⟨ha1,(at?_some hx1).1,(at?_some hx1).2.1⟩,(hcc1 _ _ (hh.drop 0) 0 _ rfl),(hcc1 _ _ (hh.drop 0) 1 _ rfl),(hcc1 _ _ (hh.drop 0) 2 _ rfl),(hcc1 _ _ (hh.drop 0) 3 _ rfl),(hcc1 _ _ (hh.drop 0) 4 _ rfl)⟩) ?_
   refine RgH.does (DoesH.new (d:=7) (v:=fun g=>.pointer (some ⟨g,0,none⟩)) (o:=fun g=>.cells #[.string ByteArray.empty,iv 0,iv 0,iv 0,iv 0] 47 (0,0)) (fun g=>by kernel_rfl)) ?_
   rintro _ _ _ _ ⟨g1,rfl,rfl,rfl⟩
   refine Rk 5 [0,1,5,6,7,11,12,13,17] [(0,.slice Aa0 a0.length ca0),(1,iv a1),(5,iv v_sum5),(6,iv v13),(7,pg g1 0),(11,.slice Aa0 a0.length ca0),(12,iv (a0.length:Int)),(13,iv v13),(17,.agg #[.string x1.Digest,iv x1.Size,iv x1.Used,iv x1.Until,iv x1.Pins])] ?_
   refine RgH.does (DoesH.store (k:=0) (g:=g1) (off:=0) (v:=.agg #[.string x1.Digest,iv x1.Size,iv x1.Used,iv x1.Until,iv x1.Pins]) (cells':=#[.string x1.Digest,iv x1.Size,iv x1.Used,iv x1.Until,iv x1.Pins]) (by kernel_rfl) rfl (by kernel_rfl) (by kernel_rfl)) ?_
   rintro _ _ _ _ ⟨rfl,rfl,rfl⟩
   refine Dn<|Ra 3 [1,1,1,0,1,0,0,1,1,0,0,1,0,0,0] [.c [1,1,1,0,1,0,0,1,1,0,0,1,0,0,1],.b 2,.c [1,1,1,0,1,0,0,1,1,0,0,1,1],.b 1,.c [1,1,1,0,1,0,0,1,1,1],.l [1,1,1,0,1,0,0],.b 0,.c [1,1,1,1]]<|Rv 2 [0,1,5,6,7,11,12,13,20] [.string x1.Digest] [.load ⟨g1,0,none⟩ (.string x1.Digest)] [(0,.slice Aa0 a0.length ca0),(1,iv a1),(5,iv v_sum5),(6,iv v13),(7,pg g1 0),(11,.slice Aa0 a0.length ca0),(12,iv (a0.length:Int)),(13,iv v13),(20,.string x1.Digest)] (fun w hh=>(hh.box 0 rfl rfl)) ?_
   obtain ⟨y1,hy1,heq⟩:=bind_some heq
   refine RgH.does (DoesH.call (d:=21) (g:=59) (args:=#[.string x1.Digest]) (by kernel_rfl) (blob_IsDigest_c (a0:=x1.Digest)  hy1)) ?_
   rintro _ _ _ _ ⟨_,rfl,rfl,rfl,rfl⟩
   refine Rd 5 [0,1,5,6,7,11,12,13,18] [(0,.slice Aa0 a0.length ca0),(1,iv a1),(5,iv v_sum5),(6,iv v13),(7,pg g1 0),(11,.slice Aa0 a0.length ca0),(12,iv (a0.length:Int)),(13,iv v13),(18,.bool (!y1))] ?_
   rcases bool_cases (!y1) with hb4 | hb4
   ·replace heq:=bif_true hb4 heq
    refine Ct (!y1) hb4<|Ra 1 [1,1,1,0,1,0,0,1,1,0,0,1,0,0,1,0,0] [.c [1,1,1,0,1,0,0,1,1,0,0,1,0,0,1,0,1],.b 2,.c [1,1,1,0,1,0,0,1,1,0,0,1,1],.b 1,.c [1,1,1,0,1,0,0,1,1,1],.l [1,1,1,0,1,0,0],.b 0,.c [1,1,1,1]]<|Rd 1 [4] [(4,iv 3)] ?_
    obtain rfl:=Option.some.inj heq
    refine RunH.pick 1 [] (cs':=F) (by kernel_rfl) rfl ?_
    exact RunH.done (by kernel_rfl) Tryd.func58 (v:=iv 3) (by kernel_rfl) ⟨rfl,rfl,rfl⟩
   ·replace heq:=bif_false hb4 heq
    refine Cf (!y1) hb4<|Ad 1 [.c [1,1,1,0,1,0,0,1,1,0,0,1,0,0,1,1,0],.c [1,1,1,0,1,0,0,1,1,0,0,1,0,0,1,1,1],.b 2,.c [1,1,1,0,1,0,0,1,1,0,0,1,1],.b 1,.c [1,1,1,0,1,0,0,1,1,1],.l [1,1,1,0,1,0,0],.b 0,.c [1,1,1,1]] ?_
    obtain ⟨t1,ht1,heq⟩:=bind_some heq
    have K2:RunH C58 (S58 F H r) H w0 [.c [1,1,1,0,1,0,0,1,1,0,0,1,0,0,1,1,1],.b 2,.c [1,1,1,0,1,0,0,1,1,0,0,1,1],.b 1,.c [1,1,1,0,1,0,0,1,1,1],.l [1,1,1,0,1,0,0],.b 0,.c [1,1,1,1]] [(0,.slice Aa0 a0.length ca0),(1,iv a1),(5,iv v_sum5),(6,iv v13),(7,pg g1 0),(11,.slice Aa0 a0.length ca0),(12,iv (a0.length:Int)),(13,iv v13),(23,.bool t1)] H ((some (g1,.cells #[.string x1.Digest,iv x1.Size,iv x1.Used,iv x1.Until,iv x1.Pins] 47 (0,0)))::F):=by
     rcases bool_cases (t1) with hb8 | hb8
     ·replace heq:=bif_true hb8 heq
      refine Ct t1 hb8<|Ra 1 [1,1,1,0,1,0,0,1,1,0,0,1,0,0,1,1,1,0,0] [.c [1,1,1,0,1,0,0,1,1,0,0,1,0,0,1,1,1,0,1],.b 2,.c [1,1,1,0,1,0,0,1,1,0,0,1,1],.b 1,.c [1,1,1,0,1,0,0,1,1,1],.l [1,1,1,0,1,0,0],.b 0,.c [1,1,1,1]]<|Rd 1 [4] [(4,iv 1)] ?_
      obtain rfl:=Option.some.inj heq
      refine RunH.pick 1 [] (cs':=F) (by kernel_rfl) rfl ?_
      exact RunH.done (by kernel_rfl) Tryd.func58 (v:=iv 1) (by kernel_rfl) ⟨rfl,rfl,rfl⟩
     ·replace heq:=bif_false hb8 heq
      refine Cf t1 hb8<|Ad 1 [.c [1,1,1,0,1,0,0,1,1,0,0,1,0,0,1,1,1,1,0],.c [1,1,1,0,1,0,0,1,1,0,0,1,0,0,1,1,1,1,1],.b 2,.c [1,1,1,0,1,0,0,1,1,0,0,1,1],.b 1,.c [1,1,1,0,1,0,0,1,1,1],.l [1,1,1,0,1,0,0],.b 0,.c [1,1,1,1]] ?_
      obtain ⟨t2,ht2,heq⟩:=bind_some heq
      have K3:RunH C58 (S58 F H r) H w0 [.c [1,1,1,0,1,0,0,1,1,0,0,1,0,0,1,1,1,1,1],.b 2,.c [1,1,1,0,1,0,0,1,1,0,0,1,1],.b 1,.c [1,1,1,0,1,0,0,1,1,1],.l [1,1,1,0,1,0,0],.b 0,.c [1,1,1,1]] [(0,.slice Aa0 a0.length ca0),(1,iv a1),(5,iv v_sum5),(7,pg g1 0),(11,.slice Aa0 a0.length ca0),(12,iv (a0.length:Int)),(13,iv v13),(46,.bool t2)] H ((some (g1,.cells #[.string x1.Digest,iv x1.Size,iv x1.Used,iv x1.Until,iv x1.Pins] 47 (0,0)))::F):=by
       rcases bool_cases (t2) with hb10 | hb10
       ·replace heq:=bif_true hb10 heq
        refine Ct t2 hb10<|Ra 1 [1,1,1,0,1,0,0,1,1,0,0,1,0,0,1,1,1,1,1,0,0] [.c [1,1,1,0,1,0,0,1,1,0,0,1,0,0,1,1,1,1,1,0,1],.b 2,.c [1,1,1,0,1,0,0,1,1,0,0,1,1],.b 1,.c [1,1,1,0,1,0,0,1,1,1],.l [1,1,1,0,1,0,0],.b 0,.c [1,1,1,1]]<|Rd 1 [4] [(4,iv 8)] ?_
        obtain rfl:=Option.some.inj heq
        refine RunH.pick 1 [] (cs':=F) (by kernel_rfl) rfl ?_
        exact RunH.done (by kernel_rfl) Tryd.func58 (v:=iv 8) (by kernel_rfl) ⟨rfl,rfl,rfl⟩
       ·replace heq:=bif_false hb10 heq
        refine Cf t2 hb10<|Ra 2 [1,1,1,0,1,0,0,1,1,0,0,1,1] [.b 1,.c [1,1,1,0,1,0,0,1,1,1],.l [1,1,1,0,1,0,0],.b 0,.c [1,1,1,1]]<|Rw' 5 [0,1,5,11,12,13] [iv x1.Size] [.load ⟨g1,1,none⟩ (iv x1.Size)] [(0,.slice Aa0 a0.length ca0),(1,iv a1),(5,iv (w64 (v_sum5+x1.Size))),(11,.slice Aa0 a0.length ca0),(12,iv (a0.length:Int)),(13,iv v13)] (fun w hh=>(hh.box 0 rfl rfl))<|Ra 1 [1,1,1,0,1,0,0,1,1,1] [.l [1,1,1,0,1,0,0],.b 0,.c [1,1,1,1]]<|Rd 2 [0,1,5,11,12,13] [(0,.slice Aa0 a0.length ca0),(1,iv a1),(5,iv (w64 (v_sum5+x1.Size))),(11,.slice Aa0 a0.length ca0),(12,iv (a0.length:Int)),(13,iv (w64 (v13+1)))]<|Ad 1 [.c [1,1,1,0,1,0,0],.l [1,1,1,0,1,0,0],.b 0,.c [1,1,1,1]]<|Kp [0,1,5,11,12,13] [(0,.slice Aa0 a0.length ca0),(1,iv a1),(5,iv (w64 (v_sum5+x1.Size))),(11,.slice Aa0 a0.length ca0),(12,iv (a0.length:Int)),(13,iv (w64 (v13+1)))] ?_
        refine RunH.pick 1 [] (cs':=F) (by kernel_rfl) rfl ?_
        exact ihk a0 _ _ a1 (w64 (v_sum5+x1.Size)) (w64 (v13+1)) hra0 hca0 heq
      replace heq:=ht2
      refine Kp [0,1,5,6,7,11,12,13] [(0,.slice Aa0 a0.length ca0),(1,iv a1),(5,iv v_sum5),(6,iv v13),(7,pg g1 0),(11,.slice Aa0 a0.length ca0),(12,iv (a0.length:Int)),(13,iv v13)] ?_
      refine RunH.draw (fun w=>Heap H w0 w ((some (g1,.cells #[.string x1.Digest,iv x1.Size,iv x1.Used,iv x1.Until,iv x1.Pins] 47 (0,0)))::F)) (fun w=>Heap H w0 w ((some (g1,.cells #[.string x1.Digest,iv x1.Size,iv x1.Used,iv x1.Until,iv x1.Pins] 47 (0,0)))::F)) [3,3,3,3,3,3,3,3,3,3,3,3,3,3] (n:=14) (ls:=[false,false,false,false,false,false,false,false,false,false,false,false,false,false]) (by kernel_rfl) (by kernel_rfl) (by kernel_rfl) rfl ?_
      refine Dk [0,1,2] 11 (nb 14 7) [] [] [49,0,1,5,6,7,11,12,13] [(49,.bool (decide (0<v13))),(0,.slice Aa0 a0.length ca0),(1,iv a1),(5,iv v_sum5),(6,iv v13),(7,pg g1 0),(11,.slice Aa0 a0.length ca0),(12,iv (a0.length:Int)),(13,iv v13)] (Pk 1 [0]) (Pk 1 [0]) (fun _ _=>trivial) ?_
      rcases bool_cases (decide (0<v13)) with hb9 | hb9
      ·replace heq:=bif_true hb9 heq
       refine DrH.val1 (v':=.bool true) (congrArg Value.bool hb9) ?_
       obtain ⟨x2,hx2,heq⟩:=bind_some heq
       obtain ⟨ha2,cs2,hK2,hcc2⟩:=hra0.get hx2
       obtain ⟨rfl⟩:=kBlob_open hK2
       refine Dk [3,4,5,6,7,8,9,10,11,12,13] 0 (nb 14 16383) [.string x1.Digest,.string x2.Digest] [.load ⟨g1,0,none⟩ (.string x1.Digest),.need (Aa0=some (adr Aa0)∧(0:Int)≤(w64 (v13 - 1))∧(w64 (v13 - 1))<((a0.length:Nat):Int)),.load (((adr Aa0).add ((w64 (v13 - 1)).toNat*5)).add 0) (.string x2.Digest)] [0,1,5,7,11,12,13,46] [(0,.slice Aa0 a0.length ca0),(1,iv a1),(5,iv v_sum5),(7,pg g1 0),(11,.slice Aa0 a0.length ca0),(12,iv (a0.length:Int)),(13,iv v13),(46,.bool (sLt x1.Digest x2.Digest||sEq x1.Digest x2.Digest))] (Pk 1 [0]) (Pk 1 [0]) (fun w hh=>⟨(hh.box 0 rfl rfl),⟨ha2,(at?_some hx2).1,(at?_some hx2).2.1⟩,(hcc2 _ _ (hh.drop 1) 0 _ rfl)⟩) ?_
       obtain rfl:=Option.some.inj heq
       refine Kr [0,1,5,7,11,12,13,46] [(0,.slice Aa0 a0.length ca0),(1,iv a1),(5,iv v_sum5),(7,pg g1 0),(11,.slice Aa0 a0.length ca0),(12,iv (a0.length:Int)),(13,iv v13),(46,.bool (sLt x1.Digest x2.Digest||sEq x1.Digest x2.Digest))] ?_
       refine DrH.done (by kernel_rfl) ?_
       exact K3
      ·replace heq:=bif_false hb9 heq
       refine DrH.val1 (v':=.bool false) (congrArg Value.bool hb9) ?_
       refine Dk [3,4,5,6,7,8,9,10,11,12,13] 0 (nb 14 16383) [] [] [0,1,5,7,11,12,13,46] [(0,.slice Aa0 a0.length ca0),(1,iv a1),(5,iv v_sum5),(7,pg g1 0),(11,.slice Aa0 a0.length ca0),(12,iv (a0.length:Int)),(13,iv v13),(46,.bool false)] (Pk 1 [0]) (Pk 1 [0]) (fun _ _=>trivial) ?_
       obtain rfl:=Option.some.inj heq
       refine Kr [0,1,5,7,11,12,13,46] [(0,.slice Aa0 a0.length ca0),(1,iv a1),(5,iv v_sum5),(7,pg g1 0),(11,.slice Aa0 a0.length ca0),(12,iv (a0.length:Int)),(13,iv v13),(46,.bool false)] ?_
       refine DrH.done (by kernel_rfl) ?_
       exact K3
    replace heq:=ht1
    refine Rr<|Rv 2 [0,1,5,6,7,11,12,13,25] [iv x1.Size] [.load ⟨g1,1,none⟩ (iv x1.Size)] [(0,.slice Aa0 a0.length ca0),(1,iv a1),(5,iv v_sum5),(6,iv v13),(7,pg g1 0),(11,.slice Aa0 a0.length ca0),(12,iv (a0.length:Int)),(13,iv v13),(25,iv x1.Size)] (fun w hh=>(hh.box 0 rfl rfl)) ?_
    obtain ⟨y2,hy2,heq⟩:=bind_some heq
    refine RgH.does (DoesH.call (d:=26) (g:=57) (args:=#[iv x1.Size,iv 0,iv 100000000]) (by kernel_rfl) (cache_within_c (a0:=x1.Size) (a1:=0) (a2:=100000000)  hy2)) ?_
    rintro _ _ _ _ ⟨_,rfl,rfl,rfl,rfl⟩
    refine Rk 5 [28,0,1,5,6,7,11,12,13] [(28,.bool (!y2)),(0,.slice Aa0 a0.length ca0),(1,iv a1),(5,iv v_sum5),(6,iv v13),(7,pg g1 0),(11,.slice Aa0 a0.length ca0),(12,iv (a0.length:Int)),(13,iv v13)] ?_
    rcases bool_cases (!y2) with hb5 | hb5
    ·replace heq:=bif_true hb5 heq
     refine RgH.val1 (v':=.bool true) (congrArg Value.bool hb5) ?_
     refine Rk 23 [0,1,5,6,7,11,12,13,23] [(0,.slice Aa0 a0.length ca0),(1,iv a1),(5,iv v_sum5),(6,iv v13),(7,pg g1 0),(11,.slice Aa0 a0.length ca0),(12,iv (a0.length:Int)),(13,iv v13),(23,.bool true)] ?_
     obtain rfl:=Option.some.inj heq
     refine Kg [0,1,5,6,7,11,12,13,23] [(0,.slice Aa0 a0.length ca0),(1,iv a1),(5,iv v_sum5),(6,iv v13),(7,pg g1 0),(11,.slice Aa0 a0.length ca0),(12,iv (a0.length:Int)),(13,iv v13),(23,.bool true)]<|Dn ?_
     exact K2
    ·replace heq:=bif_false hb5 heq
     refine RgH.val1 (v':=.bool false) (congrArg Value.bool hb5) ?_
     refine Rv 7 [0,1,5,6,7,11,12,13,28,30] [iv x1.Used] [.load ⟨g1,2,none⟩ (iv x1.Used)] [(0,.slice Aa0 a0.length ca0),(1,iv a1),(5,iv v_sum5),(6,iv v13),(7,pg g1 0),(11,.slice Aa0 a0.length ca0),(12,iv (a0.length:Int)),(13,iv v13),(28,.bool false),(30,iv x1.Used)] (fun w hh=>(hh.box 0 rfl rfl)) ?_
     obtain ⟨y3,hy3,heq⟩:=bind_some heq
     refine RgH.does (DoesH.call (d:=31) (g:=61) (args:=#[iv x1.Used]) (by kernel_rfl) (cache_isMoment_c (a0:=x1.Used)  hy3)) ?_
     rintro _ _ _ _ ⟨_,rfl,rfl,rfl,rfl⟩
     refine Rk 11 [34,0,1,5,6,7,11,12,13] [(34,.bool (!y3)),(0,.slice Aa0 a0.length ca0),(1,iv a1),(5,iv v_sum5),(6,iv v13),(7,pg g1 0),(11,.slice Aa0 a0.length ca0),(12,iv (a0.length:Int)),(13,iv v13)] ?_
     rcases bool_cases (!y3) with hb6 | hb6
     ·replace heq:=bif_true hb6 heq
      refine RgH.val1 (v':=.bool true) (congrArg Value.bool hb6) ?_
      refine Rk 23 [0,1,5,6,7,11,12,13,23] [(0,.slice Aa0 a0.length ca0),(1,iv a1),(5,iv v_sum5),(6,iv v13),(7,pg g1 0),(11,.slice Aa0 a0.length ca0),(12,iv (a0.length:Int)),(13,iv v13),(23,.bool true)] ?_
      obtain rfl:=Option.some.inj heq
      refine Kg [0,1,5,6,7,11,12,13,23] [(0,.slice Aa0 a0.length ca0),(1,iv a1),(5,iv v_sum5),(6,iv v13),(7,pg g1 0),(11,.slice Aa0 a0.length ca0),(12,iv (a0.length:Int)),(13,iv v13),(23,.bool true)]<|Dn ?_
      exact K2
     ·replace heq:=bif_false hb6 heq
      refine RgH.val1 (v':=.bool false) (congrArg Value.bool hb6) ?_
      refine Rv 13 [0,1,5,6,7,11,12,13,34,36] [iv x1.Until] [.load ⟨g1,3,none⟩ (iv x1.Until)] [(0,.slice Aa0 a0.length ca0),(1,iv a1),(5,iv v_sum5),(6,iv v13),(7,pg g1 0),(11,.slice Aa0 a0.length ca0),(12,iv (a0.length:Int)),(13,iv v13),(34,.bool false),(36,iv x1.Until)] (fun w hh=>(hh.box 0 rfl rfl)) ?_
      obtain ⟨y4,hy4,heq⟩:=bind_some heq
      refine RgH.does (DoesH.call (d:=37) (g:=57) (args:=#[iv x1.Until,iv 0,iv 1001000000]) (by kernel_rfl) (cache_within_c (a0:=x1.Until) (a1:=0) (a2:=1001000000)  hy4)) ?_
      rintro _ _ _ _ ⟨_,rfl,rfl,rfl,rfl⟩
      refine Rk 17 [40,0,1,5,6,7,11,12,13] [(40,.bool (!y4)),(0,.slice Aa0 a0.length ca0),(1,iv a1),(5,iv v_sum5),(6,iv v13),(7,pg g1 0),(11,.slice Aa0 a0.length ca0),(12,iv (a0.length:Int)),(13,iv v13)] ?_
      rcases bool_cases (!y4) with hb7 | hb7
      ·replace heq:=bif_true hb7 heq
       refine RgH.val1 (v':=.bool true) (congrArg Value.bool hb7) ?_
       refine Rk 23 [0,1,5,6,7,11,12,13,23] [(0,.slice Aa0 a0.length ca0),(1,iv a1),(5,iv v_sum5),(6,iv v13),(7,pg g1 0),(11,.slice Aa0 a0.length ca0),(12,iv (a0.length:Int)),(13,iv v13),(23,.bool true)] ?_
       obtain rfl:=Option.some.inj heq
       refine Kg [0,1,5,6,7,11,12,13,23] [(0,.slice Aa0 a0.length ca0),(1,iv a1),(5,iv v_sum5),(6,iv v13),(7,pg g1 0),(11,.slice Aa0 a0.length ca0),(12,iv (a0.length:Int)),(13,iv v13),(23,.bool true)]<|Dn ?_
       exact K2
      ·replace heq:=bif_false hb7 heq
       refine RgH.val1 (v':=.bool false) (congrArg Value.bool hb7) ?_
       refine Rv 19 [0,1,5,6,7,11,12,13,40,42] [iv x1.Pins] [.load ⟨g1,4,none⟩ (iv x1.Pins)] [(0,.slice Aa0 a0.length ca0),(1,iv a1),(5,iv v_sum5),(6,iv v13),(7,pg g1 0),(11,.slice Aa0 a0.length ca0),(12,iv (a0.length:Int)),(13,iv v13),(40,.bool false),(42,iv x1.Pins)] (fun w hh=>(hh.box 0 rfl rfl)) ?_
       obtain ⟨y5,hy5,heq⟩:=bind_some heq
       refine RgH.does (DoesH.call (d:=43) (g:=57) (args:=#[iv x1.Pins,iv 0,iv 3000]) (by kernel_rfl) (cache_within_c (a0:=x1.Pins) (a1:=0) (a2:=3000)  hy5)) ?_
       rintro _ _ _ _ ⟨_,rfl,rfl,rfl,rfl⟩
       refine Rk 23 [0,1,5,6,7,11,12,13,23] [(0,.slice Aa0 a0.length ca0),(1,iv a1),(5,iv v_sum5),(6,iv v13),(7,pg g1 0),(11,.slice Aa0 a0.length ca0),(12,iv (a0.length:Int)),(13,iv v13),(23,.bool (!y5))] ?_
       obtain rfl:=Option.some.inj heq
       refine Kg [0,1,5,6,7,11,12,13,23] [(0,.slice Aa0 a0.length ca0),(1,iv a1),(5,iv v_sum5),(6,iv v13),(7,pg g1 0),(11,.slice Aa0 a0.length ca0),(12,iv (a0.length:Int)),(13,iv v13),(23,.bool (!y5))]<|Dn ?_
       exact K2
  ·replace heq:=bif_false hb3 heq
   refine Cf (decide (v13<(a0.length:Int))) hb3<|Ad 3 [.c [1,1,1,1,0,0],.c [1,1,1,1,0,1],.c [1,1,1,1,1]]<|Kp [1,5] [(1,iv a1),(5,iv v_sum5)] ?_
   exact he1 a1 v_sum5 heq
theorem cache_checkBlobs_c {w0:World} {H:Hp} {F:List Ch} {a0:List Blob} {Aa0:Option Addr} {na0:Nat} {ca0:Nat} {a1:Int} {r:Int} (hra0:Rw kBlob H F Aa0 a0) (hca0:na0≤ca0) (hna0:na0=a0.length) (heq:cache_checkBlobs.f a0 a1=some r):CallsH Tryd.prog 58 #[.slice Aa0 na0 ca0,iv a1] H w0 (F) (S58 F H r):=by
 refine calls_of_runH (F:=C58) Tryd.func58 (by kernel_rfl) Tryd.ntmps58 (args:=[.slice Aa0 na0 ca0,iv a1]) (by kernel_rfl) ?_
 subst hna0
 unfold cache_checkBlobs.f at heq
 refine Ra 1 [0] [.c [1]]<|Rd 1 [0,1] [(0,.slice Aa0 a0.length ca0),(1,iv a1)]<|Ra 2 [1,0,0] [.c [1,0,1],.c [1,1]]<|Rd 3 [0,1,10] [(0,.slice Aa0 a0.length ca0),(1,iv a1),(10,.bool (decide (3000<(a0.length:Int))))] ?_
 rcases bool_cases (decide (3000<(a0.length:Int))) with hb1 | hb1
 ·replace heq:=bif_true hb1 heq
  refine Ct (decide (3000<(a0.length:Int))) hb1<|Ra 1 [1,0,1,0,0] [.c [1,0,1,0,1],.c [1,1]]<|Rd 1 [4] [(4,iv 2)] ?_
  obtain rfl:=Option.some.inj heq
  exact RunH.done (by kernel_rfl) Tryd.func58 (v:=iv 2) (by kernel_rfl) ⟨rfl,rfl,rfl⟩
 ·replace heq:=bif_false hb1 heq
  refine Cf (decide (3000<(a0.length:Int))) hb1<|Ra 2 [1,1,0] [.c [1,1,1]]<|Rd 1 [0,1,5] [(0,.slice Aa0 a0.length ca0),(1,iv a1),(5,iv 0)]<|Ra 2 [1,1,1,0,0] [.c [1,1,1,0,1],.c [1,1,1,1]]<|Rd 3 [0,1,5,11,12,13] [(0,.slice Aa0 a0.length ca0),(1,iv a1),(5,iv 0),(11,.slice Aa0 a0.length ca0),(12,iv (a0.length:Int)),(13,iv 0)]<|Ad 2 [.c [1,1,1,0,1,0,0],.l [1,1,1,0,1,0,0],.b 0,.c [1,1,1,1]]<|Kp [0,1,5,11,12,13] [(0,.slice Aa0 a0.length ca0),(1,iv a1),(5,iv 0),(11,.slice Aa0 a0.length ca0),(12,iv (a0.length:Int)),(13,iv 0)] ?_
  exact ((cache_checkBlobs.l2_c (e1:=cache_checkBlobs.e1) (cache_checkBlobs.e1_c)) big) a0 _ _ a1 0 0 hra0 hca0 heq
noncomputable def C60:Ctx:={ P:=Tryd.prog,f:=60,N:=33,c:=bodyOf Tryd.f60 }
def S60 (F:List Ch) (H0:Hp) (r:Int) (v:Value) (H:Hp) (cs:List Ch):Prop:=H0=H∧v=iv r∧F=cs
theorem cache_checkDigests.e1_c {w0:World} {H:Hp} {F:List Ch} {r:Int}:cache_checkDigests.e1=some r→RunH C60 (S60 F H r) H w0 [.c [1,1,1,0],.c [1,1,1,1]] [] H (F):=by
 intro   heq
 unfold cache_checkDigests.e1 at heq
 refine Rr<|Rd 1 [4] [(4,iv 0)] ?_
 obtain rfl:=Option.some.inj heq
 exact RunH.done (by kernel_rfl) Tryd.func60 (v:=iv 0) (by kernel_rfl) ⟨rfl,rfl,rfl⟩
theorem cache_checkDigests.l2_c {w0:World} {H:Hp} {F:List Ch} {r:Int} (e1:Option Int)
  (he1:e1=some r→RunH C60 (S60 F H r) H w0 [.c [1,1,1,0],.c [1,1,1,1]] [] H (F)):∀ (k:Nat),∀ (a0:List ByteArray) (Aa0:Option Addr) (ca0:Nat) (v13:Int) ,Rw Kd.string H F Aa0 a0→a0.length≤ca0→cache_checkDigests.l2 e1 k a0 v13=some r→RunH C60 (S60 F H r) H w0 [.c [1,1,0,1,0,0],.l [1,1,0,1,0,0],.b 0,.c [1,1,1]] [(0,.slice Aa0 a0.length ca0),(11,.slice Aa0 a0.length ca0),(12,iv (a0.length:Int)),(13,iv v13)] H (F):=by
 intro k
 induction k with
 | zero=>intro a0 Aa0 ca0 v13 hra0 hca0 heq; exact nomatch (show (none:Option Int)=some r from heq)
 | succ k ihk =>
  intro a0 Aa0 ca0 v13 hra0 hca0 heq
  rw [cache_checkDigests.l2] at heq
  refine Ra 1 [1,1,0,1,0,0,0] [.c [1,1,0,1,0,0,1],.l [1,1,0,1,0,0],.b 0,.c [1,1,1]]<|Rd 1 [0,11,12,13,14] [(0,.slice Aa0 a0.length ca0),(11,.slice Aa0 a0.length ca0),(12,iv (a0.length:Int)),(13,iv v13),(14,.bool (decide (v13<(a0.length:Int))))]<|Ad 1 [.c [1,1,0,1,0,0,1,0],.c [1,1,0,1,0,0,1,1],.l [1,1,0,1,0,0],.b 0,.c [1,1,1]] ?_
  rcases bool_cases (decide (v13<(a0.length:Int))) with hb2 | hb2
  ·replace heq:=bif_true hb2 heq
   refine Ct (decide (v13<(a0.length:Int))) hb2<|Ra 4 [1,1,0,1,0,0,1,1,0,0,0] [.c [1,1,0,1,0,0,1,1,0,0,1],.b 1,.c [1,1,0,1,0,0,1,1,1],.l [1,1,0,1,0,0],.b 0,.c [1,1,1]] ?_
   obtain ⟨x1,hx1,heq⟩:=bind_some heq
   obtain ⟨ha1,cs1,hK1,hcc1⟩:=hra0.get hx1
   obtain rfl:cs1=[.string x1]:=hK1
   refine Rw' 5 [0,5,6,11,12,13] [.string x1] [.need (Aa0=some (adr Aa0)∧(0:Int)≤v13∧v13<((a0.length:Nat):Int)),.load ((adr Aa0).add (v13.toNat*1)) (.string x1)] [(0,.slice Aa0 a0.length ca0),(5,iv v13),(6,.string x1),(11,.slice Aa0 a0.length ca0),(12,iv (a0.length:Int)),(13,iv v13)] (fun w hh=>⟨⟨ha1,(at?_some hx1).1,(at?_some hx1).2.1⟩,(hcc1 _ _ (hh.drop 0) 0 _ rfl)⟩)<|Ra 2 [1,1,0,1,0,0,1,1,0,0,1,0,0] [.c [1,1,0,1,0,0,1,1,0,0,1,0,1],.c [1,1,0,1,0,0,1,1,0,0,1,1],.b 1,.c [1,1,0,1,0,0,1,1,1],.l [1,1,0,1,0,0],.b 0,.c [1,1,1]]<|Rk 1 [0,5,6,11,12,13,18] [(0,.slice Aa0 a0.length ca0),(5,iv v13),(6,.string x1),(11,.slice Aa0 a0.length ca0),(12,iv (a0.length:Int)),(13,iv v13),(18,.string x1)] ?_
   obtain ⟨y1,hy1,heq⟩:=bind_some heq
   refine RgH.does (DoesH.call (d:=19) (g:=59) (args:=#[.string x1]) (by kernel_rfl) (blob_IsDigest_c (a0:=x1)  hy1)) ?_
   rintro _ _ _ _ ⟨_,rfl,rfl,rfl,rfl⟩
   refine Rd 3 [0,5,6,11,12,13,20] [(0,.slice Aa0 a0.length ca0),(5,iv v13),(6,.string x1),(11,.slice Aa0 a0.length ca0),(12,iv (a0.length:Int)),(13,iv v13),(20,.bool (!y1))] ?_
   rcases bool_cases (!y1) with hb3 | hb3
   ·replace heq:=bif_true hb3 heq
    refine Ct (!y1) hb3<|Ra 1 [1,1,0,1,0,0,1,1,0,0,1,0,1,0,0] [.c [1,1,0,1,0,0,1,1,0,0,1,0,1,0,1],.c [1,1,0,1,0,0,1,1,0,0,1,1],.b 1,.c [1,1,0,1,0,0,1,1,1],.l [1,1,0,1,0,0],.b 0,.c [1,1,1]]<|Rd 1 [4] [(4,iv 3)] ?_
    obtain rfl:=Option.some.inj heq
    exact RunH.done (by kernel_rfl) Tryd.func60 (v:=iv 3) (by kernel_rfl) ⟨rfl,rfl,rfl⟩
   ·replace heq:=bif_false hb3 heq
    refine Cf (!y1) hb3<|Ad 2 [.c [1,1,0,1,0,0,1,1,0,0,1,1,0],.c [1,1,0,1,0,0,1,1,0,0,1,1,1],.b 1,.c [1,1,0,1,0,0,1,1,1],.l [1,1,0,1,0,0],.b 0,.c [1,1,1]] ?_
    obtain ⟨t1,ht1,heq⟩:=bind_some heq
    have K1:RunH C60 (S60 F H r) H w0 [.c [1,1,0,1,0,0,1,1,0,0,1,1,1],.b 1,.c [1,1,0,1,0,0,1,1,1],.l [1,1,0,1,0,0],.b 0,.c [1,1,1]] [(0,.slice Aa0 a0.length ca0),(11,.slice Aa0 a0.length ca0),(12,iv (a0.length:Int)),(13,iv v13),(31,.bool t1)] H (F):=by
     rcases bool_cases (t1) with hb5 | hb5
     ·replace heq:=bif_true hb5 heq
      refine Ct t1 hb5<|Ra 1 [1,1,0,1,0,0,1,1,0,0,1,1,1,0,0] [.c [1,1,0,1,0,0,1,1,0,0,1,1,1,0,1],.b 1,.c [1,1,0,1,0,0,1,1,1],.l [1,1,0,1,0,0],.b 0,.c [1,1,1]]<|Rd 1 [4] [(4,iv 8)] ?_
      obtain rfl:=Option.some.inj heq
      exact RunH.done (by kernel_rfl) Tryd.func60 (v:=iv 8) (by kernel_rfl) ⟨rfl,rfl,rfl⟩
     ·replace heq:=bif_false hb5 heq
      refine Cf t1 hb5<|Ra 2 [1,1,0,1,0,0,1,1,1] [.l [1,1,0,1,0,0],.b 0,.c [1,1,1]]<|Rd 2 [0,11,12,13] [(0,.slice Aa0 a0.length ca0),(11,.slice Aa0 a0.length ca0),(12,iv (a0.length:Int)),(13,iv (w64 (v13+1)))]<|Ad 1 [.c [1,1,0,1,0,0],.l [1,1,0,1,0,0],.b 0,.c [1,1,1]]<|Kp [0,11,12,13] [(0,.slice Aa0 a0.length ca0),(11,.slice Aa0 a0.length ca0),(12,iv (a0.length:Int)),(13,iv (w64 (v13+1)))] ?_
      exact ihk a0 _ _ (w64 (v13+1)) hra0 hca0 heq
    replace heq:=ht1
    refine Rr<|Rk 3 [23,0,5,6,11,12,13] [(23,.bool (decide (0<v13))),(0,.slice Aa0 a0.length ca0),(5,iv v13),(6,.string x1),(11,.slice Aa0 a0.length ca0),(12,iv (a0.length:Int)),(13,iv v13)] ?_
    rcases bool_cases (decide (0<v13)) with hb4 | hb4
    ·replace heq:=bif_true hb4 heq
     refine RgH.val1 (v':=.bool true) (congrArg Value.bool hb4) ?_
     obtain ⟨x2,hx2,heq⟩:=bind_some heq
     obtain ⟨ha2,cs2,hK2,hcc2⟩:=hra0.get hx2
     obtain rfl:cs2=[.string x2]:=hK2
     refine Rv 11 [0,11,12,13,31] [.string x2] [.need (Aa0=some (adr Aa0)∧(0:Int)≤(w64 (v13 - 1))∧(w64 (v13 - 1))<((a0.length:Nat):Int)),.load ((adr Aa0).add ((w64 (v13 - 1)).toNat*1)) (.string x2)] [(0,.slice Aa0 a0.length ca0),(11,.slice Aa0 a0.length ca0),(12,iv (a0.length:Int)),(13,iv v13),(31,.bool (sLt x1 x2||sEq x1 x2))] (fun w hh=>⟨⟨ha2,(at?_some hx2).1,(at?_some hx2).2.1⟩,(hcc2 _ _ (hh.drop 0) 0 _ rfl)⟩) ?_
     obtain rfl:=Option.some.inj heq
     refine Kg [0,11,12,13,31] [(0,.slice Aa0 a0.length ca0),(11,.slice Aa0 a0.length ca0),(12,iv (a0.length:Int)),(13,iv v13),(31,.bool (sLt x1 x2||sEq x1 x2))]<|Dn ?_
     exact K1
    ·replace heq:=bif_false hb4 heq
     refine RgH.val1 (v':=.bool false) (congrArg Value.bool hb4) ?_
     refine Rk 11 [0,11,12,13,31] [(0,.slice Aa0 a0.length ca0),(11,.slice Aa0 a0.length ca0),(12,iv (a0.length:Int)),(13,iv v13),(31,.bool false)] ?_
     obtain rfl:=Option.some.inj heq
     refine Kg [0,11,12,13,31] [(0,.slice Aa0 a0.length ca0),(11,.slice Aa0 a0.length ca0),(12,iv (a0.length:Int)),(13,iv v13),(31,.bool false)]<|Dn ?_
     exact K1
  ·replace heq:=bif_false hb2 heq
   refine Cf (decide (v13<(a0.length:Int))) hb2<|Ad 2 [.c [1,1,1,0],.c [1,1,1,1]]<|Kp [] [] ?_
   exact he1 heq
theorem cache_checkDigests_c {w0:World} {H:Hp} {F:List Ch} {a0:List ByteArray} {Aa0:Option Addr} {na0:Nat} {ca0:Nat} {a1:Int} {r:Int} (hra0:Rw Kd.string H F Aa0 a0) (hca0:na0≤ca0) (hna0:na0=a0.length) (heq:cache_checkDigests.f a0 a1=some r):CallsH Tryd.prog 60 #[.slice Aa0 na0 ca0,iv a1] H w0 (F) (S60 F H r):=by
 refine calls_of_runH (F:=C60) Tryd.func60 (by kernel_rfl) Tryd.ntmps60 (args:=[.slice Aa0 na0 ca0,iv a1]) (by kernel_rfl) ?_
 subst hna0
 unfold cache_checkDigests.f at heq
 refine Ra 1 [0] [.c [1]]<|Rd 1 [0,1] [(0,.slice Aa0 a0.length ca0),(1,iv a1)]<|Ra 2 [1,0,0] [.c [1,0,1],.c [1,1]]<|Rd 4 [0,10] [(0,.slice Aa0 a0.length ca0),(10,.bool (decide (a1<(a0.length:Int))))] ?_
 rcases bool_cases (decide (a1<(a0.length:Int))) with hb1 | hb1
 ·replace heq:=bif_true hb1 heq
  refine Ct (decide (a1<(a0.length:Int))) hb1<|Ra 1 [1,0,1,0,0] [.c [1,0,1,0,1],.c [1,1]]<|Rd 1 [4] [(4,iv 2)] ?_
  obtain rfl:=Option.some.inj heq
  exact RunH.done (by kernel_rfl) Tryd.func60 (v:=iv 2) (by kernel_rfl) ⟨rfl,rfl,rfl⟩
 ·replace heq:=bif_false hb1 heq
  refine Cf (decide (a1<(a0.length:Int))) hb1<|Ra 3 [1,1,0,0] [.c [1,1,0,1],.c [1,1,1]]<|Rd 3 [0,11,12,13] [(0,.slice Aa0 a0.length ca0),(11,.slice Aa0 a0.length ca0),(12,iv (a0.length:Int)),(13,iv 0)]<|Ad 2 [.c [1,1,0,1,0,0],.l [1,1,0,1,0,0],.b 0,.c [1,1,1]]<|Kp [0,11,12,13] [(0,.slice Aa0 a0.length ca0),(11,.slice Aa0 a0.length ca0),(12,iv (a0.length:Int)),(13,iv 0)] ?_
  exact ((cache_checkDigests.l2_c (e1:=cache_checkDigests.e1) (cache_checkDigests.e1_c)) big) a0 _ _ 0 hra0 hca0 heq
noncomputable def C22:Ctx:={ P:=Tryd.prog,f:=22,N:=66,c:=bodyOf Tryd.f22 }
def S22 (F:List Ch) (H0:Hp) (r:Int) (v:Value) (H:Hp) (cs:List Ch):Prop:=H0=H∧v=iv r∧F=cs
theorem cache_CheckCache.e1_c {w0:World} {H:Hp} {F:List Ch} {r:Int}:cache_CheckCache.e1=some r→RunH C22 (S22 F H r) H w0 [.c [1,1,1,1,1,0],.c [1,1,1,1,1,1]] [] H (F):=by
 intro   heq
 unfold cache_CheckCache.e1 at heq
 refine Rr<|Rd 1 [2] [(2,iv 0)] ?_
 obtain rfl:=Option.some.inj heq
 exact RunH.done (by kernel_rfl) Tryd.func22 (v:=iv 0) (by kernel_rfl) ⟨rfl,rfl,rfl⟩
theorem cache_CheckCache.l2_c {w0:World} {H:Hp} {F:List Ch} {r:Int} (e1:Option Int)
  (he1:e1=some r→RunH C22 (S22 F H r) H w0 [.c [1,1,1,1,1,0],.c [1,1,1,1,1,1]] [] H (F)):∀ (k:Nat),∀ (a0:Cache) (Aa0_2:Option Addr) (ca0_2:Nat) (Aa0_3:Option Addr) (ca0_3:Nat) (g1:Nat) (v32:Int) ,Rw kBlob H F Aa0_2 a0.Blobs→a0.Blobs.length≤ca0_2→Rw kEntry H F Aa0_3 a0.Entries→a0.Entries.length≤ca0_3→cache_CheckCache.l2 e1 k a0 v32=some r→RunH C22 (S22 F H r) H w0 [.c [1,1,1,1,0,1,0,0],.l [1,1,1,1,0,1,0,0],.b 0,.c [1,1,1,1,1]] [(1,pg g1 0),(30,.slice Aa0_3 a0.Entries.length ca0_3),(31,iv (a0.Entries.length:Int)),(32,iv v32)] H ((some (g1,.cells #[iv a0.Room,iv a0.Lease,.slice Aa0_2 a0.Blobs.length ca0_2,.slice Aa0_3 a0.Entries.length ca0_3] 25 (0,0)))::F):=by
 intro k
 induction k with
 | zero=>intro a0 Aa0_2 ca0_2 Aa0_3 ca0_3 g1 v32 hra0_2 hca0_2 hra0_3 hca0_3 heq; exact nomatch (show (none:Option Int)=some r from heq)
 | succ k ihk =>
  intro a0 Aa0_2 ca0_2 Aa0_3 ca0_3 g1 v32 hra0_2 hca0_2 hra0_3 hca0_3 heq
  rw [cache_CheckCache.l2] at heq
  refine Ra 1 [1,1,1,1,0,1,0,0,0] [.c [1,1,1,1,0,1,0,0,1],.l [1,1,1,1,0,1,0,0],.b 0,.c [1,1,1,1,1]]<|Rd 1 [1,30,31,32,33] [(1,pg g1 0),(30,.slice Aa0_3 a0.Entries.length ca0_3),(31,iv (a0.Entries.length:Int)),(32,iv v32),(33,.bool (decide (v32<(a0.Entries.length:Int))))]<|Ad 1 [.c [1,1,1,1,0,1,0,0,1,0],.c [1,1,1,1,0,1,0,0,1,1],.l [1,1,1,1,0,1,0,0],.b 0,.c [1,1,1,1,1]] ?_
  rcases bool_cases (decide (v32<(a0.Entries.length:Int))) with hb5 | hb5
  ·replace heq:=bif_true hb5 heq
   refine Ct (decide (v32<(a0.Entries.length:Int))) hb5<|Ra 4 [1,1,1,1,0,1,0,0,1,1,0,0,0] [.c [1,1,1,1,0,1,0,0,1,1,0,0,1],.b 1,.c [1,1,1,1,0,1,0,0,1,1,1],.l [1,1,1,1,0,1,0,0],.b 0,.c [1,1,1,1,1]] ?_
   obtain ⟨x1,hx1,heq⟩:=bind_some heq
   obtain ⟨ha1,cs1,hK1,hcc1⟩:=hra0_3.get hx1
   obtain ⟨A1,c1,rfl,hc1,hr1⟩:=kEntry_open hK1
   refine Rv 3 [1,30,31,32,34,36] [.string x1.Key,.slice A1 x1.Refs.length c1,iv x1.Used] [.need (Aa0_3=some (adr Aa0_3)∧(0:Int)≤v32∧v32<((a0.Entries.length:Nat):Int)),.load (((adr Aa0_3).add (v32.toNat*3)).add 0) (.string x1.Key),.load (((adr Aa0_3).add (v32.toNat*3)).add 1) (.slice A1 x1.Refs.length c1),.load (((adr Aa0_3).add (v32.toNat*3)).add 2) (iv x1.Used)] [(1,pg g1 0),(30,.slice Aa0_3 a0.Entries.length ca0_3),(31,iv (a0.Entries.length:Int)),(32,iv v32),(34,iv v32),(36,.agg #[.string x1.Key,.slice A1 x1.Refs.length c1,iv x1.Used])] (fun w hh=>⟨⟨ha1,(at?_some hx1).1,(at?_some hx1).2.1⟩,(hcc1 _ _ (hh.drop 1) 0 _ rfl),(hcc1 _ _ (hh.drop 1) 1 _ rfl),(hcc1 _ _ (hh.drop 1) 2 _ rfl)⟩) ?_
   refine RgH.does (DoesH.new (d:=5) (v:=fun g=>.pointer (some ⟨g,0,none⟩)) (o:=fun g=>.cells #[.string ByteArray.empty,.slice none 0 0,iv 0] 51 (0,0)) (fun g=>by kernel_rfl)) ?_
   rintro _ _ _ _ ⟨g2,rfl,rfl,rfl⟩
   refine Rk 5 [1,4,5,30,31,32,36] [(1,pg g1 0),(4,iv v32),(5,pg g2 0),(30,.slice Aa0_3 a0.Entries.length ca0_3),(31,iv (a0.Entries.length:Int)),(32,iv v32),(36,.agg #[.string x1.Key,.slice A1 x1.Refs.length c1,iv x1.Used])] ?_
   refine RgH.does (DoesH.store (k:=0) (g:=g2) (off:=0) (v:=.agg #[.string x1.Key,.slice A1 x1.Refs.length c1,iv x1.Used]) (cells':=#[.string x1.Key,.slice A1 x1.Refs.length c1,iv x1.Used]) (by kernel_rfl) rfl (by kernel_rfl) (by kernel_rfl)) ?_
   rintro _ _ _ _ ⟨rfl,rfl,rfl⟩
   refine Dn<|Ra 2 [1,1,1,1,0,1,0,0,1,1,0,0,1,0,0] [.c [1,1,1,1,0,1,0,0,1,1,0,0,1,0,1],.c [1,1,1,1,0,1,0,0,1,1,0,0,1,1],.b 1,.c [1,1,1,1,0,1,0,0,1,1,1],.l [1,1,1,1,0,1,0,0],.b 0,.c [1,1,1,1,1]]<|Rv 2 [1,4,5,30,31,32,38] [.string x1.Key] [.load ⟨g2,0,none⟩ (.string x1.Key)] [(1,pg g1 0),(4,iv v32),(5,pg g2 0),(30,.slice Aa0_3 a0.Entries.length ca0_3),(31,iv (a0.Entries.length:Int)),(32,iv v32),(38,.string x1.Key)] (fun w hh=>(hh.box 0 rfl rfl)) ?_
   obtain ⟨y4,hy4,heq⟩:=bind_some heq
   refine RgH.does (DoesH.call (d:=39) (g:=59) (args:=#[.string x1.Key]) (by kernel_rfl) (blob_IsDigest_c (a0:=x1.Key)  hy4)) ?_
   rintro _ _ _ _ ⟨_,rfl,rfl,rfl,rfl⟩
   refine Rd 4 [1,4,5,30,31,32,40] [(1,pg g1 0),(4,iv v32),(5,pg g2 0),(30,.slice Aa0_3 a0.Entries.length ca0_3),(31,iv (a0.Entries.length:Int)),(32,iv v32),(40,.bool (!y4))] ?_
   rcases bool_cases (!y4) with hb6 | hb6
   ·replace heq:=bif_true hb6 heq
    refine Ct (!y4) hb6<|Ra 1 [1,1,1,1,0,1,0,0,1,1,0,0,1,0,1,0,0] [.c [1,1,1,1,0,1,0,0,1,1,0,0,1,0,1,0,1],.c [1,1,1,1,0,1,0,0,1,1,0,0,1,1],.b 1,.c [1,1,1,1,0,1,0,0,1,1,1],.l [1,1,1,1,0,1,0,0],.b 0,.c [1,1,1,1,1]]<|Rd 1 [2] [(2,iv 3)] ?_
    obtain rfl:=Option.some.inj heq
    refine RunH.pick 2 [] (cs':=F) (by kernel_rfl) rfl ?_
    exact RunH.done (by kernel_rfl) Tryd.func22 (v:=iv 3) (by kernel_rfl) ⟨rfl,rfl,rfl⟩
   ·replace heq:=bif_false hb6 heq
    refine Cf (!y4) hb6<|Ra 3 [1,1,1,1,0,1,0,0,1,1,0,0,1,1,0,0] [.c [1,1,1,1,0,1,0,0,1,1,0,0,1,1,0,1],.c [1,1,1,1,0,1,0,0,1,1,0,0,1,1,1],.b 1,.c [1,1,1,1,0,1,0,0,1,1,1],.l [1,1,1,1,0,1,0,0],.b 0,.c [1,1,1,1,1]]<|Rv 2 [1,4,5,30,31,32,42] [.slice A1 x1.Refs.length c1] [.load ⟨g2,1,none⟩ (.slice A1 x1.Refs.length c1)] [(1,pg g1 0),(4,iv v32),(5,pg g2 0),(30,.slice Aa0_3 a0.Entries.length ca0_3),(31,iv (a0.Entries.length:Int)),(32,iv v32),(42,.slice A1 x1.Refs.length c1)] (fun w hh=>(hh.box 0 rfl rfl)) ?_
    obtain ⟨y5,hy5,heq⟩:=bind_some heq
    refine RgH.does (DoesH.call (d:=43) (g:=60) (args:=#[.slice A1 x1.Refs.length c1,iv 200]) (by kernel_rfl) (cache_checkDigests_c (a0:=x1.Refs) (a1:=200) (Rw.of hr1) hc1 rfl hy5)) ?_
    rintro _ _ _ _ ⟨_,rfl,rfl,rfl,rfl⟩
    refine Rd 4 [1,4,5,6,30,31,32] [(1,pg g1 0),(4,iv v32),(5,pg g2 0),(6,iv y5),(30,.slice Aa0_3 a0.Entries.length ca0_3),(31,iv (a0.Entries.length:Int)),(32,iv v32)]<|Ra 1 [1,1,1,1,0,1,0,0,1,1,0,0,1,1,0,1,0] [.c [1,1,1,1,0,1,0,0,1,1,0,0,1,1,0,1,1],.c [1,1,1,1,0,1,0,0,1,1,0,0,1,1,1],.b 1,.c [1,1,1,1,0,1,0,0,1,1,1],.l [1,1,1,1,0,1,0,0],.b 0,.c [1,1,1,1,1]]<|Rd 2 [1,4,5,6,30,31,32,45] [(1,pg g1 0),(4,iv v32),(5,pg g2 0),(6,iv y5),(30,.slice Aa0_3 a0.Entries.length ca0_3),(31,iv (a0.Entries.length:Int)),(32,iv v32),(45,.bool (y5 != 0))] ?_
    rcases bool_cases (y5 != 0) with hb7 | hb7
    ·replace heq:=bif_true hb7 heq
     refine Ct (y5 != 0) hb7<|Ra 1 [1,1,1,1,0,1,0,0,1,1,0,0,1,1,0,1,1,0,0] [.c [1,1,1,1,0,1,0,0,1,1,0,0,1,1,0,1,1,0,1],.c [1,1,1,1,0,1,0,0,1,1,0,0,1,1,1],.b 1,.c [1,1,1,1,0,1,0,0,1,1,1],.l [1,1,1,1,0,1,0,0],.b 0,.c [1,1,1,1,1]]<|Rd 2 [2] [(2,iv y5)] ?_
     obtain rfl:=Option.some.inj heq
     refine RunH.pick 2 [] (cs':=F) (by kernel_rfl) rfl ?_
     exact RunH.done (by kernel_rfl) Tryd.func22 (v:=iv y5) (by kernel_rfl) ⟨rfl,rfl,rfl⟩
    ·replace heq:=bif_false hb7 heq
     refine Cf (y5 != 0) hb7<|Ra 3 [1,1,1,1,0,1,0,0,1,1,0,0,1,1,1,0,0] [.c [1,1,1,1,0,1,0,0,1,1,0,0,1,1,1,0,1],.c [1,1,1,1,0,1,0,0,1,1,0,0,1,1,1,1],.b 1,.c [1,1,1,1,0,1,0,0,1,1,1],.l [1,1,1,1,0,1,0,0],.b 0,.c [1,1,1,1,1]]<|Rv 2 [1,4,5,30,31,32,48] [iv x1.Used] [.load ⟨g2,2,none⟩ (iv x1.Used)] [(1,pg g1 0),(4,iv v32),(5,pg g2 0),(30,.slice Aa0_3 a0.Entries.length ca0_3),(31,iv (a0.Entries.length:Int)),(32,iv v32),(48,iv x1.Used)] (fun w hh=>(hh.box 0 rfl rfl)) ?_
     obtain ⟨y6,hy6,heq⟩:=bind_some heq
     refine RgH.does (DoesH.call (d:=49) (g:=61) (args:=#[iv x1.Used]) (by kernel_rfl) (cache_isMoment_c (a0:=x1.Used)  hy6)) ?_
     rintro _ _ _ _ ⟨_,rfl,rfl,rfl,rfl⟩
     refine Rd 4 [1,4,5,30,31,32,50] [(1,pg g1 0),(4,iv v32),(5,pg g2 0),(30,.slice Aa0_3 a0.Entries.length ca0_3),(31,iv (a0.Entries.length:Int)),(32,iv v32),(50,.bool (!y6))] ?_
     rcases bool_cases (!y6) with hb8 | hb8
     ·replace heq:=bif_true hb8 heq
      refine Ct (!y6) hb8<|Ra 1 [1,1,1,1,0,1,0,0,1,1,0,0,1,1,1,0,1,0,0] [.c [1,1,1,1,0,1,0,0,1,1,0,0,1,1,1,0,1,0,1],.c [1,1,1,1,0,1,0,0,1,1,0,0,1,1,1,1],.b 1,.c [1,1,1,1,0,1,0,0,1,1,1],.l [1,1,1,1,0,1,0,0],.b 0,.c [1,1,1,1,1]]<|Rd 1 [2] [(2,iv 1)] ?_
      obtain rfl:=Option.some.inj heq
      refine RunH.pick 2 [] (cs':=F) (by kernel_rfl) rfl ?_
      exact RunH.done (by kernel_rfl) Tryd.func22 (v:=iv 1) (by kernel_rfl) ⟨rfl,rfl,rfl⟩
     ·replace heq:=bif_false hb8 heq
      refine Cf (!y6) hb8<|Ad 2 [.c [1,1,1,1,0,1,0,0,1,1,0,0,1,1,1,1,0],.c [1,1,1,1,0,1,0,0,1,1,0,0,1,1,1,1,1],.b 1,.c [1,1,1,1,0,1,0,0,1,1,1],.l [1,1,1,1,0,1,0,0],.b 0,.c [1,1,1,1,1]] ?_
      obtain ⟨t2,ht2,heq⟩:=bind_some heq
      have K4:RunH C22 (S22 F H r) H w0 [.c [1,1,1,1,0,1,0,0,1,1,0,0,1,1,1,1,1],.b 1,.c [1,1,1,1,0,1,0,0,1,1,1],.l [1,1,1,1,0,1,0,0],.b 0,.c [1,1,1,1,1]] [(1,pg g1 0),(30,.slice Aa0_3 a0.Entries.length ca0_3),(31,iv (a0.Entries.length:Int)),(32,iv v32),(64,.bool t2)] H ((some (g1,.cells #[iv a0.Room,iv a0.Lease,.slice Aa0_2 a0.Blobs.length ca0_2,.slice Aa0_3 a0.Entries.length ca0_3] 25 (0,0)))::F):=by
       rcases bool_cases (t2) with hb10 | hb10
       ·replace heq:=bif_true hb10 heq
        refine Ct t2 hb10<|Ra 1 [1,1,1,1,0,1,0,0,1,1,0,0,1,1,1,1,1,0,0] [.c [1,1,1,1,0,1,0,0,1,1,0,0,1,1,1,1,1,0,1],.b 1,.c [1,1,1,1,0,1,0,0,1,1,1],.l [1,1,1,1,0,1,0,0],.b 0,.c [1,1,1,1,1]]<|Rd 1 [2] [(2,iv 8)] ?_
        obtain rfl:=Option.some.inj heq
        refine RunH.pick 1 [] (cs':=F) (by kernel_rfl) rfl ?_
        exact RunH.done (by kernel_rfl) Tryd.func22 (v:=iv 8) (by kernel_rfl) ⟨rfl,rfl,rfl⟩
       ·replace heq:=bif_false hb10 heq
        refine Cf t2 hb10<|Ra 2 [1,1,1,1,0,1,0,0,1,1,1] [.l [1,1,1,1,0,1,0,0],.b 0,.c [1,1,1,1,1]]<|Rd 2 [1,30,31,32] [(1,pg g1 0),(30,.slice Aa0_3 a0.Entries.length ca0_3),(31,iv (a0.Entries.length:Int)),(32,iv (w64 (v32+1)))]<|Ad 1 [.c [1,1,1,1,0,1,0,0],.l [1,1,1,1,0,1,0,0],.b 0,.c [1,1,1,1,1]]<|Kp [1,30,31,32] [(1,pg g1 0),(30,.slice Aa0_3 a0.Entries.length ca0_3),(31,iv (a0.Entries.length:Int)),(32,iv (w64 (v32+1)))] ?_
        exact ihk a0 _ _ _ _ _ (w64 (v32+1)) hra0_2 hca0_2 hra0_3 hca0_3 heq
      replace heq:=ht2
      refine Kp [1,4,5,30,31,32] [(1,pg g1 0),(4,iv v32),(5,pg g2 0),(30,.slice Aa0_3 a0.Entries.length ca0_3),(31,iv (a0.Entries.length:Int)),(32,iv v32)] ?_
      refine RunH.draw (fun w=>Heap H w0 w ((some (g2,.cells #[.string x1.Key,.slice A1 x1.Refs.length c1,iv x1.Used] 51 (0,0)))::(some (g1,.cells #[iv a0.Room,iv a0.Lease,.slice Aa0_2 a0.Blobs.length ca0_2,.slice Aa0_3 a0.Entries.length ca0_3] 25 (0,0)))::F)) (fun w=>Heap H w0 w ((some (g2,.cells #[.string x1.Key,.slice A1 x1.Refs.length c1,iv x1.Used] 51 (0,0)))::(some (g1,.cells #[iv a0.Room,iv a0.Lease,.slice Aa0_2 a0.Blobs.length ca0_2,.slice Aa0_3 a0.Entries.length ca0_3] 25 (0,0)))::F)) [3,3,3,3,3,3,3,3,3,3,3,3,3,3] (n:=14) (ls:=[false,false,false,false,false,false,false,false,false,false,false,false,false,false]) (by kernel_rfl) (by kernel_rfl) (by kernel_rfl) rfl ?_
      refine Dk [0,1,2] 11 (nb 14 7) [] [] [53,1,4,5,30,31,32] [(53,.bool (decide (0<v32))),(1,pg g1 0),(4,iv v32),(5,pg g2 0),(30,.slice Aa0_3 a0.Entries.length ca0_3),(31,iv (a0.Entries.length:Int)),(32,iv v32)] (Pk 2 [0,1]) (Pk 2 [0,1]) (fun _ _=>trivial) ?_
      rcases bool_cases (decide (0<v32)) with hb9 | hb9
      ·replace heq:=bif_true hb9 heq
       refine DrH.val1 (v':=.bool true) (congrArg Value.bool hb9) ?_
       obtain ⟨x2,hx2,heq⟩:=bind_some heq
       obtain ⟨ha2,cs2,hK2,hcc2⟩:=hra0_3.get hx2
       obtain ⟨A2,c2,rfl,hc2,hr2⟩:=kEntry_open hK2
       refine Dk [3,4,5,6,7,8,9,10,11,12,13] 0 (nb 14 16383) [.string x1.Key,.slice Aa0_3 a0.Entries.length ca0_3,.string x2.Key] [.load ⟨g2,0,none⟩ (.string x1.Key),.load ⟨g1,3,none⟩ (.slice Aa0_3 a0.Entries.length ca0_3),.need (Aa0_3=some (adr Aa0_3)∧(0:Int)≤(w64 (v32 - 1))∧(w64 (v32 - 1))<((a0.Entries.length:Nat):Int)),.load (((adr Aa0_3).add ((w64 (v32 - 1)).toNat*3)).add 0) (.string x2.Key)] [1,30,31,32,64] [(1,pg g1 0),(30,.slice Aa0_3 a0.Entries.length ca0_3),(31,iv (a0.Entries.length:Int)),(32,iv v32),(64,.bool (sLt x1.Key x2.Key||sEq x1.Key x2.Key))] (Pk 2 [0,1]) (Pk 2 [0,1]) (fun w hh=>⟨(hh.box 0 rfl rfl),(hh.box 1 rfl rfl),⟨ha2,(at?_some hx2).1,(at?_some hx2).2.1⟩,(hcc2 _ _ (hh.drop 2) 0 _ rfl)⟩) ?_
       obtain rfl:=Option.some.inj heq
       refine Kr [1,30,31,32,64] [(1,pg g1 0),(30,.slice Aa0_3 a0.Entries.length ca0_3),(31,iv (a0.Entries.length:Int)),(32,iv v32),(64,.bool (sLt x1.Key x2.Key||sEq x1.Key x2.Key))] ?_
       refine DrH.pick 2 [1] (cs':=(some (g1,.cells #[iv a0.Room,iv a0.Lease,.slice Aa0_2 a0.Blobs.length ca0_2,.slice Aa0_3 a0.Entries.length ca0_3] 25 (0,0)))::F) (by kernel_rfl) rfl ?_
       refine DrH.done (by kernel_rfl) ?_
       exact K4
      ·replace heq:=bif_false hb9 heq
       refine DrH.val1 (v':=.bool false) (congrArg Value.bool hb9) ?_
       refine Dk [3,4,5,6,7,8,9,10,11,12,13] 0 (nb 14 16383) [] [] [1,30,31,32,64] [(1,pg g1 0),(30,.slice Aa0_3 a0.Entries.length ca0_3),(31,iv (a0.Entries.length:Int)),(32,iv v32),(64,.bool false)] (Pk 2 [0,1]) (Pk 2 [0,1]) (fun _ _=>trivial) ?_
       obtain rfl:=Option.some.inj heq
       refine Kr [1,30,31,32,64] [(1,pg g1 0),(30,.slice Aa0_3 a0.Entries.length ca0_3),(31,iv (a0.Entries.length:Int)),(32,iv v32),(64,.bool false)] ?_
       refine DrH.pick 2 [1] (cs':=(some (g1,.cells #[iv a0.Room,iv a0.Lease,.slice Aa0_2 a0.Blobs.length ca0_2,.slice Aa0_3 a0.Entries.length ca0_3] 25 (0,0)))::F) (by kernel_rfl) rfl ?_
       refine DrH.done (by kernel_rfl) ?_
       exact K4
  ·replace heq:=bif_false hb5 heq
   refine Cf (decide (v32<(a0.Entries.length:Int))) hb5<|Ad 2 [.c [1,1,1,1,1,0],.c [1,1,1,1,1,1]]<|Kp [] [] ?_
   refine RunH.pick 1 [] (cs':=F) (by kernel_rfl) rfl ?_
   exact he1 heq
theorem cache_CheckCache_c {w0:World} {H:Hp} {F:List Ch} {a0:Cache} {Aa0_2:Option Addr} {na0_2:Nat} {ca0_2:Nat} {Aa0_3:Option Addr} {na0_3:Nat} {ca0_3:Nat} {r:Int} (hra0_2:Rw kBlob H F Aa0_2 a0.Blobs) (hca0_2:na0_2≤ca0_2) (hna0_2:na0_2=a0.Blobs.length) (hra0_3:Rw kEntry H F Aa0_3 a0.Entries) (hca0_3:na0_3≤ca0_3) (hna0_3:na0_3=a0.Entries.length) (heq:cache_CheckCache.f a0=some r):CallsH Tryd.prog 22 #[.agg #[iv a0.Room,iv a0.Lease,.slice Aa0_2 na0_2 ca0_2,.slice Aa0_3 na0_3 ca0_3]] H w0 (F) (S22 F H r):=by
 refine calls_of_runH (F:=C22) Tryd.func22 (by kernel_rfl) Tryd.ntmps22 (args:=[.agg #[iv a0.Room,iv a0.Lease,.slice Aa0_2 na0_2 ca0_2,.slice Aa0_3 na0_3 ca0_3]]) (by kernel_rfl) ?_
 subst hna0_2
 subst hna0_3
 unfold cache_CheckCache.f at heq
 refine Ra 1 [0] [.c [1]] ?_
 refine RgH.does (DoesH.new (d:=1) (v:=fun g=>.pointer (some ⟨g,0,none⟩)) (o:=fun g=>.cells #[iv a0.Room,iv a0.Lease,.slice Aa0_2 a0.Blobs.length ca0_2,.slice Aa0_3 a0.Entries.length ca0_3] 25 (0,0)) (fun g=>by kernel_rfl)) ?_
 rintro _ _ _ _ ⟨g1,rfl,rfl,rfl⟩
 refine Rd 2 [1] [(1,pg g1 0)]<|Ad 2 [.c [1,0,0],.c [1,0,1],.c [1,1]] ?_
 obtain ⟨t1,ht1,heq⟩:=bind_some heq
 have K2:RunH C22 (S22 F H r) H w0 [.c [1,0,1],.c [1,1]] [(1,pg g1 0),(16,.bool t1)] H ((some (g1,.cells #[iv a0.Room,iv a0.Lease,.slice Aa0_2 a0.Blobs.length ca0_2,.slice Aa0_3 a0.Entries.length ca0_3] 25 (0,0)))::F):=by
  rcases bool_cases (t1) with hb2 | hb2
  ·replace heq:=bif_true hb2 heq
   refine Ct t1 hb2<|Ra 1 [1,0,1,0,0] [.c [1,0,1,0,1],.c [1,1]]<|Rd 1 [2] [(2,iv 1)] ?_
   obtain rfl:=Option.some.inj heq
   refine RunH.pick 1 [] (cs':=F) (by kernel_rfl) rfl ?_
   exact RunH.done (by kernel_rfl) Tryd.func22 (v:=iv 1) (by kernel_rfl) ⟨rfl,rfl,rfl⟩
  ·replace heq:=bif_false hb2 heq
   refine Cf t1 hb2<|Ra 3 [1,1,0,0] [.c [1,1,0,1],.c [1,1,1]]<|Rv 4 [1,18,20] [.slice Aa0_2 a0.Blobs.length ca0_2,iv a0.Room] [.load ⟨g1,2,none⟩ (.slice Aa0_2 a0.Blobs.length ca0_2),.load ⟨g1,0,none⟩ (iv a0.Room)] [(1,pg g1 0),(18,.slice Aa0_2 a0.Blobs.length ca0_2),(20,iv a0.Room)] (fun w hh=>⟨(hh.box 0 rfl rfl),(hh.box 0 rfl rfl)⟩) ?_
   obtain ⟨y3,hy3,heq⟩:=bind_some heq
   refine RgH.does (DoesH.call (d:=21) (g:=58) (args:=#[.slice Aa0_2 a0.Blobs.length ca0_2,iv a0.Room]) (by kernel_rfl) (cache_checkBlobs_c (a0:=a0.Blobs) (a1:=a0.Room) (hra0_2.wk (fun _ h=>(.tail _ h))) hca0_2 rfl hy3)) ?_
   rintro _ _ _ _ ⟨_,rfl,rfl,rfl,rfl⟩
   refine Rd 6 [1,3] [(1,pg g1 0),(3,iv y3)]<|Ra 1 [1,1,0,1,0] [.c [1,1,0,1,1],.c [1,1,1]]<|Rd 2 [1,3,23] [(1,pg g1 0),(3,iv y3),(23,.bool (y3 != 0))] ?_
   rcases bool_cases (y3 != 0) with hb3 | hb3
   ·replace heq:=bif_true hb3 heq
    refine Ct (y3 != 0) hb3<|Ra 1 [1,1,0,1,1,0,0] [.c [1,1,0,1,1,0,1],.c [1,1,1]]<|Rd 2 [2] [(2,iv y3)] ?_
    obtain rfl:=Option.some.inj heq
    refine RunH.pick 1 [] (cs':=F) (by kernel_rfl) rfl ?_
    exact RunH.done (by kernel_rfl) Tryd.func22 (v:=iv y3) (by kernel_rfl) ⟨rfl,rfl,rfl⟩
   ·replace heq:=bif_false hb3 heq
    refine Cf (y3 != 0) hb3<|Ra 3 [1,1,1,0,0] [.c [1,1,1,0,1],.c [1,1,1,1]]<|Rw' 4 [1,28] [.slice Aa0_3 a0.Entries.length ca0_3] [.load ⟨g1,3,none⟩ (.slice Aa0_3 a0.Entries.length ca0_3)] [(1,pg g1 0),(28,.bool (decide (1000<(a0.Entries.length:Int))))] (fun w hh=>(hh.box 0 rfl rfl)) ?_
    rcases bool_cases (decide (1000<(a0.Entries.length:Int))) with hb4 | hb4
    ·replace heq:=bif_true hb4 heq
     refine Ct (decide (1000<(a0.Entries.length:Int))) hb4<|Ra 1 [1,1,1,0,1,0,0] [.c [1,1,1,0,1,0,1],.c [1,1,1,1]]<|Rd 1 [2] [(2,iv 2)] ?_
     obtain rfl:=Option.some.inj heq
     refine RunH.pick 1 [] (cs':=F) (by kernel_rfl) rfl ?_
     exact RunH.done (by kernel_rfl) Tryd.func22 (v:=iv 2) (by kernel_rfl) ⟨rfl,rfl,rfl⟩
    ·replace heq:=bif_false hb4 heq
     refine Cf (decide (1000<(a0.Entries.length:Int))) hb4<|Ra 3 [1,1,1,1,0,0] [.c [1,1,1,1,0,1],.c [1,1,1,1,1]]<|Rw' 4 [1,30,31,32] [.slice Aa0_3 a0.Entries.length ca0_3] [.load ⟨g1,3,none⟩ (.slice Aa0_3 a0.Entries.length ca0_3)] [(1,pg g1 0),(30,.slice Aa0_3 a0.Entries.length ca0_3),(31,iv (a0.Entries.length:Int)),(32,iv 0)] (fun w hh=>(hh.box 0 rfl rfl))<|Ad 2 [.c [1,1,1,1,0,1,0,0],.l [1,1,1,1,0,1,0,0],.b 0,.c [1,1,1,1,1]]<|Kp [1,30,31,32] [(1,pg g1 0),(30,.slice Aa0_3 a0.Entries.length ca0_3),(31,iv (a0.Entries.length:Int)),(32,iv 0)] ?_
     exact ((cache_CheckCache.l2_c (e1:=cache_CheckCache.e1) (cache_CheckCache.e1_c)) big) a0 _ _ _ _ _ 0 hra0_2 hca0_2 hra0_3 hca0_3 heq
 replace heq:=ht1
 refine Rr<|Rv 2 [1,8] [iv a0.Room] [.load ⟨g1,0,none⟩ (iv a0.Room)] [(1,pg g1 0),(8,iv a0.Room)] (fun w hh=>(hh.box 0 rfl rfl)) ?_
 obtain ⟨y1,hy1,heq⟩:=bind_some heq
 refine RgH.does (DoesH.call (d:=9) (g:=57) (args:=#[iv a0.Room,iv 0,iv 1000000000]) (by kernel_rfl) (cache_within_c (a0:=a0.Room) (a1:=0) (a2:=1000000000)  hy1)) ?_
 rintro _ _ _ _ ⟨_,rfl,rfl,rfl,rfl⟩
 refine Rk 5 [11,1] [(11,.bool (!y1)),(1,pg g1 0)] ?_
 rcases bool_cases (!y1) with hb1 | hb1
 ·replace heq:=bif_true hb1 heq
  refine RgH.val1 (v':=.bool true) (congrArg Value.bool hb1) ?_
  refine Rk 10 [1,16] [(1,pg g1 0),(16,.bool true)] ?_
  obtain rfl:=Option.some.inj heq
  refine Kg [1,16] [(1,pg g1 0),(16,.bool true)]<|Dn ?_
  exact K2
 ·replace heq:=bif_false hb1 heq
  refine RgH.val1 (v':=.bool false) (congrArg Value.bool hb1) ?_
  refine Rv 7 [1,11,13] [iv a0.Lease] [.load ⟨g1,1,none⟩ (iv a0.Lease)] [(1,pg g1 0),(11,.bool false),(13,iv a0.Lease)] (fun w hh=>(hh.box 0 rfl rfl)) ?_
  obtain ⟨y2,hy2,heq⟩:=bind_some heq
  refine RgH.does (DoesH.call (d:=14) (g:=57) (args:=#[iv a0.Lease,iv 0,iv 1000000]) (by kernel_rfl) (cache_within_c (a0:=a0.Lease) (a1:=0) (a2:=1000000)  hy2)) ?_
  rintro _ _ _ _ ⟨_,rfl,rfl,rfl,rfl⟩
  refine Rk 10 [1,16] [(1,pg g1 0),(16,.bool (!y2))] ?_
  obtain rfl:=Option.some.inj heq
  refine Kg [1,16] [(1,pg g1 0),(16,.bool (!y2))]<|Dn ?_
  exact K2
noncomputable def C19:Ctx:={ P:=Tryd.prog,f:=19,N:=18,c:=bodyOf Tryd.f19 }
def S19 (F:List Ch) (H0:Hp) (r:Cache × Int) (v:Value) (H:Hp) (cs:List Ch):Prop:=∃ (A0_2:Option Addr) (c0_2:Nat) (ch0_2:Ch) (A0_3:Option Addr) (c0_3:Nat) (ch0_3:Ch),H0=H∧v=.tuple #[.agg #[iv r.1.Room,iv r.1.Lease,.slice A0_2 r.1.Blobs.length c0_2,.slice A0_3 r.1.Entries.length c0_3],iv r.2]∧ch0_2::ch0_3::F=cs∧SlOwn kBlob 47 H A0_2 c0_2 r.1.Blobs ch0_2∧SlOwn kEntry 51 H A0_3 c0_3 r.1.Entries ch0_3
theorem cache_New_c {w0:World} {H:Hp} {F:List Ch} {a0:Int} {a1:Int} {r:Cache × Int} (heq:cache_New.f a0 a1=some r):CallsH Tryd.prog 19 #[iv a0,iv a1] H w0 (F) (S19 F H r):=by
 refine calls_of_runH (F:=C19) Tryd.func19 (by kernel_rfl) Tryd.ntmps19 (args:=[iv a0,iv a1]) (by kernel_rfl) ?_
 unfold cache_New.f at heq
 refine Ra 1 [0] [.c [1]] ?_
 refine RgH.does (DoesH.new (d:=4) (v:=fun g=>.pointer (some ⟨g,0,none⟩)) (o:=fun g=>.cells #[iv 0,iv 0,.slice none 0 0,.slice none 0 0] 25 (0,0)) (fun g=>by kernel_rfl)) ?_
 rintro _ _ _ _ ⟨g1,rfl,rfl,rfl⟩
 refine Rd 2 [0,1,4] [(0,iv a0),(1,iv a1),(4,pg g1 0)]<|Ra 1 [1,0] [.c [1,1]]<|Rk 3 [4,10] [(4,pg g1 0),(10,.agg #[iv a0,iv a1,.slice none 0 0,.slice none 0 0])] ?_
 refine RgH.does (DoesH.new (d:=6) (v:=fun g=>.pointer (some ⟨g,0,none⟩)) (o:=fun g=>.cells #[iv 0,iv 0,.slice none 0 0,.slice none 0 0] 25 (0,0)) (fun g=>by kernel_rfl)) ?_
 rintro _ _ _ _ ⟨g2,rfl,rfl,rfl⟩
 refine RgH.does (DoesH.store (k:=0) (g:=g2) (off:=0) (v:=.agg #[iv a0,iv a1,.slice none 0 0,.slice none 0 0]) (cells':=#[iv a0,iv a1,.slice none 0 0,.slice none 0 0]) (by kernel_rfl) rfl (by kernel_rfl) (by kernel_rfl)) ?_
 rintro _ _ _ _ ⟨rfl,rfl,rfl⟩
 refine Dn<|Ra 2 [1,1,0,0] [.c [1,1,0,1],.c [1,1,1]]<|Rv 1 [4,6,11] [iv a0,iv a1,.slice none 0 0,.slice none 0 0] [.load ⟨g2,0,none⟩ (iv a0),.load ⟨g2,1,none⟩ (iv a1),.load ⟨g2,2,none⟩ (.slice none 0 0),.load ⟨g2,3,none⟩ (.slice none 0 0)] [(4,pg g1 0),(6,pg g2 0),(11,.agg #[iv a0,iv a1,.slice none 0 0,.slice none 0 0])] (fun w hh=>⟨(hh.box 0 rfl rfl),(hh.box 0 rfl rfl),(hh.box 0 rfl rfl),(hh.box 0 rfl rfl)⟩) ?_
 obtain ⟨y1,hy1,heq⟩:=bind_some heq
 refine RgH.does (DoesH.call (d:=12) (g:=22) (args:=#[.agg #[iv a0,iv a1,.slice none 0 0,.slice none 0 0]]) (by kernel_rfl) (cache_CheckCache_c (a0:=(⟨a0,a1,([]:List Blob),([]:List Entry)⟩:Cache)) Rw.nil (Nat.le_refl _) rfl Rw.nil (Nat.le_refl _) rfl hy1)) ?_
 rintro _ _ _ _ ⟨_,rfl,rfl,rfl,rfl⟩
 refine Rd 3 [4,6,7] [(4,pg g1 0),(6,pg g2 0),(7,iv y1)]<|Ra 1 [1,1,0,1,0] [.c [1,1,0,1,1],.c [1,1,1]]<|Rd 2 [4,6,7,14] [(4,pg g1 0),(6,pg g2 0),(7,iv y1),(14,.bool (y1 != 0))] ?_
 rcases bool_cases (y1 != 0) with hb1 | hb1
 ·replace heq:=bif_true hb1 heq
  refine Ct (y1 != 0) hb1<|Ra 1 [1,1,0,1,1,0,0] [.c [1,1,0,1,1,0,1],.c [1,1,1]]<|Rk 2 [4,15,16] [(4,pg g1 0),(15,.agg #[iv 0,iv 0,.slice none 0 0,.slice none 0 0]),(16,iv y1)] ?_
  refine RgH.does (DoesH.store (k:=1) (g:=g1) (off:=0) (v:=.agg #[iv 0,iv 0,.slice none 0 0,.slice none 0 0]) (cells':=#[iv 0,iv 0,.slice none 0 0,.slice none 0 0]) (by kernel_rfl) rfl (by kernel_rfl) (by kernel_rfl)) ?_
  rintro _ _ _ _ ⟨rfl,rfl,rfl⟩
  refine Rd 4 [4,5] [(4,pg g1 0),(5,iv y1)]<|RunH.nilc ?_
  have ho1:SlOwn kBlob 47 H none 0 ([]:List Blob) none:=SlOwn.nil
  refine RunH.nilc ?_
  have ho2:SlOwn kEntry 51 H none 0 ([]:List Entry) none:=SlOwn.nil
  obtain rfl:=Option.some.inj heq
  refine RunH.pick 4 [3,1,0] (cs':=(some (g1,.cells #[iv 0,iv 0,.slice none 0 0,.slice none 0 0] 25 (0,0)))::none::none::F) (by kernel_rfl) rfl ?_
  exact RunH.doneM' 1 (vs:=[.agg #[iv 0,iv 0,.slice none 0 0,.slice none 0 0],iv y1]) (v:=.tuple #[.agg #[iv 0,iv 0,.slice none 0 0,.slice none 0 0],iv y1]) (by kernel_rfl) Tryd.func19 (fun w hh=>show ResAll _ _ _ [.cell 4 25,.tmp 5] _ from ⟨⟨⟨g1,0,none⟩,by kernel_rfl,trS_run _ (vs:=[iv 0,iv 0,.slice none 0 0,.slice none 0 0]) (r:=[]) (es:=[.load ⟨g1,0,none⟩ (iv 0),.load ⟨g1,1,none⟩ (iv 0),.load ⟨g1,2,none⟩ (.slice none 0 0),.load ⟨g1,3,none⟩ (.slice none 0 0)]) (by kernel_rfl) ⟨(hh.box 0 rfl rfl),(hh.box 0 rfl rfl),(hh.box 0 rfl rfl),(hh.box 0 rfl rfl)⟩⟩,(show lk _ _=some _ by kernel_rfl),trivial⟩) rfl (cs':=none::none::F) rfl ⟨none,0,none,none,0,none,rfl,rfl,rfl,ho1,ho2⟩
 ·replace heq:=bif_false hb1 heq
  refine Cf (y1 != 0) hb1<|Ra 2 [1,1,1,0] [.c [1,1,1,1]]<|Rv 1 [4,17] [iv a0,iv a1,.slice none 0 0,.slice none 0 0] [.load ⟨g2,0,none⟩ (iv a0),.load ⟨g2,1,none⟩ (iv a1),.load ⟨g2,2,none⟩ (.slice none 0 0),.load ⟨g2,3,none⟩ (.slice none 0 0)] [(4,pg g1 0),(17,.agg #[iv a0,iv a1,.slice none 0 0,.slice none 0 0])] (fun w hh=>⟨(hh.box 0 rfl rfl),(hh.box 0 rfl rfl),(hh.box 0 rfl rfl),(hh.box 0 rfl rfl)⟩) ?_
  refine RgH.does (DoesH.store (k:=1) (g:=g1) (off:=0) (v:=.agg #[iv a0,iv a1,.slice none 0 0,.slice none 0 0]) (cells':=#[iv a0,iv a1,.slice none 0 0,.slice none 0 0]) (by kernel_rfl) rfl (by kernel_rfl) (by kernel_rfl)) ?_
  rintro _ _ _ _ ⟨rfl,rfl,rfl⟩
  refine Rd 3 [4,5] [(4,pg g1 0),(5,iv 0)]<|RunH.nilc ?_
  have ho3:SlOwn kBlob 47 H none 0 ([]:List Blob) none:=SlOwn.nil
  refine RunH.nilc ?_
  have ho4:SlOwn kEntry 51 H none 0 ([]:List Entry) none:=SlOwn.nil
  obtain rfl:=Option.some.inj heq
  refine RunH.pick 4 [3,1,0] (cs':=(some (g1,.cells #[iv a0,iv a1,.slice none 0 0,.slice none 0 0] 25 (0,0)))::none::none::F) (by kernel_rfl) rfl ?_
  exact RunH.doneM' 1 (vs:=[.agg #[iv a0,iv a1,.slice none 0 0,.slice none 0 0],iv 0]) (v:=.tuple #[.agg #[iv a0,iv a1,.slice none 0 0,.slice none 0 0],iv 0]) (by kernel_rfl) Tryd.func19 (fun w hh=>show ResAll _ _ _ [.cell 4 25,.tmp 5] _ from ⟨⟨⟨g1,0,none⟩,by kernel_rfl,trS_run _ (vs:=[iv a0,iv a1,.slice none 0 0,.slice none 0 0]) (r:=[]) (es:=[.load ⟨g1,0,none⟩ (iv a0),.load ⟨g1,1,none⟩ (iv a1),.load ⟨g1,2,none⟩ (.slice none 0 0),.load ⟨g1,3,none⟩ (.slice none 0 0)]) (by kernel_rfl) ⟨(hh.box 0 rfl rfl),(hh.box 0 rfl rfl),(hh.box 0 rfl rfl),(hh.box 0 rfl rfl)⟩⟩,(show lk _ _=some _ by kernel_rfl),trivial⟩) rfl (cs':=none::none::F) rfl ⟨none,0,none,none,0,none,rfl,rfl,rfl,ho3,ho4⟩
noncomputable def C56:Ctx:={ P:=Tryd.prog,f:=56,N:=26,c:=bodyOf Tryd.f56 }
def S56 (F:List Ch) (H0:Hp) (r:Bool) (v:Value) (H:Hp) (cs:List Ch):Prop:=H0=H∧v=.bool r∧F=cs
theorem smithyardref7_sameList.e1_c {w0:World} {H:Hp} {F:List Ch} {r:Bool}:smithyardref7_sameList.e1=some r→RunH C56 (S56 F H r) H w0 [.c [1,1,1,0],.c [1,1,1,1]] [] H (F):=by
 intro   heq
 unfold smithyardref7_sameList.e1 at heq
 refine Rr<|Rd 1 [4] [(4,.bool true)] ?_
 obtain rfl:=Option.some.inj heq
 exact RunH.done (by kernel_rfl) Tryd.func56 (v:=.bool true) (by kernel_rfl) ⟨rfl,rfl,rfl⟩
theorem smithyardref7_sameList.l2_c {w0:World} {H:Hp} {F:List Ch} {r:Bool} (e1:Option Bool)
  (he1:e1=some r→RunH C56 (S56 F H r) H w0 [.c [1,1,1,0],.c [1,1,1,1]] [] H (F)):∀ (k:Nat),∀ (a0:List ByteArray) (Aa0:Option Addr) (ca0:Nat) (a1:List ByteArray) (Aa1:Option Addr) (ca1:Nat) (v_i5:Int) ,Rw Kd.string H F Aa0 a0→a0.length≤ca0→Rw Kd.string H F Aa1 a1→a1.length≤ca1→smithyardref7_sameList.l2 e1 k a0 a1 v_i5=some r→RunH C56 (S56 F H r) H w0 [.c [1,1,0,1,0,0],.l [1,1,0,1,0,0],.b 0,.c [1,1,1]] [(0,.slice Aa0 a0.length ca0),(1,.slice Aa1 a1.length ca1),(5,iv v_i5)] H (F):=by
 intro k
 induction k with
 | zero=>intro a0 Aa0 ca0 a1 Aa1 ca1 v_i5 hra0 hca0 hra1 hca1 heq; exact nomatch (show (none:Option Bool)=some r from heq)
 | succ k ihk =>
  intro a0 Aa0 ca0 a1 Aa1 ca1 v_i5 hra0 hca0 hra1 hca1 heq
  rw [smithyardref7_sameList.l2] at heq
  refine Ra 2 [1,1,0,1,0,0,0,0] [.c [1,1,0,1,0,0,0,1],.c [1,1,0,1,0,0,1],.l [1,1,0,1,0,0],.b 0,.c [1,1,1]]<|Rd 4 [0,1,5,14] [(0,.slice Aa0 a0.length ca0),(1,.slice Aa1 a1.length ca1),(5,iv v_i5),(14,.bool (decide (v_i5<(a0.length:Int))))] ?_
  rcases bool_cases (decide (v_i5<(a0.length:Int))) with hb2 | hb2
  ·replace heq:=bif_true hb2 heq
   refine Ct (decide (v_i5<(a0.length:Int))) hb2<|Ad 4 [.c [1,1,0,1,0,0,1,0,0,0],.c [1,1,0,1,0,0,1,0,0,1],.b 1,.c [1,1,0,1,0,0,1,1],.l [1,1,0,1,0,0],.b 0,.c [1,1,1]]<|Kp [0,1,5] [(0,.slice Aa0 a0.length ca0),(1,.slice Aa1 a1.length ca1),(5,iv v_i5)] ?_
   refine RunH.draw (fun w=>Heap H w0 w (F)) (fun w=>Heap H w0 w (F)) [3,3,3,3,3,3,3,3,3] (n:=9) (ls:=[false,false,false,false,false,false,false,false,false]) (by kernel_rfl) (by kernel_rfl) (by kernel_rfl) rfl ?_
   obtain ⟨x1,hx1,heq⟩:=bind_some heq
   obtain ⟨ha1,cs1,hK1,hcc1⟩:=hra0.get hx1
   obtain rfl:cs1=[.string x1]:=hK1
   obtain ⟨x2,hx2,heq⟩:=bind_some heq
   obtain ⟨ha2,cs2,hK2,hcc2⟩:=hra1.get hx2
   obtain rfl:cs2=[.string x2]:=hK2
   refine Dk [0,1,2,3,4,5,6,7,8] 0 (nb 9 511) [.string x1,.string x2] [.need (Aa0=some (adr Aa0)∧(0:Int)≤v_i5∧v_i5<((a0.length:Nat):Int)),.load ((adr Aa0).add (v_i5.toNat*1)) (.string x1),.need (Aa1=some (adr Aa1)∧(0:Int)≤v_i5∧v_i5<((a1.length:Nat):Int)),.load ((adr Aa1).add (v_i5.toNat*1)) (.string x2)] [0,1,5,25] [(0,.slice Aa0 a0.length ca0),(1,.slice Aa1 a1.length ca1),(5,iv v_i5),(25,.bool (!sEq x1 x2))] (Pk 0 []) (Pk 0 []) (fun w hh=>⟨⟨ha1,(at?_some hx1).1,(at?_some hx1).2.1⟩,(hcc1 _ _ (hh.drop 0) 0 _ rfl),⟨ha2,(at?_some hx2).1,(at?_some hx2).2.1⟩,(hcc2 _ _ (hh.drop 0) 0 _ rfl)⟩) ?_
   refine DrH.done (by kernel_rfl) ?_
   rcases bool_cases (!sEq x1 x2) with hb3 | hb3
   ·replace heq:=bif_true hb3 heq
    refine Ct (!sEq x1 x2) hb3<|Ra 1 [1,1,0,1,0,0,1,0,0,1,0,0] [.c [1,1,0,1,0,0,1,0,0,1,0,1],.b 1,.c [1,1,0,1,0,0,1,1],.l [1,1,0,1,0,0],.b 0,.c [1,1,1]]<|Rd 1 [4] [(4,.bool false)] ?_
    obtain rfl:=Option.some.inj heq
    exact RunH.done (by kernel_rfl) Tryd.func56 (v:=.bool false) (by kernel_rfl) ⟨rfl,rfl,rfl⟩
   ·replace heq:=bif_false hb3 heq
    refine Cf (!sEq x1 x2) hb3<|Ra 2 [1,1,0,1,0,0,1,1] [.l [1,1,0,1,0,0],.b 0,.c [1,1,1]]<|Rd 3 [0,1,5] [(0,.slice Aa0 a0.length ca0),(1,.slice Aa1 a1.length ca1),(5,iv (w64 (v_i5+1)))]<|Ad 1 [.c [1,1,0,1,0,0],.l [1,1,0,1,0,0],.b 0,.c [1,1,1]]<|Kp [0,1,5] [(0,.slice Aa0 a0.length ca0),(1,.slice Aa1 a1.length ca1),(5,iv (w64 (v_i5+1)))] ?_
    exact ihk a0 _ _ a1 _ _ (w64 (v_i5+1)) hra0 hca0 hra1 hca1 heq
  ·replace heq:=bif_false hb2 heq
   refine Cf (decide (v_i5<(a0.length:Int))) hb2<|Ad 2 [.c [1,1,1,0],.c [1,1,1,1]]<|Kp [] [] ?_
   exact he1 heq
theorem smithyardref7_sameList_c {w0:World} {H:Hp} {F:List Ch} {a0:List ByteArray} {Aa0:Option Addr} {na0:Nat} {ca0:Nat} {a1:List ByteArray} {Aa1:Option Addr} {na1:Nat} {ca1:Nat} {r:Bool} (hra0:Rw Kd.string H F Aa0 a0) (hca0:na0≤ca0) (hna0:na0=a0.length) (hra1:Rw Kd.string H F Aa1 a1) (hca1:na1≤ca1) (hna1:na1=a1.length) (heq:smithyardref7_sameList.f a0 a1=some r):CallsH Tryd.prog 56 #[.slice Aa0 na0 ca0,.slice Aa1 na1 ca1] H w0 (F) (S56 F H r):=by
 refine calls_of_runH (F:=C56) Tryd.func56 (by kernel_rfl) Tryd.ntmps56 (args:=[.slice Aa0 na0 ca0,.slice Aa1 na1 ca1]) (by kernel_rfl) ?_
 subst hna0
 subst hna1
 unfold smithyardref7_sameList.f at heq
 refine Ra 1 [0] [.c [1]]<|Rd 1 [0,1] [(0,.slice Aa0 a0.length ca0),(1,.slice Aa1 a1.length ca1)]<|Ra 2 [1,0,0] [.c [1,0,1],.c [1,1]]<|Rd 5 [0,1,10] [(0,.slice Aa0 a0.length ca0),(1,.slice Aa1 a1.length ca1),(10,.bool ((a0.length:Int) != (a1.length:Int)))] ?_
 rcases bool_cases ((a0.length:Int) != (a1.length:Int)) with hb1 | hb1
 ·replace heq:=bif_true hb1 heq
  refine Ct ((a0.length:Int) != (a1.length:Int)) hb1<|Ra 1 [1,0,1,0,0] [.c [1,0,1,0,1],.c [1,1]]<|Rd 1 [4] [(4,.bool false)] ?_
  obtain rfl:=Option.some.inj heq
  exact RunH.done (by kernel_rfl) Tryd.func56 (v:=.bool false) (by kernel_rfl) ⟨rfl,rfl,rfl⟩
 ·replace heq:=bif_false hb1 heq
  refine Cf ((a0.length:Int) != (a1.length:Int)) hb1<|Ra 3 [1,1,0,0] [.c [1,1,0,1],.c [1,1,1]]<|Rd 1 [0,1,5] [(0,.slice Aa0 a0.length ca0),(1,.slice Aa1 a1.length ca1),(5,iv 0)]<|Ad 2 [.c [1,1,0,1,0,0],.l [1,1,0,1,0,0],.b 0,.c [1,1,1]]<|Kp [0,1,5] [(0,.slice Aa0 a0.length ca0),(1,.slice Aa1 a1.length ca1),(5,iv 0)] ?_
  exact ((smithyardref7_sameList.l2_c (e1:=smithyardref7_sameList.e1) (smithyardref7_sameList.e1_c)) big) a0 _ _ a1 _ _ 0 hra0 hca0 hra1 hca1 heq
noncomputable def C21:Ctx:={ P:=Tryd.prog,f:=21,N:=106,c:=bodyOf Tryd.f21 }
def S21 (F:List Ch) (H0:Hp) (r:Bool) (v:Value) (H:Hp) (cs:List Ch):Prop:=H0=H∧v=.bool r∧F=cs
theorem smithyardref7_Same.e2_c {w0:World} {H:Hp} {F:List Ch} {r:Bool}:smithyardref7_Same.e2=some r→RunH C21 (S21 F H r) H w0 [.c [1,1,1,1,0],.c [1,1,1,1,1]] [] H (F):=by
 intro   heq
 unfold smithyardref7_Same.e2 at heq
 refine Rr<|Rd 1 [4] [(4,.bool true)] ?_
 obtain rfl:=Option.some.inj heq
 exact RunH.done (by kernel_rfl) Tryd.func21 (v:=.bool true) (by kernel_rfl) ⟨rfl,rfl,rfl⟩
theorem smithyardref7_Same.l3_c {w0:World} {H:Hp} {F:List Ch} {r:Bool} (e2:Option Bool)
  (he2:e2=some r→RunH C21 (S21 F H r) H w0 [.c [1,1,1,1,0],.c [1,1,1,1,1]] [] H (F)):∀ (k:Nat),∀ (a0:Cache) (Aa0_2:Option Addr) (ca0_2:Nat) (Aa0_3:Option Addr) (ca0_3:Nat) (a1:Cache) (Aa1_2:Option Addr) (ca1_2:Nat) (Aa1_3:Option Addr) (ca1_3:Nat) (g1:Nat) (g2:Nat) (v_i6:Int) ,Rw kBlob H F Aa0_2 a0.Blobs→a0.Blobs.length≤ca0_2→Rw kEntry H F Aa0_3 a0.Entries→a0.Entries.length≤ca0_3→Rw kBlob H F Aa1_2 a1.Blobs→a1.Blobs.length≤ca1_2→Rw kEntry H F Aa1_3 a1.Entries→a1.Entries.length≤ca1_3→smithyardref7_Same.l3 e2 k a0 a1 v_i6=some r→RunH C21 (S21 F H r) H w0 [.c [1,1,1,0,1,0,0],.l [1,1,1,0,1,0,0],.b 2,.c [1,1,1,1]] [(2,pg g1 0),(3,pg g2 0),(6,iv v_i6)] H ((some (g2,.cells #[iv a1.Room,iv a1.Lease,.slice Aa1_2 a1.Blobs.length ca1_2,.slice Aa1_3 a1.Entries.length ca1_3] 25 (0,0)))::(some (g1,.cells #[iv a0.Room,iv a0.Lease,.slice Aa0_2 a0.Blobs.length ca0_2,.slice Aa0_3 a0.Entries.length ca0_3] 25 (0,0)))::F):=by
 intro k
 induction k with
 | zero=>intro a0 Aa0_2 ca0_2 Aa0_3 ca0_3 a1 Aa1_2 ca1_2 Aa1_3 ca1_3 g1 g2 v_i6 hra0_2 hca0_2 hra0_3 hca0_3 hra1_2 hca1_2 hra1_3 hca1_3 heq; exact nomatch (show (none:Option Bool)=some r from heq)
 | succ k ihk =>
  intro a0 Aa0_2 ca0_2 Aa0_3 ca0_3 a1 Aa1_2 ca1_2 Aa1_3 ca1_3 g1 g2 v_i6 hra0_2 hca0_2 hra0_3 hca0_3 hra1_2 hca1_2 hra1_3 hca1_3 heq
  rw [smithyardref7_Same.l3] at heq
  refine Ra 2 [1,1,1,0,1,0,0,0,0] [.c [1,1,1,0,1,0,0,0,1],.c [1,1,1,0,1,0,0,1],.l [1,1,1,0,1,0,0],.b 2,.c [1,1,1,1]]<|Rw' 5 [2,3,6,59] [.slice Aa0_3 a0.Entries.length ca0_3] [.load ⟨g1,3,none⟩ (.slice Aa0_3 a0.Entries.length ca0_3)] [(2,pg g1 0),(3,pg g2 0),(6,iv v_i6),(59,.bool (decide (v_i6<(a0.Entries.length:Int))))] (fun w hh=>(hh.box 1 rfl rfl)) ?_
  rcases bool_cases (decide (v_i6<(a0.Entries.length:Int))) with hb5 | hb5
  ·replace heq:=bif_true hb5 heq
   refine Ct (decide (v_i6<(a0.Entries.length:Int))) hb5<|Ad 4 [.c [1,1,1,0,1,0,0,1,0,0,0],.c [1,1,1,0,1,0,0,1,0,0,1],.b 3,.c [1,1,1,0,1,0,0,1,1],.l [1,1,1,0,1,0,0],.b 2,.c [1,1,1,1]] ?_
   obtain ⟨t2,ht2,heq⟩:=bind_some heq
   have K4:RunH C21 (S21 F H r) H w0 [.c [1,1,1,0,1,0,0,1,0,0,1],.b 3,.c [1,1,1,0,1,0,0,1,1],.l [1,1,1,0,1,0,0],.b 2,.c [1,1,1,1]] [(2,pg g1 0),(3,pg g2 0),(6,iv v_i6),(105,.bool t2)] H ((some (g2,.cells #[iv a1.Room,iv a1.Lease,.slice Aa1_2 a1.Blobs.length ca1_2,.slice Aa1_3 a1.Entries.length ca1_3] 25 (0,0)))::(some (g1,.cells #[iv a0.Room,iv a0.Lease,.slice Aa0_2 a0.Blobs.length ca0_2,.slice Aa0_3 a0.Entries.length ca0_3] 25 (0,0)))::F):=by
    rcases bool_cases (t2) with hb8 | hb8
    ·replace heq:=bif_true hb8 heq
     refine Ct t2 hb8<|Ra 1 [1,1,1,0,1,0,0,1,0,0,1,0,0] [.c [1,1,1,0,1,0,0,1,0,0,1,0,1],.b 3,.c [1,1,1,0,1,0,0,1,1],.l [1,1,1,0,1,0,0],.b 2,.c [1,1,1,1]]<|Rd 1 [4] [(4,.bool false)] ?_
     obtain rfl:=Option.some.inj heq
     refine RunH.pick 2 [] (cs':=F) (by kernel_rfl) rfl ?_
     exact RunH.done (by kernel_rfl) Tryd.func21 (v:=.bool false) (by kernel_rfl) ⟨rfl,rfl,rfl⟩
    ·replace heq:=bif_false hb8 heq
     refine Cf t2 hb8<|Ra 2 [1,1,1,0,1,0,0,1,1] [.l [1,1,1,0,1,0,0],.b 2,.c [1,1,1,1]]<|Rd 3 [2,3,6] [(2,pg g1 0),(3,pg g2 0),(6,iv (w64 (v_i6+1)))]<|Ad 1 [.c [1,1,1,0,1,0,0],.l [1,1,1,0,1,0,0],.b 2,.c [1,1,1,1]]<|Kp [2,3,6] [(2,pg g1 0),(3,pg g2 0),(6,iv (w64 (v_i6+1)))] ?_
     exact ihk a0 _ _ _ _ a1 _ _ _ _ _ _ (w64 (v_i6+1)) hra0_2 hca0_2 hra0_3 hca0_3 hra1_2 hca1_2 hra1_3 hca1_3 heq
   replace heq:=ht2
   refine Kp [2,3,6] [(2,pg g1 0),(3,pg g2 0),(6,iv v_i6)] ?_
   refine RunH.draw (fun w=>Heap H w0 w ((some (g2,.cells #[iv a1.Room,iv a1.Lease,.slice Aa1_2 a1.Blobs.length ca1_2,.slice Aa1_3 a1.Entries.length ca1_3] 25 (0,0)))::(some (g1,.cells #[iv a0.Room,iv a0.Lease,.slice Aa0_2 a0.Blobs.length ca0_2,.slice Aa0_3 a0.Entries.length ca0_3] 25 (0,0)))::F)) (fun w=>Heap H w0 w ((some (g2,.cells #[iv a1.Room,iv a1.Lease,.slice Aa1_2 a1.Blobs.length ca1_2,.slice Aa1_3 a1.Entries.length ca1_3] 25 (0,0)))::(some (g1,.cells #[iv a0.Room,iv a0.Lease,.slice Aa0_2 a0.Blobs.length ca0_2,.slice Aa0_3 a0.Entries.length ca0_3] 25 (0,0)))::F)) [3,3,3,3,3,3,3,3,3,3,3,3,3,3,3,3,3,3,3,3,3,3,3,3,3,3,3,3,3,3,3,3,3,3,3,3,3,3,3,3,3,0,3,3] (n:=44) (ls:=[false,false,false,false,false,false,false,false,false,false,false,false,false,false,false,false,false,false,false,false,false,false,false,false,false,false,false,false,false,false,false,false,false,false,false,false,false,false,false,false,false,false,false,false]) (by kernel_rfl) (by kernel_rfl) (by kernel_rfl) rfl ?_
   obtain ⟨x1,hx1,heq⟩:=bind_some heq
   obtain ⟨ha1,cs1,hK1,hcc1⟩:=hra0_3.get hx1
   obtain ⟨A1,c1,rfl,hc1,hr1⟩:=kEntry_open hK1
   obtain ⟨x2,hx2,heq⟩:=bind_some heq
   obtain ⟨ha2,cs2,hK2,hcc2⟩:=hra1_3.get hx2
   obtain ⟨A2,c2,rfl,hc2,hr2⟩:=kEntry_open hK2
   refine Dk [0,1,2,3,4,5,6,7,8,9,10,11,12,13] 30 (nb 44 16383) [.slice Aa0_3 a0.Entries.length ca0_3,.string x1.Key,.slice Aa1_3 a1.Entries.length ca1_3,.string x2.Key] [.load ⟨g1,3,none⟩ (.slice Aa0_3 a0.Entries.length ca0_3),.need (Aa0_3=some (adr Aa0_3)∧(0:Int)≤v_i6∧v_i6<((a0.Entries.length:Nat):Int)),.load (((adr Aa0_3).add (v_i6.toNat*3)).add 0) (.string x1.Key),.load ⟨g2,3,none⟩ (.slice Aa1_3 a1.Entries.length ca1_3),.need (Aa1_3=some (adr Aa1_3)∧(0:Int)≤v_i6∧v_i6<((a1.Entries.length:Nat):Int)),.load (((adr Aa1_3).add (v_i6.toNat*3)).add 0) (.string x2.Key)] [75,2,3,6] [(75,.bool (!sEq x1.Key x2.Key)),(2,pg g1 0),(3,pg g2 0),(6,iv v_i6)] (Pk 2 [0,1]) (Pk 2 [0,1]) (fun w hh=>⟨(hh.box 1 rfl rfl),⟨ha1,(at?_some hx1).1,(at?_some hx1).2.1⟩,(hcc1 _ _ (hh.drop 2) 0 _ rfl),(hh.box 0 rfl rfl),⟨ha2,(at?_some hx2).1,(at?_some hx2).2.1⟩,(hcc2 _ _ (hh.drop 2) 0 _ rfl)⟩) ?_
   rcases bool_cases (!sEq x1.Key x2.Key) with hb6 | hb6
   ·replace heq:=bif_true hb6 heq
    refine DrH.val1 (v':=.bool true) (congrArg Value.bool hb6) ?_
    refine Dk [14,15,16,17,18,19,20,21,22,23,24,25,26,27,28,29,30,31,32,33,34,35,36,37,38,39,40,41,42,43] 0 (nb 44 17592186044415) [] [] [2,3,6,105] [(2,pg g1 0),(3,pg g2 0),(6,iv v_i6),(105,.bool true)] (Pk 2 [0,1]) (Pk 2 [0,1]) (fun _ _=>trivial) ?_
    obtain rfl:=Option.some.inj heq
    refine Kr [2,3,6,105] [(2,pg g1 0),(3,pg g2 0),(6,iv v_i6),(105,.bool true)] ?_
    refine DrH.done (by kernel_rfl) ?_
    exact K4
   ·replace heq:=bif_false hb6 heq
    refine DrH.val1 (v':=.bool false) (congrArg Value.bool hb6) ?_
    obtain ⟨ha3,cs3,hK3,hcc3⟩:=hra0_3.get hx1
    obtain ⟨A3,c3,rfl,hc3,hr3⟩:=kEntry_open hK3
    obtain ⟨ha4,cs4,hK4,hcc4⟩:=hra1_3.get hx2
    obtain ⟨A4,c4,rfl,hc4,hr4⟩:=kEntry_open hK4
    refine Dk [14,15,16,17,18,19,20,21,22,23,24,25,26,27,28] 15 (nb 44 536870911) [.slice Aa0_3 a0.Entries.length ca0_3,iv x1.Used,.slice Aa1_3 a1.Entries.length ca1_3,iv x2.Used] [.load ⟨g1,3,none⟩ (.slice Aa0_3 a0.Entries.length ca0_3),.need (Aa0_3=some (adr Aa0_3)∧(0:Int)≤v_i6∧v_i6<((a0.Entries.length:Nat):Int)),.load (((adr Aa0_3).add (v_i6.toNat*3)).add 2) (iv x1.Used),.load ⟨g2,3,none⟩ (.slice Aa1_3 a1.Entries.length ca1_3),.need (Aa1_3=some (adr Aa1_3)∧(0:Int)≤v_i6∧v_i6<((a1.Entries.length:Nat):Int)),.load (((adr Aa1_3).add (v_i6.toNat*3)).add 2) (iv x2.Used)] [90,2,3,6] [(90,.bool (x1.Used != x2.Used)),(2,pg g1 0),(3,pg g2 0),(6,iv v_i6)] (Pk 2 [0,1]) (Pk 2 [0,1]) (fun w hh=>⟨(hh.box 1 rfl rfl),⟨ha3,(at?_some hx1).1,(at?_some hx1).2.1⟩,(hcc3 _ _ (hh.drop 2) 2 _ rfl),(hh.box 0 rfl rfl),⟨ha4,(at?_some hx2).1,(at?_some hx2).2.1⟩,(hcc4 _ _ (hh.drop 2) 2 _ rfl)⟩) ?_
    rcases bool_cases (x1.Used != x2.Used) with hb7 | hb7
    ·replace heq:=bif_true hb7 heq
     refine DrH.val1 (v':=.bool true) (congrArg Value.bool hb7) ?_
     refine Dk [29,30,31,32,33,34,35,36,37,38,39,40,41,42,43] 0 (nb 44 17592186044415) [] [] [2,3,6,105] [(2,pg g1 0),(3,pg g2 0),(6,iv v_i6),(105,.bool true)] (Pk 2 [0,1]) (Pk 2 [0,1]) (fun _ _=>trivial) ?_
     obtain rfl:=Option.some.inj heq
     refine Kr [2,3,6,105] [(2,pg g1 0),(3,pg g2 0),(6,iv v_i6),(105,.bool true)] ?_
     refine DrH.done (by kernel_rfl) ?_
     exact K4
    ·replace heq:=bif_false hb7 heq
     refine DrH.val1 (v':=.bool false) (congrArg Value.bool hb7) ?_
     obtain ⟨ha5,cs5,hK5,hcc5⟩:=hra0_3.get hx1
     obtain ⟨A5,c5,rfl,hc5,hr5⟩:=kEntry_open hK5
     obtain ⟨ha6,cs6,hK6,hcc6⟩:=hra1_3.get hx2
     obtain ⟨A6,c6,rfl,hc6,hr6⟩:=kEntry_open hK6
     refine Dk [29,30,31,32,33,34,35,36,37,38,39,40] 3 (nb 44 2199023255551) [.slice Aa0_3 a0.Entries.length ca0_3,.slice A5 x1.Refs.length c5,.slice Aa1_3 a1.Entries.length ca1_3,.slice A6 x2.Refs.length c6] [.load ⟨g1,3,none⟩ (.slice Aa0_3 a0.Entries.length ca0_3),.need (Aa0_3=some (adr Aa0_3)∧(0:Int)≤v_i6∧v_i6<((a0.Entries.length:Nat):Int)),.load (((adr Aa0_3).add (v_i6.toNat*3)).add 1) (.slice A5 x1.Refs.length c5),.load ⟨g2,3,none⟩ (.slice Aa1_3 a1.Entries.length ca1_3),.need (Aa1_3=some (adr Aa1_3)∧(0:Int)≤v_i6∧v_i6<((a1.Entries.length:Nat):Int)),.load (((adr Aa1_3).add (v_i6.toNat*3)).add 1) (.slice A6 x2.Refs.length c6)] [2,3,6,90,96,102] [(2,pg g1 0),(3,pg g2 0),(6,iv v_i6),(90,.bool false),(96,.slice A5 x1.Refs.length c5),(102,.slice A6 x2.Refs.length c6)] (Pk 2 [0,1]) (Pk 2 [0,1]) (fun w hh=>⟨(hh.box 1 rfl rfl),⟨ha5,(at?_some hx1).1,(at?_some hx1).2.1⟩,(hcc5 _ _ (hh.drop 2) 1 _ rfl),(hh.box 0 rfl rfl),⟨ha6,(at?_some hx2).1,(at?_some hx2).2.1⟩,(hcc6 _ _ (hh.drop 2) 1 _ rfl)⟩) ?_
     obtain ⟨y1,hy1,heq⟩:=bind_some heq
     refine DrH.does (n:=2) (ls':=[true,true,true,true,true,true,true,true,true,true,true,true,true,true,true,true,true,true,true,true,true,true,true,true,true,true,true,true,true,true,true,true,true,true,true,true,true,true,true,true,true,true,false,false]) 41 (by kernel_rfl) rfl (DoesH.call (d:=103) (g:=56) (args:=#[.slice A5 x1.Refs.length c5,.slice A6 x2.Refs.length c6]) (by kernel_rfl) (smithyardref7_sameList_c (a0:=x1.Refs) (a1:=x2.Refs) (Rw.of hr5) hc5 rfl (Rw.of hr6) hc6 rfl hy1)) ?_
     rintro _ _ _ _ ⟨_,rfl,rfl,rfl,rfl⟩
     refine ⟨fun _ w hh=>⟨fun _=>(Pk 2 [0,1]) w hh,fun _=>(Pk 2 [0,1]) w hh,(fun h=>by cases h)⟩,?_⟩
     refine Dk [42,43] 0 (nb 44 17592186044415) [] [] [2,3,6,105] [(2,pg g1 0),(3,pg g2 0),(6,iv v_i6),(105,.bool (!y1))] (Pk 2 [0,1]) (Pk 2 [0,1]) (fun _ _=>trivial) ?_
     obtain rfl:=Option.some.inj heq
     refine Kr [2,3,6,105] [(2,pg g1 0),(3,pg g2 0),(6,iv v_i6),(105,.bool (!y1))] ?_
     refine DrH.done (by kernel_rfl) ?_
     exact K4
  ·replace heq:=bif_false hb5 heq
   refine Cf (decide (v_i6<(a0.Entries.length:Int))) hb5<|Ad 2 [.c [1,1,1,1,0],.c [1,1,1,1,1]]<|Kp [] [] ?_
   refine RunH.pick 2 [] (cs':=F) (by kernel_rfl) rfl ?_
   exact he2 heq
theorem smithyardref7_Same.e1_c {w0:World} {H:Hp} {F:List Ch} {r:Bool}:∀ (a0:Cache) (Aa0_2:Option Addr) (ca0_2:Nat) (Aa0_3:Option Addr) (ca0_3:Nat) (a1:Cache) (Aa1_2:Option Addr) (ca1_2:Nat) (Aa1_3:Option Addr) (ca1_3:Nat) (g1:Nat) (g2:Nat) ,Rw kBlob H F Aa0_2 a0.Blobs→a0.Blobs.length≤ca0_2→Rw kEntry H F Aa0_3 a0.Entries→a0.Entries.length≤ca0_3→Rw kBlob H F Aa1_2 a1.Blobs→a1.Blobs.length≤ca1_2→Rw kEntry H F Aa1_3 a1.Entries→a1.Entries.length≤ca1_3→smithyardref7_Same.e1 a0 a1=some r→RunH C21 (S21 F H r) H w0 [.c [1,1,1,0,0],.c [1,1,1,0,1],.c [1,1,1,1]] [(2,pg g1 0),(3,pg g2 0)] H ((some (g2,.cells #[iv a1.Room,iv a1.Lease,.slice Aa1_2 a1.Blobs.length ca1_2,.slice Aa1_3 a1.Entries.length ca1_3] 25 (0,0)))::(some (g1,.cells #[iv a0.Room,iv a0.Lease,.slice Aa0_2 a0.Blobs.length ca0_2,.slice Aa0_3 a0.Entries.length ca0_3] 25 (0,0)))::F):=by
 intro a0 Aa0_2 ca0_2 Aa0_3 ca0_3 a1 Aa1_2 ca1_2 Aa1_3 ca1_3 g1 g2 hra0_2 hca0_2 hra0_3 hca0_3 hra1_2 hca1_2 hra1_3 hca1_3 heq
 unfold smithyardref7_Same.e1 at heq
 refine Rr<|Rd 1 [2,3,6] [(2,pg g1 0),(3,pg g2 0),(6,iv 0)]<|Ad 2 [.c [1,1,1,0,1,0,0],.l [1,1,1,0,1,0,0],.b 2,.c [1,1,1,1]]<|Kp [2,3,6] [(2,pg g1 0),(3,pg g2 0),(6,iv 0)] ?_
 exact ((smithyardref7_Same.l3_c (e2:=smithyardref7_Same.e2) (smithyardref7_Same.e2_c)) big) a0 _ _ _ _ a1 _ _ _ _ _ _ 0 hra0_2 hca0_2 hra0_3 hca0_3 hra1_2 hca1_2 hra1_3 hca1_3 heq
theorem smithyardref7_Same.l4_c {w0:World} {H:Hp} {F:List Ch} {r:Bool} (e1:Cache→Cache→Option Bool)
  (he1:∀ (a0:Cache) (Aa0_2:Option Addr) (ca0_2:Nat) (Aa0_3:Option Addr) (ca0_3:Nat) (a1:Cache) (Aa1_2:Option Addr) (ca1_2:Nat) (Aa1_3:Option Addr) (ca1_3:Nat) (g1:Nat) (g2:Nat) ,Rw kBlob H F Aa0_2 a0.Blobs→a0.Blobs.length≤ca0_2→Rw kEntry H F Aa0_3 a0.Entries→a0.Entries.length≤ca0_3→Rw kBlob H F Aa1_2 a1.Blobs→a1.Blobs.length≤ca1_2→Rw kEntry H F Aa1_3 a1.Entries→a1.Entries.length≤ca1_3→e1 a0 a1=some r→RunH C21 (S21 F H r) H w0 [.c [1,1,1,0,0],.c [1,1,1,0,1],.c [1,1,1,1]] [(2,pg g1 0),(3,pg g2 0)] H ((some (g2,.cells #[iv a1.Room,iv a1.Lease,.slice Aa1_2 a1.Blobs.length ca1_2,.slice Aa1_3 a1.Entries.length ca1_3] 25 (0,0)))::(some (g1,.cells #[iv a0.Room,iv a0.Lease,.slice Aa0_2 a0.Blobs.length ca0_2,.slice Aa0_3 a0.Entries.length ca0_3] 25 (0,0)))::F)):∀ (k:Nat),∀ (a0:Cache) (Aa0_2:Option Addr) (ca0_2:Nat) (Aa0_3:Option Addr) (ca0_3:Nat) (a1:Cache) (Aa1_2:Option Addr) (ca1_2:Nat) (Aa1_3:Option Addr) (ca1_3:Nat) (g1:Nat) (g2:Nat) (v_i5:Int) ,Rw kBlob H F Aa0_2 a0.Blobs→a0.Blobs.length≤ca0_2→Rw kEntry H F Aa0_3 a0.Entries→a0.Entries.length≤ca0_3→Rw kBlob H F Aa1_2 a1.Blobs→a1.Blobs.length≤ca1_2→Rw kEntry H F Aa1_3 a1.Entries→a1.Entries.length≤ca1_3→smithyardref7_Same.l4 e1 k a0 a1 v_i5=some r→RunH C21 (S21 F H r) H w0 [.c [1,1,0,1,0,0],.l [1,1,0,1,0,0],.b 0,.c [1,1,1]] [(2,pg g1 0),(3,pg g2 0),(5,iv v_i5)] H ((some (g2,.cells #[iv a1.Room,iv a1.Lease,.slice Aa1_2 a1.Blobs.length ca1_2,.slice Aa1_3 a1.Entries.length ca1_3] 25 (0,0)))::(some (g1,.cells #[iv a0.Room,iv a0.Lease,.slice Aa0_2 a0.Blobs.length ca0_2,.slice Aa0_3 a0.Entries.length ca0_3] 25 (0,0)))::F):=by
 intro k
 induction k with
 | zero=>intro a0 Aa0_2 ca0_2 Aa0_3 ca0_3 a1 Aa1_2 ca1_2 Aa1_3 ca1_3 g1 g2 v_i5 hra0_2 hca0_2 hra0_3 hca0_3 hra1_2 hca1_2 hra1_3 hca1_3 heq; exact nomatch (show (none:Option Bool)=some r from heq)
 | succ k ihk =>
  intro a0 Aa0_2 ca0_2 Aa0_3 ca0_3 a1 Aa1_2 ca1_2 Aa1_3 ca1_3 g1 g2 v_i5 hra0_2 hca0_2 hra0_3 hca0_3 hra1_2 hca1_2 hra1_3 hca1_3 heq
  rw [smithyardref7_Same.l4] at heq
  refine Ra 2 [1,1,0,1,0,0,0,0] [.c [1,1,0,1,0,0,0,1],.c [1,1,0,1,0,0,1],.l [1,1,0,1,0,0],.b 0,.c [1,1,1]]<|Rw' 5 [2,3,5,41] [.slice Aa0_2 a0.Blobs.length ca0_2] [.load ⟨g1,2,none⟩ (.slice Aa0_2 a0.Blobs.length ca0_2)] [(2,pg g1 0),(3,pg g2 0),(5,iv v_i5),(41,.bool (decide (v_i5<(a0.Blobs.length:Int))))] (fun w hh=>(hh.box 1 rfl rfl)) ?_
  rcases bool_cases (decide (v_i5<(a0.Blobs.length:Int))) with hb9 | hb9
  ·replace heq:=bif_true hb9 heq
   refine Ct (decide (v_i5<(a0.Blobs.length:Int))) hb9<|Ad 4 [.c [1,1,0,1,0,0,1,0,0,0],.c [1,1,0,1,0,0,1,0,0,1],.b 1,.c [1,1,0,1,0,0,1,1],.l [1,1,0,1,0,0],.b 0,.c [1,1,1]]<|Kp [2,3,5] [(2,pg g1 0),(3,pg g2 0),(5,iv v_i5)] ?_
   refine RunH.draw (fun w=>Heap H w0 w ((some (g2,.cells #[iv a1.Room,iv a1.Lease,.slice Aa1_2 a1.Blobs.length ca1_2,.slice Aa1_3 a1.Entries.length ca1_3] 25 (0,0)))::(some (g1,.cells #[iv a0.Room,iv a0.Lease,.slice Aa0_2 a0.Blobs.length ca0_2,.slice Aa0_3 a0.Entries.length ca0_3] 25 (0,0)))::F)) (fun w=>Heap H w0 w ((some (g2,.cells #[iv a1.Room,iv a1.Lease,.slice Aa1_2 a1.Blobs.length ca1_2,.slice Aa1_3 a1.Entries.length ca1_3] 25 (0,0)))::(some (g1,.cells #[iv a0.Room,iv a0.Lease,.slice Aa0_2 a0.Blobs.length ca0_2,.slice Aa0_3 a0.Entries.length ca0_3] 25 (0,0)))::F)) [3,3,3,3,3,3,3,3,3,3,3] (n:=11) (ls:=[false,false,false,false,false,false,false,false,false,false,false]) (by kernel_rfl) (by kernel_rfl) (by kernel_rfl) rfl ?_
   obtain ⟨x3,hx3,heq⟩:=bind_some heq
   obtain ⟨ha7,cs7,hK7,hcc7⟩:=hra0_2.get hx3
   obtain ⟨rfl⟩:=kBlob_open hK7
   obtain ⟨x4,hx4,heq⟩:=bind_some heq
   obtain ⟨ha8,cs8,hK8,hcc8⟩:=hra1_2.get hx4
   obtain ⟨rfl⟩:=kBlob_open hK8
   refine Dk [0,1,2,3,4,5,6,7,8,9,10] 0 (nb 11 2047) [.slice Aa0_2 a0.Blobs.length ca0_2,.string x3.Digest,iv x3.Size,iv x3.Used,iv x3.Until,iv x3.Pins,.slice Aa1_2 a1.Blobs.length ca1_2,.string x4.Digest,iv x4.Size,iv x4.Used,iv x4.Until,iv x4.Pins] [.load ⟨g1,2,none⟩ (.slice Aa0_2 a0.Blobs.length ca0_2),.need (Aa0_2=some (adr Aa0_2)∧(0:Int)≤v_i5∧v_i5<((a0.Blobs.length:Nat):Int)),.load (((adr Aa0_2).add (v_i5.toNat*5)).add 0) (.string x3.Digest),.load (((adr Aa0_2).add (v_i5.toNat*5)).add 1) (iv x3.Size),.load (((adr Aa0_2).add (v_i5.toNat*5)).add 2) (iv x3.Used),.load (((adr Aa0_2).add (v_i5.toNat*5)).add 3) (iv x3.Until),.load (((adr Aa0_2).add (v_i5.toNat*5)).add 4) (iv x3.Pins),.load ⟨g2,2,none⟩ (.slice Aa1_2 a1.Blobs.length ca1_2),.need (Aa1_2=some (adr Aa1_2)∧(0:Int)≤v_i5∧v_i5<((a1.Blobs.length:Nat):Int)),.load (((adr Aa1_2).add (v_i5.toNat*5)).add 0) (.string x4.Digest),.load (((adr Aa1_2).add (v_i5.toNat*5)).add 1) (iv x4.Size),.load (((adr Aa1_2).add (v_i5.toNat*5)).add 2) (iv x4.Used),.load (((adr Aa1_2).add (v_i5.toNat*5)).add 3) (iv x4.Until),.load (((adr Aa1_2).add (v_i5.toNat*5)).add 4) (iv x4.Pins)] [2,3,5,54] [(2,pg g1 0),(3,pg g2 0),(5,iv v_i5),(54,.bool (!(sEq x3.Digest x4.Digest&&(x3.Size == x4.Size&&(x3.Used == x4.Used&&(x3.Until == x4.Until&&(x3.Pins == x4.Pins&&true)))))))] (Pk 2 [0,1]) (Pk 2 [0,1]) (fun w hh=>⟨(hh.box 1 rfl rfl),⟨ha7,(at?_some hx3).1,(at?_some hx3).2.1⟩,(hcc7 _ _ (hh.drop 2) 0 _ rfl),(hcc7 _ _ (hh.drop 2) 1 _ rfl),(hcc7 _ _ (hh.drop 2) 2 _ rfl),(hcc7 _ _ (hh.drop 2) 3 _ rfl),(hcc7 _ _ (hh.drop 2) 4 _ rfl),(hh.box 0 rfl rfl),⟨ha8,(at?_some hx4).1,(at?_some hx4).2.1⟩,(hcc8 _ _ (hh.drop 2) 0 _ rfl),(hcc8 _ _ (hh.drop 2) 1 _ rfl),(hcc8 _ _ (hh.drop 2) 2 _ rfl),(hcc8 _ _ (hh.drop 2) 3 _ rfl),(hcc8 _ _ (hh.drop 2) 4 _ rfl)⟩) ?_
   refine DrH.done (by kernel_rfl) ?_
   rcases bool_cases (!(sEq x3.Digest x4.Digest&&(x3.Size == x4.Size&&(x3.Used == x4.Used&&(x3.Until == x4.Until&&(x3.Pins == x4.Pins&&true)))))) with hb10 | hb10
   ·replace heq:=bif_true hb10 heq
    refine Ct (!(sEq x3.Digest x4.Digest&&(x3.Size == x4.Size&&(x3.Used == x4.Used&&(x3.Until == x4.Until&&(x3.Pins == x4.Pins&&true)))))) hb10<|Ra 1 [1,1,0,1,0,0,1,0,0,1,0,0] [.c [1,1,0,1,0,0,1,0,0,1,0,1],.b 1,.c [1,1,0,1,0,0,1,1],.l [1,1,0,1,0,0],.b 0,.c [1,1,1]]<|Rd 1 [4] [(4,.bool false)] ?_
    obtain rfl:=Option.some.inj heq
    refine RunH.pick 2 [] (cs':=F) (by kernel_rfl) rfl ?_
    exact RunH.done (by kernel_rfl) Tryd.func21 (v:=.bool false) (by kernel_rfl) ⟨rfl,rfl,rfl⟩
   ·replace heq:=bif_false hb10 heq
    refine Cf (!(sEq x3.Digest x4.Digest&&(x3.Size == x4.Size&&(x3.Used == x4.Used&&(x3.Until == x4.Until&&(x3.Pins == x4.Pins&&true)))))) hb10<|Ra 2 [1,1,0,1,0,0,1,1] [.l [1,1,0,1,0,0],.b 0,.c [1,1,1]]<|Rd 3 [2,3,5] [(2,pg g1 0),(3,pg g2 0),(5,iv (w64 (v_i5+1)))]<|Ad 1 [.c [1,1,0,1,0,0],.l [1,1,0,1,0,0],.b 0,.c [1,1,1]]<|Kp [2,3,5] [(2,pg g1 0),(3,pg g2 0),(5,iv (w64 (v_i5+1)))] ?_
    exact ihk a0 _ _ _ _ a1 _ _ _ _ _ _ (w64 (v_i5+1)) hra0_2 hca0_2 hra0_3 hca0_3 hra1_2 hca1_2 hra1_3 hca1_3 heq
  ·replace heq:=bif_false hb9 heq
   refine Cf (decide (v_i5<(a0.Blobs.length:Int))) hb9<|Ad 3 [.c [1,1,1,0,0],.c [1,1,1,0,1],.c [1,1,1,1]]<|Kp [2,3] [(2,pg g1 0),(3,pg g2 0)] ?_
   exact he1 a0 _ _ _ _ a1 _ _ _ _ _ _ hra0_2 hca0_2 hra0_3 hca0_3 hra1_2 hca1_2 hra1_3 hca1_3 heq
theorem smithyardref7_Same_c {w0:World} {H:Hp} {F:List Ch} {a0:Cache} {Aa0_2:Option Addr} {na0_2:Nat} {ca0_2:Nat} {Aa0_3:Option Addr} {na0_3:Nat} {ca0_3:Nat} {a1:Cache} {Aa1_2:Option Addr} {na1_2:Nat} {ca1_2:Nat} {Aa1_3:Option Addr} {na1_3:Nat} {ca1_3:Nat} {r:Bool} (hra0_2:Rw kBlob H F Aa0_2 a0.Blobs) (hca0_2:na0_2≤ca0_2) (hna0_2:na0_2=a0.Blobs.length) (hra0_3:Rw kEntry H F Aa0_3 a0.Entries) (hca0_3:na0_3≤ca0_3) (hna0_3:na0_3=a0.Entries.length) (hra1_2:Rw kBlob H F Aa1_2 a1.Blobs) (hca1_2:na1_2≤ca1_2) (hna1_2:na1_2=a1.Blobs.length) (hra1_3:Rw kEntry H F Aa1_3 a1.Entries) (hca1_3:na1_3≤ca1_3) (hna1_3:na1_3=a1.Entries.length) (heq:smithyardref7_Same.f a0 a1=some r):CallsH Tryd.prog 21 #[.agg #[iv a0.Room,iv a0.Lease,.slice Aa0_2 na0_2 ca0_2,.slice Aa0_3 na0_3 ca0_3],.agg #[iv a1.Room,iv a1.Lease,.slice Aa1_2 na1_2 ca1_2,.slice Aa1_3 na1_3 ca1_3]] H w0 (F) (S21 F H r):=by
 refine calls_of_runH (F:=C21) Tryd.func21 (by kernel_rfl) Tryd.ntmps21 (args:=[.agg #[iv a0.Room,iv a0.Lease,.slice Aa0_2 na0_2 ca0_2,.slice Aa0_3 na0_3 ca0_3],.agg #[iv a1.Room,iv a1.Lease,.slice Aa1_2 na1_2 ca1_2,.slice Aa1_3 na1_3 ca1_3]]) (by kernel_rfl) ?_
 subst hna0_2
 subst hna0_3
 subst hna1_2
 subst hna1_3
 unfold smithyardref7_Same.f at heq
 refine Ra 1 [0] [.c [1]] ?_
 refine RgH.does (DoesH.new (d:=2) (v:=fun g=>.pointer (some ⟨g,0,none⟩)) (o:=fun g=>.cells #[iv a0.Room,iv a0.Lease,.slice Aa0_2 a0.Blobs.length ca0_2,.slice Aa0_3 a0.Entries.length ca0_3] 25 (0,0)) (fun g=>by kernel_rfl)) ?_
 rintro _ _ _ _ ⟨g1,rfl,rfl,rfl⟩
 refine RgH.does (DoesH.new (d:=3) (v:=fun g=>.pointer (some ⟨g,0,none⟩)) (o:=fun g=>.cells #[iv a1.Room,iv a1.Lease,.slice Aa1_2 a1.Blobs.length ca1_2,.slice Aa1_3 a1.Entries.length ca1_3] 25 (0,0)) (fun g=>by kernel_rfl)) ?_
 rintro _ _ _ _ ⟨g2,rfl,rfl,rfl⟩
 refine Rd 3 [2,3] [(2,pg g1 0),(3,pg g2 0)]<|Ad 2 [.c [1,0,0],.c [1,0,1],.c [1,1]] ?_
 obtain ⟨t1,ht1,heq⟩:=bind_some heq
 have K3:RunH C21 (S21 F H r) H w0 [.c [1,0,1],.c [1,1]] [(2,pg g1 0),(3,pg g2 0),(36,.bool t1)] H ((some (g2,.cells #[iv a1.Room,iv a1.Lease,.slice Aa1_2 a1.Blobs.length ca1_2,.slice Aa1_3 a1.Entries.length ca1_3] 25 (0,0)))::(some (g1,.cells #[iv a0.Room,iv a0.Lease,.slice Aa0_2 a0.Blobs.length ca0_2,.slice Aa0_3 a0.Entries.length ca0_3] 25 (0,0)))::F):=by
  rcases bool_cases (t1) with hb4 | hb4
  ·replace heq:=bif_true hb4 heq
   refine Ct t1 hb4<|Ra 1 [1,0,1,0,0] [.c [1,0,1,0,1],.c [1,1]]<|Rd 1 [4] [(4,.bool false)] ?_
   obtain rfl:=Option.some.inj heq
   refine RunH.pick 2 [] (cs':=F) (by kernel_rfl) rfl ?_
   exact RunH.done (by kernel_rfl) Tryd.func21 (v:=.bool false) (by kernel_rfl) ⟨rfl,rfl,rfl⟩
  ·replace heq:=bif_false hb4 heq
   refine Cf t1 hb4<|Ra 3 [1,1,0,0] [.c [1,1,0,1],.c [1,1,1]]<|Rd 1 [2,3,5] [(2,pg g1 0),(3,pg g2 0),(5,iv 0)]<|Ad 2 [.c [1,1,0,1,0,0],.l [1,1,0,1,0,0],.b 0,.c [1,1,1]]<|Kp [2,3,5] [(2,pg g1 0),(3,pg g2 0),(5,iv 0)] ?_
   exact ((smithyardref7_Same.l4_c (e1:=smithyardref7_Same.e1) (smithyardref7_Same.e1_c)) big) a0 _ _ _ _ a1 _ _ _ _ _ _ 0 hra0_2 hca0_2 hra0_3 hca0_3 hra1_2 hca1_2 hra1_3 hca1_3 heq
 replace heq:=ht1
 refine Rr<|Rv 6 [12,2,3] [iv a0.Room,iv a1.Room] [.load ⟨g1,0,none⟩ (iv a0.Room),.load ⟨g2,0,none⟩ (iv a1.Room)] [(12,.bool (a0.Room != a1.Room)),(2,pg g1 0),(3,pg g2 0)] (fun w hh=>⟨(hh.box 1 rfl rfl),(hh.box 0 rfl rfl)⟩) ?_
 rcases bool_cases (a0.Room != a1.Room) with hb1 | hb1
 ·replace heq:=bif_true hb1 heq
  refine RgH.val1 (v':=.bool true) (congrArg Value.bool hb1) ?_
  refine Rk 30 [2,3,36] [(2,pg g1 0),(3,pg g2 0),(36,.bool true)] ?_
  obtain rfl:=Option.some.inj heq
  refine Kg [2,3,36] [(2,pg g1 0),(3,pg g2 0),(36,.bool true)]<|Dn ?_
  exact K3
 ·replace heq:=bif_false hb1 heq
  refine RgH.val1 (v':=.bool false) (congrArg Value.bool hb1) ?_
  refine Rv 13 [19,2,3] [iv a0.Lease,iv a1.Lease] [.load ⟨g1,1,none⟩ (iv a0.Lease),.load ⟨g2,1,none⟩ (iv a1.Lease)] [(19,.bool (a0.Lease != a1.Lease)),(2,pg g1 0),(3,pg g2 0)] (fun w hh=>⟨(hh.box 1 rfl rfl),(hh.box 0 rfl rfl)⟩) ?_
  rcases bool_cases (a0.Lease != a1.Lease) with hb2 | hb2
  ·replace heq:=bif_true hb2 heq
   refine RgH.val1 (v':=.bool true) (congrArg Value.bool hb2) ?_
   refine Rk 30 [2,3,36] [(2,pg g1 0),(3,pg g2 0),(36,.bool true)] ?_
   obtain rfl:=Option.some.inj heq
   refine Kg [2,3,36] [(2,pg g1 0),(3,pg g2 0),(36,.bool true)]<|Dn ?_
   exact K3
  ·replace heq:=bif_false hb2 heq
   refine RgH.val1 (v':=.bool false) (congrArg Value.bool hb2) ?_
   refine Rv 22 [28,2,3] [.slice Aa0_2 a0.Blobs.length ca0_2,.slice Aa1_2 a1.Blobs.length ca1_2] [.load ⟨g1,2,none⟩ (.slice Aa0_2 a0.Blobs.length ca0_2),.load ⟨g2,2,none⟩ (.slice Aa1_2 a1.Blobs.length ca1_2)] [(28,.bool ((a0.Blobs.length:Int) != (a1.Blobs.length:Int))),(2,pg g1 0),(3,pg g2 0)] (fun w hh=>⟨(hh.box 1 rfl rfl),(hh.box 0 rfl rfl)⟩) ?_
   rcases bool_cases ((a0.Blobs.length:Int) != (a1.Blobs.length:Int)) with hb3 | hb3
   ·replace heq:=bif_true hb3 heq
    refine RgH.val1 (v':=.bool true) (congrArg Value.bool hb3) ?_
    refine Rk 30 [2,3,36] [(2,pg g1 0),(3,pg g2 0),(36,.bool true)] ?_
    obtain rfl:=Option.some.inj heq
    refine Kg [2,3,36] [(2,pg g1 0),(3,pg g2 0),(36,.bool true)]<|Dn ?_
    exact K3
   ·replace heq:=bif_false hb3 heq
    refine RgH.val1 (v':=.bool false) (congrArg Value.bool hb3) ?_
    refine Rv 30 [2,3,36] [.slice Aa0_3 a0.Entries.length ca0_3,.slice Aa1_3 a1.Entries.length ca1_3] [.load ⟨g1,3,none⟩ (.slice Aa0_3 a0.Entries.length ca0_3),.load ⟨g2,3,none⟩ (.slice Aa1_3 a1.Entries.length ca1_3)] [(2,pg g1 0),(3,pg g2 0),(36,.bool ((a0.Entries.length:Int) != (a1.Entries.length:Int)))] (fun w hh=>⟨(hh.box 1 rfl rfl),(hh.box 0 rfl rfl)⟩) ?_
    obtain rfl:=Option.some.inj heq
    refine Kg [2,3,36] [(2,pg g1 0),(3,pg g2 0),(36,.bool ((a0.Entries.length:Int) != (a1.Entries.length:Int)))]<|Dn ?_
    exact K3
noncomputable def C66:Ctx:={ P:=Tryd.prog,f:=66,N:=19,c:=bodyOf Tryd.f66 }
def S66 (F:List Ch) (H0:Hp) (r:Int) (v:Value) (H:Hp) (cs:List Ch):Prop:=H0=H∧v=iv r∧F=cs
theorem cache_used.e1_c {w0:World} {H:Hp} {F:List Ch} {r:Int}:∀ (v_sum3:Int) ,cache_used.e1 v_sum3=some r→RunH C66 (S66 F H r) H w0 [.c [1,1,1,0],.c [1,1,1,1]] [(3,iv v_sum3)] H (F):=by
 intro v_sum3  heq
 unfold cache_used.e1 at heq
 refine Rr<|Rd 2 [2] [(2,iv v_sum3)] ?_
 obtain rfl:=Option.some.inj heq
 exact RunH.done (by kernel_rfl) Tryd.func66 (v:=iv v_sum3) (by kernel_rfl) ⟨rfl,rfl,rfl⟩
theorem cache_used.l2_c {w0:World} {H:Hp} {F:List Ch} {r:Int} (e1:Int→Option Int)
  (he1:∀ (v_sum3:Int) ,e1 v_sum3=some r→RunH C66 (S66 F H r) H w0 [.c [1,1,1,0],.c [1,1,1,1]] [(3,iv v_sum3)] H (F)):∀ (k:Nat),∀ (a0:Cache) (Aa0_2:Option Addr) (ca0_2:Nat) (v_sum3:Int) (v9:Int) ,Rw kBlob H F Aa0_2 a0.Blobs→a0.Blobs.length≤ca0_2→cache_used.l2 e1 k a0 v_sum3 v9=some r→RunH C66 (S66 F H r) H w0 [.c [1,1,0,1,0,0],.l [1,1,0,1,0,0],.b 0,.c [1,1,1]] [(3,iv v_sum3),(7,.slice Aa0_2 a0.Blobs.length ca0_2),(8,iv (a0.Blobs.length:Int)),(9,iv v9)] H (F):=by
 intro k
 induction k with
 | zero=>intro a0 Aa0_2 ca0_2 v_sum3 v9 hra0_2 hca0_2 heq; exact nomatch (show (none:Option Int)=some r from heq)
 | succ k ihk =>
  intro a0 Aa0_2 ca0_2 v_sum3 v9 hra0_2 hca0_2 heq
  rw [cache_used.l2] at heq
  refine Ra 1 [1,1,0,1,0,0,0] [.c [1,1,0,1,0,0,1],.l [1,1,0,1,0,0],.b 0,.c [1,1,1]]<|Rd 1 [3,7,8,9,10] [(3,iv v_sum3),(7,.slice Aa0_2 a0.Blobs.length ca0_2),(8,iv (a0.Blobs.length:Int)),(9,iv v9),(10,.bool (decide (v9<(a0.Blobs.length:Int))))]<|Ad 1 [.c [1,1,0,1,0,0,1,0],.c [1,1,0,1,0,0,1,1],.l [1,1,0,1,0,0],.b 0,.c [1,1,1]] ?_
  rcases bool_cases (decide (v9<(a0.Blobs.length:Int))) with hb1 | hb1
  ·replace heq:=bif_true hb1 heq
   refine Ct (decide (v9<(a0.Blobs.length:Int))) hb1<|Ra 4 [1,1,0,1,0,0,1,1,0,0,0] [.c [1,1,0,1,0,0,1,1,0,0,1],.b 1,.c [1,1,0,1,0,0,1,1,1],.l [1,1,0,1,0,0],.b 0,.c [1,1,1]] ?_
   obtain ⟨x1,hx1,heq⟩:=bind_some heq
   obtain ⟨ha1,cs1,hK1,hcc1⟩:=hra0_2.get hx1
   obtain ⟨rfl⟩:=kBlob_open hK1
   refine Rv 2 [3,7,8,9,12] [.string x1.Digest,iv x1.Size,iv x1.Used,iv x1.Until,iv x1.Pins] [.need (Aa0_2=some (adr Aa0_2)∧(0:Int)≤v9∧v9<((a0.Blobs.length:Nat):Int)),.load (((adr Aa0_2).add (v9.toNat*5)).add 0) (.string x1.Digest),.load (((adr Aa0_2).add (v9.toNat*5)).add 1) (iv x1.Size),.load (((adr Aa0_2).add (v9.toNat*5)).add 2) (iv x1.Used),.load (((adr Aa0_2).add (v9.toNat*5)).add 3) (iv x1.Until),.load (((adr Aa0_2).add (v9.toNat*5)).add 4) (iv x1.Pins)] [(3,iv v_sum3),(7,.slice Aa0_2 a0.Blobs.length ca0_2),(8,iv (a0.Blobs.length:Int)),(9,iv v9),(12,.agg #[.string x1.Digest,iv x1.Size,iv x1.Used,iv x1.Until,iv x1.Pins])] (fun w hh=>⟨⟨ha1,(at?_some hx1).1,(at?_some hx1).2.1⟩,(hcc1 _ _ (hh.drop 0) 0 _ rfl),(hcc1 _ _ (hh.drop 0) 1 _ rfl),(hcc1 _ _ (hh.drop 0) 2 _ rfl),(hcc1 _ _ (hh.drop 0) 3 _ rfl),(hcc1 _ _ (hh.drop 0) 4 _ rfl)⟩) ?_
   refine RgH.does (DoesH.new (d:=5) (v:=fun g=>.pointer (some ⟨g,0,none⟩)) (o:=fun g=>.cells #[.string ByteArray.empty,iv 0,iv 0,iv 0,iv 0] 47 (0,0)) (fun g=>by kernel_rfl)) ?_
   rintro _ _ _ _ ⟨g2,rfl,rfl,rfl⟩
   refine RgH.does (DoesH.store (k:=0) (g:=g2) (off:=0) (v:=.agg #[.string x1.Digest,iv x1.Size,iv x1.Used,iv x1.Until,iv x1.Pins]) (cells':=#[.string x1.Digest,iv x1.Size,iv x1.Used,iv x1.Until,iv x1.Pins]) (by kernel_rfl) rfl (by kernel_rfl) (by kernel_rfl)) ?_
   rintro _ _ _ _ ⟨rfl,rfl,rfl⟩
   refine Dn<|Rr<|Rw' 5 [3,7,8,9] [iv x1.Size] [.load ⟨g2,1,none⟩ (iv x1.Size)] [(3,iv (w64 (v_sum3+x1.Size))),(7,.slice Aa0_2 a0.Blobs.length ca0_2),(8,iv (a0.Blobs.length:Int)),(9,iv v9)] (fun w hh=>(hh.box 0 rfl rfl))<|Ra 1 [1,1,0,1,0,0,1,1,1] [.l [1,1,0,1,0,0],.b 0,.c [1,1,1]]<|Rd 2 [3,7,8,9] [(3,iv (w64 (v_sum3+x1.Size))),(7,.slice Aa0_2 a0.Blobs.length ca0_2),(8,iv (a0.Blobs.length:Int)),(9,iv (w64 (v9+1)))]<|Ad 1 [.c [1,1,0,1,0,0],.l [1,1,0,1,0,0],.b 0,.c [1,1,1]]<|Kp [3,7,8,9] [(3,iv (w64 (v_sum3+x1.Size))),(7,.slice Aa0_2 a0.Blobs.length ca0_2),(8,iv (a0.Blobs.length:Int)),(9,iv (w64 (v9+1)))] ?_
   refine RunH.pick 1 [] (cs':=F) (by kernel_rfl) rfl ?_
   exact ihk a0 _ _ (w64 (v_sum3+x1.Size)) (w64 (v9+1)) hra0_2 hca0_2 heq
  ·replace heq:=bif_false hb1 heq
   refine Cf (decide (v9<(a0.Blobs.length:Int))) hb1<|Ad 2 [.c [1,1,1,0],.c [1,1,1,1]]<|Kp [3] [(3,iv v_sum3)] ?_
   exact he1 v_sum3 heq
theorem cache_used_c {w0:World} {H:Hp} {F:List Ch} {a0:Cache} {Aa0_2:Option Addr} {na0_2:Nat} {ca0_2:Nat} {Aa0_3:Option Addr} {na0_3:Nat} {ca0_3:Nat} {r:Int} (hra0_2:Rw kBlob H F Aa0_2 a0.Blobs) (hca0_2:na0_2≤ca0_2) (hna0_2:na0_2=a0.Blobs.length) (hra0_3:Rw kEntry H F Aa0_3 a0.Entries) (hca0_3:na0_3≤ca0_3) (hna0_3:na0_3=a0.Entries.length) (heq:cache_used.f a0=some r):CallsH Tryd.prog 66 #[.agg #[iv a0.Room,iv a0.Lease,.slice Aa0_2 na0_2 ca0_2,.slice Aa0_3 na0_3 ca0_3]] H w0 (F) (S66 F H r):=by
 refine calls_of_runH (F:=C66) Tryd.func66 (by kernel_rfl) Tryd.ntmps66 (args:=[.agg #[iv a0.Room,iv a0.Lease,.slice Aa0_2 na0_2 ca0_2,.slice Aa0_3 na0_3 ca0_3]]) (by kernel_rfl) ?_
 subst hna0_2
 subst hna0_3
 unfold cache_used.f at heq
 refine Ra 1 [0] [.c [1]] ?_
 refine RgH.does (DoesH.new (d:=1) (v:=fun g=>.pointer (some ⟨g,0,none⟩)) (o:=fun g=>.cells #[iv a0.Room,iv a0.Lease,.slice Aa0_2 a0.Blobs.length ca0_2,.slice Aa0_3 a0.Entries.length ca0_3] 25 (0,0)) (fun g=>by kernel_rfl)) ?_
 rintro _ _ _ _ ⟨g1,rfl,rfl,rfl⟩
 refine Rd 2 [1] [(1,pg g1 0)]<|Ra 1 [1,0] [.c [1,1]]<|Rd 1 [1,3] [(1,pg g1 0),(3,iv 0)]<|Ra 2 [1,1,0,0] [.c [1,1,0,1],.c [1,1,1]]<|Rw' 4 [3,7,8,9] [.slice Aa0_2 a0.Blobs.length ca0_2] [.load ⟨g1,2,none⟩ (.slice Aa0_2 a0.Blobs.length ca0_2)] [(3,iv 0),(7,.slice Aa0_2 a0.Blobs.length ca0_2),(8,iv (a0.Blobs.length:Int)),(9,iv 0)] (fun w hh=>(hh.box 0 rfl rfl))<|Ad 2 [.c [1,1,0,1,0,0],.l [1,1,0,1,0,0],.b 0,.c [1,1,1]]<|Kp [3,7,8,9] [(3,iv 0),(7,.slice Aa0_2 a0.Blobs.length ca0_2),(8,iv (a0.Blobs.length:Int)),(9,iv 0)] ?_
 refine RunH.pick 1 [] (cs':=F) (by kernel_rfl) rfl ?_
 exact ((cache_used.l2_c (e1:=cache_used.e1) (cache_used.e1_c)) big) a0 _ _ 0 0 hra0_2 hca0_2 heq
def S114 (F:List Ch) (H0:Hp) (r:Int) (v:Value) (H:Hp) (cs:List Ch):Prop:=H0=H∧v=iv r∧F=cs
theorem strings_Compare_c {w0:World} {H:Hp} {F:List Ch} {a0:ByteArray} {a1:ByteArray} {r:Int} (heq:strings_Compare.f a0 a1=some r):CallsH Tryd.prog 114 #[.string a0,.string a1] H w0 F (S114 F H r):=by
 intro w hh
 unfold strings_Compare.f at heq
 obtain rfl:=Option.some.inj heq
 refine (Shelf.Tryd.strings_Compare a0 a1 w).mono ?_
 rintro e w' ⟨rfl,rfl⟩
 exact ⟨_,rfl,H,F,Le.refl H,hh,rfl,rfl,rfl⟩
noncomputable def C116:Ctx:={ P:=Tryd.prog,f:=116,N:=9,c:=bodyOf Tryd.f116 }
def S116 (F:List Ch) (H0:Hp) (r:Int) (v:Value) (H:Hp) (cs:List Ch):Prop:=H0=H∧v=iv r∧F=cs
theorem cache_find_1_c {w0:World} {H:Hp} {F:List Ch} {a0:Blob} {a1:ByteArray} {r:Int} (heq:cache_find_1.f a0 a1=some r):CallsH Tryd.prog 116 #[.agg #[.string a0.Digest,iv a0.Size,iv a0.Used,iv a0.Until,iv a0.Pins],.string a1] H w0 (F) (S116 F H r):=by
 refine calls_of_runH (F:=C116) Tryd.func116 (by kernel_rfl) Tryd.ntmps116 (args:=[.agg #[.string a0.Digest,iv a0.Size,iv a0.Used,iv a0.Until,iv a0.Pins],.string a1]) (by kernel_rfl) ?_
 unfold cache_find_1.f at heq
 refine Ra 1 [0] [.c [1]] ?_
 refine RgH.does (DoesH.new (d:=2) (v:=fun g=>.pointer (some ⟨g,0,none⟩)) (o:=fun g=>.cells #[.string a0.Digest,iv a0.Size,iv a0.Used,iv a0.Until,iv a0.Pins] 47 (0,0)) (fun g=>by kernel_rfl)) ?_
 rintro _ _ _ _ ⟨g1,rfl,rfl,rfl⟩
 refine Rd 2 [1,2] [(1,.string a1),(2,pg g1 0)]<|Ra 1 [1,0] [.c [1,1]]<|Rv 3 [6,7] [.string a0.Digest] [.load ⟨g1,0,none⟩ (.string a0.Digest)] [(6,.string a0.Digest),(7,.string a1)] (fun w hh=>(hh.box 0 rfl rfl)) ?_
 obtain ⟨y1,hy1,heq⟩:=bind_some heq
 refine RgH.does (DoesH.call (d:=8) (g:=114) (args:=#[.string a0.Digest,.string a1]) (by kernel_rfl) (strings_Compare_c (a0:=a0.Digest) (a1:=a1)  hy1)) ?_
 rintro _ _ _ _ ⟨_,rfl,rfl,rfl,rfl⟩
 refine Rd 5 [4] [(4,iv y1)] ?_
 obtain rfl:=Option.some.inj heq
 refine RunH.pick 1 [] (cs':=F) (by kernel_rfl) rfl ?_
 exact RunH.done (by kernel_rfl) Tryd.func116 (v:=iv y1) (by kernel_rfl) ⟨rfl,rfl,rfl⟩
noncomputable def C115:Ctx:={ P:=Tryd.prog,f:=115,N:=49,c:=bodyOf Tryd.f115 }
def S115 (F:List Ch) (H0:Hp) (r:Int × Bool) (v:Value) (H:Hp) (cs:List Ch):Prop:=H0=H∧v=.tuple #[iv r.1,.bool r.2]∧F=cs
theorem slices_BinarySearchFunc_Blob_string.e1_c {w0:World} {H:Hp} {F:List Ch} {r:Int × Bool}:∀ (a0:List Blob) (Aa0:Option Addr) (ca0:Nat) (a1:ByteArray) (v_i9:Int) ,Rw kBlob H F Aa0 a0→a0.length≤ca0→slices_BinarySearchFunc_Blob_string.e1 a0 a1 v_i9=some r→RunH C115 (S115 F H r) H w0 [.c [1,1,1,1,0],.c [1,1,1,1,1]] [(0,.slice Aa0 a0.length ca0),(1,.string a1),(2,.func (.func 116) #[] #[]),(8,iv (a0.length:Int)),(9,iv v_i9)] H (F):=by
 intro a0 Aa0 ca0 a1 v_i9 hra0 hca0 heq
 unfold slices_BinarySearchFunc_Blob_string.e1 at heq
 obtain ⟨t1,ht1,heq⟩:=bind_some heq
 have K1:RunH C115 (S115 F H r) H w0 [.c [1,1,1,1,1]] [(6,iv v_i9),(7,.bool t1)] H (F):=by
  obtain rfl:=Option.some.inj heq
  exact RunH.done (by kernel_rfl) Tryd.func115 (v:=.tuple #[iv v_i9,.bool t1]) (by kernel_rfl) ⟨rfl,rfl,rfl⟩
 replace heq:=ht1
 refine Rr<|Rk 5 [39,0,1,2,9,35] [(39,.bool (decide (v_i9<(a0.length:Int)))),(0,.slice Aa0 a0.length ca0),(1,.string a1),(2,.func (.func 116) #[] #[]),(9,iv v_i9),(35,iv v_i9)] ?_
 rcases bool_cases (decide (v_i9<(a0.length:Int))) with hb1 | hb1
 ·replace heq:=bif_true hb1 heq
  refine RgH.val1 (v':=.bool true) (congrArg Value.bool hb1) ?_
  obtain ⟨x1,hx1,heq⟩:=bind_some heq
  obtain ⟨ha1,cs1,hK1,hcc1⟩:=hra0.get hx1
  obtain ⟨rfl⟩:=kBlob_open hK1
  refine Rv 11 [35,39,40,44,45] [.string x1.Digest,iv x1.Size,iv x1.Used,iv x1.Until,iv x1.Pins] [.need (Aa0=some (adr Aa0)∧(0:Int)≤v_i9∧v_i9<((a0.length:Nat):Int)),.load (((adr Aa0).add (v_i9.toNat*5)).add 0) (.string x1.Digest),.load (((adr Aa0).add (v_i9.toNat*5)).add 1) (iv x1.Size),.load (((adr Aa0).add (v_i9.toNat*5)).add 2) (iv x1.Used),.load (((adr Aa0).add (v_i9.toNat*5)).add 3) (iv x1.Until),.load (((adr Aa0).add (v_i9.toNat*5)).add 4) (iv x1.Pins)] [(35,iv v_i9),(39,.bool true),(40,.func (.func 116) #[] #[]),(44,.agg #[.string x1.Digest,iv x1.Size,iv x1.Used,iv x1.Until,iv x1.Pins]),(45,.string a1)] (fun w hh=>⟨⟨ha1,(at?_some hx1).1,(at?_some hx1).2.1⟩,(hcc1 _ _ (hh.drop 0) 0 _ rfl),(hcc1 _ _ (hh.drop 0) 1 _ rfl),(hcc1 _ _ (hh.drop 0) 2 _ rfl),(hcc1 _ _ (hh.drop 0) 3 _ rfl),(hcc1 _ _ (hh.drop 0) 4 _ rfl)⟩) ?_
  obtain ⟨y1,hy1,heq⟩:=bind_some heq
  refine RgH.does (DoesH.call (d:=46) (g:=116) (args:=#[.agg #[.string x1.Digest,iv x1.Size,iv x1.Used,iv x1.Until,iv x1.Pins],.string a1]) (by kernel_rfl) (cache_find_1_c (a0:=x1) (a1:=a1)  hy1)) ?_
  rintro _ _ _ _ ⟨_,rfl,rfl,rfl,rfl⟩
  refine Rk 16 [6,7] [(6,iv v_i9),(7,.bool (y1 == 0))] ?_
  obtain rfl:=Option.some.inj heq
  refine Kg [6,7] [(6,iv v_i9),(7,.bool (y1 == 0))]<|Dn ?_
  exact K1
 ·replace heq:=bif_false hb1 heq
  refine RgH.val1 (v':=.bool false) (congrArg Value.bool hb1) ?_
  refine Rk 16 [6,7] [(6,iv v_i9),(7,.bool false)] ?_
  obtain rfl:=Option.some.inj heq
  refine Kg [6,7] [(6,iv v_i9),(7,.bool false)]<|Dn ?_
  exact K1
theorem slices_BinarySearchFunc_Blob_string.l2_c {w0:World} {H:Hp} {F:List Ch} {r:Int × Bool} (e1:(List Blob)→ByteArray→Int→Option (Int × Bool))
  (he1:∀ (a0:List Blob) (Aa0:Option Addr) (ca0:Nat) (a1:ByteArray) (v_i9:Int) ,Rw kBlob H F Aa0 a0→a0.length≤ca0→e1 a0 a1 v_i9=some r→RunH C115 (S115 F H r) H w0 [.c [1,1,1,1,0],.c [1,1,1,1,1]] [(0,.slice Aa0 a0.length ca0),(1,.string a1),(2,.func (.func 116) #[] #[]),(8,iv (a0.length:Int)),(9,iv v_i9)] H (F)):∀ (k:Nat),∀ (a0:List Blob) (Aa0:Option Addr) (ca0:Nat) (a1:ByteArray) (v_i9:Int) (v_j10:Int) ,Rw kBlob H F Aa0 a0→a0.length≤ca0→slices_BinarySearchFunc_Blob_string.l2 e1 k a0 a1 v_i9 v_j10=some r→RunH C115 (S115 F H r) H w0 [.c [1,1,1,0,0,0],.l [1,1,1,0,0,0],.b 0,.c [1,1,1,1]] [(0,.slice Aa0 a0.length ca0),(1,.string a1),(2,.func (.func 116) #[] #[]),(8,iv (a0.length:Int)),(9,iv v_i9),(10,iv v_j10)] H (F):=by
 intro k
 induction k with
 | zero=>intro a0 Aa0 ca0 a1 v_i9 v_j10 hra0 hca0 heq; exact nomatch (show (none:Option (Int × Bool))=some r from heq)
 | succ k ihk =>
  intro a0 Aa0 ca0 a1 v_i9 v_j10 hra0 hca0 heq
  rw [slices_BinarySearchFunc_Blob_string.l2] at heq
  refine Ra 2 [1,1,1,0,0,0,0,0] [.c [1,1,1,0,0,0,0,1],.c [1,1,1,0,0,0,1],.l [1,1,1,0,0,0],.b 0,.c [1,1,1,1]]<|Rd 3 [0,1,2,8,9,10,17] [(0,.slice Aa0 a0.length ca0),(1,.string a1),(2,.func (.func 116) #[] #[]),(8,iv (a0.length:Int)),(9,iv v_i9),(10,iv v_j10),(17,.bool (decide (v_i9<v_j10)))] ?_
  rcases bool_cases (decide (v_i9<v_j10)) with hb2 | hb2
  ·replace heq:=bif_true hb2 heq
   refine Ct (decide (v_i9<v_j10)) hb2<|Ra 3 [1,1,1,0,0,0,1,0,0] [.c [1,1,1,0,0,0,1,0,1],.b 1,.l [1,1,1,0,0,0],.b 0,.c [1,1,1,1]]<|Rw' 7 [0,1,2,8,9,10,11] [] [.need ((0:Int)≤1)] [(0,.slice Aa0 a0.length ca0),(1,.string a1),(2,.func (.func 116) #[] #[]),(8,iv (a0.length:Int)),(9,iv v_i9),(10,iv v_j10),(11,iv (w64 (iShr .u64 (IntKind.wrap .u64 (w64 (v_i9+v_j10))) 1)))] (fun w hh=>(show (0:Int)≤1 by decide))<|Ra 1 [1,1,1,0,0,0,1,0,1,0] [.c [1,1,1,0,0,0,1,0,1,1],.b 1,.l [1,1,1,0,0,0],.b 0,.c [1,1,1,1]] ?_
   obtain ⟨x2,hx2,heq⟩:=bind_some heq
   obtain ⟨ha2,cs2,hK2,hcc2⟩:=hra0.get hx2
   obtain ⟨rfl⟩:=kBlob_open hK2
   refine Rv 6 [0,1,2,8,9,10,11,24,28,29] [.string x2.Digest,iv x2.Size,iv x2.Used,iv x2.Until,iv x2.Pins] [.need (Aa0=some (adr Aa0)∧(0:Int)≤(w64 (iShr .u64 (IntKind.wrap .u64 (w64 (v_i9+v_j10))) 1))∧(w64 (iShr .u64 (IntKind.wrap .u64 (w64 (v_i9+v_j10))) 1))<((a0.length:Nat):Int)),.load (((adr Aa0).add ((w64 (iShr .u64 (IntKind.wrap .u64 (w64 (v_i9+v_j10))) 1)).toNat*5)).add 0) (.string x2.Digest),.load (((adr Aa0).add ((w64 (iShr .u64 (IntKind.wrap .u64 (w64 (v_i9+v_j10))) 1)).toNat*5)).add 1) (iv x2.Size),.load (((adr Aa0).add ((w64 (iShr .u64 (IntKind.wrap .u64 (w64 (v_i9+v_j10))) 1)).toNat*5)).add 2) (iv x2.Used),.load (((adr Aa0).add ((w64 (iShr .u64 (IntKind.wrap .u64 (w64 (v_i9+v_j10))) 1)).toNat*5)).add 3) (iv x2.Until),.load (((adr Aa0).add ((w64 (iShr .u64 (IntKind.wrap .u64 (w64 (v_i9+v_j10))) 1)).toNat*5)).add 4) (iv x2.Pins)] [(0,.slice Aa0 a0.length ca0),(1,.string a1),(2,.func (.func 116) #[] #[]),(8,iv (a0.length:Int)),(9,iv v_i9),(10,iv v_j10),(11,iv (w64 (iShr .u64 (IntKind.wrap .u64 (w64 (v_i9+v_j10))) 1))),(24,.func (.func 116) #[] #[]),(28,.agg #[.string x2.Digest,iv x2.Size,iv x2.Used,iv x2.Until,iv x2.Pins]),(29,.string a1)] (fun w hh=>⟨⟨ha2,(at?_some hx2).1,(at?_some hx2).2.1⟩,(hcc2 _ _ (hh.drop 0) 0 _ rfl),(hcc2 _ _ (hh.drop 0) 1 _ rfl),(hcc2 _ _ (hh.drop 0) 2 _ rfl),(hcc2 _ _ (hh.drop 0) 3 _ rfl),(hcc2 _ _ (hh.drop 0) 4 _ rfl)⟩) ?_
   obtain ⟨y2,hy2,heq⟩:=bind_some heq
   refine RgH.does (DoesH.call (d:=30) (g:=116) (args:=#[.agg #[.string x2.Digest,iv x2.Size,iv x2.Used,iv x2.Until,iv x2.Pins],.string a1]) (by kernel_rfl) (cache_find_1_c (a0:=x2) (a1:=a1)  hy2)) ?_
   rintro _ _ _ _ ⟨_,rfl,rfl,rfl,rfl⟩
   refine Rd 8 [0,1,2,8,9,10,11,31] [(0,.slice Aa0 a0.length ca0),(1,.string a1),(2,.func (.func 116) #[] #[]),(8,iv (a0.length:Int)),(9,iv v_i9),(10,iv v_j10),(11,iv (w64 (iShr .u64 (IntKind.wrap .u64 (w64 (v_i9+v_j10))) 1))),(31,.bool (decide (y2<0)))] ?_
   rcases bool_cases (decide (y2<0)) with hb3 | hb3
   ·replace heq:=bif_true hb3 heq
    refine Ct (decide (y2<0)) hb3<|Rr<|Rd 3 [0,1,2,8,9,10] [(0,.slice Aa0 a0.length ca0),(1,.string a1),(2,.func (.func 116) #[] #[]),(8,iv (a0.length:Int)),(9,iv (w64 ((w64 (iShr .u64 (IntKind.wrap .u64 (w64 (v_i9+v_j10))) 1))+1))),(10,iv v_j10)]<|Ad 2 [.c [1,1,1,0,0,0],.l [1,1,1,0,0,0],.b 0,.c [1,1,1,1]]<|Kp [0,1,2,8,9,10] [(0,.slice Aa0 a0.length ca0),(1,.string a1),(2,.func (.func 116) #[] #[]),(8,iv (a0.length:Int)),(9,iv (w64 ((w64 (iShr .u64 (IntKind.wrap .u64 (w64 (v_i9+v_j10))) 1))+1))),(10,iv v_j10)] ?_
    exact ihk a0 _ _ a1 (w64 ((w64 (iShr .u64 (IntKind.wrap .u64 (w64 (v_i9+v_j10))) 1))+1)) v_j10 hra0 hca0 heq
   ·replace heq:=bif_false hb3 heq
    refine Cf (decide (y2<0)) hb3<|Rr<|Rd 2 [0,1,2,8,9,10] [(0,.slice Aa0 a0.length ca0),(1,.string a1),(2,.func (.func 116) #[] #[]),(8,iv (a0.length:Int)),(9,iv v_i9),(10,iv (w64 (iShr .u64 (IntKind.wrap .u64 (w64 (v_i9+v_j10))) 1)))]<|Ad 2 [.c [1,1,1,0,0,0],.l [1,1,1,0,0,0],.b 0,.c [1,1,1,1]]<|Kp [0,1,2,8,9,10] [(0,.slice Aa0 a0.length ca0),(1,.string a1),(2,.func (.func 116) #[] #[]),(8,iv (a0.length:Int)),(9,iv v_i9),(10,iv (w64 (iShr .u64 (IntKind.wrap .u64 (w64 (v_i9+v_j10))) 1)))] ?_
    exact ihk a0 _ _ a1 v_i9 (w64 (iShr .u64 (IntKind.wrap .u64 (w64 (v_i9+v_j10))) 1)) hra0 hca0 heq
  ·replace heq:=bif_false hb2 heq
   refine Cf (decide (v_i9<v_j10)) hb2<|Ad 2 [.c [1,1,1,1,0],.c [1,1,1,1,1]]<|Kp [0,1,2,8,9] [(0,.slice Aa0 a0.length ca0),(1,.string a1),(2,.func (.func 116) #[] #[]),(8,iv (a0.length:Int)),(9,iv v_i9)] ?_
   exact he1 a0 _ _ a1 v_i9 hra0 hca0 heq
theorem slices_BinarySearchFunc_Blob_string_c {w0:World} {H:Hp} {F:List Ch} {a0:List Blob} {Aa0:Option Addr} {na0:Nat} {ca0:Nat} {a1:ByteArray} {r:Int × Bool} (hra0:Rw kBlob H F Aa0 a0) (hca0:na0≤ca0) (hna0:na0=a0.length) (heq:slices_BinarySearchFunc_Blob_string.f a0 a1=some r):CallsH Tryd.prog 115 #[.slice Aa0 na0 ca0,.string a1,.func (.func 116) #[] #[]] H w0 (F) (S115 F H r):=by
 refine calls_of_runH (F:=C115) Tryd.func115 (by kernel_rfl) Tryd.ntmps115 (args:=[.slice Aa0 na0 ca0,.string a1,.func (.func 116) #[] #[]]) (by kernel_rfl) ?_
 subst hna0
 unfold slices_BinarySearchFunc_Blob_string.f at heq
 refine Ra 1 [0] [.c [1]]<|Rd 2 [0,1,2] [(0,.slice Aa0 a0.length ca0),(1,.string a1),(2,.func (.func 116) #[] #[])]<|Ra 1 [1,0] [.c [1,1]]<|Rd 3 [0,1,2,8] [(0,.slice Aa0 a0.length ca0),(1,.string a1),(2,.func (.func 116) #[] #[]),(8,iv (a0.length:Int))]<|Ra 1 [1,1,0] [.c [1,1,1]]<|Rd 3 [0,1,2,8,9,10] [(0,.slice Aa0 a0.length ca0),(1,.string a1),(2,.func (.func 116) #[] #[]),(8,iv (a0.length:Int)),(9,iv 0),(10,iv (a0.length:Int))]<|Ad 3 [.c [1,1,1,0,0,0],.l [1,1,1,0,0,0],.b 0,.c [1,1,1,1]]<|Kp [0,1,2,8,9,10] [(0,.slice Aa0 a0.length ca0),(1,.string a1),(2,.func (.func 116) #[] #[]),(8,iv (a0.length:Int)),(9,iv 0),(10,iv (a0.length:Int))] ?_
 exact ((slices_BinarySearchFunc_Blob_string.l2_c (e1:=slices_BinarySearchFunc_Blob_string.e1) (slices_BinarySearchFunc_Blob_string.e1_c)) big) a0 _ _ a1 0 (a0.length:Int) hra0 hca0 heq
noncomputable def C79:Ctx:={ P:=Tryd.prog,f:=79,N:=12,c:=bodyOf Tryd.f79 }
def S79 (F:List Ch) (H0:Hp) (r:Int × Bool) (v:Value) (H:Hp) (cs:List Ch):Prop:=H0=H∧v=.tuple #[iv r.1,.bool r.2]∧F=cs
theorem cache_find_c {w0:World} {H:Hp} {F:List Ch} {a0:Cache} {Aa0_2:Option Addr} {na0_2:Nat} {ca0_2:Nat} {Aa0_3:Option Addr} {na0_3:Nat} {ca0_3:Nat} {a1:ByteArray} {r:Int × Bool} (hra0_2:Rw kBlob H F Aa0_2 a0.Blobs) (hca0_2:na0_2≤ca0_2) (hna0_2:na0_2=a0.Blobs.length) (hra0_3:Rw kEntry H F Aa0_3 a0.Entries) (hca0_3:na0_3≤ca0_3) (hna0_3:na0_3=a0.Entries.length) (heq:cache_find.f a0 a1=some r):CallsH Tryd.prog 79 #[.agg #[iv a0.Room,iv a0.Lease,.slice Aa0_2 na0_2 ca0_2,.slice Aa0_3 na0_3 ca0_3],.string a1] H w0 (F) (S79 F H r):=by
 refine calls_of_runH (F:=C79) Tryd.func79 (by kernel_rfl) Tryd.ntmps79 (args:=[.agg #[iv a0.Room,iv a0.Lease,.slice Aa0_2 na0_2 ca0_2,.slice Aa0_3 na0_3 ca0_3],.string a1]) (by kernel_rfl) ?_
 subst hna0_2
 subst hna0_3
 unfold cache_find.f at heq
 refine Ra 1 [0] [.c [1]] ?_
 refine RgH.does (DoesH.new (d:=2) (v:=fun g=>.pointer (some ⟨g,0,none⟩)) (o:=fun g=>.cells #[iv a0.Room,iv a0.Lease,.slice Aa0_2 a0.Blobs.length ca0_2,.slice Aa0_3 a0.Entries.length ca0_3] 25 (0,0)) (fun g=>by kernel_rfl)) ?_
 rintro _ _ _ _ ⟨g1,rfl,rfl,rfl⟩
 refine Rd 3 [1,2] [(1,.string a1),(2,pg g1 0)]<|Ra 1 [1,0] [.c [1,1]]<|Rv 3 [7,8] [.slice Aa0_2 a0.Blobs.length ca0_2] [.load ⟨g1,2,none⟩ (.slice Aa0_2 a0.Blobs.length ca0_2)] [(7,.slice Aa0_2 a0.Blobs.length ca0_2),(8,.string a1)] (fun w hh=>(hh.box 0 rfl rfl)) ?_
 obtain ⟨y1,hy1,heq⟩:=bind_some heq
 refine RgH.does (DoesH.call (d:=9) (g:=115) (args:=#[.slice Aa0_2 a0.Blobs.length ca0_2,.string a1,.func (.func 116) #[] #[]]) (by kernel_rfl) (slices_BinarySearchFunc_Blob_string_c (a0:=a0.Blobs) (a1:=a1) (hra0_2.wk (fun _ h=>(.tail _ h))) hca0_2 rfl hy1)) ?_
 rintro _ _ _ _ ⟨_,rfl,rfl,rfl,rfl⟩
 refine Rd 8 [4,5] [(4,iv y1.1),(5,.bool y1.2)] ?_
 obtain rfl:=Option.some.inj heq
 refine RunH.pick 1 [] (cs':=F) (by kernel_rfl) rfl ?_
 exact RunH.done (by kernel_rfl) Tryd.func79 (v:=.tuple #[iv y1.1,.bool y1.2]) (by kernel_rfl) ⟨rfl,rfl,rfl⟩
noncomputable def C67:Ctx:={ P:=Tryd.prog,f:=67,N:=30,c:=bodyOf Tryd.f67 }
def S67 (F:List Ch) (H0:Hp) (r:(List ByteArray)) (v:Value) (H:Hp) (cs:List Ch):Prop:=∃ (A0:Option Addr) (c0:Nat) (ch0:Ch),H0=H∧v=.slice A0 r.length c0∧ch0::F=cs∧SlOwn Kd.string 9 H A0 c0 r ch0
theorem cache_missing.e1_c {w0:World} {H:Hp} {F:List Ch} {r:(List ByteArray)}:∀ (v_out5:List ByteArray) (Av_out5:Option Addr) (nv_out5:Nat) (cv_out5:Nat) (chv_out5:Ch) ,SlOwn Kd.string 9 H Av_out5 cv_out5 v_out5 chv_out5→nv_out5=v_out5.length→cache_missing.e1 v_out5=some r→RunH C67 (S67 F H r) H w0 [.c [1,1,1,0],.c [1,1,1,1]] [(5,.slice Av_out5 nv_out5 cv_out5)] H (chv_out5::F):=by
 intro v_out5 Av_out5 nv_out5 cv_out5 chv_out5 hov_out5 hnv_out5 heq
 subst hnv_out5
 unfold cache_missing.e1 at heq
 refine Rr<|Rd 2 [4] [(4,.slice Av_out5 v_out5.length cv_out5)] ?_
 obtain rfl:=Option.some.inj heq
 exact RunH.done (by kernel_rfl) Tryd.func67 (v:=.slice Av_out5 v_out5.length cv_out5) (by kernel_rfl) ⟨Av_out5,cv_out5,chv_out5,rfl,rfl,rfl,hov_out5⟩
theorem cache_missing.j3_c {w0:World} {H:Hp} {F:List Ch} {r:(List ByteArray)} (backl2:Cache→(List ByteArray)→(List ByteArray)→Int→Option (List ByteArray))
  (hbackl2:∀ (a0:Cache) (Aa0_2:Option Addr) (ca0_2:Nat) (Aa0_3:Option Addr) (ca0_3:Nat) (a1:List ByteArray) (Aa1:Option Addr) (ca1:Nat) (g1:Nat) (v_out5:List ByteArray) (Av_out5:Option Addr) (nv_out5:Nat) (cv_out5:Nat) (chv_out5:Ch) (v12:Int) ,Rw kBlob H F Aa0_2 a0.Blobs→a0.Blobs.length≤ca0_2→Rw kEntry H F Aa0_3 a0.Entries→a0.Entries.length≤ca0_3→Rw Kd.string H F Aa1 a1→a1.length≤ca1→SlOwn Kd.string 9 H Av_out5 cv_out5 v_out5 chv_out5→nv_out5=v_out5.length→backl2 a0 a1 v_out5 v12=some r→RunH C67 (S67 F H r) H w0 [.c [1,1,0,1,0,0],.l [1,1,0,1,0,0],.b 0,.c [1,1,1]] [(2,pg g1 0),(5,.slice Av_out5 nv_out5 cv_out5),(10,.slice Aa1 a1.length ca1),(11,iv (a1.length:Int)),(12,iv v12)] H (chv_out5::(some (g1,.cells #[iv a0.Room,iv a0.Lease,.slice Aa0_2 a0.Blobs.length ca0_2,.slice Aa0_3 a0.Entries.length ca0_3] 25 (0,0)))::F)):∀ (a0:Cache) (Aa0_2:Option Addr) (ca0_2:Nat) (Aa0_3:Option Addr) (ca0_3:Nat) (a1:List ByteArray) (Aa1:Option Addr) (ca1:Nat) (g1:Nat) (v12:Int) (v_out5:List ByteArray) (Av_out5:Option Addr) (nv_out5:Nat) (cv_out5:Nat) (chv_out5:Ch) ,Rw kBlob H F Aa0_2 a0.Blobs→a0.Blobs.length≤ca0_2→Rw kEntry H F Aa0_3 a0.Entries→a0.Entries.length≤ca0_3→Rw Kd.string H F Aa1 a1→a1.length≤ca1→SlOwn Kd.string 9 H Av_out5 cv_out5 v_out5 chv_out5→nv_out5=v_out5.length→cache_missing.j3 backl2 a0 a1 v12 v_out5=some r→RunH C67 (S67 F H r) H w0 [.c [1,1,0,1,0,0,1,1,1],.l [1,1,0,1,0,0],.b 0,.c [1,1,1]] [(2,pg g1 0),(5,.slice Av_out5 nv_out5 cv_out5),(10,.slice Aa1 a1.length ca1),(11,iv (a1.length:Int)),(12,iv v12)] H (chv_out5::(some (g1,.cells #[iv a0.Room,iv a0.Lease,.slice Aa0_2 a0.Blobs.length ca0_2,.slice Aa0_3 a0.Entries.length ca0_3] 25 (0,0)))::F):=by
 intro a0 Aa0_2 ca0_2 Aa0_3 ca0_3 a1 Aa1 ca1 g1 v12 v_out5 Av_out5 nv_out5 cv_out5 chv_out5 hra0_2 hca0_2 hra0_3 hca0_3 hra1 hca1 hov_out5 hnv_out5 heq
 subst hnv_out5
 unfold cache_missing.j3 at heq
 refine Rr<|Rd 2 [2,5,10,11,12] [(2,pg g1 0),(5,.slice Av_out5 v_out5.length cv_out5),(10,.slice Aa1 a1.length ca1),(11,iv (a1.length:Int)),(12,iv (w64 (v12+1)))]<|Ad 1 [.c [1,1,0,1,0,0],.l [1,1,0,1,0,0],.b 0,.c [1,1,1]]<|Kp [2,5,10,11,12] [(2,pg g1 0),(5,.slice Av_out5 v_out5.length cv_out5),(10,.slice Aa1 a1.length ca1),(11,iv (a1.length:Int)),(12,iv (w64 (v12+1)))] ?_
 exact hbackl2 a0 _ _ _ _ a1 _ _ _ v_out5 _ _ _ _ (w64 (v12+1)) hra0_2 hca0_2 hra0_3 hca0_3 hra1 hca1 hov_out5 rfl heq
theorem cache_missing.l2_c {w0:World} {H:Hp} {F:List Ch} {r:(List ByteArray)} (e1:(List ByteArray)→Option (List ByteArray))
  (he1:∀ (v_out5:List ByteArray) (Av_out5:Option Addr) (nv_out5:Nat) (cv_out5:Nat) (chv_out5:Ch) ,SlOwn Kd.string 9 H Av_out5 cv_out5 v_out5 chv_out5→nv_out5=v_out5.length→e1 v_out5=some r→RunH C67 (S67 F H r) H w0 [.c [1,1,1,0],.c [1,1,1,1]] [(5,.slice Av_out5 nv_out5 cv_out5)] H (chv_out5::F)):∀ (k:Nat),∀ (a0:Cache) (Aa0_2:Option Addr) (ca0_2:Nat) (Aa0_3:Option Addr) (ca0_3:Nat) (a1:List ByteArray) (Aa1:Option Addr) (ca1:Nat) (g1:Nat) (v_out5:List ByteArray) (Av_out5:Option Addr) (nv_out5:Nat) (cv_out5:Nat) (chv_out5:Ch) (v12:Int) ,Rw kBlob H F Aa0_2 a0.Blobs→a0.Blobs.length≤ca0_2→Rw kEntry H F Aa0_3 a0.Entries→a0.Entries.length≤ca0_3→Rw Kd.string H F Aa1 a1→a1.length≤ca1→SlOwn Kd.string 9 H Av_out5 cv_out5 v_out5 chv_out5→nv_out5=v_out5.length→cache_missing.l2 e1 k a0 a1 v_out5 v12=some r→RunH C67 (S67 F H r) H w0 [.c [1,1,0,1,0,0],.l [1,1,0,1,0,0],.b 0,.c [1,1,1]] [(2,pg g1 0),(5,.slice Av_out5 nv_out5 cv_out5),(10,.slice Aa1 a1.length ca1),(11,iv (a1.length:Int)),(12,iv v12)] H (chv_out5::(some (g1,.cells #[iv a0.Room,iv a0.Lease,.slice Aa0_2 a0.Blobs.length ca0_2,.slice Aa0_3 a0.Entries.length ca0_3] 25 (0,0)))::F):=by
 intro k
 induction k with
 | zero=>intro a0 Aa0_2 ca0_2 Aa0_3 ca0_3 a1 Aa1 ca1 g1 v_out5 Av_out5 nv_out5 cv_out5 chv_out5 v12 hra0_2 hca0_2 hra0_3 hca0_3 hra1 hca1 hov_out5 hnv_out5 heq; exact nomatch (show (none:Option (List ByteArray))=some r from heq)
 | succ k ihk =>
  intro a0 Aa0_2 ca0_2 Aa0_3 ca0_3 a1 Aa1 ca1 g1 v_out5 Av_out5 nv_out5 cv_out5 chv_out5 v12 hra0_2 hca0_2 hra0_3 hca0_3 hra1 hca1 hov_out5 hnv_out5 heq
  subst hnv_out5
  rw [cache_missing.l2] at heq
  refine Ra 1 [1,1,0,1,0,0,0] [.c [1,1,0,1,0,0,1],.l [1,1,0,1,0,0],.b 0,.c [1,1,1]]<|Rd 1 [2,5,10,11,12,13] [(2,pg g1 0),(5,.slice Av_out5 v_out5.length cv_out5),(10,.slice Aa1 a1.length ca1),(11,iv (a1.length:Int)),(12,iv v12),(13,.bool (decide (v12<(a1.length:Int))))]<|Ad 1 [.c [1,1,0,1,0,0,1,0],.c [1,1,0,1,0,0,1,1],.l [1,1,0,1,0,0],.b 0,.c [1,1,1]] ?_
  rcases bool_cases (decide (v12<(a1.length:Int))) with hb1 | hb1
  ·replace heq:=bif_true hb1 heq
   refine Ct (decide (v12<(a1.length:Int))) hb1<|Ra 4 [1,1,0,1,0,0,1,1,0,0,0] [.c [1,1,0,1,0,0,1,1,0,0,1],.b 1,.c [1,1,0,1,0,0,1,1,1],.l [1,1,0,1,0,0],.b 0,.c [1,1,1]] ?_
   obtain ⟨x1,hx1,heq⟩:=bind_some heq
   obtain ⟨ha1,cs1,hK1,hcc1⟩:=hra1.get hx1
   obtain rfl:cs1=[.string x1]:=hK1
   refine Rw' 3 [2,5,7,10,11,12] [.string x1] [.need (Aa1=some (adr Aa1)∧(0:Int)≤v12∧v12<((a1.length:Nat):Int)),.load ((adr Aa1).add (v12.toNat*1)) (.string x1)] [(2,pg g1 0),(5,.slice Av_out5 v_out5.length cv_out5),(7,.string x1),(10,.slice Aa1 a1.length ca1),(11,iv (a1.length:Int)),(12,iv v12)] (fun w hh=>⟨⟨ha1,(at?_some hx1).1,(at?_some hx1).2.1⟩,(hcc1 _ _ (hh.drop 2) 0 _ rfl)⟩)<|Ra 1 [1,1,0,1,0,0,1,1,0,0,1,0] [.c [1,1,0,1,0,0,1,1,0,0,1,1],.b 1,.c [1,1,0,1,0,0,1,1,1],.l [1,1,0,1,0,0],.b 0,.c [1,1,1]]<|Rv 2 [2,5,7,10,11,12,17,18] [iv a0.Room,iv a0.Lease,.slice Aa0_2 a0.Blobs.length ca0_2,.slice Aa0_3 a0.Entries.length ca0_3] [.load ⟨g1,0,none⟩ (iv a0.Room),.load ⟨g1,1,none⟩ (iv a0.Lease),.load ⟨g1,2,none⟩ (.slice Aa0_2 a0.Blobs.length ca0_2),.load ⟨g1,3,none⟩ (.slice Aa0_3 a0.Entries.length ca0_3)] [(2,pg g1 0),(5,.slice Av_out5 v_out5.length cv_out5),(7,.string x1),(10,.slice Aa1 a1.length ca1),(11,iv (a1.length:Int)),(12,iv v12),(17,.agg #[iv a0.Room,iv a0.Lease,.slice Aa0_2 a0.Blobs.length ca0_2,.slice Aa0_3 a0.Entries.length ca0_3]),(18,.string x1)] (fun w hh=>⟨(hh.box 1 rfl rfl),(hh.box 1 rfl rfl),(hh.box 1 rfl rfl),(hh.box 1 rfl rfl)⟩) ?_
   obtain ⟨y1,hy1,heq⟩:=bind_some heq
   refine RgH.does (DoesH.call (d:=19) (g:=79) (args:=#[.agg #[iv a0.Room,iv a0.Lease,.slice Aa0_2 a0.Blobs.length ca0_2,.slice Aa0_3 a0.Entries.length ca0_3],.string x1]) (by kernel_rfl) (cache_find_c (a0:=a0) (a1:=x1) (hra0_2.wk (fun _ h=>(.tail _ (.tail _ h)))) hca0_2 rfl (hra0_3.wk (fun _ h=>(.tail _ (.tail _ h)))) hca0_3 rfl hy1)) ?_
   rintro _ _ _ _ ⟨_,rfl,rfl,rfl,rfl⟩
   refine Rd 8 [2,5,7,9,10,11,12] [(2,pg g1 0),(5,.slice Av_out5 v_out5.length cv_out5),(7,.string x1),(9,.bool y1.2),(10,.slice Aa1 a1.length ca1),(11,iv (a1.length:Int)),(12,iv v12)]<|Ra 1 [1,1,0,1,0,0,1,1,0,0,1,1,0] [.c [1,1,0,1,0,0,1,1,0,0,1,1,1],.b 1,.c [1,1,0,1,0,0,1,1,1],.l [1,1,0,1,0,0],.b 0,.c [1,1,1]]<|Rd 2 [2,5,7,10,11,12,23] [(2,pg g1 0),(5,.slice Av_out5 v_out5.length cv_out5),(7,.string x1),(10,.slice Aa1 a1.length ca1),(11,iv (a1.length:Int)),(12,iv v12),(23,.bool (!y1.2))] ?_
   rcases bool_cases (!y1.2) with hb2 | hb2
   ·replace heq:=bif_true hb2 heq
    refine Ct (!y1.2) hb2<|Rr<|Rk 2 [2,10,11,12,24,25] [(2,pg g1 0),(10,.slice Aa1 a1.length ca1),(11,iv (a1.length:Int)),(12,iv v12),(24,.slice Av_out5 v_out5.length cv_out5),(25,.string x1)] ?_
    refine RgH.does (DoesH.new (d:=26) (v:=fun g=>.slice (some ⟨g,0,none⟩) 1 1) (o:=fun g=>.cells #[.string x1] 9 (0,0)) (fun g=>by kernel_rfl)) ?_
    rintro _ _ _ _ ⟨g2,rfl,rfl,rfl⟩
    have ho1:SlOwn Kd.string 9 H (some ⟨g2,0,none⟩) 1 ([x1]:List ByteArray) (some (g2,.cells #[.string x1] 9 (0,0))):=SlOwn.lit (xs:=([x1]:List ByteArray)) (by kernel_rfl) (Nat.le_of_ble_eq_true (by kernel_rfl)) (Kd.Rep.scalars rfl)
    obtain ⟨hn1,heq⟩:=guard?_some heq
    refine RgH.does (DoesH.append (d:=27) (k:=1) (t:=34) (e:=9) (bytes:=16) (kd:=Kd.string) (n:=v_out5.length) (m:=1) (xs:=v_out5) (ys:=([x1]:List ByteArray)) (A:=Av_out5) (B:=(some ⟨g2,0,none⟩)) (c:=cv_out5) (cB:=1) (by kernel_rfl) rfl rfl (by kernel_rfl) rfl hov_out5 (fun w hh=>ho1.rdb (hh.chin 0 rfl)) (room_le hn1) (by have:=room_le hn1; omega)) ?_
    rintro _ _ _ _ ⟨A1,c1,ch1,rfl,rfl,rfl,ho2⟩
    refine Rd 5 [2,5,10,11,12] [(2,pg g1 0),(5,.slice A1 ((v_out5++([x1]:List ByteArray)).length) c1),(10,.slice Aa1 a1.length ca1),(11,iv (a1.length:Int)),(12,iv v12)]<|Ad 1 [.c [1,1,0,1,0,0,1,1,1],.l [1,1,0,1,0,0],.b 0,.c [1,1,1]]<|Kp [2,5,10,11,12] [(2,pg g1 0),(5,.slice A1 ((v_out5++([x1]:List ByteArray)).length) c1),(10,.slice Aa1 a1.length ca1),(11,iv (a1.length:Int)),(12,iv v12)] ?_
    refine RunH.pick 3 [1,2] (cs':=ch1::(some (g1,.cells #[iv a0.Room,iv a0.Lease,.slice Aa0_2 a0.Blobs.length ca0_2,.slice Aa0_3 a0.Entries.length ca0_3] 25 (0,0)))::F) (by kernel_rfl) rfl ?_
    exact (cache_missing.j3_c (backl2:=(cache_missing.l2 e1 k)) ihk) a0 _ _ _ _ a1 _ _ _ v12 (v_out5++([x1]:List ByteArray)) _ _ _ _ hra0_2 hca0_2 hra0_3 hca0_3 hra1 hca1 ho2 rfl heq
   ·replace heq:=bif_false hb2 heq
    refine Cf (!y1.2) hb2<|Ad 2 [.c [1,1,0,1,0,0,1,1,1],.l [1,1,0,1,0,0],.b 0,.c [1,1,1]]<|Kp [2,5,10,11,12] [(2,pg g1 0),(5,.slice Av_out5 v_out5.length cv_out5),(10,.slice Aa1 a1.length ca1),(11,iv (a1.length:Int)),(12,iv v12)] ?_
    exact (cache_missing.j3_c (backl2:=(cache_missing.l2 e1 k)) ihk) a0 _ _ _ _ a1 _ _ _ v12 v_out5 _ _ _ _ hra0_2 hca0_2 hra0_3 hca0_3 hra1 hca1 hov_out5 rfl heq
  ·replace heq:=bif_false hb1 heq
   refine Cf (decide (v12<(a1.length:Int))) hb1<|Ad 2 [.c [1,1,1,0],.c [1,1,1,1]]<|Kp [5] [(5,.slice Av_out5 v_out5.length cv_out5)] ?_
   refine RunH.pick 2 [0] (cs':=chv_out5::F) (by kernel_rfl) rfl ?_
   exact he1 v_out5 _ _ _ _ hov_out5 rfl heq
theorem cache_missing_c {w0:World} {H:Hp} {F:List Ch} {a0:Cache} {Aa0_2:Option Addr} {na0_2:Nat} {ca0_2:Nat} {Aa0_3:Option Addr} {na0_3:Nat} {ca0_3:Nat} {a1:List ByteArray} {Aa1:Option Addr} {na1:Nat} {ca1:Nat} {r:(List ByteArray)} (hra0_2:Rw kBlob H F Aa0_2 a0.Blobs) (hca0_2:na0_2≤ca0_2) (hna0_2:na0_2=a0.Blobs.length) (hra0_3:Rw kEntry H F Aa0_3 a0.Entries) (hca0_3:na0_3≤ca0_3) (hna0_3:na0_3=a0.Entries.length) (hra1:Rw Kd.string H F Aa1 a1) (hca1:na1≤ca1) (hna1:na1=a1.length) (heq:cache_missing.f a0 a1=some r):CallsH Tryd.prog 67 #[.agg #[iv a0.Room,iv a0.Lease,.slice Aa0_2 na0_2 ca0_2,.slice Aa0_3 na0_3 ca0_3],.slice Aa1 na1 ca1] H w0 (F) (S67 F H r):=by
 refine calls_of_runH (F:=C67) Tryd.func67 (by kernel_rfl) Tryd.ntmps67 (args:=[.agg #[iv a0.Room,iv a0.Lease,.slice Aa0_2 na0_2 ca0_2,.slice Aa0_3 na0_3 ca0_3],.slice Aa1 na1 ca1]) (by kernel_rfl) ?_
 subst hna0_2
 subst hna0_3
 subst hna1
 unfold cache_missing.f at heq
 refine Ra 1 [0] [.c [1]] ?_
 refine RgH.does (DoesH.new (d:=2) (v:=fun g=>.pointer (some ⟨g,0,none⟩)) (o:=fun g=>.cells #[iv a0.Room,iv a0.Lease,.slice Aa0_2 a0.Blobs.length ca0_2,.slice Aa0_3 a0.Entries.length ca0_3] 25 (0,0)) (fun g=>by kernel_rfl)) ?_
 rintro _ _ _ _ ⟨g1,rfl,rfl,rfl⟩
 refine Rd 2 [1,2] [(1,.slice Aa1 a1.length ca1),(2,pg g1 0)]<|Ra 1 [1,0] [.c [1,1]]<|Rd 1 [1,2,5] [(1,.slice Aa1 a1.length ca1),(2,pg g1 0),(5,.slice none 0 0)]<|Ra 2 [1,1,0,0] [.c [1,1,0,1],.c [1,1,1]]<|Rd 3 [2,5,10,11,12] [(2,pg g1 0),(5,.slice none 0 0),(10,.slice Aa1 a1.length ca1),(11,iv (a1.length:Int)),(12,iv 0)]<|Ad 2 [.c [1,1,0,1,0,0],.l [1,1,0,1,0,0],.b 0,.c [1,1,1]]<|RunH.nilc ?_
 have ho3:SlOwn Kd.string 9 H none 0 ([]:List ByteArray) none:=SlOwn.nil
 refine Kp [2,5,10,11,12] [(2,pg g1 0),(5,.slice none 0 0),(10,.slice Aa1 a1.length ca1),(11,iv (a1.length:Int)),(12,iv 0)] ?_
 exact ((cache_missing.l2_c (e1:=cache_missing.e1) (cache_missing.e1_c)) big) a0 _ _ _ _ a1 _ _ _ ([]:List ByteArray) _ _ _ _ 0 hra0_2 hca0_2 hra0_3 hca0_3 hra1 hca1 ho3 rfl heq
noncomputable def C29:Ctx:={ P:=Tryd.prog,f:=29,N:=19,c:=bodyOf Tryd.f29 }
def S29 (F:List Ch) (H0:Hp) (r:Bool) (v:Value) (H:Hp) (cs:List Ch):Prop:=H0=H∧v=.bool r∧F=cs
theorem smithyardlaw7_awake_c {w0:World} {H:Hp} {F:List Ch} {r:Bool} (heq:smithyardlaw7_awake.f=some r):CallsH Tryd.prog 29 (List.toArray []) H w0 (F) (S29 F H r):=by
 refine calls_of_runH (F:=C29) Tryd.func29 (by kernel_rfl) Tryd.ntmps29 (args:=[]) (by kernel_rfl) ?_
 unfold smithyardlaw7_awake.f at heq
 refine Ra 1 [0] [.c [1]]<|Rd 1 [] []<|Ra 1 [1,0] [.c [1,1]] ?_
 obtain ⟨y1,hy1,heq⟩:=bind_some heq
 refine RgH.does (DoesH.call (d:=4) (g:=19) (args:=#[iv 5,iv 7]) (by kernel_rfl) (cache_New_c (a0:=5) (a1:=7)  hy1)) ?_
 rintro _ _ _ _ ⟨_,rfl,A1,c1,ch1,A2,c2,ch2,rfl,rfl,rfl,ho1,ho2⟩
 refine Rk 4 [5,6] [(5,.agg #[iv y1.1.Room,iv y1.1.Lease,.slice A1 y1.1.Blobs.length c1,.slice A2 y1.1.Entries.length c2]),(6,iv y1.2)] ?_
 refine RgH.does (DoesH.new (d:=1) (v:=fun g=>.pointer (some ⟨g,0,none⟩)) (o:=fun g=>.cells #[iv 0,iv 0,.slice none 0 0,.slice none 0 0] 25 (0,0)) (fun g=>by kernel_rfl)) ?_
 rintro _ _ _ _ ⟨g1,rfl,rfl,rfl⟩
 refine RgH.does (DoesH.store (k:=0) (g:=g1) (off:=0) (v:=.agg #[iv y1.1.Room,iv y1.1.Lease,.slice A1 y1.1.Blobs.length c1,.slice A2 y1.1.Entries.length c2]) (cells':=#[iv y1.1.Room,iv y1.1.Lease,.slice A1 y1.1.Blobs.length c1,.slice A2 y1.1.Entries.length c2]) (by kernel_rfl) rfl (by kernel_rfl) (by kernel_rfl)) ?_
 rintro _ _ _ _ ⟨rfl,rfl,rfl⟩
 refine Rd 7 [1,2] [(1,pg g1 0),(2,iv y1.2)]<|Ad 1 [.c [1,1,0],.c [1,1,1]] ?_
 obtain ⟨t1,ht1,heq⟩:=bind_some heq
 have K4:RunH C29 (S29 F H r) H w0 [.c [1,1,1]] [(0,.bool t1)] H (F):=by
  obtain rfl:=Option.some.inj heq
  exact RunH.done (by kernel_rfl) Tryd.func29 (v:=.bool t1) (by kernel_rfl) ⟨rfl,rfl,rfl⟩
 replace heq:=ht1
 refine Rr<|Rk 3 [9,1] [(9,.bool (y1.2 == 0)),(1,pg g1 0)] ?_
 rcases bool_cases (y1.2 == 0) with hb1 | hb1
 ·replace heq:=bif_true hb1 heq
  refine RgH.val1 (v':=.bool true) (congrArg Value.bool hb1) ?_
  refine Rv 8 [14,1] [iv y1.1.Room] [.load ⟨g1,0,none⟩ (iv y1.1.Room)] [(14,.bool (y1.1.Room == 5)),(1,pg g1 0)] (fun w hh=>(hh.box 0 rfl rfl)) ?_
  rcases bool_cases (y1.1.Room == 5) with hb2 | hb2
  ·replace heq:=bif_true hb2 heq
   refine RgH.val1 (v':=.bool true) (congrArg Value.bool hb2) ?_
   refine Rv 13 [0] [iv y1.1.Lease] [.load ⟨g1,1,none⟩ (iv y1.1.Lease)] [(0,.bool (y1.1.Lease == 7))] (fun w hh=>(hh.box 0 rfl rfl)) ?_
   obtain rfl:=Option.some.inj heq
   refine Kg [0] [(0,.bool (y1.1.Lease == 7))] ?_
   refine RgH.pick 3 [] (cs':=F) (by kernel_rfl) rfl ?_
   refine Dn ?_
   exact K4
  ·replace heq:=bif_false hb2 heq
   refine RgH.val1 (v':=.bool false) (congrArg Value.bool hb2) ?_
   refine Rk 13 [0] [(0,.bool false)] ?_
   obtain rfl:=Option.some.inj heq
   refine Kg [0] [(0,.bool false)] ?_
   refine RgH.pick 3 [] (cs':=F) (by kernel_rfl) rfl ?_
   refine Dn ?_
   exact K4
 ·replace heq:=bif_false hb1 heq
  refine RgH.val1 (v':=.bool false) (congrArg Value.bool hb1) ?_
  refine Rk 13 [0] [(0,.bool false)] ?_
  obtain rfl:=Option.some.inj heq
  refine Kg [0] [(0,.bool false)] ?_
  refine RgH.pick 3 [] (cs':=F) (by kernel_rfl) rfl ?_
  refine Dn ?_
  exact K4
noncomputable def C108:Ctx:={ P:=Tryd.prog,f:=108,N:=8,c:=bodyOf Tryd.f108 }
def S108 (F:List Ch) (H0:Hp) (r:List Entry) (v:Value) (H:Hp) (cs:List Ch):Prop:=∃ (A0:Option Addr) (c0:Nat) (ch0:Ch),H0=H∧v=.slice A0 r.length c0∧ch0::F=cs∧SlOwn kEntry 51 H A0 c0 r ch0
theorem slices_Clone_Entry_c {w0:World} {H:Hp} {F:List Ch} {a0:List Entry} {Aa0:Option Addr} {na0 ca0:Nat} {r:List Entry} (hra0:Rw kEntry H F Aa0 a0) (hca0:na0≤ca0) (hna0:na0=a0.length) (heq:slices_Clone_Entry.f a0=some r):CallsH Tryd.prog 108 #[.slice Aa0 na0 ca0] H w0 F (S108 F H r):=by
 refine calls_of_runH (F:=C108) Tryd.func108 (by kernel_rfl) Tryd.ntmps108 (args:=[.slice Aa0 na0 ca0]) (by kernel_rfl) ?_
 subst hna0
 unfold slices_Clone_Entry.f at heq
 obtain ⟨hn,heq⟩:=guard?_some heq
 obtain rfl:=Option.some.inj heq
 refine Ra 1 [0] [.c [1]]<|Rd 1 [0] [(0,.slice Aa0 a0.length ca0)]<|Ra 2 [1,0,0] [.c [1,0,1],.c [1,1]] ?_
 cases Aa0 with
 | none =>
  have h0:a0=[]:=by
   cases a0 with
   | nil=>rfl
   | cons x xs=>obtain ⟨b,off,cs,e,fr,hA,_⟩:=hra0 (by simp); cases hA
  subst h0
  refine Rd 2 [4] [(4,.bool true)]<|Ct true rfl<|Ra 1 [1,0,1,0,0] [.c [1,0,1,0,1],.c [1,1]]<|Rd 1 [2] [(2,.slice none 0 0)]<|RunH.nilc ?_
  exact RunH.done (by kernel_rfl) Tryd.func108 (v:=.slice none ([]:List Entry).length 0) (by kernel_rfl) ⟨none,0,none,rfl,rfl,rfl,SlOwn.nil⟩
 | some ad =>
  refine Rd 2 [0,4] [(0,.slice (some ad) a0.length ca0),(4,.bool false)]<|Cf false rfl<|Ra 2 [1,1,0] [.c [1,1,1]] ?_
  refine RgH.does (DoesH.new (d:=5) (v:=fun g=>.slice (some ⟨g,0,none⟩) 0 0) (o:=fun g=>.cells #[] 51 (0,0)) (fun g=>by kernel_rfl)) ?_
  rintro _ _ _ _ ⟨g,rfl,rfl,rfl⟩
  have ho:SlOwn kEntry 51 H (some ⟨g,0,none⟩) 0 ([]:List Entry) (some (g,.cells #[] 51 (0,0))):=.inr ⟨g,0,#[],rfl,rfl,by simp,by simp [maxLen],by simp,Kd.Rep.nil⟩
  refine Rk 2 [5,6] [(5,.slice (some ⟨g,0,none⟩) 0 0),(6,.slice (some ad) a0.length ca0)] ?_
  refine RgH.does (DoesH.append (d:=7) (k:=0) (t:=23) (e:=51) (bytes:=48) (kd:=kEntry) (n:=0) (m:=a0.length) (xs:=([]:List Entry)) (ys:=a0) (A:=some ⟨g,0,none⟩) (B:=some ad) (c:=0) (cB:=ca0) (by kernel_rfl) rfl rfl (by kernel_rfl) rfl ho (fun w hh=>hra0.rdb (hh.drop 1)) (room_le hn) (by have:=room_le hn; omega)) ?_
  rintro _ _ _ _ ⟨A1,c1,ch1,rfl,rfl,rfl,ho1⟩
  refine Rd 4 [2] [(2,.slice A1 (([]:List Entry)++a0).length c1)] ?_
  exact RunH.done (by kernel_rfl) Tryd.func108 (v:=.slice A1 (([]:List Entry)++a0).length c1) (by kernel_rfl) ⟨A1,c1,ch1,rfl,rfl,rfl,ho1⟩
noncomputable def C70:Ctx:={ P:=Tryd.prog,f:=70,N:=32,c:=bodyOf Tryd.f70 }
def S70 (F:List Ch) (H0:Hp) (r:Cache) (v:Value) (H:Hp) (cs:List Ch):Prop:=∃ (A0_2:Option Addr) (c0_2:Nat) (ch0_2:Ch) (A0_3:Option Addr) (c0_3:Nat) (ch0_3:Ch),v=.agg #[iv r.Room,iv r.Lease,.slice A0_2 r.Blobs.length c0_2,.slice A0_3 r.Entries.length c0_3]∧ch0_2::ch0_3::F=cs∧SlOwn kBlob 47 H A0_2 c0_2 r.Blobs ch0_2∧SlOwn kEntry 51 H A0_3 c0_3 r.Entries ch0_3
theorem cache_own.e1_c {w0:World} {H0:Hp} {F:List Ch} {r:Cache}:∀ (H:Hp) (a0:Cache) (g1:Nat) (g2:Nat) (y1:List Blob) (A1:Option Addr) (c1:Nat) (ch1:Ch) (v_c1_3:List Entry) (Av_c1_3:Option Addr) (nv_c1_3:Nat) (cv_c1_3:Nat) (chv_c1_3:Ch) ,SlOwn kBlob 47 H A1 c1 y1 ch1→SlOwn kEntry 51 H Av_c1_3 cv_c1_3 v_c1_3 chv_c1_3→nv_c1_3=v_c1_3.length→cache_own.e1 a0 y1 v_c1_3=some r→RunH C70 (S70 F H0 r) H0 w0 [.c [1,1,1,0],.c [1,1,1,1]] [(1,pg g1 0),(2,pg g2 0)] H (chv_c1_3::ch1::(some (g2,.cells #[iv 0,iv 0,.slice none 0 0,.slice none 0 0] 25 (0,0)))::(some (g1,.cells #[iv a0.Room,iv a0.Lease,.slice A1 y1.length c1,.slice Av_c1_3 nv_c1_3 cv_c1_3] 25 (0,0)))::F):=by
 intro H a0 g1 g2 y1 A1 c1 ch1 v_c1_3 Av_c1_3 nv_c1_3 cv_c1_3 chv_c1_3 ho1 hov_c1_3 hnv_c1_3 heq
 subst hnv_c1_3
 unfold cache_own.e1 at heq
 refine Rr<|Rv 1 [2,31] [iv a0.Room,iv a0.Lease,.slice A1 y1.length c1,.slice Av_c1_3 v_c1_3.length cv_c1_3] [.load ⟨g1,0,none⟩ (iv a0.Room),.load ⟨g1,1,none⟩ (iv a0.Lease),.load ⟨g1,2,none⟩ (.slice A1 y1.length c1),.load ⟨g1,3,none⟩ (.slice Av_c1_3 v_c1_3.length cv_c1_3)] [(2,pg g2 0),(31,.agg #[iv a0.Room,iv a0.Lease,.slice A1 y1.length c1,.slice Av_c1_3 v_c1_3.length cv_c1_3])] (fun w hh=>⟨(hh.box 3 rfl rfl),(hh.box 3 rfl rfl),(hh.box 3 rfl rfl),(hh.box 3 rfl rfl)⟩) ?_
 refine RgH.does (DoesH.store (k:=2) (g:=g2) (off:=0) (v:=.agg #[iv a0.Room,iv a0.Lease,.slice A1 y1.length c1,.slice Av_c1_3 v_c1_3.length cv_c1_3]) (cells':=#[iv a0.Room,iv a0.Lease,.slice A1 y1.length c1,.slice Av_c1_3 v_c1_3.length cv_c1_3]) (by kernel_rfl) rfl (by kernel_rfl) (by kernel_rfl)) ?_
 rintro _ _ _ _ ⟨rfl,rfl,rfl⟩
 refine Dn ?_
 obtain rfl:=Option.some.inj heq
 refine RunH.pick 4 [2,1,0] (cs':=(some (g2,.cells #[iv a0.Room,iv a0.Lease,.slice A1 y1.length c1,.slice Av_c1_3 v_c1_3.length cv_c1_3] 25 (0,0)))::ch1::chv_c1_3::F) (by kernel_rfl) rfl ?_
 exact RunH.doneM' 1 (vs:=[.agg #[iv a0.Room,iv a0.Lease,.slice A1 y1.length c1,.slice Av_c1_3 v_c1_3.length cv_c1_3]]) (v:=.agg #[iv a0.Room,iv a0.Lease,.slice A1 y1.length c1,.slice Av_c1_3 v_c1_3.length cv_c1_3]) (by kernel_rfl) Tryd.func70 (fun w hh=>show ResAll _ _ _ [.cell 2 25] _ from ⟨⟨⟨g2,0,none⟩,by kernel_rfl,trS_run _ (vs:=[iv a0.Room,iv a0.Lease,.slice A1 y1.length c1,.slice Av_c1_3 v_c1_3.length cv_c1_3]) (r:=[]) (es:=[.load ⟨g2,0,none⟩ (iv a0.Room),.load ⟨g2,1,none⟩ (iv a0.Lease),.load ⟨g2,2,none⟩ (.slice A1 y1.length c1),.load ⟨g2,3,none⟩ (.slice Av_c1_3 v_c1_3.length cv_c1_3)]) (by kernel_rfl) ⟨(hh.box 0 rfl rfl),(hh.box 0 rfl rfl),(hh.box 0 rfl rfl),(hh.box 0 rfl rfl)⟩⟩,trivial⟩) rfl (cs':=ch1::chv_c1_3::F) rfl ⟨A1,c1,ch1,Av_c1_3,cv_c1_3,chv_c1_3,rfl,rfl,ho1,hov_c1_3⟩
theorem cache_own.l2_c {w0:World} {H0:Hp} {F:List Ch} {r:Cache} (e1:Cache→(List Blob)→(List Entry)→Option Cache)
  (he1:∀ (H:Hp) (a0:Cache) (g1:Nat) (g2:Nat) (y1:List Blob) (A1:Option Addr) (c1:Nat) (ch1:Ch) (v_c1_3:List Entry) (Av_c1_3:Option Addr) (nv_c1_3:Nat) (cv_c1_3:Nat) (chv_c1_3:Ch) ,SlOwn kBlob 47 H A1 c1 y1 ch1→SlOwn kEntry 51 H Av_c1_3 cv_c1_3 v_c1_3 chv_c1_3→nv_c1_3=v_c1_3.length→e1 a0 y1 v_c1_3=some r→RunH C70 (S70 F H0 r) H0 w0 [.c [1,1,1,0],.c [1,1,1,1]] [(1,pg g1 0),(2,pg g2 0)] H (chv_c1_3::ch1::(some (g2,.cells #[iv 0,iv 0,.slice none 0 0,.slice none 0 0] 25 (0,0)))::(some (g1,.cells #[iv a0.Room,iv a0.Lease,.slice A1 y1.length c1,.slice Av_c1_3 nv_c1_3 cv_c1_3] 25 (0,0)))::F)):∀ (k:Nat),∀ (H:Hp) (a0:Cache) (g1:Nat) (g2:Nat) (y1:List Blob) (A1:Option Addr) (c1:Nat) (ch1:Ch) (y2:List Entry) (v_c1_3:List Entry) (Av_c1_3:Option Addr) (nv_c1_3:Nat) (cv_c1_3:Nat) (chv_c1_3:Ch) (v15:Int) ,SlOwn kBlob 47 H A1 c1 y1 ch1→SlOwn kEntry 51 H Av_c1_3 cv_c1_3 v_c1_3 chv_c1_3→nv_c1_3=v_c1_3.length→cache_own.l2 e1 k a0 y1 y2 v_c1_3 v15=some r→RunH C70 (S70 F H0 r) H0 w0 [.c [1,1,0,1,0,0],.l [1,1,0,1,0,0],.b 0,.c [1,1,1]] [(1,pg g1 0),(2,pg g2 0),(14,iv (y2.length:Int)),(15,iv v15)] H (chv_c1_3::ch1::(some (g2,.cells #[iv 0,iv 0,.slice none 0 0,.slice none 0 0] 25 (0,0)))::(some (g1,.cells #[iv a0.Room,iv a0.Lease,.slice A1 y1.length c1,.slice Av_c1_3 nv_c1_3 cv_c1_3] 25 (0,0)))::F):=by
 intro k
 induction k with
 | zero=>intro H a0 g1 g2 y1 A1 c1 ch1 y2 v_c1_3 Av_c1_3 nv_c1_3 cv_c1_3 chv_c1_3 v15 ho1 hov_c1_3 hnv_c1_3 heq; exact nomatch (show (none:Option Cache)=some r from heq)
 | succ k ihk =>
  intro H a0 g1 g2 y1 A1 c1 ch1 y2 v_c1_3 Av_c1_3 nv_c1_3 cv_c1_3 chv_c1_3 v15 ho1 hov_c1_3 hnv_c1_3 heq
  subst hnv_c1_3
  rw [cache_own.l2] at heq
  refine Ra 1 [1,1,0,1,0,0,0] [.c [1,1,0,1,0,0,1],.l [1,1,0,1,0,0],.b 0,.c [1,1,1]]<|Rd 1 [1,2,14,15,16] [(1,pg g1 0),(2,pg g2 0),(14,iv (y2.length:Int)),(15,iv v15),(16,.bool (decide (v15<(y2.length:Int))))]<|Ad 1 [.c [1,1,0,1,0,0,1,0],.c [1,1,0,1,0,0,1,1],.l [1,1,0,1,0,0],.b 0,.c [1,1,1]] ?_
  rcases bool_cases (decide (v15<(y2.length:Int))) with hb1 | hb1
  ·replace heq:=bif_true hb1 heq
   refine Ct (decide (v15<(y2.length:Int))) hb1<|Ra 4 [1,1,0,1,0,0,1,1,0,0,0] [.c [1,1,0,1,0,0,1,1,0,0,1],.b 1,.c [1,1,0,1,0,0,1,1,1],.l [1,1,0,1,0,0],.b 0,.c [1,1,1]]<|Rd 2 [1,2,3,14,15] [(1,pg g1 0),(2,pg g2 0),(3,iv v15),(14,iv (y2.length:Int)),(15,iv v15)]<|Kp [1,2,3,14,15] [(1,pg g1 0),(2,pg g2 0),(3,iv v15),(14,iv (y2.length:Int)),(15,iv v15)] ?_
   refine RunH.draw (fun w=>Heap H w0 w (chv_c1_3::ch1::(some (g2,.cells #[iv 0,iv 0,.slice none 0 0,.slice none 0 0] 25 (0,0)))::(some (g1,.cells #[iv a0.Room,iv a0.Lease,.slice A1 y1.length c1,.slice Av_c1_3 v_c1_3.length cv_c1_3] 25 (0,0)))::F)) (fun w=>Heap H w0 w (chv_c1_3::ch1::(some (g2,.cells #[iv 0,iv 0,.slice none 0 0,.slice none 0 0] 25 (0,0)))::(some (g1,.cells #[iv a0.Room,iv a0.Lease,.slice A1 y1.length c1,.slice Av_c1_3 v_c1_3.length cv_c1_3] 25 (0,0)))::F)) [3,3,3,3,3,3,3,3,3,0,0,3,2] (n:=13) (ls:=[false,false,false,false,false,false,false,false,false,false,false,false,false]) (by kernel_rfl) (by kernel_rfl) (by kernel_rfl) rfl ?_
   obtain ⟨x1,hx1,heq⟩:=bind_some heq
   obtain ⟨ha1,cs1,hK1,hcc1⟩:=hov_c1_3.get hx1
   obtain ⟨A3,c3,rfl,hc1,hr1⟩:=kEntry_open hK1
   refine Dk [0,1,2,3,4,5,6,7,8] 4 (nb 13 511) [.slice Av_c1_3 v_c1_3.length cv_c1_3,.slice Av_c1_3 v_c1_3.length cv_c1_3,.slice A3 x1.Refs.length c3] [.load ⟨g1,3,none⟩ (.slice Av_c1_3 v_c1_3.length cv_c1_3),.load ⟨g1,3,none⟩ (.slice Av_c1_3 v_c1_3.length cv_c1_3),.need (Av_c1_3=some (adr Av_c1_3)∧(0:Int)≤v15∧v15<((v_c1_3.length:Nat):Int)),.load (((adr Av_c1_3).add (v15.toNat*3)).add 1) (.slice A3 x1.Refs.length c3)] [1,2,14,15,19,20,26] [(1,pg g1 0),(2,pg g2 0),(14,iv (y2.length:Int)),(15,iv v15),(19,.slice Av_c1_3 v_c1_3.length cv_c1_3),(20,iv v15),(26,.slice A3 x1.Refs.length c3)] (Pk 4 [0,1,2,3]) (Pk 4 [0,1,2,3]) (fun w hh=>⟨(hh.box 3 rfl rfl),(hh.box 3 rfl rfl),⟨ha1,(at?_some hx1).1,(at?_some hx1).2.1⟩,(hcc1 _ (hh.chin 0 rfl) 1 _ rfl)⟩) ?_
   obtain ⟨y3,hy3,heq⟩:=bind_some heq
   refine DrH.does (n:=3) (ls':=[true,true,true,true,true,true,true,true,true,true,false,false,false]) 9 (by kernel_rfl) rfl (DoesH.call (d:=27) (g:=42) (args:=#[.slice A3 x1.Refs.length c3]) (by kernel_rfl) (slices_Clone_string_c (a0:=x1.Refs) (Rw.of hr1) hc1 rfl hy3)) ?_
   rintro _ _ _ _ ⟨_,rfl,A4,c4,ch3,rfl,rfl,rfl,ho3⟩
   refine ⟨fun _ w hh=>⟨fun _=>(Pk 5 [1,2,3,4]) w hh,fun _=>(Pk 5 [1,2,3,4]) w hh,(fun h=>by cases h)⟩,?_⟩
   refine Kr [1,2,14,15,19,20,27] [(1,pg g1 0),(2,pg g2 0),(14,iv (y2.length:Int)),(15,iv v15),(19,.slice Av_c1_3 v_c1_3.length cv_c1_3),(20,iv v15),(27,.slice A4 y3.length c4)] ?_
   obtain ⟨ha2,cs2,hK2,hcc2⟩:=hov_c1_3.get hx1
   obtain ⟨A5,c5,rfl,hc2,hr2⟩:=kEntry_open hK2
   refine DrH.does (n:=2) (ls':=[true,true,true,true,true,true,true,true,true,true,true,false,false]) 10 (by kernel_rfl) rfl (DoesH.pureop (d:=28) (v:=.pointer (some ((adr Av_c1_3).add (v15.toNat*3)))) (vs:=[]) (evs:=[.need (Av_c1_3=some (adr Av_c1_3)∧(0:Int)≤v15∧v15<((v_c1_3.length:Nat):Int))]) (by kernel_rfl) (fun w hh=>⟨ha2,(at?_some hx1).1,(at?_some hx1).2.1⟩)) ?_
   rintro _ _ _ _ ⟨rfl,rfl,rfl⟩
   refine ⟨fun _ w hh=>⟨fun _=>(Pk 5 [1,2,3,4]) w hh,fun _=>(Pk 5 [1,2,3,4]) w hh,(fun h=>by cases h)⟩,?_⟩
   refine Dk [11] 1 (nb 13 4095) [] [] [1,2,14,15,27,29] [(1,pg g1 0),(2,pg g2 0),(14,iv (y2.length:Int)),(15,iv v15),(27,.slice A4 y3.length c4),(29,.pointer (some (((adr Av_c1_3).add (v15.toNat*3)).add 1)))] (Pk 5 [1,2,3,4]) (Pk 4 [0,1,2,3]) (fun _ _=>trivial) ?_
   have hc3:=ho3.cap
   refine DrH.freezeS ho3 (fun H hl hr3=>?_)
   have hle:=hl
   replace ho1:=ho1.mono hl
   replace hov_c1_3:=hov_c1_3.mono hl
   obtain ⟨ha3,cs3,hK3,hcc3⟩:=hov_c1_3.get hx1
   obtain ⟨A6,c6,rfl,hc4,hr4⟩:=kEntry_open hK3
   refine DrH.does (n:=0) (ls':=[true,true,true,true,true,true,true,true,true,true,true,true,true]) 12 (by kernel_rfl) rfl (DoesH.storeEl (a:=(((adr Av_c1_3).add (v15.toNat*3)).add 1)) (k:=0) (kd:=kEntry) (c0:=[.string x1.Key,.slice A6 x1.Refs.length c6,iv x1.Used]) (x':=(⟨x1.Key,y3,x1.Used⟩:Entry)) (o:=1) (ix:=v15) (v:=.slice A4 y3.length c4) (by kernel_rfl) rfl hov_c1_3 hx1 (by kernel_rfl) hcc3 rfl (Nat.le_of_ble_eq_true (by kernel_rfl)) (kEntry_mk hc3 hr3)) ?_
   rintro _ _ _ _ ⟨ch4,rfl,rfl,rfl,ho4⟩
   have hn1:v_c1_3.length=(v_c1_3.set v15.toNat (⟨x1.Key,y3,x1.Used⟩:Entry)).length:=by rw [List.length_set]
   refine ⟨fun _ w hh=>⟨(fun h=>by cases h),(fun h=>absurd h (by decide)),(fun h=>by cases h)⟩,?_⟩
   refine Kr [1,2,14,15] [(1,pg g1 0),(2,pg g2 0),(14,iv (y2.length:Int)),(15,iv v15)] ?_
   refine DrH.done (by kernel_rfl) ?_
   refine Ra 1 [1,1,0,1,0,0,1,1,1] [.l [1,1,0,1,0,0],.b 0,.c [1,1,1]]<|Rd 2 [1,2,14,15] [(1,pg g1 0),(2,pg g2 0),(14,iv (y2.length:Int)),(15,iv (w64 (v15+1)))]<|Ad 1 [.c [1,1,0,1,0,0],.l [1,1,0,1,0,0],.b 0,.c [1,1,1]]<|Kp [1,2,14,15] [(1,pg g1 0),(2,pg g2 0),(14,iv (y2.length:Int)),(15,iv (w64 (v15+1)))] ?_
   exact ihk _ a0 _ _ y1 _ _ _ y2 (v_c1_3.set v15.toNat (⟨x1.Key,y3,x1.Used⟩:Entry)) _ _ _ _ (w64 (v15+1)) ho1 ho4 hn1 heq
  ·replace heq:=bif_false hb1 heq
   refine Cf (decide (v15<(y2.length:Int))) hb1<|Ad 2 [.c [1,1,1,0],.c [1,1,1,1]]<|Kp [1,2] [(1,pg g1 0),(2,pg g2 0)] ?_
   exact he1 _ a0 _ _ y1 _ _ _ v_c1_3 _ _ _ _ ho1 hov_c1_3 rfl heq
theorem cache_own_c {w0:World} {H0:Hp} {F:List Ch} {a0:Cache} {Aa0_2:Option Addr} {na0_2:Nat} {ca0_2:Nat} {Aa0_3:Option Addr} {na0_3:Nat} {ca0_3:Nat} {r:Cache} (hra0_2:Rw kBlob H0 F Aa0_2 a0.Blobs) (hca0_2:na0_2≤ca0_2) (hna0_2:na0_2=a0.Blobs.length) (hra0_3:Rw kEntry H0 F Aa0_3 a0.Entries) (hca0_3:na0_3≤ca0_3) (hna0_3:na0_3=a0.Entries.length) (heq:cache_own.f a0=some r):CallsH Tryd.prog 70 #[.agg #[iv a0.Room,iv a0.Lease,.slice Aa0_2 na0_2 ca0_2,.slice Aa0_3 na0_3 ca0_3]] H0 w0 (F) (S70 F H0 r):=by
 refine calls_of_runH (F:=C70) Tryd.func70 (by kernel_rfl) Tryd.ntmps70 (args:=[.agg #[iv a0.Room,iv a0.Lease,.slice Aa0_2 na0_2 ca0_2,.slice Aa0_3 na0_3 ca0_3]]) (by kernel_rfl) ?_
 subst hna0_2
 subst hna0_3
 unfold cache_own.f at heq
 suffices key:∀ (H:Hp),Rw kBlob H F Aa0_2 a0.Blobs→Rw kEntry H F Aa0_3 a0.Entries→RunH C70 (S70 F H0 r) H0 w0 [.c []] (argL 0 [.agg #[iv a0.Room,iv a0.Lease,.slice Aa0_2 (a0.Blobs.length) ca0_2,.slice Aa0_3 (a0.Entries.length) ca0_3]]) H (F) from key H0 hra0_2 hra0_3
 intro H hra0_2 hra0_3
 refine Ra 1 [0] [.c [1]] ?_
 refine RgH.does (DoesH.new (d:=1) (v:=fun g=>.pointer (some ⟨g,0,none⟩)) (o:=fun g=>.cells #[iv a0.Room,iv a0.Lease,.slice Aa0_2 a0.Blobs.length ca0_2,.slice Aa0_3 a0.Entries.length ca0_3] 25 (0,0)) (fun g=>by kernel_rfl)) ?_
 rintro _ _ _ _ ⟨g1,rfl,rfl,rfl⟩
 refine RgH.does (DoesH.new (d:=2) (v:=fun g=>.pointer (some ⟨g,0,none⟩)) (o:=fun g=>.cells #[iv 0,iv 0,.slice none 0 0,.slice none 0 0] 25 (0,0)) (fun g=>by kernel_rfl)) ?_
 rintro _ _ _ _ ⟨g2,rfl,rfl,rfl⟩
 refine Dn<|Ad 1 [.c [1,0],.c [1,1]]<|Kp [1,2] [(1,pg g1 0),(2,pg g2 0)] ?_
 refine RunH.draw (fun w=>Heap H w0 w ((some (g2,.cells #[iv 0,iv 0,.slice none 0 0,.slice none 0 0] 25 (0,0)))::(some (g1,.cells #[iv a0.Room,iv a0.Lease,.slice Aa0_2 a0.Blobs.length ca0_2,.slice Aa0_3 a0.Entries.length ca0_3] 25 (0,0)))::F)) (fun w=>Heap H w0 w ((some (g2,.cells #[iv 0,iv 0,.slice none 0 0,.slice none 0 0] 25 (0,0)))::F)) [3,3,0,3,3,0,3,1,3,2] (n:=10) (ls:=[false,false,false,false,false,false,false,false,false,false]) (by kernel_rfl) (by kernel_rfl) (by kernel_rfl) rfl ?_
 refine Dk [0,1,3,4] 6 (nb 10 27) [.slice Aa0_2 a0.Blobs.length ca0_2,.slice Aa0_3 a0.Entries.length ca0_3] [.load ⟨g1,2,none⟩ (.slice Aa0_2 a0.Blobs.length ca0_2),.load ⟨g1,3,none⟩ (.slice Aa0_3 a0.Entries.length ca0_3)] [1,2,5,8] [(1,pg g1 0),(2,pg g2 0),(5,.slice Aa0_2 a0.Blobs.length ca0_2),(8,.slice Aa0_3 a0.Entries.length ca0_3)] (Pk 2 [0,1]) (Pk 2 [0]) (fun w hh=>⟨(hh.box 1 rfl rfl),(hh.box 1 rfl rfl)⟩) ?_
 obtain ⟨y1,hy1,heq⟩:=bind_some heq
 refine DrH.does (n:=5) (ls':=[true,true,true,true,true,false,false,false,false,false]) 2 (by kernel_rfl) rfl (DoesH.call (d:=6) (g:=55) (args:=#[.slice Aa0_2 a0.Blobs.length ca0_2]) (by kernel_rfl) (slices_Clone_Blob_c (a0:=a0.Blobs) (hra0_2.wk (fun _ h=>(.tail _ (.tail _ h)))) hca0_2 rfl hy1)) ?_
 rintro _ _ _ _ ⟨_,rfl,A1,c1,ch1,rfl,rfl,rfl,ho1⟩
 refine ⟨fun _ w hh=>⟨fun _=>(Pk 3 [1,2]) w hh,fun _=>(Pk 3 [1]) w hh,(fun h=>by cases h)⟩,?_⟩
 refine Dk [6] 4 (nb 10 95) [] [] [1,2,6,8,10] [(1,pg g1 0),(2,pg g2 0),(6,.slice A1 y1.length c1),(8,.slice Aa0_3 a0.Entries.length ca0_3),(10,pg g1 2)] (Pk 3 [1,2]) (Pk 2 [0]) (fun _ _=>trivial) ?_
 obtain ⟨y2,hy2,heq⟩:=bind_some heq
 refine DrH.does (n:=3) (ls':=[true,true,true,true,true,true,true,false,false,false]) 5 (by kernel_rfl) rfl (DoesH.call (d:=9) (g:=108) (args:=#[.slice Aa0_3 a0.Entries.length ca0_3]) (by kernel_rfl) (slices_Clone_Entry_c (a0:=a0.Entries) (hra0_3.wk (fun _ h=>(.tail _ (.tail _ (.tail _ h))))) hca0_3 rfl hy2)) ?_
 rintro _ _ _ _ ⟨_,rfl,A2,c2,ch2,rfl,rfl,rfl,ho2⟩
 refine ⟨fun _ w hh=>⟨fun _=>(Pk 4 [2,3]) w hh,fun _=>(Pk 4 [2]) w hh,(fun h=>by cases h)⟩,?_⟩
 refine Kr [1,2,6,9,10] [(1,pg g1 0),(2,pg g2 0),(6,.slice A1 y1.length c1),(9,.slice A2 y2.length c2),(10,pg g1 2)] ?_
 refine DrH.does (n:=2) (ls':=[true,true,true,true,true,true,true,true,false,false]) 7 (by kernel_rfl) rfl (DoesH.store (k:=3) (g:=g1) (off:=2) (v:=.slice A1 y1.length c1) (cells':=#[iv a0.Room,iv a0.Lease,.slice A1 y1.length c1,.slice Aa0_3 a0.Entries.length ca0_3]) (by kernel_rfl) rfl (by kernel_rfl) (by kernel_rfl)) ?_
 rintro _ _ _ _ ⟨rfl,rfl,rfl⟩
 refine ⟨fun _ w hh=>⟨(fun h=>by cases h),fun _=>(Pk 4 [2]) w hh,(fun h=>by cases h)⟩,?_⟩
 refine De [8] 1 (nb 10 511) [] [] [1,2,9,11] [(1,pg g1 0),(2,pg g2 0),(9,.slice A2 y2.length c2),(11,pg g1 3)] (Pk 4 [2]) (fun _ _=>trivial) ?_
 refine DrH.does (n:=0) (ls':=[true,true,true,true,true,true,true,true,true,true]) 9 (by kernel_rfl) rfl (DoesH.store (k:=3) (g:=g1) (off:=3) (v:=.slice A2 y2.length c2) (cells':=#[iv a0.Room,iv a0.Lease,.slice A1 y1.length c1,.slice A2 y2.length c2]) (by kernel_rfl) rfl (by kernel_rfl) (by kernel_rfl)) ?_
 rintro _ _ _ _ ⟨rfl,rfl,rfl⟩
 refine ⟨fun _ w hh=>⟨(fun h=>by cases h),(fun h=>absurd h (by decide)),(fun h=>by cases h)⟩,?_⟩
 refine Kr [1,2] [(1,pg g1 0),(2,pg g2 0)] ?_
 refine DrH.done (by kernel_rfl) ?_
 refine Ra 2 [1,1,0,0] [.c [1,1,0,1],.c [1,1,1]]<|Rw' 4 [1,2,14,15] [.slice A2 y2.length c2] [.load ⟨g1,3,none⟩ (.slice A2 y2.length c2)] [(1,pg g1 0),(2,pg g2 0),(14,iv (y2.length:Int)),(15,iv 0)] (fun w hh=>(hh.box 3 rfl rfl))<|Ad 2 [.c [1,1,0,1,0,0],.l [1,1,0,1,0,0],.b 0,.c [1,1,1]]<|Kp [1,2,14,15] [(1,pg g1 0),(2,pg g2 0),(14,iv (y2.length:Int)),(15,iv 0)] ?_
 exact ((cache_own.l2_c (e1:=cache_own.e1) (cache_own.e1_c)) big) _ a0 _ _ y1 _ _ _ y2 y2 _ _ _ _ 0 ho1 ho2 rfl heq
noncomputable def C74:Ctx:={ P:=Tryd.prog,f:=74,N:=14,c:=bodyOf Tryd.f74 }
def S74 (F:List Ch) (H0:Hp) (r:Bool) (v:Value) (H:Hp) (cs:List Ch):Prop:=H0=H∧v=.bool r∧F=cs
theorem cache_held_c {w0:World} {H:Hp} {F:List Ch} {a0:Blob} {a1:Int} {r:Bool} (heq:cache_held.f a0 a1=some r):CallsH Tryd.prog 74 #[.agg #[.string a0.Digest,iv a0.Size,iv a0.Used,iv a0.Until,iv a0.Pins],iv a1] H w0 (F) (S74 F H r):=by
 refine calls_of_runH (F:=C74) Tryd.func74 (by kernel_rfl) Tryd.ntmps74 (args:=[.agg #[.string a0.Digest,iv a0.Size,iv a0.Used,iv a0.Until,iv a0.Pins],iv a1]) (by kernel_rfl) ?_
 unfold cache_held.f at heq
 refine Ra 1 [0] [.c [1]] ?_
 refine RgH.does (DoesH.new (d:=2) (v:=fun g=>.pointer (some ⟨g,0,none⟩)) (o:=fun g=>.cells #[.string a0.Digest,iv a0.Size,iv a0.Used,iv a0.Until,iv a0.Pins] 47 (0,0)) (fun g=>by kernel_rfl)) ?_
 rintro _ _ _ _ ⟨g1,rfl,rfl,rfl⟩
 refine Rd 2 [1,2] [(1,iv a1),(2,pg g1 0)]<|Ad 1 [.c [1,0],.c [1,1]] ?_
 obtain ⟨t1,ht1,heq⟩:=bind_some heq
 have K2:RunH C74 (S74 F H r) H w0 [.c [1,1]] [(4,.bool t1)] H (F):=by
  obtain rfl:=Option.some.inj heq
  exact RunH.done (by kernel_rfl) Tryd.func74 (v:=.bool t1) (by kernel_rfl) ⟨rfl,rfl,rfl⟩
 replace heq:=ht1
 refine Rr<|Rv 4 [8,1,2] [iv a0.Pins] [.load ⟨g1,4,none⟩ (iv a0.Pins)] [(8,.bool (decide (0<a0.Pins))),(1,iv a1),(2,pg g1 0)] (fun w hh=>(hh.box 0 rfl rfl)) ?_
 rcases bool_cases (decide (0<a0.Pins)) with hb1 | hb1
 ·replace heq:=bif_true hb1 heq
  refine RgH.val1 (v':=.bool true) (congrArg Value.bool hb1) ?_
  refine Rk 10 [4] [(4,.bool true)] ?_
  obtain rfl:=Option.some.inj heq
  refine Kg [4] [(4,.bool true)] ?_
  refine RgH.pick 1 [] (cs':=F) (by kernel_rfl) rfl ?_
  refine Dn ?_
  exact K2
 ·replace heq:=bif_false hb1 heq
  refine RgH.val1 (v':=.bool false) (congrArg Value.bool hb1) ?_
  refine Rv 10 [4] [iv a0.Until] [.load ⟨g1,3,none⟩ (iv a0.Until)] [(4,.bool (decide (a1<a0.Until)))] (fun w hh=>(hh.box 0 rfl rfl)) ?_
  obtain rfl:=Option.some.inj heq
  refine Kg [4] [(4,.bool (decide (a1<a0.Until)))] ?_
  refine RgH.pick 1 [] (cs':=F) (by kernel_rfl) rfl ?_
  refine Dn ?_
  exact K2
noncomputable def C110:Ctx:={ P:=Tryd.prog,f:=110,N:=8,c:=bodyOf Tryd.f110 }
def S110 (F:List Ch) (H0:Hp) (r:Bool) (v:Value) (H:Hp) (cs:List Ch):Prop:=H0=H∧v=.bool r∧F=cs
theorem cache_drop_1_c {w0:World} {H:Hp} {F:List Ch} {a0:Blob} {ga1:Nat} {a1:List (ByteArray × Bool)} {Aa1_0:Option Nat} {r:Bool} (hra1_0:Mw Value.string Kd.bool false H F Aa1_0 a1) (hga1:InG H F ga1 (.cells #[.map Aa1_0] 101 (0,0))) (heq:cache_drop_1.f a0 a1=some r):CallsH Tryd.prog 110 #[.agg #[.string a0.Digest,iv a0.Size,iv a0.Used,iv a0.Until,iv a0.Pins],.pointer (some ⟨ga1,0,none⟩)] H w0 (F) (S110 F H r):=by
 refine calls_of_runH (F:=C110) Tryd.func110 (by kernel_rfl) Tryd.ntmps110 (args:=[.agg #[.string a0.Digest,iv a0.Size,iv a0.Used,iv a0.Until,iv a0.Pins],.pointer (some ⟨ga1,0,none⟩)]) (by kernel_rfl) ?_
 unfold cache_drop_1.f at heq
 refine Ra 1 [0] [.c [1]] ?_
 refine RgH.does (DoesH.new (d:=2) (v:=fun g=>.pointer (some ⟨g,0,none⟩)) (o:=fun g=>.cells #[.string a0.Digest,iv a0.Size,iv a0.Used,iv a0.Until,iv a0.Pins] 47 (0,0)) (fun g=>by kernel_rfl)) ?_
 rintro _ _ _ _ ⟨g1,rfl,rfl,rfl⟩
 refine Rd 2 [1,2] [(1,pg ga1 0),(2,pg g1 0)]<|Ra 1 [1,0] [.c [1,1]]<|Rv 3 [4,6] [.map Aa1_0,.string a0.Digest] [.load ⟨ga1,0,none⟩ (.map Aa1_0),.load ⟨g1,0,none⟩ (.string a0.Digest)] [(4,.map Aa1_0),(6,.string a0.Digest)] (fun w hh=>⟨(hga1.cell (hh.drop 1) rfl),(hh.box 0 rfl rfl)⟩) ?_
 refine RgH.does (DoesH.lookup (d:=7) (t:=101) (m:=a1) (k:=a0.Digest) (z:=.bool false) (zc:=[.bool false]) (z0:=false) (ok:=false) (kd:=Kd.bool) (ag:=false) (by kernel_rfl) (KyAt.string Tryd.underlying9) rfl rfl (fun w hh=>hra1_0.on (hh.drop 1))) ?_
 rintro _ _ _ _ ⟨cc1,rfl,rfl,rfl,hcc1⟩
 obtain rfl:cc1=[.bool (mgetD a1 a0.Digest false)]:=hcc1
 refine RgH.val1 (v':=.bool (mgetD a1 a0.Digest false)) rfl ?_
 refine Rd 5 [3] [(3,.bool (mgetD a1 a0.Digest false))] ?_
 obtain rfl:=Option.some.inj heq
 refine RunH.pick 1 [] (cs':=F) (by kernel_rfl) rfl ?_
 exact RunH.done (by kernel_rfl) Tryd.func110 (v:=.bool (mgetD a1 a0.Digest false)) (by kernel_rfl) ⟨rfl,rfl,rfl⟩
noncomputable def C109v2:Ctx:={ P:=Tryd.prog,f:=109,N:=19,c:=bodyOf Tryd.f109 }
def S109v2 (F:List Ch) (H0:Hp) (r:Int) (v:Value) (H:Hp) (cs:List Ch):Prop:=H0=H∧v=iv r∧F=cs
theorem slices_IndexFunc_Blob_2.e1_c {w0:World} {H:Hp} {F:List Ch} {r:Int}:slices_IndexFunc_Blob_2.e1=some r→RunH C109v2 (S109v2 F H r) H w0 [.c [1,1,0],.c [1,1,1]] [] H (F):=by
 intro   heq
 unfold slices_IndexFunc_Blob_2.e1 at heq
 refine Rr<|Rd 1 [4] [(4,iv (-1))] ?_
 obtain rfl:=Option.some.inj heq
 exact RunH.done (by kernel_rfl) Tryd.func109 (v:=iv (-1)) (by kernel_rfl) ⟨rfl,rfl,rfl⟩
theorem slices_IndexFunc_Blob_2.l2_c {w0:World} {H:Hp} {F:List Ch} {r:Int} (e1:Option Int)
  (he1:e1=some r→RunH C109v2 (S109v2 F H r) H w0 [.c [1,1,0],.c [1,1,1]] [] H (F)):∀ (k:Nat),∀ (a0:List Blob) (Aa0:Option Addr) (ca0:Nat) (ga1q0:Nat) (a1q0:List (ByteArray × Bool)) (Aa1q0_0:Option Nat) (v8:Int) ,Rw kBlob H F Aa0 a0→a0.length≤ca0→Mw Value.string Kd.bool false H F Aa1q0_0 a1q0→InG H F ga1q0 (.cells #[.map Aa1q0_0] 101 (0,0))→slices_IndexFunc_Blob_2.l2 e1 k a0 a1q0 v8=some r→RunH C109v2 (S109v2 F H r) H w0 [.c [1,0,1,0,0],.l [1,0,1,0,0],.b 0,.c [1,1]] [(0,.slice Aa0 a0.length ca0),(1,.func (.func 110) #[] #[.pointer (some ⟨ga1q0,0,none⟩)]),(7,iv (a0.length:Int)),(8,iv v8)] H (F):=by
 intro k
 induction k with
 | zero=>intro a0 Aa0 ca0 ga1q0 a1q0 Aa1q0_0 v8 hra0 hca0 hra1q0_0 hga1q0 heq; exact nomatch (show (none:Option Int)=some r from heq)
 | succ k ihk =>
  intro a0 Aa0 ca0 ga1q0 a1q0 Aa1q0_0 v8 hra0 hca0 hra1q0_0 hga1q0 heq
  rw [slices_IndexFunc_Blob_2.l2] at heq
  refine Ra 1 [1,0,1,0,0,0] [.c [1,0,1,0,0,1],.l [1,0,1,0,0],.b 0,.c [1,1]]<|Rd 1 [0,1,7,8,9] [(0,.slice Aa0 a0.length ca0),(1,.func (.func 110) #[] #[.pointer (some ⟨ga1q0,0,none⟩)]),(7,iv (a0.length:Int)),(8,iv v8),(9,.bool (decide (v8<(a0.length:Int))))]<|Ad 1 [.c [1,0,1,0,0,1,0],.c [1,0,1,0,0,1,1],.l [1,0,1,0,0],.b 0,.c [1,1]] ?_
  rcases bool_cases (decide (v8<(a0.length:Int))) with hb1 | hb1
  ·replace heq:=bif_true hb1 heq
   refine Ct (decide (v8<(a0.length:Int))) hb1<|Ra 4 [1,0,1,0,0,1,1,0,0,0] [.c [1,0,1,0,0,1,1,0,0,1],.b 1,.c [1,0,1,0,0,1,1,1],.l [1,0,1,0,0],.b 0,.c [1,1]]<|Rd 2 [0,1,5,7,8] [(0,.slice Aa0 a0.length ca0),(1,.func (.func 110) #[] #[.pointer (some ⟨ga1q0,0,none⟩)]),(5,iv v8),(7,iv (a0.length:Int)),(8,iv v8)]<|Ra 1 [1,0,1,0,0,1,1,0,0,1,0] [.c [1,0,1,0,0,1,1,0,0,1,1],.b 1,.c [1,0,1,0,0,1,1,1],.l [1,0,1,0,0],.b 0,.c [1,1]] ?_
   obtain ⟨x1,hx1,heq⟩:=bind_some heq
   obtain ⟨ha1,cs1,hK1,hcc1⟩:=hra0.get hx1
   obtain ⟨rfl⟩:=kBlob_open hK1
   refine Rv 5 [0,1,5,7,8,11,15] [.string x1.Digest,iv x1.Size,iv x1.Used,iv x1.Until,iv x1.Pins] [.need (Aa0=some (adr Aa0)∧(0:Int)≤v8∧v8<((a0.length:Nat):Int)),.load (((adr Aa0).add (v8.toNat*5)).add 0) (.string x1.Digest),.load (((adr Aa0).add (v8.toNat*5)).add 1) (iv x1.Size),.load (((adr Aa0).add (v8.toNat*5)).add 2) (iv x1.Used),.load (((adr Aa0).add (v8.toNat*5)).add 3) (iv x1.Until),.load (((adr Aa0).add (v8.toNat*5)).add 4) (iv x1.Pins)] [(0,.slice Aa0 a0.length ca0),(1,.func (.func 110) #[] #[.pointer (some ⟨ga1q0,0,none⟩)]),(5,iv v8),(7,iv (a0.length:Int)),(8,iv v8),(11,.func (.func 110) #[] #[.pointer (some ⟨ga1q0,0,none⟩)]),(15,.agg #[.string x1.Digest,iv x1.Size,iv x1.Used,iv x1.Until,iv x1.Pins])] (fun w hh=>⟨⟨ha1,(at?_some hx1).1,(at?_some hx1).2.1⟩,(hcc1 _ _ (hh.drop 0) 0 _ rfl),(hcc1 _ _ (hh.drop 0) 1 _ rfl),(hcc1 _ _ (hh.drop 0) 2 _ rfl),(hcc1 _ _ (hh.drop 0) 3 _ rfl),(hcc1 _ _ (hh.drop 0) 4 _ rfl)⟩) ?_
   obtain ⟨y1,hy1,heq⟩:=bind_some heq
   refine RgH.does (DoesH.call (d:=16) (g:=110) (args:=#[.agg #[.string x1.Digest,iv x1.Size,iv x1.Used,iv x1.Until,iv x1.Pins],.pointer (some ⟨ga1q0,0,none⟩)]) (by kernel_rfl) (cache_drop_1_c (a0:=x1) (a1:=a1q0) hra1q0_0 hga1q0 hy1)) ?_
   rintro _ _ _ _ ⟨_,rfl,rfl,rfl,rfl⟩
   refine Dn ?_
   rcases bool_cases (y1) with hb2 | hb2
   ·replace heq:=bif_true hb2 heq
    refine Ct y1 hb2<|Ra 1 [1,0,1,0,0,1,1,0,0,1,1,0,0] [.c [1,0,1,0,0,1,1,0,0,1,1,0,1],.b 1,.c [1,0,1,0,0,1,1,1],.l [1,0,1,0,0],.b 0,.c [1,1]]<|Rd 2 [4] [(4,iv v8)] ?_
    obtain rfl:=Option.some.inj heq
    exact RunH.done (by kernel_rfl) Tryd.func109 (v:=iv v8) (by kernel_rfl) ⟨rfl,rfl,rfl⟩
   ·replace heq:=bif_false hb2 heq
    refine Cf y1 hb2<|Ra 2 [1,0,1,0,0,1,1,1] [.l [1,0,1,0,0],.b 0,.c [1,1]]<|Rd 2 [0,1,7,8] [(0,.slice Aa0 a0.length ca0),(1,.func (.func 110) #[] #[.pointer (some ⟨ga1q0,0,none⟩)]),(7,iv (a0.length:Int)),(8,iv (w64 (v8+1)))]<|Ad 1 [.c [1,0,1,0,0],.l [1,0,1,0,0],.b 0,.c [1,1]]<|Kp [0,1,7,8] [(0,.slice Aa0 a0.length ca0),(1,.func (.func 110) #[] #[.pointer (some ⟨ga1q0,0,none⟩)]),(7,iv (a0.length:Int)),(8,iv (w64 (v8+1)))] ?_
    exact ihk a0 _ _ _ a1q0 _ (w64 (v8+1)) hra0 hca0 hra1q0_0 hga1q0 heq
  ·replace heq:=bif_false hb1 heq
   refine Cf (decide (v8<(a0.length:Int))) hb1<|Ad 2 [.c [1,1,0],.c [1,1,1]]<|Kp [] [] ?_
   exact he1 heq
theorem slices_IndexFunc_Blob_2_c {w0:World} {H:Hp} {F:List Ch} {a0:List Blob} {Aa0:Option Addr} {na0:Nat} {ca0:Nat} {ga1q0:Nat} {a1q0:List (ByteArray × Bool)} {Aa1q0_0:Option Nat} {r:Int} (hra0:Rw kBlob H F Aa0 a0) (hca0:na0≤ca0) (hna0:na0=a0.length) (hra1q0_0:Mw Value.string Kd.bool false H F Aa1q0_0 a1q0) (hga1q0:InG H F ga1q0 (.cells #[.map Aa1q0_0] 101 (0,0))) (heq:slices_IndexFunc_Blob_2.f a0 a1q0=some r):CallsH Tryd.prog 109 #[.slice Aa0 na0 ca0,.func (.func 110) #[] #[.pointer (some ⟨ga1q0,0,none⟩)]] H w0 (F) (S109v2 F H r):=by
 refine calls_of_runH (F:=C109v2) Tryd.func109 (by kernel_rfl) Tryd.ntmps109 (args:=[.slice Aa0 na0 ca0,.func (.func 110) #[] #[.pointer (some ⟨ga1q0,0,none⟩)]]) (by kernel_rfl) ?_
 subst hna0
 unfold slices_IndexFunc_Blob_2.f at heq
 refine Ra 1 [0] [.c [1]]<|Rd 1 [0,1] [(0,.slice Aa0 a0.length ca0),(1,.func (.func 110) #[] #[.pointer (some ⟨ga1q0,0,none⟩)])]<|Ra 2 [1,0,0] [.c [1,0,1],.c [1,1]]<|Rd 3 [0,1,7,8] [(0,.slice Aa0 a0.length ca0),(1,.func (.func 110) #[] #[.pointer (some ⟨ga1q0,0,none⟩)]),(7,iv (a0.length:Int)),(8,iv 0)]<|Ad 2 [.c [1,0,1,0,0],.l [1,0,1,0,0],.b 0,.c [1,1]]<|Kp [0,1,7,8] [(0,.slice Aa0 a0.length ca0),(1,.func (.func 110) #[] #[.pointer (some ⟨ga1q0,0,none⟩)]),(7,iv (a0.length:Int)),(8,iv 0)] ?_
 exact ((slices_IndexFunc_Blob_2.l2_c (e1:=slices_IndexFunc_Blob_2.e1) (slices_IndexFunc_Blob_2.e1_c)) big) a0 _ _ _ a1q0 _ 0 hra0 hca0 hra1q0_0 hga1q0 heq
noncomputable def C72v2:Ctx:={ P:=Tryd.prog,f:=72,N:=42,c:=bodyOf Tryd.f72 }
def S72v2 (F:List Ch) (H0:Hp) (r:(List Blob)) (v:Value) (H:Hp) (cs:List Ch):Prop:=∃ (A0:Option Addr) (c0:Nat) (ch0:Ch),H0=H∧v=.slice A0 r.length c0∧ch0::F=cs∧SlOwn kBlob 47 H A0 c0 r ch0
theorem slices_DeleteFunc_Blob_2.e1_c {w0:World} {H:Hp} {F:List Ch} {r:(List Blob)}:∀ (v_s0:List Blob) (Av_s0:Option Addr) (nv_s0:Nat) (cv_s0:Nat) (chv_s0:Ch) (v_i5:Int) ,SlOwn kBlob 47 H Av_s0 cv_s0 v_s0 chv_s0→nv_s0=v_s0.length→slices_DeleteFunc_Blob_2.e1 v_s0 v_i5=some r→RunH C72v2 (S72v2 F H r) H w0 [.c [1,1,1,1,0],.c [1,1,1,1,1]] [(0,.slice Av_s0 nv_s0 cv_s0),(5,iv v_i5)] H (chv_s0::F):=by
 intro v_s0 Av_s0 nv_s0 cv_s0 chv_s0 v_i5 hov_s0 hnv_s0 heq
 subst hnv_s0
 unfold slices_DeleteFunc_Blob_2.e1 at heq
 refine Rr ?_
 obtain ⟨hn2,heq⟩:=guard?_some heq
 have hn1:v_s0.length - v_i5.toNat=(v_s0.drop v_i5.toNat).length:=by have h1:=both_of hn2; have h3:=trivial; (try simp); (try omega)
 have ho1:=hov_s0.drop v_i5.toNat (by have h2:=hov_s0.cap; have h3:=trivial; have h1:=both_of hn2; omega)
 refine Rv 3 [0,5,38] [] [.need ((0:Int)≤v_i5∧v_i5≤((v_s0.length:Nat):Int))] [(0,.slice Av_s0 v_s0.length cv_s0),(5,iv v_i5),(38,.slice (shiftA cv_s0 v_i5.toNat 5 Av_s0) (v_s0.length - v_i5.toNat) (cv_s0 - v_i5.toNat))] (fun w hh=>(both_of hn2)) ?_
 refine RgH.does (DoesH.clear (k:=0) (j:=v_i5.toNat) (n:=v_s0.length - v_i5.toNat) (t:=22) (e:=47) (bytes:=48) (kd:=kBlob) (A:=Av_s0) (A2:=(shiftA cv_s0 v_i5.toNat 5 Av_s0)) (c:=cv_s0) (c2:=(cv_s0 - v_i5.toNat)) (xs:=v_s0) (z:=(⟨ByteArray.empty,0,0,0,0⟩:Blob)) (zc:=#[.string ByteArray.empty,iv 0,iv 0,iv 0,iv 0]) (by kernel_rfl) (by have h3:=trivial; omega) (by kernel_rfl) (by kernel_rfl) kBlob_mk (by kernel_rfl) rfl hov_s0 (by have h1:=both_of hn2; have h3:=trivial; omega) (fun h b off hA=>shiftA_at h hov_s0.cap hA)) ?_
 rintro _ _ _ _ ⟨ch1,rfl,rfl,rfl,ho2⟩
 have hn3:v_s0.length=(v_s0.take v_i5.toNat++List.replicate (v_s0.length - v_i5.toNat) (⟨ByteArray.empty,0,0,0,0⟩:Blob)).length:=by have h1:=both_of hn2; have h3:=trivial; simp; omega
 refine Dn<|Ra 1 [1,1,1,1,1,0] [.c [1,1,1,1,1,1]] ?_
 obtain ⟨hn5,heq⟩:=guard?_some heq
 have hn4:v_i5.toNat=((v_s0.take v_i5.toNat++List.replicate (v_s0.length - v_i5.toNat) (⟨ByteArray.empty,0,0,0,0⟩:Blob)).take v_i5.toNat).length:=by have h1:=both_of hn5; have h3:=hn3; (try simp); (try omega)
 have ho3:=ho2.take v_i5.toNat
 refine Rw' 4 [4] [] [.need ((0:Int)≤v_i5∧v_i5≤((cv_s0:Nat):Int))] [(4,.slice Av_s0 v_i5.toNat cv_s0)] (fun w hh=>⟨(both_of hn5).1,(by have h1:=(both_of hn5).2; have h2:=(show v_s0.length≤cv_s0 from by have:=ho2.cap; have:=hn3; omega); have h3:=hn3; omega)⟩) ?_
 obtain rfl:=Option.some.inj heq
 exact RunH.done (by kernel_rfl) Tryd.func72 (v:=.slice Av_s0 v_i5.toNat cv_s0) (by kernel_rfl) ⟨Av_s0,cv_s0,ch1,rfl,(by first | rfl | exact congrArg (fun q=>Value.slice _ q _) hn4 | (rw [hn4]; done) | (simp only [← hn4])),(by first | rfl | (rw [hn4]; done) | (rw [hn4]; rfl) | (simp only [List.length_set]; done) | (simp only [List.length_set]; rfl)),ho3⟩
theorem slices_DeleteFunc_Blob_2.j3_c {w0:World} {H:Hp} {F:List Ch} {r:(List Blob)} (backl2:(List (ByteArray × Bool))→(List Blob)→Int→Int→Option (List Blob))
  (hbackl2:∀ (ga1q0:Nat) (a1q0:List (ByteArray × Bool)) (Aa1q0_0:Option Nat) (v_s0:List Blob) (Av_s0:Option Addr) (nv_s0:Nat) (cv_s0:Nat) (chv_s0:Ch) (v_i5:Int) (v_j6:Int) ,Mw Value.string Kd.bool false H F Aa1q0_0 a1q0→InG H F ga1q0 (.cells #[.map Aa1q0_0] 101 (0,0))→SlOwn kBlob 47 H Av_s0 cv_s0 v_s0 chv_s0→nv_s0=v_s0.length→backl2 a1q0 v_s0 v_i5 v_j6=some r→RunH C72v2 (S72v2 F H r) H w0 [.c [1,1,1,0,1,0,0],.l [1,1,1,0,1,0,0],.b 0,.c [1,1,1,1]] [(0,.slice Av_s0 nv_s0 cv_s0),(1,.func (.func 110) #[] #[.pointer (some ⟨ga1q0,0,none⟩)]),(5,iv v_i5),(6,iv v_j6)] H (chv_s0::F)):∀ (ga1q0:Nat) (a1q0:List (ByteArray × Bool)) (Aa1q0_0:Option Nat) (v_j6:Int) (v_s0:List Blob) (Av_s0:Option Addr) (nv_s0:Nat) (cv_s0:Nat) (chv_s0:Ch) (v_i5:Int) ,Mw Value.string Kd.bool false H F Aa1q0_0 a1q0→InG H F ga1q0 (.cells #[.map Aa1q0_0] 101 (0,0))→SlOwn kBlob 47 H Av_s0 cv_s0 v_s0 chv_s0→nv_s0=v_s0.length→slices_DeleteFunc_Blob_2.j3 backl2 a1q0 v_j6 v_s0 v_i5=some r→RunH C72v2 (S72v2 F H r) H w0 [.c [1,1,1,0,1,0,0,1,1],.l [1,1,1,0,1,0,0],.b 0,.c [1,1,1,1]] [(0,.slice Av_s0 nv_s0 cv_s0),(1,.func (.func 110) #[] #[.pointer (some ⟨ga1q0,0,none⟩)]),(5,iv v_i5),(6,iv v_j6)] H (chv_s0::F):=by
 intro ga1q0 a1q0 Aa1q0_0 v_j6 v_s0 Av_s0 nv_s0 cv_s0 chv_s0 v_i5 hra1q0_0 hga1q0 hov_s0 hnv_s0 heq
 subst hnv_s0
 unfold slices_DeleteFunc_Blob_2.j3 at heq
 refine Rr<|Rd 3 [0,1,5,6] [(0,.slice Av_s0 v_s0.length cv_s0),(1,.func (.func 110) #[] #[.pointer (some ⟨ga1q0,0,none⟩)]),(5,iv v_i5),(6,iv (w64 (v_j6+1)))]<|Ad 1 [.c [1,1,1,0,1,0,0],.l [1,1,1,0,1,0,0],.b 0,.c [1,1,1,1]]<|Kp [0,1,5,6] [(0,.slice Av_s0 v_s0.length cv_s0),(1,.func (.func 110) #[] #[.pointer (some ⟨ga1q0,0,none⟩)]),(5,iv v_i5),(6,iv (w64 (v_j6+1)))] ?_
 exact hbackl2 _ a1q0 _ v_s0 _ _ _ _ v_i5 (w64 (v_j6+1)) hra1q0_0 hga1q0 hov_s0 rfl heq
theorem slices_DeleteFunc_Blob_2.l2_c {w0:World} {H:Hp} {F:List Ch} {r:(List Blob)} (e1:(List Blob)→Int→Option (List Blob))
  (he1:∀ (v_s0:List Blob) (Av_s0:Option Addr) (nv_s0:Nat) (cv_s0:Nat) (chv_s0:Ch) (v_i5:Int) ,SlOwn kBlob 47 H Av_s0 cv_s0 v_s0 chv_s0→nv_s0=v_s0.length→e1 v_s0 v_i5=some r→RunH C72v2 (S72v2 F H r) H w0 [.c [1,1,1,1,0],.c [1,1,1,1,1]] [(0,.slice Av_s0 nv_s0 cv_s0),(5,iv v_i5)] H (chv_s0::F)):∀ (k:Nat),∀ (ga1q0:Nat) (a1q0:List (ByteArray × Bool)) (Aa1q0_0:Option Nat) (v_s0:List Blob) (Av_s0:Option Addr) (nv_s0:Nat) (cv_s0:Nat) (chv_s0:Ch) (v_i5:Int) (v_j6:Int) ,Mw Value.string Kd.bool false H F Aa1q0_0 a1q0→InG H F ga1q0 (.cells #[.map Aa1q0_0] 101 (0,0))→SlOwn kBlob 47 H Av_s0 cv_s0 v_s0 chv_s0→nv_s0=v_s0.length→slices_DeleteFunc_Blob_2.l2 e1 k a1q0 v_s0 v_i5 v_j6=some r→RunH C72v2 (S72v2 F H r) H w0 [.c [1,1,1,0,1,0,0],.l [1,1,1,0,1,0,0],.b 0,.c [1,1,1,1]] [(0,.slice Av_s0 nv_s0 cv_s0),(1,.func (.func 110) #[] #[.pointer (some ⟨ga1q0,0,none⟩)]),(5,iv v_i5),(6,iv v_j6)] H (chv_s0::F):=by
 intro k
 induction k with
 | zero=>intro ga1q0 a1q0 Aa1q0_0 v_s0 Av_s0 nv_s0 cv_s0 chv_s0 v_i5 v_j6 hra1q0_0 hga1q0 hov_s0 hnv_s0 heq; exact nomatch (show (none:Option (List Blob))=some r from heq)
 | succ k ihk =>
  intro ga1q0 a1q0 Aa1q0_0 v_s0 Av_s0 nv_s0 cv_s0 chv_s0 v_i5 v_j6 hra1q0_0 hga1q0 hov_s0 hnv_s0 heq
  subst hnv_s0
  rw [slices_DeleteFunc_Blob_2.l2] at heq
  refine Ra 2 [1,1,1,0,1,0,0,0,0] [.c [1,1,1,0,1,0,0,0,1],.c [1,1,1,0,1,0,0,1],.l [1,1,1,0,1,0,0],.b 0,.c [1,1,1,1]]<|Rd 4 [0,1,5,6,19] [(0,.slice Av_s0 v_s0.length cv_s0),(1,.func (.func 110) #[] #[.pointer (some ⟨ga1q0,0,none⟩)]),(5,iv v_i5),(6,iv v_j6),(19,.bool (decide (v_j6<(v_s0.length:Int))))] ?_
  rcases bool_cases (decide (v_j6<(v_s0.length:Int))) with hb2 | hb2
  ·replace heq:=bif_true hb2 heq
   refine Ct (decide (v_j6<(v_s0.length:Int))) hb2<|Ra 4 [1,1,1,0,1,0,0,1,0,0,0] [.c [1,1,1,0,1,0,0,1,0,0,1],.b 1,.c [1,1,1,0,1,0,0,1,1],.l [1,1,1,0,1,0,0],.b 0,.c [1,1,1,1]] ?_
   obtain ⟨x1,hx1,heq⟩:=bind_some heq
   obtain ⟨ha1,cs1,hK1,hcc1⟩:=hov_s0.get hx1
   obtain ⟨rfl⟩:=kBlob_open hK1
   refine Rv 4 [0,1,5,6,25] [.string x1.Digest,iv x1.Size,iv x1.Used,iv x1.Until,iv x1.Pins] [.need (Av_s0=some (adr Av_s0)∧(0:Int)≤v_j6∧v_j6<((v_s0.length:Nat):Int)),.load (((adr Av_s0).add (v_j6.toNat*5)).add 0) (.string x1.Digest),.load (((adr Av_s0).add (v_j6.toNat*5)).add 1) (iv x1.Size),.load (((adr Av_s0).add (v_j6.toNat*5)).add 2) (iv x1.Used),.load (((adr Av_s0).add (v_j6.toNat*5)).add 3) (iv x1.Until),.load (((adr Av_s0).add (v_j6.toNat*5)).add 4) (iv x1.Pins)] [(0,.slice Av_s0 v_s0.length cv_s0),(1,.func (.func 110) #[] #[.pointer (some ⟨ga1q0,0,none⟩)]),(5,iv v_i5),(6,iv v_j6),(25,.agg #[.string x1.Digest,iv x1.Size,iv x1.Used,iv x1.Until,iv x1.Pins])] (fun w hh=>⟨⟨ha1,(at?_some hx1).1,(at?_some hx1).2.1⟩,(hcc1 _ (hh.chin 0 rfl) 0 _ rfl),(hcc1 _ (hh.chin 0 rfl) 1 _ rfl),(hcc1 _ (hh.chin 0 rfl) 2 _ rfl),(hcc1 _ (hh.chin 0 rfl) 3 _ rfl),(hcc1 _ (hh.chin 0 rfl) 4 _ rfl)⟩) ?_
   refine RgH.does (DoesH.new (d:=7) (v:=fun g=>.pointer (some ⟨g,0,none⟩)) (o:=fun g=>.cells #[.string ByteArray.empty,iv 0,iv 0,iv 0,iv 0] 47 (0,0)) (fun g=>by kernel_rfl)) ?_
   rintro _ _ _ _ ⟨g1,rfl,rfl,rfl⟩
   refine RgH.does (DoesH.store (k:=0) (g:=g1) (off:=0) (v:=.agg #[.string x1.Digest,iv x1.Size,iv x1.Used,iv x1.Until,iv x1.Pins]) (cells':=#[.string x1.Digest,iv x1.Size,iv x1.Used,iv x1.Until,iv x1.Pins]) (by kernel_rfl) rfl (by kernel_rfl) (by kernel_rfl)) ?_
   rintro _ _ _ _ ⟨rfl,rfl,rfl⟩
   refine Dn<|Ra 1 [1,1,1,0,1,0,0,1,0,0,1,0] [.c [1,1,1,0,1,0,0,1,0,0,1,1],.b 1,.c [1,1,1,0,1,0,0,1,1],.l [1,1,1,0,1,0,0],.b 0,.c [1,1,1,1]]<|Rv 2 [0,1,5,6,7,26,27] [.string x1.Digest,iv x1.Size,iv x1.Used,iv x1.Until,iv x1.Pins] [.load ⟨g1,0,none⟩ (.string x1.Digest),.load ⟨g1,1,none⟩ (iv x1.Size),.load ⟨g1,2,none⟩ (iv x1.Used),.load ⟨g1,3,none⟩ (iv x1.Until),.load ⟨g1,4,none⟩ (iv x1.Pins)] [(0,.slice Av_s0 v_s0.length cv_s0),(1,.func (.func 110) #[] #[.pointer (some ⟨ga1q0,0,none⟩)]),(5,iv v_i5),(6,iv v_j6),(7,pg g1 0),(26,.func (.func 110) #[] #[.pointer (some ⟨ga1q0,0,none⟩)]),(27,.agg #[.string x1.Digest,iv x1.Size,iv x1.Used,iv x1.Until,iv x1.Pins])] (fun w hh=>⟨(hh.box 0 rfl rfl),(hh.box 0 rfl rfl),(hh.box 0 rfl rfl),(hh.box 0 rfl rfl),(hh.box 0 rfl rfl)⟩) ?_
   obtain ⟨y2,hy2,heq⟩:=bind_some heq
   refine RgH.does (DoesH.call (d:=28) (g:=110) (args:=#[.agg #[.string x1.Digest,iv x1.Size,iv x1.Used,iv x1.Until,iv x1.Pins],.pointer (some ⟨ga1q0,0,none⟩)]) (by kernel_rfl) (cache_drop_1_c (a0:=x1) (a1:=a1q0) (hra1q0_0.wk (fun _ h=>(.tail _ (.tail _ h)))) (hga1q0.wk (fun _ h=>(.tail _ (.tail _ h)))) hy2)) ?_
   rintro _ _ _ _ ⟨_,rfl,rfl,rfl,rfl⟩
   refine Rd 4 [0,1,5,6,7,29] [(0,.slice Av_s0 v_s0.length cv_s0),(1,.func (.func 110) #[] #[.pointer (some ⟨ga1q0,0,none⟩)]),(5,iv v_i5),(6,iv v_j6),(7,pg g1 0),(29,.bool (!y2))] ?_
   rcases bool_cases (!y2) with hb3 | hb3
   ·replace heq:=bif_true hb3 heq
    refine Ct (!y2) hb3<|Ra 1 [1,1,1,0,1,0,0,1,0,0,1,1,0,0] [.c [1,1,1,0,1,0,0,1,0,0,1,1,0,1],.b 1,.c [1,1,1,0,1,0,0,1,1],.l [1,1,1,0,1,0,0],.b 0,.c [1,1,1,1]] ?_
    obtain ⟨x2,hx2,heq⟩:=bind_some heq
    obtain ⟨ha2,cs2,hK2,hcc2⟩:=hov_s0.get hx2
    obtain ⟨rfl⟩:=kBlob_open hK2
    refine Rv 4 [0,1,5,6,32,33] [.string x1.Digest,iv x1.Size,iv x1.Used,iv x1.Until,iv x1.Pins] [.load ⟨g1,0,none⟩ (.string x1.Digest),.load ⟨g1,1,none⟩ (iv x1.Size),.load ⟨g1,2,none⟩ (iv x1.Used),.load ⟨g1,3,none⟩ (iv x1.Until),.load ⟨g1,4,none⟩ (iv x1.Pins),.need (Av_s0=some (adr Av_s0)∧(0:Int)≤v_i5∧v_i5<((v_s0.length:Nat):Int))] [(0,.slice Av_s0 v_s0.length cv_s0),(1,.func (.func 110) #[] #[.pointer (some ⟨ga1q0,0,none⟩)]),(5,iv v_i5),(6,iv v_j6),(32,.agg #[.string x1.Digest,iv x1.Size,iv x1.Used,iv x1.Until,iv x1.Pins]),(33,.pointer (some ((adr Av_s0).add (v_i5.toNat*5))))] (fun w hh=>⟨(hh.box 0 rfl rfl),(hh.box 0 rfl rfl),(hh.box 0 rfl rfl),(hh.box 0 rfl rfl),(hh.box 0 rfl rfl),⟨ha2,(at?_some hx2).1,(at?_some hx2).2.1⟩⟩) ?_
    obtain ⟨ha3,cs3,hK3,hcc3⟩:=hov_s0.get hx2
    obtain ⟨rfl⟩:=kBlob_open hK3
    refine RgH.does (DoesH.storeEl (a:=((adr Av_s0).add (v_i5.toNat*5))) (k:=1) (kd:=kBlob) (c0:=[.string x2.Digest,iv x2.Size,iv x2.Used,iv x2.Until,iv x2.Pins]) (x':=x1) (o:=0) (ix:=v_i5) (v:=.agg #[.string x1.Digest,iv x1.Size,iv x1.Used,iv x1.Until,iv x1.Pins]) (by kernel_rfl) rfl hov_s0 hx2 (by kernel_rfl) hcc3 rfl (Nat.le_of_ble_eq_true (by kernel_rfl)) kBlob_mk) ?_
    rintro _ _ _ _ ⟨ch2,rfl,rfl,rfl,ho4⟩
    have hn6:v_s0.length=(v_s0.set v_i5.toNat x1).length:=by rw [List.length_set]
    refine Dn<|Rr<|Rd 3 [0,1,5,6] [(0,.slice Av_s0 v_s0.length cv_s0),(1,.func (.func 110) #[] #[.pointer (some ⟨ga1q0,0,none⟩)]),(5,iv (w64 (v_i5+1))),(6,iv v_j6)]<|Ad 1 [.c [1,1,1,0,1,0,0,1,1],.l [1,1,1,0,1,0,0],.b 0,.c [1,1,1,1]]<|Kp [0,1,5,6] [(0,.slice Av_s0 v_s0.length cv_s0),(1,.func (.func 110) #[] #[.pointer (some ⟨ga1q0,0,none⟩)]),(5,iv (w64 (v_i5+1))),(6,iv v_j6)] ?_
    refine RunH.pick 2 [1] (cs':=ch2::F) (by kernel_rfl) rfl ?_
    exact (slices_DeleteFunc_Blob_2.j3_c (backl2:=(slices_DeleteFunc_Blob_2.l2 e1 k)) ihk) _ a1q0 _ v_j6 (v_s0.set v_i5.toNat x1) _ _ _ _ (w64 (v_i5+1)) hra1q0_0 hga1q0 ho4 hn6 heq
   ·replace heq:=bif_false hb3 heq
    refine Cf (!y2) hb3<|Ad 2 [.c [1,1,1,0,1,0,0,1,1],.l [1,1,1,0,1,0,0],.b 0,.c [1,1,1,1]]<|Kp [0,1,5,6] [(0,.slice Av_s0 v_s0.length cv_s0),(1,.func (.func 110) #[] #[.pointer (some ⟨ga1q0,0,none⟩)]),(5,iv v_i5),(6,iv v_j6)] ?_
    refine RunH.pick 2 [1] (cs':=chv_s0::F) (by kernel_rfl) rfl ?_
    exact (slices_DeleteFunc_Blob_2.j3_c (backl2:=(slices_DeleteFunc_Blob_2.l2 e1 k)) ihk) _ a1q0 _ v_j6 v_s0 _ _ _ _ v_i5 hra1q0_0 hga1q0 hov_s0 rfl heq
  ·replace heq:=bif_false hb2 heq
   refine Cf (decide (v_j6<(v_s0.length:Int))) hb2<|Ad 2 [.c [1,1,1,1,0],.c [1,1,1,1,1]]<|Kp [0,5] [(0,.slice Av_s0 v_s0.length cv_s0),(5,iv v_i5)] ?_
   exact he1 v_s0 _ _ _ _ v_i5 hov_s0 rfl heq
theorem slices_DeleteFunc_Blob_2_c {w0:World} {H:Hp} {F:List Ch} {a0:List Blob} {Aa0:Option Addr} {na0:Nat} {ca0:Nat} {cha0:Ch} {ga1q0:Nat} {a1q0:List (ByteArray × Bool)} {Aa1q0_0:Option Nat} {r:(List Blob)} (hoa0:SlOwn kBlob 47 H Aa0 ca0 a0 cha0) (hna0:na0=a0.length) (hra1q0_0:Mw Value.string Kd.bool false H F Aa1q0_0 a1q0) (hga1q0:InG H F ga1q0 (.cells #[.map Aa1q0_0] 101 (0,0))) (heq:slices_DeleteFunc_Blob_2.f a0 a1q0=some r):CallsH Tryd.prog 72 #[.slice Aa0 na0 ca0,.func (.func 110) #[] #[.pointer (some ⟨ga1q0,0,none⟩)]] H w0 (cha0::F) (S72v2 F H r):=by
 refine calls_of_runH (F:=C72v2) Tryd.func72 (by kernel_rfl) Tryd.ntmps72 (args:=[.slice Aa0 na0 ca0,.func (.func 110) #[] #[.pointer (some ⟨ga1q0,0,none⟩)]]) (by kernel_rfl) ?_
 subst hna0
 unfold slices_DeleteFunc_Blob_2.f at heq
 refine Ra 1 [0] [.c [1]]<|Rd 1 [0,1] [(0,.slice Aa0 a0.length ca0),(1,.func (.func 110) #[] #[.pointer (some ⟨ga1q0,0,none⟩)])]<|Ra 1 [1,0] [.c [1,1]]<|Rk 2 [0,1,8,9] [(0,.slice Aa0 a0.length ca0),(1,.func (.func 110) #[] #[.pointer (some ⟨ga1q0,0,none⟩)]),(8,.slice Aa0 a0.length ca0),(9,.func (.func 110) #[] #[.pointer (some ⟨ga1q0,0,none⟩)])] ?_
 obtain ⟨y1,hy1,heq⟩:=bind_some heq
 refine RgH.does (DoesH.call (d:=10) (g:=109) (args:=#[.slice Aa0 a0.length ca0,.func (.func 110) #[] #[.pointer (some ⟨ga1q0,0,none⟩)]]) (by kernel_rfl) (slices_IndexFunc_Blob_2_c (a0:=a0) (a1q0:=a1q0) (hoa0.rw (.head _)) hoa0.cap rfl (hra1q0_0.wk (fun _ h=>(.tail _ h))) (hga1q0.wk (fun _ h=>(.tail _ h))) hy1)) ?_
 rintro _ _ _ _ ⟨_,rfl,rfl,rfl,rfl⟩
 refine Rd 4 [0,1,5] [(0,.slice Aa0 a0.length ca0),(1,.func (.func 110) #[] #[.pointer (some ⟨ga1q0,0,none⟩)]),(5,iv y1)]<|Ra 2 [1,1,0,0] [.c [1,1,0,1],.c [1,1,1]]<|Rd 2 [0,1,5,12] [(0,.slice Aa0 a0.length ca0),(1,.func (.func 110) #[] #[.pointer (some ⟨ga1q0,0,none⟩)]),(5,iv y1),(12,.bool (y1 == (-1)))] ?_
 rcases bool_cases (y1 == (-1)) with hb1 | hb1
 ·replace heq:=bif_true hb1 heq
  refine Ct (y1 == (-1)) hb1<|Ra 1 [1,1,0,1,0,0] [.c [1,1,0,1,0,1],.c [1,1,1]]<|Rd 2 [4] [(4,.slice Aa0 a0.length ca0)] ?_
  obtain rfl:=Option.some.inj heq
  exact RunH.done (by kernel_rfl) Tryd.func72 (v:=.slice Aa0 a0.length ca0) (by kernel_rfl) ⟨Aa0,ca0,cha0,rfl,rfl,rfl,hoa0⟩
 ·replace heq:=bif_false hb1 heq
  refine Cf (y1 == (-1)) hb1<|Ra 3 [1,1,1,0,0] [.c [1,1,1,0,1],.c [1,1,1,1]]<|Rd 3 [0,1,5,6] [(0,.slice Aa0 a0.length ca0),(1,.func (.func 110) #[] #[.pointer (some ⟨ga1q0,0,none⟩)]),(5,iv y1),(6,iv (w64 (y1+1)))]<|Ad 2 [.c [1,1,1,0,1,0,0],.l [1,1,1,0,1,0,0],.b 0,.c [1,1,1,1]]<|Kp [0,1,5,6] [(0,.slice Aa0 a0.length ca0),(1,.func (.func 110) #[] #[.pointer (some ⟨ga1q0,0,none⟩)]),(5,iv y1),(6,iv (w64 (y1+1)))] ?_
  exact ((slices_DeleteFunc_Blob_2.l2_c (e1:=slices_DeleteFunc_Blob_2.e1) (slices_DeleteFunc_Blob_2.e1_c)) big) _ a1q0 _ a0 _ _ _ _ y1 (w64 (y1+1)) hra1q0_0 hga1q0 hoa0 rfl heq
noncomputable def C75:Ctx:={ P:=Tryd.prog,f:=75,N:=26,c:=bodyOf Tryd.f75 }
def S75 (F:List Ch) (H0:Hp) (ga0:Nat) (r:Cache) (v:Value) (H:Hp) (cs:List Ch):Prop:=∃ (A0_2:Option Addr) (c0_2:Nat) (ch0_2:Ch) (A0_3:Option Addr) (c0_3:Nat) (ch0_3:Ch),H0=H∧v=.tuple #[]∧some (ga0,.cells #[iv r.Room,iv r.Lease,.slice A0_2 r.Blobs.length c0_2,.slice A0_3 r.Entries.length c0_3] 25 (0,0))::ch0_2::ch0_3::F=cs∧SlOwn kBlob 47 H A0_2 c0_2 r.Blobs ch0_2∧SlOwn kEntry 51 H A0_3 c0_3 r.Entries ch0_3
theorem cache_drop.e1_c {w0:World} {H:Hp} {F:List Ch} {r:Cache}:∀ (ga0:Nat) (a0:Cache) (Aa0_2:Option Addr) (ca0_2:Nat) (cha0_2:Ch) (Aa0_3:Option Addr) (ca0_3:Nat) (cha0_3:Ch) (g2:Nat) (v_has4_0:List (ByteArray × Bool)) (gv_has4_0:Nat) (chv_has4_0:Ch) ,SlOwn kBlob 47 H Aa0_2 ca0_2 a0.Blobs cha0_2→SlOwn kEntry 51 H Aa0_3 ca0_3 a0.Entries cha0_3→MpOwn Value.string Kd.bool false H gv_has4_0 v_has4_0 chv_has4_0→cache_drop.e1 a0 v_has4_0=some r→RunH C75 (S75 F H ga0 r) H w0 [.c [1,1]] [(0,pg ga0 0),(4,pg g2 0)] H ((some (g2,.cells #[.map (some gv_has4_0)] 101 (0,0)))::chv_has4_0::(some (ga0,.cells #[iv a0.Room,iv a0.Lease,.slice Aa0_2 a0.Blobs.length ca0_2,.slice Aa0_3 a0.Entries.length ca0_3] 25 (0,0)))::cha0_2::cha0_3::F):=by
 intro ga0 a0 Aa0_2 ca0_2 cha0_2 Aa0_3 ca0_3 cha0_3 g2 v_has4_0 gv_has4_0 chv_has4_0 hoa0_2 hoa0_3 hov_has4_0 heq
 unfold cache_drop.e1 at heq
 refine Rr<|Rv 6 [0,17,21,22] [.slice Aa0_2 a0.Blobs.length ca0_2] [.load ⟨ga0,2,none⟩ (.slice Aa0_2 a0.Blobs.length ca0_2)] [(0,pg ga0 0),(17,pg ga0 0),(21,.slice Aa0_2 a0.Blobs.length ca0_2),(22,.func (.func 110) #[] #[.pointer (some ⟨g2,0,none⟩)])] (fun w hh=>(hh.box 2 rfl rfl)) ?_
 refine RgH.pick 5 [3,0,1,2,4] (cs':=cha0_2::(some (g2,.cells #[.map (some gv_has4_0)] 101 (0,0)))::chv_has4_0::(some (ga0,.cells #[iv a0.Room,iv a0.Lease,.slice Aa0_2 a0.Blobs.length ca0_2,.slice Aa0_3 a0.Entries.length ca0_3] 25 (0,0)))::cha0_3::F) (by kernel_rfl) rfl ?_
 obtain ⟨y1,hy1,heq⟩:=bind_some heq
 refine RgH.does (DoesH.call (d:=23) (g:=72) (args:=#[.slice Aa0_2 a0.Blobs.length ca0_2,.func (.func 110) #[] #[.pointer (some ⟨g2,0,none⟩)]]) (by kernel_rfl) (slices_DeleteFunc_Blob_2_c (a0:=a0.Blobs) (a1q0:=v_has4_0) hoa0_2 rfl (hov_has4_0.mw (.tail _ (.head _))) (.inr (.head _)) hy1)) ?_
 rintro _ _ _ _ ⟨_,rfl,A1,c1,ch1,rfl,rfl,rfl,ho2⟩
 refine Rk 9 [0,23,25] [(0,pg ga0 0),(23,.slice A1 y1.length c1),(25,pg ga0 2)] ?_
 refine RgH.does (DoesH.store (k:=3) (g:=ga0) (off:=2) (v:=.slice A1 y1.length c1) (cells':=#[iv a0.Room,iv a0.Lease,.slice A1 y1.length c1,.slice Aa0_3 a0.Entries.length ca0_3]) (by kernel_rfl) rfl (by kernel_rfl) (by kernel_rfl)) ?_
 rintro _ _ _ _ ⟨rfl,rfl,rfl⟩
 refine Dn ?_
 obtain rfl:=Option.some.inj heq
 refine RunH.pick 5 [3,0,4] (cs':=(some (ga0,.cells #[iv a0.Room,iv a0.Lease,.slice A1 y1.length c1,.slice Aa0_3 a0.Entries.length ca0_3] 25 (0,0)))::ch1::cha0_3::F) (by kernel_rfl) rfl ?_
 exact RunH.done (by kernel_rfl) Tryd.func75 (v:=.tuple #[]) (by kernel_rfl) ⟨A1,c1,ch1,Aa0_3,ca0_3,cha0_3,rfl,rfl,rfl,ho2,hoa0_3⟩
theorem cache_drop.l2_c {w0:World} {H:Hp} {F:List Ch} {r:Cache} (e1:Cache→(List (ByteArray × Bool))→Option Cache)
  (he1:∀ (ga0:Nat) (a0:Cache) (Aa0_2:Option Addr) (ca0_2:Nat) (cha0_2:Ch) (Aa0_3:Option Addr) (ca0_3:Nat) (cha0_3:Ch) (g2:Nat) (v_has4_0:List (ByteArray × Bool)) (gv_has4_0:Nat) (chv_has4_0:Ch) ,SlOwn kBlob 47 H Aa0_2 ca0_2 a0.Blobs cha0_2→SlOwn kEntry 51 H Aa0_3 ca0_3 a0.Entries cha0_3→MpOwn Value.string Kd.bool false H gv_has4_0 v_has4_0 chv_has4_0→e1 a0 v_has4_0=some r→RunH C75 (S75 F H ga0 r) H w0 [.c [1,1]] [(0,pg ga0 0),(4,pg g2 0)] H ((some (g2,.cells #[.map (some gv_has4_0)] 101 (0,0)))::chv_has4_0::(some (ga0,.cells #[iv a0.Room,iv a0.Lease,.slice Aa0_2 a0.Blobs.length ca0_2,.slice Aa0_3 a0.Entries.length ca0_3] 25 (0,0)))::cha0_2::cha0_3::F)):∀ (k:Nat),∀ (ga0:Nat) (a0:Cache) (Aa0_2:Option Addr) (ca0_2:Nat) (cha0_2:Ch) (Aa0_3:Option Addr) (ca0_3:Nat) (cha0_3:Ch) (a1:List ByteArray) (Aa1:Option Addr) (ca1:Nat) (g2:Nat) (v_has4_0:List (ByteArray × Bool)) (gv_has4_0:Nat) (chv_has4_0:Ch) (v10:Int) ,SlOwn kBlob 47 H Aa0_2 ca0_2 a0.Blobs cha0_2→SlOwn kEntry 51 H Aa0_3 ca0_3 a0.Entries cha0_3→Rw Kd.string H F Aa1 a1→a1.length≤ca1→MpOwn Value.string Kd.bool false H gv_has4_0 v_has4_0 chv_has4_0→cache_drop.l2 e1 k a0 a1 v_has4_0 v10=some r→RunH C75 (S75 F H ga0 r) H w0 [.c [1,0,1,0,0],.l [1,0,1,0,0],.b 0,.c [1,1]] [(0,pg ga0 0),(4,pg g2 0),(8,.slice Aa1 a1.length ca1),(9,iv (a1.length:Int)),(10,iv v10)] H ((some (g2,.cells #[.map (some gv_has4_0)] 101 (0,0)))::chv_has4_0::(some (ga0,.cells #[iv a0.Room,iv a0.Lease,.slice Aa0_2 a0.Blobs.length ca0_2,.slice Aa0_3 a0.Entries.length ca0_3] 25 (0,0)))::cha0_2::cha0_3::F):=by
 intro k
 induction k with
 | zero=>intro ga0 a0 Aa0_2 ca0_2 cha0_2 Aa0_3 ca0_3 cha0_3 a1 Aa1 ca1 g2 v_has4_0 gv_has4_0 chv_has4_0 v10 hoa0_2 hoa0_3 hra1 hca1 hov_has4_0 heq; exact nomatch (show (none:Option Cache)=some r from heq)
 | succ k ihk =>
  intro ga0 a0 Aa0_2 ca0_2 cha0_2 Aa0_3 ca0_3 cha0_3 a1 Aa1 ca1 g2 v_has4_0 gv_has4_0 chv_has4_0 v10 hoa0_2 hoa0_3 hra1 hca1 hov_has4_0 heq
  rw [cache_drop.l2] at heq
  refine Ra 1 [1,0,1,0,0,0] [.c [1,0,1,0,0,1],.l [1,0,1,0,0],.b 0,.c [1,1]]<|Rd 1 [0,4,8,9,10,11] [(0,pg ga0 0),(4,pg g2 0),(8,.slice Aa1 a1.length ca1),(9,iv (a1.length:Int)),(10,iv v10),(11,.bool (decide (v10<(a1.length:Int))))]<|Ad 1 [.c [1,0,1,0,0,1,0],.c [1,0,1,0,0,1,1],.l [1,0,1,0,0],.b 0,.c [1,1]] ?_
  rcases bool_cases (decide (v10<(a1.length:Int))) with hb1 | hb1
  ·replace heq:=bif_true hb1 heq
   refine Ct (decide (v10<(a1.length:Int))) hb1<|Ra 4 [1,0,1,0,0,1,1,0,0,0] [.c [1,0,1,0,0,1,1,0,0,1],.b 1,.c [1,0,1,0,0,1,1,1],.l [1,0,1,0,0],.b 0,.c [1,1]] ?_
   obtain ⟨x1,hx1,heq⟩:=bind_some heq
   obtain ⟨ha1,cs1,hK1,hcc1⟩:=hra1.get hx1
   obtain rfl:cs1=[.string x1]:=hK1
   refine Rw' 3 [0,4,6,8,9,10] [.string x1] [.need (Aa1=some (adr Aa1)∧(0:Int)≤v10∧v10<((a1.length:Nat):Int)),.load ((adr Aa1).add (v10.toNat*1)) (.string x1)] [(0,pg ga0 0),(4,pg g2 0),(6,.string x1),(8,.slice Aa1 a1.length ca1),(9,iv (a1.length:Int)),(10,iv v10)] (fun w hh=>⟨⟨ha1,(at?_some hx1).1,(at?_some hx1).2.1⟩,(hcc1 _ _ (hh.drop 5) 0 _ rfl)⟩)<|Rr<|Rv 2 [0,4,8,9,10,14,15] [.map (some gv_has4_0)] [.load ⟨g2,0,none⟩ (.map (some gv_has4_0))] [(0,pg ga0 0),(4,pg g2 0),(8,.slice Aa1 a1.length ca1),(9,iv (a1.length:Int)),(10,iv v10),(14,.map (some gv_has4_0)),(15,.string x1)] (fun w hh=>(hh.box 0 rfl rfl)) ?_
   refine RgH.does (DoesH.mapUpdate (kk:=1) (cv:=[.bool true]) (k:=x1) (v:=true) (by kernel_rfl) (KyAt.string Tryd.underlying9) rfl rfl rfl hov_has4_0) ?_
   rintro _ _ _ _ ⟨ch2,rfl,rfl,rfl,ho3⟩
   refine Dn<|Ra 1 [1,0,1,0,0,1,1,1] [.l [1,0,1,0,0],.b 0,.c [1,1]]<|Rd 2 [0,4,8,9,10] [(0,pg ga0 0),(4,pg g2 0),(8,.slice Aa1 a1.length ca1),(9,iv (a1.length:Int)),(10,iv (w64 (v10+1)))]<|Ad 1 [.c [1,0,1,0,0],.l [1,0,1,0,0],.b 0,.c [1,1]]<|Kp [0,4,8,9,10] [(0,pg ga0 0),(4,pg g2 0),(8,.slice Aa1 a1.length ca1),(9,iv (a1.length:Int)),(10,iv (w64 (v10+1)))] ?_
   exact ihk _ a0 _ _ _ _ _ _ a1 _ _ _ (mput v_has4_0 x1 true) _ _ (w64 (v10+1)) hoa0_2 hoa0_3 hra1 hca1 ho3 heq
  ·replace heq:=bif_false hb1 heq
   refine Cf (decide (v10<(a1.length:Int))) hb1<|Ad 1 [.c [1,1]]<|Kp [0,4] [(0,pg ga0 0),(4,pg g2 0)] ?_
   exact he1 _ a0 _ _ _ _ _ _ _ v_has4_0 _ _ hoa0_2 hoa0_3 hov_has4_0 heq
theorem cache_drop_c {w0:World} {H:Hp} {F:List Ch} {ga0:Nat} {a0:Cache} {Aa0_2:Option Addr} {na0_2:Nat} {ca0_2:Nat} {cha0_2:Ch} {Aa0_3:Option Addr} {na0_3:Nat} {ca0_3:Nat} {cha0_3:Ch} {a1:List ByteArray} {Aa1:Option Addr} {na1:Nat} {ca1:Nat} {r:Cache} (hoa0_2:SlOwn kBlob 47 H Aa0_2 ca0_2 a0.Blobs cha0_2) (hna0_2:na0_2=a0.Blobs.length) (hoa0_3:SlOwn kEntry 51 H Aa0_3 ca0_3 a0.Entries cha0_3) (hna0_3:na0_3=a0.Entries.length) (hra1:Rw Kd.string H F Aa1 a1) (hca1:na1≤ca1) (hna1:na1=a1.length) (heq:cache_drop.f a0 a1=some r):CallsH Tryd.prog 75 #[.pointer (some ⟨ga0,0,none⟩),.slice Aa1 na1 ca1] H w0 ((some (ga0,.cells #[iv a0.Room,iv a0.Lease,.slice Aa0_2 na0_2 ca0_2,.slice Aa0_3 na0_3 ca0_3] 25 (0,0)))::cha0_2::cha0_3::F) (S75 F H ga0 r):=by
 refine calls_of_runH (F:=C75) Tryd.func75 (by kernel_rfl) Tryd.ntmps75 (args:=[.pointer (some ⟨ga0,0,none⟩),.slice Aa1 na1 ca1]) (by kernel_rfl) ?_
 subst hna0_2
 subst hna0_3
 subst hna1
 unfold cache_drop.f at heq
 refine Ra 1 [0] [.c [1]] ?_
 refine RgH.does (DoesH.new (d:=7) (v:=fun g=>.map (some g)) (o:=fun g=>.map #[] 0) (fun g=>by kernel_rfl)) ?_
 rintro _ _ _ _ ⟨g1,rfl,rfl,rfl⟩
 have ho1:MpOwn Value.string Kd.bool false H g1 ([]:List (ByteArray × Bool)) (some (g1,.map #[] 0)):=MpOwn.made
 refine RgH.does (DoesH.new (d:=4) (v:=fun g=>.pointer (some ⟨g,0,none⟩)) (o:=fun g=>.cells #[.map none] 101 (0,0)) (fun g=>by kernel_rfl)) ?_
 rintro _ _ _ _ ⟨g2,rfl,rfl,rfl⟩
 refine RgH.does (DoesH.store (k:=0) (g:=g2) (off:=0) (v:=.map (some g1)) (cells':=#[.map (some g1)]) (by kernel_rfl) rfl (by kernel_rfl) (by kernel_rfl)) ?_
 rintro _ _ _ _ ⟨rfl,rfl,rfl⟩
 refine Dn<|Ra 2 [1,0,0] [.c [1,0,1],.c [1,1]]<|Rd 3 [0,4,8,9,10] [(0,pg ga0 0),(4,pg g2 0),(8,.slice Aa1 a1.length ca1),(9,iv (a1.length:Int)),(10,iv 0)]<|Ad 2 [.c [1,0,1,0,0],.l [1,0,1,0,0],.b 0,.c [1,1]]<|Kp [0,4,8,9,10] [(0,pg ga0 0),(4,pg g2 0),(8,.slice Aa1 a1.length ca1),(9,iv (a1.length:Int)),(10,iv 0)] ?_
 exact ((cache_drop.l2_c (e1:=cache_drop.e1) (cache_drop.e1_c)) big) _ a0 _ _ _ _ _ _ a1 _ _ _ ([]:List (ByteArray × Bool)) _ _ 0 hoa0_2 hoa0_3 hra1 hca1 ho1 heq
noncomputable def C113:Ctx:={ P:=Tryd.prog,f:=113,N:=9,c:=bodyOf Tryd.f113 }
def S113 (F:List Ch) (H0:Hp) (r:Int) (v:Value) (H:Hp) (cs:List Ch):Prop:=H0=H∧v=iv r∧F=cs
theorem cache_entryAt_1_c {w0:World} {H:Hp} {F:List Ch} {a0:Entry} {Aa0_1:Option Addr} {na0_1:Nat} {ca0_1:Nat} {a1:ByteArray} {r:Int} (hra0_1:Rw Kd.string H F Aa0_1 a0.Refs) (hca0_1:na0_1≤ca0_1) (hna0_1:na0_1=a0.Refs.length) (heq:cache_entryAt_1.f a0 a1=some r):CallsH Tryd.prog 113 #[.agg #[.string a0.Key,.slice Aa0_1 na0_1 ca0_1,iv a0.Used],.string a1] H w0 (F) (S113 F H r):=by
 refine calls_of_runH (F:=C113) Tryd.func113 (by kernel_rfl) Tryd.ntmps113 (args:=[.agg #[.string a0.Key,.slice Aa0_1 na0_1 ca0_1,iv a0.Used],.string a1]) (by kernel_rfl) ?_
 subst hna0_1
 unfold cache_entryAt_1.f at heq
 refine Ra 1 [0] [.c [1]] ?_
 refine RgH.does (DoesH.new (d:=2) (v:=fun g=>.pointer (some ⟨g,0,none⟩)) (o:=fun g=>.cells #[.string a0.Key,.slice Aa0_1 a0.Refs.length ca0_1,iv a0.Used] 51 (0,0)) (fun g=>by kernel_rfl)) ?_
 rintro _ _ _ _ ⟨g1,rfl,rfl,rfl⟩
 refine Rd 2 [1,2] [(1,.string a1),(2,pg g1 0)]<|Ra 1 [1,0] [.c [1,1]]<|Rv 3 [6,7] [.string a0.Key] [.load ⟨g1,0,none⟩ (.string a0.Key)] [(6,.string a0.Key),(7,.string a1)] (fun w hh=>(hh.box 0 rfl rfl)) ?_
 obtain ⟨y1,hy1,heq⟩:=bind_some heq
 refine RgH.does (DoesH.call (d:=8) (g:=114) (args:=#[.string a0.Key,.string a1]) (by kernel_rfl) (strings_Compare_c (a0:=a0.Key) (a1:=a1)  hy1)) ?_
 rintro _ _ _ _ ⟨_,rfl,rfl,rfl,rfl⟩
 refine Rd 5 [4] [(4,iv y1)] ?_
 obtain rfl:=Option.some.inj heq
 refine RunH.pick 1 [] (cs':=F) (by kernel_rfl) rfl ?_
 exact RunH.done (by kernel_rfl) Tryd.func113 (v:=iv y1) (by kernel_rfl) ⟨rfl,rfl,rfl⟩
noncomputable def C112:Ctx:={ P:=Tryd.prog,f:=112,N:=49,c:=bodyOf Tryd.f112 }
def S112 (F:List Ch) (H0:Hp) (r:Int × Bool) (v:Value) (H:Hp) (cs:List Ch):Prop:=H0=H∧v=.tuple #[iv r.1,.bool r.2]∧F=cs
theorem slices_BinarySearchFunc_Entry_string.e1_c {w0:World} {H:Hp} {F:List Ch} {r:Int × Bool}:∀ (a0:List Entry) (Aa0:Option Addr) (ca0:Nat) (a1:ByteArray) (v_i9:Int) ,Rw kEntry H F Aa0 a0→a0.length≤ca0→slices_BinarySearchFunc_Entry_string.e1 a0 a1 v_i9=some r→RunH C112 (S112 F H r) H w0 [.c [1,1,1,1,0],.c [1,1,1,1,1]] [(0,.slice Aa0 a0.length ca0),(1,.string a1),(2,.func (.func 113) #[] #[]),(8,iv (a0.length:Int)),(9,iv v_i9)] H (F):=by
 intro a0 Aa0 ca0 a1 v_i9 hra0 hca0 heq
 unfold slices_BinarySearchFunc_Entry_string.e1 at heq
 obtain ⟨t1,ht1,heq⟩:=bind_some heq
 have K1:RunH C112 (S112 F H r) H w0 [.c [1,1,1,1,1]] [(6,iv v_i9),(7,.bool t1)] H (F):=by
  obtain rfl:=Option.some.inj heq
  exact RunH.done (by kernel_rfl) Tryd.func112 (v:=.tuple #[iv v_i9,.bool t1]) (by kernel_rfl) ⟨rfl,rfl,rfl⟩
 replace heq:=ht1
 refine Rr<|Rk 5 [39,0,1,2,9,35] [(39,.bool (decide (v_i9<(a0.length:Int)))),(0,.slice Aa0 a0.length ca0),(1,.string a1),(2,.func (.func 113) #[] #[]),(9,iv v_i9),(35,iv v_i9)] ?_
 rcases bool_cases (decide (v_i9<(a0.length:Int))) with hb1 | hb1
 ·replace heq:=bif_true hb1 heq
  refine RgH.val1 (v':=.bool true) (congrArg Value.bool hb1) ?_
  obtain ⟨x1,hx1,heq⟩:=bind_some heq
  obtain ⟨ha1,cs1,hK1,hcc1⟩:=hra0.get hx1
  obtain ⟨A1,c1,rfl,hc1,hr1⟩:=kEntry_open hK1
  refine Rv 11 [35,39,40,44,45] [.string x1.Key,.slice A1 x1.Refs.length c1,iv x1.Used] [.need (Aa0=some (adr Aa0)∧(0:Int)≤v_i9∧v_i9<((a0.length:Nat):Int)),.load (((adr Aa0).add (v_i9.toNat*3)).add 0) (.string x1.Key),.load (((adr Aa0).add (v_i9.toNat*3)).add 1) (.slice A1 x1.Refs.length c1),.load (((adr Aa0).add (v_i9.toNat*3)).add 2) (iv x1.Used)] [(35,iv v_i9),(39,.bool true),(40,.func (.func 113) #[] #[]),(44,.agg #[.string x1.Key,.slice A1 x1.Refs.length c1,iv x1.Used]),(45,.string a1)] (fun w hh=>⟨⟨ha1,(at?_some hx1).1,(at?_some hx1).2.1⟩,(hcc1 _ _ (hh.drop 0) 0 _ rfl),(hcc1 _ _ (hh.drop 0) 1 _ rfl),(hcc1 _ _ (hh.drop 0) 2 _ rfl)⟩) ?_
  obtain ⟨y1,hy1,heq⟩:=bind_some heq
  refine RgH.does (DoesH.call (d:=46) (g:=113) (args:=#[.agg #[.string x1.Key,.slice A1 x1.Refs.length c1,iv x1.Used],.string a1]) (by kernel_rfl) (cache_entryAt_1_c (a0:=x1) (a1:=a1) (Rw.of hr1) hc1 rfl hy1)) ?_
  rintro _ _ _ _ ⟨_,rfl,rfl,rfl,rfl⟩
  refine Rk 16 [6,7] [(6,iv v_i9),(7,.bool (y1 == 0))] ?_
  obtain rfl:=Option.some.inj heq
  refine Kg [6,7] [(6,iv v_i9),(7,.bool (y1 == 0))]<|Dn ?_
  exact K1
 ·replace heq:=bif_false hb1 heq
  refine RgH.val1 (v':=.bool false) (congrArg Value.bool hb1) ?_
  refine Rk 16 [6,7] [(6,iv v_i9),(7,.bool false)] ?_
  obtain rfl:=Option.some.inj heq
  refine Kg [6,7] [(6,iv v_i9),(7,.bool false)]<|Dn ?_
  exact K1
theorem slices_BinarySearchFunc_Entry_string.l2_c {w0:World} {H:Hp} {F:List Ch} {r:Int × Bool} (e1:(List Entry)→ByteArray→Int→Option (Int × Bool))
  (he1:∀ (a0:List Entry) (Aa0:Option Addr) (ca0:Nat) (a1:ByteArray) (v_i9:Int) ,Rw kEntry H F Aa0 a0→a0.length≤ca0→e1 a0 a1 v_i9=some r→RunH C112 (S112 F H r) H w0 [.c [1,1,1,1,0],.c [1,1,1,1,1]] [(0,.slice Aa0 a0.length ca0),(1,.string a1),(2,.func (.func 113) #[] #[]),(8,iv (a0.length:Int)),(9,iv v_i9)] H (F)):∀ (k:Nat),∀ (a0:List Entry) (Aa0:Option Addr) (ca0:Nat) (a1:ByteArray) (v_i9:Int) (v_j10:Int) ,Rw kEntry H F Aa0 a0→a0.length≤ca0→slices_BinarySearchFunc_Entry_string.l2 e1 k a0 a1 v_i9 v_j10=some r→RunH C112 (S112 F H r) H w0 [.c [1,1,1,0,0,0],.l [1,1,1,0,0,0],.b 0,.c [1,1,1,1]] [(0,.slice Aa0 a0.length ca0),(1,.string a1),(2,.func (.func 113) #[] #[]),(8,iv (a0.length:Int)),(9,iv v_i9),(10,iv v_j10)] H (F):=by
 intro k
 induction k with
 | zero=>intro a0 Aa0 ca0 a1 v_i9 v_j10 hra0 hca0 heq; exact nomatch (show (none:Option (Int × Bool))=some r from heq)
 | succ k ihk =>
  intro a0 Aa0 ca0 a1 v_i9 v_j10 hra0 hca0 heq
  rw [slices_BinarySearchFunc_Entry_string.l2] at heq
  refine Ra 2 [1,1,1,0,0,0,0,0] [.c [1,1,1,0,0,0,0,1],.c [1,1,1,0,0,0,1],.l [1,1,1,0,0,0],.b 0,.c [1,1,1,1]]<|Rd 3 [0,1,2,8,9,10,17] [(0,.slice Aa0 a0.length ca0),(1,.string a1),(2,.func (.func 113) #[] #[]),(8,iv (a0.length:Int)),(9,iv v_i9),(10,iv v_j10),(17,.bool (decide (v_i9<v_j10)))] ?_
  rcases bool_cases (decide (v_i9<v_j10)) with hb2 | hb2
  ·replace heq:=bif_true hb2 heq
   refine Ct (decide (v_i9<v_j10)) hb2<|Ra 3 [1,1,1,0,0,0,1,0,0] [.c [1,1,1,0,0,0,1,0,1],.b 1,.l [1,1,1,0,0,0],.b 0,.c [1,1,1,1]]<|Rw' 7 [0,1,2,8,9,10,11] [] [.need ((0:Int)≤1)] [(0,.slice Aa0 a0.length ca0),(1,.string a1),(2,.func (.func 113) #[] #[]),(8,iv (a0.length:Int)),(9,iv v_i9),(10,iv v_j10),(11,iv (w64 (iShr .u64 (IntKind.wrap .u64 (w64 (v_i9+v_j10))) 1)))] (fun w hh=>(show (0:Int)≤1 by decide))<|Ra 1 [1,1,1,0,0,0,1,0,1,0] [.c [1,1,1,0,0,0,1,0,1,1],.b 1,.l [1,1,1,0,0,0],.b 0,.c [1,1,1,1]] ?_
   obtain ⟨x2,hx2,heq⟩:=bind_some heq
   obtain ⟨ha2,cs2,hK2,hcc2⟩:=hra0.get hx2
   obtain ⟨A2,c2,rfl,hc2,hr2⟩:=kEntry_open hK2
   refine Rv 6 [0,1,2,8,9,10,11,24,28,29] [.string x2.Key,.slice A2 x2.Refs.length c2,iv x2.Used] [.need (Aa0=some (adr Aa0)∧(0:Int)≤(w64 (iShr .u64 (IntKind.wrap .u64 (w64 (v_i9+v_j10))) 1))∧(w64 (iShr .u64 (IntKind.wrap .u64 (w64 (v_i9+v_j10))) 1))<((a0.length:Nat):Int)),.load (((adr Aa0).add ((w64 (iShr .u64 (IntKind.wrap .u64 (w64 (v_i9+v_j10))) 1)).toNat*3)).add 0) (.string x2.Key),.load (((adr Aa0).add ((w64 (iShr .u64 (IntKind.wrap .u64 (w64 (v_i9+v_j10))) 1)).toNat*3)).add 1) (.slice A2 x2.Refs.length c2),.load (((adr Aa0).add ((w64 (iShr .u64 (IntKind.wrap .u64 (w64 (v_i9+v_j10))) 1)).toNat*3)).add 2) (iv x2.Used)] [(0,.slice Aa0 a0.length ca0),(1,.string a1),(2,.func (.func 113) #[] #[]),(8,iv (a0.length:Int)),(9,iv v_i9),(10,iv v_j10),(11,iv (w64 (iShr .u64 (IntKind.wrap .u64 (w64 (v_i9+v_j10))) 1))),(24,.func (.func 113) #[] #[]),(28,.agg #[.string x2.Key,.slice A2 x2.Refs.length c2,iv x2.Used]),(29,.string a1)] (fun w hh=>⟨⟨ha2,(at?_some hx2).1,(at?_some hx2).2.1⟩,(hcc2 _ _ (hh.drop 0) 0 _ rfl),(hcc2 _ _ (hh.drop 0) 1 _ rfl),(hcc2 _ _ (hh.drop 0) 2 _ rfl)⟩) ?_
   obtain ⟨y2,hy2,heq⟩:=bind_some heq
   refine RgH.does (DoesH.call (d:=30) (g:=113) (args:=#[.agg #[.string x2.Key,.slice A2 x2.Refs.length c2,iv x2.Used],.string a1]) (by kernel_rfl) (cache_entryAt_1_c (a0:=x2) (a1:=a1) (Rw.of hr2) hc2 rfl hy2)) ?_
   rintro _ _ _ _ ⟨_,rfl,rfl,rfl,rfl⟩
   refine Rd 8 [0,1,2,8,9,10,11,31] [(0,.slice Aa0 a0.length ca0),(1,.string a1),(2,.func (.func 113) #[] #[]),(8,iv (a0.length:Int)),(9,iv v_i9),(10,iv v_j10),(11,iv (w64 (iShr .u64 (IntKind.wrap .u64 (w64 (v_i9+v_j10))) 1))),(31,.bool (decide (y2<0)))] ?_
   rcases bool_cases (decide (y2<0)) with hb3 | hb3
   ·replace heq:=bif_true hb3 heq
    refine Ct (decide (y2<0)) hb3<|Rr<|Rd 3 [0,1,2,8,9,10] [(0,.slice Aa0 a0.length ca0),(1,.string a1),(2,.func (.func 113) #[] #[]),(8,iv (a0.length:Int)),(9,iv (w64 ((w64 (iShr .u64 (IntKind.wrap .u64 (w64 (v_i9+v_j10))) 1))+1))),(10,iv v_j10)]<|Ad 2 [.c [1,1,1,0,0,0],.l [1,1,1,0,0,0],.b 0,.c [1,1,1,1]]<|Kp [0,1,2,8,9,10] [(0,.slice Aa0 a0.length ca0),(1,.string a1),(2,.func (.func 113) #[] #[]),(8,iv (a0.length:Int)),(9,iv (w64 ((w64 (iShr .u64 (IntKind.wrap .u64 (w64 (v_i9+v_j10))) 1))+1))),(10,iv v_j10)] ?_
    exact ihk a0 _ _ a1 (w64 ((w64 (iShr .u64 (IntKind.wrap .u64 (w64 (v_i9+v_j10))) 1))+1)) v_j10 hra0 hca0 heq
   ·replace heq:=bif_false hb3 heq
    refine Cf (decide (y2<0)) hb3<|Rr<|Rd 2 [0,1,2,8,9,10] [(0,.slice Aa0 a0.length ca0),(1,.string a1),(2,.func (.func 113) #[] #[]),(8,iv (a0.length:Int)),(9,iv v_i9),(10,iv (w64 (iShr .u64 (IntKind.wrap .u64 (w64 (v_i9+v_j10))) 1)))]<|Ad 2 [.c [1,1,1,0,0,0],.l [1,1,1,0,0,0],.b 0,.c [1,1,1,1]]<|Kp [0,1,2,8,9,10] [(0,.slice Aa0 a0.length ca0),(1,.string a1),(2,.func (.func 113) #[] #[]),(8,iv (a0.length:Int)),(9,iv v_i9),(10,iv (w64 (iShr .u64 (IntKind.wrap .u64 (w64 (v_i9+v_j10))) 1)))] ?_
    exact ihk a0 _ _ a1 v_i9 (w64 (iShr .u64 (IntKind.wrap .u64 (w64 (v_i9+v_j10))) 1)) hra0 hca0 heq
  ·replace heq:=bif_false hb2 heq
   refine Cf (decide (v_i9<v_j10)) hb2<|Ad 2 [.c [1,1,1,1,0],.c [1,1,1,1,1]]<|Kp [0,1,2,8,9] [(0,.slice Aa0 a0.length ca0),(1,.string a1),(2,.func (.func 113) #[] #[]),(8,iv (a0.length:Int)),(9,iv v_i9)] ?_
   exact he1 a0 _ _ a1 v_i9 hra0 hca0 heq
theorem slices_BinarySearchFunc_Entry_string_c {w0:World} {H:Hp} {F:List Ch} {a0:List Entry} {Aa0:Option Addr} {na0:Nat} {ca0:Nat} {a1:ByteArray} {r:Int × Bool} (hra0:Rw kEntry H F Aa0 a0) (hca0:na0≤ca0) (hna0:na0=a0.length) (heq:slices_BinarySearchFunc_Entry_string.f a0 a1=some r):CallsH Tryd.prog 112 #[.slice Aa0 na0 ca0,.string a1,.func (.func 113) #[] #[]] H w0 (F) (S112 F H r):=by
 refine calls_of_runH (F:=C112) Tryd.func112 (by kernel_rfl) Tryd.ntmps112 (args:=[.slice Aa0 na0 ca0,.string a1,.func (.func 113) #[] #[]]) (by kernel_rfl) ?_
 subst hna0
 unfold slices_BinarySearchFunc_Entry_string.f at heq
 refine Ra 1 [0] [.c [1]]<|Rd 2 [0,1,2] [(0,.slice Aa0 a0.length ca0),(1,.string a1),(2,.func (.func 113) #[] #[])]<|Ra 1 [1,0] [.c [1,1]]<|Rd 3 [0,1,2,8] [(0,.slice Aa0 a0.length ca0),(1,.string a1),(2,.func (.func 113) #[] #[]),(8,iv (a0.length:Int))]<|Ra 1 [1,1,0] [.c [1,1,1]]<|Rd 3 [0,1,2,8,9,10] [(0,.slice Aa0 a0.length ca0),(1,.string a1),(2,.func (.func 113) #[] #[]),(8,iv (a0.length:Int)),(9,iv 0),(10,iv (a0.length:Int))]<|Ad 3 [.c [1,1,1,0,0,0],.l [1,1,1,0,0,0],.b 0,.c [1,1,1,1]]<|Kp [0,1,2,8,9,10] [(0,.slice Aa0 a0.length ca0),(1,.string a1),(2,.func (.func 113) #[] #[]),(8,iv (a0.length:Int)),(9,iv 0),(10,iv (a0.length:Int))] ?_
 exact ((slices_BinarySearchFunc_Entry_string.l2_c (e1:=slices_BinarySearchFunc_Entry_string.e1) (slices_BinarySearchFunc_Entry_string.e1_c)) big) a0 _ _ a1 0 (a0.length:Int) hra0 hca0 heq
noncomputable def C78:Ctx:={ P:=Tryd.prog,f:=78,N:=12,c:=bodyOf Tryd.f78 }
def S78 (F:List Ch) (H0:Hp) (r:Int × Bool) (v:Value) (H:Hp) (cs:List Ch):Prop:=H0=H∧v=.tuple #[iv r.1,.bool r.2]∧F=cs
theorem cache_entryAt_c {w0:World} {H:Hp} {F:List Ch} {a0:Cache} {Aa0_2:Option Addr} {na0_2:Nat} {ca0_2:Nat} {Aa0_3:Option Addr} {na0_3:Nat} {ca0_3:Nat} {a1:ByteArray} {r:Int × Bool} (hra0_2:Rw kBlob H F Aa0_2 a0.Blobs) (hca0_2:na0_2≤ca0_2) (hna0_2:na0_2=a0.Blobs.length) (hra0_3:Rw kEntry H F Aa0_3 a0.Entries) (hca0_3:na0_3≤ca0_3) (hna0_3:na0_3=a0.Entries.length) (heq:cache_entryAt.f a0 a1=some r):CallsH Tryd.prog 78 #[.agg #[iv a0.Room,iv a0.Lease,.slice Aa0_2 na0_2 ca0_2,.slice Aa0_3 na0_3 ca0_3],.string a1] H w0 (F) (S78 F H r):=by
 refine calls_of_runH (F:=C78) Tryd.func78 (by kernel_rfl) Tryd.ntmps78 (args:=[.agg #[iv a0.Room,iv a0.Lease,.slice Aa0_2 na0_2 ca0_2,.slice Aa0_3 na0_3 ca0_3],.string a1]) (by kernel_rfl) ?_
 subst hna0_2
 subst hna0_3
 unfold cache_entryAt.f at heq
 refine Ra 1 [0] [.c [1]] ?_
 refine RgH.does (DoesH.new (d:=2) (v:=fun g=>.pointer (some ⟨g,0,none⟩)) (o:=fun g=>.cells #[iv a0.Room,iv a0.Lease,.slice Aa0_2 a0.Blobs.length ca0_2,.slice Aa0_3 a0.Entries.length ca0_3] 25 (0,0)) (fun g=>by kernel_rfl)) ?_
 rintro _ _ _ _ ⟨g1,rfl,rfl,rfl⟩
 refine Rd 3 [1,2] [(1,.string a1),(2,pg g1 0)]<|Ra 1 [1,0] [.c [1,1]]<|Rv 3 [7,8] [.slice Aa0_3 a0.Entries.length ca0_3] [.load ⟨g1,3,none⟩ (.slice Aa0_3 a0.Entries.length ca0_3)] [(7,.slice Aa0_3 a0.Entries.length ca0_3),(8,.string a1)] (fun w hh=>(hh.box 0 rfl rfl)) ?_
 obtain ⟨y1,hy1,heq⟩:=bind_some heq
 refine RgH.does (DoesH.call (d:=9) (g:=112) (args:=#[.slice Aa0_3 a0.Entries.length ca0_3,.string a1,.func (.func 113) #[] #[]]) (by kernel_rfl) (slices_BinarySearchFunc_Entry_string_c (a0:=a0.Entries) (a1:=a1) (hra0_3.wk (fun _ h=>(.tail _ h))) hca0_3 rfl hy1)) ?_
 rintro _ _ _ _ ⟨_,rfl,rfl,rfl,rfl⟩
 refine Rd 8 [4,5] [(4,iv y1.1),(5,.bool y1.2)] ?_
 obtain rfl:=Option.some.inj heq
 refine RunH.pick 1 [] (cs':=F) (by kernel_rfl) rfl ?_
 exact RunH.done (by kernel_rfl) Tryd.func78 (v:=.tuple #[iv y1.1,.bool y1.2]) (by kernel_rfl) ⟨rfl,rfl,rfl⟩
noncomputable def C81:Ctx:={ P:=Tryd.prog,f:=81,N:=95,c:=bodyOf Tryd.f81 }
def S81 (F:List Ch) (H0:Hp) (r:List Entry) (v:Value) (H:Hp) (cs:List Ch):Prop:=∃ (A0:Option Addr) (c0:Nat) (ch0:Ch),H0=H∧v=.slice A0 r.length c0∧ch0::F=cs∧SlOwn kEntry 51 H A0 c0 r ch0
theorem slices_Insert_Entry_c {w0:World} {H:Hp} {F:List Ch} {a0:List Entry} {Aa0:Option Addr} {na0 ca0:Nat} {cha0:Ch} {a1:Int} {a2:List Entry} {Aa2:Option Addr} {na2 ca2:Nat} {cha2:Ch} {r:List Entry} (hoa0:SlOwn kEntry 51 H Aa0 ca0 a0 cha0) (hna0:na0=a0.length) (hoa2:SlOwn kEntry 51 H Aa2 ca2 a2 cha2) (hna2:na2=a2.length) (heq:slices_Insert_Entry.f a0 a1 a2=some r):CallsH Tryd.prog 81 #[.slice Aa0 na0 ca0,iv a1,.slice Aa2 na2 ca2] H w0 (cha0::cha2::F) (S81 F H r):=by
 refine calls_of_runH (F:=C81) Tryd.func81 (by kernel_rfl) Tryd.ntmps81 (args:=[.slice Aa0 na0 ca0,iv a1,.slice Aa2 na2 ca2]) (by kernel_rfl) ?_
 subst hna0 hna2
 unfold slices_Insert_Entry.f at heq
 obtain ⟨hn,heq⟩:=guard?_some heq
 obtain rfl:=Option.some.inj heq
 simp only [Bool.and_eq_true,decide_eq_true_eq] at hn
 obtain ⟨h0,h1,h2,h3⟩:=hn
 have h3:=room_le h3
 obtain ⟨I,rfl⟩:∃ I:Nat,a1=(I:Int):=⟨a1.toNat,by omega⟩
 have hI:I≤a0.length:=by omega
 have hbig:a0.length+a2.length≤140737490452480:=by
  have:(a0.length+a2.length)*1≤(a0.length+a2.length)*48:=Nat.mul_le_mul_left _ (by omega)
  omega
 have hw1:w64 ((a0.length:Int)+(a2.length:Int))=((a0.length+a2.length:Nat):Int):=by unfold w64; rw [IntKind.wrap_i64]; omega
 have hw2:w64 ((I:Int)+(a2.length:Int))=((I+a2.length:Nat):Int):=by unfold w64; rw [IntKind.wrap_i64]; omega
 have hw3:w64 (((a0.length+a2.length:Nat):Int) - (I:Int))=((a0.length+a2.length - I:Nat):Int):=by rw [show ((a0.length+a2.length:Nat):Int) - (I:Int)=((a0.length+a2.length - I:Nat):Int) by omega]; unfold w64; rw [IntKind.wrap_i64]; omega
 simp only [Int.toNat_natCast]
 refine Ra 1 [0] [.c [1]]<|Rd 1 [0,1,2] [(0,.slice Aa0 a0.length ca0),(1,iv (I:Int)),(2,.slice Aa2 a2.length ca2)]<|Ra 1 [1,0] [.c [1,1]]<|Rw' 3 [0,1,2] [] [.need ((0:Int)≤(I:Int)∧(I:Int)≤((a0.length:Nat):Int))] [(0,.slice Aa0 a0.length ca0),(1,iv (I:Int)),(2,.slice Aa2 a2.length ca2)] (fun w hh=>⟨h0,h1⟩)<|Ra 1 [1,1,0] [.c [1,1,1]]<|Rd 3 [0,1,2,7] [(0,.slice Aa0 a0.length ca0),(1,iv (I:Int)),(2,.slice Aa2 a2.length ca2),(7,iv (a2.length:Int))]<|Ra 2 [1,1,1,0,0] [.c [1,1,1,0,1],.c [1,1,1,1]]<|Rd 2 [0,1,2,7,16] [(0,.slice Aa0 a0.length ca0),(1,iv (I:Int)),(2,.slice Aa2 a2.length ca2),(7,iv (a2.length:Int)),(16,.bool ((a2.length:Int) == 0))]<|Cf ((a2.length:Int) == 0) (beq_eq_false_iff_ne.2 (by omega))<|Ra 2 [1,1,1,1,0] [.c [1,1,1,1,1]]<|Rd 3 [0,1,2,7,8] [(0,.slice Aa0 a0.length ca0),(1,iv (I:Int)),(2,.slice Aa2 a2.length ca2),(7,iv (a2.length:Int)),(8,iv (a0.length:Int))]<|Ra 2 [1,1,1,1,1,0,0] [.c [1,1,1,1,1,0,1],.c [1,1,1,1,1,1]]<|Rd 3 [0,1,2,7,8,22] [(0,.slice Aa0 a0.length ca0),(1,iv (I:Int)),(2,.slice Aa2 a2.length ca2),(7,iv (a2.length:Int)),(8,iv (a0.length:Int)),(22,.bool ((I:Int) == (a0.length:Int)))] ?_
 rcases bool_cases ((I:Int) == (a0.length:Int)) with hb | hb
 ·have hIn:I=a0.length:=by have:=eq_of_beq hb; omega
  have e:a0.take I++a2++a0.drop I=a0++a2:=by rw [hIn]; simp
  rw [e]
  refine Ct ((I:Int) == (a0.length:Int)) hb<|Ra 1 [1,1,1,1,1,0,1,0,0] [.c [1,1,1,1,1,0,1,0,1],.c [1,1,1,1,1,1]]<|Rk 2 [23,24] [(23,.slice Aa0 a0.length ca0),(24,.slice Aa2 a2.length ca2)] ?_
  refine RgH.does (DoesH.append (d:=25) (k:=0) (t:=23) (e:=51) (bytes:=48) (kd:=kEntry) (n:=a0.length) (m:=a2.length) (xs:=a0) (ys:=a2) (A:=Aa0) (B:=Aa2) (c:=ca0) (cB:=ca2) (by kernel_rfl) rfl rfl (by kernel_rfl) rfl hoa0 (fun w hh=>hoa2.rdb (hh.chin 1 rfl)) h3 (by omega)) ?_
  rintro _ _ _ _ ⟨A1,c1,ch1,rfl,rfl,rfl,ho1⟩
  refine Rd 4 [6] [(6,.slice A1 (a0++a2).length c1)] ?_
  refine RunH.pick 2 [0] (cs':=ch1::F) (by kernel_rfl) rfl ?_
  exact RunH.done (by kernel_rfl) Tryd.func81 (v:=.slice A1 (a0++a2).length c1) (by kernel_rfl) ⟨A1,c1,ch1,rfl,rfl,rfl,ho1⟩
 ·have hIn:I<a0.length:=by have:=beq_eq_false_iff_ne.1 hb; omega
  have hx:a0≠[]:=by intro h; subst h; simp at hIn
  have hy:a2≠[]:=by intro h; subst h; simp at h2
  have hrl:(a0.take I++a2++a0.drop I).length=a0.length+a2.length:=by simp; omega
  rcases hoa0 with ⟨h,_⟩ | ⟨b,off,cells,rfl,rfl,k3,k4,k5,k6⟩
  ·exact absurd h hx
  rcases hoa2 with ⟨h,_⟩ | ⟨vb,voff,vcells,rfl,rfl,q3,q4,q5,q6⟩
  ·exact absurd h hy
  obtain ⟨newsV,v1,v2,v3,v4⟩:=Rep.toList q6
  obtain ⟨newsD,d1,d2,d3,d4⟩:=Rep.toList (Rep.drop k6 I)
  have hsz:(kEntry).sz=3:=rfl
  have hdl:(a0.drop I).length=a0.length - I:=by simp
  rw [hdl] at d1
  rw [hsz] at v1 d1 d2 k5 q5
  refine Cf ((I:Int) == (a0.length:Int)) hb<|Ra 3 [1,1,1,1,1,1,0,0] [.c [1,1,1,1,1,1,0,1],.c [1,1,1,1,1,1,1]]<|Rd 6 [0,1,2,7,8,31] [(0,.slice (some ⟨b,off,none⟩) a0.length ca0),(1,iv (I:Int)),(2,.slice (some ⟨vb,voff,none⟩) a2.length ca2),(7,iv (a2.length:Int)),(8,iv (a0.length:Int)),(31,.bool (decide ((ca0:Int)<w64 ((a0.length:Int)+(a2.length:Int)))))] ?_
  rcases bool_cases (decide ((ca0:Int)<w64 ((a0.length:Int)+(a2.length:Int)))) with hc | hc
  ·have hroom:ca0<a0.length+a2.length:=by rw [hw1] at hc; have:=of_decide_eq_true hc; omega
   refine Ct (decide ((ca0:Int)<w64 ((a0.length:Int)+(a2.length:Int)))) hc<|Ra 1 [1,1,1,1,1,1,0,1,0,0] [.c [1,1,1,1,1,1,0,1,0,1],.c [1,1,1,1,1,1,1]]<|Rv 8 [0,1,2,7,34,39] [] [.need ((0:Int)≤(I:Int)∧(I:Int)≤((ca0:Nat):Int))] [(0,.slice (some ⟨b,off,none⟩) a0.length ca0),(1,iv (I:Int)),(2,.slice (some ⟨vb,voff,none⟩) a2.length ca2),(7,iv (a2.length:Int)),(34,.slice (some ⟨b,off,none⟩) I ca0),(39,iv (w64 (w64 ((a0.length:Int)+(a2.length:Int)) - (I:Int))))] (fun w hh=>⟨h0,by omega⟩) ?_
   have hzq:w64 (w64 ((a0.length:Int)+(a2.length:Int)) - (I:Int))=((a0.length+a2.length - I:Nat):Int):=by rw [hw1,hw3]
   have hrt:Kd.Rep kEntry H cells off (a0.take I):=Rep.take k6 I
   have htl:(a0.take I).length=I:=by simp; omega
   refine RgH.does (DoesH.appendZeros (dd:=40) (kd:=kEntry) (t:=23) (tn:=3) (e:=51) (bytes:=48) (q:=a0.length+a2.length - I) (A:=some ⟨b,off,none⟩) (a:=⟨b,off,none⟩) (c:=ca0) (n:=I) (xs:=a0.take I) (by kernel_rfl) rfl hzq (by kernel_rfl) htl.symm (by kernel_rfl) (fun w hh hne=>⟨b,off,cells,51,(0,0),rfl,hh.chin 0 rfl,hrt⟩) (by omega) (by omega) (by rw [show I+(a0.length+a2.length - I)=a0.length+a2.length by omega]; exact h3) (by omega)) ?_
   rintro _ _ _ _ ⟨g,c',cells2,rfl,rfl,rfl,g1,g2,g3,g4⟩
   rw [hsz] at g3
   refine Rd 10 [0,1,2,7,9] [(0,.slice (some ⟨b,off,none⟩) a0.length ca0),(1,iv (I:Int)),(2,.slice (some ⟨vb,voff,none⟩) a2.length ca2),(7,iv (a2.length:Int)),(9,.slice (some ⟨g,0,none⟩) (I+(a0.length+a2.length - I)) c')]<|Ra 1 [1,1,1,1,1,1,0,1,0,1,0] [.c [1,1,1,1,1,1,0,1,0,1,1],.c [1,1,1,1,1,1,1]]<|Rv 4 [0,1,2,7,9,43,44] [] [.need ((0:Int)≤(I:Int)∧(I:Int)≤((I+(a0.length+a2.length - I):Nat):Int))] [(0,.slice (some ⟨b,off,none⟩) a0.length ca0),(1,iv (I:Int)),(2,.slice (some ⟨vb,voff,none⟩) a2.length ca2),(7,iv (a2.length:Int)),(9,.slice (some ⟨g,0,none⟩) (I+(a0.length+a2.length - I)) c'),(43,.slice (shiftA c' I 3 (some ⟨g,0,none⟩)) (I+(a0.length+a2.length - I) - I) (c' - I)),(44,.slice (some ⟨vb,voff,none⟩) a2.length ca2)] (fun w hh=>⟨h0,by omega⟩) ?_
   refine RgH.does (DoesH.copyRaw (k:=0) (t:=23) (e:=51) (bytes:=48) (sz:=3) (A1:=shiftA c' I 3 (some ⟨g,0,none⟩)) (A2:=some ⟨vb,voff,none⟩) (dd:=some 45) (dc:=c' - I) (sc:=ca2) (dl:=I+(a0.length+a2.length - I) - I) (sl:=a2.length) (b:=g) (o:=0+I*3) (a:=⟨vb,voff,none⟩) (cells:=cells2) (news:=newsV) (by kernel_rfl) (shiftA_at (n:=I+1) (by omega) (by omega) rfl) rfl (by kernel_rfl) rfl (by rw [v1]; congr 1; simp only [Nat.min_def]; split <;> omega) (fun w hh j u hu=>by rw [add_plain]; exact blk_cell (hh.chin 2 rfl) (v2 j u hu)) v3 (by rw [v1]; omega)) ?_
   rintro _ _ _ _ ⟨rfl,rfl,rfl⟩
   refine Rd 5 [0,1,2,7,9] [(0,.slice (some ⟨b,off,none⟩) a0.length ca0),(1,iv (I:Int)),(2,.slice (some ⟨vb,voff,none⟩) a2.length ca2),(7,iv (a2.length:Int)),(9,.slice (some ⟨g,0,none⟩) (I+(a0.length+a2.length - I)) c')]<|Ad 1 [.c [1,1,1,1,1,1,0,1,0,1,1,0],.c [1,1,1,1,1,1,0,1,0,1,1,1],.c [1,1,1,1,1,1,1]] ?_
   refine RunH.draw (fun w=>True) (fun w=>True) [3,3,3,3,3,3,3,3,0] (n:=9) (ls:=[false,false,false,false,false,false,false,false,false]) (by kernel_rfl) (by kernel_rfl) (by kernel_rfl) rfl ?_
   refine Dr [0,1,2,3,4,5,6,7] 1 (nb 9 255) [] [.need ((0:Int)≤w64 ((I:Int)+(a2.length:Int))∧w64 ((I:Int)+(a2.length:Int))≤((I+(a0.length+a2.length - I):Nat):Int)),.need ((0:Int)≤(I:Int)∧(I:Int)≤((a0.length:Nat):Int))] [(53,.slice (shiftA ca0 I 3 (some ⟨b,off,none⟩)) (a0.length - I) (ca0 - I)),(52,iv (I:Int)),(51,.slice (some ⟨b,off,none⟩) a0.length ca0),(50,.slice (shiftA c' (w64 ((I:Int)+(a2.length:Int))).toNat 3 (some ⟨g,0,none⟩)) (I+(a0.length+a2.length - I) - (w64 ((I:Int)+(a2.length:Int))).toNat) (c' - (w64 ((I:Int)+(a2.length:Int))).toNat)),(49,iv (w64 ((I:Int)+(a2.length:Int)))),(48,iv (a2.length:Int)),(47,iv (I:Int)),(46,.slice (some ⟨g,0,none⟩) (I+(a0.length+a2.length - I)) c'),(0,.slice (some ⟨b,off,none⟩) a0.length ca0),(1,iv (I:Int)),(2,.slice (some ⟨vb,voff,none⟩) a2.length ca2),(7,iv (a2.length:Int)),(9,.slice (some ⟨g,0,none⟩) (I+(a0.length+a2.length - I)) c')] (fun w hh=>trivial) (fun w hh=>trivial) (fun w hh=>⟨by rw [hw2]; constructor <;> omega,h0,h1⟩) ?_
   refine DrH.does (n:=0) (ls':=[true,true,true,true,true,true,true,true,true]) 8 (by kernel_rfl) rfl (DoesH.copyRaw (k:=0) (t:=23) (e:=51) (bytes:=48) (sz:=3) (A1:=shiftA c' (w64 ((I:Int)+(a2.length:Int))).toNat 3 (some ⟨g,0,none⟩)) (A2:=shiftA ca0 I 3 (some ⟨b,off,none⟩)) (dd:=some 54) (dc:=c' - (w64 ((I:Int)+(a2.length:Int))).toNat) (sc:=ca0 - I) (dl:=I+(a0.length+a2.length - I) - (w64 ((I:Int)+(a2.length:Int))).toNat) (sl:=a0.length - I) (b:=g) (o:=0+(I+a2.length)*3) (a:=⟨b,off+I*3,none⟩) (cells:=owr cells2 (0+I*3) newsV) (news:=newsD) (by kernel_rfl) (by rw [hw2]; exact shiftA_at (n:=I+a2.length+1) (by omega) (by omega) rfl) (shiftA_at hIn k3 rfl) (by kernel_rfl) rfl (by rw [d1,hw2]; congr 1; simp only [Nat.min_def,Int.toNat_natCast]; split <;> omega) (fun w hh j u hu=>by rw [add_plain]; exact blk_cell (hh.chin 1 rfl) (d2 j u hu)) d3 (by rw [owr_size,d1]; omega)) ?_
   rintro _ _ _ _ ⟨rfl,rfl,rfl⟩
   refine ⟨fun _ w hh=>⟨fun _=>trivial,fun _=>trivial,(fun h=>by cases h)⟩,?_⟩
   refine Kr [9] [(9,.slice (some ⟨g,0,none⟩) (I+(a0.length+a2.length - I)) c')] ?_
   refine DrH.done (by kernel_rfl) ?_
   refine Ra 1 [1,1,1,1,1,1,0,1,0,1,1,1,0] [.c [1,1,1,1,1,1,0,1,0,1,1,1,1],.c [1,1,1,1,1,1,1]]<|Rd 2 [6] [(6,.slice (some ⟨g,0,none⟩) (I+(a0.length+a2.length - I)) c')] ?_
   have r1:Kd.Rep kEntry H (owr cells2 (0+I*3) newsV) 0 (a0.take I++a2):=by
    have:=Rep.owr g4 v4 (by rw [htl,hsz,v1]; omega)
    rwa [htl,hsz] at this
   have hl1:(a0.take I++a2).length=I+a2.length:=by rw [List.length_append,htl]
   have r2:Kd.Rep kEntry H (owr (owr cells2 (0+I*3) newsV) (0+(I+a2.length)*3) newsD) 0 (a0.take I++a2++a0.drop I):=by
    have:=Rep.owr r1 d4 (by rw [hl1,hsz,d1,owr_size]; omega)
    rwa [hl1,hsz] at this
   have ho:SlOwn kEntry 51 H (some ⟨g,0,none⟩) c' (a0.take I++a2++a0.drop I) (some (g,.cells (owr (owr cells2 (0+I*3) newsV) (0+(I+a2.length)*3) newsD) 51 (0,0))):=.inr ⟨g,0,_,rfl,rfl,by rw [hrl]; omega,g2,by rw [owr_size,owr_size,hsz]; exact g3,r2⟩
   refine RunH.pick 3 [0] (cs':=some (g,.cells (owr (owr cells2 (0+I*3) newsV) (0+(I+a2.length)*3) newsD) 51 (0,0))::F) (by kernel_rfl) rfl ?_
   exact RunH.done (by kernel_rfl) Tryd.func81 (v:=.slice (some ⟨g,0,none⟩) (I+(a0.length+a2.length - I)) c') (by kernel_rfl) ⟨some ⟨g,0,none⟩,c',_,rfl,by rw [hrl,show I+(a0.length+a2.length - I)=a0.length+a2.length by omega],rfl,ho⟩
  ·have hroom:a0.length+a2.length≤ca0:=by rw [hw1] at hc; have:=of_decide_eq_false hc; omega
   refine Cf (decide ((ca0:Int)<w64 ((a0.length:Int)+(a2.length:Int)))) hc<|Ra 2 [1,1,1,1,1,1,1,0] [.c [1,1,1,1,1,1,1,1]]<|Rv 6 [0,1,2,7] [] [.need ((0:Int)≤w64 ((a0.length:Int)+(a2.length:Int))∧w64 ((a0.length:Int)+(a2.length:Int))≤((ca0:Nat):Int))] [(0,.slice (some ⟨b,off,none⟩) (w64 ((a0.length:Int)+(a2.length:Int))).toNat ca0),(1,iv (I:Int)),(2,.slice (some ⟨vb,voff,none⟩) a2.length ca2),(7,iv (a2.length:Int))] (fun w hh=>by rw [hw1]; constructor <;> omega) ?_
   refine RgH.val1 (v':=.slice (some ⟨b,off,none⟩) (a0.length+a2.length) ca0) (by rw [hw1]; rfl) ?_
   refine Dn<|Ra 2 [1,1,1,1,1,1,1,1,0,0] [.c [1,1,1,1,1,1,1,1,0,1],.c [1,1,1,1,1,1,1,1,1]]<|Rv 6 [0,1,2,7,61,66] [] [.need ((0:Int)≤w64 ((I:Int)+(a2.length:Int))∧w64 ((I:Int)+(a2.length:Int))≤((a0.length+a2.length:Nat):Int))] [(0,.slice (some ⟨b,off,none⟩) (a0.length+a2.length) ca0),(1,iv (I:Int)),(2,.slice (some ⟨vb,voff,none⟩) a2.length ca2),(7,iv (a2.length:Int)),(61,.slice (some ⟨vb,voff,none⟩) a2.length ca2),(66,.slice (shiftA ca0 (w64 ((I:Int)+(a2.length:Int))).toNat 3 (some ⟨b,off,none⟩)) (a0.length+a2.length - (w64 ((I:Int)+(a2.length:Int))).toNat) (ca0 - (w64 ((I:Int)+(a2.length:Int))).toNat))] (fun w hh=>by rw [hw2]; constructor <;> omega) ?_
   have hsh:shiftA ca0 (w64 ((I:Int)+(a2.length:Int))).toNat 3 (some ⟨b,off,none⟩)=some ⟨b,off+(I+a2.length)*3,none⟩:=by rw [hw2]; exact shiftA_at (n:=a0.length+a2.length) (by omega) hroom rfl
   have hne:∀ w,Heap H w0 w (some (b,.cells cells 51 (0,0))::some (vb,.cells vcells 51 (0,0))::F)→vb≠b:=fun w hh=>hh.dif 1 0 _ _ rfl rfl (by omega)
   refine RgH.does (DoesH.ext (d:=67) (g:=119) (args:=#[.slice (some ⟨vb,voff,none⟩) a2.length ca2,.slice (shiftA ca0 (w64 ((I:Int)+(a2.length:Int))).toNat 3 (some ⟨b,off,none⟩)) (a0.length+a2.length - (w64 ((I:Int)+(a2.length:Int))).toNat) (ca0 - (w64 ((I:Int)+(a2.length:Int))).toNat)]) (v:=.bool false) (by kernel_rfl) (fun w hh=>by rw [hsh]; exact run_overlaps_own (e:=4) Tryd.func119 (by kernel_rfl) (by kernel_rfl) (by kernel_rfl) (by kernel_rfl) (show elemOk Tryd.prog 23 51 3 48=true by kernel_rfl) (hh.chin 1 rfl) (hh.chin 0 rfl) (hne w hh) (by omega))) ?_
   rintro _ _ _ _ ⟨rfl,rfl,rfl⟩
   refine Rd 8 [0,1,2,7,68] [(0,.slice (some ⟨b,off,none⟩) (a0.length+a2.length) ca0),(1,iv (I:Int)),(2,.slice (some ⟨vb,voff,none⟩) a2.length ca2),(7,iv (a2.length:Int)),(68,.bool true)]<|Ct true rfl<|Ad 1 [.c [1,1,1,1,1,1,1,1,0,1,0,0],.c [1,1,1,1,1,1,1,1,0,1,0,1],.c [1,1,1,1,1,1,1,1,1]] ?_
   refine RunH.draw (fun w=>True) (fun w=>True) [3,3,3,3,3,3,3,3,0] (n:=9) (ls:=[false,false,false,false,false,false,false,false,false]) (by kernel_rfl) (by kernel_rfl) (by kernel_rfl) rfl ?_
   refine Dr [0,1,2,3,4,5,6,7] 1 (nb 9 255) [] [.need ((0:Int)≤w64 ((I:Int)+(a2.length:Int))∧w64 ((I:Int)+(a2.length:Int))≤((a0.length+a2.length:Nat):Int)),.need ((0:Int)≤(I:Int)∧(I:Int)≤((a0.length+a2.length:Nat):Int))] [(76,.slice (shiftA ca0 I 3 (some ⟨b,off,none⟩)) (a0.length+a2.length - I) (ca0 - I)),(75,iv (I:Int)),(74,.slice (some ⟨b,off,none⟩) (a0.length+a2.length) ca0),(73,.slice (shiftA ca0 (w64 ((I:Int)+(a2.length:Int))).toNat 3 (some ⟨b,off,none⟩)) (a0.length+a2.length - (w64 ((I:Int)+(a2.length:Int))).toNat) (ca0 - (w64 ((I:Int)+(a2.length:Int))).toNat)),(72,iv (w64 ((I:Int)+(a2.length:Int)))),(71,iv (a2.length:Int)),(70,iv (I:Int)),(69,.slice (some ⟨b,off,none⟩) (a0.length+a2.length) ca0),(0,.slice (some ⟨b,off,none⟩) (a0.length+a2.length) ca0),(1,iv (I:Int)),(2,.slice (some ⟨vb,voff,none⟩) a2.length ca2),(7,iv (a2.length:Int)),(68,.bool true)] (fun w hh=>trivial) (fun w hh=>trivial) (fun w hh=>⟨by rw [hw2]; constructor <;> omega,h0,by omega⟩) ?_
   refine DrH.does (n:=0) (ls':=[true,true,true,true,true,true,true,true,true]) 8 (by kernel_rfl) rfl (DoesH.copyRaw (k:=0) (t:=23) (e:=51) (bytes:=48) (sz:=3) (A1:=shiftA ca0 (w64 ((I:Int)+(a2.length:Int))).toNat 3 (some ⟨b,off,none⟩)) (A2:=shiftA ca0 I 3 (some ⟨b,off,none⟩)) (dd:=some 77) (dc:=ca0 - (w64 ((I:Int)+(a2.length:Int))).toNat) (sc:=ca0 - I) (dl:=a0.length+a2.length - (w64 ((I:Int)+(a2.length:Int))).toNat) (sl:=a0.length+a2.length - I) (b:=b) (o:=off+(I+a2.length)*3) (a:=⟨b,off+I*3,none⟩) (cells:=cells) (news:=newsD) (by kernel_rfl) hsh (shiftA_at hIn k3 rfl) (by kernel_rfl) rfl (by rw [d1,hw2]; congr 1; simp only [Nat.min_def,Int.toNat_natCast]; split <;> omega) (fun w hh j u hu=>by rw [add_plain]; exact blk_cell (hh.chin 0 rfl) (d2 j u hu)) d3 (by rw [d1]; omega)) ?_
   rintro _ _ _ _ ⟨rfl,rfl,rfl⟩
   refine ⟨fun _ w hh=>⟨fun _=>trivial,fun _=>trivial,(fun h=>by cases h)⟩,?_⟩
   refine Kr [0,1,2] [(0,.slice (some ⟨b,off,none⟩) (a0.length+a2.length) ca0),(1,iv (I:Int)),(2,.slice (some ⟨vb,voff,none⟩) a2.length ca2)] ?_
   refine DrH.done (by kernel_rfl) ?_
   refine Ra 1 [1,1,1,1,1,1,1,1,0,1,0,1,0] [.c [1,1,1,1,1,1,1,1,0,1,0,1,1],.c [1,1,1,1,1,1,1,1,1]]<|Rv 4 [0,80,81] [] [.need ((0:Int)≤(I:Int)∧(I:Int)≤((a0.length+a2.length:Nat):Int))] [(0,.slice (some ⟨b,off,none⟩) (a0.length+a2.length) ca0),(80,.slice (shiftA ca0 I 3 (some ⟨b,off,none⟩)) (a0.length+a2.length - I) (ca0 - I)),(81,.slice (some ⟨vb,voff,none⟩) a2.length ca2)] (fun w hh=>⟨h0,by omega⟩) ?_
   refine RgH.does (DoesH.copyRaw (k:=0) (t:=23) (e:=51) (bytes:=48) (sz:=3) (A1:=shiftA ca0 I 3 (some ⟨b,off,none⟩)) (A2:=some ⟨vb,voff,none⟩) (dd:=some 82) (dc:=ca0 - I) (sc:=ca2) (dl:=a0.length+a2.length - I) (sl:=a2.length) (b:=b) (o:=off+I*3) (a:=⟨vb,voff,none⟩) (cells:=owr cells (off+(I+a2.length)*3) newsD) (news:=newsV) (by kernel_rfl) (shiftA_at hIn k3 rfl) rfl (by kernel_rfl) rfl (by rw [v1]; congr 1; simp only [Nat.min_def]; split <;> omega) (fun w hh j u hu=>by rw [add_plain]; exact blk_cell (hh.chin 1 rfl) (v2 j u hu)) v3 (by rw [owr_size,v1]; omega)) ?_
   rintro _ _ _ _ ⟨rfl,rfl,rfl⟩
   refine Rd 5 [0] [(0,.slice (some ⟨b,off,none⟩) (a0.length+a2.length) ca0)]<|Ra 1 [1,1,1,1,1,1,1,1,0,1,0,1,1,0] [.c [1,1,1,1,1,1,1,1,0,1,0,1,1,1],.c [1,1,1,1,1,1,1,1,1]]<|Rd 2 [6] [(6,.slice (some ⟨b,off,none⟩) (a0.length+a2.length) ca0)] ?_
   have htl:(a0.take I).length=I:=by simp; omega
   have s1:Kd.Rep kEntry H (owr (owr cells (off+(I+a2.length)*3) newsD) (off+I*3) newsV) off (a0.take I):=Rep.outw (Rep.outw (Rep.take k6 I) (by rw [d1]; omega) (by rw [htl,hsz]; omega)) (by rw [owr_size,v1]; omega) (by rw [htl,hsz]; omega)
   have s2:Kd.Rep kEntry H (owr (owr cells (off+(I+a2.length)*3) newsD) (off+I*3) newsV) (off+I*3) a2:=Rep.inw v4 (by rw [owr_size,v1]; omega)
   have s3:Kd.Rep kEntry H (owr (owr cells (off+(I+a2.length)*3) newsD) (off+I*3) newsV) (off+(I+a2.length)*3) (a0.drop I):=Rep.outw (Rep.inw d4 (by rw [d1]; omega)) (by rw [owr_size,v1]; omega) (by rw [v1]; omega)
   have hl1:(a0.take I++a2).length=I+a2.length:=by rw [List.length_append,htl]
   have r2:Kd.Rep kEntry H (owr (owr cells (off+(I+a2.length)*3) newsD) (off+I*3) newsV) off (a0.take I++a2++a0.drop I):=Rep.glue (Rep.glue s1 (by rw [htl,hsz]; exact s2)) (by rw [hl1,hsz]; exact s3)
   have ho:SlOwn kEntry 51 H (some ⟨b,off,none⟩) ca0 (a0.take I++a2++a0.drop I) (some (b,.cells (owr (owr cells (off+(I+a2.length)*3) newsD) (off+I*3) newsV) 51 (0,0))):=.inr ⟨b,off,_,rfl,rfl,by rw [hrl]; omega,k4,by rw [owr_size,owr_size,hsz]; exact k5,r2⟩
   refine RunH.pick 2 [0] (cs':=some (b,.cells (owr (owr cells (off+(I+a2.length)*3) newsD) (off+I*3) newsV) 51 (0,0))::F) (by kernel_rfl) rfl ?_
   exact RunH.done (by kernel_rfl) Tryd.func81 (v:=.slice (some ⟨b,off,none⟩) (a0.length+a2.length) ca0) (by kernel_rfl) ⟨some ⟨b,off,none⟩,ca0,_,rfl,by rw [hrl],rfl,ho⟩
end Go.Proofs.YtkjilepjblffeaaDoor
