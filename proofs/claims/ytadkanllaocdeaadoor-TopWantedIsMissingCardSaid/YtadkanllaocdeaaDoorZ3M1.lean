/- What the machine's calls of these functions come to: just what the plain functions say. Written by program. -/
import Derived.Test.YtadkanllaocdeaaDoorProg
import Derived.Test.YtadkanllaocdeaaDoorKitX
import Derived.Test.YtadkanllaocdeaaDoorZD
import Derived.Test.YtadkanllaocdeaaDoorShelf
import Derived.Test.YtadkanllaocdeaaDoorKitBs
set_option linter.unusedVariables false
set_option linter.unnecessarySimpa false
set_option linter.unusedSimpArgs false
set_option maxRecDepth 100000
set_option maxHeartbeats 1000000
namespace Go.Proofs.YtadkanllaocdeaaDoor
open Go Go.RowKit Go.Proofs.YtadkanllaocdeaaDoor.Kit
def kBlob:Kd Blob:=Kd.iso ((Kd.pair Kd.string (Kd.pair (Kd.int .i64) (Kd.pair (Kd.int .i64) (Kd.pair (Kd.int .i64) (Kd.int .i64)))))) (fun x=>(x.Digest,x.Size,x.Used,x.Until,x.Pins))
theorem kBlob_open {H:Hp} {x:Blob} {c:List Value} (h:kBlob.K H x c):c=[.string x.Digest,iv x.Size,iv x.Used,iv x.Until,iv x.Pins]:=by
 obtain ⟨p0,q0,rfl,g0,h0⟩:=h
 obtain rfl:p0=[_]:=g0
 obtain ⟨p1,q1,rfl,g1,h1⟩:=h0
 obtain rfl:p1=[_]:=g1
 obtain ⟨p2,q2,rfl,g2,h2⟩:=h1
 obtain rfl:p2=[_]:=g2
 obtain ⟨p3,q3,rfl,g3,h3⟩:=h2
 obtain rfl:p3=[_]:=g3
 obtain rfl:q3=[_]:=h3
 rfl
theorem kBlob_mk {H:Hp} {x:Blob}:kBlob.K H x [.string x.Digest,iv x.Size,iv x.Used,iv x.Until,iv x.Pins]:=⟨[.string x.Digest],[iv x.Size,iv x.Used,iv x.Until,iv x.Pins],rfl,rfl,⟨[iv x.Size],[iv x.Used,iv x.Until,iv x.Pins],rfl,rfl,⟨[iv x.Used],[iv x.Until,iv x.Pins],rfl,rfl,⟨[iv x.Until],[iv x.Pins],rfl,rfl,rfl⟩⟩⟩⟩
def kEntry:Kd Entry:=Kd.iso ((Kd.pair Kd.string (Kd.pair (Kd.slice Kd.string) (Kd.int .i64)))) (fun x=>(x.Key,x.Refs,x.Used))
theorem kEntry_open {H:Hp} {x:Entry} {c:List Value} (h:kEntry.K H x c):∃ A1 c1,c=[.string x.Key,.slice A1 x.Refs.length c1,iv x.Used]∧x.Refs.length≤c1∧Kd.Row Kd.string H A1 x.Refs:=by
 obtain ⟨p0,q0,rfl,g0,h0⟩:=h
 obtain rfl:p0=[_]:=g0
 obtain ⟨p1,q1,rfl,g1,h1⟩:=h0
 obtain ⟨A1,c1,rfl,u1,v1⟩:=g1
 obtain rfl:q1=[_]:=h1
 exact ⟨A1,c1,rfl,u1,v1⟩
theorem kEntry_mk {H:Hp} {x:Entry} {A1:Option Addr} {c1:Nat} (u1:x.Refs.length≤c1) (v1:Kd.Row Kd.string H A1 x.Refs):kEntry.K H x [.string x.Key,.slice A1 x.Refs.length c1,iv x.Used]:=⟨[.string x.Key],[.slice A1 x.Refs.length c1,iv x.Used],rfl,rfl,⟨[.slice A1 x.Refs.length c1],[iv x.Used],rfl,⟨A1,c1,rfl,u1,v1⟩,rfl⟩⟩
def kCache:Kd Cache:=Kd.iso ((Kd.pair (Kd.int .i64) (Kd.pair (Kd.int .i64) (Kd.pair (Kd.slice kBlob) (Kd.slice kEntry))))) (fun x=>(x.Room,x.Lease,x.Blobs,x.Entries))
theorem kCache_open {H:Hp} {x:Cache} {c:List Value} (h:kCache.K H x c):∃ A2 c2,∃ A3 c3,c=[iv x.Room,iv x.Lease,.slice A2 x.Blobs.length c2,.slice A3 x.Entries.length c3]∧x.Blobs.length≤c2∧Kd.Row kBlob H A2 x.Blobs∧x.Entries.length≤c3∧Kd.Row kEntry H A3 x.Entries:=by
 obtain ⟨p0,q0,rfl,g0,h0⟩:=h
 obtain rfl:p0=[_]:=g0
 obtain ⟨p1,q1,rfl,g1,h1⟩:=h0
 obtain rfl:p1=[_]:=g1
 obtain ⟨p2,q2,rfl,g2,h2⟩:=h1
 obtain ⟨A2,c2,rfl,u2,v2⟩:=g2
 obtain ⟨A3,c3,rfl,u3,v3⟩:=h2
 exact ⟨A2,c2,A3,c3,rfl,u2,v2,u3,v3⟩
theorem kCache_mk {H:Hp} {x:Cache} {A2:Option Addr} {c2:Nat} {A3:Option Addr} {c3:Nat} (u2:x.Blobs.length≤c2) (v2:Kd.Row kBlob H A2 x.Blobs) (u3:x.Entries.length≤c3) (v3:Kd.Row kEntry H A3 x.Entries):kCache.K H x [iv x.Room,iv x.Lease,.slice A2 x.Blobs.length c2,.slice A3 x.Entries.length c3]:=⟨[iv x.Room],[iv x.Lease,.slice A2 x.Blobs.length c2,.slice A3 x.Entries.length c3],rfl,rfl,⟨[iv x.Lease],[.slice A2 x.Blobs.length c2,.slice A3 x.Entries.length c3],rfl,rfl,⟨[.slice A2 x.Blobs.length c2],[.slice A3 x.Entries.length c3],rfl,⟨A2,c2,rfl,u2,v2⟩,⟨A3,c3,rfl,u3,v3⟩⟩⟩⟩
def kSized:Kd Sized:=Kd.iso ((Kd.pair Kd.string (Kd.int .i64))) (fun x=>(x.Digest,x.Size))
theorem kSized_open {H:Hp} {x:Sized} {c:List Value} (h:kSized.K H x c):c=[.string x.Digest,iv x.Size]:=by
 obtain ⟨p0,q0,rfl,g0,h0⟩:=h
 obtain rfl:p0=[_]:=g0
 obtain rfl:q0=[_]:=h0
 rfl
theorem kSized_mk {H:Hp} {x:Sized}:kSized.K H x [.string x.Digest,iv x.Size]:=⟨[.string x.Digest],[iv x.Size],rfl,rfl,rfl⟩
def kCacheEvent:Kd CacheEvent:=Kd.iso ((Kd.pair (Kd.int .i64) (Kd.pair (Kd.int .i64) (Kd.pair Kd.string (Kd.pair (Kd.slice Kd.string) (Kd.pair Kd.string (Kd.int .i64))))))) (fun x=>(x.Kind,x.At,x.Digest,x.Digests,x.Key,x.Size))
theorem kCacheEvent_open {H:Hp} {x:CacheEvent} {c:List Value} (h:kCacheEvent.K H x c):∃ A3 c3,c=[iv x.Kind,iv x.At,.string x.Digest,.slice A3 x.Digests.length c3,.string x.Key,iv x.Size]∧x.Digests.length≤c3∧Kd.Row Kd.string H A3 x.Digests:=by
 obtain ⟨p0,q0,rfl,g0,h0⟩:=h
 obtain rfl:p0=[_]:=g0
 obtain ⟨p1,q1,rfl,g1,h1⟩:=h0
 obtain rfl:p1=[_]:=g1
 obtain ⟨p2,q2,rfl,g2,h2⟩:=h1
 obtain rfl:p2=[_]:=g2
 obtain ⟨p3,q3,rfl,g3,h3⟩:=h2
 obtain ⟨A3,c3,rfl,u3,v3⟩:=g3
 obtain ⟨p4,q4,rfl,g4,h4⟩:=h3
 obtain rfl:p4=[_]:=g4
 obtain rfl:q4=[_]:=h4
 exact ⟨A3,c3,rfl,u3,v3⟩
theorem kCacheEvent_mk {H:Hp} {x:CacheEvent} {A3:Option Addr} {c3:Nat} (u3:x.Digests.length≤c3) (v3:Kd.Row Kd.string H A3 x.Digests):kCacheEvent.K H x [iv x.Kind,iv x.At,.string x.Digest,.slice A3 x.Digests.length c3,.string x.Key,iv x.Size]:=⟨[iv x.Kind],[iv x.At,.string x.Digest,.slice A3 x.Digests.length c3,.string x.Key,iv x.Size],rfl,rfl,⟨[iv x.At],[.string x.Digest,.slice A3 x.Digests.length c3,.string x.Key,iv x.Size],rfl,rfl,⟨[.string x.Digest],[.slice A3 x.Digests.length c3,.string x.Key,iv x.Size],rfl,rfl,⟨[.slice A3 x.Digests.length c3],[.string x.Key,iv x.Size],rfl,⟨A3,c3,rfl,u3,v3⟩,⟨[.string x.Key],[iv x.Size],rfl,rfl,rfl⟩⟩⟩⟩⟩
def kCacheAnswer:Kd CacheAnswer:=Kd.iso ((Kd.pair Kd.bool (Kd.pair (Kd.slice Kd.string) (Kd.slice Kd.string)))) (fun x=>(x.Done,x.Missing,x.Gone))
theorem kCacheAnswer_open {H:Hp} {x:CacheAnswer} {c:List Value} (h:kCacheAnswer.K H x c):∃ A1 c1,∃ A2 c2,c=[.bool x.Done,.slice A1 x.Missing.length c1,.slice A2 x.Gone.length c2]∧x.Missing.length≤c1∧Kd.Row Kd.string H A1 x.Missing∧x.Gone.length≤c2∧Kd.Row Kd.string H A2 x.Gone:=by
 obtain ⟨p0,q0,rfl,g0,h0⟩:=h
 obtain rfl:p0=[_]:=g0
 obtain ⟨p1,q1,rfl,g1,h1⟩:=h0
 obtain ⟨A1,c1,rfl,u1,v1⟩:=g1
 obtain ⟨A2,c2,rfl,u2,v2⟩:=h1
 exact ⟨A1,c1,A2,c2,rfl,u1,v1,u2,v2⟩
theorem kCacheAnswer_mk {H:Hp} {x:CacheAnswer} {A1:Option Addr} {c1:Nat} {A2:Option Addr} {c2:Nat} (u1:x.Missing.length≤c1) (v1:Kd.Row Kd.string H A1 x.Missing) (u2:x.Gone.length≤c2) (v2:Kd.Row Kd.string H A2 x.Gone):kCacheAnswer.K H x [.bool x.Done,.slice A1 x.Missing.length c1,.slice A2 x.Gone.length c2]:=⟨[.bool x.Done],[.slice A1 x.Missing.length c1,.slice A2 x.Gone.length c2],rfl,rfl,⟨[.slice A1 x.Missing.length c1],[.slice A2 x.Gone.length c2],rfl,⟨A1,c1,rfl,u1,v1⟩,⟨A2,c2,rfl,u2,v2⟩⟩⟩
def S14 (F:List Ch) (H0:Hp) (r:ByteArray) (v:Value) (H:Hp) (cs:List Ch):Prop:=H0=H∧v=.string r∧F=cs
theorem strings_Trim_c {w0:World} {H:Hp} {F:List Ch} {a0:ByteArray} {a1:ByteArray} {r:ByteArray} (heq:strings_Trim.f a0 a1=some r):CallsH Tryd.prog 14 #[.string a0,.string a1] H w0 F (S14 F H r):=by
 intro w hh
 unfold strings_Trim.f at heq
 obtain ⟨hn,heq⟩:=guard?_some heq
 obtain rfl:=Option.some.inj heq
 refine (Shelf.Tryd.strings_Trim a0 a1 w (by simp at hn; exact hn.1) (by simp at hn; exact hn.2.1) (by have h:=hn; rw [Bool.and_eq_true,Bool.and_eq_true] at h; exact ascii_of_all h.2.2)).mono ?_
 rintro e w' ⟨rfl,hx⟩
 exact ⟨_,rfl,H,F,Le.refl H,hh.later hx,rfl,rfl,rfl⟩
noncomputable def C8:Ctx:={ P:=Tryd.prog,f:=8,N:=11,c:=bodyOf Tryd.f8 }
def S8 (F:List Ch) (H0:Hp) (r:Bool) (v:Value) (H:Hp) (cs:List Ch):Prop:=H0=H∧v=.bool r∧F=cs
theorem blob_IsDigest_c {w0:World} {H:Hp} {F:List Ch} {a0:ByteArray} {r:Bool} (heq:blob_IsDigest.f a0=some r):CallsH Tryd.prog 8 #[.string a0] H w0 (F) (S8 F H r):=by
 refine calls_of_runH (F:=C8) Tryd.func8 (by kernel_rfl) Tryd.ntmps8 (args:=[.string a0]) (by kernel_rfl) ?_
 unfold blob_IsDigest.f at heq
 refine Ra 1 [0] [.c [1]]<|Rd 1 [0] [(0,.string a0)]<|Ad 1 [.c [1,0],.c [1,1]] ?_
 obtain ⟨t1,ht1,heq⟩:=bind_some heq
 have K1:RunH C8 (S8 F H r) H w0 [.c [1,1]] [(2,.bool t1)] H (F):=by
  obtain rfl:=Option.some.inj heq
  exact RunH.done (by kernel_rfl) Tryd.func8 (v:=.bool t1) (by kernel_rfl) ⟨rfl,rfl,rfl⟩
 replace heq:=ht1
 refine Rr<|Rk 4 [6,0] [(6,.bool ((a0.size:Int) == 16)),(0,.string a0)] ?_
 rcases bool_cases ((a0.size:Int) == 16) with hb1 | hb1
 ·replace heq:=bif_true hb1 heq
  refine RgH.val1 (v':=.bool true) (congrArg Value.bool hb1) ?_
  refine Rk 5 [6,7] [(6,.bool true),(7,.string a0)] ?_
  obtain ⟨y1,hy1,heq⟩:=bind_some heq
  refine RgH.does (DoesH.call (d:=8) (g:=14) (args:=#[.string a0,.string ({ data:=#[48,49,50,51,52,53,54,55,56,57,97,98,99,100,101,102] }:ByteArray)]) (by kernel_rfl) (strings_Trim_c (a0:=a0) (a1:=({ data:=#[48,49,50,51,52,53,54,55,56,57,97,98,99,100,101,102] }:ByteArray))  hy1)) ?_
  rintro _ _ _ _ ⟨_,rfl,rfl,rfl,rfl⟩
  refine Rk 9 [2] [(2,.bool (sEq y1 ({ data:=#[] }:ByteArray)))] ?_
  obtain rfl:=Option.some.inj heq
  refine Kg [2] [(2,.bool (sEq y1 ({ data:=#[] }:ByteArray)))]<|Dn ?_
  exact K1
 ·replace heq:=bif_false hb1 heq
  refine RgH.val1 (v':=.bool false) (congrArg Value.bool hb1) ?_
  refine Rk 9 [2] [(2,.bool false)] ?_
  obtain rfl:=Option.some.inj heq
  refine Kg [2] [(2,.bool false)]<|Dn ?_
  exact K1
noncomputable def C13:Ctx:={ P:=Tryd.prog,f:=13,N:=15,c:=bodyOf Tryd.f13 }
def S13 (F:List Ch) (H0:Hp) (r:Bool) (v:Value) (H:Hp) (cs:List Ch):Prop:=H0=H∧v=.bool r∧F=cs
theorem wire_within_c {w0:World} {H:Hp} {F:List Ch} {a0:Int} {a1:Int} {a2:Int} {r:Bool} (heq:wire_within.f a0 a1 a2=some r):CallsH Tryd.prog 13 #[iv a0,iv a1,iv a2] H w0 (F) (S13 F H r):=by
 refine calls_of_runH (F:=C13) Tryd.func13 (by kernel_rfl) Tryd.ntmps13 (args:=[iv a0,iv a1,iv a2]) (by kernel_rfl) ?_
 unfold wire_within.f at heq
 refine Ra 1 [0] [.c [1]]<|Rd 1 [0,1,2] [(0,iv a0),(1,iv a1),(2,iv a2)]<|Ad 1 [.c [1,0],.c [1,1]] ?_
 obtain ⟨t1,ht1,heq⟩:=bind_some heq
 have K1:RunH C13 (S13 F H r) H w0 [.c [1,1]] [(6,.bool t1)] H (F):=by
  obtain rfl:=Option.some.inj heq
  exact RunH.done (by kernel_rfl) Tryd.func13 (v:=.bool t1) (by kernel_rfl) ⟨rfl,rfl,rfl⟩
 replace heq:=ht1
 refine Rr<|Rk 4 [10,0,2] [(10,.bool (decide (a1≤a0))),(0,iv a0),(2,iv a2)] ?_
 rcases bool_cases (decide (a1≤a0)) with hb1 | hb1
 ·replace heq:=bif_true hb1 heq
  refine RgH.val1 (v':=.bool true) (congrArg Value.bool hb1) ?_
  refine Rk 9 [6] [(6,.bool (decide (a0≤a2)))] ?_
  obtain rfl:=Option.some.inj heq
  refine Kg [6] [(6,.bool (decide (a0≤a2)))]<|Dn ?_
  exact K1
 ·replace heq:=bif_false hb1 heq
  refine RgH.val1 (v':=.bool false) (congrArg Value.bool hb1) ?_
  refine Rk 9 [6] [(6,.bool false)] ?_
  obtain rfl:=Option.some.inj heq
  refine Kg [6] [(6,.bool false)]<|Dn ?_
  exact K1
noncomputable def C7:Ctx:={ P:=Tryd.prog,f:=7,N:=40,c:=bodyOf Tryd.f7 }
def S7 (F:List Ch) (H0:Hp) (r:Int) (v:Value) (H:Hp) (cs:List Ch):Prop:=H0=H∧v=iv r∧F=cs
theorem wire_CheckSizes.e1_c {w0:World} {H:Hp} {F:List Ch} {r:Int}:wire_CheckSizes.e1=some r→RunH C7 (S7 F H r) H w0 [.c [1,1,1,0],.c [1,1,1,1]] [] H (F):=by
 intro   heq
 unfold wire_CheckSizes.e1 at heq
 refine Rr<|Rd 1 [2] [(2,iv 0)] ?_
 obtain rfl:=Option.some.inj heq
 exact RunH.done (by kernel_rfl) Tryd.func7 (v:=iv 0) (by kernel_rfl) ⟨rfl,rfl,rfl⟩
theorem wire_CheckSizes.l2_c {w0:World} {H:Hp} {F:List Ch} {r:Int} (e1:Option Int)
  (he1:e1=some r→RunH C7 (S7 F H r) H w0 [.c [1,1,1,0],.c [1,1,1,1]] [] H (F)):∀ (k:Nat),∀ (a0:List Sized) (Aa0:Option Addr) (ca0:Nat) (v10:Int) ,Rw kSized H F Aa0 a0→a0.length≤ca0→wire_CheckSizes.l2 e1 k a0 v10=some r→RunH C7 (S7 F H r) H w0 [.c [1,1,0,1,0,0],.l [1,1,0,1,0,0],.b 0,.c [1,1,1]] [(0,.slice Aa0 a0.length ca0),(8,.slice Aa0 a0.length ca0),(9,iv (a0.length:Int)),(10,iv v10)] H (F):=by
 intro k
 induction k with
 | zero=>intro a0 Aa0 ca0 v10 hra0 hca0 heq; exact nomatch (show (none:Option Int)=some r from heq)
 | succ k ihk =>
  intro a0 Aa0 ca0 v10 hra0 hca0 heq
  rw [wire_CheckSizes.l2] at heq
  refine Ra 1 [1,1,0,1,0,0,0] [.c [1,1,0,1,0,0,1],.l [1,1,0,1,0,0],.b 0,.c [1,1,1]]<|Rd 1 [0,8,9,10,11] [(0,.slice Aa0 a0.length ca0),(8,.slice Aa0 a0.length ca0),(9,iv (a0.length:Int)),(10,iv v10),(11,.bool (decide (v10<(a0.length:Int))))]<|Ad 1 [.c [1,1,0,1,0,0,1,0],.c [1,1,0,1,0,0,1,1],.l [1,1,0,1,0,0],.b 0,.c [1,1,1]] ?_
  rcases bool_cases (decide (v10<(a0.length:Int))) with hb2 | hb2
  ·replace heq:=bif_true hb2 heq
   refine Ct (decide (v10<(a0.length:Int))) hb2<|Ra 4 [1,1,0,1,0,0,1,1,0,0,0] [.c [1,1,0,1,0,0,1,1,0,0,1],.b 1,.c [1,1,0,1,0,0,1,1,1],.l [1,1,0,1,0,0],.b 0,.c [1,1,1]] ?_
   obtain ⟨x1,hx1,heq⟩:=bind_some heq
   obtain ⟨ha1,cs1,hK1,hcc1⟩:=hra0.get hx1
   obtain ⟨rfl⟩:=kSized_open hK1
   refine Rv 3 [0,8,9,10,12,14] [.string x1.Digest,iv x1.Size] [.need (Aa0=some (adr Aa0)∧(0:Int)≤v10∧v10<((a0.length:Nat):Int)),.load (((adr Aa0).add (v10.toNat*2)).add 0) (.string x1.Digest),.load (((adr Aa0).add (v10.toNat*2)).add 1) (iv x1.Size)] [(0,.slice Aa0 a0.length ca0),(8,.slice Aa0 a0.length ca0),(9,iv (a0.length:Int)),(10,iv v10),(12,iv v10),(14,.agg #[.string x1.Digest,iv x1.Size])] (fun w hh=>⟨⟨ha1,(at?_some hx1).1,(at?_some hx1).2.1⟩,(hcc1 _ _ (hh.drop 0) 0 _ rfl),(hcc1 _ _ (hh.drop 0) 1 _ rfl)⟩) ?_
   refine RgH.does (DoesH.new (d:=4) (v:=fun g=>.pointer (some ⟨g,0,none⟩)) (o:=fun g=>.cells #[.string ByteArray.empty,iv 0] 31 (0,0)) (fun g=>by kernel_rfl)) ?_
   rintro _ _ _ _ ⟨g1,rfl,rfl,rfl⟩
   refine Rk 5 [0,3,4,8,9,10,14] [(0,.slice Aa0 a0.length ca0),(3,iv v10),(4,pg g1 0),(8,.slice Aa0 a0.length ca0),(9,iv (a0.length:Int)),(10,iv v10),(14,.agg #[.string x1.Digest,iv x1.Size])] ?_
   refine RgH.does (DoesH.store (k:=0) (g:=g1) (off:=0) (v:=.agg #[.string x1.Digest,iv x1.Size]) (cells':=#[.string x1.Digest,iv x1.Size]) (by kernel_rfl) rfl (by kernel_rfl) (by kernel_rfl)) ?_
   rintro _ _ _ _ ⟨rfl,rfl,rfl⟩
   refine Dn<|Ra 2 [1,1,0,1,0,0,1,1,0,0,1,0,0] [.c [1,1,0,1,0,0,1,1,0,0,1,0,1],.b 2,.b 1,.c [1,1,0,1,0,0,1,1,1],.l [1,1,0,1,0,0],.b 0,.c [1,1,1]]<|Rv 2 [0,3,4,8,9,10,17] [.string x1.Digest] [.load ⟨g1,0,none⟩ (.string x1.Digest)] [(0,.slice Aa0 a0.length ca0),(3,iv v10),(4,pg g1 0),(8,.slice Aa0 a0.length ca0),(9,iv (a0.length:Int)),(10,iv v10),(17,.string x1.Digest)] (fun w hh=>(hh.box 0 rfl rfl)) ?_
   obtain ⟨y1,hy1,heq⟩:=bind_some heq
   refine RgH.does (DoesH.call (d:=18) (g:=8) (args:=#[.string x1.Digest]) (by kernel_rfl) (blob_IsDigest_c (a0:=x1.Digest)  hy1)) ?_
   rintro _ _ _ _ ⟨_,rfl,rfl,rfl,rfl⟩
   refine Rd 5 [0,3,4,8,9,10,15] [(0,.slice Aa0 a0.length ca0),(3,iv v10),(4,pg g1 0),(8,.slice Aa0 a0.length ca0),(9,iv (a0.length:Int)),(10,iv v10),(15,.bool (!y1))] ?_
   rcases bool_cases (!y1) with hb3 | hb3
   ·replace heq:=bif_true hb3 heq
    refine Ct (!y1) hb3<|Ra 1 [1,1,0,1,0,0,1,1,0,0,1,0,1,0,0] [.c [1,1,0,1,0,0,1,1,0,0,1,0,1,0,1],.b 2,.b 1,.c [1,1,0,1,0,0,1,1,1],.l [1,1,0,1,0,0],.b 0,.c [1,1,1]]<|Rd 1 [2] [(2,iv 3)] ?_
    obtain rfl:=Option.some.inj heq
    refine RunH.pick 1 [] (cs':=F) (by kernel_rfl) rfl ?_
    exact RunH.done (by kernel_rfl) Tryd.func7 (v:=iv 3) (by kernel_rfl) ⟨rfl,rfl,rfl⟩
   ·replace heq:=bif_false hb3 heq
    refine Cf (!y1) hb3<|Ra 1 [1,1,0,1,0,0,1,1,0,0,1,0,1,1,0] [.c [1,1,0,1,0,0,1,1,0,0,1,0,1,1,1],.b 2,.b 1,.c [1,1,0,1,0,0,1,1,1],.l [1,1,0,1,0,0],.b 0,.c [1,1,1]]<|Rv 2 [0,3,4,8,9,10,22] [iv x1.Size] [.load ⟨g1,1,none⟩ (iv x1.Size)] [(0,.slice Aa0 a0.length ca0),(3,iv v10),(4,pg g1 0),(8,.slice Aa0 a0.length ca0),(9,iv (a0.length:Int)),(10,iv v10),(22,iv x1.Size)] (fun w hh=>(hh.box 0 rfl rfl)) ?_
    obtain ⟨y2,hy2,heq⟩:=bind_some heq
    refine RgH.does (DoesH.call (d:=23) (g:=13) (args:=#[iv x1.Size,iv 0,iv 2000000]) (by kernel_rfl) (wire_within_c (a0:=x1.Size) (a1:=0) (a2:=2000000)  hy2)) ?_
    rintro _ _ _ _ ⟨_,rfl,rfl,rfl,rfl⟩
    refine Rd 5 [0,3,4,8,9,10,20] [(0,.slice Aa0 a0.length ca0),(3,iv v10),(4,pg g1 0),(8,.slice Aa0 a0.length ca0),(9,iv (a0.length:Int)),(10,iv v10),(20,.bool (!y2))] ?_
    rcases bool_cases (!y2) with hb4 | hb4
    ·replace heq:=bif_true hb4 heq
     refine Ct (!y2) hb4<|Ra 1 [1,1,0,1,0,0,1,1,0,0,1,0,1,1,1,0,0] [.c [1,1,0,1,0,0,1,1,0,0,1,0,1,1,1,0,1],.b 2,.b 1,.c [1,1,0,1,0,0,1,1,1],.l [1,1,0,1,0,0],.b 0,.c [1,1,1]]<|Rd 1 [2] [(2,iv 1)] ?_
     obtain rfl:=Option.some.inj heq
     refine RunH.pick 1 [] (cs':=F) (by kernel_rfl) rfl ?_
     exact RunH.done (by kernel_rfl) Tryd.func7 (v:=iv 1) (by kernel_rfl) ⟨rfl,rfl,rfl⟩
    ·replace heq:=bif_false hb4 heq
     refine Cf (!y2) hb4<|Ad 1 [.c [1,1,0,1,0,0,1,1,0,0,1,0,1,1,1,1,0],.c [1,1,0,1,0,0,1,1,0,0,1,0,1,1,1,1,1],.b 2,.b 1,.c [1,1,0,1,0,0,1,1,1],.l [1,1,0,1,0,0],.b 0,.c [1,1,1]] ?_
     obtain ⟨t1,ht1,heq⟩:=bind_some heq
     have K2:RunH C7 (S7 F H r) H w0 [.c [1,1,0,1,0,0,1,1,0,0,1,0,1,1,1,1,1],.b 2,.b 1,.c [1,1,0,1,0,0,1,1,1],.l [1,1,0,1,0,0],.b 0,.c [1,1,1]] [(0,.slice Aa0 a0.length ca0),(8,.slice Aa0 a0.length ca0),(9,iv (a0.length:Int)),(10,iv v10),(25,.bool t1)] H (F):=by
      rcases bool_cases (t1) with hb6 | hb6
      ·replace heq:=bif_true hb6 heq
       refine Ct t1 hb6<|Ra 1 [1,1,0,1,0,0,1,1,0,0,1,0,1,1,1,1,1,0,0] [.c [1,1,0,1,0,0,1,1,0,0,1,0,1,1,1,1,1,0,1],.b 2,.b 1,.c [1,1,0,1,0,0,1,1,1],.l [1,1,0,1,0,0],.b 0,.c [1,1,1]]<|Rd 1 [2] [(2,iv 8)] ?_
       obtain rfl:=Option.some.inj heq
       exact RunH.done (by kernel_rfl) Tryd.func7 (v:=iv 8) (by kernel_rfl) ⟨rfl,rfl,rfl⟩
      ·replace heq:=bif_false hb6 heq
       refine Cf t1 hb6<|Ra 3 [1,1,0,1,0,0,1,1,1] [.l [1,1,0,1,0,0],.b 0,.c [1,1,1]]<|Rd 2 [0,8,9,10] [(0,.slice Aa0 a0.length ca0),(8,.slice Aa0 a0.length ca0),(9,iv (a0.length:Int)),(10,iv (w64 (v10+1)))]<|Ad 1 [.c [1,1,0,1,0,0],.l [1,1,0,1,0,0],.b 0,.c [1,1,1]]<|Kp [0,8,9,10] [(0,.slice Aa0 a0.length ca0),(8,.slice Aa0 a0.length ca0),(9,iv (a0.length:Int)),(10,iv (w64 (v10+1)))] ?_
       exact ihk a0 _ _ (w64 (v10+1)) hra0 hca0 heq
     replace heq:=ht1
     refine Kp [0,3,4,8,9,10] [(0,.slice Aa0 a0.length ca0),(3,iv v10),(4,pg g1 0),(8,.slice Aa0 a0.length ca0),(9,iv (a0.length:Int)),(10,iv v10)] ?_
     refine RunH.draw (fun w=>Heap H w0 w ((some (g1,.cells #[.string x1.Digest,iv x1.Size] 31 (0,0)))::F)) (fun w=>Heap H w0 w ((some (g1,.cells #[.string x1.Digest,iv x1.Size] 31 (0,0)))::F)) [3,3,3,3,3,3,3,3,3,3,3,3,3,3] (n:=14) (ls:=[false,false,false,false,false,false,false,false,false,false,false,false,false,false]) (by kernel_rfl) (by kernel_rfl) (by kernel_rfl) rfl ?_
     refine Dk [0,1,2] 11 (nb 14 7) [] [] [28,0,3,4,8,9,10] [(28,.bool (decide (0<v10))),(0,.slice Aa0 a0.length ca0),(3,iv v10),(4,pg g1 0),(8,.slice Aa0 a0.length ca0),(9,iv (a0.length:Int)),(10,iv v10)] (Pk 1 [0]) (Pk 1 [0]) (fun _ _=>trivial) ?_
     rcases bool_cases (decide (0<v10)) with hb5 | hb5
     ·replace heq:=bif_true hb5 heq
      refine DrH.val1 (v':=.bool true) (congrArg Value.bool hb5) ?_
      obtain ⟨x2,hx2,heq⟩:=bind_some heq
      obtain ⟨ha2,cs2,hK2,hcc2⟩:=hra0.get hx2
      obtain ⟨rfl⟩:=kSized_open hK2
      refine Dk [3,4,5,6,7,8,9,10,11,12,13] 0 (nb 14 16383) [.string x1.Digest,.string x2.Digest] [.load ⟨g1,0,none⟩ (.string x1.Digest),.need (Aa0=some (adr Aa0)∧(0:Int)≤(w64 (v10 - 1))∧(w64 (v10 - 1))<((a0.length:Nat):Int)),.load (((adr Aa0).add ((w64 (v10 - 1)).toNat*2)).add 0) (.string x2.Digest)] [0,8,9,10,25] [(0,.slice Aa0 a0.length ca0),(8,.slice Aa0 a0.length ca0),(9,iv (a0.length:Int)),(10,iv v10),(25,.bool (sLt x1.Digest x2.Digest||sEq x1.Digest x2.Digest))] (Pk 1 [0]) (Pk 1 [0]) (fun w hh=>⟨(hh.box 0 rfl rfl),⟨ha2,(at?_some hx2).1,(at?_some hx2).2.1⟩,(hcc2 _ _ (hh.drop 1) 0 _ rfl)⟩) ?_
      obtain rfl:=Option.some.inj heq
      refine Kr [0,8,9,10,25] [(0,.slice Aa0 a0.length ca0),(8,.slice Aa0 a0.length ca0),(9,iv (a0.length:Int)),(10,iv v10),(25,.bool (sLt x1.Digest x2.Digest||sEq x1.Digest x2.Digest))] ?_
      refine DrH.pick 1 [] (cs':=F) (by kernel_rfl) rfl ?_
      refine DrH.done (by kernel_rfl) ?_
      exact K2
     ·replace heq:=bif_false hb5 heq
      refine DrH.val1 (v':=.bool false) (congrArg Value.bool hb5) ?_
      refine Dk [3,4,5,6,7,8,9,10,11,12,13] 0 (nb 14 16383) [] [] [0,8,9,10,25] [(0,.slice Aa0 a0.length ca0),(8,.slice Aa0 a0.length ca0),(9,iv (a0.length:Int)),(10,iv v10),(25,.bool false)] (Pk 1 [0]) (Pk 1 [0]) (fun _ _=>trivial) ?_
      obtain rfl:=Option.some.inj heq
      refine Kr [0,8,9,10,25] [(0,.slice Aa0 a0.length ca0),(8,.slice Aa0 a0.length ca0),(9,iv (a0.length:Int)),(10,iv v10),(25,.bool false)] ?_
      refine DrH.pick 1 [] (cs':=F) (by kernel_rfl) rfl ?_
      refine DrH.done (by kernel_rfl) ?_
      exact K2
  ·replace heq:=bif_false hb2 heq
   refine Cf (decide (v10<(a0.length:Int))) hb2<|Ad 2 [.c [1,1,1,0],.c [1,1,1,1]]<|Kp [] [] ?_
   exact he1 heq
theorem wire_CheckSizes_c {w0:World} {H:Hp} {F:List Ch} {a0:List Sized} {Aa0:Option Addr} {na0:Nat} {ca0:Nat} {r:Int} (hra0:Rw kSized H F Aa0 a0) (hca0:na0≤ca0) (hna0:na0=a0.length) (heq:wire_CheckSizes.f a0=some r):CallsH Tryd.prog 7 #[.slice Aa0 na0 ca0] H w0 (F) (S7 F H r):=by
 refine calls_of_runH (F:=C7) Tryd.func7 (by kernel_rfl) Tryd.ntmps7 (args:=[.slice Aa0 na0 ca0]) (by kernel_rfl) ?_
 subst hna0
 unfold wire_CheckSizes.f at heq
 refine Ra 1 [0] [.c [1]]<|Rd 1 [0] [(0,.slice Aa0 a0.length ca0)]<|Ra 2 [1,0,0] [.c [1,0,1],.c [1,1]]<|Rd 3 [0,7] [(0,.slice Aa0 a0.length ca0),(7,.bool (decide (4000<(a0.length:Int))))] ?_
 rcases bool_cases (decide (4000<(a0.length:Int))) with hb1 | hb1
 ·replace heq:=bif_true hb1 heq
  refine Ct (decide (4000<(a0.length:Int))) hb1<|Ra 1 [1,0,1,0,0] [.c [1,0,1,0,1],.c [1,1]]<|Rd 1 [2] [(2,iv 2)] ?_
  obtain rfl:=Option.some.inj heq
  exact RunH.done (by kernel_rfl) Tryd.func7 (v:=iv 2) (by kernel_rfl) ⟨rfl,rfl,rfl⟩
 ·replace heq:=bif_false hb1 heq
  refine Cf (decide (4000<(a0.length:Int))) hb1<|Ra 3 [1,1,0,0] [.c [1,1,0,1],.c [1,1,1]]<|Rd 3 [0,8,9,10] [(0,.slice Aa0 a0.length ca0),(8,.slice Aa0 a0.length ca0),(9,iv (a0.length:Int)),(10,iv 0)]<|Ad 2 [.c [1,1,0,1,0,0],.l [1,1,0,1,0,0],.b 0,.c [1,1,1]]<|Kp [0,8,9,10] [(0,.slice Aa0 a0.length ca0),(8,.slice Aa0 a0.length ca0),(9,iv (a0.length:Int)),(10,iv 0)] ?_
  exact ((wire_CheckSizes.l2_c (e1:=wire_CheckSizes.e1) (wire_CheckSizes.e1_c)) big) a0 _ _ 0 hra0 hca0 heq
noncomputable def C4:Ctx:={ P:=Tryd.prog,f:=4,N:=70,c:=bodyOf Tryd.f4 }
def S4 (F:List Ch) (H0:Hp) (r:(List Sized) × Int × Int) (v:Value) (H:Hp) (cs:List Ch):Prop:=∃ (A0:Option Addr) (c0:Nat) (ch0:Ch),H0=H∧v=.tuple #[.slice A0 r.1.length c0,iv r.2.1,iv r.2.2]∧ch0::F=cs∧SlOwn kSized 31 H A0 c0 r.1 ch0
theorem wire_Wanted.e2_c {w0:World} {H:Hp} {F:List Ch} {r:(List Sized) × Int × Int}:∀ (v_out11:List Sized) (Av_out11:Option Addr) (nv_out11:Nat) (cv_out11:Nat) (chv_out11:Ch) (v_sum12:Int) ,SlOwn kSized 31 H Av_out11 cv_out11 v_out11 chv_out11→nv_out11=v_out11.length→wire_Wanted.e2 v_out11 v_sum12=some r→RunH C4 (S4 F H r) H w0 [.c [1,1,1,1,1,1,1,1,0],.c [1,1,1,1,1,1,1,1,1]] [(11,.slice Av_out11 nv_out11 cv_out11),(12,iv v_sum12)] H (chv_out11::F):=by
 intro v_out11 Av_out11 nv_out11 cv_out11 chv_out11 v_sum12 hov_out11 hnv_out11 heq
 subst hnv_out11
 unfold wire_Wanted.e2 at heq
 refine Rr<|Rd 5 [4,5,6] [(4,.slice Av_out11 v_out11.length cv_out11),(5,iv v_sum12),(6,iv 0)] ?_
 obtain rfl:=Option.some.inj heq
 exact RunH.done (by kernel_rfl) Tryd.func4 (v:=.tuple #[.slice Av_out11 v_out11.length cv_out11,iv v_sum12,iv 0]) (by kernel_rfl) ⟨Av_out11,cv_out11,chv_out11,rfl,rfl,rfl,hov_out11⟩
theorem wire_Wanted.j4_c {w0:World} {H:Hp} {F:List Ch} {r:(List Sized) × Int × Int} (backl3:(List Sized)→(List (ByteArray × Bool))→(List Sized)→Int→Int→Option ((List Sized) × Int × Int))
  (hbackl3:∀ (a0:List Sized) (Aa0:Option Addr) (ca0:Nat) (v_has8:List (ByteArray × Bool)) (gv_has8:Nat) (chv_has8:Ch) (v_out11:List Sized) (Av_out11:Option Addr) (nv_out11:Nat) (cv_out11:Nat) (chv_out11:Ch) (v_sum12:Int) (v50:Int) ,Rw kSized H F Aa0 a0→a0.length≤ca0→MpOwn Value.string Kd.bool false H gv_has8 v_has8 chv_has8→SlOwn kSized 31 H Av_out11 cv_out11 v_out11 chv_out11→nv_out11=v_out11.length→backl3 a0 v_has8 v_out11 v_sum12 v50=some r→RunH C4 (S4 F H r) H w0 [.c [1,1,1,1,1,1,1,0,1,0,0],.l [1,1,1,1,1,1,1,0,1,0,0],.b 2,.c [1,1,1,1,1,1,1,1]] [(8,.map (some gv_has8)),(11,.slice Av_out11 nv_out11 cv_out11),(12,iv v_sum12),(48,.slice Aa0 a0.length ca0),(49,iv (a0.length:Int)),(50,iv v50)] H (chv_out11::chv_has8::F)):∀ (a0:List Sized) (Aa0:Option Addr) (ca0:Nat) (v_has8:List (ByteArray × Bool)) (gv_has8:Nat) (chv_has8:Ch) (v50:Int) (v_out11:List Sized) (Av_out11:Option Addr) (nv_out11:Nat) (cv_out11:Nat) (chv_out11:Ch) (v_sum12:Int) ,Rw kSized H F Aa0 a0→a0.length≤ca0→MpOwn Value.string Kd.bool false H gv_has8 v_has8 chv_has8→SlOwn kSized 31 H Av_out11 cv_out11 v_out11 chv_out11→nv_out11=v_out11.length→wire_Wanted.j4 backl3 a0 v_has8 v50 v_out11 v_sum12=some r→RunH C4 (S4 F H r) H w0 [.c [1,1,1,1,1,1,1,0,1,0,0,1,1,1],.l [1,1,1,1,1,1,1,0,1,0,0],.b 2,.c [1,1,1,1,1,1,1,1]] [(8,.map (some gv_has8)),(11,.slice Av_out11 nv_out11 cv_out11),(12,iv v_sum12),(48,.slice Aa0 a0.length ca0),(49,iv (a0.length:Int)),(50,iv v50)] H (chv_out11::chv_has8::F):=by
 intro a0 Aa0 ca0 v_has8 gv_has8 chv_has8 v50 v_out11 Av_out11 nv_out11 cv_out11 chv_out11 v_sum12 hra0 hca0 hov_has8 hov_out11 hnv_out11 heq
 subst hnv_out11
 unfold wire_Wanted.j4 at heq
 refine Rr<|Rd 2 [8,11,12,48,49,50] [(8,.map (some gv_has8)),(11,.slice Av_out11 v_out11.length cv_out11),(12,iv v_sum12),(48,.slice Aa0 a0.length ca0),(49,iv (a0.length:Int)),(50,iv (w64 (v50+1)))]<|Ad 1 [.c [1,1,1,1,1,1,1,0,1,0,0],.l [1,1,1,1,1,1,1,0,1,0,0],.b 2,.c [1,1,1,1,1,1,1,1]]<|Kp [8,11,12,48,49,50] [(8,.map (some gv_has8)),(11,.slice Av_out11 v_out11.length cv_out11),(12,iv v_sum12),(48,.slice Aa0 a0.length ca0),(49,iv (a0.length:Int)),(50,iv (w64 (v50+1)))] ?_
 exact hbackl3 a0 _ _ v_has8 _ _ v_out11 _ _ _ _ v_sum12 (w64 (v50+1)) hra0 hca0 hov_has8 hov_out11 rfl heq
theorem wire_Wanted.l3_c {w0:World} {H:Hp} {F:List Ch} {r:(List Sized) × Int × Int} (e2:(List Sized)→Int→Option ((List Sized) × Int × Int))
  (he2:∀ (v_out11:List Sized) (Av_out11:Option Addr) (nv_out11:Nat) (cv_out11:Nat) (chv_out11:Ch) (v_sum12:Int) ,SlOwn kSized 31 H Av_out11 cv_out11 v_out11 chv_out11→nv_out11=v_out11.length→e2 v_out11 v_sum12=some r→RunH C4 (S4 F H r) H w0 [.c [1,1,1,1,1,1,1,1,0],.c [1,1,1,1,1,1,1,1,1]] [(11,.slice Av_out11 nv_out11 cv_out11),(12,iv v_sum12)] H (chv_out11::F)):∀ (k:Nat),∀ (a0:List Sized) (Aa0:Option Addr) (ca0:Nat) (v_has8:List (ByteArray × Bool)) (gv_has8:Nat) (chv_has8:Ch) (v_out11:List Sized) (Av_out11:Option Addr) (nv_out11:Nat) (cv_out11:Nat) (chv_out11:Ch) (v_sum12:Int) (v50:Int) ,Rw kSized H F Aa0 a0→a0.length≤ca0→MpOwn Value.string Kd.bool false H gv_has8 v_has8 chv_has8→SlOwn kSized 31 H Av_out11 cv_out11 v_out11 chv_out11→nv_out11=v_out11.length→wire_Wanted.l3 e2 k a0 v_has8 v_out11 v_sum12 v50=some r→RunH C4 (S4 F H r) H w0 [.c [1,1,1,1,1,1,1,0,1,0,0],.l [1,1,1,1,1,1,1,0,1,0,0],.b 2,.c [1,1,1,1,1,1,1,1]] [(8,.map (some gv_has8)),(11,.slice Av_out11 nv_out11 cv_out11),(12,iv v_sum12),(48,.slice Aa0 a0.length ca0),(49,iv (a0.length:Int)),(50,iv v50)] H (chv_out11::chv_has8::F):=by
 intro k
 induction k with
 | zero=>intro a0 Aa0 ca0 v_has8 gv_has8 chv_has8 v_out11 Av_out11 nv_out11 cv_out11 chv_out11 v_sum12 v50 hra0 hca0 hov_has8 hov_out11 hnv_out11 heq; exact nomatch (show (none:Option ((List Sized) × Int × Int))=some r from heq)
 | succ k ihk =>
  intro a0 Aa0 ca0 v_has8 gv_has8 chv_has8 v_out11 Av_out11 nv_out11 cv_out11 chv_out11 v_sum12 v50 hra0 hca0 hov_has8 hov_out11 hnv_out11 heq
  subst hnv_out11
  rw [wire_Wanted.l3] at heq
  refine Ra 1 [1,1,1,1,1,1,1,0,1,0,0,0] [.c [1,1,1,1,1,1,1,0,1,0,0,1],.l [1,1,1,1,1,1,1,0,1,0,0],.b 2,.c [1,1,1,1,1,1,1,1]]<|Rd 1 [8,11,12,48,49,50,51] [(8,.map (some gv_has8)),(11,.slice Av_out11 v_out11.length cv_out11),(12,iv v_sum12),(48,.slice Aa0 a0.length ca0),(49,iv (a0.length:Int)),(50,iv v50),(51,.bool (decide (v50<(a0.length:Int))))]<|Ad 1 [.c [1,1,1,1,1,1,1,0,1,0,0,1,0],.c [1,1,1,1,1,1,1,0,1,0,0,1,1],.l [1,1,1,1,1,1,1,0,1,0,0],.b 2,.c [1,1,1,1,1,1,1,1]] ?_
  rcases bool_cases (decide (v50<(a0.length:Int))) with hb3 | hb3
  ·replace heq:=bif_true hb3 heq
   refine Ct (decide (v50<(a0.length:Int))) hb3<|Ra 4 [1,1,1,1,1,1,1,0,1,0,0,1,1,0,0,0] [.c [1,1,1,1,1,1,1,0,1,0,0,1,1,0,0,1],.b 3,.c [1,1,1,1,1,1,1,0,1,0,0,1,1,1],.l [1,1,1,1,1,1,1,0,1,0,0],.b 2,.c [1,1,1,1,1,1,1,1]] ?_
   obtain ⟨x1,hx1,heq⟩:=bind_some heq
   obtain ⟨ha1,cs1,hK1,hcc1⟩:=hra0.get hx1
   obtain ⟨rfl⟩:=kSized_open hK1
   refine Rv 2 [8,11,12,48,49,50,53] [.string x1.Digest,iv x1.Size] [.need (Aa0=some (adr Aa0)∧(0:Int)≤v50∧v50<((a0.length:Nat):Int)),.load (((adr Aa0).add (v50.toNat*2)).add 0) (.string x1.Digest),.load (((adr Aa0).add (v50.toNat*2)).add 1) (iv x1.Size)] [(8,.map (some gv_has8)),(11,.slice Av_out11 v_out11.length cv_out11),(12,iv v_sum12),(48,.slice Aa0 a0.length ca0),(49,iv (a0.length:Int)),(50,iv v50),(53,.agg #[.string x1.Digest,iv x1.Size])] (fun w hh=>⟨⟨ha1,(at?_some hx1).1,(at?_some hx1).2.1⟩,(hcc1 _ _ (hh.drop 2) 0 _ rfl),(hcc1 _ _ (hh.drop 2) 1 _ rfl)⟩) ?_
   refine RgH.does (DoesH.new (d:=14) (v:=fun g=>.pointer (some ⟨g,0,none⟩)) (o:=fun g=>.cells #[.string ByteArray.empty,iv 0] 31 (0,0)) (fun g=>by kernel_rfl)) ?_
   rintro _ _ _ _ ⟨g2,rfl,rfl,rfl⟩
   refine RgH.does (DoesH.store (k:=0) (g:=g2) (off:=0) (v:=.agg #[.string x1.Digest,iv x1.Size]) (cells':=#[.string x1.Digest,iv x1.Size]) (by kernel_rfl) rfl (by kernel_rfl) (by kernel_rfl)) ?_
   rintro _ _ _ _ ⟨rfl,rfl,rfl⟩
   refine Dn<|Ra 1 [1,1,1,1,1,1,1,0,1,0,0,1,1,0,0,1,0] [.c [1,1,1,1,1,1,1,0,1,0,0,1,1,0,0,1,1],.b 3,.c [1,1,1,1,1,1,1,0,1,0,0,1,1,1],.l [1,1,1,1,1,1,1,0,1,0,0],.b 2,.c [1,1,1,1,1,1,1,1]]<|Rv 3 [8,11,12,14,48,49,50,54,56] [.string x1.Digest] [.load ⟨g2,0,none⟩ (.string x1.Digest)] [(8,.map (some gv_has8)),(11,.slice Av_out11 v_out11.length cv_out11),(12,iv v_sum12),(14,pg g2 0),(48,.slice Aa0 a0.length ca0),(49,iv (a0.length:Int)),(50,iv v50),(54,.map (some gv_has8)),(56,.string x1.Digest)] (fun w hh=>(hh.box 0 rfl rfl)) ?_
   refine RgH.does (DoesH.lookup (d:=57) (t:=44) (m:=v_has8) (k:=x1.Digest) (z:=.bool false) (zc:=[.bool false]) (z0:=false) (ok:=false) (kd:=Kd.bool) (ag:=false) (by kernel_rfl) (KyAt.string Tryd.underlying9) rfl rfl (fun w hh=>hov_has8.on (hh.chin 2 rfl))) ?_
   rintro _ _ _ _ ⟨cc1,rfl,rfl,rfl,hcc2⟩
   obtain rfl:cc1=[.bool (mgetD v_has8 x1.Digest false)]:=hcc2
   refine RgH.val1 (v':=.bool (mgetD v_has8 x1.Digest false)) rfl ?_
   refine Rd 5 [8,11,12,14,48,49,50,58] [(8,.map (some gv_has8)),(11,.slice Av_out11 v_out11.length cv_out11),(12,iv v_sum12),(14,pg g2 0),(48,.slice Aa0 a0.length ca0),(49,iv (a0.length:Int)),(50,iv v50),(58,.bool (!(mgetD v_has8 x1.Digest false)))] ?_
   rcases bool_cases (!(mgetD v_has8 x1.Digest false)) with hb4 | hb4
   ·replace heq:=bif_true hb4 heq
    refine Ct (!(mgetD v_has8 x1.Digest false)) hb4<|Kp [8,11,12,14,48,49,50] [(8,.map (some gv_has8)),(11,.slice Av_out11 v_out11.length cv_out11),(12,iv v_sum12),(14,pg g2 0),(48,.slice Aa0 a0.length ca0),(49,iv (a0.length:Int)),(50,iv v50)] ?_
    refine RunH.draw (fun w=>Heap H w0 w ((some (g2,.cells #[.string x1.Digest,iv x1.Size] 31 (0,0)))::chv_out11::chv_has8::F)) (fun w=>Heap H w0 w ((some (g2,.cells #[.string x1.Digest,iv x1.Size] 31 (0,0)))::chv_has8::F)) [3,3,0,1,3,3,3,3,3,3] (n:=10) (ls:=[false,false,false,false,false,false,false,false,false,false]) (by kernel_rfl) (by kernel_rfl) (by kernel_rfl) rfl ?_
    refine Dk [0] 9 (nb 10 1) [] [] [8,11,12,14,48,49,50,59] [(8,.map (some gv_has8)),(11,.slice Av_out11 v_out11.length cv_out11),(12,iv v_sum12),(14,pg g2 0),(48,.slice Aa0 a0.length ca0),(49,iv (a0.length:Int)),(50,iv v50),(59,.slice Av_out11 v_out11.length cv_out11)] (Pk 3 [0,1,2]) (Pk 3 [0,2]) (fun _ _=>trivial)<|De [1,4,5,6,7] 4 (nb 10 243) [.string x1.Digest,iv x1.Size,iv x1.Size] [.load ⟨g2,0,none⟩ (.string x1.Digest),.load ⟨g2,1,none⟩ (iv x1.Size),.load ⟨g2,1,none⟩ (iv x1.Size)] [8,11,12,48,49,50,59,60,66] [(8,.map (some gv_has8)),(11,.slice Av_out11 v_out11.length cv_out11),(12,iv v_sum12),(48,.slice Aa0 a0.length ca0),(49,iv (a0.length:Int)),(50,iv v50),(59,.slice Av_out11 v_out11.length cv_out11),(60,.agg #[.string x1.Digest,iv x1.Size]),(66,iv (w64 (v_sum12+x1.Size)))] (Pk 3 [0,2]) (fun w hh=>⟨(hh.box 0 rfl rfl),(hh.box 0 rfl rfl),(hh.box 0 rfl rfl)⟩) ?_
    refine DrH.does (n:=3) (ls':=[true,true,true,false,true,true,true,true,false,false]) 2 (by kernel_rfl) rfl (DoesH.new (d:=61) (v:=fun g=>.slice (some ⟨g,0,none⟩) 1 1) (o:=fun g=>.cells #[.string x1.Digest,iv x1.Size] 31 (0,0)) (fun g=>by kernel_rfl)) ?_
    rintro _ _ _ _ ⟨g3,rfl,rfl,rfl⟩
    have ho4:SlOwn kSized 31 H (some ⟨g3,0,none⟩) 1 ([x1]:List Sized) (some (g3,.cells #[.string x1.Digest,iv x1.Size] 31 (0,0))):=SlOwn.lit (xs:=([x1]:List Sized)) (by kernel_rfl) (Nat.le_of_ble_eq_true (by kernel_rfl)) (Kd.Rep.one kSized_mk)
    refine ⟨fun _ w hh=>⟨fun _=>(Pk 4 [1,2,3]) w hh,fun _=>(Pk 4 [1,3]) w hh,(fun h=>by cases h)⟩,?_⟩
    refine Kr [8,11,12,48,49,50,59,61,66] [(8,.map (some gv_has8)),(11,.slice Av_out11 v_out11.length cv_out11),(12,iv v_sum12),(48,.slice Aa0 a0.length ca0),(49,iv (a0.length:Int)),(50,iv v50),(59,.slice Av_out11 v_out11.length cv_out11),(61,.slice (some ⟨g3,0,none⟩) 1 1),(66,iv (w64 (v_sum12+x1.Size)))] ?_
    obtain ⟨hn1,heq⟩:=guard?_some heq
    refine DrH.does (n:=2) (ls':=[true,true,true,true,true,true,true,true,false,false]) 3 (by kernel_rfl) rfl (DoesH.append (d:=62) (k:=2) (t:=26) (e:=31) (bytes:=24) (kd:=kSized) (n:=v_out11.length) (m:=1) (xs:=v_out11) (ys:=([x1]:List Sized)) (A:=Av_out11) (B:=(some ⟨g3,0,none⟩)) (c:=cv_out11) (cB:=1) (by kernel_rfl) rfl rfl (by kernel_rfl) rfl hov_out11 (fun w hh=>ho4.rdb (hh.chin 0 rfl)) (room_le hn1) (by have:=room_le hn1; omega)) ?_
    rintro _ _ _ _ ⟨A1,c1,ch1,rfl,rfl,rfl,ho5⟩
    refine ⟨fun _ w hh=>⟨(fun h=>by cases h),fun _=>(Pk 4 [1,3]) w hh,(fun h=>by cases h)⟩,?_⟩
    refine Kr [62,8,12,48,49,50,61,66] [(62,.slice A1 ((v_out11++([x1]:List Sized)).length) c1),(8,.map (some gv_has8)),(12,iv v_sum12),(48,.slice Aa0 a0.length ca0),(49,iv (a0.length:Int)),(50,iv v50),(61,.slice (some ⟨g3,0,none⟩) 1 1),(66,iv (w64 (v_sum12+x1.Size)))]<|De [8,9] 0 (nb 10 1023) [] [] [8,11,12,48,49,50] [(8,.map (some gv_has8)),(11,.slice A1 ((v_out11++([x1]:List Sized)).length) c1),(12,iv (w64 (v_sum12+x1.Size))),(48,.slice Aa0 a0.length ca0),(49,iv (a0.length:Int)),(50,iv v50)] (Pk 4 [1,3]) (fun _ _=>trivial) ?_
    refine DrH.done (by kernel_rfl) ?_
    refine Ad 1 [.c [1,1,1,1,1,1,1,0,1,0,0,1,1,1],.l [1,1,1,1,1,1,1,0,1,0,0],.b 2,.c [1,1,1,1,1,1,1,1]]<|Kp [8,11,12,48,49,50] [(8,.map (some gv_has8)),(11,.slice A1 ((v_out11++([x1]:List Sized)).length) c1),(12,iv (w64 (v_sum12+x1.Size))),(48,.slice Aa0 a0.length ca0),(49,iv (a0.length:Int)),(50,iv v50)] ?_
    refine RunH.pick 4 [2,3] (cs':=ch1::chv_has8::F) (by kernel_rfl) rfl ?_
    exact (wire_Wanted.j4_c (backl3:=(wire_Wanted.l3 e2 k)) ihk) a0 _ _ v_has8 _ _ v50 (v_out11++([x1]:List Sized)) _ _ _ _ (w64 (v_sum12+x1.Size)) hra0 hca0 hov_has8 ho5 rfl heq
   ·replace heq:=bif_false hb4 heq
    refine Cf (!(mgetD v_has8 x1.Digest false)) hb4<|Ad 2 [.c [1,1,1,1,1,1,1,0,1,0,0,1,1,1],.l [1,1,1,1,1,1,1,0,1,0,0],.b 2,.c [1,1,1,1,1,1,1,1]]<|Kp [8,11,12,48,49,50] [(8,.map (some gv_has8)),(11,.slice Av_out11 v_out11.length cv_out11),(12,iv v_sum12),(48,.slice Aa0 a0.length ca0),(49,iv (a0.length:Int)),(50,iv v50)] ?_
    refine RunH.pick 3 [1,2] (cs':=chv_out11::chv_has8::F) (by kernel_rfl) rfl ?_
    exact (wire_Wanted.j4_c (backl3:=(wire_Wanted.l3 e2 k)) ihk) a0 _ _ v_has8 _ _ v50 v_out11 _ _ _ _ v_sum12 hra0 hca0 hov_has8 hov_out11 rfl heq
  ·replace heq:=bif_false hb3 heq
   refine Cf (decide (v50<(a0.length:Int))) hb3<|Ad 2 [.c [1,1,1,1,1,1,1,1,0],.c [1,1,1,1,1,1,1,1,1]]<|Kp [11,12] [(11,.slice Av_out11 v_out11.length cv_out11),(12,iv v_sum12)] ?_
   refine RunH.pick 2 [0] (cs':=chv_out11::F) (by kernel_rfl) rfl ?_
   exact he2 v_out11 _ _ _ _ v_sum12 hov_out11 rfl heq
theorem wire_Wanted.e1_c {w0:World} {H:Hp} {F:List Ch} {r:(List Sized) × Int × Int}:∀ (a0:List Sized) (Aa0:Option Addr) (ca0:Nat) (v_has8:List (ByteArray × Bool)) (gv_has8:Nat) (chv_has8:Ch) ,Rw kSized H F Aa0 a0→a0.length≤ca0→MpOwn Value.string Kd.bool false H gv_has8 v_has8 chv_has8→wire_Wanted.e1 a0 v_has8=some r→RunH C4 (S4 F H r) H w0 [.c [1,1,1,1,1,0],.c [1,1,1,1,1,1]] [(0,.slice Aa0 a0.length ca0),(8,.map (some gv_has8))] H (chv_has8::F):=by
 intro a0 Aa0 ca0 v_has8 gv_has8 chv_has8 hra0 hca0 hov_has8 heq
 unfold wire_Wanted.e1 at heq
 refine Rr<|Rd 1 [0,8,11] [(0,.slice Aa0 a0.length ca0),(8,.map (some gv_has8)),(11,.slice none 0 0)]<|Ra 1 [1,1,1,1,1,1,0] [.c [1,1,1,1,1,1,1]]<|Rd 1 [0,8,11,12] [(0,.slice Aa0 a0.length ca0),(8,.map (some gv_has8)),(11,.slice none 0 0),(12,iv 0)]<|Ra 2 [1,1,1,1,1,1,1,0,0] [.c [1,1,1,1,1,1,1,0,1],.c [1,1,1,1,1,1,1,1]]<|Rd 3 [8,11,12,48,49,50] [(8,.map (some gv_has8)),(11,.slice none 0 0),(12,iv 0),(48,.slice Aa0 a0.length ca0),(49,iv (a0.length:Int)),(50,iv 0)]<|Ad 2 [.c [1,1,1,1,1,1,1,0,1,0,0],.l [1,1,1,1,1,1,1,0,1,0,0],.b 2,.c [1,1,1,1,1,1,1,1]]<|RunH.nilc ?_
 have ho6:SlOwn kSized 31 H none 0 ([]:List Sized) none:=SlOwn.nil
 refine Kp [8,11,12,48,49,50] [(8,.map (some gv_has8)),(11,.slice none 0 0),(12,iv 0),(48,.slice Aa0 a0.length ca0),(49,iv (a0.length:Int)),(50,iv 0)] ?_
 exact ((wire_Wanted.l3_c (e2:=wire_Wanted.e2) (wire_Wanted.e2_c)) big) a0 _ _ v_has8 _ _ ([]:List Sized) _ _ _ _ 0 0 hra0 hca0 hov_has8 ho6 rfl heq
theorem wire_Wanted.l5_c {w0:World} {H:Hp} {F:List Ch} {r:(List Sized) × Int × Int} (e1:(List Sized)→(List (ByteArray × Bool))→Option ((List Sized) × Int × Int))
  (he1:∀ (a0:List Sized) (Aa0:Option Addr) (ca0:Nat) (v_has8:List (ByteArray × Bool)) (gv_has8:Nat) (chv_has8:Ch) ,Rw kSized H F Aa0 a0→a0.length≤ca0→MpOwn Value.string Kd.bool false H gv_has8 v_has8 chv_has8→e1 a0 v_has8=some r→RunH C4 (S4 F H r) H w0 [.c [1,1,1,1,1,0],.c [1,1,1,1,1,1]] [(0,.slice Aa0 a0.length ca0),(8,.map (some gv_has8))] H (chv_has8::F)):∀ (k:Nat),∀ (a0:List Sized) (Aa0:Option Addr) (ca0:Nat) (a1:List ByteArray) (Aa1:Option Addr) (ca1:Nat) (v_has8:List (ByteArray × Bool)) (gv_has8:Nat) (chv_has8:Ch) (v26:Int) ,Rw kSized H F Aa0 a0→a0.length≤ca0→Rw Kd.string H F Aa1 a1→a1.length≤ca1→MpOwn Value.string Kd.bool false H gv_has8 v_has8 chv_has8→wire_Wanted.l5 e1 k a0 a1 v_has8 v26=some r→RunH C4 (S4 F H r) H w0 [.c [1,1,1,1,0,1,0,0],.l [1,1,1,1,0,1,0,0],.b 0,.c [1,1,1,1,1]] [(0,.slice Aa0 a0.length ca0),(1,.slice Aa1 a1.length ca1),(8,.map (some gv_has8)),(24,.slice Aa1 a1.length ca1),(25,iv (a1.length:Int)),(26,iv v26)] H (chv_has8::F):=by
 intro k
 induction k with
 | zero=>intro a0 Aa0 ca0 a1 Aa1 ca1 v_has8 gv_has8 chv_has8 v26 hra0 hca0 hra1 hca1 hov_has8 heq; exact nomatch (show (none:Option ((List Sized) × Int × Int))=some r from heq)
 | succ k ihk =>
  intro a0 Aa0 ca0 a1 Aa1 ca1 v_has8 gv_has8 chv_has8 v26 hra0 hca0 hra1 hca1 hov_has8 heq
  rw [wire_Wanted.l5] at heq
  refine Ra 1 [1,1,1,1,0,1,0,0,0] [.c [1,1,1,1,0,1,0,0,1],.l [1,1,1,1,0,1,0,0],.b 0,.c [1,1,1,1,1]]<|Rd 1 [0,1,8,24,25,26,27] [(0,.slice Aa0 a0.length ca0),(1,.slice Aa1 a1.length ca1),(8,.map (some gv_has8)),(24,.slice Aa1 a1.length ca1),(25,iv (a1.length:Int)),(26,iv v26),(27,.bool (decide (v26<(a1.length:Int))))]<|Ad 1 [.c [1,1,1,1,0,1,0,0,1,0],.c [1,1,1,1,0,1,0,0,1,1],.l [1,1,1,1,0,1,0,0],.b 0,.c [1,1,1,1,1]] ?_
  rcases bool_cases (decide (v26<(a1.length:Int))) with hb5 | hb5
  ·replace heq:=bif_true hb5 heq
   refine Ct (decide (v26<(a1.length:Int))) hb5<|Ra 4 [1,1,1,1,0,1,0,0,1,1,0,0,0] [.c [1,1,1,1,0,1,0,0,1,1,0,0,1],.b 1,.c [1,1,1,1,0,1,0,0,1,1,1],.l [1,1,1,1,0,1,0,0],.b 0,.c [1,1,1,1,1]] ?_
   obtain ⟨x2,hx2,heq⟩:=bind_some heq
   obtain ⟨ha2,cs2,hK2,hcc3⟩:=hra1.get hx2
   obtain rfl:cs2=[.string x2]:=hK2
   refine Rw' 5 [0,1,8,9,10,24,25,26] [.string x2] [.need (Aa1=some (adr Aa1)∧(0:Int)≤v26∧v26<((a1.length:Nat):Int)),.load ((adr Aa1).add (v26.toNat*1)) (.string x2)] [(0,.slice Aa0 a0.length ca0),(1,.slice Aa1 a1.length ca1),(8,.map (some gv_has8)),(9,iv v26),(10,.string x2),(24,.slice Aa1 a1.length ca1),(25,iv (a1.length:Int)),(26,iv v26)] (fun w hh=>⟨⟨ha2,(at?_some hx2).1,(at?_some hx2).2.1⟩,(hcc3 _ _ (hh.drop 1) 0 _ rfl)⟩)<|Ra 2 [1,1,1,1,0,1,0,0,1,1,0,0,1,0,0] [.c [1,1,1,1,0,1,0,0,1,1,0,0,1,0,1],.c [1,1,1,1,0,1,0,0,1,1,0,0,1,1],.b 1,.c [1,1,1,1,0,1,0,0,1,1,1],.l [1,1,1,1,0,1,0,0],.b 0,.c [1,1,1,1,1]]<|Rk 1 [0,1,8,9,10,24,25,26,31] [(0,.slice Aa0 a0.length ca0),(1,.slice Aa1 a1.length ca1),(8,.map (some gv_has8)),(9,iv v26),(10,.string x2),(24,.slice Aa1 a1.length ca1),(25,iv (a1.length:Int)),(26,iv v26),(31,.string x2)] ?_
   obtain ⟨y2,hy2,heq⟩:=bind_some heq
   refine RgH.does (DoesH.call (d:=32) (g:=8) (args:=#[.string x2]) (by kernel_rfl) (blob_IsDigest_c (a0:=x2)  hy2)) ?_
   rintro _ _ _ _ ⟨_,rfl,rfl,rfl,rfl⟩
   refine Rd 3 [0,1,8,9,10,24,25,26,33] [(0,.slice Aa0 a0.length ca0),(1,.slice Aa1 a1.length ca1),(8,.map (some gv_has8)),(9,iv v26),(10,.string x2),(24,.slice Aa1 a1.length ca1),(25,iv (a1.length:Int)),(26,iv v26),(33,.bool (!y2))] ?_
   rcases bool_cases (!y2) with hb6 | hb6
   ·replace heq:=bif_true hb6 heq
    refine Ct (!y2) hb6<|Ra 1 [1,1,1,1,0,1,0,0,1,1,0,0,1,0,1,0,0] [.c [1,1,1,1,0,1,0,0,1,1,0,0,1,0,1,0,1],.c [1,1,1,1,0,1,0,0,1,1,0,0,1,1],.b 1,.c [1,1,1,1,0,1,0,0,1,1,1],.l [1,1,1,1,0,1,0,0],.b 0,.c [1,1,1,1,1]]<|Rd 3 [4,5,6] [(4,.slice none 0 0),(5,iv 0),(6,iv 3)]<|RunH.nilc ?_
    have ho7:SlOwn kSized 31 H none 0 ([]:List Sized) none:=SlOwn.nil
    obtain rfl:=Option.some.inj heq
    refine RunH.pick 2 [0] (cs':=none::F) (by kernel_rfl) rfl ?_
    exact RunH.done (by kernel_rfl) Tryd.func4 (v:=.tuple #[.slice none 0 0,iv 0,iv 3]) (by kernel_rfl) ⟨none,0,none,rfl,rfl,rfl,ho7⟩
   ·replace heq:=bif_false hb6 heq
    refine Cf (!y2) hb6<|Ad 3 [.c [1,1,1,1,0,1,0,0,1,1,0,0,1,1,0,0],.c [1,1,1,1,0,1,0,0,1,1,0,0,1,1,0,1],.c [1,1,1,1,0,1,0,0,1,1,0,0,1,1,1],.b 1,.c [1,1,1,1,0,1,0,0,1,1,1],.l [1,1,1,1,0,1,0,0],.b 0,.c [1,1,1,1,1]] ?_
    obtain ⟨t1,ht1,heq⟩:=bind_some heq
    have K13:RunH C4 (S4 F H r) H w0 [.c [1,1,1,1,0,1,0,0,1,1,0,0,1,1,0,1],.c [1,1,1,1,0,1,0,0,1,1,0,0,1,1,1],.b 1,.c [1,1,1,1,0,1,0,0,1,1,1],.l [1,1,1,1,0,1,0,0],.b 0,.c [1,1,1,1,1]] [(0,.slice Aa0 a0.length ca0),(1,.slice Aa1 a1.length ca1),(8,.map (some gv_has8)),(10,.string x2),(24,.slice Aa1 a1.length ca1),(25,iv (a1.length:Int)),(26,iv v26),(44,.bool t1)] H (chv_has8::F):=by
     rcases bool_cases (t1) with hb8 | hb8
     ·replace heq:=bif_true hb8 heq
      refine Ct t1 hb8<|Ra 1 [1,1,1,1,0,1,0,0,1,1,0,0,1,1,0,1,0,0] [.c [1,1,1,1,0,1,0,0,1,1,0,0,1,1,0,1,0,1],.c [1,1,1,1,0,1,0,0,1,1,0,0,1,1,1],.b 1,.c [1,1,1,1,0,1,0,0,1,1,1],.l [1,1,1,1,0,1,0,0],.b 0,.c [1,1,1,1,1]]<|Rd 3 [4,5,6] [(4,.slice none 0 0),(5,iv 0),(6,iv 8)]<|RunH.nilc ?_
      have ho8:SlOwn kSized 31 H none 0 ([]:List Sized) none:=SlOwn.nil
      obtain rfl:=Option.some.inj heq
      refine RunH.pick 2 [0] (cs':=none::F) (by kernel_rfl) rfl ?_
      exact RunH.done (by kernel_rfl) Tryd.func4 (v:=.tuple #[.slice none 0 0,iv 0,iv 8]) (by kernel_rfl) ⟨none,0,none,rfl,rfl,rfl,ho8⟩
     ·replace heq:=bif_false hb8 heq
      refine Cf t1 hb8<|Ra 1 [1,1,1,1,0,1,0,0,1,1,0,0,1,1,1] [.b 1,.c [1,1,1,1,0,1,0,0,1,1,1],.l [1,1,1,1,0,1,0,0],.b 0,.c [1,1,1,1,1]]<|Rk 2 [0,1,8,24,25,26,45,46] [(0,.slice Aa0 a0.length ca0),(1,.slice Aa1 a1.length ca1),(8,.map (some gv_has8)),(24,.slice Aa1 a1.length ca1),(25,iv (a1.length:Int)),(26,iv v26),(45,.map (some gv_has8)),(46,.string x2)] ?_
      refine RgH.does (DoesH.mapUpdate (kk:=0) (cv:=[.bool true]) (k:=x2) (v:=true) (by kernel_rfl) (KyAt.string Tryd.underlying9) rfl rfl rfl hov_has8) ?_
      rintro _ _ _ _ ⟨ch2,rfl,rfl,rfl,ho9⟩
      refine Dn<|Ra 1 [1,1,1,1,0,1,0,0,1,1,1] [.l [1,1,1,1,0,1,0,0],.b 0,.c [1,1,1,1,1]]<|Rd 2 [0,1,8,24,25,26] [(0,.slice Aa0 a0.length ca0),(1,.slice Aa1 a1.length ca1),(8,.map (some gv_has8)),(24,.slice Aa1 a1.length ca1),(25,iv (a1.length:Int)),(26,iv (w64 (v26+1)))]<|Ad 1 [.c [1,1,1,1,0,1,0,0],.l [1,1,1,1,0,1,0,0],.b 0,.c [1,1,1,1,1]]<|Kp [0,1,8,24,25,26] [(0,.slice Aa0 a0.length ca0),(1,.slice Aa1 a1.length ca1),(8,.map (some gv_has8)),(24,.slice Aa1 a1.length ca1),(25,iv (a1.length:Int)),(26,iv (w64 (v26+1)))] ?_
      exact ihk a0 _ _ a1 _ _ (mput v_has8 x2 true) _ _ (w64 (v26+1)) hra0 hca0 hra1 hca1 ho9 heq
    replace heq:=ht1
    refine Rr<|Rk 3 [36,0,1,8,9,10,24,25,26] [(36,.bool (decide (0<v26))),(0,.slice Aa0 a0.length ca0),(1,.slice Aa1 a1.length ca1),(8,.map (some gv_has8)),(9,iv v26),(10,.string x2),(24,.slice Aa1 a1.length ca1),(25,iv (a1.length:Int)),(26,iv v26)] ?_
    rcases bool_cases (decide (0<v26)) with hb7 | hb7
    ·replace heq:=bif_true hb7 heq
     refine RgH.val1 (v':=.bool true) (congrArg Value.bool hb7) ?_
     obtain ⟨x3,hx3,heq⟩:=bind_some heq
     obtain ⟨ha3,cs3,hK3,hcc4⟩:=hra1.get hx3
     obtain rfl:cs3=[.string x3]:=hK3
     refine Rv 11 [0,1,8,10,24,25,26,44] [.string x3] [.need (Aa1=some (adr Aa1)∧(0:Int)≤(w64 (v26 - 1))∧(w64 (v26 - 1))<((a1.length:Nat):Int)),.load ((adr Aa1).add ((w64 (v26 - 1)).toNat*1)) (.string x3)] [(0,.slice Aa0 a0.length ca0),(1,.slice Aa1 a1.length ca1),(8,.map (some gv_has8)),(10,.string x2),(24,.slice Aa1 a1.length ca1),(25,iv (a1.length:Int)),(26,iv v26),(44,.bool (sLt x2 x3||sEq x2 x3))] (fun w hh=>⟨⟨ha3,(at?_some hx3).1,(at?_some hx3).2.1⟩,(hcc4 _ _ (hh.drop 1) 0 _ rfl)⟩) ?_
     obtain rfl:=Option.some.inj heq
     refine Kg [0,1,8,10,24,25,26,44] [(0,.slice Aa0 a0.length ca0),(1,.slice Aa1 a1.length ca1),(8,.map (some gv_has8)),(10,.string x2),(24,.slice Aa1 a1.length ca1),(25,iv (a1.length:Int)),(26,iv v26),(44,.bool (sLt x2 x3||sEq x2 x3))]<|Dn ?_
     exact K13
    ·replace heq:=bif_false hb7 heq
     refine RgH.val1 (v':=.bool false) (congrArg Value.bool hb7) ?_
     refine Rk 11 [0,1,8,10,24,25,26,44] [(0,.slice Aa0 a0.length ca0),(1,.slice Aa1 a1.length ca1),(8,.map (some gv_has8)),(10,.string x2),(24,.slice Aa1 a1.length ca1),(25,iv (a1.length:Int)),(26,iv v26),(44,.bool false)] ?_
     obtain rfl:=Option.some.inj heq
     refine Kg [0,1,8,10,24,25,26,44] [(0,.slice Aa0 a0.length ca0),(1,.slice Aa1 a1.length ca1),(8,.map (some gv_has8)),(10,.string x2),(24,.slice Aa1 a1.length ca1),(25,iv (a1.length:Int)),(26,iv v26),(44,.bool false)]<|Dn ?_
     exact K13
  ·replace heq:=bif_false hb5 heq
   refine Cf (decide (v26<(a1.length:Int))) hb5<|Ad 2 [.c [1,1,1,1,1,0],.c [1,1,1,1,1,1]]<|Kp [0,8] [(0,.slice Aa0 a0.length ca0),(8,.map (some gv_has8))] ?_
   exact he1 a0 _ _ v_has8 _ _ hra0 hca0 hov_has8 heq
theorem wire_Wanted_c {w0:World} {H:Hp} {F:List Ch} {a0:List Sized} {Aa0:Option Addr} {na0:Nat} {ca0:Nat} {a1:List ByteArray} {Aa1:Option Addr} {na1:Nat} {ca1:Nat} {r:(List Sized) × Int × Int} (hra0:Rw kSized H F Aa0 a0) (hca0:na0≤ca0) (hna0:na0=a0.length) (hra1:Rw Kd.string H F Aa1 a1) (hca1:na1≤ca1) (hna1:na1=a1.length) (heq:wire_Wanted.f a0 a1=some r):CallsH Tryd.prog 4 #[.slice Aa0 na0 ca0,.slice Aa1 na1 ca1] H w0 (F) (S4 F H r):=by
 refine calls_of_runH (F:=C4) Tryd.func4 (by kernel_rfl) Tryd.ntmps4 (args:=[.slice Aa0 na0 ca0,.slice Aa1 na1 ca1]) (by kernel_rfl) ?_
 subst hna0
 subst hna1
 unfold wire_Wanted.f at heq
 refine Ra 1 [0] [.c [1]]<|Rd 3 [0,1] [(0,.slice Aa0 a0.length ca0),(1,.slice Aa1 a1.length ca1)]<|Ra 2 [1,0,0] [.c [1,0,1],.c [1,1]]<|Rk 1 [0,1,15] [(0,.slice Aa0 a0.length ca0),(1,.slice Aa1 a1.length ca1),(15,.slice Aa0 a0.length ca0)] ?_
 obtain ⟨y1,hy1,heq⟩:=bind_some heq
 refine RgH.does (DoesH.call (d:=16) (g:=7) (args:=#[.slice Aa0 a0.length ca0]) (by kernel_rfl) (wire_CheckSizes_c (a0:=a0) hra0 hca0 rfl hy1)) ?_
 rintro _ _ _ _ ⟨_,rfl,rfl,rfl,rfl⟩
 refine Rd 3 [0,1,7] [(0,.slice Aa0 a0.length ca0),(1,.slice Aa1 a1.length ca1),(7,iv y1)]<|Ra 1 [1,0,1,0] [.c [1,0,1,1],.c [1,1]]<|Rd 2 [0,1,7,18] [(0,.slice Aa0 a0.length ca0),(1,.slice Aa1 a1.length ca1),(7,iv y1),(18,.bool (y1 != 0))] ?_
 rcases bool_cases (y1 != 0) with hb1 | hb1
 ·replace heq:=bif_true hb1 heq
  refine Ct (y1 != 0) hb1<|Ra 1 [1,0,1,1,0,0] [.c [1,0,1,1,0,1],.c [1,1]]<|Rd 4 [4,5,6] [(4,.slice none 0 0),(5,iv 0),(6,iv y1)]<|RunH.nilc ?_
  have ho1:SlOwn kSized 31 H none 0 ([]:List Sized) none:=SlOwn.nil
  obtain rfl:=Option.some.inj heq
  exact RunH.done (by kernel_rfl) Tryd.func4 (v:=.tuple #[.slice none 0 0,iv 0,iv y1]) (by kernel_rfl) ⟨none,0,none,rfl,rfl,rfl,ho1⟩
 ·replace heq:=bif_false hb1 heq
  refine Cf (y1 != 0) hb1<|Ra 3 [1,1,0,0] [.c [1,1,0,1],.c [1,1,1]]<|Rd 3 [0,1,22] [(0,.slice Aa0 a0.length ca0),(1,.slice Aa1 a1.length ca1),(22,.bool (decide (4000<(a1.length:Int))))] ?_
  rcases bool_cases (decide (4000<(a1.length:Int))) with hb2 | hb2
  ·replace heq:=bif_true hb2 heq
   refine Ct (decide (4000<(a1.length:Int))) hb2<|Ra 1 [1,1,0,1,0,0] [.c [1,1,0,1,0,1],.c [1,1,1]]<|Rd 3 [4,5,6] [(4,.slice none 0 0),(5,iv 0),(6,iv 2)]<|RunH.nilc ?_
   have ho2:SlOwn kSized 31 H none 0 ([]:List Sized) none:=SlOwn.nil
   obtain rfl:=Option.some.inj heq
   exact RunH.done (by kernel_rfl) Tryd.func4 (v:=.tuple #[.slice none 0 0,iv 0,iv 2]) (by kernel_rfl) ⟨none,0,none,rfl,rfl,rfl,ho2⟩
  ·replace heq:=bif_false hb2 heq
   refine Cf (decide (4000<(a1.length:Int))) hb2<|Ra 2 [1,1,1,0] [.c [1,1,1,1]] ?_
   refine RgH.does (DoesH.new (d:=23) (v:=fun g=>.map (some g)) (o:=fun g=>.map #[] 0) (fun g=>by kernel_rfl)) ?_
   rintro _ _ _ _ ⟨g1,rfl,rfl,rfl⟩
   have ho3:MpOwn Value.string Kd.bool false H g1 ([]:List (ByteArray × Bool)) (some (g1,.map #[] 0)):=MpOwn.made
   refine Rd 2 [0,1,8] [(0,.slice Aa0 a0.length ca0),(1,.slice Aa1 a1.length ca1),(8,.map (some g1))]<|Ra 2 [1,1,1,1,0,0] [.c [1,1,1,1,0,1],.c [1,1,1,1,1]]<|Rd 3 [0,1,8,24,25,26] [(0,.slice Aa0 a0.length ca0),(1,.slice Aa1 a1.length ca1),(8,.map (some g1)),(24,.slice Aa1 a1.length ca1),(25,iv (a1.length:Int)),(26,iv 0)]<|Ad 2 [.c [1,1,1,1,0,1,0,0],.l [1,1,1,1,0,1,0,0],.b 0,.c [1,1,1,1,1]]<|Kp [0,1,8,24,25,26] [(0,.slice Aa0 a0.length ca0),(1,.slice Aa1 a1.length ca1),(8,.map (some g1)),(24,.slice Aa1 a1.length ca1),(25,iv (a1.length:Int)),(26,iv 0)] ?_
   exact ((wire_Wanted.l5_c (e1:=wire_Wanted.e1) (wire_Wanted.e1_c)) big) a0 _ _ a1 _ _ ([]:List (ByteArray × Bool)) _ _ 0 hra0 hca0 hra1 hca1 ho3 heq
noncomputable def C15:Ctx:={ P:=Tryd.prog,f:=15,N:=15,c:=bodyOf Tryd.f15 }
def S15 (F:List Ch) (H0:Hp) (r:Bool) (v:Value) (H:Hp) (cs:List Ch):Prop:=H0=H∧v=.bool r∧F=cs
theorem cache_within_c {w0:World} {H:Hp} {F:List Ch} {a0:Int} {a1:Int} {a2:Int} {r:Bool} (heq:cache_within.f a0 a1 a2=some r):CallsH Tryd.prog 15 #[iv a0,iv a1,iv a2] H w0 (F) (S15 F H r):=by
 refine calls_of_runH (F:=C15) Tryd.func15 (by kernel_rfl) Tryd.ntmps15 (args:=[iv a0,iv a1,iv a2]) (by kernel_rfl) ?_
 unfold cache_within.f at heq
 refine Ra 1 [0] [.c [1]]<|Rd 1 [0,1,2] [(0,iv a0),(1,iv a1),(2,iv a2)]<|Ad 1 [.c [1,0],.c [1,1]] ?_
 obtain ⟨t1,ht1,heq⟩:=bind_some heq
 have K1:RunH C15 (S15 F H r) H w0 [.c [1,1]] [(6,.bool t1)] H (F):=by
  obtain rfl:=Option.some.inj heq
  exact RunH.done (by kernel_rfl) Tryd.func15 (v:=.bool t1) (by kernel_rfl) ⟨rfl,rfl,rfl⟩
 replace heq:=ht1
 refine Rr<|Rk 4 [10,0,2] [(10,.bool (decide (a1≤a0))),(0,iv a0),(2,iv a2)] ?_
 rcases bool_cases (decide (a1≤a0)) with hb1 | hb1
 ·replace heq:=bif_true hb1 heq
  refine RgH.val1 (v':=.bool true) (congrArg Value.bool hb1) ?_
  refine Rk 9 [6] [(6,.bool (decide (a0≤a2)))] ?_
  obtain rfl:=Option.some.inj heq
  refine Kg [6] [(6,.bool (decide (a0≤a2)))]<|Dn ?_
  exact K1
 ·replace heq:=bif_false hb1 heq
  refine RgH.val1 (v':=.bool false) (congrArg Value.bool hb1) ?_
  refine Rk 9 [6] [(6,.bool false)] ?_
  obtain rfl:=Option.some.inj heq
  refine Kg [6] [(6,.bool false)]<|Dn ?_
  exact K1
noncomputable def C18:Ctx:={ P:=Tryd.prog,f:=18,N:=5,c:=bodyOf Tryd.f18 }
def S18 (F:List Ch) (H0:Hp) (r:Bool) (v:Value) (H:Hp) (cs:List Ch):Prop:=H0=H∧v=.bool r∧F=cs
theorem cache_isMoment_c {w0:World} {H:Hp} {F:List Ch} {a0:Int} {r:Bool} (heq:cache_isMoment.f a0=some r):CallsH Tryd.prog 18 #[iv a0] H w0 (F) (S18 F H r):=by
 refine calls_of_runH (F:=C18) Tryd.func18 (by kernel_rfl) Tryd.ntmps18 (args:=[iv a0]) (by kernel_rfl) ?_
 unfold cache_isMoment.f at heq
 refine Ra 1 [0] [.c [1]]<|Rd 1 [0] [(0,iv a0)]<|Ra 1 [1,0] [.c [1,1]]<|Rk 1 [3] [(3,iv a0)] ?_
 obtain ⟨y1,hy1,heq⟩:=bind_some heq
 refine RgH.does (DoesH.call (d:=4) (g:=15) (args:=#[iv a0,iv 0,iv 1000000000]) (by kernel_rfl) (cache_within_c (a0:=a0) (a1:=0) (a2:=1000000000)  hy1)) ?_
 rintro _ _ _ _ ⟨_,rfl,rfl,rfl,rfl⟩
 refine Rd 3 [2] [(2,.bool y1)] ?_
 obtain rfl:=Option.some.inj heq
 exact RunH.done (by kernel_rfl) Tryd.func18 (v:=.bool y1) (by kernel_rfl) ⟨rfl,rfl,rfl⟩
noncomputable def C16:Ctx:={ P:=Tryd.prog,f:=16,N:=68,c:=bodyOf Tryd.f16 }
def S16 (F:List Ch) (H0:Hp) (r:Int) (v:Value) (H:Hp) (cs:List Ch):Prop:=H0=H∧v=iv r∧F=cs
theorem cache_checkBlobs.e1_c {w0:World} {H:Hp} {F:List Ch} {r:Int}:∀ (a1:Int) (v_sum5:Int) ,cache_checkBlobs.e1 a1 v_sum5=some r→RunH C16 (S16 F H r) H w0 [.c [1,1,1,1,0,0],.c [1,1,1,1,0,1],.c [1,1,1,1,1]] [(1,iv a1),(5,iv v_sum5)] H (F):=by
 intro a1 v_sum5  heq
 unfold cache_checkBlobs.e1 at heq
 refine Rr<|Rd 3 [67] [(67,.bool (decide (a1<v_sum5)))] ?_
 rcases bool_cases (decide (a1<v_sum5)) with hb2 | hb2
 ·replace heq:=bif_true hb2 heq
  refine Ct (decide (a1<v_sum5)) hb2<|Ra 1 [1,1,1,1,0,1,0,0] [.c [1,1,1,1,0,1,0,1],.c [1,1,1,1,1]]<|Rd 1 [4] [(4,iv 16)] ?_
  obtain rfl:=Option.some.inj heq
  exact RunH.done (by kernel_rfl) Tryd.func16 (v:=iv 16) (by kernel_rfl) ⟨rfl,rfl,rfl⟩
 ·replace heq:=bif_false hb2 heq
  refine Cf (decide (a1<v_sum5)) hb2<|Ra 2 [1,1,1,1,1,0] [.c [1,1,1,1,1,1]]<|Rd 1 [4] [(4,iv 0)] ?_
  obtain rfl:=Option.some.inj heq
  exact RunH.done (by kernel_rfl) Tryd.func16 (v:=iv 0) (by kernel_rfl) ⟨rfl,rfl,rfl⟩
theorem cache_checkBlobs.l2_c {w0:World} {H:Hp} {F:List Ch} {r:Int} (e1:Int→Int→Option Int)
  (he1:∀ (a1:Int) (v_sum5:Int) ,e1 a1 v_sum5=some r→RunH C16 (S16 F H r) H w0 [.c [1,1,1,1,0,0],.c [1,1,1,1,0,1],.c [1,1,1,1,1]] [(1,iv a1),(5,iv v_sum5)] H (F)):∀ (k:Nat),∀ (a0:List Blob) (Aa0:Option Addr) (ca0:Nat) (a1:Int) (v_sum5:Int) (v13:Int) ,Rw kBlob H F Aa0 a0→a0.length≤ca0→cache_checkBlobs.l2 e1 k a0 a1 v_sum5 v13=some r→RunH C16 (S16 F H r) H w0 [.c [1,1,1,0,1,0,0],.l [1,1,1,0,1,0,0],.b 0,.c [1,1,1,1]] [(0,.slice Aa0 a0.length ca0),(1,iv a1),(5,iv v_sum5),(11,.slice Aa0 a0.length ca0),(12,iv (a0.length:Int)),(13,iv v13)] H (F):=by
 intro k
 induction k with
 | zero=>intro a0 Aa0 ca0 a1 v_sum5 v13 hra0 hca0 heq; exact nomatch (show (none:Option Int)=some r from heq)
 | succ k ihk =>
  intro a0 Aa0 ca0 a1 v_sum5 v13 hra0 hca0 heq
  rw [cache_checkBlobs.l2] at heq
  refine Ra 1 [1,1,1,0,1,0,0,0] [.c [1,1,1,0,1,0,0,1],.l [1,1,1,0,1,0,0],.b 0,.c [1,1,1,1]]<|Rd 1 [0,1,5,11,12,13,14] [(0,.slice Aa0 a0.length ca0),(1,iv a1),(5,iv v_sum5),(11,.slice Aa0 a0.length ca0),(12,iv (a0.length:Int)),(13,iv v13),(14,.bool (decide (v13<(a0.length:Int))))]<|Ad 1 [.c [1,1,1,0,1,0,0,1,0],.c [1,1,1,0,1,0,0,1,1],.l [1,1,1,0,1,0,0],.b 0,.c [1,1,1,1]] ?_
  rcases bool_cases (decide (v13<(a0.length:Int))) with hb3 | hb3
  ·replace heq:=bif_true hb3 heq
   refine Ct (decide (v13<(a0.length:Int))) hb3<|Ra 4 [1,1,1,0,1,0,0,1,1,0,0,0] [.c [1,1,1,0,1,0,0,1,1,0,0,1],.b 1,.c [1,1,1,0,1,0,0,1,1,1],.l [1,1,1,0,1,0,0],.b 0,.c [1,1,1,1]] ?_
   obtain ⟨x1,hx1,heq⟩:=bind_some heq
   obtain ⟨ha1,cs1,hK1,hcc1⟩:=hra0.get hx1
   obtain ⟨rfl⟩:=kBlob_open hK1
   refine Rv 3 [0,1,5,11,12,13,15,17] [.string x1.Digest,iv x1.Size,iv x1.Used,iv x1.Until,iv x1.Pins] [.need (Aa0=some (adr Aa0)∧(0:Int)≤v13∧v13<((a0.length:Nat):Int)),.load (((adr Aa0).add (v13.toNat*5)).add 0) (.string x1.Digest),.load (((adr Aa0).add (v13.toNat*5)).add 1) (iv x1.Size),.load (((adr Aa0).add (v13.toNat*5)).add 2) (iv x1.Used),.load (((adr Aa0).add (v13.toNat*5)).add 3) (iv x1.Until),.load (((adr Aa0).add (v13.toNat*5)).add 4) (iv x1.Pins)] [(0,.slice Aa0 a0.length ca0),(1,iv a1),(5,iv v_sum5),(11,.slice Aa0 a0.length ca0),(12,iv (a0.length:Int)),(13,iv v13),(15,iv v13),(17,.agg #[.string x1.Digest,iv x1.Size,iv x1.Used,iv x1.Until,iv x1.Pins])] (fun w hh=>⟨⟨ha1,(at?_some hx1).1,(at?_some hx1).2.1⟩,(hcc1 _ _ (hh.drop 0) 0 _ rfl),(hcc1 _ _ (hh.drop 0) 1 _ rfl),(hcc1 _ _ (hh.drop 0) 2 _ rfl),(hcc1 _ _ (hh.drop 0) 3 _ rfl),(hcc1 _ _ (hh.drop 0) 4 _ rfl)⟩) ?_
   refine RgH.does (DoesH.new (d:=7) (v:=fun g=>.pointer (some ⟨g,0,none⟩)) (o:=fun g=>.cells #[.string ByteArray.empty,iv 0,iv 0,iv 0,iv 0] 29 (0,0)) (fun g=>by kernel_rfl)) ?_
   rintro _ _ _ _ ⟨g1,rfl,rfl,rfl⟩
   refine Rk 5 [0,1,5,6,7,11,12,13,17] [(0,.slice Aa0 a0.length ca0),(1,iv a1),(5,iv v_sum5),(6,iv v13),(7,pg g1 0),(11,.slice Aa0 a0.length ca0),(12,iv (a0.length:Int)),(13,iv v13),(17,.agg #[.string x1.Digest,iv x1.Size,iv x1.Used,iv x1.Until,iv x1.Pins])] ?_
   refine RgH.does (DoesH.store (k:=0) (g:=g1) (off:=0) (v:=.agg #[.string x1.Digest,iv x1.Size,iv x1.Used,iv x1.Until,iv x1.Pins]) (cells':=#[.string x1.Digest,iv x1.Size,iv x1.Used,iv x1.Until,iv x1.Pins]) (by kernel_rfl) rfl (by kernel_rfl) (by kernel_rfl)) ?_
   rintro _ _ _ _ ⟨rfl,rfl,rfl⟩
   refine Dn<|Ra 3 [1,1,1,0,1,0,0,1,1,0,0,1,0,0,0] [.c [1,1,1,0,1,0,0,1,1,0,0,1,0,0,1],.b 2,.c [1,1,1,0,1,0,0,1,1,0,0,1,1],.b 1,.c [1,1,1,0,1,0,0,1,1,1],.l [1,1,1,0,1,0,0],.b 0,.c [1,1,1,1]]<|Rv 2 [0,1,5,6,7,11,12,13,20] [.string x1.Digest] [.load ⟨g1,0,none⟩ (.string x1.Digest)] [(0,.slice Aa0 a0.length ca0),(1,iv a1),(5,iv v_sum5),(6,iv v13),(7,pg g1 0),(11,.slice Aa0 a0.length ca0),(12,iv (a0.length:Int)),(13,iv v13),(20,.string x1.Digest)] (fun w hh=>(hh.box 0 rfl rfl)) ?_
   obtain ⟨y1,hy1,heq⟩:=bind_some heq
   refine RgH.does (DoesH.call (d:=21) (g:=8) (args:=#[.string x1.Digest]) (by kernel_rfl) (blob_IsDigest_c (a0:=x1.Digest)  hy1)) ?_
   rintro _ _ _ _ ⟨_,rfl,rfl,rfl,rfl⟩
   refine Rd 5 [0,1,5,6,7,11,12,13,18] [(0,.slice Aa0 a0.length ca0),(1,iv a1),(5,iv v_sum5),(6,iv v13),(7,pg g1 0),(11,.slice Aa0 a0.length ca0),(12,iv (a0.length:Int)),(13,iv v13),(18,.bool (!y1))] ?_
   rcases bool_cases (!y1) with hb4 | hb4
   ·replace heq:=bif_true hb4 heq
    refine Ct (!y1) hb4<|Ra 1 [1,1,1,0,1,0,0,1,1,0,0,1,0,0,1,0,0] [.c [1,1,1,0,1,0,0,1,1,0,0,1,0,0,1,0,1],.b 2,.c [1,1,1,0,1,0,0,1,1,0,0,1,1],.b 1,.c [1,1,1,0,1,0,0,1,1,1],.l [1,1,1,0,1,0,0],.b 0,.c [1,1,1,1]]<|Rd 1 [4] [(4,iv 3)] ?_
    obtain rfl:=Option.some.inj heq
    refine RunH.pick 1 [] (cs':=F) (by kernel_rfl) rfl ?_
    exact RunH.done (by kernel_rfl) Tryd.func16 (v:=iv 3) (by kernel_rfl) ⟨rfl,rfl,rfl⟩
   ·replace heq:=bif_false hb4 heq
    refine Cf (!y1) hb4<|Ad 1 [.c [1,1,1,0,1,0,0,1,1,0,0,1,0,0,1,1,0],.c [1,1,1,0,1,0,0,1,1,0,0,1,0,0,1,1,1],.b 2,.c [1,1,1,0,1,0,0,1,1,0,0,1,1],.b 1,.c [1,1,1,0,1,0,0,1,1,1],.l [1,1,1,0,1,0,0],.b 0,.c [1,1,1,1]] ?_
    obtain ⟨t1,ht1,heq⟩:=bind_some heq
    have K2:RunH C16 (S16 F H r) H w0 [.c [1,1,1,0,1,0,0,1,1,0,0,1,0,0,1,1,1],.b 2,.c [1,1,1,0,1,0,0,1,1,0,0,1,1],.b 1,.c [1,1,1,0,1,0,0,1,1,1],.l [1,1,1,0,1,0,0],.b 0,.c [1,1,1,1]] [(0,.slice Aa0 a0.length ca0),(1,iv a1),(5,iv v_sum5),(6,iv v13),(7,pg g1 0),(11,.slice Aa0 a0.length ca0),(12,iv (a0.length:Int)),(13,iv v13),(23,.bool t1)] H ((some (g1,.cells #[.string x1.Digest,iv x1.Size,iv x1.Used,iv x1.Until,iv x1.Pins] 29 (0,0)))::F):=by
     rcases bool_cases (t1) with hb8 | hb8
     ·replace heq:=bif_true hb8 heq
      refine Ct t1 hb8<|Ra 1 [1,1,1,0,1,0,0,1,1,0,0,1,0,0,1,1,1,0,0] [.c [1,1,1,0,1,0,0,1,1,0,0,1,0,0,1,1,1,0,1],.b 2,.c [1,1,1,0,1,0,0,1,1,0,0,1,1],.b 1,.c [1,1,1,0,1,0,0,1,1,1],.l [1,1,1,0,1,0,0],.b 0,.c [1,1,1,1]]<|Rd 1 [4] [(4,iv 1)] ?_
      obtain rfl:=Option.some.inj heq
      refine RunH.pick 1 [] (cs':=F) (by kernel_rfl) rfl ?_
      exact RunH.done (by kernel_rfl) Tryd.func16 (v:=iv 1) (by kernel_rfl) ⟨rfl,rfl,rfl⟩
     ·replace heq:=bif_false hb8 heq
      refine Cf t1 hb8<|Ad 1 [.c [1,1,1,0,1,0,0,1,1,0,0,1,0,0,1,1,1,1,0],.c [1,1,1,0,1,0,0,1,1,0,0,1,0,0,1,1,1,1,1],.b 2,.c [1,1,1,0,1,0,0,1,1,0,0,1,1],.b 1,.c [1,1,1,0,1,0,0,1,1,1],.l [1,1,1,0,1,0,0],.b 0,.c [1,1,1,1]] ?_
      obtain ⟨t2,ht2,heq⟩:=bind_some heq
      have K3:RunH C16 (S16 F H r) H w0 [.c [1,1,1,0,1,0,0,1,1,0,0,1,0,0,1,1,1,1,1],.b 2,.c [1,1,1,0,1,0,0,1,1,0,0,1,1],.b 1,.c [1,1,1,0,1,0,0,1,1,1],.l [1,1,1,0,1,0,0],.b 0,.c [1,1,1,1]] [(0,.slice Aa0 a0.length ca0),(1,iv a1),(5,iv v_sum5),(7,pg g1 0),(11,.slice Aa0 a0.length ca0),(12,iv (a0.length:Int)),(13,iv v13),(46,.bool t2)] H ((some (g1,.cells #[.string x1.Digest,iv x1.Size,iv x1.Used,iv x1.Until,iv x1.Pins] 29 (0,0)))::F):=by
       rcases bool_cases (t2) with hb10 | hb10
       ·replace heq:=bif_true hb10 heq
        refine Ct t2 hb10<|Ra 1 [1,1,1,0,1,0,0,1,1,0,0,1,0,0,1,1,1,1,1,0,0] [.c [1,1,1,0,1,0,0,1,1,0,0,1,0,0,1,1,1,1,1,0,1],.b 2,.c [1,1,1,0,1,0,0,1,1,0,0,1,1],.b 1,.c [1,1,1,0,1,0,0,1,1,1],.l [1,1,1,0,1,0,0],.b 0,.c [1,1,1,1]]<|Rd 1 [4] [(4,iv 8)] ?_
        obtain rfl:=Option.some.inj heq
        refine RunH.pick 1 [] (cs':=F) (by kernel_rfl) rfl ?_
        exact RunH.done (by kernel_rfl) Tryd.func16 (v:=iv 8) (by kernel_rfl) ⟨rfl,rfl,rfl⟩
       ·replace heq:=bif_false hb10 heq
        refine Cf t2 hb10<|Ra 2 [1,1,1,0,1,0,0,1,1,0,0,1,1] [.b 1,.c [1,1,1,0,1,0,0,1,1,1],.l [1,1,1,0,1,0,0],.b 0,.c [1,1,1,1]]<|Rw' 5 [0,1,5,11,12,13] [iv x1.Size] [.load ⟨g1,1,none⟩ (iv x1.Size)] [(0,.slice Aa0 a0.length ca0),(1,iv a1),(5,iv (w64 (v_sum5+x1.Size))),(11,.slice Aa0 a0.length ca0),(12,iv (a0.length:Int)),(13,iv v13)] (fun w hh=>(hh.box 0 rfl rfl))<|Ra 1 [1,1,1,0,1,0,0,1,1,1] [.l [1,1,1,0,1,0,0],.b 0,.c [1,1,1,1]]<|Rd 2 [0,1,5,11,12,13] [(0,.slice Aa0 a0.length ca0),(1,iv a1),(5,iv (w64 (v_sum5+x1.Size))),(11,.slice Aa0 a0.length ca0),(12,iv (a0.length:Int)),(13,iv (w64 (v13+1)))]<|Ad 1 [.c [1,1,1,0,1,0,0],.l [1,1,1,0,1,0,0],.b 0,.c [1,1,1,1]]<|Kp [0,1,5,11,12,13] [(0,.slice Aa0 a0.length ca0),(1,iv a1),(5,iv (w64 (v_sum5+x1.Size))),(11,.slice Aa0 a0.length ca0),(12,iv (a0.length:Int)),(13,iv (w64 (v13+1)))] ?_
        refine RunH.pick 1 [] (cs':=F) (by kernel_rfl) rfl ?_
        exact ihk a0 _ _ a1 (w64 (v_sum5+x1.Size)) (w64 (v13+1)) hra0 hca0 heq
      replace heq:=ht2
      refine Kp [0,1,5,6,7,11,12,13] [(0,.slice Aa0 a0.length ca0),(1,iv a1),(5,iv v_sum5),(6,iv v13),(7,pg g1 0),(11,.slice Aa0 a0.length ca0),(12,iv (a0.length:Int)),(13,iv v13)] ?_
      refine RunH.draw (fun w=>Heap H w0 w ((some (g1,.cells #[.string x1.Digest,iv x1.Size,iv x1.Used,iv x1.Until,iv x1.Pins] 29 (0,0)))::F)) (fun w=>Heap H w0 w ((some (g1,.cells #[.string x1.Digest,iv x1.Size,iv x1.Used,iv x1.Until,iv x1.Pins] 29 (0,0)))::F)) [3,3,3,3,3,3,3,3,3,3,3,3,3,3] (n:=14) (ls:=[false,false,false,false,false,false,false,false,false,false,false,false,false,false]) (by kernel_rfl) (by kernel_rfl) (by kernel_rfl) rfl ?_
      refine Dk [0,1,2] 11 (nb 14 7) [] [] [49,0,1,5,6,7,11,12,13] [(49,.bool (decide (0<v13))),(0,.slice Aa0 a0.length ca0),(1,iv a1),(5,iv v_sum5),(6,iv v13),(7,pg g1 0),(11,.slice Aa0 a0.length ca0),(12,iv (a0.length:Int)),(13,iv v13)] (Pk 1 [0]) (Pk 1 [0]) (fun _ _=>trivial) ?_
      rcases bool_cases (decide (0<v13)) with hb9 | hb9
      ·replace heq:=bif_true hb9 heq
       refine DrH.val1 (v':=.bool true) (congrArg Value.bool hb9) ?_
       obtain ⟨x2,hx2,heq⟩:=bind_some heq
       obtain ⟨ha2,cs2,hK2,hcc2⟩:=hra0.get hx2
       obtain ⟨rfl⟩:=kBlob_open hK2
       refine Dk [3,4,5,6,7,8,9,10,11,12,13] 0 (nb 14 16383) [.string x1.Digest,.string x2.Digest] [.load ⟨g1,0,none⟩ (.string x1.Digest),.need (Aa0=some (adr Aa0)∧(0:Int)≤(w64 (v13 - 1))∧(w64 (v13 - 1))<((a0.length:Nat):Int)),.load (((adr Aa0).add ((w64 (v13 - 1)).toNat*5)).add 0) (.string x2.Digest)] [0,1,5,7,11,12,13,46] [(0,.slice Aa0 a0.length ca0),(1,iv a1),(5,iv v_sum5),(7,pg g1 0),(11,.slice Aa0 a0.length ca0),(12,iv (a0.length:Int)),(13,iv v13),(46,.bool (sLt x1.Digest x2.Digest||sEq x1.Digest x2.Digest))] (Pk 1 [0]) (Pk 1 [0]) (fun w hh=>⟨(hh.box 0 rfl rfl),⟨ha2,(at?_some hx2).1,(at?_some hx2).2.1⟩,(hcc2 _ _ (hh.drop 1) 0 _ rfl)⟩) ?_
       obtain rfl:=Option.some.inj heq
       refine Kr [0,1,5,7,11,12,13,46] [(0,.slice Aa0 a0.length ca0),(1,iv a1),(5,iv v_sum5),(7,pg g1 0),(11,.slice Aa0 a0.length ca0),(12,iv (a0.length:Int)),(13,iv v13),(46,.bool (sLt x1.Digest x2.Digest||sEq x1.Digest x2.Digest))] ?_
       refine DrH.done (by kernel_rfl) ?_
       exact K3
      ·replace heq:=bif_false hb9 heq
       refine DrH.val1 (v':=.bool false) (congrArg Value.bool hb9) ?_
       refine Dk [3,4,5,6,7,8,9,10,11,12,13] 0 (nb 14 16383) [] [] [0,1,5,7,11,12,13,46] [(0,.slice Aa0 a0.length ca0),(1,iv a1),(5,iv v_sum5),(7,pg g1 0),(11,.slice Aa0 a0.length ca0),(12,iv (a0.length:Int)),(13,iv v13),(46,.bool false)] (Pk 1 [0]) (Pk 1 [0]) (fun _ _=>trivial) ?_
       obtain rfl:=Option.some.inj heq
       refine Kr [0,1,5,7,11,12,13,46] [(0,.slice Aa0 a0.length ca0),(1,iv a1),(5,iv v_sum5),(7,pg g1 0),(11,.slice Aa0 a0.length ca0),(12,iv (a0.length:Int)),(13,iv v13),(46,.bool false)] ?_
       refine DrH.done (by kernel_rfl) ?_
       exact K3
    replace heq:=ht1
    refine Rr<|Rv 2 [0,1,5,6,7,11,12,13,25] [iv x1.Size] [.load ⟨g1,1,none⟩ (iv x1.Size)] [(0,.slice Aa0 a0.length ca0),(1,iv a1),(5,iv v_sum5),(6,iv v13),(7,pg g1 0),(11,.slice Aa0 a0.length ca0),(12,iv (a0.length:Int)),(13,iv v13),(25,iv x1.Size)] (fun w hh=>(hh.box 0 rfl rfl)) ?_
    obtain ⟨y2,hy2,heq⟩:=bind_some heq
    refine RgH.does (DoesH.call (d:=26) (g:=15) (args:=#[iv x1.Size,iv 0,iv 100000000]) (by kernel_rfl) (cache_within_c (a0:=x1.Size) (a1:=0) (a2:=100000000)  hy2)) ?_
    rintro _ _ _ _ ⟨_,rfl,rfl,rfl,rfl⟩
    refine Rk 5 [28,0,1,5,6,7,11,12,13] [(28,.bool (!y2)),(0,.slice Aa0 a0.length ca0),(1,iv a1),(5,iv v_sum5),(6,iv v13),(7,pg g1 0),(11,.slice Aa0 a0.length ca0),(12,iv (a0.length:Int)),(13,iv v13)] ?_
    rcases bool_cases (!y2) with hb5 | hb5
    ·replace heq:=bif_true hb5 heq
     refine RgH.val1 (v':=.bool true) (congrArg Value.bool hb5) ?_
     refine Rk 23 [0,1,5,6,7,11,12,13,23] [(0,.slice Aa0 a0.length ca0),(1,iv a1),(5,iv v_sum5),(6,iv v13),(7,pg g1 0),(11,.slice Aa0 a0.length ca0),(12,iv (a0.length:Int)),(13,iv v13),(23,.bool true)] ?_
     obtain rfl:=Option.some.inj heq
     refine Kg [0,1,5,6,7,11,12,13,23] [(0,.slice Aa0 a0.length ca0),(1,iv a1),(5,iv v_sum5),(6,iv v13),(7,pg g1 0),(11,.slice Aa0 a0.length ca0),(12,iv (a0.length:Int)),(13,iv v13),(23,.bool true)]<|Dn ?_
     exact K2
    ·replace heq:=bif_false hb5 heq
     refine RgH.val1 (v':=.bool false) (congrArg Value.bool hb5) ?_
     refine Rv 7 [0,1,5,6,7,11,12,13,28,30] [iv x1.Used] [.load ⟨g1,2,none⟩ (iv x1.Used)] [(0,.slice Aa0 a0.length ca0),(1,iv a1),(5,iv v_sum5),(6,iv v13),(7,pg g1 0),(11,.slice Aa0 a0.length ca0),(12,iv (a0.length:Int)),(13,iv v13),(28,.bool false),(30,iv x1.Used)] (fun w hh=>(hh.box 0 rfl rfl)) ?_
     obtain ⟨y3,hy3,heq⟩:=bind_some heq
     refine RgH.does (DoesH.call (d:=31) (g:=18) (args:=#[iv x1.Used]) (by kernel_rfl) (cache_isMoment_c (a0:=x1.Used)  hy3)) ?_
     rintro _ _ _ _ ⟨_,rfl,rfl,rfl,rfl⟩
     refine Rk 11 [34,0,1,5,6,7,11,12,13] [(34,.bool (!y3)),(0,.slice Aa0 a0.length ca0),(1,iv a1),(5,iv v_sum5),(6,iv v13),(7,pg g1 0),(11,.slice Aa0 a0.length ca0),(12,iv (a0.length:Int)),(13,iv v13)] ?_
     rcases bool_cases (!y3) with hb6 | hb6
     ·replace heq:=bif_true hb6 heq
      refine RgH.val1 (v':=.bool true) (congrArg Value.bool hb6) ?_
      refine Rk 23 [0,1,5,6,7,11,12,13,23] [(0,.slice Aa0 a0.length ca0),(1,iv a1),(5,iv v_sum5),(6,iv v13),(7,pg g1 0),(11,.slice Aa0 a0.length ca0),(12,iv (a0.length:Int)),(13,iv v13),(23,.bool true)] ?_
      obtain rfl:=Option.some.inj heq
      refine Kg [0,1,5,6,7,11,12,13,23] [(0,.slice Aa0 a0.length ca0),(1,iv a1),(5,iv v_sum5),(6,iv v13),(7,pg g1 0),(11,.slice Aa0 a0.length ca0),(12,iv (a0.length:Int)),(13,iv v13),(23,.bool true)]<|Dn ?_
      exact K2
     ·replace heq:=bif_false hb6 heq
      refine RgH.val1 (v':=.bool false) (congrArg Value.bool hb6) ?_
      refine Rv 13 [0,1,5,6,7,11,12,13,34,36] [iv x1.Until] [.load ⟨g1,3,none⟩ (iv x1.Until)] [(0,.slice Aa0 a0.length ca0),(1,iv a1),(5,iv v_sum5),(6,iv v13),(7,pg g1 0),(11,.slice Aa0 a0.length ca0),(12,iv (a0.length:Int)),(13,iv v13),(34,.bool false),(36,iv x1.Until)] (fun w hh=>(hh.box 0 rfl rfl)) ?_
      obtain ⟨y4,hy4,heq⟩:=bind_some heq
      refine RgH.does (DoesH.call (d:=37) (g:=15) (args:=#[iv x1.Until,iv 0,iv 1001000000]) (by kernel_rfl) (cache_within_c (a0:=x1.Until) (a1:=0) (a2:=1001000000)  hy4)) ?_
      rintro _ _ _ _ ⟨_,rfl,rfl,rfl,rfl⟩
      refine Rk 17 [40,0,1,5,6,7,11,12,13] [(40,.bool (!y4)),(0,.slice Aa0 a0.length ca0),(1,iv a1),(5,iv v_sum5),(6,iv v13),(7,pg g1 0),(11,.slice Aa0 a0.length ca0),(12,iv (a0.length:Int)),(13,iv v13)] ?_
      rcases bool_cases (!y4) with hb7 | hb7
      ·replace heq:=bif_true hb7 heq
       refine RgH.val1 (v':=.bool true) (congrArg Value.bool hb7) ?_
       refine Rk 23 [0,1,5,6,7,11,12,13,23] [(0,.slice Aa0 a0.length ca0),(1,iv a1),(5,iv v_sum5),(6,iv v13),(7,pg g1 0),(11,.slice Aa0 a0.length ca0),(12,iv (a0.length:Int)),(13,iv v13),(23,.bool true)] ?_
       obtain rfl:=Option.some.inj heq
       refine Kg [0,1,5,6,7,11,12,13,23] [(0,.slice Aa0 a0.length ca0),(1,iv a1),(5,iv v_sum5),(6,iv v13),(7,pg g1 0),(11,.slice Aa0 a0.length ca0),(12,iv (a0.length:Int)),(13,iv v13),(23,.bool true)]<|Dn ?_
       exact K2
      ·replace heq:=bif_false hb7 heq
       refine RgH.val1 (v':=.bool false) (congrArg Value.bool hb7) ?_
       refine Rv 19 [0,1,5,6,7,11,12,13,40,42] [iv x1.Pins] [.load ⟨g1,4,none⟩ (iv x1.Pins)] [(0,.slice Aa0 a0.length ca0),(1,iv a1),(5,iv v_sum5),(6,iv v13),(7,pg g1 0),(11,.slice Aa0 a0.length ca0),(12,iv (a0.length:Int)),(13,iv v13),(40,.bool false),(42,iv x1.Pins)] (fun w hh=>(hh.box 0 rfl rfl)) ?_
       obtain ⟨y5,hy5,heq⟩:=bind_some heq
       refine RgH.does (DoesH.call (d:=43) (g:=15) (args:=#[iv x1.Pins,iv 0,iv 3000]) (by kernel_rfl) (cache_within_c (a0:=x1.Pins) (a1:=0) (a2:=3000)  hy5)) ?_
       rintro _ _ _ _ ⟨_,rfl,rfl,rfl,rfl⟩
       refine Rk 23 [0,1,5,6,7,11,12,13,23] [(0,.slice Aa0 a0.length ca0),(1,iv a1),(5,iv v_sum5),(6,iv v13),(7,pg g1 0),(11,.slice Aa0 a0.length ca0),(12,iv (a0.length:Int)),(13,iv v13),(23,.bool (!y5))] ?_
       obtain rfl:=Option.some.inj heq
       refine Kg [0,1,5,6,7,11,12,13,23] [(0,.slice Aa0 a0.length ca0),(1,iv a1),(5,iv v_sum5),(6,iv v13),(7,pg g1 0),(11,.slice Aa0 a0.length ca0),(12,iv (a0.length:Int)),(13,iv v13),(23,.bool (!y5))]<|Dn ?_
       exact K2
  ·replace heq:=bif_false hb3 heq
   refine Cf (decide (v13<(a0.length:Int))) hb3<|Ad 3 [.c [1,1,1,1,0,0],.c [1,1,1,1,0,1],.c [1,1,1,1,1]]<|Kp [1,5] [(1,iv a1),(5,iv v_sum5)] ?_
   exact he1 a1 v_sum5 heq
theorem cache_checkBlobs_c {w0:World} {H:Hp} {F:List Ch} {a0:List Blob} {Aa0:Option Addr} {na0:Nat} {ca0:Nat} {a1:Int} {r:Int} (hra0:Rw kBlob H F Aa0 a0) (hca0:na0≤ca0) (hna0:na0=a0.length) (heq:cache_checkBlobs.f a0 a1=some r):CallsH Tryd.prog 16 #[.slice Aa0 na0 ca0,iv a1] H w0 (F) (S16 F H r):=by
 refine calls_of_runH (F:=C16) Tryd.func16 (by kernel_rfl) Tryd.ntmps16 (args:=[.slice Aa0 na0 ca0,iv a1]) (by kernel_rfl) ?_
 subst hna0
 unfold cache_checkBlobs.f at heq
 refine Ra 1 [0] [.c [1]]<|Rd 1 [0,1] [(0,.slice Aa0 a0.length ca0),(1,iv a1)]<|Ra 2 [1,0,0] [.c [1,0,1],.c [1,1]]<|Rd 3 [0,1,10] [(0,.slice Aa0 a0.length ca0),(1,iv a1),(10,.bool (decide (3000<(a0.length:Int))))] ?_
 rcases bool_cases (decide (3000<(a0.length:Int))) with hb1 | hb1
 ·replace heq:=bif_true hb1 heq
  refine Ct (decide (3000<(a0.length:Int))) hb1<|Ra 1 [1,0,1,0,0] [.c [1,0,1,0,1],.c [1,1]]<|Rd 1 [4] [(4,iv 2)] ?_
  obtain rfl:=Option.some.inj heq
  exact RunH.done (by kernel_rfl) Tryd.func16 (v:=iv 2) (by kernel_rfl) ⟨rfl,rfl,rfl⟩
 ·replace heq:=bif_false hb1 heq
  refine Cf (decide (3000<(a0.length:Int))) hb1<|Ra 2 [1,1,0] [.c [1,1,1]]<|Rd 1 [0,1,5] [(0,.slice Aa0 a0.length ca0),(1,iv a1),(5,iv 0)]<|Ra 2 [1,1,1,0,0] [.c [1,1,1,0,1],.c [1,1,1,1]]<|Rd 3 [0,1,5,11,12,13] [(0,.slice Aa0 a0.length ca0),(1,iv a1),(5,iv 0),(11,.slice Aa0 a0.length ca0),(12,iv (a0.length:Int)),(13,iv 0)]<|Ad 2 [.c [1,1,1,0,1,0,0],.l [1,1,1,0,1,0,0],.b 0,.c [1,1,1,1]]<|Kp [0,1,5,11,12,13] [(0,.slice Aa0 a0.length ca0),(1,iv a1),(5,iv 0),(11,.slice Aa0 a0.length ca0),(12,iv (a0.length:Int)),(13,iv 0)] ?_
  exact ((cache_checkBlobs.l2_c (e1:=cache_checkBlobs.e1) (cache_checkBlobs.e1_c)) big) a0 _ _ a1 0 0 hra0 hca0 heq
noncomputable def C17:Ctx:={ P:=Tryd.prog,f:=17,N:=33,c:=bodyOf Tryd.f17 }
def S17 (F:List Ch) (H0:Hp) (r:Int) (v:Value) (H:Hp) (cs:List Ch):Prop:=H0=H∧v=iv r∧F=cs
theorem cache_checkDigests.e1_c {w0:World} {H:Hp} {F:List Ch} {r:Int}:cache_checkDigests.e1=some r→RunH C17 (S17 F H r) H w0 [.c [1,1,1,0],.c [1,1,1,1]] [] H (F):=by
 intro   heq
 unfold cache_checkDigests.e1 at heq
 refine Rr<|Rd 1 [4] [(4,iv 0)] ?_
 obtain rfl:=Option.some.inj heq
 exact RunH.done (by kernel_rfl) Tryd.func17 (v:=iv 0) (by kernel_rfl) ⟨rfl,rfl,rfl⟩
theorem cache_checkDigests.l2_c {w0:World} {H:Hp} {F:List Ch} {r:Int} (e1:Option Int)
  (he1:e1=some r→RunH C17 (S17 F H r) H w0 [.c [1,1,1,0],.c [1,1,1,1]] [] H (F)):∀ (k:Nat),∀ (a0:List ByteArray) (Aa0:Option Addr) (ca0:Nat) (v13:Int) ,Rw Kd.string H F Aa0 a0→a0.length≤ca0→cache_checkDigests.l2 e1 k a0 v13=some r→RunH C17 (S17 F H r) H w0 [.c [1,1,0,1,0,0],.l [1,1,0,1,0,0],.b 0,.c [1,1,1]] [(0,.slice Aa0 a0.length ca0),(11,.slice Aa0 a0.length ca0),(12,iv (a0.length:Int)),(13,iv v13)] H (F):=by
 intro k
 induction k with
 | zero=>intro a0 Aa0 ca0 v13 hra0 hca0 heq; exact nomatch (show (none:Option Int)=some r from heq)
 | succ k ihk =>
  intro a0 Aa0 ca0 v13 hra0 hca0 heq
  rw [cache_checkDigests.l2] at heq
  refine Ra 1 [1,1,0,1,0,0,0] [.c [1,1,0,1,0,0,1],.l [1,1,0,1,0,0],.b 0,.c [1,1,1]]<|Rd 1 [0,11,12,13,14] [(0,.slice Aa0 a0.length ca0),(11,.slice Aa0 a0.length ca0),(12,iv (a0.length:Int)),(13,iv v13),(14,.bool (decide (v13<(a0.length:Int))))]<|Ad 1 [.c [1,1,0,1,0,0,1,0],.c [1,1,0,1,0,0,1,1],.l [1,1,0,1,0,0],.b 0,.c [1,1,1]] ?_
  rcases bool_cases (decide (v13<(a0.length:Int))) with hb2 | hb2
  ·replace heq:=bif_true hb2 heq
   refine Ct (decide (v13<(a0.length:Int))) hb2<|Ra 4 [1,1,0,1,0,0,1,1,0,0,0] [.c [1,1,0,1,0,0,1,1,0,0,1],.b 1,.c [1,1,0,1,0,0,1,1,1],.l [1,1,0,1,0,0],.b 0,.c [1,1,1]] ?_
   obtain ⟨x1,hx1,heq⟩:=bind_some heq
   obtain ⟨ha1,cs1,hK1,hcc1⟩:=hra0.get hx1
   obtain rfl:cs1=[.string x1]:=hK1
   refine Rw' 5 [0,5,6,11,12,13] [.string x1] [.need (Aa0=some (adr Aa0)∧(0:Int)≤v13∧v13<((a0.length:Nat):Int)),.load ((adr Aa0).add (v13.toNat*1)) (.string x1)] [(0,.slice Aa0 a0.length ca0),(5,iv v13),(6,.string x1),(11,.slice Aa0 a0.length ca0),(12,iv (a0.length:Int)),(13,iv v13)] (fun w hh=>⟨⟨ha1,(at?_some hx1).1,(at?_some hx1).2.1⟩,(hcc1 _ _ (hh.drop 0) 0 _ rfl)⟩)<|Ra 2 [1,1,0,1,0,0,1,1,0,0,1,0,0] [.c [1,1,0,1,0,0,1,1,0,0,1,0,1],.c [1,1,0,1,0,0,1,1,0,0,1,1],.b 1,.c [1,1,0,1,0,0,1,1,1],.l [1,1,0,1,0,0],.b 0,.c [1,1,1]]<|Rk 1 [0,5,6,11,12,13,18] [(0,.slice Aa0 a0.length ca0),(5,iv v13),(6,.string x1),(11,.slice Aa0 a0.length ca0),(12,iv (a0.length:Int)),(13,iv v13),(18,.string x1)] ?_
   obtain ⟨y1,hy1,heq⟩:=bind_some heq
   refine RgH.does (DoesH.call (d:=19) (g:=8) (args:=#[.string x1]) (by kernel_rfl) (blob_IsDigest_c (a0:=x1)  hy1)) ?_
   rintro _ _ _ _ ⟨_,rfl,rfl,rfl,rfl⟩
   refine Rd 3 [0,5,6,11,12,13,20] [(0,.slice Aa0 a0.length ca0),(5,iv v13),(6,.string x1),(11,.slice Aa0 a0.length ca0),(12,iv (a0.length:Int)),(13,iv v13),(20,.bool (!y1))] ?_
   rcases bool_cases (!y1) with hb3 | hb3
   ·replace heq:=bif_true hb3 heq
    refine Ct (!y1) hb3<|Ra 1 [1,1,0,1,0,0,1,1,0,0,1,0,1,0,0] [.c [1,1,0,1,0,0,1,1,0,0,1,0,1,0,1],.c [1,1,0,1,0,0,1,1,0,0,1,1],.b 1,.c [1,1,0,1,0,0,1,1,1],.l [1,1,0,1,0,0],.b 0,.c [1,1,1]]<|Rd 1 [4] [(4,iv 3)] ?_
    obtain rfl:=Option.some.inj heq
    exact RunH.done (by kernel_rfl) Tryd.func17 (v:=iv 3) (by kernel_rfl) ⟨rfl,rfl,rfl⟩
   ·replace heq:=bif_false hb3 heq
    refine Cf (!y1) hb3<|Ad 2 [.c [1,1,0,1,0,0,1,1,0,0,1,1,0],.c [1,1,0,1,0,0,1,1,0,0,1,1,1],.b 1,.c [1,1,0,1,0,0,1,1,1],.l [1,1,0,1,0,0],.b 0,.c [1,1,1]] ?_
    obtain ⟨t1,ht1,heq⟩:=bind_some heq
    have K1:RunH C17 (S17 F H r) H w0 [.c [1,1,0,1,0,0,1,1,0,0,1,1,1],.b 1,.c [1,1,0,1,0,0,1,1,1],.l [1,1,0,1,0,0],.b 0,.c [1,1,1]] [(0,.slice Aa0 a0.length ca0),(11,.slice Aa0 a0.length ca0),(12,iv (a0.length:Int)),(13,iv v13),(31,.bool t1)] H (F):=by
     rcases bool_cases (t1) with hb5 | hb5
     ·replace heq:=bif_true hb5 heq
      refine Ct t1 hb5<|Ra 1 [1,1,0,1,0,0,1,1,0,0,1,1,1,0,0] [.c [1,1,0,1,0,0,1,1,0,0,1,1,1,0,1],.b 1,.c [1,1,0,1,0,0,1,1,1],.l [1,1,0,1,0,0],.b 0,.c [1,1,1]]<|Rd 1 [4] [(4,iv 8)] ?_
      obtain rfl:=Option.some.inj heq
      exact RunH.done (by kernel_rfl) Tryd.func17 (v:=iv 8) (by kernel_rfl) ⟨rfl,rfl,rfl⟩
     ·replace heq:=bif_false hb5 heq
      refine Cf t1 hb5<|Ra 2 [1,1,0,1,0,0,1,1,1] [.l [1,1,0,1,0,0],.b 0,.c [1,1,1]]<|Rd 2 [0,11,12,13] [(0,.slice Aa0 a0.length ca0),(11,.slice Aa0 a0.length ca0),(12,iv (a0.length:Int)),(13,iv (w64 (v13+1)))]<|Ad 1 [.c [1,1,0,1,0,0],.l [1,1,0,1,0,0],.b 0,.c [1,1,1]]<|Kp [0,11,12,13] [(0,.slice Aa0 a0.length ca0),(11,.slice Aa0 a0.length ca0),(12,iv (a0.length:Int)),(13,iv (w64 (v13+1)))] ?_
      exact ihk a0 _ _ (w64 (v13+1)) hra0 hca0 heq
    replace heq:=ht1
    refine Rr<|Rk 3 [23,0,5,6,11,12,13] [(23,.bool (decide (0<v13))),(0,.slice Aa0 a0.length ca0),(5,iv v13),(6,.string x1),(11,.slice Aa0 a0.length ca0),(12,iv (a0.length:Int)),(13,iv v13)] ?_
    rcases bool_cases (decide (0<v13)) with hb4 | hb4
    ·replace heq:=bif_true hb4 heq
     refine RgH.val1 (v':=.bool true) (congrArg Value.bool hb4) ?_
     obtain ⟨x2,hx2,heq⟩:=bind_some heq
     obtain ⟨ha2,cs2,hK2,hcc2⟩:=hra0.get hx2
     obtain rfl:cs2=[.string x2]:=hK2
     refine Rv 11 [0,11,12,13,31] [.string x2] [.need (Aa0=some (adr Aa0)∧(0:Int)≤(w64 (v13 - 1))∧(w64 (v13 - 1))<((a0.length:Nat):Int)),.load ((adr Aa0).add ((w64 (v13 - 1)).toNat*1)) (.string x2)] [(0,.slice Aa0 a0.length ca0),(11,.slice Aa0 a0.length ca0),(12,iv (a0.length:Int)),(13,iv v13),(31,.bool (sLt x1 x2||sEq x1 x2))] (fun w hh=>⟨⟨ha2,(at?_some hx2).1,(at?_some hx2).2.1⟩,(hcc2 _ _ (hh.drop 0) 0 _ rfl)⟩) ?_
     obtain rfl:=Option.some.inj heq
     refine Kg [0,11,12,13,31] [(0,.slice Aa0 a0.length ca0),(11,.slice Aa0 a0.length ca0),(12,iv (a0.length:Int)),(13,iv v13),(31,.bool (sLt x1 x2||sEq x1 x2))]<|Dn ?_
     exact K1
    ·replace heq:=bif_false hb4 heq
     refine RgH.val1 (v':=.bool false) (congrArg Value.bool hb4) ?_
     refine Rk 11 [0,11,12,13,31] [(0,.slice Aa0 a0.length ca0),(11,.slice Aa0 a0.length ca0),(12,iv (a0.length:Int)),(13,iv v13),(31,.bool false)] ?_
     obtain rfl:=Option.some.inj heq
     refine Kg [0,11,12,13,31] [(0,.slice Aa0 a0.length ca0),(11,.slice Aa0 a0.length ca0),(12,iv (a0.length:Int)),(13,iv v13),(31,.bool false)]<|Dn ?_
     exact K1
  ·replace heq:=bif_false hb2 heq
   refine Cf (decide (v13<(a0.length:Int))) hb2<|Ad 2 [.c [1,1,1,0],.c [1,1,1,1]]<|Kp [] [] ?_
   exact he1 heq
theorem cache_checkDigests_c {w0:World} {H:Hp} {F:List Ch} {a0:List ByteArray} {Aa0:Option Addr} {na0:Nat} {ca0:Nat} {a1:Int} {r:Int} (hra0:Rw Kd.string H F Aa0 a0) (hca0:na0≤ca0) (hna0:na0=a0.length) (heq:cache_checkDigests.f a0 a1=some r):CallsH Tryd.prog 17 #[.slice Aa0 na0 ca0,iv a1] H w0 (F) (S17 F H r):=by
 refine calls_of_runH (F:=C17) Tryd.func17 (by kernel_rfl) Tryd.ntmps17 (args:=[.slice Aa0 na0 ca0,iv a1]) (by kernel_rfl) ?_
 subst hna0
 unfold cache_checkDigests.f at heq
 refine Ra 1 [0] [.c [1]]<|Rd 1 [0,1] [(0,.slice Aa0 a0.length ca0),(1,iv a1)]<|Ra 2 [1,0,0] [.c [1,0,1],.c [1,1]]<|Rd 4 [0,10] [(0,.slice Aa0 a0.length ca0),(10,.bool (decide (a1<(a0.length:Int))))] ?_
 rcases bool_cases (decide (a1<(a0.length:Int))) with hb1 | hb1
 ·replace heq:=bif_true hb1 heq
  refine Ct (decide (a1<(a0.length:Int))) hb1<|Ra 1 [1,0,1,0,0] [.c [1,0,1,0,1],.c [1,1]]<|Rd 1 [4] [(4,iv 2)] ?_
  obtain rfl:=Option.some.inj heq
  exact RunH.done (by kernel_rfl) Tryd.func17 (v:=iv 2) (by kernel_rfl) ⟨rfl,rfl,rfl⟩
 ·replace heq:=bif_false hb1 heq
  refine Cf (decide (a1<(a0.length:Int))) hb1<|Ra 3 [1,1,0,0] [.c [1,1,0,1],.c [1,1,1]]<|Rd 3 [0,11,12,13] [(0,.slice Aa0 a0.length ca0),(11,.slice Aa0 a0.length ca0),(12,iv (a0.length:Int)),(13,iv 0)]<|Ad 2 [.c [1,1,0,1,0,0],.l [1,1,0,1,0,0],.b 0,.c [1,1,1]]<|Kp [0,11,12,13] [(0,.slice Aa0 a0.length ca0),(11,.slice Aa0 a0.length ca0),(12,iv (a0.length:Int)),(13,iv 0)] ?_
  exact ((cache_checkDigests.l2_c (e1:=cache_checkDigests.e1) (cache_checkDigests.e1_c)) big) a0 _ _ 0 hra0 hca0 heq
noncomputable def C9:Ctx:={ P:=Tryd.prog,f:=9,N:=66,c:=bodyOf Tryd.f9 }
def S9 (F:List Ch) (H0:Hp) (r:Int) (v:Value) (H:Hp) (cs:List Ch):Prop:=H0=H∧v=iv r∧F=cs
theorem cache_CheckCache.e1_c {w0:World} {H:Hp} {F:List Ch} {r:Int}:cache_CheckCache.e1=some r→RunH C9 (S9 F H r) H w0 [.c [1,1,1,1,1,0],.c [1,1,1,1,1,1]] [] H (F):=by
 intro   heq
 unfold cache_CheckCache.e1 at heq
 refine Rr<|Rd 1 [2] [(2,iv 0)] ?_
 obtain rfl:=Option.some.inj heq
 exact RunH.done (by kernel_rfl) Tryd.func9 (v:=iv 0) (by kernel_rfl) ⟨rfl,rfl,rfl⟩
theorem cache_CheckCache.l2_c {w0:World} {H:Hp} {F:List Ch} {r:Int} (e1:Option Int)
  (he1:e1=some r→RunH C9 (S9 F H r) H w0 [.c [1,1,1,1,1,0],.c [1,1,1,1,1,1]] [] H (F)):∀ (k:Nat),∀ (a0:Cache) (Aa0_2:Option Addr) (ca0_2:Nat) (Aa0_3:Option Addr) (ca0_3:Nat) (g1:Nat) (v32:Int) ,Rw kBlob H F Aa0_2 a0.Blobs→a0.Blobs.length≤ca0_2→Rw kEntry H F Aa0_3 a0.Entries→a0.Entries.length≤ca0_3→cache_CheckCache.l2 e1 k a0 v32=some r→RunH C9 (S9 F H r) H w0 [.c [1,1,1,1,0,1,0,0],.l [1,1,1,1,0,1,0,0],.b 0,.c [1,1,1,1,1]] [(1,pg g1 0),(30,.slice Aa0_3 a0.Entries.length ca0_3),(31,iv (a0.Entries.length:Int)),(32,iv v32)] H ((some (g1,.cells #[iv a0.Room,iv a0.Lease,.slice Aa0_2 a0.Blobs.length ca0_2,.slice Aa0_3 a0.Entries.length ca0_3] 25 (0,0)))::F):=by
 intro k
 induction k with
 | zero=>intro a0 Aa0_2 ca0_2 Aa0_3 ca0_3 g1 v32 hra0_2 hca0_2 hra0_3 hca0_3 heq; exact nomatch (show (none:Option Int)=some r from heq)
 | succ k ihk =>
  intro a0 Aa0_2 ca0_2 Aa0_3 ca0_3 g1 v32 hra0_2 hca0_2 hra0_3 hca0_3 heq
  rw [cache_CheckCache.l2] at heq
  refine Ra 1 [1,1,1,1,0,1,0,0,0] [.c [1,1,1,1,0,1,0,0,1],.l [1,1,1,1,0,1,0,0],.b 0,.c [1,1,1,1,1]]<|Rd 1 [1,30,31,32,33] [(1,pg g1 0),(30,.slice Aa0_3 a0.Entries.length ca0_3),(31,iv (a0.Entries.length:Int)),(32,iv v32),(33,.bool (decide (v32<(a0.Entries.length:Int))))]<|Ad 1 [.c [1,1,1,1,0,1,0,0,1,0],.c [1,1,1,1,0,1,0,0,1,1],.l [1,1,1,1,0,1,0,0],.b 0,.c [1,1,1,1,1]] ?_
  rcases bool_cases (decide (v32<(a0.Entries.length:Int))) with hb5 | hb5
  ·replace heq:=bif_true hb5 heq
   refine Ct (decide (v32<(a0.Entries.length:Int))) hb5<|Ra 4 [1,1,1,1,0,1,0,0,1,1,0,0,0] [.c [1,1,1,1,0,1,0,0,1,1,0,0,1],.b 1,.c [1,1,1,1,0,1,0,0,1,1,1],.l [1,1,1,1,0,1,0,0],.b 0,.c [1,1,1,1,1]] ?_
   obtain ⟨x1,hx1,heq⟩:=bind_some heq
   obtain ⟨ha1,cs1,hK1,hcc1⟩:=hra0_3.get hx1
   obtain ⟨A1,c1,rfl,hc1,hr1⟩:=kEntry_open hK1
   refine Rv 3 [1,30,31,32,34,36] [.string x1.Key,.slice A1 x1.Refs.length c1,iv x1.Used] [.need (Aa0_3=some (adr Aa0_3)∧(0:Int)≤v32∧v32<((a0.Entries.length:Nat):Int)),.load (((adr Aa0_3).add (v32.toNat*3)).add 0) (.string x1.Key),.load (((adr Aa0_3).add (v32.toNat*3)).add 1) (.slice A1 x1.Refs.length c1),.load (((adr Aa0_3).add (v32.toNat*3)).add 2) (iv x1.Used)] [(1,pg g1 0),(30,.slice Aa0_3 a0.Entries.length ca0_3),(31,iv (a0.Entries.length:Int)),(32,iv v32),(34,iv v32),(36,.agg #[.string x1.Key,.slice A1 x1.Refs.length c1,iv x1.Used])] (fun w hh=>⟨⟨ha1,(at?_some hx1).1,(at?_some hx1).2.1⟩,(hcc1 _ _ (hh.drop 1) 0 _ rfl),(hcc1 _ _ (hh.drop 1) 1 _ rfl),(hcc1 _ _ (hh.drop 1) 2 _ rfl)⟩) ?_
   refine RgH.does (DoesH.new (d:=5) (v:=fun g=>.pointer (some ⟨g,0,none⟩)) (o:=fun g=>.cells #[.string ByteArray.empty,.slice none 0 0,iv 0] 57 (0,0)) (fun g=>by kernel_rfl)) ?_
   rintro _ _ _ _ ⟨g2,rfl,rfl,rfl⟩
   refine Rk 5 [1,4,5,30,31,32,36] [(1,pg g1 0),(4,iv v32),(5,pg g2 0),(30,.slice Aa0_3 a0.Entries.length ca0_3),(31,iv (a0.Entries.length:Int)),(32,iv v32),(36,.agg #[.string x1.Key,.slice A1 x1.Refs.length c1,iv x1.Used])] ?_
   refine RgH.does (DoesH.store (k:=0) (g:=g2) (off:=0) (v:=.agg #[.string x1.Key,.slice A1 x1.Refs.length c1,iv x1.Used]) (cells':=#[.string x1.Key,.slice A1 x1.Refs.length c1,iv x1.Used]) (by kernel_rfl) rfl (by kernel_rfl) (by kernel_rfl)) ?_
   rintro _ _ _ _ ⟨rfl,rfl,rfl⟩
   refine Dn<|Ra 2 [1,1,1,1,0,1,0,0,1,1,0,0,1,0,0] [.c [1,1,1,1,0,1,0,0,1,1,0,0,1,0,1],.c [1,1,1,1,0,1,0,0,1,1,0,0,1,1],.b 1,.c [1,1,1,1,0,1,0,0,1,1,1],.l [1,1,1,1,0,1,0,0],.b 0,.c [1,1,1,1,1]]<|Rv 2 [1,4,5,30,31,32,38] [.string x1.Key] [.load ⟨g2,0,none⟩ (.string x1.Key)] [(1,pg g1 0),(4,iv v32),(5,pg g2 0),(30,.slice Aa0_3 a0.Entries.length ca0_3),(31,iv (a0.Entries.length:Int)),(32,iv v32),(38,.string x1.Key)] (fun w hh=>(hh.box 0 rfl rfl)) ?_
   obtain ⟨y4,hy4,heq⟩:=bind_some heq
   refine RgH.does (DoesH.call (d:=39) (g:=8) (args:=#[.string x1.Key]) (by kernel_rfl) (blob_IsDigest_c (a0:=x1.Key)  hy4)) ?_
   rintro _ _ _ _ ⟨_,rfl,rfl,rfl,rfl⟩
   refine Rd 4 [1,4,5,30,31,32,40] [(1,pg g1 0),(4,iv v32),(5,pg g2 0),(30,.slice Aa0_3 a0.Entries.length ca0_3),(31,iv (a0.Entries.length:Int)),(32,iv v32),(40,.bool (!y4))] ?_
   rcases bool_cases (!y4) with hb6 | hb6
   ·replace heq:=bif_true hb6 heq
    refine Ct (!y4) hb6<|Ra 1 [1,1,1,1,0,1,0,0,1,1,0,0,1,0,1,0,0] [.c [1,1,1,1,0,1,0,0,1,1,0,0,1,0,1,0,1],.c [1,1,1,1,0,1,0,0,1,1,0,0,1,1],.b 1,.c [1,1,1,1,0,1,0,0,1,1,1],.l [1,1,1,1,0,1,0,0],.b 0,.c [1,1,1,1,1]]<|Rd 1 [2] [(2,iv 3)] ?_
    obtain rfl:=Option.some.inj heq
    refine RunH.pick 2 [] (cs':=F) (by kernel_rfl) rfl ?_
    exact RunH.done (by kernel_rfl) Tryd.func9 (v:=iv 3) (by kernel_rfl) ⟨rfl,rfl,rfl⟩
   ·replace heq:=bif_false hb6 heq
    refine Cf (!y4) hb6<|Ra 3 [1,1,1,1,0,1,0,0,1,1,0,0,1,1,0,0] [.c [1,1,1,1,0,1,0,0,1,1,0,0,1,1,0,1],.c [1,1,1,1,0,1,0,0,1,1,0,0,1,1,1],.b 1,.c [1,1,1,1,0,1,0,0,1,1,1],.l [1,1,1,1,0,1,0,0],.b 0,.c [1,1,1,1,1]]<|Rv 2 [1,4,5,30,31,32,42] [.slice A1 x1.Refs.length c1] [.load ⟨g2,1,none⟩ (.slice A1 x1.Refs.length c1)] [(1,pg g1 0),(4,iv v32),(5,pg g2 0),(30,.slice Aa0_3 a0.Entries.length ca0_3),(31,iv (a0.Entries.length:Int)),(32,iv v32),(42,.slice A1 x1.Refs.length c1)] (fun w hh=>(hh.box 0 rfl rfl)) ?_
    obtain ⟨y5,hy5,heq⟩:=bind_some heq
    refine RgH.does (DoesH.call (d:=43) (g:=17) (args:=#[.slice A1 x1.Refs.length c1,iv 200]) (by kernel_rfl) (cache_checkDigests_c (a0:=x1.Refs) (a1:=200) (Rw.of hr1) hc1 rfl hy5)) ?_
    rintro _ _ _ _ ⟨_,rfl,rfl,rfl,rfl⟩
    refine Rd 4 [1,4,5,6,30,31,32] [(1,pg g1 0),(4,iv v32),(5,pg g2 0),(6,iv y5),(30,.slice Aa0_3 a0.Entries.length ca0_3),(31,iv (a0.Entries.length:Int)),(32,iv v32)]<|Ra 1 [1,1,1,1,0,1,0,0,1,1,0,0,1,1,0,1,0] [.c [1,1,1,1,0,1,0,0,1,1,0,0,1,1,0,1,1],.c [1,1,1,1,0,1,0,0,1,1,0,0,1,1,1],.b 1,.c [1,1,1,1,0,1,0,0,1,1,1],.l [1,1,1,1,0,1,0,0],.b 0,.c [1,1,1,1,1]]<|Rd 2 [1,4,5,6,30,31,32,45] [(1,pg g1 0),(4,iv v32),(5,pg g2 0),(6,iv y5),(30,.slice Aa0_3 a0.Entries.length ca0_3),(31,iv (a0.Entries.length:Int)),(32,iv v32),(45,.bool (y5 != 0))] ?_
    rcases bool_cases (y5 != 0) with hb7 | hb7
    ·replace heq:=bif_true hb7 heq
     refine Ct (y5 != 0) hb7<|Ra 1 [1,1,1,1,0,1,0,0,1,1,0,0,1,1,0,1,1,0,0] [.c [1,1,1,1,0,1,0,0,1,1,0,0,1,1,0,1,1,0,1],.c [1,1,1,1,0,1,0,0,1,1,0,0,1,1,1],.b 1,.c [1,1,1,1,0,1,0,0,1,1,1],.l [1,1,1,1,0,1,0,0],.b 0,.c [1,1,1,1,1]]<|Rd 2 [2] [(2,iv y5)] ?_
     obtain rfl:=Option.some.inj heq
     refine RunH.pick 2 [] (cs':=F) (by kernel_rfl) rfl ?_
     exact RunH.done (by kernel_rfl) Tryd.func9 (v:=iv y5) (by kernel_rfl) ⟨rfl,rfl,rfl⟩
    ·replace heq:=bif_false hb7 heq
     refine Cf (y5 != 0) hb7<|Ra 3 [1,1,1,1,0,1,0,0,1,1,0,0,1,1,1,0,0] [.c [1,1,1,1,0,1,0,0,1,1,0,0,1,1,1,0,1],.c [1,1,1,1,0,1,0,0,1,1,0,0,1,1,1,1],.b 1,.c [1,1,1,1,0,1,0,0,1,1,1],.l [1,1,1,1,0,1,0,0],.b 0,.c [1,1,1,1,1]]<|Rv 2 [1,4,5,30,31,32,48] [iv x1.Used] [.load ⟨g2,2,none⟩ (iv x1.Used)] [(1,pg g1 0),(4,iv v32),(5,pg g2 0),(30,.slice Aa0_3 a0.Entries.length ca0_3),(31,iv (a0.Entries.length:Int)),(32,iv v32),(48,iv x1.Used)] (fun w hh=>(hh.box 0 rfl rfl)) ?_
     obtain ⟨y6,hy6,heq⟩:=bind_some heq
     refine RgH.does (DoesH.call (d:=49) (g:=18) (args:=#[iv x1.Used]) (by kernel_rfl) (cache_isMoment_c (a0:=x1.Used)  hy6)) ?_
     rintro _ _ _ _ ⟨_,rfl,rfl,rfl,rfl⟩
     refine Rd 4 [1,4,5,30,31,32,50] [(1,pg g1 0),(4,iv v32),(5,pg g2 0),(30,.slice Aa0_3 a0.Entries.length ca0_3),(31,iv (a0.Entries.length:Int)),(32,iv v32),(50,.bool (!y6))] ?_
     rcases bool_cases (!y6) with hb8 | hb8
     ·replace heq:=bif_true hb8 heq
      refine Ct (!y6) hb8<|Ra 1 [1,1,1,1,0,1,0,0,1,1,0,0,1,1,1,0,1,0,0] [.c [1,1,1,1,0,1,0,0,1,1,0,0,1,1,1,0,1,0,1],.c [1,1,1,1,0,1,0,0,1,1,0,0,1,1,1,1],.b 1,.c [1,1,1,1,0,1,0,0,1,1,1],.l [1,1,1,1,0,1,0,0],.b 0,.c [1,1,1,1,1]]<|Rd 1 [2] [(2,iv 1)] ?_
      obtain rfl:=Option.some.inj heq
      refine RunH.pick 2 [] (cs':=F) (by kernel_rfl) rfl ?_
      exact RunH.done (by kernel_rfl) Tryd.func9 (v:=iv 1) (by kernel_rfl) ⟨rfl,rfl,rfl⟩
     ·replace heq:=bif_false hb8 heq
      refine Cf (!y6) hb8<|Ad 2 [.c [1,1,1,1,0,1,0,0,1,1,0,0,1,1,1,1,0],.c [1,1,1,1,0,1,0,0,1,1,0,0,1,1,1,1,1],.b 1,.c [1,1,1,1,0,1,0,0,1,1,1],.l [1,1,1,1,0,1,0,0],.b 0,.c [1,1,1,1,1]] ?_
      obtain ⟨t2,ht2,heq⟩:=bind_some heq
      have K4:RunH C9 (S9 F H r) H w0 [.c [1,1,1,1,0,1,0,0,1,1,0,0,1,1,1,1,1],.b 1,.c [1,1,1,1,0,1,0,0,1,1,1],.l [1,1,1,1,0,1,0,0],.b 0,.c [1,1,1,1,1]] [(1,pg g1 0),(30,.slice Aa0_3 a0.Entries.length ca0_3),(31,iv (a0.Entries.length:Int)),(32,iv v32),(64,.bool t2)] H ((some (g1,.cells #[iv a0.Room,iv a0.Lease,.slice Aa0_2 a0.Blobs.length ca0_2,.slice Aa0_3 a0.Entries.length ca0_3] 25 (0,0)))::F):=by
       rcases bool_cases (t2) with hb10 | hb10
       ·replace heq:=bif_true hb10 heq
        refine Ct t2 hb10<|Ra 1 [1,1,1,1,0,1,0,0,1,1,0,0,1,1,1,1,1,0,0] [.c [1,1,1,1,0,1,0,0,1,1,0,0,1,1,1,1,1,0,1],.b 1,.c [1,1,1,1,0,1,0,0,1,1,1],.l [1,1,1,1,0,1,0,0],.b 0,.c [1,1,1,1,1]]<|Rd 1 [2] [(2,iv 8)] ?_
        obtain rfl:=Option.some.inj heq
        refine RunH.pick 1 [] (cs':=F) (by kernel_rfl) rfl ?_
        exact RunH.done (by kernel_rfl) Tryd.func9 (v:=iv 8) (by kernel_rfl) ⟨rfl,rfl,rfl⟩
       ·replace heq:=bif_false hb10 heq
        refine Cf t2 hb10<|Ra 2 [1,1,1,1,0,1,0,0,1,1,1] [.l [1,1,1,1,0,1,0,0],.b 0,.c [1,1,1,1,1]]<|Rd 2 [1,30,31,32] [(1,pg g1 0),(30,.slice Aa0_3 a0.Entries.length ca0_3),(31,iv (a0.Entries.length:Int)),(32,iv (w64 (v32+1)))]<|Ad 1 [.c [1,1,1,1,0,1,0,0],.l [1,1,1,1,0,1,0,0],.b 0,.c [1,1,1,1,1]]<|Kp [1,30,31,32] [(1,pg g1 0),(30,.slice Aa0_3 a0.Entries.length ca0_3),(31,iv (a0.Entries.length:Int)),(32,iv (w64 (v32+1)))] ?_
        exact ihk a0 _ _ _ _ _ (w64 (v32+1)) hra0_2 hca0_2 hra0_3 hca0_3 heq
      replace heq:=ht2
      refine Kp [1,4,5,30,31,32] [(1,pg g1 0),(4,iv v32),(5,pg g2 0),(30,.slice Aa0_3 a0.Entries.length ca0_3),(31,iv (a0.Entries.length:Int)),(32,iv v32)] ?_
      refine RunH.draw (fun w=>Heap H w0 w ((some (g2,.cells #[.string x1.Key,.slice A1 x1.Refs.length c1,iv x1.Used] 57 (0,0)))::(some (g1,.cells #[iv a0.Room,iv a0.Lease,.slice Aa0_2 a0.Blobs.length ca0_2,.slice Aa0_3 a0.Entries.length ca0_3] 25 (0,0)))::F)) (fun w=>Heap H w0 w ((some (g2,.cells #[.string x1.Key,.slice A1 x1.Refs.length c1,iv x1.Used] 57 (0,0)))::(some (g1,.cells #[iv a0.Room,iv a0.Lease,.slice Aa0_2 a0.Blobs.length ca0_2,.slice Aa0_3 a0.Entries.length ca0_3] 25 (0,0)))::F)) [3,3,3,3,3,3,3,3,3,3,3,3,3,3] (n:=14) (ls:=[false,false,false,false,false,false,false,false,false,false,false,false,false,false]) (by kernel_rfl) (by kernel_rfl) (by kernel_rfl) rfl ?_
      refine Dk [0,1,2] 11 (nb 14 7) [] [] [53,1,4,5,30,31,32] [(53,.bool (decide (0<v32))),(1,pg g1 0),(4,iv v32),(5,pg g2 0),(30,.slice Aa0_3 a0.Entries.length ca0_3),(31,iv (a0.Entries.length:Int)),(32,iv v32)] (Pk 2 [0,1]) (Pk 2 [0,1]) (fun _ _=>trivial) ?_
      rcases bool_cases (decide (0<v32)) with hb9 | hb9
      ·replace heq:=bif_true hb9 heq
       refine DrH.val1 (v':=.bool true) (congrArg Value.bool hb9) ?_
       obtain ⟨x2,hx2,heq⟩:=bind_some heq
       obtain ⟨ha2,cs2,hK2,hcc2⟩:=hra0_3.get hx2
       obtain ⟨A2,c2,rfl,hc2,hr2⟩:=kEntry_open hK2
       refine Dk [3,4,5,6,7,8,9,10,11,12,13] 0 (nb 14 16383) [.string x1.Key,.slice Aa0_3 a0.Entries.length ca0_3,.string x2.Key] [.load ⟨g2,0,none⟩ (.string x1.Key),.load ⟨g1,3,none⟩ (.slice Aa0_3 a0.Entries.length ca0_3),.need (Aa0_3=some (adr Aa0_3)∧(0:Int)≤(w64 (v32 - 1))∧(w64 (v32 - 1))<((a0.Entries.length:Nat):Int)),.load (((adr Aa0_3).add ((w64 (v32 - 1)).toNat*3)).add 0) (.string x2.Key)] [1,30,31,32,64] [(1,pg g1 0),(30,.slice Aa0_3 a0.Entries.length ca0_3),(31,iv (a0.Entries.length:Int)),(32,iv v32),(64,.bool (sLt x1.Key x2.Key||sEq x1.Key x2.Key))] (Pk 2 [0,1]) (Pk 2 [0,1]) (fun w hh=>⟨(hh.box 0 rfl rfl),(hh.box 1 rfl rfl),⟨ha2,(at?_some hx2).1,(at?_some hx2).2.1⟩,(hcc2 _ _ (hh.drop 2) 0 _ rfl)⟩) ?_
       obtain rfl:=Option.some.inj heq
       refine Kr [1,30,31,32,64] [(1,pg g1 0),(30,.slice Aa0_3 a0.Entries.length ca0_3),(31,iv (a0.Entries.length:Int)),(32,iv v32),(64,.bool (sLt x1.Key x2.Key||sEq x1.Key x2.Key))] ?_
       refine DrH.pick 2 [1] (cs':=(some (g1,.cells #[iv a0.Room,iv a0.Lease,.slice Aa0_2 a0.Blobs.length ca0_2,.slice Aa0_3 a0.Entries.length ca0_3] 25 (0,0)))::F) (by kernel_rfl) rfl ?_
       refine DrH.done (by kernel_rfl) ?_
       exact K4
      ·replace heq:=bif_false hb9 heq
       refine DrH.val1 (v':=.bool false) (congrArg Value.bool hb9) ?_
       refine Dk [3,4,5,6,7,8,9,10,11,12,13] 0 (nb 14 16383) [] [] [1,30,31,32,64] [(1,pg g1 0),(30,.slice Aa0_3 a0.Entries.length ca0_3),(31,iv (a0.Entries.length:Int)),(32,iv v32),(64,.bool false)] (Pk 2 [0,1]) (Pk 2 [0,1]) (fun _ _=>trivial) ?_
       obtain rfl:=Option.some.inj heq
       refine Kr [1,30,31,32,64] [(1,pg g1 0),(30,.slice Aa0_3 a0.Entries.length ca0_3),(31,iv (a0.Entries.length:Int)),(32,iv v32),(64,.bool false)] ?_
       refine DrH.pick 2 [1] (cs':=(some (g1,.cells #[iv a0.Room,iv a0.Lease,.slice Aa0_2 a0.Blobs.length ca0_2,.slice Aa0_3 a0.Entries.length ca0_3] 25 (0,0)))::F) (by kernel_rfl) rfl ?_
       refine DrH.done (by kernel_rfl) ?_
       exact K4
  ·replace heq:=bif_false hb5 heq
   refine Cf (decide (v32<(a0.Entries.length:Int))) hb5<|Ad 2 [.c [1,1,1,1,1,0],.c [1,1,1,1,1,1]]<|Kp [] [] ?_
   refine RunH.pick 1 [] (cs':=F) (by kernel_rfl) rfl ?_
   exact he1 heq
theorem cache_CheckCache_c {w0:World} {H:Hp} {F:List Ch} {a0:Cache} {Aa0_2:Option Addr} {na0_2:Nat} {ca0_2:Nat} {Aa0_3:Option Addr} {na0_3:Nat} {ca0_3:Nat} {r:Int} (hra0_2:Rw kBlob H F Aa0_2 a0.Blobs) (hca0_2:na0_2≤ca0_2) (hna0_2:na0_2=a0.Blobs.length) (hra0_3:Rw kEntry H F Aa0_3 a0.Entries) (hca0_3:na0_3≤ca0_3) (hna0_3:na0_3=a0.Entries.length) (heq:cache_CheckCache.f a0=some r):CallsH Tryd.prog 9 #[.agg #[iv a0.Room,iv a0.Lease,.slice Aa0_2 na0_2 ca0_2,.slice Aa0_3 na0_3 ca0_3]] H w0 (F) (S9 F H r):=by
 refine calls_of_runH (F:=C9) Tryd.func9 (by kernel_rfl) Tryd.ntmps9 (args:=[.agg #[iv a0.Room,iv a0.Lease,.slice Aa0_2 na0_2 ca0_2,.slice Aa0_3 na0_3 ca0_3]]) (by kernel_rfl) ?_
 subst hna0_2
 subst hna0_3
 unfold cache_CheckCache.f at heq
 refine Ra 1 [0] [.c [1]] ?_
 refine RgH.does (DoesH.new (d:=1) (v:=fun g=>.pointer (some ⟨g,0,none⟩)) (o:=fun g=>.cells #[iv a0.Room,iv a0.Lease,.slice Aa0_2 a0.Blobs.length ca0_2,.slice Aa0_3 a0.Entries.length ca0_3] 25 (0,0)) (fun g=>by kernel_rfl)) ?_
 rintro _ _ _ _ ⟨g1,rfl,rfl,rfl⟩
 refine Rd 2 [1] [(1,pg g1 0)]<|Ad 2 [.c [1,0,0],.c [1,0,1],.c [1,1]] ?_
 obtain ⟨t1,ht1,heq⟩:=bind_some heq
 have K2:RunH C9 (S9 F H r) H w0 [.c [1,0,1],.c [1,1]] [(1,pg g1 0),(16,.bool t1)] H ((some (g1,.cells #[iv a0.Room,iv a0.Lease,.slice Aa0_2 a0.Blobs.length ca0_2,.slice Aa0_3 a0.Entries.length ca0_3] 25 (0,0)))::F):=by
  rcases bool_cases (t1) with hb2 | hb2
  ·replace heq:=bif_true hb2 heq
   refine Ct t1 hb2<|Ra 1 [1,0,1,0,0] [.c [1,0,1,0,1],.c [1,1]]<|Rd 1 [2] [(2,iv 1)] ?_
   obtain rfl:=Option.some.inj heq
   refine RunH.pick 1 [] (cs':=F) (by kernel_rfl) rfl ?_
   exact RunH.done (by kernel_rfl) Tryd.func9 (v:=iv 1) (by kernel_rfl) ⟨rfl,rfl,rfl⟩
  ·replace heq:=bif_false hb2 heq
   refine Cf t1 hb2<|Ra 3 [1,1,0,0] [.c [1,1,0,1],.c [1,1,1]]<|Rv 4 [1,18,20] [.slice Aa0_2 a0.Blobs.length ca0_2,iv a0.Room] [.load ⟨g1,2,none⟩ (.slice Aa0_2 a0.Blobs.length ca0_2),.load ⟨g1,0,none⟩ (iv a0.Room)] [(1,pg g1 0),(18,.slice Aa0_2 a0.Blobs.length ca0_2),(20,iv a0.Room)] (fun w hh=>⟨(hh.box 0 rfl rfl),(hh.box 0 rfl rfl)⟩) ?_
   obtain ⟨y3,hy3,heq⟩:=bind_some heq
   refine RgH.does (DoesH.call (d:=21) (g:=16) (args:=#[.slice Aa0_2 a0.Blobs.length ca0_2,iv a0.Room]) (by kernel_rfl) (cache_checkBlobs_c (a0:=a0.Blobs) (a1:=a0.Room) (hra0_2.wk (fun _ h=>(.tail _ h))) hca0_2 rfl hy3)) ?_
   rintro _ _ _ _ ⟨_,rfl,rfl,rfl,rfl⟩
   refine Rd 6 [1,3] [(1,pg g1 0),(3,iv y3)]<|Ra 1 [1,1,0,1,0] [.c [1,1,0,1,1],.c [1,1,1]]<|Rd 2 [1,3,23] [(1,pg g1 0),(3,iv y3),(23,.bool (y3 != 0))] ?_
   rcases bool_cases (y3 != 0) with hb3 | hb3
   ·replace heq:=bif_true hb3 heq
    refine Ct (y3 != 0) hb3<|Ra 1 [1,1,0,1,1,0,0] [.c [1,1,0,1,1,0,1],.c [1,1,1]]<|Rd 2 [2] [(2,iv y3)] ?_
    obtain rfl:=Option.some.inj heq
    refine RunH.pick 1 [] (cs':=F) (by kernel_rfl) rfl ?_
    exact RunH.done (by kernel_rfl) Tryd.func9 (v:=iv y3) (by kernel_rfl) ⟨rfl,rfl,rfl⟩
   ·replace heq:=bif_false hb3 heq
    refine Cf (y3 != 0) hb3<|Ra 3 [1,1,1,0,0] [.c [1,1,1,0,1],.c [1,1,1,1]]<|Rw' 4 [1,28] [.slice Aa0_3 a0.Entries.length ca0_3] [.load ⟨g1,3,none⟩ (.slice Aa0_3 a0.Entries.length ca0_3)] [(1,pg g1 0),(28,.bool (decide (1000<(a0.Entries.length:Int))))] (fun w hh=>(hh.box 0 rfl rfl)) ?_
    rcases bool_cases (decide (1000<(a0.Entries.length:Int))) with hb4 | hb4
    ·replace heq:=bif_true hb4 heq
     refine Ct (decide (1000<(a0.Entries.length:Int))) hb4<|Ra 1 [1,1,1,0,1,0,0] [.c [1,1,1,0,1,0,1],.c [1,1,1,1]]<|Rd 1 [2] [(2,iv 2)] ?_
     obtain rfl:=Option.some.inj heq
     refine RunH.pick 1 [] (cs':=F) (by kernel_rfl) rfl ?_
     exact RunH.done (by kernel_rfl) Tryd.func9 (v:=iv 2) (by kernel_rfl) ⟨rfl,rfl,rfl⟩
    ·replace heq:=bif_false hb4 heq
     refine Cf (decide (1000<(a0.Entries.length:Int))) hb4<|Ra 3 [1,1,1,1,0,0] [.c [1,1,1,1,0,1],.c [1,1,1,1,1]]<|Rw' 4 [1,30,31,32] [.slice Aa0_3 a0.Entries.length ca0_3] [.load ⟨g1,3,none⟩ (.slice Aa0_3 a0.Entries.length ca0_3)] [(1,pg g1 0),(30,.slice Aa0_3 a0.Entries.length ca0_3),(31,iv (a0.Entries.length:Int)),(32,iv 0)] (fun w hh=>(hh.box 0 rfl rfl))<|Ad 2 [.c [1,1,1,1,0,1,0,0],.l [1,1,1,1,0,1,0,0],.b 0,.c [1,1,1,1,1]]<|Kp [1,30,31,32] [(1,pg g1 0),(30,.slice Aa0_3 a0.Entries.length ca0_3),(31,iv (a0.Entries.length:Int)),(32,iv 0)] ?_
     exact ((cache_CheckCache.l2_c (e1:=cache_CheckCache.e1) (cache_CheckCache.e1_c)) big) a0 _ _ _ _ _ 0 hra0_2 hca0_2 hra0_3 hca0_3 heq
 replace heq:=ht1
 refine Rr<|Rv 2 [1,8] [iv a0.Room] [.load ⟨g1,0,none⟩ (iv a0.Room)] [(1,pg g1 0),(8,iv a0.Room)] (fun w hh=>(hh.box 0 rfl rfl)) ?_
 obtain ⟨y1,hy1,heq⟩:=bind_some heq
 refine RgH.does (DoesH.call (d:=9) (g:=15) (args:=#[iv a0.Room,iv 0,iv 1000000000]) (by kernel_rfl) (cache_within_c (a0:=a0.Room) (a1:=0) (a2:=1000000000)  hy1)) ?_
 rintro _ _ _ _ ⟨_,rfl,rfl,rfl,rfl⟩
 refine Rk 5 [11,1] [(11,.bool (!y1)),(1,pg g1 0)] ?_
 rcases bool_cases (!y1) with hb1 | hb1
 ·replace heq:=bif_true hb1 heq
  refine RgH.val1 (v':=.bool true) (congrArg Value.bool hb1) ?_
  refine Rk 10 [1,16] [(1,pg g1 0),(16,.bool true)] ?_
  obtain rfl:=Option.some.inj heq
  refine Kg [1,16] [(1,pg g1 0),(16,.bool true)]<|Dn ?_
  exact K2
 ·replace heq:=bif_false hb1 heq
  refine RgH.val1 (v':=.bool false) (congrArg Value.bool hb1) ?_
  refine Rv 7 [1,11,13] [iv a0.Lease] [.load ⟨g1,1,none⟩ (iv a0.Lease)] [(1,pg g1 0),(11,.bool false),(13,iv a0.Lease)] (fun w hh=>(hh.box 0 rfl rfl)) ?_
  obtain ⟨y2,hy2,heq⟩:=bind_some heq
  refine RgH.does (DoesH.call (d:=14) (g:=15) (args:=#[iv a0.Lease,iv 0,iv 1000000]) (by kernel_rfl) (cache_within_c (a0:=a0.Lease) (a1:=0) (a2:=1000000)  hy2)) ?_
  rintro _ _ _ _ ⟨_,rfl,rfl,rfl,rfl⟩
  refine Rk 10 [1,16] [(1,pg g1 0),(16,.bool (!y2))] ?_
  obtain rfl:=Option.some.inj heq
  refine Kg [1,16] [(1,pg g1 0),(16,.bool (!y2))]<|Dn ?_
  exact K2
noncomputable def C19:Ctx:={ P:=Tryd.prog,f:=19,N:=8,c:=bodyOf Tryd.f19 }
def S19 (F:List Ch) (H0:Hp) (r:List Blob) (v:Value) (H:Hp) (cs:List Ch):Prop:=∃ (A0:Option Addr) (c0:Nat) (ch0:Ch),H0=H∧v=.slice A0 r.length c0∧ch0::F=cs∧SlOwn kBlob 29 H A0 c0 r ch0
theorem slices_Clone_Blob_c {w0:World} {H:Hp} {F:List Ch} {a0:List Blob} {Aa0:Option Addr} {na0 ca0:Nat} {r:List Blob} (hra0:Rw kBlob H F Aa0 a0) (hca0:na0≤ca0) (hna0:na0=a0.length) (heq:slices_Clone_Blob.f a0=some r):CallsH Tryd.prog 19 #[.slice Aa0 na0 ca0] H w0 F (S19 F H r):=by
 refine calls_of_runH (F:=C19) Tryd.func19 (by kernel_rfl) Tryd.ntmps19 (args:=[.slice Aa0 na0 ca0]) (by kernel_rfl) ?_
 subst hna0
 unfold slices_Clone_Blob.f at heq
 obtain ⟨hn,heq⟩:=guard?_some heq
 obtain rfl:=Option.some.inj heq
 refine Ra 1 [0] [.c [1]]<|Rd 1 [0] [(0,.slice Aa0 a0.length ca0)]<|Ra 2 [1,0,0] [.c [1,0,1],.c [1,1]] ?_
 cases Aa0 with
 | none =>
  have h0:a0=[]:=by
   cases a0 with
   | nil=>rfl
   | cons x xs=>obtain ⟨b,off,cs,e,fr,hA,_⟩:=hra0 (by simp); cases hA
  subst h0
  refine Rd 2 [4] [(4,.bool true)]<|Ct true rfl<|Ra 1 [1,0,1,0,0] [.c [1,0,1,0,1],.c [1,1]]<|Rd 1 [2] [(2,.slice none 0 0)]<|RunH.nilc ?_
  exact RunH.done (by kernel_rfl) Tryd.func19 (v:=.slice none ([]:List Blob).length 0) (by kernel_rfl) ⟨none,0,none,rfl,rfl,rfl,SlOwn.nil⟩
 | some ad =>
  refine Rd 2 [0,4] [(0,.slice (some ad) a0.length ca0),(4,.bool false)]<|Cf false rfl<|Ra 2 [1,1,0] [.c [1,1,1]] ?_
  refine RgH.does (DoesH.new (d:=5) (v:=fun g=>.slice (some ⟨g,0,none⟩) 0 0) (o:=fun g=>.cells #[] 29 (0,0)) (fun g=>by kernel_rfl)) ?_
  rintro _ _ _ _ ⟨g,rfl,rfl,rfl⟩
  have ho:SlOwn kBlob 29 H (some ⟨g,0,none⟩) 0 ([]:List Blob) (some (g,.cells #[] 29 (0,0))):=.inr ⟨g,0,#[],rfl,rfl,by simp,by simp [maxLen],by simp,Kd.Rep.nil⟩
  refine Rk 2 [5,6] [(5,.slice (some ⟨g,0,none⟩) 0 0),(6,.slice (some ad) a0.length ca0)] ?_
  refine RgH.does (DoesH.append (d:=7) (k:=0) (t:=22) (e:=29) (bytes:=48) (kd:=kBlob) (n:=0) (m:=a0.length) (xs:=([]:List Blob)) (ys:=a0) (A:=some ⟨g,0,none⟩) (B:=some ad) (c:=0) (cB:=ca0) (by kernel_rfl) rfl rfl (by kernel_rfl) rfl ho (fun w hh=>hra0.rdb (hh.drop 1)) (room_le hn) (by have:=room_le hn; omega)) ?_
  rintro _ _ _ _ ⟨A1,c1,ch1,rfl,rfl,rfl,ho1⟩
  refine Rd 4 [2] [(2,.slice A1 (([]:List Blob)++a0).length c1)] ?_
  exact RunH.done (by kernel_rfl) Tryd.func19 (v:=.slice A1 (([]:List Blob)++a0).length c1) (by kernel_rfl) ⟨A1,c1,ch1,rfl,rfl,rfl,ho1⟩
noncomputable def C20:Ctx:={ P:=Tryd.prog,f:=20,N:=8,c:=bodyOf Tryd.f20 }
def S20 (F:List Ch) (H0:Hp) (r:List Entry) (v:Value) (H:Hp) (cs:List Ch):Prop:=∃ (A0:Option Addr) (c0:Nat) (ch0:Ch),H0=H∧v=.slice A0 r.length c0∧ch0::F=cs∧SlOwn kEntry 57 H A0 c0 r ch0
theorem slices_Clone_Entry_c {w0:World} {H:Hp} {F:List Ch} {a0:List Entry} {Aa0:Option Addr} {na0 ca0:Nat} {r:List Entry} (hra0:Rw kEntry H F Aa0 a0) (hca0:na0≤ca0) (hna0:na0=a0.length) (heq:slices_Clone_Entry.f a0=some r):CallsH Tryd.prog 20 #[.slice Aa0 na0 ca0] H w0 F (S20 F H r):=by
 refine calls_of_runH (F:=C20) Tryd.func20 (by kernel_rfl) Tryd.ntmps20 (args:=[.slice Aa0 na0 ca0]) (by kernel_rfl) ?_
 subst hna0
 unfold slices_Clone_Entry.f at heq
 obtain ⟨hn,heq⟩:=guard?_some heq
 obtain rfl:=Option.some.inj heq
 refine Ra 1 [0] [.c [1]]<|Rd 1 [0] [(0,.slice Aa0 a0.length ca0)]<|Ra 2 [1,0,0] [.c [1,0,1],.c [1,1]] ?_
 cases Aa0 with
 | none =>
  have h0:a0=[]:=by
   cases a0 with
   | nil=>rfl
   | cons x xs=>obtain ⟨b,off,cs,e,fr,hA,_⟩:=hra0 (by simp); cases hA
  subst h0
  refine Rd 2 [4] [(4,.bool true)]<|Ct true rfl<|Ra 1 [1,0,1,0,0] [.c [1,0,1,0,1],.c [1,1]]<|Rd 1 [2] [(2,.slice none 0 0)]<|RunH.nilc ?_
  exact RunH.done (by kernel_rfl) Tryd.func20 (v:=.slice none ([]:List Entry).length 0) (by kernel_rfl) ⟨none,0,none,rfl,rfl,rfl,SlOwn.nil⟩
 | some ad =>
  refine Rd 2 [0,4] [(0,.slice (some ad) a0.length ca0),(4,.bool false)]<|Cf false rfl<|Ra 2 [1,1,0] [.c [1,1,1]] ?_
  refine RgH.does (DoesH.new (d:=5) (v:=fun g=>.slice (some ⟨g,0,none⟩) 0 0) (o:=fun g=>.cells #[] 57 (0,0)) (fun g=>by kernel_rfl)) ?_
  rintro _ _ _ _ ⟨g,rfl,rfl,rfl⟩
  have ho:SlOwn kEntry 57 H (some ⟨g,0,none⟩) 0 ([]:List Entry) (some (g,.cells #[] 57 (0,0))):=.inr ⟨g,0,#[],rfl,rfl,by simp,by simp [maxLen],by simp,Kd.Rep.nil⟩
  refine Rk 2 [5,6] [(5,.slice (some ⟨g,0,none⟩) 0 0),(6,.slice (some ad) a0.length ca0)] ?_
  refine RgH.does (DoesH.append (d:=7) (k:=0) (t:=23) (e:=57) (bytes:=48) (kd:=kEntry) (n:=0) (m:=a0.length) (xs:=([]:List Entry)) (ys:=a0) (A:=some ⟨g,0,none⟩) (B:=some ad) (c:=0) (cB:=ca0) (by kernel_rfl) rfl rfl (by kernel_rfl) rfl ho (fun w hh=>hra0.rdb (hh.drop 1)) (room_le hn) (by have:=room_le hn; omega)) ?_
  rintro _ _ _ _ ⟨A1,c1,ch1,rfl,rfl,rfl,ho1⟩
  refine Rd 4 [2] [(2,.slice A1 (([]:List Entry)++a0).length c1)] ?_
  exact RunH.done (by kernel_rfl) Tryd.func20 (v:=.slice A1 (([]:List Entry)++a0).length c1) (by kernel_rfl) ⟨A1,c1,ch1,rfl,rfl,rfl,ho1⟩
noncomputable def C21:Ctx:={ P:=Tryd.prog,f:=21,N:=8,c:=bodyOf Tryd.f21 }
def S21 (F:List Ch) (H0:Hp) (r:List ByteArray) (v:Value) (H:Hp) (cs:List Ch):Prop:=∃ (A0:Option Addr) (c0:Nat) (ch0:Ch),H0=H∧v=.slice A0 r.length c0∧ch0::F=cs∧SlOwn Kd.string 9 H A0 c0 r ch0
theorem slices_Clone_string_c {w0:World} {H:Hp} {F:List Ch} {a0:List ByteArray} {Aa0:Option Addr} {na0 ca0:Nat} {r:List ByteArray} (hra0:Rw Kd.string H F Aa0 a0) (hca0:na0≤ca0) (hna0:na0=a0.length) (heq:slices_Clone_string.f a0=some r):CallsH Tryd.prog 21 #[.slice Aa0 na0 ca0] H w0 F (S21 F H r):=by
 refine calls_of_runH (F:=C21) Tryd.func21 (by kernel_rfl) Tryd.ntmps21 (args:=[.slice Aa0 na0 ca0]) (by kernel_rfl) ?_
 subst hna0
 unfold slices_Clone_string.f at heq
 obtain ⟨hn,heq⟩:=guard?_some heq
 obtain rfl:=Option.some.inj heq
 refine Ra 1 [0] [.c [1]]<|Rd 1 [0] [(0,.slice Aa0 a0.length ca0)]<|Ra 2 [1,0,0] [.c [1,0,1],.c [1,1]] ?_
 cases Aa0 with
 | none =>
  have h0:a0=[]:=by
   cases a0 with
   | nil=>rfl
   | cons x xs=>obtain ⟨b,off,cs,e,fr,hA,_⟩:=hra0 (by simp); cases hA
  subst h0
  refine Rd 2 [4] [(4,.bool true)]<|Ct true rfl<|Ra 1 [1,0,1,0,0] [.c [1,0,1,0,1],.c [1,1]]<|Rd 1 [2] [(2,.slice none 0 0)]<|RunH.nilc ?_
  exact RunH.done (by kernel_rfl) Tryd.func21 (v:=.slice none ([]:List ByteArray).length 0) (by kernel_rfl) ⟨none,0,none,rfl,rfl,rfl,SlOwn.nil⟩
 | some ad =>
  refine Rd 2 [0,4] [(0,.slice (some ad) a0.length ca0),(4,.bool false)]<|Cf false rfl<|Ra 2 [1,1,0] [.c [1,1,1]] ?_
  refine RgH.does (DoesH.new (d:=5) (v:=fun g=>.slice (some ⟨g,0,none⟩) 0 0) (o:=fun g=>.cells #[] 9 (0,0)) (fun g=>by kernel_rfl)) ?_
  rintro _ _ _ _ ⟨g,rfl,rfl,rfl⟩
  have ho:SlOwn Kd.string 9 H (some ⟨g,0,none⟩) 0 ([]:List ByteArray) (some (g,.cells #[] 9 (0,0))):=.inr ⟨g,0,#[],rfl,rfl,by simp,by simp [maxLen],by simp,Kd.Rep.nil⟩
  refine Rk 2 [5,6] [(5,.slice (some ⟨g,0,none⟩) 0 0),(6,.slice (some ad) a0.length ca0)] ?_
  refine RgH.does (DoesH.append (d:=7) (k:=0) (t:=27) (e:=9) (bytes:=16) (kd:=Kd.string) (n:=0) (m:=a0.length) (xs:=([]:List ByteArray)) (ys:=a0) (A:=some ⟨g,0,none⟩) (B:=some ad) (c:=0) (cB:=ca0) (by kernel_rfl) rfl rfl (by kernel_rfl) rfl ho (fun w hh=>hra0.rdb (hh.drop 1)) (room_le hn) (by have:=room_le hn; omega)) ?_
  rintro _ _ _ _ ⟨A1,c1,ch1,rfl,rfl,rfl,ho1⟩
  refine Rd 4 [2] [(2,.slice A1 (([]:List ByteArray)++a0).length c1)] ?_
  exact RunH.done (by kernel_rfl) Tryd.func21 (v:=.slice A1 (([]:List ByteArray)++a0).length c1) (by kernel_rfl) ⟨A1,c1,ch1,rfl,rfl,rfl,ho1⟩
noncomputable def C10:Ctx:={ P:=Tryd.prog,f:=10,N:=32,c:=bodyOf Tryd.f10 }
def S10 (F:List Ch) (H0:Hp) (r:Cache) (v:Value) (H:Hp) (cs:List Ch):Prop:=∃ (A0_2:Option Addr) (c0_2:Nat) (ch0_2:Ch) (A0_3:Option Addr) (c0_3:Nat) (ch0_3:Ch),v=.agg #[iv r.Room,iv r.Lease,.slice A0_2 r.Blobs.length c0_2,.slice A0_3 r.Entries.length c0_3]∧ch0_2::ch0_3::F=cs∧SlOwn kBlob 29 H A0_2 c0_2 r.Blobs ch0_2∧SlOwn kEntry 57 H A0_3 c0_3 r.Entries ch0_3
theorem cache_own.e1_c {w0:World} {H0:Hp} {F:List Ch} {r:Cache}:∀ (H:Hp) (a0:Cache) (g1:Nat) (g2:Nat) (y1:List Blob) (A1:Option Addr) (c1:Nat) (ch1:Ch) (v_c1_3:List Entry) (Av_c1_3:Option Addr) (nv_c1_3:Nat) (cv_c1_3:Nat) (chv_c1_3:Ch) ,SlOwn kBlob 29 H A1 c1 y1 ch1→SlOwn kEntry 57 H Av_c1_3 cv_c1_3 v_c1_3 chv_c1_3→nv_c1_3=v_c1_3.length→cache_own.e1 a0 y1 v_c1_3=some r→RunH C10 (S10 F H0 r) H0 w0 [.c [1,1,1,0],.c [1,1,1,1]] [(1,pg g1 0),(2,pg g2 0)] H (chv_c1_3::ch1::(some (g2,.cells #[iv 0,iv 0,.slice none 0 0,.slice none 0 0] 25 (0,0)))::(some (g1,.cells #[iv a0.Room,iv a0.Lease,.slice A1 y1.length c1,.slice Av_c1_3 nv_c1_3 cv_c1_3] 25 (0,0)))::F):=by
 intro H a0 g1 g2 y1 A1 c1 ch1 v_c1_3 Av_c1_3 nv_c1_3 cv_c1_3 chv_c1_3 ho1 hov_c1_3 hnv_c1_3 heq
 subst hnv_c1_3
 unfold cache_own.e1 at heq
 refine Rr<|Rv 1 [2,31] [iv a0.Room,iv a0.Lease,.slice A1 y1.length c1,.slice Av_c1_3 v_c1_3.length cv_c1_3] [.load ⟨g1,0,none⟩ (iv a0.Room),.load ⟨g1,1,none⟩ (iv a0.Lease),.load ⟨g1,2,none⟩ (.slice A1 y1.length c1),.load ⟨g1,3,none⟩ (.slice Av_c1_3 v_c1_3.length cv_c1_3)] [(2,pg g2 0),(31,.agg #[iv a0.Room,iv a0.Lease,.slice A1 y1.length c1,.slice Av_c1_3 v_c1_3.length cv_c1_3])] (fun w hh=>⟨(hh.box 3 rfl rfl),(hh.box 3 rfl rfl),(hh.box 3 rfl rfl),(hh.box 3 rfl rfl)⟩) ?_
 refine RgH.does (DoesH.store (k:=2) (g:=g2) (off:=0) (v:=.agg #[iv a0.Room,iv a0.Lease,.slice A1 y1.length c1,.slice Av_c1_3 v_c1_3.length cv_c1_3]) (cells':=#[iv a0.Room,iv a0.Lease,.slice A1 y1.length c1,.slice Av_c1_3 v_c1_3.length cv_c1_3]) (by kernel_rfl) rfl (by kernel_rfl) (by kernel_rfl)) ?_
 rintro _ _ _ _ ⟨rfl,rfl,rfl⟩
 refine Dn ?_
 obtain rfl:=Option.some.inj heq
 refine RunH.pick 4 [2,1,0] (cs':=(some (g2,.cells #[iv a0.Room,iv a0.Lease,.slice A1 y1.length c1,.slice Av_c1_3 v_c1_3.length cv_c1_3] 25 (0,0)))::ch1::chv_c1_3::F) (by kernel_rfl) rfl ?_
 exact RunH.doneM' 1 (vs:=[.agg #[iv a0.Room,iv a0.Lease,.slice A1 y1.length c1,.slice Av_c1_3 v_c1_3.length cv_c1_3]]) (v:=.agg #[iv a0.Room,iv a0.Lease,.slice A1 y1.length c1,.slice Av_c1_3 v_c1_3.length cv_c1_3]) (by kernel_rfl) Tryd.func10 (fun w hh=>show ResAll _ _ _ [.cell 2 25] _ from ⟨⟨⟨g2,0,none⟩,by kernel_rfl,trS_run _ (vs:=[iv a0.Room,iv a0.Lease,.slice A1 y1.length c1,.slice Av_c1_3 v_c1_3.length cv_c1_3]) (r:=[]) (es:=[.load ⟨g2,0,none⟩ (iv a0.Room),.load ⟨g2,1,none⟩ (iv a0.Lease),.load ⟨g2,2,none⟩ (.slice A1 y1.length c1),.load ⟨g2,3,none⟩ (.slice Av_c1_3 v_c1_3.length cv_c1_3)]) (by kernel_rfl) ⟨(hh.box 0 rfl rfl),(hh.box 0 rfl rfl),(hh.box 0 rfl rfl),(hh.box 0 rfl rfl)⟩⟩,trivial⟩) rfl (cs':=ch1::chv_c1_3::F) rfl ⟨A1,c1,ch1,Av_c1_3,cv_c1_3,chv_c1_3,rfl,rfl,ho1,hov_c1_3⟩
theorem cache_own.l2_c {w0:World} {H0:Hp} {F:List Ch} {r:Cache} (e1:Cache→(List Blob)→(List Entry)→Option Cache)
  (he1:∀ (H:Hp) (a0:Cache) (g1:Nat) (g2:Nat) (y1:List Blob) (A1:Option Addr) (c1:Nat) (ch1:Ch) (v_c1_3:List Entry) (Av_c1_3:Option Addr) (nv_c1_3:Nat) (cv_c1_3:Nat) (chv_c1_3:Ch) ,SlOwn kBlob 29 H A1 c1 y1 ch1→SlOwn kEntry 57 H Av_c1_3 cv_c1_3 v_c1_3 chv_c1_3→nv_c1_3=v_c1_3.length→e1 a0 y1 v_c1_3=some r→RunH C10 (S10 F H0 r) H0 w0 [.c [1,1,1,0],.c [1,1,1,1]] [(1,pg g1 0),(2,pg g2 0)] H (chv_c1_3::ch1::(some (g2,.cells #[iv 0,iv 0,.slice none 0 0,.slice none 0 0] 25 (0,0)))::(some (g1,.cells #[iv a0.Room,iv a0.Lease,.slice A1 y1.length c1,.slice Av_c1_3 nv_c1_3 cv_c1_3] 25 (0,0)))::F)):∀ (k:Nat),∀ (H:Hp) (a0:Cache) (g1:Nat) (g2:Nat) (y1:List Blob) (A1:Option Addr) (c1:Nat) (ch1:Ch) (y2:List Entry) (v_c1_3:List Entry) (Av_c1_3:Option Addr) (nv_c1_3:Nat) (cv_c1_3:Nat) (chv_c1_3:Ch) (v15:Int) ,SlOwn kBlob 29 H A1 c1 y1 ch1→SlOwn kEntry 57 H Av_c1_3 cv_c1_3 v_c1_3 chv_c1_3→nv_c1_3=v_c1_3.length→cache_own.l2 e1 k a0 y1 y2 v_c1_3 v15=some r→RunH C10 (S10 F H0 r) H0 w0 [.c [1,1,0,1,0,0],.l [1,1,0,1,0,0],.b 0,.c [1,1,1]] [(1,pg g1 0),(2,pg g2 0),(14,iv (y2.length:Int)),(15,iv v15)] H (chv_c1_3::ch1::(some (g2,.cells #[iv 0,iv 0,.slice none 0 0,.slice none 0 0] 25 (0,0)))::(some (g1,.cells #[iv a0.Room,iv a0.Lease,.slice A1 y1.length c1,.slice Av_c1_3 nv_c1_3 cv_c1_3] 25 (0,0)))::F):=by
 intro k
 induction k with
 | zero=>intro H a0 g1 g2 y1 A1 c1 ch1 y2 v_c1_3 Av_c1_3 nv_c1_3 cv_c1_3 chv_c1_3 v15 ho1 hov_c1_3 hnv_c1_3 heq; exact nomatch (show (none:Option Cache)=some r from heq)
 | succ k ihk =>
  intro H a0 g1 g2 y1 A1 c1 ch1 y2 v_c1_3 Av_c1_3 nv_c1_3 cv_c1_3 chv_c1_3 v15 ho1 hov_c1_3 hnv_c1_3 heq
  subst hnv_c1_3
  rw [cache_own.l2] at heq
  refine Ra 1 [1,1,0,1,0,0,0] [.c [1,1,0,1,0,0,1],.l [1,1,0,1,0,0],.b 0,.c [1,1,1]]<|Rd 1 [1,2,14,15,16] [(1,pg g1 0),(2,pg g2 0),(14,iv (y2.length:Int)),(15,iv v15),(16,.bool (decide (v15<(y2.length:Int))))]<|Ad 1 [.c [1,1,0,1,0,0,1,0],.c [1,1,0,1,0,0,1,1],.l [1,1,0,1,0,0],.b 0,.c [1,1,1]] ?_
  rcases bool_cases (decide (v15<(y2.length:Int))) with hb1 | hb1
  ·replace heq:=bif_true hb1 heq
   refine Ct (decide (v15<(y2.length:Int))) hb1<|Ra 4 [1,1,0,1,0,0,1,1,0,0,0] [.c [1,1,0,1,0,0,1,1,0,0,1],.b 1,.c [1,1,0,1,0,0,1,1,1],.l [1,1,0,1,0,0],.b 0,.c [1,1,1]]<|Rd 2 [1,2,3,14,15] [(1,pg g1 0),(2,pg g2 0),(3,iv v15),(14,iv (y2.length:Int)),(15,iv v15)]<|Kp [1,2,3,14,15] [(1,pg g1 0),(2,pg g2 0),(3,iv v15),(14,iv (y2.length:Int)),(15,iv v15)] ?_
   refine RunH.draw (fun w=>Heap H w0 w (chv_c1_3::ch1::(some (g2,.cells #[iv 0,iv 0,.slice none 0 0,.slice none 0 0] 25 (0,0)))::(some (g1,.cells #[iv a0.Room,iv a0.Lease,.slice A1 y1.length c1,.slice Av_c1_3 v_c1_3.length cv_c1_3] 25 (0,0)))::F)) (fun w=>Heap H w0 w (chv_c1_3::ch1::(some (g2,.cells #[iv 0,iv 0,.slice none 0 0,.slice none 0 0] 25 (0,0)))::(some (g1,.cells #[iv a0.Room,iv a0.Lease,.slice A1 y1.length c1,.slice Av_c1_3 v_c1_3.length cv_c1_3] 25 (0,0)))::F)) [3,3,3,3,3,3,3,3,3,0,0,3,2] (n:=13) (ls:=[false,false,false,false,false,false,false,false,false,false,false,false,false]) (by kernel_rfl) (by kernel_rfl) (by kernel_rfl) rfl ?_
   obtain ⟨x1,hx1,heq⟩:=bind_some heq
   obtain ⟨ha1,cs1,hK1,hcc1⟩:=hov_c1_3.get hx1
   obtain ⟨A3,c3,rfl,hc1,hr1⟩:=kEntry_open hK1
   refine Dk [0,1,2,3,4,5,6,7,8] 4 (nb 13 511) [.slice Av_c1_3 v_c1_3.length cv_c1_3,.slice Av_c1_3 v_c1_3.length cv_c1_3,.slice A3 x1.Refs.length c3] [.load ⟨g1,3,none⟩ (.slice Av_c1_3 v_c1_3.length cv_c1_3),.load ⟨g1,3,none⟩ (.slice Av_c1_3 v_c1_3.length cv_c1_3),.need (Av_c1_3=some (adr Av_c1_3)∧(0:Int)≤v15∧v15<((v_c1_3.length:Nat):Int)),.load (((adr Av_c1_3).add (v15.toNat*3)).add 1) (.slice A3 x1.Refs.length c3)] [1,2,14,15,19,20,26] [(1,pg g1 0),(2,pg g2 0),(14,iv (y2.length:Int)),(15,iv v15),(19,.slice Av_c1_3 v_c1_3.length cv_c1_3),(20,iv v15),(26,.slice A3 x1.Refs.length c3)] (Pk 4 [0,1,2,3]) (Pk 4 [0,1,2,3]) (fun w hh=>⟨(hh.box 3 rfl rfl),(hh.box 3 rfl rfl),⟨ha1,(at?_some hx1).1,(at?_some hx1).2.1⟩,(hcc1 _ (hh.chin 0 rfl) 1 _ rfl)⟩) ?_
   obtain ⟨y3,hy3,heq⟩:=bind_some heq
   refine DrH.does (n:=3) (ls':=[true,true,true,true,true,true,true,true,true,true,false,false,false]) 9 (by kernel_rfl) rfl (DoesH.call (d:=27) (g:=21) (args:=#[.slice A3 x1.Refs.length c3]) (by kernel_rfl) (slices_Clone_string_c (a0:=x1.Refs) (Rw.of hr1) hc1 rfl hy3)) ?_
   rintro _ _ _ _ ⟨_,rfl,A4,c4,ch3,rfl,rfl,rfl,ho3⟩
   refine ⟨fun _ w hh=>⟨fun _=>(Pk 5 [1,2,3,4]) w hh,fun _=>(Pk 5 [1,2,3,4]) w hh,(fun h=>by cases h)⟩,?_⟩
   refine Kr [1,2,14,15,19,20,27] [(1,pg g1 0),(2,pg g2 0),(14,iv (y2.length:Int)),(15,iv v15),(19,.slice Av_c1_3 v_c1_3.length cv_c1_3),(20,iv v15),(27,.slice A4 y3.length c4)] ?_
   obtain ⟨ha2,cs2,hK2,hcc2⟩:=hov_c1_3.get hx1
   obtain ⟨A5,c5,rfl,hc2,hr2⟩:=kEntry_open hK2
   refine DrH.does (n:=2) (ls':=[true,true,true,true,true,true,true,true,true,true,true,false,false]) 10 (by kernel_rfl) rfl (DoesH.pureop (d:=28) (v:=.pointer (some ((adr Av_c1_3).add (v15.toNat*3)))) (vs:=[]) (evs:=[.need (Av_c1_3=some (adr Av_c1_3)∧(0:Int)≤v15∧v15<((v_c1_3.length:Nat):Int))]) (by kernel_rfl) (fun w hh=>⟨ha2,(at?_some hx1).1,(at?_some hx1).2.1⟩)) ?_
   rintro _ _ _ _ ⟨rfl,rfl,rfl⟩
   refine ⟨fun _ w hh=>⟨fun _=>(Pk 5 [1,2,3,4]) w hh,fun _=>(Pk 5 [1,2,3,4]) w hh,(fun h=>by cases h)⟩,?_⟩
   refine Dk [11] 1 (nb 13 4095) [] [] [1,2,14,15,27,29] [(1,pg g1 0),(2,pg g2 0),(14,iv (y2.length:Int)),(15,iv v15),(27,.slice A4 y3.length c4),(29,.pointer (some (((adr Av_c1_3).add (v15.toNat*3)).add 1)))] (Pk 5 [1,2,3,4]) (Pk 4 [0,1,2,3]) (fun _ _=>trivial) ?_
   have hc3:=ho3.cap
   refine DrH.freezeS ho3 (fun H hl hr3=>?_)
   have hle:=hl
   replace ho1:=ho1.mono hl
   replace hov_c1_3:=hov_c1_3.mono hl
   obtain ⟨ha3,cs3,hK3,hcc3⟩:=hov_c1_3.get hx1
   obtain ⟨A6,c6,rfl,hc4,hr4⟩:=kEntry_open hK3
   refine DrH.does (n:=0) (ls':=[true,true,true,true,true,true,true,true,true,true,true,true,true]) 12 (by kernel_rfl) rfl (DoesH.storeEl (a:=(((adr Av_c1_3).add (v15.toNat*3)).add 1)) (k:=0) (kd:=kEntry) (c0:=[.string x1.Key,.slice A6 x1.Refs.length c6,iv x1.Used]) (x':=(⟨x1.Key,y3,x1.Used⟩:Entry)) (o:=1) (ix:=v15) (v:=.slice A4 y3.length c4) (by kernel_rfl) rfl hov_c1_3 hx1 (by kernel_rfl) hcc3 rfl (Nat.le_of_ble_eq_true (by kernel_rfl)) (kEntry_mk hc3 hr3)) ?_
   rintro _ _ _ _ ⟨ch4,rfl,rfl,rfl,ho4⟩
   have hn1:v_c1_3.length=(v_c1_3.set v15.toNat (⟨x1.Key,y3,x1.Used⟩:Entry)).length:=by rw [List.length_set]
   refine ⟨fun _ w hh=>⟨(fun h=>by cases h),(fun h=>absurd h (by decide)),(fun h=>by cases h)⟩,?_⟩
   refine Kr [1,2,14,15] [(1,pg g1 0),(2,pg g2 0),(14,iv (y2.length:Int)),(15,iv v15)] ?_
   refine DrH.done (by kernel_rfl) ?_
   refine Ra 1 [1,1,0,1,0,0,1,1,1] [.l [1,1,0,1,0,0],.b 0,.c [1,1,1]]<|Rd 2 [1,2,14,15] [(1,pg g1 0),(2,pg g2 0),(14,iv (y2.length:Int)),(15,iv (w64 (v15+1)))]<|Ad 1 [.c [1,1,0,1,0,0],.l [1,1,0,1,0,0],.b 0,.c [1,1,1]]<|Kp [1,2,14,15] [(1,pg g1 0),(2,pg g2 0),(14,iv (y2.length:Int)),(15,iv (w64 (v15+1)))] ?_
   exact ihk _ a0 _ _ y1 _ _ _ y2 (v_c1_3.set v15.toNat (⟨x1.Key,y3,x1.Used⟩:Entry)) _ _ _ _ (w64 (v15+1)) ho1 ho4 hn1 heq
  ·replace heq:=bif_false hb1 heq
   refine Cf (decide (v15<(y2.length:Int))) hb1<|Ad 2 [.c [1,1,1,0],.c [1,1,1,1]]<|Kp [1,2] [(1,pg g1 0),(2,pg g2 0)] ?_
   exact he1 _ a0 _ _ y1 _ _ _ v_c1_3 _ _ _ _ ho1 hov_c1_3 rfl heq
theorem cache_own_c {w0:World} {H0:Hp} {F:List Ch} {a0:Cache} {Aa0_2:Option Addr} {na0_2:Nat} {ca0_2:Nat} {Aa0_3:Option Addr} {na0_3:Nat} {ca0_3:Nat} {r:Cache} (hra0_2:Rw kBlob H0 F Aa0_2 a0.Blobs) (hca0_2:na0_2≤ca0_2) (hna0_2:na0_2=a0.Blobs.length) (hra0_3:Rw kEntry H0 F Aa0_3 a0.Entries) (hca0_3:na0_3≤ca0_3) (hna0_3:na0_3=a0.Entries.length) (heq:cache_own.f a0=some r):CallsH Tryd.prog 10 #[.agg #[iv a0.Room,iv a0.Lease,.slice Aa0_2 na0_2 ca0_2,.slice Aa0_3 na0_3 ca0_3]] H0 w0 (F) (S10 F H0 r):=by
 refine calls_of_runH (F:=C10) Tryd.func10 (by kernel_rfl) Tryd.ntmps10 (args:=[.agg #[iv a0.Room,iv a0.Lease,.slice Aa0_2 na0_2 ca0_2,.slice Aa0_3 na0_3 ca0_3]]) (by kernel_rfl) ?_
 subst hna0_2
 subst hna0_3
 unfold cache_own.f at heq
 suffices key:∀ (H:Hp),Rw kBlob H F Aa0_2 a0.Blobs→Rw kEntry H F Aa0_3 a0.Entries→RunH C10 (S10 F H0 r) H0 w0 [.c []] (argL 0 [.agg #[iv a0.Room,iv a0.Lease,.slice Aa0_2 (a0.Blobs.length) ca0_2,.slice Aa0_3 (a0.Entries.length) ca0_3]]) H (F) from key H0 hra0_2 hra0_3
 intro H hra0_2 hra0_3
 refine Ra 1 [0] [.c [1]] ?_
 refine RgH.does (DoesH.new (d:=1) (v:=fun g=>.pointer (some ⟨g,0,none⟩)) (o:=fun g=>.cells #[iv a0.Room,iv a0.Lease,.slice Aa0_2 a0.Blobs.length ca0_2,.slice Aa0_3 a0.Entries.length ca0_3] 25 (0,0)) (fun g=>by kernel_rfl)) ?_
 rintro _ _ _ _ ⟨g1,rfl,rfl,rfl⟩
 refine RgH.does (DoesH.new (d:=2) (v:=fun g=>.pointer (some ⟨g,0,none⟩)) (o:=fun g=>.cells #[iv 0,iv 0,.slice none 0 0,.slice none 0 0] 25 (0,0)) (fun g=>by kernel_rfl)) ?_
 rintro _ _ _ _ ⟨g2,rfl,rfl,rfl⟩
 refine Dn<|Ad 1 [.c [1,0],.c [1,1]]<|Kp [1,2] [(1,pg g1 0),(2,pg g2 0)] ?_
 refine RunH.draw (fun w=>Heap H w0 w ((some (g2,.cells #[iv 0,iv 0,.slice none 0 0,.slice none 0 0] 25 (0,0)))::(some (g1,.cells #[iv a0.Room,iv a0.Lease,.slice Aa0_2 a0.Blobs.length ca0_2,.slice Aa0_3 a0.Entries.length ca0_3] 25 (0,0)))::F)) (fun w=>Heap H w0 w ((some (g2,.cells #[iv 0,iv 0,.slice none 0 0,.slice none 0 0] 25 (0,0)))::F)) [3,3,0,3,3,0,3,1,3,2] (n:=10) (ls:=[false,false,false,false,false,false,false,false,false,false]) (by kernel_rfl) (by kernel_rfl) (by kernel_rfl) rfl ?_
 refine Dk [0,1,3,4] 6 (nb 10 27) [.slice Aa0_2 a0.Blobs.length ca0_2,.slice Aa0_3 a0.Entries.length ca0_3] [.load ⟨g1,2,none⟩ (.slice Aa0_2 a0.Blobs.length ca0_2),.load ⟨g1,3,none⟩ (.slice Aa0_3 a0.Entries.length ca0_3)] [1,2,5,8] [(1,pg g1 0),(2,pg g2 0),(5,.slice Aa0_2 a0.Blobs.length ca0_2),(8,.slice Aa0_3 a0.Entries.length ca0_3)] (Pk 2 [0,1]) (Pk 2 [0]) (fun w hh=>⟨(hh.box 1 rfl rfl),(hh.box 1 rfl rfl)⟩) ?_
 obtain ⟨y1,hy1,heq⟩:=bind_some heq
 refine DrH.does (n:=5) (ls':=[true,true,true,true,true,false,false,false,false,false]) 2 (by kernel_rfl) rfl (DoesH.call (d:=6) (g:=19) (args:=#[.slice Aa0_2 a0.Blobs.length ca0_2]) (by kernel_rfl) (slices_Clone_Blob_c (a0:=a0.Blobs) (hra0_2.wk (fun _ h=>(.tail _ (.tail _ h)))) hca0_2 rfl hy1)) ?_
 rintro _ _ _ _ ⟨_,rfl,A1,c1,ch1,rfl,rfl,rfl,ho1⟩
 refine ⟨fun _ w hh=>⟨fun _=>(Pk 3 [1,2]) w hh,fun _=>(Pk 3 [1]) w hh,(fun h=>by cases h)⟩,?_⟩
 refine Dk [6] 4 (nb 10 95) [] [] [1,2,6,8,10] [(1,pg g1 0),(2,pg g2 0),(6,.slice A1 y1.length c1),(8,.slice Aa0_3 a0.Entries.length ca0_3),(10,pg g1 2)] (Pk 3 [1,2]) (Pk 2 [0]) (fun _ _=>trivial) ?_
 obtain ⟨y2,hy2,heq⟩:=bind_some heq
 refine DrH.does (n:=3) (ls':=[true,true,true,true,true,true,true,false,false,false]) 5 (by kernel_rfl) rfl (DoesH.call (d:=9) (g:=20) (args:=#[.slice Aa0_3 a0.Entries.length ca0_3]) (by kernel_rfl) (slices_Clone_Entry_c (a0:=a0.Entries) (hra0_3.wk (fun _ h=>(.tail _ (.tail _ (.tail _ h))))) hca0_3 rfl hy2)) ?_
 rintro _ _ _ _ ⟨_,rfl,A2,c2,ch2,rfl,rfl,rfl,ho2⟩
 refine ⟨fun _ w hh=>⟨fun _=>(Pk 4 [2,3]) w hh,fun _=>(Pk 4 [2]) w hh,(fun h=>by cases h)⟩,?_⟩
 refine Kr [1,2,6,9,10] [(1,pg g1 0),(2,pg g2 0),(6,.slice A1 y1.length c1),(9,.slice A2 y2.length c2),(10,pg g1 2)] ?_
 refine DrH.does (n:=2) (ls':=[true,true,true,true,true,true,true,true,false,false]) 7 (by kernel_rfl) rfl (DoesH.store (k:=3) (g:=g1) (off:=2) (v:=.slice A1 y1.length c1) (cells':=#[iv a0.Room,iv a0.Lease,.slice A1 y1.length c1,.slice Aa0_3 a0.Entries.length ca0_3]) (by kernel_rfl) rfl (by kernel_rfl) (by kernel_rfl)) ?_
 rintro _ _ _ _ ⟨rfl,rfl,rfl⟩
 refine ⟨fun _ w hh=>⟨(fun h=>by cases h),fun _=>(Pk 4 [2]) w hh,(fun h=>by cases h)⟩,?_⟩
 refine De [8] 1 (nb 10 511) [] [] [1,2,9,11] [(1,pg g1 0),(2,pg g2 0),(9,.slice A2 y2.length c2),(11,pg g1 3)] (Pk 4 [2]) (fun _ _=>trivial) ?_
 refine DrH.does (n:=0) (ls':=[true,true,true,true,true,true,true,true,true,true]) 9 (by kernel_rfl) rfl (DoesH.store (k:=3) (g:=g1) (off:=3) (v:=.slice A2 y2.length c2) (cells':=#[iv a0.Room,iv a0.Lease,.slice A1 y1.length c1,.slice A2 y2.length c2]) (by kernel_rfl) rfl (by kernel_rfl) (by kernel_rfl)) ?_
 rintro _ _ _ _ ⟨rfl,rfl,rfl⟩
 refine ⟨fun _ w hh=>⟨(fun h=>by cases h),(fun h=>absurd h (by decide)),(fun h=>by cases h)⟩,?_⟩
 refine Kr [1,2] [(1,pg g1 0),(2,pg g2 0)] ?_
 refine DrH.done (by kernel_rfl) ?_
 refine Ra 2 [1,1,0,0] [.c [1,1,0,1],.c [1,1,1]]<|Rw' 4 [1,2,14,15] [.slice A2 y2.length c2] [.load ⟨g1,3,none⟩ (.slice A2 y2.length c2)] [(1,pg g1 0),(2,pg g2 0),(14,iv (y2.length:Int)),(15,iv 0)] (fun w hh=>(hh.box 3 rfl rfl))<|Ad 2 [.c [1,1,0,1,0,0],.l [1,1,0,1,0,0],.b 0,.c [1,1,1]]<|Kp [1,2,14,15] [(1,pg g1 0),(2,pg g2 0),(14,iv (y2.length:Int)),(15,iv 0)] ?_
 exact ((cache_own.l2_c (e1:=cache_own.e1) (cache_own.e1_c)) big) _ a0 _ _ y1 _ _ _ y2 y2 _ _ _ _ 0 ho1 ho2 rfl heq
noncomputable def C40:Ctx:={ P:=Tryd.prog,f:=40,N:=15,c:=bodyOf Tryd.f40 }
def S40 (F:List Ch) (H0:Hp) (r:Bool × Bool × Bool × Bool) (v:Value) (H:Hp) (cs:List Ch):Prop:=H0=H∧v=.tuple #[.bool r.1,.bool r.2.1,.bool r.2.2.1,.bool r.2.2.2]∧F=cs
theorem cache_fields_c {w0:World} {H:Hp} {F:List Ch} {a0:Int} {r:Bool × Bool × Bool × Bool} (heq:cache_fields.f a0=some r):CallsH Tryd.prog 40 #[iv a0] H w0 (F) (S40 F H r):=by
 refine calls_of_runH (F:=C40) Tryd.func40 (by kernel_rfl) Tryd.ntmps40 (args:=[iv a0]) (by kernel_rfl) ?_
 unfold cache_fields.f at heq
 refine Ra 1 [0] [.c [1]]<|Rd 4 [0] [(0,iv a0)]<|Ra 2 [1,0,0] [.c [1,0,1],.c [1,1]]<|Rd 1 [6] [(6,iv a0)]<|Ra 2 [1,0,1,0,0] [.c [1,0,1,0,1],.b 0,.c [1,1]]<|Rd 2 [6,7] [(6,iv a0),(7,.bool (a0 == 1))] ?_
 rcases bool_cases (a0 == 1) with hb1 | hb1
 ·replace heq:=bif_true hb1 heq
  refine Ct (a0 == 1) hb1<|Ra 1 [1,0,1,0,1,0,0] [.c [1,0,1,0,1,0,1],.b 0,.c [1,1]]<|Rd 4 [2,3,4,5] [(2,.bool true),(3,.bool false),(4,.bool false),(5,.bool true)] ?_
  obtain rfl:=Option.some.inj heq
  exact RunH.done (by kernel_rfl) Tryd.func40 (v:=.tuple #[.bool true,.bool false,.bool false,.bool true]) (by kernel_rfl) ⟨rfl,rfl,rfl⟩
 ·replace heq:=bif_false hb1 heq
  refine Cf (a0 == 1) hb1<|Ra 1 [1,0,1,0,1,1,0] [.c [1,0,1,0,1,1,1],.b 0,.c [1,1]]<|Rd 2 [6,9] [(6,iv a0),(9,.bool (a0 == 3))] ?_
  rcases bool_cases (a0 == 3) with hb2 | hb2
  ·replace heq:=bif_true hb2 heq
   refine Ct (a0 == 3) hb2<|Ra 1 [1,0,1,0,1,1,1,0,0] [.c [1,0,1,0,1,1,1,0,1],.b 0,.c [1,1]]<|Rd 4 [2,3,4,5] [(2,.bool false),(3,.bool true),(4,.bool false),(5,.bool false)] ?_
   obtain rfl:=Option.some.inj heq
   exact RunH.done (by kernel_rfl) Tryd.func40 (v:=.tuple #[.bool false,.bool true,.bool false,.bool false]) (by kernel_rfl) ⟨rfl,rfl,rfl⟩
  ·replace heq:=bif_false hb2 heq
   refine Cf (a0 == 3) hb2<|Ra 1 [1,0,1,0,1,1,1,1,0] [.c [1,0,1,0,1,1,1,1,1],.b 0,.c [1,1]]<|Rd 2 [6,11] [(6,iv a0),(11,.bool (a0 == 6))] ?_
   rcases bool_cases (a0 == 6) with hb3 | hb3
   ·replace heq:=bif_true hb3 heq
    refine Ct (a0 == 6) hb3<|Ra 1 [1,0,1,0,1,1,1,1,1,0,0] [.c [1,0,1,0,1,1,1,1,1,0,1],.b 0,.c [1,1]]<|Rd 4 [2,3,4,5] [(2,.bool false),(3,.bool true),(4,.bool true),(5,.bool false)] ?_
    obtain rfl:=Option.some.inj heq
    exact RunH.done (by kernel_rfl) Tryd.func40 (v:=.tuple #[.bool false,.bool true,.bool true,.bool false]) (by kernel_rfl) ⟨rfl,rfl,rfl⟩
   ·replace heq:=bif_false hb3 heq
    refine Cf (a0 == 6) hb3<|Ra 1 [1,0,1,0,1,1,1,1,1,1,0] [.c [1,0,1,0,1,1,1,1,1,1,1],.b 0,.c [1,1]]<|Rd 2 [13] [(13,.bool (a0 == 7))] ?_
    rcases bool_cases (a0 == 7) with hb4 | hb4
    ·replace heq:=bif_true hb4 heq
     refine Ct (a0 == 7) hb4<|Ra 1 [1,0,1,0,1,1,1,1,1,1,1,0,0] [.c [1,0,1,0,1,1,1,1,1,1,1,0,1],.b 0,.c [1,1]]<|Rd 4 [2,3,4,5] [(2,.bool false),(3,.bool false),(4,.bool true),(5,.bool false)] ?_
     obtain rfl:=Option.some.inj heq
     exact RunH.done (by kernel_rfl) Tryd.func40 (v:=.tuple #[.bool false,.bool false,.bool true,.bool false]) (by kernel_rfl) ⟨rfl,rfl,rfl⟩
    ·replace heq:=bif_false hb4 heq
     refine Cf (a0 == 7) hb4<|Ra 3 [1,1,0] [.c [1,1,1]]<|Rd 4 [2,3,4,5] [(2,.bool true),(3,.bool false),(4,.bool false),(5,.bool false)] ?_
     obtain rfl:=Option.some.inj heq
     exact RunH.done (by kernel_rfl) Tryd.func40 (v:=.tuple #[.bool true,.bool false,.bool false,.bool false]) (by kernel_rfl) ⟨rfl,rfl,rfl⟩
noncomputable def C22:Ctx:={ P:=Tryd.prog,f:=22,N:=81,c:=bodyOf Tryd.f22 }
def S22 (F:List Ch) (H0:Hp) (r:Int) (v:Value) (H:Hp) (cs:List Ch):Prop:=H0=H∧v=iv r∧F=cs
theorem cache_checkEvent.j2_c {w0:World} {H:Hp} {F:List Ch} {r:Int}:∀ (a0:CacheEvent) (Aa0_3:Option Addr) (ca0_3:Nat) (g1:Nat) (v50:Bool) ,Rw Kd.string H F Aa0_3 a0.Digests→a0.Digests.length≤ca0_3→cache_checkEvent.j2 a0 v50=some r→RunH C22 (S22 F H r) H w0 [.c [1,1,1,0,0,1,1,1],.b 0,.c [1,1,1,1]] [(1,pg g1 0),(50,.bool v50)] H ((some (g1,.cells #[iv a0.Kind,iv a0.At,.string a0.Digest,.slice Aa0_3 a0.Digests.length ca0_3,.string a0.Key,iv a0.Size] 40 (0,0)))::F):=by
 intro a0 Aa0_3 ca0_3 g1 v50 hra0_3 hca0_3 heq
 unfold cache_checkEvent.j2 at heq
 rcases bool_cases (v50) with hb5 | hb5
 ·replace heq:=bif_true hb5 heq
  refine Ct v50 hb5<|Ra 1 [1,1,1,0,0,1,1,1,0,0] [.c [1,1,1,0,0,1,1,1,0,1],.b 0,.c [1,1,1,1]]<|Rd 1 [2] [(2,iv 3)] ?_
  obtain rfl:=Option.some.inj heq
  refine RunH.pick 1 [] (cs':=F) (by kernel_rfl) rfl ?_
  exact RunH.done (by kernel_rfl) Tryd.func22 (v:=iv 3) (by kernel_rfl) ⟨rfl,rfl,rfl⟩
 ·replace heq:=bif_false hb5 heq
  refine Cf v50 hb5<|Ra 4 [1,1,1,1,0,0] [.c [1,1,1,1,0,1],.c [1,1,1,1,1]]<|Rv 2 [1,66] [.slice Aa0_3 a0.Digests.length ca0_3] [.load ⟨g1,3,none⟩ (.slice Aa0_3 a0.Digests.length ca0_3)] [(1,pg g1 0),(66,.slice Aa0_3 a0.Digests.length ca0_3)] (fun w hh=>(hh.box 0 rfl rfl)) ?_
  obtain ⟨y4,hy4,heq⟩:=bind_some heq
  refine RgH.does (DoesH.call (d:=67) (g:=17) (args:=#[.slice Aa0_3 a0.Digests.length ca0_3,iv 200]) (by kernel_rfl) (cache_checkDigests_c (a0:=a0.Digests) (a1:=200) (hra0_3.wk (fun _ h=>(.tail _ h))) hca0_3 rfl hy4)) ?_
  rintro _ _ _ _ ⟨_,rfl,rfl,rfl,rfl⟩
  refine Rd 4 [1,7] [(1,pg g1 0),(7,iv y4)]<|Ra 1 [1,1,1,1,0,1,0] [.c [1,1,1,1,0,1,1],.c [1,1,1,1,1]]<|Rd 2 [1,7,69] [(1,pg g1 0),(7,iv y4),(69,.bool (y4 != 0))] ?_
  rcases bool_cases (y4 != 0) with hb6 | hb6
  ·replace heq:=bif_true hb6 heq
   refine Ct (y4 != 0) hb6<|Ra 1 [1,1,1,1,0,1,1,0,0] [.c [1,1,1,1,0,1,1,0,1],.c [1,1,1,1,1]]<|Rd 2 [2] [(2,iv y4)] ?_
   obtain rfl:=Option.some.inj heq
   refine RunH.pick 1 [] (cs':=F) (by kernel_rfl) rfl ?_
   exact RunH.done (by kernel_rfl) Tryd.func22 (v:=iv y4) (by kernel_rfl) ⟨rfl,rfl,rfl⟩
  ·replace heq:=bif_false hb6 heq
   refine Cf (y4 != 0) hb6<|Ad 3 [.c [1,1,1,1,1,0,0],.c [1,1,1,1,1,0,1],.c [1,1,1,1,1,1]] ?_
   obtain ⟨t3,ht3,heq⟩:=bind_some heq
   have K4:RunH C22 (S22 F H r) H w0 [.c [1,1,1,1,1,0,1],.c [1,1,1,1,1,1]] [(80,.bool t3)] H (F):=by
    rcases bool_cases (t3) with hb8 | hb8
    ·replace heq:=bif_true hb8 heq
     refine Ct t3 hb8<|Ra 1 [1,1,1,1,1,0,1,0,0] [.c [1,1,1,1,1,0,1,0,1],.c [1,1,1,1,1,1]]<|Rd 1 [2] [(2,iv 1)] ?_
     obtain rfl:=Option.some.inj heq
     exact RunH.done (by kernel_rfl) Tryd.func22 (v:=iv 1) (by kernel_rfl) ⟨rfl,rfl,rfl⟩
    ·replace heq:=bif_false hb8 heq
     refine Cf t3 hb8<|Ra 2 [1,1,1,1,1,1,0] [.c [1,1,1,1,1,1,1]]<|Rd 1 [2] [(2,iv 0)] ?_
     obtain rfl:=Option.some.inj heq
     exact RunH.done (by kernel_rfl) Tryd.func22 (v:=iv 0) (by kernel_rfl) ⟨rfl,rfl,rfl⟩
   replace heq:=ht3
   refine Rr<|Rv 2 [1,72] [iv a0.Size] [.load ⟨g1,5,none⟩ (iv a0.Size)] [(1,pg g1 0),(72,iv a0.Size)] (fun w hh=>(hh.box 0 rfl rfl)) ?_
   obtain ⟨y5,hy5,heq⟩:=bind_some heq
   refine RgH.does (DoesH.call (d:=73) (g:=15) (args:=#[iv a0.Size,iv 0,iv 100000000]) (by kernel_rfl) (cache_within_c (a0:=a0.Size) (a1:=0) (a2:=100000000)  hy5)) ?_
   rintro _ _ _ _ ⟨_,rfl,rfl,rfl,rfl⟩
   refine Rk 5 [75,1] [(75,.bool (!y5)),(1,pg g1 0)] ?_
   rcases bool_cases (!y5) with hb7 | hb7
   ·replace heq:=bif_true hb7 heq
    refine RgH.val1 (v':=.bool true) (congrArg Value.bool hb7) ?_
    refine Rk 10 [80] [(80,.bool true)] ?_
    obtain rfl:=Option.some.inj heq
    refine Kg [80] [(80,.bool true)] ?_
    refine RgH.pick 1 [] (cs':=F) (by kernel_rfl) rfl ?_
    refine Dn ?_
    exact K4
   ·replace heq:=bif_false hb7 heq
    refine RgH.val1 (v':=.bool false) (congrArg Value.bool hb7) ?_
    refine Rv 7 [75,77] [iv a0.At] [.load ⟨g1,1,none⟩ (iv a0.At)] [(75,.bool false),(77,iv a0.At)] (fun w hh=>(hh.box 0 rfl rfl)) ?_
    obtain ⟨y6,hy6,heq⟩:=bind_some heq
    refine RgH.does (DoesH.call (d:=78) (g:=18) (args:=#[iv a0.At]) (by kernel_rfl) (cache_isMoment_c (a0:=a0.At)  hy6)) ?_
    rintro _ _ _ _ ⟨_,rfl,rfl,rfl,rfl⟩
    refine Rk 10 [80] [(80,.bool (!y6))] ?_
    obtain rfl:=Option.some.inj heq
    refine Kg [80] [(80,.bool (!y6))] ?_
    refine RgH.pick 1 [] (cs':=F) (by kernel_rfl) rfl ?_
    refine Dn ?_
    exact K4
theorem cache_checkEvent.j1_c {w0:World} {H:Hp} {F:List Ch} {r:Int}:∀ (a0:CacheEvent) (Aa0_3:Option Addr) (ca0_3:Nat) (g1:Nat) (y2:Bool × Bool × Bool × Bool) (v20:Bool) ,Rw Kd.string H F Aa0_3 a0.Digests→a0.Digests.length≤ca0_3→cache_checkEvent.j1 a0 y2 v20=some r→RunH C22 (S22 F H r) H w0 [.c [1,1,1,0,0,1],.b 0,.c [1,1,1,1]] [(1,pg g1 0),(3,.bool y2.1),(5,.bool y2.2.2.1),(20,.bool v20)] H ((some (g1,.cells #[iv a0.Kind,iv a0.At,.string a0.Digest,.slice Aa0_3 a0.Digests.length ca0_3,.string a0.Key,iv a0.Size] 40 (0,0)))::F):=by
 intro a0 Aa0_3 ca0_3 g1 y2 v20 hra0_3 hca0_3 heq
 unfold cache_checkEvent.j1 at heq
 rcases bool_cases (v20) with hb3 | hb3
 ·replace heq:=bif_true hb3 heq
  refine Ct v20 hb3<|Ra 1 [1,1,1,0,0,1,0,0] [.c [1,1,1,0,0,1,0,1],.b 0,.c [1,1,1,1]]<|Rd 1 [2] [(2,iv 3)] ?_
  obtain rfl:=Option.some.inj heq
  refine RunH.pick 1 [] (cs':=F) (by kernel_rfl) rfl ?_
  exact RunH.done (by kernel_rfl) Tryd.func22 (v:=iv 3) (by kernel_rfl) ⟨rfl,rfl,rfl⟩
 ·replace heq:=bif_false hb3 heq
  refine Cf v20 hb3<|Ad 2 [.c [1,1,1,0,0,1,1,0,0],.c [1,1,1,0,0,1,1,0,1],.c [1,1,1,0,0,1,1,1],.b 0,.c [1,1,1,1]] ?_
  obtain ⟨t2,ht2,heq⟩:=bind_some heq
  have K3:RunH C22 (S22 F H r) H w0 [.c [1,1,1,0,0,1,1,0,1],.c [1,1,1,0,0,1,1,1],.b 0,.c [1,1,1,1]] [(1,pg g1 0),(5,.bool y2.2.2.1),(50,.bool t2)] H ((some (g1,.cells #[iv a0.Kind,iv a0.At,.string a0.Digest,.slice Aa0_3 a0.Digests.length ca0_3,.string a0.Key,iv a0.Size] 40 (0,0)))::F):=by
   rcases bool_cases (t2) with hb9 | hb9
   ·replace heq:=bif_true hb9 heq
    refine Ct t2 hb9<|Ad 1 [.c [1,1,1,0,0,1,1,1],.b 0,.c [1,1,1,1]]<|Kp [1,50] [(1,pg g1 0),(50,.bool t2)] ?_
    exact (cache_checkEvent.j2_c) a0 _ _ _ t2 hra0_3 hca0_3 heq
   ·replace heq:=bif_false hb9 heq
    refine Cf t2 hb9 ?_
    obtain ⟨t4,ht4,heq⟩:=bind_some heq
    have K5:RunH C22 (S22 F H r) H w0 [.c [1,1,1,0,0,1,1,1],.b 0,.c [1,1,1,1]] [(1,pg g1 0),(50,.bool t4)] H ((some (g1,.cells #[iv a0.Kind,iv a0.At,.string a0.Digest,.slice Aa0_3 a0.Digests.length ca0_3,.string a0.Key,iv a0.Size] 40 (0,0)))::F):=by
     refine Kp [1,50] [(1,pg g1 0),(50,.bool t4)] ?_
     exact (cache_checkEvent.j2_c) a0 _ _ _ t4 hra0_3 hca0_3 heq
    replace heq:=ht4
    refine Rr<|Rk 2 [59,1] [(59,.bool y2.2.2.1),(1,pg g1 0)] ?_
    rcases bool_cases (y2.2.2.1) with hb10 | hb10
    ·replace heq:=bif_true hb10 heq
     refine RgH.val1 (v':=.bool true) (congrArg Value.bool hb10) ?_
     refine Rv 4 [1,59,61] [.string a0.Key] [.load ⟨g1,4,none⟩ (.string a0.Key)] [(1,pg g1 0),(59,.bool true),(61,.string a0.Key)] (fun w hh=>(hh.box 0 rfl rfl)) ?_
     obtain ⟨y7,hy7,heq⟩:=bind_some heq
     refine RgH.does (DoesH.call (d:=62) (g:=8) (args:=#[.string a0.Key]) (by kernel_rfl) (blob_IsDigest_c (a0:=a0.Key)  hy7)) ?_
     rintro _ _ _ _ ⟨_,rfl,rfl,rfl,rfl⟩
     refine Rk 8 [1,50] [(1,pg g1 0),(50,.bool (!y7))] ?_
     obtain rfl:=Option.some.inj heq
     refine Kg [1,50] [(1,pg g1 0),(50,.bool (!y7))]<|Dn ?_
     exact K5
    ·replace heq:=bif_false hb10 heq
     refine RgH.val1 (v':=.bool false) (congrArg Value.bool hb10) ?_
     refine Rk 8 [1,50] [(1,pg g1 0),(50,.bool false)] ?_
     obtain rfl:=Option.some.inj heq
     refine Kg [1,50] [(1,pg g1 0),(50,.bool false)]<|Dn ?_
     exact K5
  replace heq:=ht2
  refine Rr<|Rk 2 [52,1,5] [(52,.bool y2.1),(1,pg g1 0),(5,.bool y2.2.2.1)] ?_
  rcases bool_cases (y2.1) with hb4 | hb4
  ·replace heq:=bif_true hb4 heq
   refine RgH.val1 (v':=.bool true) (congrArg Value.bool hb4) ?_
   refine Rv 4 [1,5,52,54] [.string a0.Digest] [.load ⟨g1,2,none⟩ (.string a0.Digest)] [(1,pg g1 0),(5,.bool y2.2.2.1),(52,.bool true),(54,.string a0.Digest)] (fun w hh=>(hh.box 0 rfl rfl)) ?_
   obtain ⟨y3,hy3,heq⟩:=bind_some heq
   refine RgH.does (DoesH.call (d:=55) (g:=8) (args:=#[.string a0.Digest]) (by kernel_rfl) (blob_IsDigest_c (a0:=a0.Digest)  hy3)) ?_
   rintro _ _ _ _ ⟨_,rfl,rfl,rfl,rfl⟩
   refine Rk 8 [1,5,50] [(1,pg g1 0),(5,.bool y2.2.2.1),(50,.bool (!y3))] ?_
   obtain rfl:=Option.some.inj heq
   refine Kg [1,5,50] [(1,pg g1 0),(5,.bool y2.2.2.1),(50,.bool (!y3))]<|Dn ?_
   exact K3
  ·replace heq:=bif_false hb4 heq
   refine RgH.val1 (v':=.bool false) (congrArg Value.bool hb4) ?_
   refine Rk 8 [1,5,50] [(1,pg g1 0),(5,.bool y2.2.2.1),(50,.bool false)] ?_
   obtain rfl:=Option.some.inj heq
   refine Kg [1,5,50] [(1,pg g1 0),(5,.bool y2.2.2.1),(50,.bool false)]<|Dn ?_
   exact K3
theorem cache_checkEvent_c {w0:World} {H:Hp} {F:List Ch} {a0:CacheEvent} {Aa0_3:Option Addr} {na0_3:Nat} {ca0_3:Nat} {r:Int} (hra0_3:Rw Kd.string H F Aa0_3 a0.Digests) (hca0_3:na0_3≤ca0_3) (hna0_3:na0_3=a0.Digests.length) (heq:cache_checkEvent.f a0=some r):CallsH Tryd.prog 22 #[.agg #[iv a0.Kind,iv a0.At,.string a0.Digest,.slice Aa0_3 na0_3 ca0_3,.string a0.Key,iv a0.Size]] H w0 (F) (S22 F H r):=by
 refine calls_of_runH (F:=C22) Tryd.func22 (by kernel_rfl) Tryd.ntmps22 (args:=[.agg #[iv a0.Kind,iv a0.At,.string a0.Digest,.slice Aa0_3 na0_3 ca0_3,.string a0.Key,iv a0.Size]]) (by kernel_rfl) ?_
 subst hna0_3
 unfold cache_checkEvent.f at heq
 refine Ra 1 [0] [.c [1]] ?_
 refine RgH.does (DoesH.new (d:=1) (v:=fun g=>.pointer (some ⟨g,0,none⟩)) (o:=fun g=>.cells #[iv a0.Kind,iv a0.At,.string a0.Digest,.slice Aa0_3 a0.Digests.length ca0_3,.string a0.Key,iv a0.Size] 40 (0,0)) (fun g=>by kernel_rfl)) ?_
 rintro _ _ _ _ ⟨g1,rfl,rfl,rfl⟩
 refine Rd 2 [1] [(1,pg g1 0)]<|Ra 2 [1,0,0] [.c [1,0,1],.c [1,1]]<|Rv 2 [1,9] [iv a0.Kind] [.load ⟨g1,0,none⟩ (iv a0.Kind)] [(1,pg g1 0),(9,iv a0.Kind)] (fun w hh=>(hh.box 0 rfl rfl)) ?_
 obtain ⟨y1,hy1,heq⟩:=bind_some heq
 refine RgH.does (DoesH.call (d:=10) (g:=15) (args:=#[iv a0.Kind,iv 1,iv 8]) (by kernel_rfl) (cache_within_c (a0:=a0.Kind) (a1:=1) (a2:=8)  hy1)) ?_
 rintro _ _ _ _ ⟨_,rfl,rfl,rfl,rfl⟩
 refine Rd 4 [1,11] [(1,pg g1 0),(11,.bool (!y1))] ?_
 rcases bool_cases (!y1) with hb1 | hb1
 ·replace heq:=bif_true hb1 heq
  refine Ct (!y1) hb1<|Ra 1 [1,0,1,0,0] [.c [1,0,1,0,1],.c [1,1]]<|Rd 1 [2] [(2,iv 4)] ?_
  obtain rfl:=Option.some.inj heq
  refine RunH.pick 1 [] (cs':=F) (by kernel_rfl) rfl ?_
  exact RunH.done (by kernel_rfl) Tryd.func22 (v:=iv 4) (by kernel_rfl) ⟨rfl,rfl,rfl⟩
 ·replace heq:=bif_false hb1 heq
  refine Cf (!y1) hb1<|Ra 2 [1,1,0] [.c [1,1,1]]<|Rv 2 [1,14] [iv a0.Kind] [.load ⟨g1,0,none⟩ (iv a0.Kind)] [(1,pg g1 0),(14,iv a0.Kind)] (fun w hh=>(hh.box 0 rfl rfl)) ?_
  obtain ⟨y2,hy2,heq⟩:=bind_some heq
  refine RgH.does (DoesH.call (d:=15) (g:=40) (args:=#[iv a0.Kind]) (by kernel_rfl) (cache_fields_c (a0:=a0.Kind)  hy2)) ?_
  rintro _ _ _ _ ⟨_,rfl,rfl,rfl,rfl⟩
  refine Rd 12 [1,3,4,5,6] [(1,pg g1 0),(3,.bool y2.1),(4,.bool y2.2.1),(5,.bool y2.2.2.1),(6,.bool y2.2.2.2)]<|Ad 4 [.c [1,1,1,0,0,0,0],.c [1,1,1,0,0,0,1],.c [1,1,1,0,0,1],.b 0,.c [1,1,1,1]] ?_
  obtain ⟨t1,ht1,heq⟩:=bind_some heq
  have K2:RunH C22 (S22 F H r) H w0 [.c [1,1,1,0,0,0,1],.c [1,1,1,0,0,1],.b 0,.c [1,1,1,1]] [(1,pg g1 0),(3,.bool y2.1),(4,.bool y2.2.1),(5,.bool y2.2.2.1),(6,.bool y2.2.2.2),(20,.bool t1)] H ((some (g1,.cells #[iv a0.Kind,iv a0.At,.string a0.Digest,.slice Aa0_3 a0.Digests.length ca0_3,.string a0.Key,iv a0.Size] 40 (0,0)))::F):=by
   rcases bool_cases (t1) with hb11 | hb11
   ·replace heq:=bif_true hb11 heq
    refine Ct t1 hb11<|Ad 1 [.c [1,1,1,0,0,1],.b 0,.c [1,1,1,1]]<|Kp [1,3,5,20] [(1,pg g1 0),(3,.bool y2.1),(5,.bool y2.2.2.1),(20,.bool t1)] ?_
    exact (cache_checkEvent.j1_c) a0 _ _ _ y2 t1 hra0_3 hca0_3 heq
   ·replace heq:=bif_false hb11 heq
    refine Cf t1 hb11<|Ad 1 [.c [1,1,1,0,0,0,1,1,0],.c [1,1,1,0,0,0,1,1,1],.c [1,1,1,0,0,1],.b 0,.c [1,1,1,1]] ?_
    obtain ⟨t5,ht5,heq⟩:=bind_some heq
    have K6:RunH C22 (S22 F H r) H w0 [.c [1,1,1,0,0,0,1,1,1],.c [1,1,1,0,0,1],.b 0,.c [1,1,1,1]] [(1,pg g1 0),(3,.bool y2.1),(5,.bool y2.2.2.1),(6,.bool y2.2.2.2),(20,.bool t5)] H ((some (g1,.cells #[iv a0.Kind,iv a0.At,.string a0.Digest,.slice Aa0_3 a0.Digests.length ca0_3,.string a0.Key,iv a0.Size] 40 (0,0)))::F):=by
     rcases bool_cases (t5) with hb13 | hb13
     ·replace heq:=bif_true hb13 heq
      refine Ct t5 hb13<|Ad 1 [.c [1,1,1,0,0,1],.b 0,.c [1,1,1,1]]<|Kp [1,3,5,20] [(1,pg g1 0),(3,.bool y2.1),(5,.bool y2.2.2.1),(20,.bool t5)] ?_
      exact (cache_checkEvent.j1_c) a0 _ _ _ y2 t5 hra0_3 hca0_3 heq
     ·replace heq:=bif_false hb13 heq
      refine Cf t5 hb13<|Ad 1 [.c [1,1,1,0,0,0,1,1,1,1,0],.c [1,1,1,0,0,0,1,1,1,1,1],.c [1,1,1,0,0,1],.b 0,.c [1,1,1,1]] ?_
      obtain ⟨t6,ht6,heq⟩:=bind_some heq
      have K7:RunH C22 (S22 F H r) H w0 [.c [1,1,1,0,0,0,1,1,1,1,1],.c [1,1,1,0,0,1],.b 0,.c [1,1,1,1]] [(1,pg g1 0),(3,.bool y2.1),(5,.bool y2.2.2.1),(6,.bool y2.2.2.2),(20,.bool t6)] H ((some (g1,.cells #[iv a0.Kind,iv a0.At,.string a0.Digest,.slice Aa0_3 a0.Digests.length ca0_3,.string a0.Key,iv a0.Size] 40 (0,0)))::F):=by
       rcases bool_cases (t6) with hb15 | hb15
       ·replace heq:=bif_true hb15 heq
        refine Ct t6 hb15<|Ad 1 [.c [1,1,1,0,0,1],.b 0,.c [1,1,1,1]]<|Kp [1,3,5,20] [(1,pg g1 0),(3,.bool y2.1),(5,.bool y2.2.2.1),(20,.bool t6)] ?_
        exact (cache_checkEvent.j1_c) a0 _ _ _ y2 t6 hra0_3 hca0_3 heq
       ·replace heq:=bif_false hb15 heq
        refine Cf t6 hb15 ?_
        obtain ⟨t7,ht7,heq⟩:=bind_some heq
        have K8:RunH C22 (S22 F H r) H w0 [.c [1,1,1,0,0,1],.b 0,.c [1,1,1,1]] [(1,pg g1 0),(3,.bool y2.1),(5,.bool y2.2.2.1),(20,.bool t7)] H ((some (g1,.cells #[iv a0.Kind,iv a0.At,.string a0.Digest,.slice Aa0_3 a0.Digests.length ca0_3,.string a0.Key,iv a0.Size] 40 (0,0)))::F):=by
         refine Kp [1,3,5,20] [(1,pg g1 0),(3,.bool y2.1),(5,.bool y2.2.2.1),(20,.bool t7)] ?_
         exact (cache_checkEvent.j1_c) a0 _ _ _ y2 t7 hra0_3 hca0_3 heq
        replace heq:=ht7
        refine Rr<|Rk 3 [45,1,3,5] [(45,.bool (!y2.2.2.2)),(1,pg g1 0),(3,.bool y2.1),(5,.bool y2.2.2.1)] ?_
        rcases bool_cases (!y2.2.2.2) with hb16 | hb16
        ·replace heq:=bif_true hb16 heq
         refine RgH.val1 (v':=.bool true) (congrArg Value.bool hb16) ?_
         refine Rv 8 [1,3,5,20] [iv a0.Size] [.load ⟨g1,5,none⟩ (iv a0.Size)] [(1,pg g1 0),(3,.bool y2.1),(5,.bool y2.2.2.1),(20,.bool (a0.Size != 0))] (fun w hh=>(hh.box 0 rfl rfl)) ?_
         obtain rfl:=Option.some.inj heq
         refine Kg [1,3,5,20] [(1,pg g1 0),(3,.bool y2.1),(5,.bool y2.2.2.1),(20,.bool (a0.Size != 0))]<|Dn ?_
         exact K8
        ·replace heq:=bif_false hb16 heq
         refine RgH.val1 (v':=.bool false) (congrArg Value.bool hb16) ?_
         refine Rk 8 [1,3,5,20] [(1,pg g1 0),(3,.bool y2.1),(5,.bool y2.2.2.1),(20,.bool false)] ?_
         obtain rfl:=Option.some.inj heq
         refine Kg [1,3,5,20] [(1,pg g1 0),(3,.bool y2.1),(5,.bool y2.2.2.1),(20,.bool false)]<|Dn ?_
         exact K8
      replace heq:=ht6
      refine Rr<|Rk 3 [38,1,3,5,6] [(38,.bool (!y2.2.2.1)),(1,pg g1 0),(3,.bool y2.1),(5,.bool y2.2.2.1),(6,.bool y2.2.2.2)] ?_
      rcases bool_cases (!y2.2.2.1) with hb14 | hb14
      ·replace heq:=bif_true hb14 heq
       refine RgH.val1 (v':=.bool true) (congrArg Value.bool hb14) ?_
       refine Rv 8 [1,3,5,6,20] [.string a0.Key] [.load ⟨g1,4,none⟩ (.string a0.Key)] [(1,pg g1 0),(3,.bool y2.1),(5,.bool y2.2.2.1),(6,.bool y2.2.2.2),(20,.bool (!sEq a0.Key ({ data:=#[] }:ByteArray)))] (fun w hh=>(hh.box 0 rfl rfl)) ?_
       obtain rfl:=Option.some.inj heq
       refine Kg [1,3,5,6,20] [(1,pg g1 0),(3,.bool y2.1),(5,.bool y2.2.2.1),(6,.bool y2.2.2.2),(20,.bool (!sEq a0.Key ({ data:=#[] }:ByteArray)))]<|Dn ?_
       exact K7
      ·replace heq:=bif_false hb14 heq
       refine RgH.val1 (v':=.bool false) (congrArg Value.bool hb14) ?_
       refine Rk 8 [1,3,5,6,20] [(1,pg g1 0),(3,.bool y2.1),(5,.bool y2.2.2.1),(6,.bool y2.2.2.2),(20,.bool false)] ?_
       obtain rfl:=Option.some.inj heq
       refine Kg [1,3,5,6,20] [(1,pg g1 0),(3,.bool y2.1),(5,.bool y2.2.2.1),(6,.bool y2.2.2.2),(20,.bool false)]<|Dn ?_
       exact K7
    replace heq:=ht5
    refine Rr<|Rk 3 [30,1,3,5,6] [(30,.bool (!y2.2.1)),(1,pg g1 0),(3,.bool y2.1),(5,.bool y2.2.2.1),(6,.bool y2.2.2.2)] ?_
    rcases bool_cases (!y2.2.1) with hb12 | hb12
    ·replace heq:=bif_true hb12 heq
     refine RgH.val1 (v':=.bool true) (congrArg Value.bool hb12) ?_
     refine Rv 9 [1,3,5,6,20] [.slice Aa0_3 a0.Digests.length ca0_3] [.load ⟨g1,3,none⟩ (.slice Aa0_3 a0.Digests.length ca0_3)] [(1,pg g1 0),(3,.bool y2.1),(5,.bool y2.2.2.1),(6,.bool y2.2.2.2),(20,.bool (decide (0<(a0.Digests.length:Int))))] (fun w hh=>(hh.box 0 rfl rfl)) ?_
     obtain rfl:=Option.some.inj heq
     refine Kg [1,3,5,6,20] [(1,pg g1 0),(3,.bool y2.1),(5,.bool y2.2.2.1),(6,.bool y2.2.2.2),(20,.bool (decide (0<(a0.Digests.length:Int))))]<|Dn ?_
     exact K6
    ·replace heq:=bif_false hb12 heq
     refine RgH.val1 (v':=.bool false) (congrArg Value.bool hb12) ?_
     refine Rk 9 [1,3,5,6,20] [(1,pg g1 0),(3,.bool y2.1),(5,.bool y2.2.2.1),(6,.bool y2.2.2.2),(20,.bool false)] ?_
     obtain rfl:=Option.some.inj heq
     refine Kg [1,3,5,6,20] [(1,pg g1 0),(3,.bool y2.1),(5,.bool y2.2.2.1),(6,.bool y2.2.2.2),(20,.bool false)]<|Dn ?_
     exact K6
  replace heq:=ht1
  refine Rr<|Rk 3 [23,1,3,4,5,6] [(23,.bool (!y2.1)),(1,pg g1 0),(3,.bool y2.1),(4,.bool y2.2.1),(5,.bool y2.2.2.1),(6,.bool y2.2.2.2)] ?_
  rcases bool_cases (!y2.1) with hb2 | hb2
  ·replace heq:=bif_true hb2 heq
   refine RgH.val1 (v':=.bool true) (congrArg Value.bool hb2) ?_
   refine Rv 8 [1,3,4,5,6,20] [.string a0.Digest] [.load ⟨g1,2,none⟩ (.string a0.Digest)] [(1,pg g1 0),(3,.bool y2.1),(4,.bool y2.2.1),(5,.bool y2.2.2.1),(6,.bool y2.2.2.2),(20,.bool (!sEq a0.Digest ({ data:=#[] }:ByteArray)))] (fun w hh=>(hh.box 0 rfl rfl)) ?_
   obtain rfl:=Option.some.inj heq
   refine Kg [1,3,4,5,6,20] [(1,pg g1 0),(3,.bool y2.1),(4,.bool y2.2.1),(5,.bool y2.2.2.1),(6,.bool y2.2.2.2),(20,.bool (!sEq a0.Digest ({ data:=#[] }:ByteArray)))]<|Dn ?_
   exact K2
  ·replace heq:=bif_false hb2 heq
   refine RgH.val1 (v':=.bool false) (congrArg Value.bool hb2) ?_
   refine Rk 8 [1,3,4,5,6,20] [(1,pg g1 0),(3,.bool y2.1),(4,.bool y2.2.1),(5,.bool y2.2.2.1),(6,.bool y2.2.2.2),(20,.bool false)] ?_
   obtain rfl:=Option.some.inj heq
   refine Kg [1,3,4,5,6,20] [(1,pg g1 0),(3,.bool y2.1),(4,.bool y2.2.1),(5,.bool y2.2.2.1),(6,.bool y2.2.2.2),(20,.bool false)]<|Dn ?_
   exact K2
noncomputable def C23:Ctx:={ P:=Tryd.prog,f:=23,N:=33,c:=bodyOf Tryd.f23 }
def S23 (F:List Ch) (H0:Hp) (r:Int) (v:Value) (H:Hp) (cs:List Ch):Prop:=H0=H∧v=iv r∧F=cs
theorem cache_newest.e2_c {w0:World} {H:Hp} {F:List Ch} {r:Int}:∀ (v_n3:Int) ,cache_newest.e2 v_n3=some r→RunH C23 (S23 F H r) H w0 [.c [1,1,1,1,0],.c [1,1,1,1,1]] [(3,iv v_n3)] H (F):=by
 intro v_n3  heq
 unfold cache_newest.e2 at heq
 refine Rr<|Rd 2 [2] [(2,iv v_n3)] ?_
 obtain rfl:=Option.some.inj heq
 exact RunH.done (by kernel_rfl) Tryd.func23 (v:=iv v_n3) (by kernel_rfl) ⟨rfl,rfl,rfl⟩
theorem cache_newest.l3_c {w0:World} {H:Hp} {F:List Ch} {r:Int} (e2:Int→Option Int)
  (he2:∀ (v_n3:Int) ,e2 v_n3=some r→RunH C23 (S23 F H r) H w0 [.c [1,1,1,1,0],.c [1,1,1,1,1]] [(3,iv v_n3)] H (F)):∀ (k:Nat),∀ (a0:Cache) (Aa0_3:Option Addr) (ca0_3:Nat) (v_n3:Int) (v23:Int) ,Rw kEntry H F Aa0_3 a0.Entries→a0.Entries.length≤ca0_3→cache_newest.l3 e2 k a0 v_n3 v23=some r→RunH C23 (S23 F H r) H w0 [.c [1,1,1,0,1,0,0],.l [1,1,1,0,1,0,0],.b 2,.c [1,1,1,1]] [(3,iv v_n3),(21,.slice Aa0_3 a0.Entries.length ca0_3),(22,iv (a0.Entries.length:Int)),(23,iv v23)] H (F):=by
 intro k
 induction k with
 | zero=>intro a0 Aa0_3 ca0_3 v_n3 v23 hra0_3 hca0_3 heq; exact nomatch (show (none:Option Int)=some r from heq)
 | succ k ihk =>
  intro a0 Aa0_3 ca0_3 v_n3 v23 hra0_3 hca0_3 heq
  rw [cache_newest.l3] at heq
  refine Ra 1 [1,1,1,0,1,0,0,0] [.c [1,1,1,0,1,0,0,1],.l [1,1,1,0,1,0,0],.b 2,.c [1,1,1,1]]<|Rd 1 [3,21,22,23,24] [(3,iv v_n3),(21,.slice Aa0_3 a0.Entries.length ca0_3),(22,iv (a0.Entries.length:Int)),(23,iv v23),(24,.bool (decide (v23<(a0.Entries.length:Int))))]<|Ad 1 [.c [1,1,1,0,1,0,0,1,0],.c [1,1,1,0,1,0,0,1,1],.l [1,1,1,0,1,0,0],.b 2,.c [1,1,1,1]] ?_
  rcases bool_cases (decide (v23<(a0.Entries.length:Int))) with hb1 | hb1
  ·replace heq:=bif_true hb1 heq
   refine Ct (decide (v23<(a0.Entries.length:Int))) hb1<|Ra 4 [1,1,1,0,1,0,0,1,1,0,0,0] [.c [1,1,1,0,1,0,0,1,1,0,0,1],.b 3,.c [1,1,1,0,1,0,0,1,1,1],.l [1,1,1,0,1,0,0],.b 2,.c [1,1,1,1]] ?_
   obtain ⟨x1,hx1,heq⟩:=bind_some heq
   obtain ⟨ha1,cs1,hK1,hcc1⟩:=hra0_3.get hx1
   obtain ⟨A1,c1,rfl,hc1,hr1⟩:=kEntry_open hK1
   refine Rv 2 [3,21,22,23,26] [.string x1.Key,.slice A1 x1.Refs.length c1,iv x1.Used] [.need (Aa0_3=some (adr Aa0_3)∧(0:Int)≤v23∧v23<((a0.Entries.length:Nat):Int)),.load (((adr Aa0_3).add (v23.toNat*3)).add 0) (.string x1.Key),.load (((adr Aa0_3).add (v23.toNat*3)).add 1) (.slice A1 x1.Refs.length c1),.load (((adr Aa0_3).add (v23.toNat*3)).add 2) (iv x1.Used)] [(3,iv v_n3),(21,.slice Aa0_3 a0.Entries.length ca0_3),(22,iv (a0.Entries.length:Int)),(23,iv v23),(26,.agg #[.string x1.Key,.slice A1 x1.Refs.length c1,iv x1.Used])] (fun w hh=>⟨⟨ha1,(at?_some hx1).1,(at?_some hx1).2.1⟩,(hcc1 _ _ (hh.drop 0) 0 _ rfl),(hcc1 _ _ (hh.drop 0) 1 _ rfl),(hcc1 _ _ (hh.drop 0) 2 _ rfl)⟩) ?_
   refine RgH.does (DoesH.new (d:=7) (v:=fun g=>.pointer (some ⟨g,0,none⟩)) (o:=fun g=>.cells #[.string ByteArray.empty,.slice none 0 0,iv 0] 57 (0,0)) (fun g=>by kernel_rfl)) ?_
   rintro _ _ _ _ ⟨g2,rfl,rfl,rfl⟩
   refine RgH.does (DoesH.store (k:=0) (g:=g2) (off:=0) (v:=.agg #[.string x1.Key,.slice A1 x1.Refs.length c1,iv x1.Used]) (cells':=#[.string x1.Key,.slice A1 x1.Refs.length c1,iv x1.Used]) (by kernel_rfl) rfl (by kernel_rfl) (by kernel_rfl)) ?_
   rintro _ _ _ _ ⟨rfl,rfl,rfl⟩
   refine Dn<|Rr<|Rw' 5 [3,21,22,23] [iv x1.Used] [.load ⟨g2,2,none⟩ (iv x1.Used)] [(3,iv (max2 v_n3 x1.Used)),(21,.slice Aa0_3 a0.Entries.length ca0_3),(22,iv (a0.Entries.length:Int)),(23,iv v23)] (fun w hh=>(hh.box 0 rfl rfl))<|Ra 1 [1,1,1,0,1,0,0,1,1,1] [.l [1,1,1,0,1,0,0],.b 2,.c [1,1,1,1]]<|Rd 2 [3,21,22,23] [(3,iv (max2 v_n3 x1.Used)),(21,.slice Aa0_3 a0.Entries.length ca0_3),(22,iv (a0.Entries.length:Int)),(23,iv (w64 (v23+1)))]<|Ad 1 [.c [1,1,1,0,1,0,0],.l [1,1,1,0,1,0,0],.b 2,.c [1,1,1,1]]<|Kp [3,21,22,23] [(3,iv (max2 v_n3 x1.Used)),(21,.slice Aa0_3 a0.Entries.length ca0_3),(22,iv (a0.Entries.length:Int)),(23,iv (w64 (v23+1)))] ?_
   refine RunH.pick 1 [] (cs':=F) (by kernel_rfl) rfl ?_
   exact ihk a0 _ _ (max2 v_n3 x1.Used) (w64 (v23+1)) hra0_3 hca0_3 heq
  ·replace heq:=bif_false hb1 heq
   refine Cf (decide (v23<(a0.Entries.length:Int))) hb1<|Ad 2 [.c [1,1,1,1,0],.c [1,1,1,1,1]]<|Kp [3] [(3,iv v_n3)] ?_
   exact he2 v_n3 heq
theorem cache_newest.e1_c {w0:World} {H:Hp} {F:List Ch} {r:Int}:∀ (a0:Cache) (Aa0_2:Option Addr) (ca0_2:Nat) (Aa0_3:Option Addr) (ca0_3:Nat) (g1:Nat) (v_n3:Int) ,Rw kBlob H F Aa0_2 a0.Blobs→a0.Blobs.length≤ca0_2→Rw kEntry H F Aa0_3 a0.Entries→a0.Entries.length≤ca0_3→cache_newest.e1 a0 v_n3=some r→RunH C23 (S23 F H r) H w0 [.c [1,1,1,0,0],.c [1,1,1,0,1],.c [1,1,1,1]] [(1,pg g1 0),(3,iv v_n3)] H ((some (g1,.cells #[iv a0.Room,iv a0.Lease,.slice Aa0_2 a0.Blobs.length ca0_2,.slice Aa0_3 a0.Entries.length ca0_3] 25 (0,0)))::F):=by
 intro a0 Aa0_2 ca0_2 Aa0_3 ca0_3 g1 v_n3 hra0_2 hca0_2 hra0_3 hca0_3 heq
 unfold cache_newest.e1 at heq
 refine Rr<|Rw' 4 [3,21,22,23] [.slice Aa0_3 a0.Entries.length ca0_3] [.load ⟨g1,3,none⟩ (.slice Aa0_3 a0.Entries.length ca0_3)] [(3,iv v_n3),(21,.slice Aa0_3 a0.Entries.length ca0_3),(22,iv (a0.Entries.length:Int)),(23,iv 0)] (fun w hh=>(hh.box 0 rfl rfl))<|Ad 2 [.c [1,1,1,0,1,0,0],.l [1,1,1,0,1,0,0],.b 2,.c [1,1,1,1]]<|Kp [3,21,22,23] [(3,iv v_n3),(21,.slice Aa0_3 a0.Entries.length ca0_3),(22,iv (a0.Entries.length:Int)),(23,iv 0)] ?_
 refine RunH.pick 1 [] (cs':=F) (by kernel_rfl) rfl ?_
 exact ((cache_newest.l3_c (e2:=cache_newest.e2) (cache_newest.e2_c)) big) a0 _ _ v_n3 0 hra0_3 hca0_3 heq
theorem cache_newest.l4_c {w0:World} {H:Hp} {F:List Ch} {r:Int} (e1:Cache→Int→Option Int)
  (he1:∀ (a0:Cache) (Aa0_2:Option Addr) (ca0_2:Nat) (Aa0_3:Option Addr) (ca0_3:Nat) (g1:Nat) (v_n3:Int) ,Rw kBlob H F Aa0_2 a0.Blobs→a0.Blobs.length≤ca0_2→Rw kEntry H F Aa0_3 a0.Entries→a0.Entries.length≤ca0_3→e1 a0 v_n3=some r→RunH C23 (S23 F H r) H w0 [.c [1,1,1,0,0],.c [1,1,1,0,1],.c [1,1,1,1]] [(1,pg g1 0),(3,iv v_n3)] H ((some (g1,.cells #[iv a0.Room,iv a0.Lease,.slice Aa0_2 a0.Blobs.length ca0_2,.slice Aa0_3 a0.Entries.length ca0_3] 25 (0,0)))::F)):∀ (k:Nat),∀ (a0:Cache) (Aa0_2:Option Addr) (ca0_2:Nat) (Aa0_3:Option Addr) (ca0_3:Nat) (g1:Nat) (v_n3:Int) (v11:Int) ,Rw kBlob H F Aa0_2 a0.Blobs→a0.Blobs.length≤ca0_2→Rw kEntry H F Aa0_3 a0.Entries→a0.Entries.length≤ca0_3→cache_newest.l4 e1 k a0 v_n3 v11=some r→RunH C23 (S23 F H r) H w0 [.c [1,1,0,1,0,0],.l [1,1,0,1,0,0],.b 0,.c [1,1,1]] [(1,pg g1 0),(3,iv v_n3),(9,.slice Aa0_2 a0.Blobs.length ca0_2),(10,iv (a0.Blobs.length:Int)),(11,iv v11)] H ((some (g1,.cells #[iv a0.Room,iv a0.Lease,.slice Aa0_2 a0.Blobs.length ca0_2,.slice Aa0_3 a0.Entries.length ca0_3] 25 (0,0)))::F):=by
 intro k
 induction k with
 | zero=>intro a0 Aa0_2 ca0_2 Aa0_3 ca0_3 g1 v_n3 v11 hra0_2 hca0_2 hra0_3 hca0_3 heq; exact nomatch (show (none:Option Int)=some r from heq)
 | succ k ihk =>
  intro a0 Aa0_2 ca0_2 Aa0_3 ca0_3 g1 v_n3 v11 hra0_2 hca0_2 hra0_3 hca0_3 heq
  rw [cache_newest.l4] at heq
  refine Ra 1 [1,1,0,1,0,0,0] [.c [1,1,0,1,0,0,1],.l [1,1,0,1,0,0],.b 0,.c [1,1,1]]<|Rd 1 [1,3,9,10,11,12] [(1,pg g1 0),(3,iv v_n3),(9,.slice Aa0_2 a0.Blobs.length ca0_2),(10,iv (a0.Blobs.length:Int)),(11,iv v11),(12,.bool (decide (v11<(a0.Blobs.length:Int))))]<|Ad 1 [.c [1,1,0,1,0,0,1,0],.c [1,1,0,1,0,0,1,1],.l [1,1,0,1,0,0],.b 0,.c [1,1,1]] ?_
  rcases bool_cases (decide (v11<(a0.Blobs.length:Int))) with hb2 | hb2
  ·replace heq:=bif_true hb2 heq
   refine Ct (decide (v11<(a0.Blobs.length:Int))) hb2<|Ra 4 [1,1,0,1,0,0,1,1,0,0,0] [.c [1,1,0,1,0,0,1,1,0,0,1],.b 1,.c [1,1,0,1,0,0,1,1,1],.l [1,1,0,1,0,0],.b 0,.c [1,1,1]] ?_
   obtain ⟨x2,hx2,heq⟩:=bind_some heq
   obtain ⟨ha2,cs2,hK2,hcc2⟩:=hra0_2.get hx2
   obtain ⟨rfl⟩:=kBlob_open hK2
   refine Rv 2 [1,3,9,10,11,14] [.string x2.Digest,iv x2.Size,iv x2.Used,iv x2.Until,iv x2.Pins] [.need (Aa0_2=some (adr Aa0_2)∧(0:Int)≤v11∧v11<((a0.Blobs.length:Nat):Int)),.load (((adr Aa0_2).add (v11.toNat*5)).add 0) (.string x2.Digest),.load (((adr Aa0_2).add (v11.toNat*5)).add 1) (iv x2.Size),.load (((adr Aa0_2).add (v11.toNat*5)).add 2) (iv x2.Used),.load (((adr Aa0_2).add (v11.toNat*5)).add 3) (iv x2.Until),.load (((adr Aa0_2).add (v11.toNat*5)).add 4) (iv x2.Pins)] [(1,pg g1 0),(3,iv v_n3),(9,.slice Aa0_2 a0.Blobs.length ca0_2),(10,iv (a0.Blobs.length:Int)),(11,iv v11),(14,.agg #[.string x2.Digest,iv x2.Size,iv x2.Used,iv x2.Until,iv x2.Pins])] (fun w hh=>⟨⟨ha2,(at?_some hx2).1,(at?_some hx2).2.1⟩,(hcc2 _ _ (hh.drop 1) 0 _ rfl),(hcc2 _ _ (hh.drop 1) 1 _ rfl),(hcc2 _ _ (hh.drop 1) 2 _ rfl),(hcc2 _ _ (hh.drop 1) 3 _ rfl),(hcc2 _ _ (hh.drop 1) 4 _ rfl)⟩) ?_
   refine RgH.does (DoesH.new (d:=5) (v:=fun g=>.pointer (some ⟨g,0,none⟩)) (o:=fun g=>.cells #[.string ByteArray.empty,iv 0,iv 0,iv 0,iv 0] 29 (0,0)) (fun g=>by kernel_rfl)) ?_
   rintro _ _ _ _ ⟨g3,rfl,rfl,rfl⟩
   refine RgH.does (DoesH.store (k:=0) (g:=g3) (off:=0) (v:=.agg #[.string x2.Digest,iv x2.Size,iv x2.Used,iv x2.Until,iv x2.Pins]) (cells':=#[.string x2.Digest,iv x2.Size,iv x2.Used,iv x2.Until,iv x2.Pins]) (by kernel_rfl) rfl (by kernel_rfl) (by kernel_rfl)) ?_
   rintro _ _ _ _ ⟨rfl,rfl,rfl⟩
   refine Dn<|Rr<|Rw' 5 [1,3,9,10,11] [iv x2.Used] [.load ⟨g3,2,none⟩ (iv x2.Used)] [(1,pg g1 0),(3,iv (max2 v_n3 x2.Used)),(9,.slice Aa0_2 a0.Blobs.length ca0_2),(10,iv (a0.Blobs.length:Int)),(11,iv v11)] (fun w hh=>(hh.box 0 rfl rfl))<|Ra 1 [1,1,0,1,0,0,1,1,1] [.l [1,1,0,1,0,0],.b 0,.c [1,1,1]]<|Rd 2 [1,3,9,10,11] [(1,pg g1 0),(3,iv (max2 v_n3 x2.Used)),(9,.slice Aa0_2 a0.Blobs.length ca0_2),(10,iv (a0.Blobs.length:Int)),(11,iv (w64 (v11+1)))]<|Ad 1 [.c [1,1,0,1,0,0],.l [1,1,0,1,0,0],.b 0,.c [1,1,1]]<|Kp [1,3,9,10,11] [(1,pg g1 0),(3,iv (max2 v_n3 x2.Used)),(9,.slice Aa0_2 a0.Blobs.length ca0_2),(10,iv (a0.Blobs.length:Int)),(11,iv (w64 (v11+1)))] ?_
   refine RunH.pick 2 [1] (cs':=(some (g1,.cells #[iv a0.Room,iv a0.Lease,.slice Aa0_2 a0.Blobs.length ca0_2,.slice Aa0_3 a0.Entries.length ca0_3] 25 (0,0)))::F) (by kernel_rfl) rfl ?_
   exact ihk a0 _ _ _ _ _ (max2 v_n3 x2.Used) (w64 (v11+1)) hra0_2 hca0_2 hra0_3 hca0_3 heq
  ·replace heq:=bif_false hb2 heq
   refine Cf (decide (v11<(a0.Blobs.length:Int))) hb2<|Ad 3 [.c [1,1,1,0,0],.c [1,1,1,0,1],.c [1,1,1,1]]<|Kp [1,3] [(1,pg g1 0),(3,iv v_n3)] ?_
   exact he1 a0 _ _ _ _ _ v_n3 hra0_2 hca0_2 hra0_3 hca0_3 heq
theorem cache_newest_c {w0:World} {H:Hp} {F:List Ch} {a0:Cache} {Aa0_2:Option Addr} {na0_2:Nat} {ca0_2:Nat} {Aa0_3:Option Addr} {na0_3:Nat} {ca0_3:Nat} {r:Int} (hra0_2:Rw kBlob H F Aa0_2 a0.Blobs) (hca0_2:na0_2≤ca0_2) (hna0_2:na0_2=a0.Blobs.length) (hra0_3:Rw kEntry H F Aa0_3 a0.Entries) (hca0_3:na0_3≤ca0_3) (hna0_3:na0_3=a0.Entries.length) (heq:cache_newest.f a0=some r):CallsH Tryd.prog 23 #[.agg #[iv a0.Room,iv a0.Lease,.slice Aa0_2 na0_2 ca0_2,.slice Aa0_3 na0_3 ca0_3]] H w0 (F) (S23 F H r):=by
 refine calls_of_runH (F:=C23) Tryd.func23 (by kernel_rfl) Tryd.ntmps23 (args:=[.agg #[iv a0.Room,iv a0.Lease,.slice Aa0_2 na0_2 ca0_2,.slice Aa0_3 na0_3 ca0_3]]) (by kernel_rfl) ?_
 subst hna0_2
 subst hna0_3
 unfold cache_newest.f at heq
 refine Ra 1 [0] [.c [1]] ?_
 refine RgH.does (DoesH.new (d:=1) (v:=fun g=>.pointer (some ⟨g,0,none⟩)) (o:=fun g=>.cells #[iv a0.Room,iv a0.Lease,.slice Aa0_2 a0.Blobs.length ca0_2,.slice Aa0_3 a0.Entries.length ca0_3] 25 (0,0)) (fun g=>by kernel_rfl)) ?_
 rintro _ _ _ _ ⟨g1,rfl,rfl,rfl⟩
 refine Rd 2 [1] [(1,pg g1 0)]<|Ra 1 [1,0] [.c [1,1]]<|Rd 1 [1,3] [(1,pg g1 0),(3,iv 0)]<|Ra 2 [1,1,0,0] [.c [1,1,0,1],.c [1,1,1]]<|Rw' 4 [1,3,9,10,11] [.slice Aa0_2 a0.Blobs.length ca0_2] [.load ⟨g1,2,none⟩ (.slice Aa0_2 a0.Blobs.length ca0_2)] [(1,pg g1 0),(3,iv 0),(9,.slice Aa0_2 a0.Blobs.length ca0_2),(10,iv (a0.Blobs.length:Int)),(11,iv 0)] (fun w hh=>(hh.box 0 rfl rfl))<|Ad 2 [.c [1,1,0,1,0,0],.l [1,1,0,1,0,0],.b 0,.c [1,1,1]]<|Kp [1,3,9,10,11] [(1,pg g1 0),(3,iv 0),(9,.slice Aa0_2 a0.Blobs.length ca0_2),(10,iv (a0.Blobs.length:Int)),(11,iv 0)] ?_
 exact ((cache_newest.l4_c (e1:=cache_newest.e1) (cache_newest.e1_c)) big) a0 _ _ _ _ _ 0 0 hra0_2 hca0_2 hra0_3 hca0_3 heq
def S43 (F:List Ch) (H0:Hp) (r:Int) (v:Value) (H:Hp) (cs:List Ch):Prop:=H0=H∧v=iv r∧F=cs
theorem strings_Compare_c {w0:World} {H:Hp} {F:List Ch} {a0:ByteArray} {a1:ByteArray} {r:Int} (heq:strings_Compare.f a0 a1=some r):CallsH Tryd.prog 43 #[.string a0,.string a1] H w0 F (S43 F H r):=by
 intro w hh
 unfold strings_Compare.f at heq
 obtain rfl:=Option.some.inj heq
 refine (Shelf.Tryd.strings_Compare a0 a1 w).mono ?_
 rintro e w' ⟨rfl,rfl⟩
 exact ⟨_,rfl,H,F,Le.refl H,hh,rfl,rfl,rfl⟩
noncomputable def C42:Ctx:={ P:=Tryd.prog,f:=42,N:=9,c:=bodyOf Tryd.f42 }
def S42 (F:List Ch) (H0:Hp) (r:Int) (v:Value) (H:Hp) (cs:List Ch):Prop:=H0=H∧v=iv r∧F=cs
theorem cache_find_1_c {w0:World} {H:Hp} {F:List Ch} {a0:Blob} {a1:ByteArray} {r:Int} (heq:cache_find_1.f a0 a1=some r):CallsH Tryd.prog 42 #[.agg #[.string a0.Digest,iv a0.Size,iv a0.Used,iv a0.Until,iv a0.Pins],.string a1] H w0 (F) (S42 F H r):=by
 refine calls_of_runH (F:=C42) Tryd.func42 (by kernel_rfl) Tryd.ntmps42 (args:=[.agg #[.string a0.Digest,iv a0.Size,iv a0.Used,iv a0.Until,iv a0.Pins],.string a1]) (by kernel_rfl) ?_
 unfold cache_find_1.f at heq
 refine Ra 1 [0] [.c [1]] ?_
 refine RgH.does (DoesH.new (d:=2) (v:=fun g=>.pointer (some ⟨g,0,none⟩)) (o:=fun g=>.cells #[.string a0.Digest,iv a0.Size,iv a0.Used,iv a0.Until,iv a0.Pins] 29 (0,0)) (fun g=>by kernel_rfl)) ?_
 rintro _ _ _ _ ⟨g1,rfl,rfl,rfl⟩
 refine Rd 2 [1,2] [(1,.string a1),(2,pg g1 0)]<|Ra 1 [1,0] [.c [1,1]]<|Rv 3 [6,7] [.string a0.Digest] [.load ⟨g1,0,none⟩ (.string a0.Digest)] [(6,.string a0.Digest),(7,.string a1)] (fun w hh=>(hh.box 0 rfl rfl)) ?_
 obtain ⟨y1,hy1,heq⟩:=bind_some heq
 refine RgH.does (DoesH.call (d:=8) (g:=43) (args:=#[.string a0.Digest,.string a1]) (by kernel_rfl) (strings_Compare_c (a0:=a0.Digest) (a1:=a1)  hy1)) ?_
 rintro _ _ _ _ ⟨_,rfl,rfl,rfl,rfl⟩
 refine Rd 5 [4] [(4,iv y1)] ?_
 obtain rfl:=Option.some.inj heq
 refine RunH.pick 1 [] (cs':=F) (by kernel_rfl) rfl ?_
 exact RunH.done (by kernel_rfl) Tryd.func42 (v:=iv y1) (by kernel_rfl) ⟨rfl,rfl,rfl⟩
noncomputable def C41:Ctx:={ P:=Tryd.prog,f:=41,N:=49,c:=bodyOf Tryd.f41 }
def S41 (F:List Ch) (H0:Hp) (r:Int × Bool) (v:Value) (H:Hp) (cs:List Ch):Prop:=H0=H∧v=.tuple #[iv r.1,.bool r.2]∧F=cs
theorem slices_BinarySearchFunc_Blob_string.e1_c {w0:World} {H:Hp} {F:List Ch} {r:Int × Bool}:∀ (a0:List Blob) (Aa0:Option Addr) (ca0:Nat) (a1:ByteArray) (v_i9:Int) ,Rw kBlob H F Aa0 a0→a0.length≤ca0→slices_BinarySearchFunc_Blob_string.e1 a0 a1 v_i9=some r→RunH C41 (S41 F H r) H w0 [.c [1,1,1,1,0],.c [1,1,1,1,1]] [(0,.slice Aa0 a0.length ca0),(1,.string a1),(2,.func (.func 42) #[] #[]),(8,iv (a0.length:Int)),(9,iv v_i9)] H (F):=by
 intro a0 Aa0 ca0 a1 v_i9 hra0 hca0 heq
 unfold slices_BinarySearchFunc_Blob_string.e1 at heq
 obtain ⟨t1,ht1,heq⟩:=bind_some heq
 have K1:RunH C41 (S41 F H r) H w0 [.c [1,1,1,1,1]] [(6,iv v_i9),(7,.bool t1)] H (F):=by
  obtain rfl:=Option.some.inj heq
  exact RunH.done (by kernel_rfl) Tryd.func41 (v:=.tuple #[iv v_i9,.bool t1]) (by kernel_rfl) ⟨rfl,rfl,rfl⟩
 replace heq:=ht1
 refine Rr<|Rk 5 [39,0,1,2,9,35] [(39,.bool (decide (v_i9<(a0.length:Int)))),(0,.slice Aa0 a0.length ca0),(1,.string a1),(2,.func (.func 42) #[] #[]),(9,iv v_i9),(35,iv v_i9)] ?_
 rcases bool_cases (decide (v_i9<(a0.length:Int))) with hb1 | hb1
 ·replace heq:=bif_true hb1 heq
  refine RgH.val1 (v':=.bool true) (congrArg Value.bool hb1) ?_
  obtain ⟨x1,hx1,heq⟩:=bind_some heq
  obtain ⟨ha1,cs1,hK1,hcc1⟩:=hra0.get hx1
  obtain ⟨rfl⟩:=kBlob_open hK1
  refine Rv 11 [35,39,40,44,45] [.string x1.Digest,iv x1.Size,iv x1.Used,iv x1.Until,iv x1.Pins] [.need (Aa0=some (adr Aa0)∧(0:Int)≤v_i9∧v_i9<((a0.length:Nat):Int)),.load (((adr Aa0).add (v_i9.toNat*5)).add 0) (.string x1.Digest),.load (((adr Aa0).add (v_i9.toNat*5)).add 1) (iv x1.Size),.load (((adr Aa0).add (v_i9.toNat*5)).add 2) (iv x1.Used),.load (((adr Aa0).add (v_i9.toNat*5)).add 3) (iv x1.Until),.load (((adr Aa0).add (v_i9.toNat*5)).add 4) (iv x1.Pins)] [(35,iv v_i9),(39,.bool true),(40,.func (.func 42) #[] #[]),(44,.agg #[.string x1.Digest,iv x1.Size,iv x1.Used,iv x1.Until,iv x1.Pins]),(45,.string a1)] (fun w hh=>⟨⟨ha1,(at?_some hx1).1,(at?_some hx1).2.1⟩,(hcc1 _ _ (hh.drop 0) 0 _ rfl),(hcc1 _ _ (hh.drop 0) 1 _ rfl),(hcc1 _ _ (hh.drop 0) 2 _ rfl),(hcc1 _ _ (hh.drop 0) 3 _ rfl),(hcc1 _ _ (hh.drop 0) 4 _ rfl)⟩) ?_
  obtain ⟨y1,hy1,heq⟩:=bind_some heq
  refine RgH.does (DoesH.call (d:=46) (g:=42) (args:=#[.agg #[.string x1.Digest,iv x1.Size,iv x1.Used,iv x1.Until,iv x1.Pins],.string a1]) (by kernel_rfl) (cache_find_1_c (a0:=x1) (a1:=a1)  hy1)) ?_
  rintro _ _ _ _ ⟨_,rfl,rfl,rfl,rfl⟩
  refine Rk 16 [6,7] [(6,iv v_i9),(7,.bool (y1 == 0))] ?_
  obtain rfl:=Option.some.inj heq
  refine Kg [6,7] [(6,iv v_i9),(7,.bool (y1 == 0))]<|Dn ?_
  exact K1
 ·replace heq:=bif_false hb1 heq
  refine RgH.val1 (v':=.bool false) (congrArg Value.bool hb1) ?_
  refine Rk 16 [6,7] [(6,iv v_i9),(7,.bool false)] ?_
  obtain rfl:=Option.some.inj heq
  refine Kg [6,7] [(6,iv v_i9),(7,.bool false)]<|Dn ?_
  exact K1
theorem slices_BinarySearchFunc_Blob_string.l2_c {w0:World} {H:Hp} {F:List Ch} {r:Int × Bool} (e1:(List Blob)→ByteArray→Int→Option (Int × Bool))
  (he1:∀ (a0:List Blob) (Aa0:Option Addr) (ca0:Nat) (a1:ByteArray) (v_i9:Int) ,Rw kBlob H F Aa0 a0→a0.length≤ca0→e1 a0 a1 v_i9=some r→RunH C41 (S41 F H r) H w0 [.c [1,1,1,1,0],.c [1,1,1,1,1]] [(0,.slice Aa0 a0.length ca0),(1,.string a1),(2,.func (.func 42) #[] #[]),(8,iv (a0.length:Int)),(9,iv v_i9)] H (F)):∀ (k:Nat),∀ (a0:List Blob) (Aa0:Option Addr) (ca0:Nat) (a1:ByteArray) (v_i9:Int) (v_j10:Int) ,Rw kBlob H F Aa0 a0→a0.length≤ca0→slices_BinarySearchFunc_Blob_string.l2 e1 k a0 a1 v_i9 v_j10=some r→RunH C41 (S41 F H r) H w0 [.c [1,1,1,0,0,0],.l [1,1,1,0,0,0],.b 0,.c [1,1,1,1]] [(0,.slice Aa0 a0.length ca0),(1,.string a1),(2,.func (.func 42) #[] #[]),(8,iv (a0.length:Int)),(9,iv v_i9),(10,iv v_j10)] H (F):=by
 intro k
 induction k with
 | zero=>intro a0 Aa0 ca0 a1 v_i9 v_j10 hra0 hca0 heq; exact nomatch (show (none:Option (Int × Bool))=some r from heq)
 | succ k ihk =>
  intro a0 Aa0 ca0 a1 v_i9 v_j10 hra0 hca0 heq
  rw [slices_BinarySearchFunc_Blob_string.l2] at heq
  refine Ra 2 [1,1,1,0,0,0,0,0] [.c [1,1,1,0,0,0,0,1],.c [1,1,1,0,0,0,1],.l [1,1,1,0,0,0],.b 0,.c [1,1,1,1]]<|Rd 3 [0,1,2,8,9,10,17] [(0,.slice Aa0 a0.length ca0),(1,.string a1),(2,.func (.func 42) #[] #[]),(8,iv (a0.length:Int)),(9,iv v_i9),(10,iv v_j10),(17,.bool (decide (v_i9<v_j10)))] ?_
  rcases bool_cases (decide (v_i9<v_j10)) with hb2 | hb2
  ·replace heq:=bif_true hb2 heq
   refine Ct (decide (v_i9<v_j10)) hb2<|Ra 3 [1,1,1,0,0,0,1,0,0] [.c [1,1,1,0,0,0,1,0,1],.b 1,.l [1,1,1,0,0,0],.b 0,.c [1,1,1,1]]<|Rw' 7 [0,1,2,8,9,10,11] [] [.need ((0:Int)≤1)] [(0,.slice Aa0 a0.length ca0),(1,.string a1),(2,.func (.func 42) #[] #[]),(8,iv (a0.length:Int)),(9,iv v_i9),(10,iv v_j10),(11,iv (w64 (iShr .u64 (IntKind.wrap .u64 (w64 (v_i9+v_j10))) 1)))] (fun w hh=>(show (0:Int)≤1 by decide))<|Ra 1 [1,1,1,0,0,0,1,0,1,0] [.c [1,1,1,0,0,0,1,0,1,1],.b 1,.l [1,1,1,0,0,0],.b 0,.c [1,1,1,1]] ?_
   obtain ⟨x2,hx2,heq⟩:=bind_some heq
   obtain ⟨ha2,cs2,hK2,hcc2⟩:=hra0.get hx2
   obtain ⟨rfl⟩:=kBlob_open hK2
   refine Rv 6 [0,1,2,8,9,10,11,24,28,29] [.string x2.Digest,iv x2.Size,iv x2.Used,iv x2.Until,iv x2.Pins] [.need (Aa0=some (adr Aa0)∧(0:Int)≤(w64 (iShr .u64 (IntKind.wrap .u64 (w64 (v_i9+v_j10))) 1))∧(w64 (iShr .u64 (IntKind.wrap .u64 (w64 (v_i9+v_j10))) 1))<((a0.length:Nat):Int)),.load (((adr Aa0).add ((w64 (iShr .u64 (IntKind.wrap .u64 (w64 (v_i9+v_j10))) 1)).toNat*5)).add 0) (.string x2.Digest),.load (((adr Aa0).add ((w64 (iShr .u64 (IntKind.wrap .u64 (w64 (v_i9+v_j10))) 1)).toNat*5)).add 1) (iv x2.Size),.load (((adr Aa0).add ((w64 (iShr .u64 (IntKind.wrap .u64 (w64 (v_i9+v_j10))) 1)).toNat*5)).add 2) (iv x2.Used),.load (((adr Aa0).add ((w64 (iShr .u64 (IntKind.wrap .u64 (w64 (v_i9+v_j10))) 1)).toNat*5)).add 3) (iv x2.Until),.load (((adr Aa0).add ((w64 (iShr .u64 (IntKind.wrap .u64 (w64 (v_i9+v_j10))) 1)).toNat*5)).add 4) (iv x2.Pins)] [(0,.slice Aa0 a0.length ca0),(1,.string a1),(2,.func (.func 42) #[] #[]),(8,iv (a0.length:Int)),(9,iv v_i9),(10,iv v_j10),(11,iv (w64 (iShr .u64 (IntKind.wrap .u64 (w64 (v_i9+v_j10))) 1))),(24,.func (.func 42) #[] #[]),(28,.agg #[.string x2.Digest,iv x2.Size,iv x2.Used,iv x2.Until,iv x2.Pins]),(29,.string a1)] (fun w hh=>⟨⟨ha2,(at?_some hx2).1,(at?_some hx2).2.1⟩,(hcc2 _ _ (hh.drop 0) 0 _ rfl),(hcc2 _ _ (hh.drop 0) 1 _ rfl),(hcc2 _ _ (hh.drop 0) 2 _ rfl),(hcc2 _ _ (hh.drop 0) 3 _ rfl),(hcc2 _ _ (hh.drop 0) 4 _ rfl)⟩) ?_
   obtain ⟨y2,hy2,heq⟩:=bind_some heq
   refine RgH.does (DoesH.call (d:=30) (g:=42) (args:=#[.agg #[.string x2.Digest,iv x2.Size,iv x2.Used,iv x2.Until,iv x2.Pins],.string a1]) (by kernel_rfl) (cache_find_1_c (a0:=x2) (a1:=a1)  hy2)) ?_
   rintro _ _ _ _ ⟨_,rfl,rfl,rfl,rfl⟩
   refine Rd 8 [0,1,2,8,9,10,11,31] [(0,.slice Aa0 a0.length ca0),(1,.string a1),(2,.func (.func 42) #[] #[]),(8,iv (a0.length:Int)),(9,iv v_i9),(10,iv v_j10),(11,iv (w64 (iShr .u64 (IntKind.wrap .u64 (w64 (v_i9+v_j10))) 1))),(31,.bool (decide (y2<0)))] ?_
   rcases bool_cases (decide (y2<0)) with hb3 | hb3
   ·replace heq:=bif_true hb3 heq
    refine Ct (decide (y2<0)) hb3<|Rr<|Rd 3 [0,1,2,8,9,10] [(0,.slice Aa0 a0.length ca0),(1,.string a1),(2,.func (.func 42) #[] #[]),(8,iv (a0.length:Int)),(9,iv (w64 ((w64 (iShr .u64 (IntKind.wrap .u64 (w64 (v_i9+v_j10))) 1))+1))),(10,iv v_j10)]<|Ad 2 [.c [1,1,1,0,0,0],.l [1,1,1,0,0,0],.b 0,.c [1,1,1,1]]<|Kp [0,1,2,8,9,10] [(0,.slice Aa0 a0.length ca0),(1,.string a1),(2,.func (.func 42) #[] #[]),(8,iv (a0.length:Int)),(9,iv (w64 ((w64 (iShr .u64 (IntKind.wrap .u64 (w64 (v_i9+v_j10))) 1))+1))),(10,iv v_j10)] ?_
    exact ihk a0 _ _ a1 (w64 ((w64 (iShr .u64 (IntKind.wrap .u64 (w64 (v_i9+v_j10))) 1))+1)) v_j10 hra0 hca0 heq
   ·replace heq:=bif_false hb3 heq
    refine Cf (decide (y2<0)) hb3<|Rr<|Rd 2 [0,1,2,8,9,10] [(0,.slice Aa0 a0.length ca0),(1,.string a1),(2,.func (.func 42) #[] #[]),(8,iv (a0.length:Int)),(9,iv v_i9),(10,iv (w64 (iShr .u64 (IntKind.wrap .u64 (w64 (v_i9+v_j10))) 1)))]<|Ad 2 [.c [1,1,1,0,0,0],.l [1,1,1,0,0,0],.b 0,.c [1,1,1,1]]<|Kp [0,1,2,8,9,10] [(0,.slice Aa0 a0.length ca0),(1,.string a1),(2,.func (.func 42) #[] #[]),(8,iv (a0.length:Int)),(9,iv v_i9),(10,iv (w64 (iShr .u64 (IntKind.wrap .u64 (w64 (v_i9+v_j10))) 1)))] ?_
    exact ihk a0 _ _ a1 v_i9 (w64 (iShr .u64 (IntKind.wrap .u64 (w64 (v_i9+v_j10))) 1)) hra0 hca0 heq
  ·replace heq:=bif_false hb2 heq
   refine Cf (decide (v_i9<v_j10)) hb2<|Ad 2 [.c [1,1,1,1,0],.c [1,1,1,1,1]]<|Kp [0,1,2,8,9] [(0,.slice Aa0 a0.length ca0),(1,.string a1),(2,.func (.func 42) #[] #[]),(8,iv (a0.length:Int)),(9,iv v_i9)] ?_
   exact he1 a0 _ _ a1 v_i9 hra0 hca0 heq
theorem slices_BinarySearchFunc_Blob_string_c {w0:World} {H:Hp} {F:List Ch} {a0:List Blob} {Aa0:Option Addr} {na0:Nat} {ca0:Nat} {a1:ByteArray} {r:Int × Bool} (hra0:Rw kBlob H F Aa0 a0) (hca0:na0≤ca0) (hna0:na0=a0.length) (heq:slices_BinarySearchFunc_Blob_string.f a0 a1=some r):CallsH Tryd.prog 41 #[.slice Aa0 na0 ca0,.string a1,.func (.func 42) #[] #[]] H w0 (F) (S41 F H r):=by
 refine calls_of_runH (F:=C41) Tryd.func41 (by kernel_rfl) Tryd.ntmps41 (args:=[.slice Aa0 na0 ca0,.string a1,.func (.func 42) #[] #[]]) (by kernel_rfl) ?_
 subst hna0
 unfold slices_BinarySearchFunc_Blob_string.f at heq
 refine Ra 1 [0] [.c [1]]<|Rd 2 [0,1,2] [(0,.slice Aa0 a0.length ca0),(1,.string a1),(2,.func (.func 42) #[] #[])]<|Ra 1 [1,0] [.c [1,1]]<|Rd 3 [0,1,2,8] [(0,.slice Aa0 a0.length ca0),(1,.string a1),(2,.func (.func 42) #[] #[]),(8,iv (a0.length:Int))]<|Ra 1 [1,1,0] [.c [1,1,1]]<|Rd 3 [0,1,2,8,9,10] [(0,.slice Aa0 a0.length ca0),(1,.string a1),(2,.func (.func 42) #[] #[]),(8,iv (a0.length:Int)),(9,iv 0),(10,iv (a0.length:Int))]<|Ad 3 [.c [1,1,1,0,0,0],.l [1,1,1,0,0,0],.b 0,.c [1,1,1,1]]<|Kp [0,1,2,8,9,10] [(0,.slice Aa0 a0.length ca0),(1,.string a1),(2,.func (.func 42) #[] #[]),(8,iv (a0.length:Int)),(9,iv 0),(10,iv (a0.length:Int))] ?_
 exact ((slices_BinarySearchFunc_Blob_string.l2_c (e1:=slices_BinarySearchFunc_Blob_string.e1) (slices_BinarySearchFunc_Blob_string.e1_c)) big) a0 _ _ a1 0 (a0.length:Int) hra0 hca0 heq
noncomputable def C24:Ctx:={ P:=Tryd.prog,f:=24,N:=12,c:=bodyOf Tryd.f24 }
def S24 (F:List Ch) (H0:Hp) (r:Int × Bool) (v:Value) (H:Hp) (cs:List Ch):Prop:=H0=H∧v=.tuple #[iv r.1,.bool r.2]∧F=cs
theorem cache_find_c {w0:World} {H:Hp} {F:List Ch} {a0:Cache} {Aa0_2:Option Addr} {na0_2:Nat} {ca0_2:Nat} {Aa0_3:Option Addr} {na0_3:Nat} {ca0_3:Nat} {a1:ByteArray} {r:Int × Bool} (hra0_2:Rw kBlob H F Aa0_2 a0.Blobs) (hca0_2:na0_2≤ca0_2) (hna0_2:na0_2=a0.Blobs.length) (hra0_3:Rw kEntry H F Aa0_3 a0.Entries) (hca0_3:na0_3≤ca0_3) (hna0_3:na0_3=a0.Entries.length) (heq:cache_find.f a0 a1=some r):CallsH Tryd.prog 24 #[.agg #[iv a0.Room,iv a0.Lease,.slice Aa0_2 na0_2 ca0_2,.slice Aa0_3 na0_3 ca0_3],.string a1] H w0 (F) (S24 F H r):=by
 refine calls_of_runH (F:=C24) Tryd.func24 (by kernel_rfl) Tryd.ntmps24 (args:=[.agg #[iv a0.Room,iv a0.Lease,.slice Aa0_2 na0_2 ca0_2,.slice Aa0_3 na0_3 ca0_3],.string a1]) (by kernel_rfl) ?_
 subst hna0_2
 subst hna0_3
 unfold cache_find.f at heq
 refine Ra 1 [0] [.c [1]] ?_
 refine RgH.does (DoesH.new (d:=2) (v:=fun g=>.pointer (some ⟨g,0,none⟩)) (o:=fun g=>.cells #[iv a0.Room,iv a0.Lease,.slice Aa0_2 a0.Blobs.length ca0_2,.slice Aa0_3 a0.Entries.length ca0_3] 25 (0,0)) (fun g=>by kernel_rfl)) ?_
 rintro _ _ _ _ ⟨g1,rfl,rfl,rfl⟩
 refine Rd 3 [1,2] [(1,.string a1),(2,pg g1 0)]<|Ra 1 [1,0] [.c [1,1]]<|Rv 3 [7,8] [.slice Aa0_2 a0.Blobs.length ca0_2] [.load ⟨g1,2,none⟩ (.slice Aa0_2 a0.Blobs.length ca0_2)] [(7,.slice Aa0_2 a0.Blobs.length ca0_2),(8,.string a1)] (fun w hh=>(hh.box 0 rfl rfl)) ?_
 obtain ⟨y1,hy1,heq⟩:=bind_some heq
 refine RgH.does (DoesH.call (d:=9) (g:=41) (args:=#[.slice Aa0_2 a0.Blobs.length ca0_2,.string a1,.func (.func 42) #[] #[]]) (by kernel_rfl) (slices_BinarySearchFunc_Blob_string_c (a0:=a0.Blobs) (a1:=a1) (hra0_2.wk (fun _ h=>(.tail _ h))) hca0_2 rfl hy1)) ?_
 rintro _ _ _ _ ⟨_,rfl,rfl,rfl,rfl⟩
 refine Rd 8 [4,5] [(4,iv y1.1),(5,.bool y1.2)] ?_
 obtain rfl:=Option.some.inj heq
 refine RunH.pick 1 [] (cs':=F) (by kernel_rfl) rfl ?_
 exact RunH.done (by kernel_rfl) Tryd.func24 (v:=.tuple #[iv y1.1,.bool y1.2]) (by kernel_rfl) ⟨rfl,rfl,rfl⟩
noncomputable def C31:Ctx:={ P:=Tryd.prog,f:=31,N:=14,c:=bodyOf Tryd.f31 }
def S31 (F:List Ch) (H0:Hp) (r:Bool) (v:Value) (H:Hp) (cs:List Ch):Prop:=H0=H∧v=.bool r∧F=cs
theorem cache_held_c {w0:World} {H:Hp} {F:List Ch} {a0:Blob} {a1:Int} {r:Bool} (heq:cache_held.f a0 a1=some r):CallsH Tryd.prog 31 #[.agg #[.string a0.Digest,iv a0.Size,iv a0.Used,iv a0.Until,iv a0.Pins],iv a1] H w0 (F) (S31 F H r):=by
 refine calls_of_runH (F:=C31) Tryd.func31 (by kernel_rfl) Tryd.ntmps31 (args:=[.agg #[.string a0.Digest,iv a0.Size,iv a0.Used,iv a0.Until,iv a0.Pins],iv a1]) (by kernel_rfl) ?_
 unfold cache_held.f at heq
 refine Ra 1 [0] [.c [1]] ?_
 refine RgH.does (DoesH.new (d:=2) (v:=fun g=>.pointer (some ⟨g,0,none⟩)) (o:=fun g=>.cells #[.string a0.Digest,iv a0.Size,iv a0.Used,iv a0.Until,iv a0.Pins] 29 (0,0)) (fun g=>by kernel_rfl)) ?_
 rintro _ _ _ _ ⟨g1,rfl,rfl,rfl⟩
 refine Rd 2 [1,2] [(1,iv a1),(2,pg g1 0)]<|Ad 1 [.c [1,0],.c [1,1]] ?_
 obtain ⟨t1,ht1,heq⟩:=bind_some heq
 have K2:RunH C31 (S31 F H r) H w0 [.c [1,1]] [(4,.bool t1)] H (F):=by
  obtain rfl:=Option.some.inj heq
  exact RunH.done (by kernel_rfl) Tryd.func31 (v:=.bool t1) (by kernel_rfl) ⟨rfl,rfl,rfl⟩
 replace heq:=ht1
 refine Rr<|Rv 4 [8,1,2] [iv a0.Pins] [.load ⟨g1,4,none⟩ (iv a0.Pins)] [(8,.bool (decide (0<a0.Pins))),(1,iv a1),(2,pg g1 0)] (fun w hh=>(hh.box 0 rfl rfl)) ?_
 rcases bool_cases (decide (0<a0.Pins)) with hb1 | hb1
 ·replace heq:=bif_true hb1 heq
  refine RgH.val1 (v':=.bool true) (congrArg Value.bool hb1) ?_
  refine Rk 10 [4] [(4,.bool true)] ?_
  obtain rfl:=Option.some.inj heq
  refine Kg [4] [(4,.bool true)] ?_
  refine RgH.pick 1 [] (cs':=F) (by kernel_rfl) rfl ?_
  refine Dn ?_
  exact K2
 ·replace heq:=bif_false hb1 heq
  refine RgH.val1 (v':=.bool false) (congrArg Value.bool hb1) ?_
  refine Rv 10 [4] [iv a0.Until] [.load ⟨g1,3,none⟩ (iv a0.Until)] [(4,.bool (decide (a1<a0.Until)))] (fun w hh=>(hh.box 0 rfl rfl)) ?_
  obtain rfl:=Option.some.inj heq
  refine Kg [4] [(4,.bool (decide (a1<a0.Until)))] ?_
  refine RgH.pick 1 [] (cs':=F) (by kernel_rfl) rfl ?_
  refine Dn ?_
  exact K2
noncomputable def C70:Ctx:={ P:=Tryd.prog,f:=70,N:=7,c:=bodyOf Tryd.f70 }
def S70 (F:List Ch) (H0:Hp) (r:Bool) (v:Value) (H:Hp) (cs:List Ch):Prop:=H0=H∧v=.bool r∧F=cs
theorem cache_leaving_1_c {w0:World} {H:Hp} {F:List Ch} {a0:Blob} {ga1:Nat} {a1:Int} {r:Bool} (hga1:InG H F ga1 (.cells #[iv a1] 3 (0,0))) (heq:cache_leaving_1.f a0 a1=some r):CallsH Tryd.prog 70 #[.agg #[.string a0.Digest,iv a0.Size,iv a0.Used,iv a0.Until,iv a0.Pins],.pointer (some ⟨ga1,0,none⟩)] H w0 (F) (S70 F H r):=by
 refine calls_of_runH (F:=C70) Tryd.func70 (by kernel_rfl) Tryd.ntmps70 (args:=[.agg #[.string a0.Digest,iv a0.Size,iv a0.Used,iv a0.Until,iv a0.Pins],.pointer (some ⟨ga1,0,none⟩)]) (by kernel_rfl) ?_
 unfold cache_leaving_1.f at heq
 refine Ra 1 [0] [.c [1]] ?_
 refine RgH.does (DoesH.new (d:=2) (v:=fun g=>.pointer (some ⟨g,0,none⟩)) (o:=fun g=>.cells #[.string a0.Digest,iv a0.Size,iv a0.Used,iv a0.Until,iv a0.Pins] 29 (0,0)) (fun g=>by kernel_rfl)) ?_
 rintro _ _ _ _ ⟨g1,rfl,rfl,rfl⟩
 refine Rd 2 [1,2] [(1,pg ga1 0),(2,pg g1 0)]<|Ra 1 [1,0] [.c [1,1]]<|Rv 2 [4,5] [.string a0.Digest,iv a0.Size,iv a0.Used,iv a0.Until,iv a0.Pins,iv a1] [.load ⟨g1,0,none⟩ (.string a0.Digest),.load ⟨g1,1,none⟩ (iv a0.Size),.load ⟨g1,2,none⟩ (iv a0.Used),.load ⟨g1,3,none⟩ (iv a0.Until),.load ⟨g1,4,none⟩ (iv a0.Pins),.load ⟨ga1,0,none⟩ (iv a1)] [(4,.agg #[.string a0.Digest,iv a0.Size,iv a0.Used,iv a0.Until,iv a0.Pins]),(5,iv a1)] (fun w hh=>⟨(hh.box 0 rfl rfl),(hh.box 0 rfl rfl),(hh.box 0 rfl rfl),(hh.box 0 rfl rfl),(hh.box 0 rfl rfl),(hga1.cell (hh.drop 1) rfl)⟩) ?_
 obtain ⟨y1,hy1,heq⟩:=bind_some heq
 refine RgH.does (DoesH.call (d:=6) (g:=31) (args:=#[.agg #[.string a0.Digest,iv a0.Size,iv a0.Used,iv a0.Until,iv a0.Pins],iv a1]) (by kernel_rfl) (cache_held_c (a0:=a0) (a1:=a1)  hy1)) ?_
 rintro _ _ _ _ ⟨_,rfl,rfl,rfl,rfl⟩
 refine Rd 4 [3] [(3,.bool y1)] ?_
 obtain rfl:=Option.some.inj heq
 refine RunH.pick 1 [] (cs':=F) (by kernel_rfl) rfl ?_
 exact RunH.done (by kernel_rfl) Tryd.func70 (v:=.bool y1) (by kernel_rfl) ⟨rfl,rfl,rfl⟩
noncomputable def C65:Ctx:={ P:=Tryd.prog,f:=65,N:=19,c:=bodyOf Tryd.f65 }
def S65 (F:List Ch) (H0:Hp) (r:Int) (v:Value) (H:Hp) (cs:List Ch):Prop:=H0=H∧v=iv r∧F=cs
theorem slices_IndexFunc_Blob.e1_c {w0:World} {H:Hp} {F:List Ch} {r:Int}:slices_IndexFunc_Blob.e1=some r→RunH C65 (S65 F H r) H w0 [.c [1,1,0],.c [1,1,1]] [] H (F):=by
 intro   heq
 unfold slices_IndexFunc_Blob.e1 at heq
 refine Rr<|Rd 1 [4] [(4,iv (-1))] ?_
 obtain rfl:=Option.some.inj heq
 exact RunH.done (by kernel_rfl) Tryd.func65 (v:=iv (-1)) (by kernel_rfl) ⟨rfl,rfl,rfl⟩
theorem slices_IndexFunc_Blob.l2_c {w0:World} {H:Hp} {F:List Ch} {r:Int} (e1:Option Int)
  (he1:e1=some r→RunH C65 (S65 F H r) H w0 [.c [1,1,0],.c [1,1,1]] [] H (F)):∀ (k:Nat),∀ (a0:List Blob) (Aa0:Option Addr) (ca0:Nat) (ga1q0:Nat) (a1q0:Int) (v8:Int) ,Rw kBlob H F Aa0 a0→a0.length≤ca0→InG H F ga1q0 (.cells #[iv a1q0] 3 (0,0))→slices_IndexFunc_Blob.l2 e1 k a0 a1q0 v8=some r→RunH C65 (S65 F H r) H w0 [.c [1,0,1,0,0],.l [1,0,1,0,0],.b 0,.c [1,1]] [(0,.slice Aa0 a0.length ca0),(1,.func (.func 70) #[] #[.pointer (some ⟨ga1q0,0,none⟩)]),(7,iv (a0.length:Int)),(8,iv v8)] H (F):=by
 intro k
 induction k with
 | zero=>intro a0 Aa0 ca0 ga1q0 a1q0 v8 hra0 hca0 hga1q0 heq; exact nomatch (show (none:Option Int)=some r from heq)
 | succ k ihk =>
  intro a0 Aa0 ca0 ga1q0 a1q0 v8 hra0 hca0 hga1q0 heq
  rw [slices_IndexFunc_Blob.l2] at heq
  refine Ra 1 [1,0,1,0,0,0] [.c [1,0,1,0,0,1],.l [1,0,1,0,0],.b 0,.c [1,1]]<|Rd 1 [0,1,7,8,9] [(0,.slice Aa0 a0.length ca0),(1,.func (.func 70) #[] #[.pointer (some ⟨ga1q0,0,none⟩)]),(7,iv (a0.length:Int)),(8,iv v8),(9,.bool (decide (v8<(a0.length:Int))))]<|Ad 1 [.c [1,0,1,0,0,1,0],.c [1,0,1,0,0,1,1],.l [1,0,1,0,0],.b 0,.c [1,1]] ?_
  rcases bool_cases (decide (v8<(a0.length:Int))) with hb1 | hb1
  ·replace heq:=bif_true hb1 heq
   refine Ct (decide (v8<(a0.length:Int))) hb1<|Ra 4 [1,0,1,0,0,1,1,0,0,0] [.c [1,0,1,0,0,1,1,0,0,1],.b 1,.c [1,0,1,0,0,1,1,1],.l [1,0,1,0,0],.b 0,.c [1,1]]<|Rd 2 [0,1,5,7,8] [(0,.slice Aa0 a0.length ca0),(1,.func (.func 70) #[] #[.pointer (some ⟨ga1q0,0,none⟩)]),(5,iv v8),(7,iv (a0.length:Int)),(8,iv v8)]<|Ra 1 [1,0,1,0,0,1,1,0,0,1,0] [.c [1,0,1,0,0,1,1,0,0,1,1],.b 1,.c [1,0,1,0,0,1,1,1],.l [1,0,1,0,0],.b 0,.c [1,1]] ?_
   obtain ⟨x1,hx1,heq⟩:=bind_some heq
   obtain ⟨ha1,cs1,hK1,hcc1⟩:=hra0.get hx1
   obtain ⟨rfl⟩:=kBlob_open hK1
   refine Rv 5 [0,1,5,7,8,11,15] [.string x1.Digest,iv x1.Size,iv x1.Used,iv x1.Until,iv x1.Pins] [.need (Aa0=some (adr Aa0)∧(0:Int)≤v8∧v8<((a0.length:Nat):Int)),.load (((adr Aa0).add (v8.toNat*5)).add 0) (.string x1.Digest),.load (((adr Aa0).add (v8.toNat*5)).add 1) (iv x1.Size),.load (((adr Aa0).add (v8.toNat*5)).add 2) (iv x1.Used),.load (((adr Aa0).add (v8.toNat*5)).add 3) (iv x1.Until),.load (((adr Aa0).add (v8.toNat*5)).add 4) (iv x1.Pins)] [(0,.slice Aa0 a0.length ca0),(1,.func (.func 70) #[] #[.pointer (some ⟨ga1q0,0,none⟩)]),(5,iv v8),(7,iv (a0.length:Int)),(8,iv v8),(11,.func (.func 70) #[] #[.pointer (some ⟨ga1q0,0,none⟩)]),(15,.agg #[.string x1.Digest,iv x1.Size,iv x1.Used,iv x1.Until,iv x1.Pins])] (fun w hh=>⟨⟨ha1,(at?_some hx1).1,(at?_some hx1).2.1⟩,(hcc1 _ _ (hh.drop 0) 0 _ rfl),(hcc1 _ _ (hh.drop 0) 1 _ rfl),(hcc1 _ _ (hh.drop 0) 2 _ rfl),(hcc1 _ _ (hh.drop 0) 3 _ rfl),(hcc1 _ _ (hh.drop 0) 4 _ rfl)⟩) ?_
   obtain ⟨y1,hy1,heq⟩:=bind_some heq
   refine RgH.does (DoesH.call (d:=16) (g:=70) (args:=#[.agg #[.string x1.Digest,iv x1.Size,iv x1.Used,iv x1.Until,iv x1.Pins],.pointer (some ⟨ga1q0,0,none⟩)]) (by kernel_rfl) (cache_leaving_1_c (a0:=x1) (a1:=a1q0) hga1q0 hy1)) ?_
   rintro _ _ _ _ ⟨_,rfl,rfl,rfl,rfl⟩
   refine Dn ?_
   rcases bool_cases (y1) with hb2 | hb2
   ·replace heq:=bif_true hb2 heq
    refine Ct y1 hb2<|Ra 1 [1,0,1,0,0,1,1,0,0,1,1,0,0] [.c [1,0,1,0,0,1,1,0,0,1,1,0,1],.b 1,.c [1,0,1,0,0,1,1,1],.l [1,0,1,0,0],.b 0,.c [1,1]]<|Rd 2 [4] [(4,iv v8)] ?_
    obtain rfl:=Option.some.inj heq
    exact RunH.done (by kernel_rfl) Tryd.func65 (v:=iv v8) (by kernel_rfl) ⟨rfl,rfl,rfl⟩
   ·replace heq:=bif_false hb2 heq
    refine Cf y1 hb2<|Ra 2 [1,0,1,0,0,1,1,1] [.l [1,0,1,0,0],.b 0,.c [1,1]]<|Rd 2 [0,1,7,8] [(0,.slice Aa0 a0.length ca0),(1,.func (.func 70) #[] #[.pointer (some ⟨ga1q0,0,none⟩)]),(7,iv (a0.length:Int)),(8,iv (w64 (v8+1)))]<|Ad 1 [.c [1,0,1,0,0],.l [1,0,1,0,0],.b 0,.c [1,1]]<|Kp [0,1,7,8] [(0,.slice Aa0 a0.length ca0),(1,.func (.func 70) #[] #[.pointer (some ⟨ga1q0,0,none⟩)]),(7,iv (a0.length:Int)),(8,iv (w64 (v8+1)))] ?_
    exact ihk a0 _ _ _ a1q0 (w64 (v8+1)) hra0 hca0 hga1q0 heq
  ·replace heq:=bif_false hb1 heq
   refine Cf (decide (v8<(a0.length:Int))) hb1<|Ad 2 [.c [1,1,0],.c [1,1,1]]<|Kp [] [] ?_
   exact he1 heq
theorem slices_IndexFunc_Blob_c {w0:World} {H:Hp} {F:List Ch} {a0:List Blob} {Aa0:Option Addr} {na0:Nat} {ca0:Nat} {ga1q0:Nat} {a1q0:Int} {r:Int} (hra0:Rw kBlob H F Aa0 a0) (hca0:na0≤ca0) (hna0:na0=a0.length) (hga1q0:InG H F ga1q0 (.cells #[iv a1q0] 3 (0,0))) (heq:slices_IndexFunc_Blob.f a0 a1q0=some r):CallsH Tryd.prog 65 #[.slice Aa0 na0 ca0,.func (.func 70) #[] #[.pointer (some ⟨ga1q0,0,none⟩)]] H w0 (F) (S65 F H r):=by
 refine calls_of_runH (F:=C65) Tryd.func65 (by kernel_rfl) Tryd.ntmps65 (args:=[.slice Aa0 na0 ca0,.func (.func 70) #[] #[.pointer (some ⟨ga1q0,0,none⟩)]]) (by kernel_rfl) ?_
 subst hna0
 unfold slices_IndexFunc_Blob.f at heq
 refine Ra 1 [0] [.c [1]]<|Rd 1 [0,1] [(0,.slice Aa0 a0.length ca0),(1,.func (.func 70) #[] #[.pointer (some ⟨ga1q0,0,none⟩)])]<|Ra 2 [1,0,0] [.c [1,0,1],.c [1,1]]<|Rd 3 [0,1,7,8] [(0,.slice Aa0 a0.length ca0),(1,.func (.func 70) #[] #[.pointer (some ⟨ga1q0,0,none⟩)]),(7,iv (a0.length:Int)),(8,iv 0)]<|Ad 2 [.c [1,0,1,0,0],.l [1,0,1,0,0],.b 0,.c [1,1]]<|Kp [0,1,7,8] [(0,.slice Aa0 a0.length ca0),(1,.func (.func 70) #[] #[.pointer (some ⟨ga1q0,0,none⟩)]),(7,iv (a0.length:Int)),(8,iv 0)] ?_
 exact ((slices_IndexFunc_Blob.l2_c (e1:=slices_IndexFunc_Blob.e1) (slices_IndexFunc_Blob.e1_c)) big) a0 _ _ _ a1q0 0 hra0 hca0 hga1q0 heq
noncomputable def C49:Ctx:={ P:=Tryd.prog,f:=49,N:=42,c:=bodyOf Tryd.f49 }
def S49 (F:List Ch) (H0:Hp) (r:(List Blob)) (v:Value) (H:Hp) (cs:List Ch):Prop:=∃ (A0:Option Addr) (c0:Nat) (ch0:Ch),H0=H∧v=.slice A0 r.length c0∧ch0::F=cs∧SlOwn kBlob 29 H A0 c0 r ch0
theorem slices_DeleteFunc_Blob.e1_c {w0:World} {H:Hp} {F:List Ch} {r:(List Blob)}:∀ (v_s0:List Blob) (Av_s0:Option Addr) (nv_s0:Nat) (cv_s0:Nat) (chv_s0:Ch) (v_i5:Int) ,SlOwn kBlob 29 H Av_s0 cv_s0 v_s0 chv_s0→nv_s0=v_s0.length→slices_DeleteFunc_Blob.e1 v_s0 v_i5=some r→RunH C49 (S49 F H r) H w0 [.c [1,1,1,1,0],.c [1,1,1,1,1]] [(0,.slice Av_s0 nv_s0 cv_s0),(5,iv v_i5)] H (chv_s0::F):=by
 intro v_s0 Av_s0 nv_s0 cv_s0 chv_s0 v_i5 hov_s0 hnv_s0 heq
 subst hnv_s0
 unfold slices_DeleteFunc_Blob.e1 at heq
 refine Rr ?_
 obtain ⟨hn2,heq⟩:=guard?_some heq
 have hn1:v_s0.length - v_i5.toNat=(v_s0.drop v_i5.toNat).length:=by have h1:=both_of hn2; have h3:=trivial; (try simp); (try omega)
 have ho1:=hov_s0.drop v_i5.toNat (by have h2:=hov_s0.cap; have h3:=trivial; have h1:=both_of hn2; omega)
 refine Rv 3 [0,5,38] [] [.need ((0:Int)≤v_i5∧v_i5≤((v_s0.length:Nat):Int))] [(0,.slice Av_s0 v_s0.length cv_s0),(5,iv v_i5),(38,.slice (shiftA cv_s0 v_i5.toNat 5 Av_s0) (v_s0.length - v_i5.toNat) (cv_s0 - v_i5.toNat))] (fun w hh=>(both_of hn2)) ?_
 refine RgH.does (DoesH.clear (k:=0) (j:=v_i5.toNat) (n:=v_s0.length - v_i5.toNat) (t:=22) (e:=29) (bytes:=48) (kd:=kBlob) (A:=Av_s0) (A2:=(shiftA cv_s0 v_i5.toNat 5 Av_s0)) (c:=cv_s0) (c2:=(cv_s0 - v_i5.toNat)) (xs:=v_s0) (z:=(⟨ByteArray.empty,0,0,0,0⟩:Blob)) (zc:=#[.string ByteArray.empty,iv 0,iv 0,iv 0,iv 0]) (by kernel_rfl) (by have h3:=trivial; omega) (by kernel_rfl) (by kernel_rfl) kBlob_mk (by kernel_rfl) rfl hov_s0 (by have h1:=both_of hn2; have h3:=trivial; omega) (fun h b off hA=>shiftA_at h hov_s0.cap hA)) ?_
 rintro _ _ _ _ ⟨ch1,rfl,rfl,rfl,ho2⟩
 have hn3:v_s0.length=(v_s0.take v_i5.toNat++List.replicate (v_s0.length - v_i5.toNat) (⟨ByteArray.empty,0,0,0,0⟩:Blob)).length:=by have h1:=both_of hn2; have h3:=trivial; simp; omega
 refine Dn<|Ra 1 [1,1,1,1,1,0] [.c [1,1,1,1,1,1]] ?_
 obtain ⟨hn5,heq⟩:=guard?_some heq
 have hn4:v_i5.toNat=((v_s0.take v_i5.toNat++List.replicate (v_s0.length - v_i5.toNat) (⟨ByteArray.empty,0,0,0,0⟩:Blob)).take v_i5.toNat).length:=by have h1:=both_of hn5; have h3:=hn3; (try simp); (try omega)
 have ho3:=ho2.take v_i5.toNat
 refine Rw' 4 [4] [] [.need ((0:Int)≤v_i5∧v_i5≤((cv_s0:Nat):Int))] [(4,.slice Av_s0 v_i5.toNat cv_s0)] (fun w hh=>⟨(both_of hn5).1,(by have h1:=(both_of hn5).2; have h2:=(show v_s0.length≤cv_s0 from by have:=ho2.cap; have:=hn3; omega); have h3:=hn3; omega)⟩) ?_
 obtain rfl:=Option.some.inj heq
 exact RunH.done (by kernel_rfl) Tryd.func49 (v:=.slice Av_s0 v_i5.toNat cv_s0) (by kernel_rfl) ⟨Av_s0,cv_s0,ch1,rfl,(by first | rfl | exact congrArg (fun q=>Value.slice _ q _) hn4 | (rw [hn4]; done) | (simp only [← hn4])),(by first | rfl | (rw [hn4]; done) | (rw [hn4]; rfl) | (simp only [List.length_set]; done) | (simp only [List.length_set]; rfl)),ho3⟩
theorem slices_DeleteFunc_Blob.j3_c {w0:World} {H:Hp} {F:List Ch} {r:(List Blob)} (backl2:Int→(List Blob)→Int→Int→Option (List Blob))
  (hbackl2:∀ (ga1q0:Nat) (a1q0:Int) (v_s0:List Blob) (Av_s0:Option Addr) (nv_s0:Nat) (cv_s0:Nat) (chv_s0:Ch) (v_i5:Int) (v_j6:Int) ,InG H F ga1q0 (.cells #[iv a1q0] 3 (0,0))→SlOwn kBlob 29 H Av_s0 cv_s0 v_s0 chv_s0→nv_s0=v_s0.length→backl2 a1q0 v_s0 v_i5 v_j6=some r→RunH C49 (S49 F H r) H w0 [.c [1,1,1,0,1,0,0],.l [1,1,1,0,1,0,0],.b 0,.c [1,1,1,1]] [(0,.slice Av_s0 nv_s0 cv_s0),(1,.func (.func 70) #[] #[.pointer (some ⟨ga1q0,0,none⟩)]),(5,iv v_i5),(6,iv v_j6)] H (chv_s0::F)):∀ (ga1q0:Nat) (a1q0:Int) (v_j6:Int) (v_s0:List Blob) (Av_s0:Option Addr) (nv_s0:Nat) (cv_s0:Nat) (chv_s0:Ch) (v_i5:Int) ,InG H F ga1q0 (.cells #[iv a1q0] 3 (0,0))→SlOwn kBlob 29 H Av_s0 cv_s0 v_s0 chv_s0→nv_s0=v_s0.length→slices_DeleteFunc_Blob.j3 backl2 a1q0 v_j6 v_s0 v_i5=some r→RunH C49 (S49 F H r) H w0 [.c [1,1,1,0,1,0,0,1,1],.l [1,1,1,0,1,0,0],.b 0,.c [1,1,1,1]] [(0,.slice Av_s0 nv_s0 cv_s0),(1,.func (.func 70) #[] #[.pointer (some ⟨ga1q0,0,none⟩)]),(5,iv v_i5),(6,iv v_j6)] H (chv_s0::F):=by
 intro ga1q0 a1q0 v_j6 v_s0 Av_s0 nv_s0 cv_s0 chv_s0 v_i5 hga1q0 hov_s0 hnv_s0 heq
 subst hnv_s0
 unfold slices_DeleteFunc_Blob.j3 at heq
 refine Rr<|Rd 3 [0,1,5,6] [(0,.slice Av_s0 v_s0.length cv_s0),(1,.func (.func 70) #[] #[.pointer (some ⟨ga1q0,0,none⟩)]),(5,iv v_i5),(6,iv (w64 (v_j6+1)))]<|Ad 1 [.c [1,1,1,0,1,0,0],.l [1,1,1,0,1,0,0],.b 0,.c [1,1,1,1]]<|Kp [0,1,5,6] [(0,.slice Av_s0 v_s0.length cv_s0),(1,.func (.func 70) #[] #[.pointer (some ⟨ga1q0,0,none⟩)]),(5,iv v_i5),(6,iv (w64 (v_j6+1)))] ?_
 exact hbackl2 _ a1q0 v_s0 _ _ _ _ v_i5 (w64 (v_j6+1)) hga1q0 hov_s0 rfl heq
theorem slices_DeleteFunc_Blob.l2_c {w0:World} {H:Hp} {F:List Ch} {r:(List Blob)} (e1:(List Blob)→Int→Option (List Blob))
  (he1:∀ (v_s0:List Blob) (Av_s0:Option Addr) (nv_s0:Nat) (cv_s0:Nat) (chv_s0:Ch) (v_i5:Int) ,SlOwn kBlob 29 H Av_s0 cv_s0 v_s0 chv_s0→nv_s0=v_s0.length→e1 v_s0 v_i5=some r→RunH C49 (S49 F H r) H w0 [.c [1,1,1,1,0],.c [1,1,1,1,1]] [(0,.slice Av_s0 nv_s0 cv_s0),(5,iv v_i5)] H (chv_s0::F)):∀ (k:Nat),∀ (ga1q0:Nat) (a1q0:Int) (v_s0:List Blob) (Av_s0:Option Addr) (nv_s0:Nat) (cv_s0:Nat) (chv_s0:Ch) (v_i5:Int) (v_j6:Int) ,InG H F ga1q0 (.cells #[iv a1q0] 3 (0,0))→SlOwn kBlob 29 H Av_s0 cv_s0 v_s0 chv_s0→nv_s0=v_s0.length→slices_DeleteFunc_Blob.l2 e1 k a1q0 v_s0 v_i5 v_j6=some r→RunH C49 (S49 F H r) H w0 [.c [1,1,1,0,1,0,0],.l [1,1,1,0,1,0,0],.b 0,.c [1,1,1,1]] [(0,.slice Av_s0 nv_s0 cv_s0),(1,.func (.func 70) #[] #[.pointer (some ⟨ga1q0,0,none⟩)]),(5,iv v_i5),(6,iv v_j6)] H (chv_s0::F):=by
 intro k
 induction k with
 | zero=>intro ga1q0 a1q0 v_s0 Av_s0 nv_s0 cv_s0 chv_s0 v_i5 v_j6 hga1q0 hov_s0 hnv_s0 heq; exact nomatch (show (none:Option (List Blob))=some r from heq)
 | succ k ihk =>
  intro ga1q0 a1q0 v_s0 Av_s0 nv_s0 cv_s0 chv_s0 v_i5 v_j6 hga1q0 hov_s0 hnv_s0 heq
  subst hnv_s0
  rw [slices_DeleteFunc_Blob.l2] at heq
  refine Ra 2 [1,1,1,0,1,0,0,0,0] [.c [1,1,1,0,1,0,0,0,1],.c [1,1,1,0,1,0,0,1],.l [1,1,1,0,1,0,0],.b 0,.c [1,1,1,1]]<|Rd 4 [0,1,5,6,19] [(0,.slice Av_s0 v_s0.length cv_s0),(1,.func (.func 70) #[] #[.pointer (some ⟨ga1q0,0,none⟩)]),(5,iv v_i5),(6,iv v_j6),(19,.bool (decide (v_j6<(v_s0.length:Int))))] ?_
  rcases bool_cases (decide (v_j6<(v_s0.length:Int))) with hb2 | hb2
  ·replace heq:=bif_true hb2 heq
   refine Ct (decide (v_j6<(v_s0.length:Int))) hb2<|Ra 4 [1,1,1,0,1,0,0,1,0,0,0] [.c [1,1,1,0,1,0,0,1,0,0,1],.b 1,.c [1,1,1,0,1,0,0,1,1],.l [1,1,1,0,1,0,0],.b 0,.c [1,1,1,1]] ?_
   obtain ⟨x1,hx1,heq⟩:=bind_some heq
   obtain ⟨ha1,cs1,hK1,hcc1⟩:=hov_s0.get hx1
   obtain ⟨rfl⟩:=kBlob_open hK1
   refine Rv 4 [0,1,5,6,25] [.string x1.Digest,iv x1.Size,iv x1.Used,iv x1.Until,iv x1.Pins] [.need (Av_s0=some (adr Av_s0)∧(0:Int)≤v_j6∧v_j6<((v_s0.length:Nat):Int)),.load (((adr Av_s0).add (v_j6.toNat*5)).add 0) (.string x1.Digest),.load (((adr Av_s0).add (v_j6.toNat*5)).add 1) (iv x1.Size),.load (((adr Av_s0).add (v_j6.toNat*5)).add 2) (iv x1.Used),.load (((adr Av_s0).add (v_j6.toNat*5)).add 3) (iv x1.Until),.load (((adr Av_s0).add (v_j6.toNat*5)).add 4) (iv x1.Pins)] [(0,.slice Av_s0 v_s0.length cv_s0),(1,.func (.func 70) #[] #[.pointer (some ⟨ga1q0,0,none⟩)]),(5,iv v_i5),(6,iv v_j6),(25,.agg #[.string x1.Digest,iv x1.Size,iv x1.Used,iv x1.Until,iv x1.Pins])] (fun w hh=>⟨⟨ha1,(at?_some hx1).1,(at?_some hx1).2.1⟩,(hcc1 _ (hh.chin 0 rfl) 0 _ rfl),(hcc1 _ (hh.chin 0 rfl) 1 _ rfl),(hcc1 _ (hh.chin 0 rfl) 2 _ rfl),(hcc1 _ (hh.chin 0 rfl) 3 _ rfl),(hcc1 _ (hh.chin 0 rfl) 4 _ rfl)⟩) ?_
   refine RgH.does (DoesH.new (d:=7) (v:=fun g=>.pointer (some ⟨g,0,none⟩)) (o:=fun g=>.cells #[.string ByteArray.empty,iv 0,iv 0,iv 0,iv 0] 29 (0,0)) (fun g=>by kernel_rfl)) ?_
   rintro _ _ _ _ ⟨g1,rfl,rfl,rfl⟩
   refine RgH.does (DoesH.store (k:=0) (g:=g1) (off:=0) (v:=.agg #[.string x1.Digest,iv x1.Size,iv x1.Used,iv x1.Until,iv x1.Pins]) (cells':=#[.string x1.Digest,iv x1.Size,iv x1.Used,iv x1.Until,iv x1.Pins]) (by kernel_rfl) rfl (by kernel_rfl) (by kernel_rfl)) ?_
   rintro _ _ _ _ ⟨rfl,rfl,rfl⟩
   refine Dn<|Ra 1 [1,1,1,0,1,0,0,1,0,0,1,0] [.c [1,1,1,0,1,0,0,1,0,0,1,1],.b 1,.c [1,1,1,0,1,0,0,1,1],.l [1,1,1,0,1,0,0],.b 0,.c [1,1,1,1]]<|Rv 2 [0,1,5,6,7,26,27] [.string x1.Digest,iv x1.Size,iv x1.Used,iv x1.Until,iv x1.Pins] [.load ⟨g1,0,none⟩ (.string x1.Digest),.load ⟨g1,1,none⟩ (iv x1.Size),.load ⟨g1,2,none⟩ (iv x1.Used),.load ⟨g1,3,none⟩ (iv x1.Until),.load ⟨g1,4,none⟩ (iv x1.Pins)] [(0,.slice Av_s0 v_s0.length cv_s0),(1,.func (.func 70) #[] #[.pointer (some ⟨ga1q0,0,none⟩)]),(5,iv v_i5),(6,iv v_j6),(7,pg g1 0),(26,.func (.func 70) #[] #[.pointer (some ⟨ga1q0,0,none⟩)]),(27,.agg #[.string x1.Digest,iv x1.Size,iv x1.Used,iv x1.Until,iv x1.Pins])] (fun w hh=>⟨(hh.box 0 rfl rfl),(hh.box 0 rfl rfl),(hh.box 0 rfl rfl),(hh.box 0 rfl rfl),(hh.box 0 rfl rfl)⟩) ?_
   obtain ⟨y2,hy2,heq⟩:=bind_some heq
   refine RgH.does (DoesH.call (d:=28) (g:=70) (args:=#[.agg #[.string x1.Digest,iv x1.Size,iv x1.Used,iv x1.Until,iv x1.Pins],.pointer (some ⟨ga1q0,0,none⟩)]) (by kernel_rfl) (cache_leaving_1_c (a0:=x1) (a1:=a1q0) (hga1q0.wk (fun _ h=>(.tail _ (.tail _ h)))) hy2)) ?_
   rintro _ _ _ _ ⟨_,rfl,rfl,rfl,rfl⟩
   refine Rd 4 [0,1,5,6,7,29] [(0,.slice Av_s0 v_s0.length cv_s0),(1,.func (.func 70) #[] #[.pointer (some ⟨ga1q0,0,none⟩)]),(5,iv v_i5),(6,iv v_j6),(7,pg g1 0),(29,.bool (!y2))] ?_
   rcases bool_cases (!y2) with hb3 | hb3
   ·replace heq:=bif_true hb3 heq
    refine Ct (!y2) hb3<|Ra 1 [1,1,1,0,1,0,0,1,0,0,1,1,0,0] [.c [1,1,1,0,1,0,0,1,0,0,1,1,0,1],.b 1,.c [1,1,1,0,1,0,0,1,1],.l [1,1,1,0,1,0,0],.b 0,.c [1,1,1,1]] ?_
    obtain ⟨x2,hx2,heq⟩:=bind_some heq
    obtain ⟨ha2,cs2,hK2,hcc2⟩:=hov_s0.get hx2
    obtain ⟨rfl⟩:=kBlob_open hK2
    refine Rv 4 [0,1,5,6,32,33] [.string x1.Digest,iv x1.Size,iv x1.Used,iv x1.Until,iv x1.Pins] [.load ⟨g1,0,none⟩ (.string x1.Digest),.load ⟨g1,1,none⟩ (iv x1.Size),.load ⟨g1,2,none⟩ (iv x1.Used),.load ⟨g1,3,none⟩ (iv x1.Until),.load ⟨g1,4,none⟩ (iv x1.Pins),.need (Av_s0=some (adr Av_s0)∧(0:Int)≤v_i5∧v_i5<((v_s0.length:Nat):Int))] [(0,.slice Av_s0 v_s0.length cv_s0),(1,.func (.func 70) #[] #[.pointer (some ⟨ga1q0,0,none⟩)]),(5,iv v_i5),(6,iv v_j6),(32,.agg #[.string x1.Digest,iv x1.Size,iv x1.Used,iv x1.Until,iv x1.Pins]),(33,.pointer (some ((adr Av_s0).add (v_i5.toNat*5))))] (fun w hh=>⟨(hh.box 0 rfl rfl),(hh.box 0 rfl rfl),(hh.box 0 rfl rfl),(hh.box 0 rfl rfl),(hh.box 0 rfl rfl),⟨ha2,(at?_some hx2).1,(at?_some hx2).2.1⟩⟩) ?_
    obtain ⟨ha3,cs3,hK3,hcc3⟩:=hov_s0.get hx2
    obtain ⟨rfl⟩:=kBlob_open hK3
    refine RgH.does (DoesH.storeEl (a:=((adr Av_s0).add (v_i5.toNat*5))) (k:=1) (kd:=kBlob) (c0:=[.string x2.Digest,iv x2.Size,iv x2.Used,iv x2.Until,iv x2.Pins]) (x':=x1) (o:=0) (ix:=v_i5) (v:=.agg #[.string x1.Digest,iv x1.Size,iv x1.Used,iv x1.Until,iv x1.Pins]) (by kernel_rfl) rfl hov_s0 hx2 (by kernel_rfl) hcc3 rfl (Nat.le_of_ble_eq_true (by kernel_rfl)) kBlob_mk) ?_
    rintro _ _ _ _ ⟨ch2,rfl,rfl,rfl,ho4⟩
    have hn6:v_s0.length=(v_s0.set v_i5.toNat x1).length:=by rw [List.length_set]
    refine Dn<|Rr<|Rd 3 [0,1,5,6] [(0,.slice Av_s0 v_s0.length cv_s0),(1,.func (.func 70) #[] #[.pointer (some ⟨ga1q0,0,none⟩)]),(5,iv (w64 (v_i5+1))),(6,iv v_j6)]<|Ad 1 [.c [1,1,1,0,1,0,0,1,1],.l [1,1,1,0,1,0,0],.b 0,.c [1,1,1,1]]<|Kp [0,1,5,6] [(0,.slice Av_s0 v_s0.length cv_s0),(1,.func (.func 70) #[] #[.pointer (some ⟨ga1q0,0,none⟩)]),(5,iv (w64 (v_i5+1))),(6,iv v_j6)] ?_
    refine RunH.pick 2 [1] (cs':=ch2::F) (by kernel_rfl) rfl ?_
    exact (slices_DeleteFunc_Blob.j3_c (backl2:=(slices_DeleteFunc_Blob.l2 e1 k)) ihk) _ a1q0 v_j6 (v_s0.set v_i5.toNat x1) _ _ _ _ (w64 (v_i5+1)) hga1q0 ho4 hn6 heq
   ·replace heq:=bif_false hb3 heq
    refine Cf (!y2) hb3<|Ad 2 [.c [1,1,1,0,1,0,0,1,1],.l [1,1,1,0,1,0,0],.b 0,.c [1,1,1,1]]<|Kp [0,1,5,6] [(0,.slice Av_s0 v_s0.length cv_s0),(1,.func (.func 70) #[] #[.pointer (some ⟨ga1q0,0,none⟩)]),(5,iv v_i5),(6,iv v_j6)] ?_
    refine RunH.pick 2 [1] (cs':=chv_s0::F) (by kernel_rfl) rfl ?_
    exact (slices_DeleteFunc_Blob.j3_c (backl2:=(slices_DeleteFunc_Blob.l2 e1 k)) ihk) _ a1q0 v_j6 v_s0 _ _ _ _ v_i5 hga1q0 hov_s0 rfl heq
  ·replace heq:=bif_false hb2 heq
   refine Cf (decide (v_j6<(v_s0.length:Int))) hb2<|Ad 2 [.c [1,1,1,1,0],.c [1,1,1,1,1]]<|Kp [0,5] [(0,.slice Av_s0 v_s0.length cv_s0),(5,iv v_i5)] ?_
   exact he1 v_s0 _ _ _ _ v_i5 hov_s0 rfl heq
theorem slices_DeleteFunc_Blob_c {w0:World} {H:Hp} {F:List Ch} {a0:List Blob} {Aa0:Option Addr} {na0:Nat} {ca0:Nat} {cha0:Ch} {ga1q0:Nat} {a1q0:Int} {r:(List Blob)} (hoa0:SlOwn kBlob 29 H Aa0 ca0 a0 cha0) (hna0:na0=a0.length) (hga1q0:InG H F ga1q0 (.cells #[iv a1q0] 3 (0,0))) (heq:slices_DeleteFunc_Blob.f a0 a1q0=some r):CallsH Tryd.prog 49 #[.slice Aa0 na0 ca0,.func (.func 70) #[] #[.pointer (some ⟨ga1q0,0,none⟩)]] H w0 (cha0::F) (S49 F H r):=by
 refine calls_of_runH (F:=C49) Tryd.func49 (by kernel_rfl) Tryd.ntmps49 (args:=[.slice Aa0 na0 ca0,.func (.func 70) #[] #[.pointer (some ⟨ga1q0,0,none⟩)]]) (by kernel_rfl) ?_
 subst hna0
 unfold slices_DeleteFunc_Blob.f at heq
 refine Ra 1 [0] [.c [1]]<|Rd 1 [0,1] [(0,.slice Aa0 a0.length ca0),(1,.func (.func 70) #[] #[.pointer (some ⟨ga1q0,0,none⟩)])]<|Ra 1 [1,0] [.c [1,1]]<|Rk 2 [0,1,8,9] [(0,.slice Aa0 a0.length ca0),(1,.func (.func 70) #[] #[.pointer (some ⟨ga1q0,0,none⟩)]),(8,.slice Aa0 a0.length ca0),(9,.func (.func 70) #[] #[.pointer (some ⟨ga1q0,0,none⟩)])] ?_
 obtain ⟨y1,hy1,heq⟩:=bind_some heq
 refine RgH.does (DoesH.call (d:=10) (g:=65) (args:=#[.slice Aa0 a0.length ca0,.func (.func 70) #[] #[.pointer (some ⟨ga1q0,0,none⟩)]]) (by kernel_rfl) (slices_IndexFunc_Blob_c (a0:=a0) (a1q0:=a1q0) (hoa0.rw (.head _)) hoa0.cap rfl (hga1q0.wk (fun _ h=>(.tail _ h))) hy1)) ?_
 rintro _ _ _ _ ⟨_,rfl,rfl,rfl,rfl⟩
 refine Rd 4 [0,1,5] [(0,.slice Aa0 a0.length ca0),(1,.func (.func 70) #[] #[.pointer (some ⟨ga1q0,0,none⟩)]),(5,iv y1)]<|Ra 2 [1,1,0,0] [.c [1,1,0,1],.c [1,1,1]]<|Rd 2 [0,1,5,12] [(0,.slice Aa0 a0.length ca0),(1,.func (.func 70) #[] #[.pointer (some ⟨ga1q0,0,none⟩)]),(5,iv y1),(12,.bool (y1 == (-1)))] ?_
 rcases bool_cases (y1 == (-1)) with hb1 | hb1
 ·replace heq:=bif_true hb1 heq
  refine Ct (y1 == (-1)) hb1<|Ra 1 [1,1,0,1,0,0] [.c [1,1,0,1,0,1],.c [1,1,1]]<|Rd 2 [4] [(4,.slice Aa0 a0.length ca0)] ?_
  obtain rfl:=Option.some.inj heq
  exact RunH.done (by kernel_rfl) Tryd.func49 (v:=.slice Aa0 a0.length ca0) (by kernel_rfl) ⟨Aa0,ca0,cha0,rfl,rfl,rfl,hoa0⟩
 ·replace heq:=bif_false hb1 heq
  refine Cf (y1 == (-1)) hb1<|Ra 3 [1,1,1,0,0] [.c [1,1,1,0,1],.c [1,1,1,1]]<|Rd 3 [0,1,5,6] [(0,.slice Aa0 a0.length ca0),(1,.func (.func 70) #[] #[.pointer (some ⟨ga1q0,0,none⟩)]),(5,iv y1),(6,iv (w64 (y1+1)))]<|Ad 2 [.c [1,1,1,0,1,0,0],.l [1,1,1,0,1,0,0],.b 0,.c [1,1,1,1]]<|Kp [0,1,5,6] [(0,.slice Aa0 a0.length ca0),(1,.func (.func 70) #[] #[.pointer (some ⟨ga1q0,0,none⟩)]),(5,iv y1),(6,iv (w64 (y1+1)))] ?_
  exact ((slices_DeleteFunc_Blob.l2_c (e1:=slices_DeleteFunc_Blob.e1) (slices_DeleteFunc_Blob.e1_c)) big) _ a1q0 a0 _ _ _ _ y1 (w64 (y1+1)) hga1q0 hoa0 rfl heq
noncomputable def C81:Ctx:={ P:=Tryd.prog,f:=81,N:=6,c:=bodyOf Tryd.f81 }
def S81 (F:List Ch) (H0:Hp) (r:Bool) (v:Value) (H:Hp) (cs:List Ch):Prop:=H0=H∧v=.bool r∧F=cs
theorem cmp_isNaN_int_c {w0:World} {H:Hp} {F:List Ch} {a0:Int} {r:Bool} (heq:cmp_isNaN_int.f a0=some r):CallsH Tryd.prog 81 #[iv a0] H w0 (F) (S81 F H r):=by
 refine calls_of_runH (F:=C81) Tryd.func81 (by kernel_rfl) Tryd.ntmps81 (args:=[iv a0]) (by kernel_rfl) ?_
 unfold cmp_isNaN_int.f at heq
 refine Ra 1 [0] [.c [1]]<|Rd 1 [0] [(0,iv a0)]<|Ra 1 [1,0] [.c [1,1]]<|Rd 4 [2] [(2,.bool (a0 != a0))] ?_
 obtain rfl:=Option.some.inj heq
 exact RunH.done (by kernel_rfl) Tryd.func81 (v:=.bool (a0 != a0)) (by kernel_rfl) ⟨rfl,rfl,rfl⟩
noncomputable def C73:Ctx:={ P:=Tryd.prog,f:=73,N:=20,c:=bodyOf Tryd.f73 }
def S73 (F:List Ch) (H0:Hp) (r:Int) (v:Value) (H:Hp) (cs:List Ch):Prop:=H0=H∧v=iv r∧F=cs
theorem cmp_Compare_int_c {w0:World} {H:Hp} {F:List Ch} {a0:Int} {a1:Int} {r:Int} (heq:cmp_Compare_int.f a0 a1=some r):CallsH Tryd.prog 73 #[iv a0,iv a1] H w0 (F) (S73 F H r):=by
 refine calls_of_runH (F:=C73) Tryd.func73 (by kernel_rfl) Tryd.ntmps73 (args:=[iv a0,iv a1]) (by kernel_rfl) ?_
 unfold cmp_Compare_int.f at heq
 refine Ra 1 [0] [.c [1]]<|Rd 1 [0,1] [(0,iv a0),(1,iv a1)]<|Ra 1 [1,0] [.c [1,1]]<|Rk 1 [0,1,7] [(0,iv a0),(1,iv a1),(7,iv a0)] ?_
 obtain ⟨y1,hy1,heq⟩:=bind_some heq
 refine RgH.does (DoesH.call (d:=8) (g:=81) (args:=#[iv a0]) (by kernel_rfl) (cmp_isNaN_int_c (a0:=a0)  hy1)) ?_
 rintro _ _ _ _ ⟨_,rfl,rfl,rfl,rfl⟩
 refine Rd 3 [0,1,5] [(0,iv a0),(1,iv a1),(5,.bool y1)]<|Ra 1 [1,1,0] [.c [1,1,1]]<|Rk 1 [0,1,5,9] [(0,iv a0),(1,iv a1),(5,.bool y1),(9,iv a1)] ?_
 obtain ⟨y2,hy2,heq⟩:=bind_some heq
 refine RgH.does (DoesH.call (d:=10) (g:=81) (args:=#[iv a1]) (by kernel_rfl) (cmp_isNaN_int_c (a0:=a1)  hy2)) ?_
 rintro _ _ _ _ ⟨_,rfl,rfl,rfl,rfl⟩
 refine Rd 3 [0,1,5,6] [(0,iv a0),(1,iv a1),(5,.bool y1),(6,.bool y2)]<|Ra 2 [1,1,1,0,0] [.c [1,1,1,0,1],.c [1,1,1,1]]<|Rd 1 [0,1,6,11] [(0,iv a0),(1,iv a1),(6,.bool y2),(11,.bool y1)] ?_
 rcases bool_cases (y1) with hb1 | hb1
 ·replace heq:=bif_true hb1 heq
  refine Ct y1 hb1<|Ra 2 [1,1,1,0,1,0,0,0] [.c [1,1,1,0,1,0,0,1],.c [1,1,1,0,1,0,1],.c [1,1,1,1]]<|Rd 1 [12] [(12,.bool y2)] ?_
  rcases bool_cases (y2) with hb2 | hb2
  ·replace heq:=bif_true hb2 heq
   refine Ct y2 hb2<|Ra 1 [1,1,1,0,1,0,0,1,0,0] [.c [1,1,1,0,1,0,0,1,0,1],.c [1,1,1,0,1,0,1],.c [1,1,1,1]]<|Rd 1 [4] [(4,iv 0)] ?_
   obtain rfl:=Option.some.inj heq
   exact RunH.done (by kernel_rfl) Tryd.func73 (v:=iv 0) (by kernel_rfl) ⟨rfl,rfl,rfl⟩
  ·replace heq:=bif_false hb2 heq
   refine Cf y2 hb2<|Ra 2 [1,1,1,0,1,0,1,0] [.c [1,1,1,0,1,0,1,1],.c [1,1,1,1]]<|Rd 1 [4] [(4,iv (-1))] ?_
   obtain rfl:=Option.some.inj heq
   exact RunH.done (by kernel_rfl) Tryd.func73 (v:=iv (-1)) (by kernel_rfl) ⟨rfl,rfl,rfl⟩
 ·replace heq:=bif_false hb1 heq
  refine Cf y1 hb1<|Ra 3 [1,1,1,1,0,0] [.c [1,1,1,1,0,1],.c [1,1,1,1,1]]<|Rd 1 [0,1,13] [(0,iv a0),(1,iv a1),(13,.bool y2)] ?_
  rcases bool_cases (y2) with hb3 | hb3
  ·replace heq:=bif_true hb3 heq
   refine Ct y2 hb3<|Ra 1 [1,1,1,1,0,1,0,0] [.c [1,1,1,1,0,1,0,1],.c [1,1,1,1,1]]<|Rd 1 [4] [(4,iv 1)] ?_
   obtain rfl:=Option.some.inj heq
   exact RunH.done (by kernel_rfl) Tryd.func73 (v:=iv 1) (by kernel_rfl) ⟨rfl,rfl,rfl⟩
  ·replace heq:=bif_false hb3 heq
   refine Cf y2 hb3<|Ra 3 [1,1,1,1,1,0,0] [.c [1,1,1,1,1,0,1],.c [1,1,1,1,1,1]]<|Rd 3 [0,1,16] [(0,iv a0),(1,iv a1),(16,.bool (decide (a0<a1)))] ?_
   rcases bool_cases (decide (a0<a1)) with hb4 | hb4
   ·replace heq:=bif_true hb4 heq
    refine Ct (decide (a0<a1)) hb4<|Ra 1 [1,1,1,1,1,0,1,0,0] [.c [1,1,1,1,1,0,1,0,1],.c [1,1,1,1,1,1]]<|Rd 1 [4] [(4,iv (-1))] ?_
    obtain rfl:=Option.some.inj heq
    exact RunH.done (by kernel_rfl) Tryd.func73 (v:=iv (-1)) (by kernel_rfl) ⟨rfl,rfl,rfl⟩
   ·replace heq:=bif_false hb4 heq
    refine Cf (decide (a0<a1)) hb4<|Ra 3 [1,1,1,1,1,1,0,0] [.c [1,1,1,1,1,1,0,1],.c [1,1,1,1,1,1,1]]<|Rd 3 [19] [(19,.bool (decide (a1<a0)))] ?_
    rcases bool_cases (decide (a1<a0)) with hb5 | hb5
    ·replace heq:=bif_true hb5 heq
     refine Ct (decide (a1<a0)) hb5<|Ra 1 [1,1,1,1,1,1,0,1,0,0] [.c [1,1,1,1,1,1,0,1,0,1],.c [1,1,1,1,1,1,1]]<|Rd 1 [4] [(4,iv 1)] ?_
     obtain rfl:=Option.some.inj heq
     exact RunH.done (by kernel_rfl) Tryd.func73 (v:=iv 1) (by kernel_rfl) ⟨rfl,rfl,rfl⟩
    ·replace heq:=bif_false hb5 heq
     refine Cf (decide (a1<a0)) hb5<|Ra 2 [1,1,1,1,1,1,1,0] [.c [1,1,1,1,1,1,1,1]]<|Rd 1 [4] [(4,iv 0)] ?_
     obtain rfl:=Option.some.inj heq
     exact RunH.done (by kernel_rfl) Tryd.func73 (v:=iv 0) (by kernel_rfl) ⟨rfl,rfl,rfl⟩
noncomputable def C72:Ctx:={ P:=Tryd.prog,f:=72,N:=10,c:=bodyOf Tryd.f72 }
def S72 (F:List Ch) (H0:Hp) (r:Int) (v:Value) (H:Hp) (cs:List Ch):Prop:=H0=H∧v=iv r∧F=cs
theorem cache_leaving_2_c {w0:World} {H:Hp} {F:List Ch} {a0:Blob} {a1:Blob} {r:Int} (heq:cache_leaving_2.f a0 a1=some r):CallsH Tryd.prog 72 #[.agg #[.string a0.Digest,iv a0.Size,iv a0.Used,iv a0.Until,iv a0.Pins],.agg #[.string a1.Digest,iv a1.Size,iv a1.Used,iv a1.Until,iv a1.Pins]] H w0 (F) (S72 F H r):=by
 refine calls_of_runH (F:=C72) Tryd.func72 (by kernel_rfl) Tryd.ntmps72 (args:=[.agg #[.string a0.Digest,iv a0.Size,iv a0.Used,iv a0.Until,iv a0.Pins],.agg #[.string a1.Digest,iv a1.Size,iv a1.Used,iv a1.Until,iv a1.Pins]]) (by kernel_rfl) ?_
 unfold cache_leaving_2.f at heq
 refine Ra 1 [0] [.c [1]] ?_
 refine RgH.does (DoesH.new (d:=2) (v:=fun g=>.pointer (some ⟨g,0,none⟩)) (o:=fun g=>.cells #[.string a0.Digest,iv a0.Size,iv a0.Used,iv a0.Until,iv a0.Pins] 29 (0,0)) (fun g=>by kernel_rfl)) ?_
 rintro _ _ _ _ ⟨g1,rfl,rfl,rfl⟩
 refine RgH.does (DoesH.new (d:=3) (v:=fun g=>.pointer (some ⟨g,0,none⟩)) (o:=fun g=>.cells #[.string a1.Digest,iv a1.Size,iv a1.Used,iv a1.Until,iv a1.Pins] 29 (0,0)) (fun g=>by kernel_rfl)) ?_
 rintro _ _ _ _ ⟨g2,rfl,rfl,rfl⟩
 refine Rd 3 [2,3] [(2,pg g1 0),(3,pg g2 0)]<|Ra 1 [1,0] [.c [1,1]]<|Rv 4 [6,8] [iv a0.Used,iv a1.Used] [.load ⟨g1,2,none⟩ (iv a0.Used),.load ⟨g2,2,none⟩ (iv a1.Used)] [(6,iv a0.Used),(8,iv a1.Used)] (fun w hh=>⟨(hh.box 1 rfl rfl),(hh.box 0 rfl rfl)⟩) ?_
 obtain ⟨y1,hy1,heq⟩:=bind_some heq
 refine RgH.does (DoesH.call (d:=9) (g:=73) (args:=#[iv a0.Used,iv a1.Used]) (by kernel_rfl) (cmp_Compare_int_c (a0:=a0.Used) (a1:=a1.Used)  hy1)) ?_
 rintro _ _ _ _ ⟨_,rfl,rfl,rfl,rfl⟩
 refine Rd 6 [4] [(4,iv y1)] ?_
 obtain rfl:=Option.some.inj heq
 refine RunH.pick 2 [] (cs':=F) (by kernel_rfl) rfl ?_
 exact RunH.done (by kernel_rfl) Tryd.func72 (v:=iv y1) (by kernel_rfl) ⟨rfl,rfl,rfl⟩
noncomputable def C85:Ctx:={ P:=Tryd.prog,f:=85,N:=53,c:=bodyOf Tryd.f85 }
def S85 (F:List Ch) (H0:Hp) (Aa0:Option Addr) (ca0:Nat) (la0:Nat) (r:(List Blob)) (v:Value) (H:Hp) (cs:List Ch):Prop:=∃ (ch0:Ch),H0=H∧v=.tuple #[]∧ch0::F=cs∧SlOwn kBlob 29 H Aa0 ca0 r ch0∧la0=r.length
theorem slices_insertionSortCmpFunc_Blob.e2_c {w0:World} {H:Hp} {F:List Ch} {r:(List Blob)} (backl1:Int→Int→(List Blob)→Int→Option (List Blob))
  (hbackl1:∀ (Aa0:Option Addr) (ca0:Nat) (la0:Nat) (a1:Int) (a2:Int) (v_data0:List Blob) (chv_data0:Ch) (nv_data0:Nat) (v_i8:Int) ,nv_data0=v_data0.length→la0=nv_data0→SlOwn kBlob 29 H Aa0 ca0 v_data0 chv_data0→backl1 a1 a2 v_data0 v_i8=some r→RunH C85 (S85 F H Aa0 ca0 la0 r) H w0 [.c [1,0,0],.l [1,0,0],.b 0] [(0,.slice Aa0 nv_data0 ca0),(1,iv a1),(2,iv a2),(3,.func (.func 72) #[] #[]),(8,iv v_i8)] H (chv_data0::F)):∀ (Aa0:Option Addr) (ca0:Nat) (la0:Nat) (a1:Int) (a2:Int) (v_i8:Int) (v_data0:List Blob) (chv_data0:Ch) (nv_data0:Nat) ,nv_data0=v_data0.length→la0=nv_data0→SlOwn kBlob 29 H Aa0 ca0 v_data0 chv_data0→slices_insertionSortCmpFunc_Blob.e2 backl1 a1 a2 v_i8 v_data0=some r→RunH C85 (S85 F H Aa0 ca0 la0 r) H w0 [.c [1,0,0,1,1],.l [1,0,0],.b 0] [(0,.slice Aa0 nv_data0 ca0),(1,iv a1),(2,iv a2),(3,.func (.func 72) #[] #[]),(8,iv v_i8)] H (chv_data0::F):=by
 intro Aa0 ca0 la0 a1 a2 v_i8 v_data0 chv_data0 nv_data0 hnv_data0 hlv_data0 hov_data0 heq
 subst hnv_data0
 unfold slices_insertionSortCmpFunc_Blob.e2 at heq
 refine Rr<|Rd 3 [0,1,2,3,8] [(0,.slice Aa0 v_data0.length ca0),(1,iv a1),(2,iv a2),(3,.func (.func 72) #[] #[]),(8,iv (w64 (v_i8+1)))]<|Ad 1 [.c [1,0,0],.l [1,0,0],.b 0]<|Kp [0,1,2,3,8] [(0,.slice Aa0 v_data0.length ca0),(1,iv a1),(2,iv a2),(3,.func (.func 72) #[] #[]),(8,iv (w64 (v_i8+1)))] ?_
 exact hbackl1 _ _ _ a1 a2 v_data0 _ _ (w64 (v_i8+1)) rfl hlv_data0 hov_data0 heq
theorem slices_insertionSortCmpFunc_Blob.l3_c {w0:World} {H:Hp} {F:List Ch} {r:(List Blob)} (e2:Int→Int→Int→(List Blob)→Option (List Blob))
  (he2:∀ (Aa0:Option Addr) (ca0:Nat) (la0:Nat) (a1:Int) (a2:Int) (v_i8:Int) (v_data0:List Blob) (chv_data0:Ch) (nv_data0:Nat) ,nv_data0=v_data0.length→la0=nv_data0→SlOwn kBlob 29 H Aa0 ca0 v_data0 chv_data0→e2 a1 a2 v_i8 v_data0=some r→RunH C85 (S85 F H Aa0 ca0 la0 r) H w0 [.c [1,0,0,1,1],.l [1,0,0],.b 0] [(0,.slice Aa0 nv_data0 ca0),(1,iv a1),(2,iv a2),(3,.func (.func 72) #[] #[]),(8,iv v_i8)] H (chv_data0::F)):∀ (k:Nat),∀ (Aa0:Option Addr) (ca0:Nat) (la0:Nat) (a1:Int) (a2:Int) (v_i8:Int) (v_data0:List Blob) (chv_data0:Ch) (nv_data0:Nat) (v_j9:Int) ,nv_data0=v_data0.length→la0=nv_data0→SlOwn kBlob 29 H Aa0 ca0 v_data0 chv_data0→slices_insertionSortCmpFunc_Blob.l3 e2 k a1 a2 v_i8 v_data0 v_j9=some r→RunH C85 (S85 F H Aa0 ca0 la0 r) H w0 [.c [1,0,0,1,0,0,1,0,0],.l [1,0,0,1,0,0,1,0,0],.b 2,.b 1,.c [1,0,0,1,1],.l [1,0,0],.b 0] [(0,.slice Aa0 nv_data0 ca0),(1,iv a1),(2,iv a2),(3,.func (.func 72) #[] #[]),(8,iv v_i8),(9,iv v_j9)] H (chv_data0::F):=by
 intro k
 induction k with
 | zero=>intro Aa0 ca0 la0 a1 a2 v_i8 v_data0 chv_data0 nv_data0 v_j9 hnv_data0 hlv_data0 hov_data0 heq; exact nomatch (show (none:Option (List Blob))=some r from heq)
 | succ k ihk =>
  intro Aa0 ca0 la0 a1 a2 v_i8 v_data0 chv_data0 nv_data0 v_j9 hnv_data0 hlv_data0 hov_data0 heq
  subst hnv_data0
  rw [slices_insertionSortCmpFunc_Blob.l3] at heq
  refine Ad 2 [.c [1,0,0,1,0,0,1,0,0,0,0],.c [1,0,0,1,0,0,1,0,0,0,1],.c [1,0,0,1,0,0,1,0,0,1],.l [1,0,0,1,0,0,1,0,0],.b 2,.b 1,.c [1,0,0,1,1],.l [1,0,0],.b 0] ?_
  obtain ⟨t1,ht1,heq⟩:=bind_some heq
  have K5:RunH C85 (S85 F H Aa0 ca0 la0 r) H w0 [.c [1,0,0,1,0,0,1,0,0,0,1],.c [1,0,0,1,0,0,1,0,0,1],.l [1,0,0,1,0,0,1,0,0],.b 2,.b 1,.c [1,0,0,1,1],.l [1,0,0],.b 0] [(0,.slice Aa0 v_data0.length ca0),(1,iv a1),(2,iv a2),(3,.func (.func 72) #[] #[]),(8,iv v_i8),(9,iv v_j9),(34,.bool t1)] H (chv_data0::F):=by
   rcases bool_cases (t1) with hb3 | hb3
   ·replace heq:=bif_true hb3 heq
    refine Ct t1 hb3<|Ad 3 [.c [1,0,0,1,0,0,1,0,0,1,0,0],.b 3,.c [1,0,0,1,0,0,1,0,0,1,1],.l [1,0,0,1,0,0,1,0,0],.b 2,.b 1,.c [1,0,0,1,1],.l [1,0,0],.b 0]<|Kp [0,1,2,3,8,9] [(0,.slice Aa0 v_data0.length ca0),(1,iv a1),(2,iv a2),(3,.func (.func 72) #[] #[]),(8,iv v_i8),(9,iv v_j9)] ?_
    refine RunH.draw (fun w=>Heap H w0 w (chv_data0::F)) (fun w=>Heap H w0 w (F)) [3,3,3,3,3,3,3,3,3,3,3,3,3,3,3,1,3,2] (n:=18) (ls:=[false,false,false,false,false,false,false,false,false,false,false,false,false,false,false,false,false,false]) (by kernel_rfl) (by kernel_rfl) (by kernel_rfl) rfl ?_
    refine Dk [0,1] 16 (nb 18 3) [] [] [0,1,2,3,8,9,37,38] [(0,.slice Aa0 v_data0.length ca0),(1,iv a1),(2,iv a2),(3,.func (.func 72) #[] #[]),(8,iv v_i8),(9,iv v_j9),(37,.slice Aa0 v_data0.length ca0),(38,iv v_j9)] (Pk 1 [0]) (Pk 1 []) (fun _ _=>trivial)<|De [2,3,4] 13 (nb 18 31) [] [] [0,1,2,3,8,9,37,38,39,41] [(0,.slice Aa0 v_data0.length ca0),(1,iv a1),(2,iv a2),(3,.func (.func 72) #[] #[]),(8,iv v_i8),(9,iv v_j9),(37,.slice Aa0 v_data0.length ca0),(38,iv v_j9),(39,.slice Aa0 v_data0.length ca0),(41,iv (w64 (v_j9 - 1)))] (Pk 1 []) (fun _ _=>trivial) ?_
    obtain ⟨x3,hx3,heq⟩:=bind_some heq
    obtain ⟨ha3,cs3,hK3,hcc3⟩:=hov_data0.get hx3
    obtain ⟨rfl⟩:=kBlob_open hK3
    refine Dk [5,6,7,8,9] 8 (nb 18 1023) [.string x3.Digest,iv x3.Size,iv x3.Used,iv x3.Until,iv x3.Pins] [.need (Aa0=some (adr Aa0)∧(0:Int)≤(w64 (v_j9 - 1))∧(w64 (v_j9 - 1))<((v_data0.length:Nat):Int)),.load (((adr Aa0).add ((w64 (v_j9 - 1)).toNat*5)).add 0) (.string x3.Digest),.load (((adr Aa0).add ((w64 (v_j9 - 1)).toNat*5)).add 1) (iv x3.Size),.load (((adr Aa0).add ((w64 (v_j9 - 1)).toNat*5)).add 2) (iv x3.Used),.load (((adr Aa0).add ((w64 (v_j9 - 1)).toNat*5)).add 3) (iv x3.Until),.load (((adr Aa0).add ((w64 (v_j9 - 1)).toNat*5)).add 4) (iv x3.Pins)] [0,1,2,3,8,9,37,38,39,41,46] [(0,.slice Aa0 v_data0.length ca0),(1,iv a1),(2,iv a2),(3,.func (.func 72) #[] #[]),(8,iv v_i8),(9,iv v_j9),(37,.slice Aa0 v_data0.length ca0),(38,iv v_j9),(39,.slice Aa0 v_data0.length ca0),(41,iv (w64 (v_j9 - 1))),(46,.agg #[.string x3.Digest,iv x3.Size,iv x3.Used,iv x3.Until,iv x3.Pins])] (Pk 1 [0]) (Pk 1 []) (fun w hh=>⟨⟨ha3,(at?_some hx3).1,(at?_some hx3).2.1⟩,(hcc3 _ (hh.chin 0 rfl) 0 _ rfl),(hcc3 _ (hh.chin 0 rfl) 1 _ rfl),(hcc3 _ (hh.chin 0 rfl) 2 _ rfl),(hcc3 _ (hh.chin 0 rfl) 3 _ rfl),(hcc3 _ (hh.chin 0 rfl) 4 _ rfl)⟩) ?_
    obtain ⟨x4,hx4,heq⟩:=bind_some heq
    obtain ⟨ha4,cs4,hK4,hcc4⟩:=hov_data0.get hx4
    obtain ⟨rfl⟩:=kBlob_open hK4
    refine De [10,11,12] 5 (nb 18 8191) [] [.need (Aa0=some (adr Aa0)∧(0:Int)≤v_j9∧v_j9<((v_data0.length:Nat):Int))] [0,1,2,3,8,9,37,38,39,41,46,49] [(0,.slice Aa0 v_data0.length ca0),(1,iv a1),(2,iv a2),(3,.func (.func 72) #[] #[]),(8,iv v_i8),(9,iv v_j9),(37,.slice Aa0 v_data0.length ca0),(38,iv v_j9),(39,.slice Aa0 v_data0.length ca0),(41,iv (w64 (v_j9 - 1))),(46,.agg #[.string x3.Digest,iv x3.Size,iv x3.Used,iv x3.Until,iv x3.Pins]),(49,.pointer (some ((adr Aa0).add (v_j9.toNat*5))))] (Pk 1 []) (fun w hh=>⟨ha4,(at?_some hx4).1,(at?_some hx4).2.1⟩) ?_
    obtain ⟨ha5,cs5,hK5,hcc5⟩:=hov_data0.get hx4
    obtain ⟨rfl⟩:=kBlob_open hK5
    refine Dk [13,14] 3 (nb 18 32767) [.string x4.Digest,iv x4.Size,iv x4.Used,iv x4.Until,iv x4.Pins] [.load (((adr Aa0).add (v_j9.toNat*5)).add 0) (.string x4.Digest),.load (((adr Aa0).add (v_j9.toNat*5)).add 1) (iv x4.Size),.load (((adr Aa0).add (v_j9.toNat*5)).add 2) (iv x4.Used),.load (((adr Aa0).add (v_j9.toNat*5)).add 3) (iv x4.Until),.load (((adr Aa0).add (v_j9.toNat*5)).add 4) (iv x4.Pins),.need (Aa0=some (adr Aa0)∧(0:Int)≤v_j9∧v_j9<((v_data0.length:Nat):Int))] [0,1,2,3,8,9,39,41,46,50,51] [(0,.slice Aa0 v_data0.length ca0),(1,iv a1),(2,iv a2),(3,.func (.func 72) #[] #[]),(8,iv v_i8),(9,iv v_j9),(39,.slice Aa0 v_data0.length ca0),(41,iv (w64 (v_j9 - 1))),(46,.agg #[.string x3.Digest,iv x3.Size,iv x3.Used,iv x3.Until,iv x3.Pins]),(50,.agg #[.string x4.Digest,iv x4.Size,iv x4.Used,iv x4.Until,iv x4.Pins]),(51,.pointer (some ((adr Aa0).add (v_j9.toNat*5))))] (Pk 1 [0]) (Pk 1 []) (fun w hh=>⟨(hcc5 _ (hh.chin 0 rfl) 0 _ rfl),(hcc5 _ (hh.chin 0 rfl) 1 _ rfl),(hcc5 _ (hh.chin 0 rfl) 2 _ rfl),(hcc5 _ (hh.chin 0 rfl) 3 _ rfl),(hcc5 _ (hh.chin 0 rfl) 4 _ rfl),⟨ha5,(at?_some hx4).1,(at?_some hx4).2.1⟩⟩) ?_
    obtain ⟨ha6,cs6,hK6,hcc6⟩:=hov_data0.get hx4
    obtain ⟨rfl⟩:=kBlob_open hK6
    refine DrH.does (n:=2) (ls':=[true,true,true,true,true,true,true,true,true,true,true,true,true,true,true,true,false,false]) 15 (by kernel_rfl) rfl (DoesH.storeEl (a:=((adr Aa0).add (v_j9.toNat*5))) (k:=0) (kd:=kBlob) (c0:=[.string x4.Digest,iv x4.Size,iv x4.Used,iv x4.Until,iv x4.Pins]) (x':=x3) (o:=0) (ix:=v_j9) (v:=.agg #[.string x3.Digest,iv x3.Size,iv x3.Used,iv x3.Until,iv x3.Pins]) (by kernel_rfl) rfl hov_data0 hx4 (by kernel_rfl) hcc6 rfl (Nat.le_of_ble_eq_true (by kernel_rfl)) kBlob_mk) ?_
    rintro _ _ _ _ ⟨ch1,rfl,rfl,rfl,ho1⟩
    have hn1:v_data0.length=(v_data0.set v_j9.toNat x3).length:=by rw [List.length_set]
    refine ⟨fun _ w hh=>⟨(fun h=>by cases h),fun _=>(Pk 1 []) w hh,(fun h=>by cases h)⟩,?_⟩
    obtain ⟨x5,hx5,heq⟩:=bind_some heq
    obtain ⟨ha7,cs7,hK7,hcc7⟩:=ho1.get hx5
    obtain ⟨rfl⟩:=kBlob_open hK7
    refine De [16] 1 (nb 18 131071) [] [.need (Aa0=some (adr Aa0)∧(0:Int)≤(w64 (v_j9 - 1))∧(w64 (v_j9 - 1))<((v_data0.length:Nat):Int))] [0,1,2,3,8,9,50,52] [(0,.slice Aa0 v_data0.length ca0),(1,iv a1),(2,iv a2),(3,.func (.func 72) #[] #[]),(8,iv v_i8),(9,iv v_j9),(50,.agg #[.string x4.Digest,iv x4.Size,iv x4.Used,iv x4.Until,iv x4.Pins]),(52,.pointer (some ((adr Aa0).add ((w64 (v_j9 - 1)).toNat*5))))] (Pk 1 []) (fun w hh=>⟨ha7,(at?_some hx5).1,(by have:=(at?_some hx5).2.1; have:=hn1; omega)⟩) ?_
    obtain ⟨ha8,cs8,hK8,hcc8⟩:=ho1.get hx5
    obtain ⟨rfl⟩:=kBlob_open hK8
    refine DrH.does (n:=0) (ls':=[true,true,true,true,true,true,true,true,true,true,true,true,true,true,true,true,true,true]) 17 (by kernel_rfl) rfl (DoesH.storeEl (a:=((adr Aa0).add ((w64 (v_j9 - 1)).toNat*5))) (k:=0) (kd:=kBlob) (c0:=[.string x5.Digest,iv x5.Size,iv x5.Used,iv x5.Until,iv x5.Pins]) (x':=x4) (o:=0) (ix:=(w64 (v_j9 - 1))) (v:=.agg #[.string x4.Digest,iv x4.Size,iv x4.Used,iv x4.Until,iv x4.Pins]) (by kernel_rfl) rfl ho1 hx5 (by kernel_rfl) hcc8 rfl (Nat.le_of_ble_eq_true (by kernel_rfl)) kBlob_mk) ?_
    rintro _ _ _ _ ⟨ch2,rfl,rfl,rfl,ho2⟩
    have hn2:v_data0.length=((v_data0.set v_j9.toNat x3).set (w64 (v_j9 - 1)).toNat x4).length:=by rw [List.length_set]; exact hn1
    refine ⟨fun _ w hh=>⟨(fun h=>by cases h),(fun h=>absurd h (by decide)),(fun h=>by cases h)⟩,?_⟩
    refine Kr [0,1,2,3,8,9] [(0,.slice Aa0 v_data0.length ca0),(1,iv a1),(2,iv a2),(3,.func (.func 72) #[] #[]),(8,iv v_i8),(9,iv v_j9)] ?_
    refine DrH.done (by kernel_rfl) ?_
    refine Ra 1 [1,0,0,1,0,0,1,0,0,1,1] [.l [1,0,0,1,0,0,1,0,0],.b 2,.b 1,.c [1,0,0,1,1],.l [1,0,0],.b 0]<|Rd 3 [0,1,2,3,8,9] [(0,.slice Aa0 v_data0.length ca0),(1,iv a1),(2,iv a2),(3,.func (.func 72) #[] #[]),(8,iv v_i8),(9,iv (w64 (v_j9 - 1)))]<|Ad 1 [.c [1,0,0,1,0,0,1,0,0],.l [1,0,0,1,0,0,1,0,0],.b 2,.b 1,.c [1,0,0,1,1],.l [1,0,0],.b 0]<|Kp [0,1,2,3,8,9] [(0,.slice Aa0 v_data0.length ca0),(1,iv a1),(2,iv a2),(3,.func (.func 72) #[] #[]),(8,iv v_i8),(9,iv (w64 (v_j9 - 1)))] ?_
    exact ihk _ _ _ a1 a2 v_i8 ((v_data0.set v_j9.toNat x3).set (w64 (v_j9 - 1)).toNat x4) _ _ (w64 (v_j9 - 1)) hn2 hlv_data0 ho2 heq
   ·replace heq:=bif_false hb3 heq
    refine Cf t1 hb3<|Ad 2 [.c [1,0,0,1,1],.l [1,0,0],.b 0]<|Kp [0,1,2,3,8] [(0,.slice Aa0 v_data0.length ca0),(1,iv a1),(2,iv a2),(3,.func (.func 72) #[] #[]),(8,iv v_i8)] ?_
    exact he2 _ _ _ a1 a2 v_i8 v_data0 _ _ rfl hlv_data0 hov_data0 heq
  replace heq:=ht1
  refine Kp [0,1,2,3,8,9] [(0,.slice Aa0 v_data0.length ca0),(1,iv a1),(2,iv a2),(3,.func (.func 72) #[] #[]),(8,iv v_i8),(9,iv v_j9)] ?_
  refine RunH.draw (fun w=>Heap H w0 w (chv_data0::F)) (fun w=>Heap H w0 w (chv_data0::F)) [3,3,3,3,3,3,3,3,3,3,3,3,3,3,0,3,3] (n:=17) (ls:=[false,false,false,false,false,false,false,false,false,false,false,false,false,false,false,false,false]) (by kernel_rfl) (by kernel_rfl) (by kernel_rfl) rfl ?_
  refine Dk [0,1,2,3] 13 (nb 17 15) [] [] [21,0,1,2,3,8,9] [(21,.bool (decide (a1<v_j9))),(0,.slice Aa0 v_data0.length ca0),(1,iv a1),(2,iv a2),(3,.func (.func 72) #[] #[]),(8,iv v_i8),(9,iv v_j9)] (Pk 1 [0]) (Pk 1 [0]) (fun _ _=>trivial) ?_
  rcases bool_cases (decide (a1<v_j9)) with hb2 | hb2
  ·replace heq:=bif_true hb2 heq
   refine DrH.val1 (v':=.bool true) (congrArg Value.bool hb2) ?_
   obtain ⟨x1,hx1,heq⟩:=bind_some heq
   obtain ⟨ha1,cs1,hK1,hcc1⟩:=hov_data0.get hx1
   obtain ⟨rfl⟩:=kBlob_open hK1
   obtain ⟨x2,hx2,heq⟩:=bind_some heq
   obtain ⟨ha2,cs2,hK2,hcc2⟩:=hov_data0.get hx2
   obtain ⟨rfl⟩:=kBlob_open hK2
   refine Dk [4,5,6,7,8,9,10,11,12,13] 3 (nb 17 16383) [.string x1.Digest,iv x1.Size,iv x1.Used,iv x1.Until,iv x1.Pins,.string x2.Digest,iv x2.Size,iv x2.Used,iv x2.Until,iv x2.Pins] [.need (Aa0=some (adr Aa0)∧(0:Int)≤v_j9∧v_j9<((v_data0.length:Nat):Int)),.load (((adr Aa0).add (v_j9.toNat*5)).add 0) (.string x1.Digest),.load (((adr Aa0).add (v_j9.toNat*5)).add 1) (iv x1.Size),.load (((adr Aa0).add (v_j9.toNat*5)).add 2) (iv x1.Used),.load (((adr Aa0).add (v_j9.toNat*5)).add 3) (iv x1.Until),.load (((adr Aa0).add (v_j9.toNat*5)).add 4) (iv x1.Pins),.need (Aa0=some (adr Aa0)∧(0:Int)≤(w64 (v_j9 - 1))∧(w64 (v_j9 - 1))<((v_data0.length:Nat):Int)),.load (((adr Aa0).add ((w64 (v_j9 - 1)).toNat*5)).add 0) (.string x2.Digest),.load (((adr Aa0).add ((w64 (v_j9 - 1)).toNat*5)).add 1) (iv x2.Size),.load (((adr Aa0).add ((w64 (v_j9 - 1)).toNat*5)).add 2) (iv x2.Used),.load (((adr Aa0).add ((w64 (v_j9 - 1)).toNat*5)).add 3) (iv x2.Until),.load (((adr Aa0).add ((w64 (v_j9 - 1)).toNat*5)).add 4) (iv x2.Pins)] [0,1,2,3,8,9,21,22,26,31] [(0,.slice Aa0 v_data0.length ca0),(1,iv a1),(2,iv a2),(3,.func (.func 72) #[] #[]),(8,iv v_i8),(9,iv v_j9),(21,.bool true),(22,.func (.func 72) #[] #[]),(26,.agg #[.string x1.Digest,iv x1.Size,iv x1.Used,iv x1.Until,iv x1.Pins]),(31,.agg #[.string x2.Digest,iv x2.Size,iv x2.Used,iv x2.Until,iv x2.Pins])] (Pk 1 [0]) (Pk 1 [0]) (fun w hh=>⟨⟨ha1,(at?_some hx1).1,(at?_some hx1).2.1⟩,(hcc1 _ (hh.chin 0 rfl) 0 _ rfl),(hcc1 _ (hh.chin 0 rfl) 1 _ rfl),(hcc1 _ (hh.chin 0 rfl) 2 _ rfl),(hcc1 _ (hh.chin 0 rfl) 3 _ rfl),(hcc1 _ (hh.chin 0 rfl) 4 _ rfl),⟨ha2,(at?_some hx2).1,(at?_some hx2).2.1⟩,(hcc2 _ (hh.chin 0 rfl) 0 _ rfl),(hcc2 _ (hh.chin 0 rfl) 1 _ rfl),(hcc2 _ (hh.chin 0 rfl) 2 _ rfl),(hcc2 _ (hh.chin 0 rfl) 3 _ rfl),(hcc2 _ (hh.chin 0 rfl) 4 _ rfl)⟩) ?_
   obtain ⟨y1,hy1,heq⟩:=bind_some heq
   refine DrH.does (n:=2) (ls':=[true,true,true,true,true,true,true,true,true,true,true,true,true,true,true,false,false]) 14 (by kernel_rfl) rfl (DoesH.call (d:=32) (g:=72) (args:=#[.agg #[.string x1.Digest,iv x1.Size,iv x1.Used,iv x1.Until,iv x1.Pins],.agg #[.string x2.Digest,iv x2.Size,iv x2.Used,iv x2.Until,iv x2.Pins]]) (by kernel_rfl) (cache_leaving_2_c (a0:=x1) (a1:=x2)  hy1)) ?_
   rintro _ _ _ _ ⟨_,rfl,rfl,rfl,rfl⟩
   refine ⟨fun _ w hh=>⟨fun _=>(Pk 1 [0]) w hh,fun _=>(Pk 1 [0]) w hh,(fun h=>by cases h)⟩,?_⟩
   refine Dk [15,16] 0 (nb 17 131071) [] [] [0,1,2,3,8,9,34] [(0,.slice Aa0 v_data0.length ca0),(1,iv a1),(2,iv a2),(3,.func (.func 72) #[] #[]),(8,iv v_i8),(9,iv v_j9),(34,.bool (decide (y1<0)))] (Pk 1 [0]) (Pk 1 [0]) (fun _ _=>trivial) ?_
   obtain rfl:=Option.some.inj heq
   refine Kr [0,1,2,3,8,9,34] [(0,.slice Aa0 v_data0.length ca0),(1,iv a1),(2,iv a2),(3,.func (.func 72) #[] #[]),(8,iv v_i8),(9,iv v_j9),(34,.bool (decide (y1<0)))] ?_
   refine DrH.done (by kernel_rfl) ?_
   exact K5
  ·replace heq:=bif_false hb2 heq
   refine DrH.val1 (v':=.bool false) (congrArg Value.bool hb2) ?_
   refine Dk [4,5,6,7,8,9,10,11,12,13,14,15,16] 0 (nb 17 131071) [] [] [0,1,2,3,8,9,34] [(0,.slice Aa0 v_data0.length ca0),(1,iv a1),(2,iv a2),(3,.func (.func 72) #[] #[]),(8,iv v_i8),(9,iv v_j9),(34,.bool false)] (Pk 1 [0]) (Pk 1 [0]) (fun _ _=>trivial) ?_
   obtain rfl:=Option.some.inj heq
   refine Kr [0,1,2,3,8,9,34] [(0,.slice Aa0 v_data0.length ca0),(1,iv a1),(2,iv a2),(3,.func (.func 72) #[] #[]),(8,iv v_i8),(9,iv v_j9),(34,.bool false)] ?_
   refine DrH.done (by kernel_rfl) ?_
   exact K5
theorem slices_insertionSortCmpFunc_Blob.l1_c {w0:World} {H:Hp} {F:List Ch} {r:(List Blob)}:∀ (k:Nat),∀ (Aa0:Option Addr) (ca0:Nat) (la0:Nat) (a1:Int) (a2:Int) (v_data0:List Blob) (chv_data0:Ch) (nv_data0:Nat) (v_i8:Int) ,nv_data0=v_data0.length→la0=nv_data0→SlOwn kBlob 29 H Aa0 ca0 v_data0 chv_data0→slices_insertionSortCmpFunc_Blob.l1 k a1 a2 v_data0 v_i8=some r→RunH C85 (S85 F H Aa0 ca0 la0 r) H w0 [.c [1,0,0],.l [1,0,0],.b 0] [(0,.slice Aa0 nv_data0 ca0),(1,iv a1),(2,iv a2),(3,.func (.func 72) #[] #[]),(8,iv v_i8)] H (chv_data0::F):=by
 intro k
 induction k with
 | zero=>intro Aa0 ca0 la0 a1 a2 v_data0 chv_data0 nv_data0 v_i8 hnv_data0 hlv_data0 hov_data0 heq; exact nomatch (show (none:Option (List Blob))=some r from heq)
 | succ k ihk =>
  intro Aa0 ca0 la0 a1 a2 v_data0 chv_data0 nv_data0 v_i8 hnv_data0 hlv_data0 hov_data0 heq
  subst hnv_data0
  rw [slices_insertionSortCmpFunc_Blob.l1] at heq
  refine Ra 2 [1,0,0,0,0] [.c [1,0,0,0,1],.c [1,0,0,1],.l [1,0,0],.b 0]<|Rd 3 [0,1,2,3,8,14] [(0,.slice Aa0 v_data0.length ca0),(1,iv a1),(2,iv a2),(3,.func (.func 72) #[] #[]),(8,iv v_i8),(14,.bool (decide (v_i8<a2)))] ?_
  rcases bool_cases (decide (v_i8<a2)) with hb1 | hb1
  ·replace heq:=bif_true hb1 heq
   refine Ct (decide (v_i8<a2)) hb1<|Ra 4 [1,0,0,1,0,0,0] [.c [1,0,0,1,0,0,1],.b 1,.c [1,0,0,1,1],.l [1,0,0],.b 0]<|Rd 2 [0,1,2,3,8,9] [(0,.slice Aa0 v_data0.length ca0),(1,iv a1),(2,iv a2),(3,.func (.func 72) #[] #[]),(8,iv v_i8),(9,iv v_i8)]<|Ad 2 [.c [1,0,0,1,0,0,1,0,0],.l [1,0,0,1,0,0,1,0,0],.b 2,.b 1,.c [1,0,0,1,1],.l [1,0,0],.b 0]<|Kp [0,1,2,3,8,9] [(0,.slice Aa0 v_data0.length ca0),(1,iv a1),(2,iv a2),(3,.func (.func 72) #[] #[]),(8,iv v_i8),(9,iv v_i8)] ?_
   exact ((slices_insertionSortCmpFunc_Blob.l3_c (e2:=slices_insertionSortCmpFunc_Blob.e2 ((slices_insertionSortCmpFunc_Blob.l1 k))) (slices_insertionSortCmpFunc_Blob.e2_c (backl1:=(slices_insertionSortCmpFunc_Blob.l1 k)) ihk)) big) _ _ _ a1 a2 v_i8 v_data0 _ _ v_i8 rfl hlv_data0 hov_data0 heq
  ·replace heq:=bif_false hb1 heq
   refine Cf (decide (v_i8<a2)) hb1<|Ad 1 [] ?_
   obtain rfl:=Option.some.inj heq
   exact RunH.done (by kernel_rfl) Tryd.func85 (v:=.tuple #[]) (by kernel_rfl) ⟨chv_data0,rfl,rfl,rfl,hov_data0,(hlv_data0.trans rfl)⟩
theorem slices_insertionSortCmpFunc_Blob_c {w0:World} {H:Hp} {F:List Ch} {a0:List Blob} {Aa0:Option Addr} {na0:Nat} {ca0:Nat} {cha0:Ch} {a1:Int} {a2:Int} {r:(List Blob)} (hoa0:SlOwn kBlob 29 H Aa0 ca0 a0 cha0) (hna0:na0=a0.length) (heq:slices_insertionSortCmpFunc_Blob.f a0 a1 a2=some r):CallsH Tryd.prog 85 #[.slice Aa0 na0 ca0,iv a1,iv a2,.func (.func 72) #[] #[]] H w0 (cha0::F) (S85 F H Aa0 ca0 na0 r):=by
 refine calls_of_runH (F:=C85) Tryd.func85 (by kernel_rfl) Tryd.ntmps85 (args:=[.slice Aa0 na0 ca0,iv a1,iv a2,.func (.func 72) #[] #[]]) (by kernel_rfl) ?_
 suffices key0:∀ (la0:Nat),la0=na0→RunH C85 (S85 F H Aa0 ca0 la0 r) H w0 [.c []] (argL 0 [.slice Aa0 na0 ca0,iv a1,iv a2,.func (.func 72) #[] #[]]) H (cha0::F) from key0 na0 rfl
 intro la0 hla0
 subst hna0
 unfold slices_insertionSortCmpFunc_Blob.f at heq
 refine Ra 1 [0] [.c [1]]<|Rd 3 [0,1,2,3,8] [(0,.slice Aa0 a0.length ca0),(1,iv a1),(2,iv a2),(3,.func (.func 72) #[] #[]),(8,iv (w64 (a1+1)))]<|Ad 2 [.c [1,0,0],.l [1,0,0],.b 0]<|Kp [0,1,2,3,8] [(0,.slice Aa0 a0.length ca0),(1,iv a1),(2,iv a2),(3,.func (.func 72) #[] #[]),(8,iv (w64 (a1+1)))] ?_
 exact ((slices_insertionSortCmpFunc_Blob.l1_c) big) _ _ _ a1 a2 a0 _ _ (w64 (a1+1)) rfl hla0 hoa0 heq
noncomputable def C89:Ctx:={ P:=Tryd.prog,f:=89,N:=38,c:=bodyOf Tryd.f89 }
def S89 (F:List Ch) (H0:Hp) (Aa0:Option Addr) (ca0:Nat) (la0:Nat) (r:(List Blob)) (v:Value) (H:Hp) (cs:List Ch):Prop:=∃ (ch0:Ch),H0=H∧v=.tuple #[]∧ch0::F=cs∧SlOwn kBlob 29 H Aa0 ca0 r ch0∧la0=r.length
theorem slices_swapRangeCmpFunc_Blob.l1_c {w0:World} {H:Hp} {F:List Ch} {r:(List Blob)}:∀ (k:Nat),∀ (Aa0:Option Addr) (ca0:Nat) (la0:Nat) (a1:Int) (a2:Int) (a3:Int) (v_data0:List Blob) (chv_data0:Ch) (nv_data0:Nat) (v_i10:Int) ,nv_data0=v_data0.length→la0=nv_data0→SlOwn kBlob 29 H Aa0 ca0 v_data0 chv_data0→slices_swapRangeCmpFunc_Blob.l1 k a1 a2 a3 v_data0 v_i10=some r→RunH C89 (S89 F H Aa0 ca0 la0 r) H w0 [.c [1,0,0],.l [1,0,0],.b 0] [(0,.slice Aa0 nv_data0 ca0),(1,iv a1),(2,iv a2),(3,iv a3),(10,iv v_i10)] H (chv_data0::F):=by
 intro k
 induction k with
 | zero=>intro Aa0 ca0 la0 a1 a2 a3 v_data0 chv_data0 nv_data0 v_i10 hnv_data0 hlv_data0 hov_data0 heq; exact nomatch (show (none:Option (List Blob))=some r from heq)
 | succ k ihk =>
  intro Aa0 ca0 la0 a1 a2 a3 v_data0 chv_data0 nv_data0 v_i10 hnv_data0 hlv_data0 hov_data0 heq
  subst hnv_data0
  rw [slices_swapRangeCmpFunc_Blob.l1] at heq
  refine Ra 2 [1,0,0,0,0] [.c [1,0,0,0,1],.c [1,0,0,1],.l [1,0,0],.b 0]<|Rd 3 [0,1,2,3,10,13] [(0,.slice Aa0 v_data0.length ca0),(1,iv a1),(2,iv a2),(3,iv a3),(10,iv v_i10),(13,.bool (decide (v_i10<a3)))] ?_
  rcases bool_cases (decide (v_i10<a3)) with hb1 | hb1
  ·replace heq:=bif_true hb1 heq
   refine Ct (decide (v_i10<a3)) hb1<|Ad 3 [.c [1,0,0,1,0,0],.b 1,.c [1,0,0,1,1],.l [1,0,0],.b 0]<|Kp [0,1,2,3,10] [(0,.slice Aa0 v_data0.length ca0),(1,iv a1),(2,iv a2),(3,iv a3),(10,iv v_i10)] ?_
   refine RunH.draw (fun w=>Heap H w0 w (chv_data0::F)) (fun w=>Heap H w0 w (F)) [3,3,3,3,3,3,3,3,3,3,3,3,3,3,3,3,3,3,3,3,3,1,3,2] (n:=24) (ls:=[false,false,false,false,false,false,false,false,false,false,false,false,false,false,false,false,false,false,false,false,false,false,false,false]) (by kernel_rfl) (by kernel_rfl) (by kernel_rfl) rfl ?_
   refine Dk [0,1,2,3] 20 (nb 24 15) [] [] [0,1,2,3,10,16,19] [(0,.slice Aa0 v_data0.length ca0),(1,iv a1),(2,iv a2),(3,iv a3),(10,iv v_i10),(16,.slice Aa0 v_data0.length ca0),(19,iv (w64 (a1+v_i10)))] (Pk 1 [0]) (Pk 1 []) (fun _ _=>trivial)<|De [4,5,6,7] 16 (nb 24 255) [] [] [0,1,2,3,10,16,19,20,23] [(0,.slice Aa0 v_data0.length ca0),(1,iv a1),(2,iv a2),(3,iv a3),(10,iv v_i10),(16,.slice Aa0 v_data0.length ca0),(19,iv (w64 (a1+v_i10))),(20,.slice Aa0 v_data0.length ca0),(23,iv (w64 (a2+v_i10)))] (Pk 1 []) (fun _ _=>trivial) ?_
   obtain ⟨x1,hx1,heq⟩:=bind_some heq
   obtain ⟨ha1,cs1,hK1,hcc1⟩:=hov_data0.get hx1
   obtain ⟨rfl⟩:=kBlob_open hK1
   refine Dk [8,9,10,11,12,13] 10 (nb 24 16383) [.string x1.Digest,iv x1.Size,iv x1.Used,iv x1.Until,iv x1.Pins] [.need (Aa0=some (adr Aa0)∧(0:Int)≤(w64 (a2+v_i10))∧(w64 (a2+v_i10))<((v_data0.length:Nat):Int)),.load (((adr Aa0).add ((w64 (a2+v_i10)).toNat*5)).add 0) (.string x1.Digest),.load (((adr Aa0).add ((w64 (a2+v_i10)).toNat*5)).add 1) (iv x1.Size),.load (((adr Aa0).add ((w64 (a2+v_i10)).toNat*5)).add 2) (iv x1.Used),.load (((adr Aa0).add ((w64 (a2+v_i10)).toNat*5)).add 3) (iv x1.Until),.load (((adr Aa0).add ((w64 (a2+v_i10)).toNat*5)).add 4) (iv x1.Pins)] [0,1,2,3,10,16,19,20,23,29] [(0,.slice Aa0 v_data0.length ca0),(1,iv a1),(2,iv a2),(3,iv a3),(10,iv v_i10),(16,.slice Aa0 v_data0.length ca0),(19,iv (w64 (a1+v_i10))),(20,.slice Aa0 v_data0.length ca0),(23,iv (w64 (a2+v_i10))),(29,.agg #[.string x1.Digest,iv x1.Size,iv x1.Used,iv x1.Until,iv x1.Pins])] (Pk 1 [0]) (Pk 1 []) (fun w hh=>⟨⟨ha1,(at?_some hx1).1,(at?_some hx1).2.1⟩,(hcc1 _ (hh.chin 0 rfl) 0 _ rfl),(hcc1 _ (hh.chin 0 rfl) 1 _ rfl),(hcc1 _ (hh.chin 0 rfl) 2 _ rfl),(hcc1 _ (hh.chin 0 rfl) 3 _ rfl),(hcc1 _ (hh.chin 0 rfl) 4 _ rfl)⟩) ?_
   obtain ⟨x2,hx2,heq⟩:=bind_some heq
   obtain ⟨ha2,cs2,hK2,hcc2⟩:=hov_data0.get hx2
   obtain ⟨rfl⟩:=kBlob_open hK2
   refine De [14,15,16,17,18] 5 (nb 24 524287) [] [.need (Aa0=some (adr Aa0)∧(0:Int)≤(w64 (a1+v_i10))∧(w64 (a1+v_i10))<((v_data0.length:Nat):Int))] [0,1,2,3,10,16,19,20,23,29,34] [(0,.slice Aa0 v_data0.length ca0),(1,iv a1),(2,iv a2),(3,iv a3),(10,iv v_i10),(16,.slice Aa0 v_data0.length ca0),(19,iv (w64 (a1+v_i10))),(20,.slice Aa0 v_data0.length ca0),(23,iv (w64 (a2+v_i10))),(29,.agg #[.string x1.Digest,iv x1.Size,iv x1.Used,iv x1.Until,iv x1.Pins]),(34,.pointer (some ((adr Aa0).add ((w64 (a1+v_i10)).toNat*5))))] (Pk 1 []) (fun w hh=>⟨ha2,(at?_some hx2).1,(at?_some hx2).2.1⟩) ?_
   obtain ⟨ha3,cs3,hK3,hcc3⟩:=hov_data0.get hx2
   obtain ⟨rfl⟩:=kBlob_open hK3
   refine Dk [19,20] 3 (nb 24 2097151) [.string x2.Digest,iv x2.Size,iv x2.Used,iv x2.Until,iv x2.Pins] [.load (((adr Aa0).add ((w64 (a1+v_i10)).toNat*5)).add 0) (.string x2.Digest),.load (((adr Aa0).add ((w64 (a1+v_i10)).toNat*5)).add 1) (iv x2.Size),.load (((adr Aa0).add ((w64 (a1+v_i10)).toNat*5)).add 2) (iv x2.Used),.load (((adr Aa0).add ((w64 (a1+v_i10)).toNat*5)).add 3) (iv x2.Until),.load (((adr Aa0).add ((w64 (a1+v_i10)).toNat*5)).add 4) (iv x2.Pins),.need (Aa0=some (adr Aa0)∧(0:Int)≤(w64 (a1+v_i10))∧(w64 (a1+v_i10))<((v_data0.length:Nat):Int))] [0,1,2,3,10,20,23,29,35,36] [(0,.slice Aa0 v_data0.length ca0),(1,iv a1),(2,iv a2),(3,iv a3),(10,iv v_i10),(20,.slice Aa0 v_data0.length ca0),(23,iv (w64 (a2+v_i10))),(29,.agg #[.string x1.Digest,iv x1.Size,iv x1.Used,iv x1.Until,iv x1.Pins]),(35,.agg #[.string x2.Digest,iv x2.Size,iv x2.Used,iv x2.Until,iv x2.Pins]),(36,.pointer (some ((adr Aa0).add ((w64 (a1+v_i10)).toNat*5))))] (Pk 1 [0]) (Pk 1 []) (fun w hh=>⟨(hcc3 _ (hh.chin 0 rfl) 0 _ rfl),(hcc3 _ (hh.chin 0 rfl) 1 _ rfl),(hcc3 _ (hh.chin 0 rfl) 2 _ rfl),(hcc3 _ (hh.chin 0 rfl) 3 _ rfl),(hcc3 _ (hh.chin 0 rfl) 4 _ rfl),⟨ha3,(at?_some hx2).1,(at?_some hx2).2.1⟩⟩) ?_
   obtain ⟨ha4,cs4,hK4,hcc4⟩:=hov_data0.get hx2
   obtain ⟨rfl⟩:=kBlob_open hK4
   refine DrH.does (n:=2) (ls':=[true,true,true,true,true,true,true,true,true,true,true,true,true,true,true,true,true,true,true,true,true,true,false,false]) 21 (by kernel_rfl) rfl (DoesH.storeEl (a:=((adr Aa0).add ((w64 (a1+v_i10)).toNat*5))) (k:=0) (kd:=kBlob) (c0:=[.string x2.Digest,iv x2.Size,iv x2.Used,iv x2.Until,iv x2.Pins]) (x':=x1) (o:=0) (ix:=(w64 (a1+v_i10))) (v:=.agg #[.string x1.Digest,iv x1.Size,iv x1.Used,iv x1.Until,iv x1.Pins]) (by kernel_rfl) rfl hov_data0 hx2 (by kernel_rfl) hcc4 rfl (Nat.le_of_ble_eq_true (by kernel_rfl)) kBlob_mk) ?_
   rintro _ _ _ _ ⟨ch1,rfl,rfl,rfl,ho1⟩
   have hn1:v_data0.length=(v_data0.set (w64 (a1+v_i10)).toNat x1).length:=by rw [List.length_set]
   refine ⟨fun _ w hh=>⟨(fun h=>by cases h),fun _=>(Pk 1 []) w hh,(fun h=>by cases h)⟩,?_⟩
   obtain ⟨x3,hx3,heq⟩:=bind_some heq
   obtain ⟨ha5,cs5,hK5,hcc5⟩:=ho1.get hx3
   obtain ⟨rfl⟩:=kBlob_open hK5
   refine De [22] 1 (nb 24 8388607) [] [.need (Aa0=some (adr Aa0)∧(0:Int)≤(w64 (a2+v_i10))∧(w64 (a2+v_i10))<((v_data0.length:Nat):Int))] [0,1,2,3,10,35,37] [(0,.slice Aa0 v_data0.length ca0),(1,iv a1),(2,iv a2),(3,iv a3),(10,iv v_i10),(35,.agg #[.string x2.Digest,iv x2.Size,iv x2.Used,iv x2.Until,iv x2.Pins]),(37,.pointer (some ((adr Aa0).add ((w64 (a2+v_i10)).toNat*5))))] (Pk 1 []) (fun w hh=>⟨ha5,(at?_some hx3).1,(by have:=(at?_some hx3).2.1; have:=hn1; omega)⟩) ?_
   obtain ⟨ha6,cs6,hK6,hcc6⟩:=ho1.get hx3
   obtain ⟨rfl⟩:=kBlob_open hK6
   refine DrH.does (n:=0) (ls':=[true,true,true,true,true,true,true,true,true,true,true,true,true,true,true,true,true,true,true,true,true,true,true,true]) 23 (by kernel_rfl) rfl (DoesH.storeEl (a:=((adr Aa0).add ((w64 (a2+v_i10)).toNat*5))) (k:=0) (kd:=kBlob) (c0:=[.string x3.Digest,iv x3.Size,iv x3.Used,iv x3.Until,iv x3.Pins]) (x':=x2) (o:=0) (ix:=(w64 (a2+v_i10))) (v:=.agg #[.string x2.Digest,iv x2.Size,iv x2.Used,iv x2.Until,iv x2.Pins]) (by kernel_rfl) rfl ho1 hx3 (by kernel_rfl) hcc6 rfl (Nat.le_of_ble_eq_true (by kernel_rfl)) kBlob_mk) ?_
   rintro _ _ _ _ ⟨ch2,rfl,rfl,rfl,ho2⟩
   have hn2:v_data0.length=((v_data0.set (w64 (a1+v_i10)).toNat x1).set (w64 (a2+v_i10)).toNat x2).length:=by rw [List.length_set]; exact hn1
   refine ⟨fun _ w hh=>⟨(fun h=>by cases h),(fun h=>absurd h (by decide)),(fun h=>by cases h)⟩,?_⟩
   refine Kr [0,1,2,3,10] [(0,.slice Aa0 v_data0.length ca0),(1,iv a1),(2,iv a2),(3,iv a3),(10,iv v_i10)] ?_
   refine DrH.done (by kernel_rfl) ?_
   refine Ra 1 [1,0,0,1,1] [.l [1,0,0],.b 0]<|Rd 3 [0,1,2,3,10] [(0,.slice Aa0 v_data0.length ca0),(1,iv a1),(2,iv a2),(3,iv a3),(10,iv (w64 (v_i10+1)))]<|Ad 1 [.c [1,0,0],.l [1,0,0],.b 0]<|Kp [0,1,2,3,10] [(0,.slice Aa0 v_data0.length ca0),(1,iv a1),(2,iv a2),(3,iv a3),(10,iv (w64 (v_i10+1)))] ?_
   exact ihk _ _ _ a1 a2 a3 ((v_data0.set (w64 (a1+v_i10)).toNat x1).set (w64 (a2+v_i10)).toNat x2) _ _ (w64 (v_i10+1)) hn2 hlv_data0 ho2 heq
  ·replace heq:=bif_false hb1 heq
   refine Cf (decide (v_i10<a3)) hb1<|Ad 1 [] ?_
   obtain rfl:=Option.some.inj heq
   exact RunH.done (by kernel_rfl) Tryd.func89 (v:=.tuple #[]) (by kernel_rfl) ⟨chv_data0,rfl,rfl,rfl,hov_data0,(hlv_data0.trans rfl)⟩
theorem slices_swapRangeCmpFunc_Blob_c {w0:World} {H:Hp} {F:List Ch} {a0:List Blob} {Aa0:Option Addr} {na0:Nat} {ca0:Nat} {cha0:Ch} {a1:Int} {a2:Int} {a3:Int} {r:(List Blob)} (hoa0:SlOwn kBlob 29 H Aa0 ca0 a0 cha0) (hna0:na0=a0.length) (heq:slices_swapRangeCmpFunc_Blob.f a0 a1 a2 a3=some r):CallsH Tryd.prog 89 #[.slice Aa0 na0 ca0,iv a1,iv a2,iv a3,.func (.func 72) #[] #[]] H w0 (cha0::F) (S89 F H Aa0 ca0 na0 r):=by
 refine calls_of_runH (F:=C89) Tryd.func89 (by kernel_rfl) Tryd.ntmps89 (args:=[.slice Aa0 na0 ca0,iv a1,iv a2,iv a3,.func (.func 72) #[] #[]]) (by kernel_rfl) ?_
 suffices key0:∀ (la0:Nat),la0=na0→RunH C89 (S89 F H Aa0 ca0 la0 r) H w0 [.c []] (argL 0 [.slice Aa0 na0 ca0,iv a1,iv a2,iv a3,.func (.func 72) #[] #[]]) H (cha0::F) from key0 na0 rfl
 intro la0 hla0
 subst hna0
 unfold slices_swapRangeCmpFunc_Blob.f at heq
 refine Ra 1 [0] [.c [1]]<|Rd 1 [0,1,2,3,10] [(0,.slice Aa0 a0.length ca0),(1,iv a1),(2,iv a2),(3,iv a3),(10,iv 0)]<|Ad 2 [.c [1,0,0],.l [1,0,0],.b 0]<|Kp [0,1,2,3,10] [(0,.slice Aa0 a0.length ca0),(1,iv a1),(2,iv a2),(3,iv a3),(10,iv 0)] ?_
 exact ((slices_swapRangeCmpFunc_Blob.l1_c) big) _ _ _ a1 a2 a3 a0 _ _ 0 rfl hla0 hoa0 heq
end Go.Proofs.YtadkanllaocdeaaDoor
