/- What the machine's calls of these functions come to: just what the plain functions say. Written by program. -/
import Derived.Test.YtphcmcgdinkjbaaDoorProg
import Derived.Test.YtphcmcgdinkjbaaDoorKitXi
import Derived.Test.YtphcmcgdinkjbaaDoorKitW
import Derived.Test.YtphcmcgdinkjbaaDoorZD
import Derived.Test.YtphcmcgdinkjbaaDoorShelf
import Derived.Test.YtphcmcgdinkjbaaDoorKitBl
import Derived.Test.YtphcmcgdinkjbaaDoorKitZ
set_option linter.unusedVariables false
set_option linter.unnecessarySimpa false
set_option linter.unusedSimpArgs false
set_option maxRecDepth 100000
set_option maxHeartbeats 1000000
namespace Go.Proofs.YtphcmcgdinkjbaaDoor
open Go Go.RowKit Go.Proofs.YtphcmcgdinkjbaaDoor.Kit
class Wz (w : World) : Prop where
  a : GlobI 0 w
  b : TabI Tryd.prog "internal/strconv.uint64pow10" 1 w
instance {w : World} [h : Wz w] : GlobI 0 w := h.a
instance {w : World} [h : Wz w] : TabI Tryd.prog "internal/strconv.uint64pow10" 1 w := h.b
instance {w : World} [ha : GlobI 0 w] [hb : TabI Tryd.prog "internal/strconv.uint64pow10" 1 w] : Wz w := ⟨ha, hb⟩
variable {w0 : World} {H0 H : Hp} {F : List Ch}
def kBlob:Kd Blob:=Kd.iso ((Kd.pair Kd.string (Kd.pair (Kd.int .i64) (Kd.pair (Kd.int .i64) (Kd.pair (Kd.int .i64) (Kd.int .i64)))))) (fun x=>(x.Digest,x.Size,x.Used,x.Until,x.Pins))
theorem kBlob_open {H:Hp} {x:Blob} {c:List Value} (h:kBlob.K H x c):c=[.string x.Digest,iv x.Size,iv x.Used,iv x.Until,iv x.Pins]:=by
 obtain ⟨p0,q0,rfl,g0,h0⟩:=h
 obtain rfl:p0=[_]:=g0
 obtain ⟨p1,q1,rfl,g1,h1⟩:=h0
 obtain rfl:p1=[_]:=g1
 obtain ⟨p2,q2,rfl,g2,h2⟩:=h1
 obtain rfl:p2=[_]:=g2
 obtain ⟨p3,q3,rfl,g3,h3⟩:=h2
 obtain rfl:p3=[_]:=g3
 obtain rfl:q3=[_]:=h3
 rfl
theorem kBlob_mk {H:Hp} {x:Blob}:kBlob.K H x [.string x.Digest,iv x.Size,iv x.Used,iv x.Until,iv x.Pins]:=⟨[.string x.Digest],[iv x.Size,iv x.Used,iv x.Until,iv x.Pins],rfl,rfl,⟨[iv x.Size],[iv x.Used,iv x.Until,iv x.Pins],rfl,rfl,⟨[iv x.Used],[iv x.Until,iv x.Pins],rfl,rfl,⟨[iv x.Until],[iv x.Pins],rfl,rfl,rfl⟩⟩⟩⟩
def kEntry:Kd Entry:=Kd.iso ((Kd.pair Kd.string (Kd.pair (Kd.slice Kd.string) (Kd.int .i64)))) (fun x=>(x.Key,x.Refs,x.Used))
theorem kEntry_open {H:Hp} {x:Entry} {c:List Value} (h:kEntry.K H x c):∃ A1 c1,c=[.string x.Key,.slice A1 x.Refs.length c1,iv x.Used]∧x.Refs.length≤c1∧Kd.Row Kd.string H A1 x.Refs:=by
 obtain ⟨p0,q0,rfl,g0,h0⟩:=h
 obtain rfl:p0=[_]:=g0
 obtain ⟨p1,q1,rfl,g1,h1⟩:=h0
 obtain ⟨A1,c1,rfl,u1,v1⟩:=g1
 obtain rfl:q1=[_]:=h1
 exact ⟨A1,c1,rfl,u1,v1⟩
theorem kEntry_mk {H:Hp} {x:Entry} {A1:Option Addr} {c1:Nat} (u1:x.Refs.length≤c1) (v1:Kd.Row Kd.string H A1 x.Refs):kEntry.K H x [.string x.Key,.slice A1 x.Refs.length c1,iv x.Used]:=⟨[.string x.Key],[.slice A1 x.Refs.length c1,iv x.Used],rfl,rfl,⟨[.slice A1 x.Refs.length c1],[iv x.Used],rfl,⟨A1,c1,rfl,u1,v1⟩,rfl⟩⟩
def kCache:Kd Cache:=Kd.iso ((Kd.pair (Kd.int .i64) (Kd.pair (Kd.int .i64) (Kd.pair (Kd.slice kBlob) (Kd.slice kEntry))))) (fun x=>(x.Room,x.Lease,x.Blobs,x.Entries))
theorem kCache_open {H:Hp} {x:Cache} {c:List Value} (h:kCache.K H x c):∃ A2 c2,∃ A3 c3,c=[iv x.Room,iv x.Lease,.slice A2 x.Blobs.length c2,.slice A3 x.Entries.length c3]∧x.Blobs.length≤c2∧Kd.Row kBlob H A2 x.Blobs∧x.Entries.length≤c3∧Kd.Row kEntry H A3 x.Entries:=by
 obtain ⟨p0,q0,rfl,g0,h0⟩:=h
 obtain rfl:p0=[_]:=g0
 obtain ⟨p1,q1,rfl,g1,h1⟩:=h0
 obtain rfl:p1=[_]:=g1
 obtain ⟨p2,q2,rfl,g2,h2⟩:=h1
 obtain ⟨A2,c2,rfl,u2,v2⟩:=g2
 obtain ⟨A3,c3,rfl,u3,v3⟩:=h2
 exact ⟨A2,c2,A3,c3,rfl,u2,v2,u3,v3⟩
theorem kCache_mk {H:Hp} {x:Cache} {A2:Option Addr} {c2:Nat} {A3:Option Addr} {c3:Nat} (u2:x.Blobs.length≤c2) (v2:Kd.Row kBlob H A2 x.Blobs) (u3:x.Entries.length≤c3) (v3:Kd.Row kEntry H A3 x.Entries):kCache.K H x [iv x.Room,iv x.Lease,.slice A2 x.Blobs.length c2,.slice A3 x.Entries.length c3]:=⟨[iv x.Room],[iv x.Lease,.slice A2 x.Blobs.length c2,.slice A3 x.Entries.length c3],rfl,rfl,⟨[iv x.Lease],[.slice A2 x.Blobs.length c2,.slice A3 x.Entries.length c3],rfl,rfl,⟨[.slice A2 x.Blobs.length c2],[.slice A3 x.Entries.length c3],rfl,⟨A2,c2,rfl,u2,v2⟩,⟨A3,c3,rfl,u3,v3⟩⟩⟩⟩
noncomputable def C19:Ctx:={ P:=Tryd.prog,f:=19,N:=15,c:=bodyOf Tryd.f19 }
def S19 (F:List Ch) (H0:Hp) (r:Bool) (v:Value) (H:Hp) (cs:List Ch):Prop:=H0=H∧v=.bool r∧F=cs
theorem cache_within_c [Wz w0] {a0 a1 a2:Int} {r:Bool} (heq:cache_within.f a0 a1 a2=some r):CallsH Tryd.prog 19 #[iv a0,iv a1,iv a2] H w0 (F) (S19 F H r):=by
 refine Co C19 Tryd.func19 Tryd.ntmps19 ?_
 unfold cache_within.f at heq
 refine Sa 1<|Zd 1<|An 1 ?_
 obtain ⟨t1,ht1,heq⟩:=bind_some heq
 have K1:RunH C19 (S19 F H r) H w0 [.c [1,1]] [(6,.bool t1)] H (F):=by
  obtain rfl:=Option.some.inj heq
  exact RunH.done (by kernel_rfl) Tryd.func19 (v:=.bool t1) (by kernel_rfl) ⟨rfl,rfl,rfl⟩
 replace heq:=ht1
 refine Sa 0<|Zk 4 ?_
 rcases bool_cases (decide (a1≤a0)) with hb1 | hb1
 ·replace heq:=bif_true hb1 heq
  refine Zs 10 (congrArg Value.bool hb1)<|Zk 9 ?_
  obtain rfl:=Option.some.inj heq
  refine Dn ?_
  exact Gt 0 [] (K1)
 ·replace heq:=bif_false hb1 heq
  refine Zs 10 (congrArg Value.bool hb1)<|Zk 9 ?_
  obtain rfl:=Option.some.inj heq
  refine Dn ?_
  exact Gt 0 [] (K1)
def S32 (F:List Ch) (H0:Hp) (r:ByteArray) (v:Value) (H:Hp) (cs:List Ch):Prop:=H0=H∧v=.string r∧F=cs
theorem strings_Trim_c [Wz w0] {a0:ByteArray} {a1:ByteArray} {r:ByteArray} (heq:strings_Trim.f a0 a1=some r):CallsH Tryd.prog 32 #[.string a0,.string a1] H w0 F (S32 F H r):=by
 intro w hh
 unfold strings_Trim.f at heq
 obtain ⟨hn,heq⟩:=guard?_some heq
 obtain rfl:=Option.some.inj heq
 refine (Shelf.Tryd.strings_Trim a0 a1 w (by simp at hn; exact hn.1) (by simp at hn; exact hn.2.1) (by have h:=hn; rw [Bool.and_eq_true,Bool.and_eq_true] at h; exact ascii_of_all h.2.2)).mono ?_
 rintro e w' ⟨rfl,hx⟩
 exact ⟨_,rfl,H,F,Le.refl H,hh.later hx,rfl,rfl,rfl⟩
noncomputable def C21:Ctx:={ P:=Tryd.prog,f:=21,N:=11,c:=bodyOf Tryd.f21 }
def S21 (F:List Ch) (H0:Hp) (r:Bool) (v:Value) (H:Hp) (cs:List Ch):Prop:=H0=H∧v=.bool r∧F=cs
theorem blob_IsDigest_c [Wz w0] {a0:ByteArray} {r:Bool} (heq:blob_IsDigest.f a0=some r):CallsH Tryd.prog 21 #[.string a0] H w0 (F) (S21 F H r):=by
 refine Co C21 Tryd.func21 Tryd.ntmps21 ?_
 unfold blob_IsDigest.f at heq
 refine Sa 1<|Zd 1<|An 1 ?_
 obtain ⟨t1,ht1,heq⟩:=bind_some heq
 have K1:RunH C21 (S21 F H r) H w0 [.c [1,1]] [(2,.bool t1)] H (F):=by
  obtain rfl:=Option.some.inj heq
  exact RunH.done (by kernel_rfl) Tryd.func21 (v:=.bool t1) (by kernel_rfl) ⟨rfl,rfl,rfl⟩
 replace heq:=ht1
 refine Sa 0<|Zk 4 ?_
 rcases bool_cases ((a0.size:Int) == 16) with hb1 | hb1
 ·replace heq:=bif_true hb1 heq
  refine Zs 6 (congrArg Value.bool hb1)<|Zk 5 ?_
  obtain ⟨y1,hy1,heq⟩:=bind_some heq
  refine RgH.does (cal 8 (strings_Trim_c (a0:=a0) (a1:=({ data:=#[48,49,50,51,52,53,54,55,56,57,97,98,99,100,101,102] }:ByteArray))  hy1)) ?_
  rintro _ _ _ _ ⟨_,rfl,rfl,rfl,rfl⟩
  refine Zk 9 ?_
  obtain rfl:=Option.some.inj heq
  refine Dn ?_
  exact Gt 0 [] (K1)
 ·replace heq:=bif_false hb1 heq
  refine Zs 6 (congrArg Value.bool hb1)<|Zk 9 ?_
  obtain rfl:=Option.some.inj heq
  refine Dn ?_
  exact Gt 0 [] (K1)
noncomputable def C23:Ctx:={ P:=Tryd.prog,f:=23,N:=5,c:=bodyOf Tryd.f23 }
def S23 (F:List Ch) (H0:Hp) (r:Bool) (v:Value) (H:Hp) (cs:List Ch):Prop:=H0=H∧v=.bool r∧F=cs
theorem cache_isMoment_c [Wz w0] {a0:Int} {r:Bool} (heq:cache_isMoment.f a0=some r):CallsH Tryd.prog 23 #[iv a0] H w0 (F) (S23 F H r):=by
 refine Co C23 Tryd.func23 Tryd.ntmps23 ?_
 unfold cache_isMoment.f at heq
 refine Sa 1<|Zd 1<|Sa 1<|Zk 1 ?_
 obtain ⟨y1,hy1,heq⟩:=bind_some heq
 refine RgH.does (cal 4 (cache_within_c hy1 )) ?_
 rintro _ _ _ _ ⟨_,rfl,rfl,rfl,rfl⟩
 refine Zd 3 ?_
 obtain rfl:=Option.some.inj heq
 exact RunH.done (by kernel_rfl) Tryd.func23 (v:=.bool y1) (by kernel_rfl) ⟨rfl,rfl,rfl⟩
noncomputable def C20:Ctx:={ P:=Tryd.prog,f:=20,N:=68,c:=bodyOf Tryd.f20 }
def S20 (F:List Ch) (H0:Hp) (r:Int) (v:Value) (H:Hp) (cs:List Ch):Prop:=H0=H∧v=iv r∧F=cs
theorem cache_checkBlobs.e1_c [Wz w0] {r:Int}:∀ (a1 v_sum5:Int) ,cache_checkBlobs.e1 a1 v_sum5=some r→RunH C20 (S20 F H r) H w0 [.c [1,1,1,1,0,0],.c [1,1,1,1,0,1],.c [1,1,1,1,1]] [(1,iv a1),(5,iv v_sum5)] H (F):=by
 intro a1 v_sum5  heq
 unfold cache_checkBlobs.e1 at heq
 refine Sa 0<|Zd 3 ?_
 refine Cb heq ?_ ?_
 ·intro hb2 heq
  refine Sa 1<|Zd 1 ?_
  obtain rfl:=Option.some.inj heq
  exact RunH.done (by kernel_rfl) Tryd.func20 (v:=iv 16) (by kernel_rfl) ⟨rfl,rfl,rfl⟩
 ·intro hb2 heq
  refine Sa 2<|Zd 1 ?_
  obtain rfl:=Option.some.inj heq
  exact RunH.done (by kernel_rfl) Tryd.func20 (v:=iv 0) (by kernel_rfl) ⟨rfl,rfl,rfl⟩
theorem cache_checkBlobs.l2_c [Wz w0] {r:Int} (e1:Int→Int→Option Int)
  (he1:∀ (a1 v_sum5:Int) ,e1 a1 v_sum5=some r→RunH C20 (S20 F H r) H w0 [.c [1,1,1,1,0,0],.c [1,1,1,1,0,1],.c [1,1,1,1,1]] [(1,iv a1),(5,iv v_sum5)] H (F)):∀ (k:Nat),∀ (a0:List Blob) (Aa0:Option Addr) (ca0:Nat) (a1 v_sum5 v13:Int) ,Rw kBlob H F Aa0 a0→a0.length≤ca0→cache_checkBlobs.l2 e1 k a0 a1 v_sum5 v13=some r→RunH C20 (S20 F H r) H w0 [.c [1,1,1,0,1,0,0],.l [1,1,1,0,1,0,0],.b 0,.c [1,1,1,1]] [(0,.slice Aa0 a0.length ca0),(1,iv a1),(5,iv v_sum5),(11,.slice Aa0 a0.length ca0),(12,iv (a0.length:Int)),(13,iv v13)] H (F):=by
 intro k
 induction k with
 | zero=>intro a0 Aa0 ca0 a1 v_sum5 v13 hra0 hca0 heq; exact nomatch (show (none:Option Int)=some r from heq)
 | succ k ihk =>
  intro a0 Aa0 ca0 a1 v_sum5 v13 hra0 hca0 heq
  rw [cache_checkBlobs.l2] at heq
  refine Sa 1<|Zd 1<|An 1 ?_
  refine Cb heq ?_ ?_
  ·intro hb3 heq
   refine Sa 4 ?_
   obtain ⟨x1,hx1,heq⟩:=bind_some heq
   obtain ⟨ha1,cs1,hK1,hcc1⟩:=hra0.get hx1
   obtain ⟨rfl⟩:=kBlob_open hK1
   refine Zv 3 ([nx ha1 hx1]++ers hcc1 0) ?_
   refine RgH.does (DoesH.new (d:=7) (v:=fun g=>.pointer (some ⟨g,0,none⟩)) (o:=fun g=>.cells #[.string ByteArray.empty,iv 0,iv 0,iv 0,iv 0] 48 (0,0)) (fun g=>by kernel_rfl)) ?_
   rintro _ _ _ _ ⟨g1,rfl,rfl,rfl⟩
   refine Zk 5 ?_
   refine RgH.does (DoesH.store (k:=0) (g:=g1) (off:=0) (v:=.agg #[.string x1.Digest,iv x1.Size,iv x1.Used,iv x1.Until,iv x1.Pins]) (cells':=#[.string x1.Digest,iv x1.Size,iv x1.Used,iv x1.Until,iv x1.Pins]) (by kernel_rfl) rfl (by kernel_rfl) (by kernel_rfl)) ?_
   rintro _ _ _ _ ⟨rfl,rfl,rfl⟩
   refine Dn<|Sa 3<|Zv 2 [bx 0 0] ?_
   obtain ⟨y1,hy1,heq⟩:=bind_some heq
   refine RgH.does (cal 21 (blob_IsDigest_c hy1 )) ?_
   rintro _ _ _ _ ⟨_,rfl,rfl,rfl,rfl⟩
   refine Zd 5 ?_
   refine Cb heq ?_ ?_
   ·intro hb4 heq
    refine Sa 1<|Zd 1 ?_
    obtain rfl:=Option.some.inj heq
    refine Up 1 [] ?_
    exact RunH.done (by kernel_rfl) Tryd.func20 (v:=iv 3) (by kernel_rfl) ⟨rfl,rfl,rfl⟩
   ·intro hb4 heq
    refine An 1 ?_
    obtain ⟨t1,ht1,heq⟩:=bind_some heq
    have K2:RunH C20 (S20 F H r) H w0 [.c [1,1,1,0,1,0,0,1,1,0,0,1,0,0,1,1,1],.b 2,.c [1,1,1,0,1,0,0,1,1,0,0,1,1],.b 1,.c [1,1,1,0,1,0,0,1,1,1],.l [1,1,1,0,1,0,0],.b 0,.c [1,1,1,1]] [(0,.slice Aa0 a0.length ca0),(1,iv a1),(5,iv v_sum5),(6,iv v13),(7,pg g1 0),(11,.slice Aa0 a0.length ca0),(12,iv (a0.length:Int)),(13,iv v13),(23,.bool t1)] H ((some (g1,.cells #[.string x1.Digest,iv x1.Size,iv x1.Used,iv x1.Until,iv x1.Pins] 48 (0,0)))::F):=by
     refine Cb heq ?_ ?_
     ·intro hb8 heq
      refine Sa 1<|Zd 1 ?_
      obtain rfl:=Option.some.inj heq
      refine Up 1 [] ?_
      exact RunH.done (by kernel_rfl) Tryd.func20 (v:=iv 1) (by kernel_rfl) ⟨rfl,rfl,rfl⟩
     ·intro hb8 heq
      refine An 1 ?_
      obtain ⟨t2,ht2,heq⟩:=bind_some heq
      have K3:RunH C20 (S20 F H r) H w0 [.c [1,1,1,0,1,0,0,1,1,0,0,1,0,0,1,1,1,1,1],.b 2,.c [1,1,1,0,1,0,0,1,1,0,0,1,1],.b 1,.c [1,1,1,0,1,0,0,1,1,1],.l [1,1,1,0,1,0,0],.b 0,.c [1,1,1,1]] [(0,.slice Aa0 a0.length ca0),(1,iv a1),(5,iv v_sum5),(7,pg g1 0),(11,.slice Aa0 a0.length ca0),(12,iv (a0.length:Int)),(13,iv v13),(46,.bool t2)] H ((some (g1,.cells #[.string x1.Digest,iv x1.Size,iv x1.Used,iv x1.Until,iv x1.Pins] 48 (0,0)))::F):=by
       refine Cb heq ?_ ?_
       ·intro hb10 heq
        refine Sa 1<|Zd 1 ?_
        obtain rfl:=Option.some.inj heq
        refine Up 1 [] ?_
        exact RunH.done (by kernel_rfl) Tryd.func20 (v:=iv 8) (by kernel_rfl) ⟨rfl,rfl,rfl⟩
       ·intro hb10 heq
        refine Sa 2<|Zw 5 [bx 0 1]<|Sa 1<|Zd 2<|An 1 ?_
        exact Gt 1 [] (ihk a0 _ _ a1 (w64 (v_sum5+x1.Size)) (w64 (v13+1)) hra0 hca0 heq)
      replace heq:=ht2
      refine Sd 1 14 [0] [3,3,3,3,3,3,3,3,3,3,3,3,3,3]<|Zr [0,1,2] 11 [] (Pk 1 [0]) (Pk 1 [0]) ?_
      rcases bool_cases (decide (0<v13)) with hb9 | hb9
      ·replace heq:=bif_true hb9 heq
       refine Zu 49 (congrArg Value.bool hb9) ?_
       obtain ⟨x2,hx2,heq⟩:=bind_some heq
       obtain ⟨ha2,cs2,hK2,hcc2⟩:=hra0.get hx2
       obtain ⟨rfl⟩:=kBlob_open hK2
       refine Zr [3,4,5,6,7,8,9,10,11,12,13] 0 [bx 0 0,nx ha2 hx2,er hcc2 1 0] (Pk 1 [0]) (Pk 1 [0]) ?_
       obtain rfl:=Option.some.inj heq
       refine DrH.done (by kernel_rfl) ?_
       exact Gt 1 [0] (K3)
      ·replace heq:=bif_false hb9 heq
       refine Zu 49 (congrArg Value.bool hb9)<|Zr [3,4,5,6,7,8,9,10,11,12,13] 0 [] (Pk 1 [0]) (Pk 1 [0]) ?_
       obtain rfl:=Option.some.inj heq
       refine DrH.done (by kernel_rfl) ?_
       exact Gt 1 [0] (K3)
    replace heq:=ht1
    refine Sa 0<|Zv 2 [bx 0 1] ?_
    obtain ⟨y2,hy2,heq⟩:=bind_some heq
    refine RgH.does (cal 26 (cache_within_c hy2 )) ?_
    rintro _ _ _ _ ⟨_,rfl,rfl,rfl,rfl⟩
    refine Zk 5 ?_
    rcases bool_cases (!y2) with hb5 | hb5
    ·replace heq:=bif_true hb5 heq
     refine Zs 28 (congrArg Value.bool hb5)<|Zk 23 ?_
     obtain rfl:=Option.some.inj heq
     refine Dn ?_
     exact Gt 1 [0] (K2)
    ·replace heq:=bif_false hb5 heq
     refine Zs 28 (congrArg Value.bool hb5)<|Zv 7 [bx 0 2] ?_
     obtain ⟨y3,hy3,heq⟩:=bind_some heq
     refine RgH.does (cal 31 (cache_isMoment_c hy3 )) ?_
     rintro _ _ _ _ ⟨_,rfl,rfl,rfl,rfl⟩
     refine Zk 11 ?_
     rcases bool_cases (!y3) with hb6 | hb6
     ·replace heq:=bif_true hb6 heq
      refine Zs 34 (congrArg Value.bool hb6)<|Zk 23 ?_
      obtain rfl:=Option.some.inj heq
      refine Dn ?_
      exact Gt 1 [0] (K2)
     ·replace heq:=bif_false hb6 heq
      refine Zs 34 (congrArg Value.bool hb6)<|Zv 13 [bx 0 3] ?_
      obtain ⟨y4,hy4,heq⟩:=bind_some heq
      refine RgH.does (cal 37 (cache_within_c hy4 )) ?_
      rintro _ _ _ _ ⟨_,rfl,rfl,rfl,rfl⟩
      refine Zk 17 ?_
      rcases bool_cases (!y4) with hb7 | hb7
      ·replace heq:=bif_true hb7 heq
       refine Zs 40 (congrArg Value.bool hb7)<|Zk 23 ?_
       obtain rfl:=Option.some.inj heq
       refine Dn ?_
       exact Gt 1 [0] (K2)
      ·replace heq:=bif_false hb7 heq
       refine Zs 40 (congrArg Value.bool hb7)<|Zv 19 [bx 0 4] ?_
       obtain ⟨y5,hy5,heq⟩:=bind_some heq
       refine RgH.does (cal 43 (cache_within_c hy5 )) ?_
       rintro _ _ _ _ ⟨_,rfl,rfl,rfl,rfl⟩
       refine Zk 23 ?_
       obtain rfl:=Option.some.inj heq
       refine Dn ?_
       exact Gt 1 [0] (K2)
  ·intro hb3 heq
   refine An 3 ?_
   exact Gt 0 [] (he1 a1 v_sum5 heq)
theorem cache_checkBlobs_c [Wz w0] {a0:List Blob} {Aa0:Option Addr} {na0 ca0:Nat} {a1:Int} {r:Int} (heq:cache_checkBlobs.f a0 a1=some r) (hra0:Rw kBlob H F Aa0 a0) (hca0:na0≤ca0) (hna0:na0=a0.length):CallsH Tryd.prog 20 #[.slice Aa0 na0 ca0,iv a1] H w0 (F) (S20 F H r):=by
 refine Co C20 Tryd.func20 Tryd.ntmps20 ?_
 subst hna0
 unfold cache_checkBlobs.f at heq
 refine Sa 1<|Zd 1<|Sa 2<|Zd 3 ?_
 refine Cb heq ?_ ?_
 ·intro hb1 heq
  refine Sa 1<|Zd 1 ?_
  obtain rfl:=Option.some.inj heq
  exact RunH.done (by kernel_rfl) Tryd.func20 (v:=iv 2) (by kernel_rfl) ⟨rfl,rfl,rfl⟩
 ·intro hb1 heq
  refine Sa 2<|Zd 1<|Sa 2<|Zd 3<|An 2 ?_
  exact Gt 0 [] (((cache_checkBlobs.l2_c (e1:=cache_checkBlobs.e1) (cache_checkBlobs.e1_c)) big) a0 _ _ a1 0 0 hra0 hca0 heq)
noncomputable def C22:Ctx:={ P:=Tryd.prog,f:=22,N:=33,c:=bodyOf Tryd.f22 }
def S22 (F:List Ch) (H0:Hp) (r:Int) (v:Value) (H:Hp) (cs:List Ch):Prop:=H0=H∧v=iv r∧F=cs
theorem cache_checkDigests.e1_c [Wz w0] {r:Int}:cache_checkDigests.e1=some r→RunH C22 (S22 F H r) H w0 [.c [1,1,1,0],.c [1,1,1,1]] [] H (F):=by
 intro   heq
 unfold cache_checkDigests.e1 at heq
 refine Sa 0<|Zd 1 ?_
 obtain rfl:=Option.some.inj heq
 exact RunH.done (by kernel_rfl) Tryd.func22 (v:=iv 0) (by kernel_rfl) ⟨rfl,rfl,rfl⟩
theorem cache_checkDigests.l2_c [Wz w0] {r:Int} (e1:Option Int)
  (he1:e1=some r→RunH C22 (S22 F H r) H w0 [.c [1,1,1,0],.c [1,1,1,1]] [] H (F)):∀ (k:Nat),∀ (a0:List ByteArray) (Aa0:Option Addr) (ca0:Nat) (v13:Int) ,Rw Kd.string H F Aa0 a0→a0.length≤ca0→cache_checkDigests.l2 e1 k a0 v13=some r→RunH C22 (S22 F H r) H w0 [.c [1,1,0,1,0,0],.l [1,1,0,1,0,0],.b 0,.c [1,1,1]] [(0,.slice Aa0 a0.length ca0),(11,.slice Aa0 a0.length ca0),(12,iv (a0.length:Int)),(13,iv v13)] H (F):=by
 intro k
 induction k with
 | zero=>intro a0 Aa0 ca0 v13 hra0 hca0 heq; exact nomatch (show (none:Option Int)=some r from heq)
 | succ k ihk =>
  intro a0 Aa0 ca0 v13 hra0 hca0 heq
  rw [cache_checkDigests.l2] at heq
  refine Sa 1<|Zd 1<|An 1 ?_
  refine Cb heq ?_ ?_
  ·intro hb2 heq
   refine Sa 4 ?_
   obtain ⟨x1,hx1,heq⟩:=bind_some heq
   obtain ⟨ha1,cs1,hK1,hcc1⟩:=hra0.get hx1
   obtain rfl:cs1=[.string x1]:=hK1
   refine Zw 5 [nx ha1 hx1,er hcc1 0 0]<|Sa 2<|Zk 1 ?_
   obtain ⟨y1,hy1,heq⟩:=bind_some heq
   refine RgH.does (cal 19 (blob_IsDigest_c hy1 )) ?_
   rintro _ _ _ _ ⟨_,rfl,rfl,rfl,rfl⟩
   refine Zd 3 ?_
   refine Cb heq ?_ ?_
   ·intro hb3 heq
    refine Sa 1<|Zd 1 ?_
    obtain rfl:=Option.some.inj heq
    exact RunH.done (by kernel_rfl) Tryd.func22 (v:=iv 3) (by kernel_rfl) ⟨rfl,rfl,rfl⟩
   ·intro hb3 heq
    refine An 2 ?_
    obtain ⟨t1,ht1,heq⟩:=bind_some heq
    have K1:RunH C22 (S22 F H r) H w0 [.c [1,1,0,1,0,0,1,1,0,0,1,1,1],.b 1,.c [1,1,0,1,0,0,1,1,1],.l [1,1,0,1,0,0],.b 0,.c [1,1,1]] [(0,.slice Aa0 a0.length ca0),(11,.slice Aa0 a0.length ca0),(12,iv (a0.length:Int)),(13,iv v13),(31,.bool t1)] H (F):=by
     refine Cb heq ?_ ?_
     ·intro hb5 heq
      refine Sa 1<|Zd 1 ?_
      obtain rfl:=Option.some.inj heq
      exact RunH.done (by kernel_rfl) Tryd.func22 (v:=iv 8) (by kernel_rfl) ⟨rfl,rfl,rfl⟩
     ·intro hb5 heq
      refine Sa 2<|Zd 2<|An 1 ?_
      exact Gt 0 [] (ihk a0 _ _ (w64 (v13+1)) hra0 hca0 heq)
    replace heq:=ht1
    refine Sa 0<|Zk 3 ?_
    rcases bool_cases (decide (0<v13)) with hb4 | hb4
    ·replace heq:=bif_true hb4 heq
     refine Zs 23 (congrArg Value.bool hb4) ?_
     obtain ⟨x2,hx2,heq⟩:=bind_some heq
     obtain ⟨ha2,cs2,hK2,hcc2⟩:=hra0.get hx2
     obtain rfl:cs2=[.string x2]:=hK2
     refine Zv 11 [nx ha2 hx2,er hcc2 0 0] ?_
     obtain rfl:=Option.some.inj heq
     refine Dn ?_
     exact Gt 0 [] (K1)
    ·replace heq:=bif_false hb4 heq
     refine Zs 23 (congrArg Value.bool hb4)<|Zk 11 ?_
     obtain rfl:=Option.some.inj heq
     refine Dn ?_
     exact Gt 0 [] (K1)
  ·intro hb2 heq
   refine An 2 ?_
   exact Gt 0 [] (he1 heq)
theorem cache_checkDigests_c [Wz w0] {a0:List ByteArray} {Aa0:Option Addr} {na0 ca0:Nat} {a1:Int} {r:Int} (heq:cache_checkDigests.f a0 a1=some r) (hra0:Rw Kd.string H F Aa0 a0) (hca0:na0≤ca0) (hna0:na0=a0.length):CallsH Tryd.prog 22 #[.slice Aa0 na0 ca0,iv a1] H w0 (F) (S22 F H r):=by
 refine Co C22 Tryd.func22 Tryd.ntmps22 ?_
 subst hna0
 unfold cache_checkDigests.f at heq
 refine Sa 1<|Zd 1<|Sa 2<|Zd 4 ?_
 refine Cb heq ?_ ?_
 ·intro hb1 heq
  refine Sa 1<|Zd 1 ?_
  obtain rfl:=Option.some.inj heq
  exact RunH.done (by kernel_rfl) Tryd.func22 (v:=iv 2) (by kernel_rfl) ⟨rfl,rfl,rfl⟩
 ·intro hb1 heq
  refine Sa 3<|Zd 3<|An 2 ?_
  exact Gt 0 [] (((cache_checkDigests.l2_c (e1:=cache_checkDigests.e1) (cache_checkDigests.e1_c)) big) a0 _ _ 0 hra0 hca0 heq)
noncomputable def C8:Ctx:={ P:=Tryd.prog,f:=8,N:=66,c:=bodyOf Tryd.f8 }
def S8 (F:List Ch) (H0:Hp) (r:Int) (v:Value) (H:Hp) (cs:List Ch):Prop:=H0=H∧v=iv r∧F=cs
theorem cache_CheckCache.e1_c [Wz w0] {r:Int}:cache_CheckCache.e1=some r→RunH C8 (S8 F H r) H w0 [.c [1,1,1,1,1,0],.c [1,1,1,1,1,1]] [] H (F):=by
 intro   heq
 unfold cache_CheckCache.e1 at heq
 refine Sa 0<|Zd 1 ?_
 obtain rfl:=Option.some.inj heq
 exact RunH.done (by kernel_rfl) Tryd.func8 (v:=iv 0) (by kernel_rfl) ⟨rfl,rfl,rfl⟩
theorem cache_CheckCache.l2_c [Wz w0] {r:Int} (e1:Option Int)
  (he1:e1=some r→RunH C8 (S8 F H r) H w0 [.c [1,1,1,1,1,0],.c [1,1,1,1,1,1]] [] H (F)):∀ (k:Nat),∀ (a0:Cache) (Aa0_2:Option Addr) (ca0_2:Nat) (Aa0_3:Option Addr) (ca0_3 g1:Nat) (v32:Int) ,Rw kBlob H F Aa0_2 a0.Blobs→a0.Blobs.length≤ca0_2→Rw kEntry H F Aa0_3 a0.Entries→a0.Entries.length≤ca0_3→cache_CheckCache.l2 e1 k a0 v32=some r→RunH C8 (S8 F H r) H w0 [.c [1,1,1,1,0,1,0,0],.l [1,1,1,1,0,1,0,0],.b 0,.c [1,1,1,1,1]] [(1,pg g1 0),(30,.slice Aa0_3 a0.Entries.length ca0_3),(31,iv (a0.Entries.length:Int)),(32,iv v32)] H ((some (g1,.cells #[iv a0.Room,iv a0.Lease,.slice Aa0_2 a0.Blobs.length ca0_2,.slice Aa0_3 a0.Entries.length ca0_3] 25 (0,0)))::F):=by
 intro k
 induction k with
 | zero=>intro a0 Aa0_2 ca0_2 Aa0_3 ca0_3 g1 v32 hra0_2 hca0_2 hra0_3 hca0_3 heq; exact nomatch (show (none:Option Int)=some r from heq)
 | succ k ihk =>
  intro a0 Aa0_2 ca0_2 Aa0_3 ca0_3 g1 v32 hra0_2 hca0_2 hra0_3 hca0_3 heq
  rw [cache_CheckCache.l2] at heq
  refine Sa 1<|Zd 1<|An 1 ?_
  refine Cb heq ?_ ?_
  ·intro hb5 heq
   refine Sa 4 ?_
   obtain ⟨x1,hx1,heq⟩:=bind_some heq
   obtain ⟨ha1,cs1,hK1,hcc1⟩:=hra0_3.get hx1
   obtain ⟨A1,c1,rfl,hc1,hr1⟩:=kEntry_open hK1
   refine Zv 3 ([nx ha1 hx1]++ers hcc1 1) ?_
   refine RgH.does (DoesH.new (d:=5) (v:=fun g=>.pointer (some ⟨g,0,none⟩)) (o:=fun g=>.cells #[.string ByteArray.empty,.slice none 0 0,iv 0] 50 (0,0)) (fun g=>by kernel_rfl)) ?_
   rintro _ _ _ _ ⟨g2,rfl,rfl,rfl⟩
   refine Zk 5 ?_
   refine RgH.does (DoesH.store (k:=0) (g:=g2) (off:=0) (v:=.agg #[.string x1.Key,.slice A1 x1.Refs.length c1,iv x1.Used]) (cells':=#[.string x1.Key,.slice A1 x1.Refs.length c1,iv x1.Used]) (by kernel_rfl) rfl (by kernel_rfl) (by kernel_rfl)) ?_
   rintro _ _ _ _ ⟨rfl,rfl,rfl⟩
   refine Dn<|Sa 2<|Zv 2 [bx 0 0] ?_
   obtain ⟨y4,hy4,heq⟩:=bind_some heq
   refine RgH.does (cal 39 (blob_IsDigest_c hy4 )) ?_
   rintro _ _ _ _ ⟨_,rfl,rfl,rfl,rfl⟩
   refine Zd 4 ?_
   refine Cb heq ?_ ?_
   ·intro hb6 heq
    refine Sa 1<|Zd 1 ?_
    obtain rfl:=Option.some.inj heq
    refine Up 2 [] ?_
    exact RunH.done (by kernel_rfl) Tryd.func8 (v:=iv 3) (by kernel_rfl) ⟨rfl,rfl,rfl⟩
   ·intro hb6 heq
    refine Sa 3<|Zv 2 [bx 0 1] ?_
    obtain ⟨y5,hy5,heq⟩:=bind_some heq
    refine RgH.does (cal 43 (cache_checkDigests_c hy5 (Rw.of hr1) hc1 rfl)) ?_
    rintro _ _ _ _ ⟨_,rfl,rfl,rfl,rfl⟩
    refine Zd 4<|Sa 1<|Zd 2 ?_
    refine Cb heq ?_ ?_
    ·intro hb7 heq
     refine Sa 1<|Zd 2 ?_
     obtain rfl:=Option.some.inj heq
     refine Up 2 [] ?_
     exact RunH.done (by kernel_rfl) Tryd.func8 (v:=iv y5) (by kernel_rfl) ⟨rfl,rfl,rfl⟩
    ·intro hb7 heq
     refine Sa 3<|Zv 2 [bx 0 2] ?_
     obtain ⟨y6,hy6,heq⟩:=bind_some heq
     refine RgH.does (cal 49 (cache_isMoment_c hy6 )) ?_
     rintro _ _ _ _ ⟨_,rfl,rfl,rfl,rfl⟩
     refine Zd 4 ?_
     refine Cb heq ?_ ?_
     ·intro hb8 heq
      refine Sa 1<|Zd 1 ?_
      obtain rfl:=Option.some.inj heq
      refine Up 2 [] ?_
      exact RunH.done (by kernel_rfl) Tryd.func8 (v:=iv 1) (by kernel_rfl) ⟨rfl,rfl,rfl⟩
     ·intro hb8 heq
      refine An 2 ?_
      obtain ⟨t2,ht2,heq⟩:=bind_some heq
      have K4:RunH C8 (S8 F H r) H w0 [.c [1,1,1,1,0,1,0,0,1,1,0,0,1,1,1,1,1],.b 1,.c [1,1,1,1,0,1,0,0,1,1,1],.l [1,1,1,1,0,1,0,0],.b 0,.c [1,1,1,1,1]] [(1,pg g1 0),(30,.slice Aa0_3 a0.Entries.length ca0_3),(31,iv (a0.Entries.length:Int)),(32,iv v32),(64,.bool t2)] H ((some (g1,.cells #[iv a0.Room,iv a0.Lease,.slice Aa0_2 a0.Blobs.length ca0_2,.slice Aa0_3 a0.Entries.length ca0_3] 25 (0,0)))::F):=by
       refine Cb heq ?_ ?_
       ·intro hb10 heq
        refine Sa 1<|Zd 1 ?_
        obtain rfl:=Option.some.inj heq
        refine Up 1 [] ?_
        exact RunH.done (by kernel_rfl) Tryd.func8 (v:=iv 8) (by kernel_rfl) ⟨rfl,rfl,rfl⟩
       ·intro hb10 heq
        refine Sa 2<|Zd 2<|An 1 ?_
        exact Gt 1 [0] (ihk a0 _ _ _ _ _ (w64 (v32+1)) hra0_2 hca0_2 hra0_3 hca0_3 heq)
      replace heq:=ht2
      refine Sd 2 14 [0,1] [3,3,3,3,3,3,3,3,3,3,3,3,3,3]<|Zr [0,1,2] 11 [] (Pk 2 [0,1]) (Pk 2 [0,1]) ?_
      rcases bool_cases (decide (0<v32)) with hb9 | hb9
      ·replace heq:=bif_true hb9 heq
       refine Zu 53 (congrArg Value.bool hb9) ?_
       obtain ⟨x2,hx2,heq⟩:=bind_some heq
       obtain ⟨ha2,cs2,hK2,hcc2⟩:=hra0_3.get hx2
       obtain ⟨A2,c2,rfl,hc2,hr2⟩:=kEntry_open hK2
       refine Zr [3,4,5,6,7,8,9,10,11,12,13] 0 [bx 0 0,bx 1 3,nx ha2 hx2,er hcc2 2 0] (Pk 2 [0,1]) (Pk 2 [0,1]) ?_
       obtain rfl:=Option.some.inj heq
       refine DrH.done (by kernel_rfl) ?_
       exact Gt 2 [1] (K4)
      ·replace heq:=bif_false hb9 heq
       refine Zu 53 (congrArg Value.bool hb9)<|Zr [3,4,5,6,7,8,9,10,11,12,13] 0 [] (Pk 2 [0,1]) (Pk 2 [0,1]) ?_
       obtain rfl:=Option.some.inj heq
       refine DrH.done (by kernel_rfl) ?_
       exact Gt 2 [1] (K4)
  ·intro hb5 heq
   refine An 2 ?_
   exact Gt 1 [] (he1 heq)
theorem cache_CheckCache_c [Wz w0] {a0:Cache} {Aa0_2:Option Addr} {na0_2 ca0_2:Nat} {Aa0_3:Option Addr} {na0_3 ca0_3:Nat} {r:Int} (heq:cache_CheckCache.f a0=some r) (hra0_2:Rw kBlob H F Aa0_2 a0.Blobs) (hca0_2:na0_2≤ca0_2) (hna0_2:na0_2=a0.Blobs.length) (hra0_3:Rw kEntry H F Aa0_3 a0.Entries) (hca0_3:na0_3≤ca0_3) (hna0_3:na0_3=a0.Entries.length):CallsH Tryd.prog 8 #[.agg #[iv a0.Room,iv a0.Lease,.slice Aa0_2 na0_2 ca0_2,.slice Aa0_3 na0_3 ca0_3]] H w0 (F) (S8 F H r):=by
 refine Co C8 Tryd.func8 Tryd.ntmps8 ?_
 subst hna0_2
 subst hna0_3
 unfold cache_CheckCache.f at heq
 refine Sa 1 ?_
 refine RgH.does (DoesH.new (d:=1) (v:=fun g=>.pointer (some ⟨g,0,none⟩)) (o:=fun g=>.cells #[iv a0.Room,iv a0.Lease,.slice Aa0_2 a0.Blobs.length ca0_2,.slice Aa0_3 a0.Entries.length ca0_3] 25 (0,0)) (fun g=>by kernel_rfl)) ?_
 rintro _ _ _ _ ⟨g1,rfl,rfl,rfl⟩
 refine Zd 2<|An 2 ?_
 obtain ⟨t1,ht1,heq⟩:=bind_some heq
 have K2:RunH C8 (S8 F H r) H w0 [.c [1,0,1],.c [1,1]] [(1,pg g1 0),(16,.bool t1)] H ((some (g1,.cells #[iv a0.Room,iv a0.Lease,.slice Aa0_2 a0.Blobs.length ca0_2,.slice Aa0_3 a0.Entries.length ca0_3] 25 (0,0)))::F):=by
  refine Cb heq ?_ ?_
  ·intro hb2 heq
   refine Sa 1<|Zd 1 ?_
   obtain rfl:=Option.some.inj heq
   refine Up 1 [] ?_
   exact RunH.done (by kernel_rfl) Tryd.func8 (v:=iv 1) (by kernel_rfl) ⟨rfl,rfl,rfl⟩
  ·intro hb2 heq
   refine Sa 3<|Zv 4 [bx 0 2,bx 0 0] ?_
   obtain ⟨y3,hy3,heq⟩:=bind_some heq
   refine RgH.does (cal 21 (cache_checkBlobs_c hy3 (hra0_2.wk (fun _ h=>(.tail _ h))) hca0_2 rfl)) ?_
   rintro _ _ _ _ ⟨_,rfl,rfl,rfl,rfl⟩
   refine Zd 6<|Sa 1<|Zd 2 ?_
   refine Cb heq ?_ ?_
   ·intro hb3 heq
    refine Sa 1<|Zd 2 ?_
    obtain rfl:=Option.some.inj heq
    refine Up 1 [] ?_
    exact RunH.done (by kernel_rfl) Tryd.func8 (v:=iv y3) (by kernel_rfl) ⟨rfl,rfl,rfl⟩
   ·intro hb3 heq
    refine Sa 3<|Zw 4 [bx 0 3] ?_
    refine Cb heq ?_ ?_
    ·intro hb4 heq
     refine Sa 1<|Zd 1 ?_
     obtain rfl:=Option.some.inj heq
     refine Up 1 [] ?_
     exact RunH.done (by kernel_rfl) Tryd.func8 (v:=iv 2) (by kernel_rfl) ⟨rfl,rfl,rfl⟩
    ·intro hb4 heq
     refine Sa 3<|Zw 4 [bx 0 3]<|An 2 ?_
     exact Gt 1 [0] (((cache_CheckCache.l2_c (e1:=cache_CheckCache.e1) (cache_CheckCache.e1_c)) big) a0 _ _ _ _ _ 0 hra0_2 hca0_2 hra0_3 hca0_3 heq)
 replace heq:=ht1
 refine Sa 0<|Zv 2 [bx 0 0] ?_
 obtain ⟨y1,hy1,heq⟩:=bind_some heq
 refine RgH.does (cal 9 (cache_within_c hy1 )) ?_
 rintro _ _ _ _ ⟨_,rfl,rfl,rfl,rfl⟩
 refine Zk 5 ?_
 rcases bool_cases (!y1) with hb1 | hb1
 ·replace heq:=bif_true hb1 heq
  refine Zs 11 (congrArg Value.bool hb1)<|Zk 10 ?_
  obtain rfl:=Option.some.inj heq
  refine Dn ?_
  exact Gt 1 [0] (K2)
 ·replace heq:=bif_false hb1 heq
  refine Zs 11 (congrArg Value.bool hb1)<|Zv 7 [bx 0 1] ?_
  obtain ⟨y2,hy2,heq⟩:=bind_some heq
  refine RgH.does (cal 14 (cache_within_c hy2 )) ?_
  rintro _ _ _ _ ⟨_,rfl,rfl,rfl,rfl⟩
  refine Zk 10 ?_
  obtain rfl:=Option.some.inj heq
  refine Dn ?_
  exact Gt 1 [0] (K2)
def S9 (F:List Ch) (H0:Hp) (r:ByteArray) (v:Value) (H:Hp) (cs:List Ch):Prop:=H0=H∧v=.string r∧F=cs
theorem strconv_Itoa_c [Wz w0] {a0:Int} {r:ByteArray} (heq:strconv_Itoa.f a0=some r):CallsH Tryd.prog 9 #[iv a0] H w0 F (S9 F H r):=by
 unfold strconv_Itoa.f at heq
 obtain ⟨hn,heq⟩:=guard?_some heq
 obtain rfl:=Option.some.inj heq
 simp only [Bool.and_eq_true,decide_eq_true_eq] at hn
 exact itoa_calls (P := Tryd.prog) (name := "internal/strconv.uint64pow10") (g := 1) Shelf.Tryd.strconv_Itoa hn.1 hn.2
noncomputable def C12:Ctx:={ P:=Tryd.prog,f:=12,N:=75,c:=bodyOf Tryd.f12 }
def S12 (F:List Ch) (H0:Hp) (r:ByteArray) (v:Value) (H:Hp) (cs:List Ch):Prop:=H0=H∧v=.string r∧F=cs
theorem strings_Join.e3_c [Wz w0] {r:ByteArray}:∀ (g1:Nat) (v_b8:ByteArray) (chv_b8 cuv_b8:Ch) ,BlOwn 38 5 H F g1 v_b8 chv_b8 cuv_b8→strings_Join.e3 v_b8=some r→RunH C12 (S12 F H r) H w0 [.c [1,1,1,1,1,1,1,1,1,0],.c [1,1,1,1,1,1,1,1,1,1]] [(8,pg g1 0)] H (chv_b8::cuv_b8::F):=by
 intro g1 v_b8 chv_b8 cuv_b8 hov_b8 heq
 unfold strings_Join.e3 at heq
 refine Sa 0 ?_
 refine RgH.does (DoesH.call (d:=74) (g:=14) (args:=#[.pointer (some ⟨g1,0,none⟩)]) (by kernel_rfl) (string_calls (xs:=[]) Shelf.Tryd.Builder_String_any_k (by kernel_rfl) hov_b8)) ?_
 rintro _ _ _ _ ⟨_,rfl,rfl,rfl,rfl⟩
 refine Zd 2 ?_
 obtain rfl:=Option.some.inj heq
 exact RunH.done (by kernel_rfl) Tryd.func12 (v:=.string v_b8) (by kernel_rfl) ⟨rfl,rfl,rfl⟩
theorem strings_Join.l4_c [Wz w0] {r:ByteArray} (e3:ByteArray→Option ByteArray)
  (he3:∀ (g1:Nat) (v_b8:ByteArray) (chv_b8 cuv_b8:Ch) ,BlOwn 38 5 H F g1 v_b8 chv_b8 cuv_b8→e3 v_b8=some r→RunH C12 (S12 F H r) H w0 [.c [1,1,1,1,1,1,1,1,1,0],.c [1,1,1,1,1,1,1,1,1,1]] [(8,pg g1 0)] H (chv_b8::cuv_b8::F)):∀ (k:Nat),∀ (a0:List ByteArray) (Aa0:Option Addr) (ca0:Nat) (a1:ByteArray) (g1:Nat) (v_b8:ByteArray) (chv_b8 cuv_b8:Ch) (v65:Int) ,a0.length - 1=(a0.drop 1).length→Rw Kd.string H F (shiftA ca0 1 1 Aa0) (a0.drop 1)→a0.length - 1≤ca0 - 1→BlOwn 38 5 H F g1 v_b8 chv_b8 cuv_b8→strings_Join.l4 e3 k a0 a1 v_b8 v65=some r→RunH C12 (S12 F H r) H w0 [.c [1,1,1,1,1,1,1,1,0,1,0,0],.l [1,1,1,1,1,1,1,1,0,1,0,0],.b 3,.c [1,1,1,1,1,1,1,1,1]] [(1,.string a1),(8,pg g1 0),(63,.slice (shiftA ca0 1 1 Aa0) (a0.length - 1) (ca0 - 1)),(64,iv ((a0.length - 1:Nat):Int)),(65,iv v65)] H (chv_b8::cuv_b8::F):=by
 intro k
 induction k with
 | zero=>intro a0 Aa0 ca0 a1 g1 v_b8 chv_b8 cuv_b8 v65 hn3 hr1 hc1 hov_b8 heq; exact nomatch (show (none:Option ByteArray)=some r from heq)
 | succ k ihk =>
  intro a0 Aa0 ca0 a1 g1 v_b8 chv_b8 cuv_b8 v65 hn3 hr1 hc1 hov_b8 heq
  rw [strings_Join.l4] at heq
  refine Sa 1<|Zd 1<|An 1 ?_
  refine Cb heq ?_ ?_
  ·intro hb4 heq
   refine Sa 4 ?_
   obtain ⟨x3,hx3,heq⟩:=bind_some heq
   obtain ⟨ha3,cs3,hK3,hcc3⟩:=hr1.get hx3
   obtain rfl:cs3=[.string x3]:=hK3
   refine Zw 3 [ny ha3 hx3 (show a0.length - 1=_ from hn3),er hcc3 2 0]<|Sa 1<|Zk 1 ?_
   obtain ⟨hn5,heq⟩:=guard?_some heq
   refine RgH.does (DoesH.call (d:=70) (g:=11) (args:=#[.pointer (some ⟨g1,0,none⟩),.string a1]) (by kernel_rfl) (write_calls (xs:=[]) Shelf.Tryd.Builder_WriteString_k (by kernel_rfl) hov_b8 (of_decide_eq_true hn5))) ?_
   rintro _ _ _ _ ⟨_,rfl,ch5,ch6,rfl,rfl,rfl,ho3⟩
   refine Dn<|Sa 0<|Zk 1 ?_
   obtain ⟨hn6,heq⟩:=guard?_some heq
   refine RgH.does (DoesH.call (d:=72) (g:=11) (args:=#[.pointer (some ⟨g1,0,none⟩),.string x3]) (by kernel_rfl) (write_calls (xs:=[]) Shelf.Tryd.Builder_WriteString_k (by kernel_rfl) ho3 (of_decide_eq_true hn6))) ?_
   rintro _ _ _ _ ⟨_,rfl,ch7,ch8,rfl,rfl,rfl,ho4⟩
   refine Dn<|Sa 1<|Zd 2<|An 1 ?_
   exact Gt 2 [0,1] (ihk a0 _ _ a1 _ ((v_b8++a1)++x3) _ _ (w64 (v65+1)) hn3 hr1 hc1 ho4 heq)
  ·intro hb4 heq
   refine An 2 ?_
   exact Gt 2 [0,1] (he3 _ v_b8 _ _ hov_b8 heq)
theorem strings_Join.e2_c [Wz w0] {r:ByteArray}:∀ (a0:List ByteArray) (Aa0:Option Addr) (ca0:Nat) (a1:ByteArray) (v_n5:Int) ,Rw Kd.string H F Aa0 a0→a0.length≤ca0→strings_Join.e2 a0 a1 v_n5=some r→RunH C12 (S12 F H r) H w0 [.c [1,1,1,1,1,0],.c [1,1,1,1,1,1]] [(0,.slice Aa0 a0.length ca0),(1,.string a1),(5,iv v_n5)] H (F):=by
 intro a0 Aa0 ca0 a1 v_n5 hra0 hca0 heq
 unfold strings_Join.e2 at heq
 refine Sa 0 ?_
 refine RgH.does (DoesH.newBl (d:=8) (v:=fun g=>.pointer (some ⟨g,0,none⟩)) (T:=38) (e:=5) (xs:=[]) (F0:=F) (fun g=>by kernel_rfl) rfl) ?_
 rintro _ _ _ _ ⟨g1,rfl,rfl,rfl,hb3,hb3t⟩
 refine Dn<|Sa 1<|Zk 1 ?_
 obtain ⟨hn1,heq⟩:=guard?_some heq
 refine RgH.does (DoesH.call (d:=57) (g:=26) (args:=#[.pointer (some ⟨g1,0,none⟩),iv v_n5]) (by kernel_rfl) (grow_callsI Shelf.Tryd.Builder_Grow_fresh hb3 hb3t (both_of hn1))) ?_
 rintro _ _ _ _ ⟨_,rfl,ch1,ch2,rfl,rfl,rfl,ho1⟩
 refine Dn<|Sa 1 ?_
 obtain ⟨x2,hx2,heq⟩:=bind_some heq
 obtain ⟨ha2,cs2,hK2,hcc2⟩:=hra0.get hx2
 obtain rfl:cs2=[.string x2]:=hK2
 refine Zv 3 [nx ha2 hx2,er hcc2 2 0] ?_
 obtain ⟨hn2,heq⟩:=guard?_some heq
 refine RgH.does (DoesH.call (d:=61) (g:=11) (args:=#[.pointer (some ⟨g1,0,none⟩),.string x2]) (by kernel_rfl) (write_calls (xs:=[]) Shelf.Tryd.Builder_WriteString_k (by kernel_rfl) ho1 (of_decide_eq_true hn2))) ?_
 rintro _ _ _ _ ⟨_,rfl,ch3,ch4,rfl,rfl,rfl,ho2⟩
 refine Dn<|Sa 2 ?_
 obtain ⟨hn4,heq⟩:=guard?_some heq
 have hn3:a0.length - 1=(a0.drop 1).length:=by have h1:=both_of hn4; have h3:=trivial; (try simp); (try omega)
 have hr1:=Rw.drop hra0 1 ca0 (by have h2:=hca0; have h3:=trivial; omega)
 have hc1:a0.length - 1≤ca0 - 1:=by have h2:=hca0; have h1:=both_of hn4; omega
 refine Zw 4 [⟨.need ((0:Int)≤1∧1≤((a0.length:Nat):Int)),fun w hh=>(both_of hn4)⟩]<|An 2 ?_
 exact Gt 2 [0,1] (((strings_Join.l4_c (e3:=strings_Join.e3) (strings_Join.e3_c)) big) a0 _ _ a1 _ ((⟨#[]⟩:ByteArray)++x2) _ _ 0 hn3 hr1 hc1 ho2 heq)
theorem strings_Join.j6_c [Wz w0] {r:ByteArray} (backl5:(List ByteArray)→ByteArray→Int→Int→Option ByteArray)
  (hbackl5:∀ (a0:List ByteArray) (Aa0:Option Addr) (ca0:Nat) (a1:ByteArray) (v_n5 v41:Int) ,Rw Kd.string H F Aa0 a0→a0.length≤ca0→backl5 a0 a1 v_n5 v41=some r→RunH C12 (S12 F H r) H w0 [.c [1,1,1,1,0,1,0,0],.l [1,1,1,1,0,1,0,0],.b 1,.c [1,1,1,1,1]] [(0,.slice Aa0 a0.length ca0),(1,.string a1),(5,iv v_n5),(39,.slice Aa0 a0.length ca0),(40,iv (a0.length:Int)),(41,iv v41)] H (F)):∀ (a0:List ByteArray) (Aa0:Option Addr) (ca0:Nat) (a1:ByteArray) (v_n5 v41:Int) (x4:ByteArray) ,Rw Kd.string H F Aa0 a0→a0.length≤ca0→strings_Join.j6 backl5 a0 a1 v_n5 v41 x4=some r→RunH C12 (S12 F H r) H w0 [.c [1,1,1,1,0,1,0,0,1,1,0,0,1,1],.b 2,.c [1,1,1,1,0,1,0,0,1,1,1],.l [1,1,1,1,0,1,0,0],.b 1,.c [1,1,1,1,1]] [(0,.slice Aa0 a0.length ca0),(1,.string a1),(5,iv v_n5),(7,.string x4),(39,.slice Aa0 a0.length ca0),(40,iv (a0.length:Int)),(41,iv v41)] H (F):=by
 intro a0 Aa0 ca0 a1 v_n5 v41 x4 hra0 hca0 heq
 unfold strings_Join.j6 at heq
 refine Sa 0<|Zd 5<|Sa 1<|Zd 2<|An 1 ?_
 exact Gt 0 [] (hbackl5 a0 _ _ a1 (w64 (v_n5+(x4.size:Int))) (w64 (v41+1)) hra0 hca0 heq)
theorem strings_Join.l5_c [Wz w0] {r:ByteArray} (e2:(List ByteArray)→ByteArray→Int→Option ByteArray)
  (he2:∀ (a0:List ByteArray) (Aa0:Option Addr) (ca0:Nat) (a1:ByteArray) (v_n5:Int) ,Rw Kd.string H F Aa0 a0→a0.length≤ca0→e2 a0 a1 v_n5=some r→RunH C12 (S12 F H r) H w0 [.c [1,1,1,1,1,0],.c [1,1,1,1,1,1]] [(0,.slice Aa0 a0.length ca0),(1,.string a1),(5,iv v_n5)] H (F)):∀ (k:Nat),∀ (a0:List ByteArray) (Aa0:Option Addr) (ca0:Nat) (a1:ByteArray) (v_n5 v41:Int) ,Rw Kd.string H F Aa0 a0→a0.length≤ca0→strings_Join.l5 e2 k a0 a1 v_n5 v41=some r→RunH C12 (S12 F H r) H w0 [.c [1,1,1,1,0,1,0,0],.l [1,1,1,1,0,1,0,0],.b 1,.c [1,1,1,1,1]] [(0,.slice Aa0 a0.length ca0),(1,.string a1),(5,iv v_n5),(39,.slice Aa0 a0.length ca0),(40,iv (a0.length:Int)),(41,iv v41)] H (F):=by
 intro k
 induction k with
 | zero=>intro a0 Aa0 ca0 a1 v_n5 v41 hra0 hca0 heq; exact nomatch (show (none:Option ByteArray)=some r from heq)
 | succ k ihk =>
  intro a0 Aa0 ca0 a1 v_n5 v41 hra0 hca0 heq
  rw [strings_Join.l5] at heq
  refine Sa 1<|Zd 1<|An 1 ?_
  refine Cb heq ?_ ?_
  ·intro hb5 heq
   refine Sa 4 ?_
   obtain ⟨x4,hx4,heq⟩:=bind_some heq
   obtain ⟨ha4,cs4,hK4,hcc4⟩:=hra0.get hx4
   obtain rfl:cs4=[.string x4]:=hK4
   refine Zw 3 [nx ha4 hx4,er hcc4 0 0]<|Sa 2<|Zd 5 ?_
   refine Cb heq ?_ ?_
   ·intro hb6 heq
    cases heq
   ·intro hb6 heq
    refine An 1 ?_
    exact Gt 0 [] ((strings_Join.j6_c (backl5:=(strings_Join.l5 e2 k)) ihk) a0 _ _ a1 v_n5 v41 x4 hra0 hca0 heq)
  ·intro hb5 heq
   refine An 2 ?_
   exact Gt 0 [] (he2 a0 _ _ a1 v_n5 hra0 hca0 heq)
theorem strings_Join.j1_c [Wz w0] {r:ByteArray}:∀ (a0:List ByteArray) (Aa0:Option Addr) (ca0:Nat) (a1:ByteArray) (v_n5:Int) ,Rw Kd.string H F Aa0 a0→a0.length≤ca0→strings_Join.j1 a0 a1 v_n5=some r→RunH C12 (S12 F H r) H w0 [.c [1,1,1,1,0,0],.c [1,1,1,1,0,1],.c [1,1,1,1,1]] [(0,.slice Aa0 a0.length ca0),(1,.string a1),(5,iv v_n5)] H (F):=by
 intro a0 Aa0 ca0 a1 v_n5 hra0 hca0 heq
 unfold strings_Join.j1 at heq
 refine Sa 0<|Zd 3<|An 2 ?_
 exact Gt 0 [] (((strings_Join.l5_c (e2:=strings_Join.e2) (strings_Join.e2_c)) big) a0 _ _ a1 v_n5 0 hra0 hca0 heq)
theorem strings_Join.j7_c [Wz w0] {r:ByteArray} (j1:(List ByteArray)→ByteArray→Int→Option ByteArray)
  (hj1:∀ (a0:List ByteArray) (Aa0:Option Addr) (ca0:Nat) (a1:ByteArray) (v_n5:Int) ,Rw Kd.string H F Aa0 a0→a0.length≤ca0→j1 a0 a1 v_n5=some r→RunH C12 (S12 F H r) H w0 [.c [1,1,1,1,0,0],.c [1,1,1,1,0,1],.c [1,1,1,1,1]] [(0,.slice Aa0 a0.length ca0),(1,.string a1),(5,iv v_n5)] H (F)):∀ (a0:List ByteArray) (Aa0:Option Addr) (ca0:Nat) (a1:ByteArray) ,Rw Kd.string H F Aa0 a0→a0.length≤ca0→strings_Join.j7 j1 a0 a1=some r→RunH C12 (S12 F H r) H w0 [.c [1,1,1,0,1,0,1],.c [1,1,1,1]] [(0,.slice Aa0 a0.length ca0),(1,.string a1),(5,iv 0)] H (F):=by
 intro a0 Aa0 ca0 a1 hra0 hca0 heq
 unfold strings_Join.j7 at heq
 refine Sa 0<|Zd 9<|An 2 ?_
 exact Gt 0 [] (hj1 a0 _ _ a1 (w64 (0+(w64 ((a1.size:Int)*(w64 ((a0.length:Int) - 1)))))) hra0 hca0 heq)
theorem strings_Join_c [Wz w0] {a0:List ByteArray} {Aa0:Option Addr} {na0 ca0:Nat} {a1:ByteArray} {r:ByteArray} (heq:strings_Join.f a0 a1=some r) (hra0:Rw Kd.string H F Aa0 a0) (hca0:na0≤ca0) (hna0:na0=a0.length):CallsH Tryd.prog 12 #[.slice Aa0 na0 ca0,.string a1] H w0 (F) (S12 F H r):=by
 refine Co C12 Tryd.func12 Tryd.ntmps12 ?_
 subst hna0
 unfold strings_Join.f at heq
 refine Sa 1<|Zd 1<|Sa 2<|Zd 2<|Sa 2<|Zd 2 ?_
 refine Cb heq ?_ ?_
 ·intro hb1 heq
  refine Sa 1<|Zd 1 ?_
  obtain rfl:=Option.some.inj heq
  exact RunH.done (by kernel_rfl) Tryd.func12 (v:=.string ({ data:=#[] }:ByteArray)) (by kernel_rfl) ⟨rfl,rfl,rfl⟩
 ·intro hb1 heq
  refine Sa 1<|Zd 2 ?_
  refine Cb heq ?_ ?_
  ·intro hb2 heq
   refine Sa 1 ?_
   obtain ⟨x1,hx1,heq⟩:=bind_some heq
   obtain ⟨ha1,cs1,hK1,hcc1⟩:=hra0.get hx1
   obtain rfl:cs1=[.string x1]:=hK1
   refine Zw 4 [nx ha1 hx1,er hcc1 0 0] ?_
   obtain rfl:=Option.some.inj heq
   exact RunH.done (by kernel_rfl) Tryd.func12 (v:=.string x1) (by kernel_rfl) ⟨rfl,rfl,rfl⟩
  ·intro hb2 heq
   refine Sa 3<|Zd 1<|Sa 2<|Zd 3 ?_
   refine Cb heq ?_ ?_
   ·intro hb7 heq
    refine Sa 2 ?_
    obtain ⟨hn7,heq⟩:=guard?_some heq
    refine Zw 7 [nz hn7] ?_
    refine Cb heq ?_ ?_
    ·intro hb8 heq
     cases heq
    ·intro hb8 heq
     refine An 1 ?_
     exact Gt 0 [] ((strings_Join.j7_c (j1:=strings_Join.j1) (strings_Join.j1_c)) a0 _ _ a1 hra0 hca0 heq)
   ·intro hb7 heq
    refine An 3 ?_
    exact Gt 0 [] ((strings_Join.j1_c) a0 _ _ a1 0 hra0 hca0 heq)
noncomputable def C10:Ctx:={ P:=Tryd.prog,f:=10,N:=7,c:=bodyOf Tryd.f10 }
def S10 (F:List Ch) (H0:Hp) (ga1:Nat) (r:ByteArray) (v:Value) (H:Hp) (cs:List Ch):Prop:=∃ (ch0:Ch) (cu0:Ch),H0=H∧v=.tuple #[]∧ch0::cu0::F=cs∧BlOwn 38 5 H F ga1 r ch0 cu0
theorem cache_Text_1_c [Wz w0] {a0:List ByteArray} {Aa0:Option Addr} {na0 ca0 ga1:Nat} {a1:ByteArray} {cha1 cua1:Ch} {r:ByteArray} (heq:cache_Text_1.f a0 a1=some r) (hra0:Rw Kd.string H F Aa0 a0) (hca0:na0≤ca0) (hna0:na0=a0.length) (hoa1:BlOwn 38 5 H F ga1 a1 cha1 cua1):CallsH Tryd.prog 10 #[.slice Aa0 na0 ca0,.pointer (some ⟨ga1,0,none⟩)] H w0 (cha1::cua1::F) (S10 F H ga1 r):=by
 refine Co C10 Tryd.func10 Tryd.ntmps10 ?_
 subst hna0
 unfold cache_Text_1.f at heq
 refine Sa 0<|Zk 1 ?_
 obtain ⟨y1,hy1,heq⟩:=bind_some heq
 refine RgH.does (cal 4 (strings_Join_c hy1 (hra0.wk (fun _ h=>(.tail _ (.tail _ h)))) hca0 rfl)) ?_
 rintro _ _ _ _ ⟨_,rfl,rfl,rfl,rfl⟩
 obtain ⟨hn1,heq⟩:=guard?_some heq
 refine Zv 3 [n1 hn1] ?_
 obtain ⟨hn2,heq⟩:=guard?_some heq
 refine RgH.does (DoesH.call (d:=6) (g:=11) (args:=#[.pointer (some ⟨ga1,0,none⟩),.string (y1++({ data:=#[10] }:ByteArray))]) (by kernel_rfl) (write_calls (xs:=[]) Shelf.Tryd.Builder_WriteString_k (by kernel_rfl) hoa1 (of_decide_eq_true hn2))) ?_
 rintro _ _ _ _ ⟨_,rfl,ch1,ch2,rfl,rfl,rfl,ho1⟩
 refine Dn ?_
 obtain rfl:=Option.some.inj heq
 exact RunH.done (by kernel_rfl) Tryd.func10 (v:=.tuple #[]) (by kernel_rfl) ⟨ch1,ch2,rfl,rfl,rfl,ho1⟩
noncomputable def C4:Ctx:={ P:=Tryd.prog,f:=4,N:=81,c:=bodyOf Tryd.f4 }
def S4 (F:List Ch) (H0:Hp) (r:ByteArray × Int) (v:Value) (H:Hp) (cs:List Ch):Prop:=H0=H∧v=.tuple #[.string r.1,iv r.2]∧F=cs
theorem cache_Text.e2_c [Wz w0] {r:ByteArray × Int}:∀ (g2:Nat) (v_b5:ByteArray) (chv_b5 cuv_b5:Ch) ,BlOwn 38 5 H F g2 v_b5 chv_b5 cuv_b5→cache_Text.e2 v_b5=some r→RunH C4 (S4 F H r) H w0 [.c [1,1,1,1,1,1,1,1,0,0],.c [1,1,1,1,1,1,1,1,0,1],.c [1,1,1,1,1,1,1,1,1]] [(5,pg g2 0)] H (chv_b5::cuv_b5::F):=by
 intro g2 v_b5 chv_b5 cuv_b5 hov_b5 heq
 unfold cache_Text.e2 at heq
 refine Sa 0 ?_
 refine RgH.does (DoesH.call (d:=78) (g:=13) (args:=#[.pointer (some ⟨g2,0,none⟩)]) (by kernel_rfl) (len_calls Shelf.Tryd.Builder_Len_f hov_b5)) ?_
 rintro _ _ _ _ ⟨_,rfl,rfl,rfl,rfl⟩
 refine Zd 2 ?_
 refine Cb heq ?_ ?_
 ·intro hb3 heq
  refine Sa 1<|Zd 2 ?_
  obtain rfl:=Option.some.inj heq
  refine Up 2 [] ?_
  exact RunH.done (by kernel_rfl) Tryd.func4 (v:=.tuple #[.string ({ data:=#[] }:ByteArray),iv 2]) (by kernel_rfl) ⟨rfl,rfl,rfl⟩
 ·intro hb3 heq
  refine Sa 2 ?_
  refine RgH.does (DoesH.call (d:=80) (g:=14) (args:=#[.pointer (some ⟨g2,0,none⟩)]) (by kernel_rfl) (string_calls (xs:=[]) Shelf.Tryd.Builder_String_any_k (by kernel_rfl) hov_b5)) ?_
  rintro _ _ _ _ ⟨_,rfl,rfl,rfl,rfl⟩
  refine Zd 3 ?_
  obtain rfl:=Option.some.inj heq
  exact RunH.done (by kernel_rfl) Tryd.func4 (v:=.tuple #[.string v_b5,iv 0]) (by kernel_rfl) ⟨rfl,rfl,rfl⟩
theorem cache_Text.l3_c [Wz w0] {r:ByteArray × Int} (e2:ByteArray→Option (ByteArray × Int))
  (he2:∀ (g2:Nat) (v_b5:ByteArray) (chv_b5 cuv_b5:Ch) ,BlOwn 38 5 H F g2 v_b5 chv_b5 cuv_b5→e2 v_b5=some r→RunH C4 (S4 F H r) H w0 [.c [1,1,1,1,1,1,1,1,0,0],.c [1,1,1,1,1,1,1,1,0,1],.c [1,1,1,1,1,1,1,1,1]] [(5,pg g2 0)] H (chv_b5::cuv_b5::F)):∀ (k:Nat),∀ (a0:Cache) (Aa0_3:Option Addr) (ca0_3 g2:Nat) (v_b5:ByteArray) (chv_b5 cuv_b5:Ch) (v61:Int) ,Rw kEntry H F Aa0_3 a0.Entries→a0.Entries.length≤ca0_3→BlOwn 38 5 H F g2 v_b5 chv_b5 cuv_b5→cache_Text.l3 e2 k a0 v_b5 v61=some r→RunH C4 (S4 F H r) H w0 [.c [1,1,1,1,1,1,1,0,1,0,0],.l [1,1,1,1,1,1,1,0,1,0,0],.b 2,.c [1,1,1,1,1,1,1,1]] [(5,pg g2 0),(6,.func (.func 9) #[] #[]),(7,.func (.func 10) #[] #[.pointer (some ⟨g2,0,none⟩)]),(59,.slice Aa0_3 a0.Entries.length ca0_3),(60,iv (a0.Entries.length:Int)),(61,iv v61)] H (chv_b5::cuv_b5::F):=by
 intro k
 induction k with
 | zero=>intro a0 Aa0_3 ca0_3 g2 v_b5 chv_b5 cuv_b5 v61 hra0_3 hca0_3 hov_b5 heq; exact nomatch (show (none:Option (ByteArray × Int))=some r from heq)
 | succ k ihk =>
  intro a0 Aa0_3 ca0_3 g2 v_b5 chv_b5 cuv_b5 v61 hra0_3 hca0_3 hov_b5 heq
  rw [cache_Text.l3] at heq
  refine Sa 1<|Zd 1<|An 1 ?_
  refine Cb heq ?_ ?_
  ·intro hb4 heq
   refine Sa 4 ?_
   obtain ⟨x1,hx1,heq⟩:=bind_some heq
   obtain ⟨ha1,cs1,hK1,hcc1⟩:=hra0_3.get hx1
   obtain ⟨A1,c1,rfl,hc1,hr1⟩:=kEntry_open hK1
   refine Zv 2 ([nx ha1 hx1]++ers hcc1 2) ?_
   refine RgH.does (DoesH.new (d:=11) (v:=fun g=>.pointer (some ⟨g,0,none⟩)) (o:=fun g=>.cells #[.string ByteArray.empty,.slice none 0 0,iv 0] 50 (0,0)) (fun g=>by kernel_rfl)) ?_
   rintro _ _ _ _ ⟨g4,rfl,rfl,rfl⟩
   refine RgH.does (DoesH.store (k:=0) (g:=g4) (off:=0) (v:=.agg #[.string x1.Key,.slice A1 x1.Refs.length c1,iv x1.Used]) (cells':=#[.string x1.Key,.slice A1 x1.Refs.length c1,iv x1.Used]) (by kernel_rfl) rfl (by kernel_rfl) (by kernel_rfl)) ?_
   rintro _ _ _ _ ⟨rfl,rfl,rfl⟩
   refine Dn<|Sd 3 12 [0] [3,3,3,3,3,3,0,0,3,3,0,1]<|Zr [0] 11 [] (Pk 3 [0,1,2]) (Pk 3 [0])<|Zt [1,2,3,4,5,8,9] 4 [bx 0 0,bx 0 2,bx 0 1] (Pk 3 [0]) ?_
   obtain ⟨y5,hy5,heq⟩:=bind_some heq
   refine Dz 6 (cal 71 (strconv_Itoa_c (a0:=x1.Used)  hy5)) ?_
   rintro _ _ _ _ ⟨_,rfl,rfl,rfl,rfl⟩
   refine ⟨fun _ w hh=>⟨fun _=>(Pk 3 [0,1,2]) w hh,fun _=>(Pk 3 [0]) w hh,(fun h=>by cases h)⟩,?_⟩
   refine Dz 7 (DoesH.new (d:=72) (v:=fun g=>.slice (some ⟨g,0,none⟩) 3 3) (o:=fun g=>.cells #[.string ({ data:=#[101,110,116,114,121] }:ByteArray),.string x1.Key,.string y5] 9 (0,0)) (fun g=>by kernel_rfl)) ?_
   rintro _ _ _ _ ⟨g5,rfl,rfl,rfl⟩
   have ho4:SlOwn Kd.string 9 H (some ⟨g5,0,none⟩) 3 ([({ data:=#[101,110,116,114,121] }:ByteArray),x1.Key,y5]:List ByteArray) (some (g5,.cells #[.string ({ data:=#[101,110,116,114,121] }:ByteArray),.string x1.Key,.string y5] 9 (0,0))):=SlOwn.lit (xs:=([({ data:=#[101,110,116,114,121] }:ByteArray),x1.Key,y5]:List ByteArray)) (by kernel_rfl) (Nat.le_of_ble_eq_true (by kernel_rfl)) (Kd.Rep.scalars rfl)
   refine ⟨fun _ w hh=>⟨fun _=>(Pk 4 [1,2,3]) w hh,fun _=>(Pk 4 [1]) w hh,(fun h=>by cases h)⟩,?_⟩
   obtain ⟨hn1,heq⟩:=guard?_some heq
   refine Dz 10 (DoesH.append (d:=75) (k:=0) (t:=40) (e:=9) (bytes:=16) (kd:=Kd.string) (n:=3) (m:=x1.Refs.length) (xs:=([({ data:=#[101,110,116,114,121] }:ByteArray),x1.Key,y5]:List ByteArray)) (ys:=x1.Refs) (A:=(some ⟨g5,0,none⟩)) (B:=A1) (c:=3) (cB:=c1) (by kernel_rfl) rfl rfl (by kernel_rfl) rfl ho4 (fun w hh=>(Rw.of (F:=F) hr1).rdb (hh.drop 4)) (room_le hn1) (by have:=room_le hn1; omega)) ?_
   rintro _ _ _ _ ⟨A2,c2,ch2,rfl,rfl,rfl,ho5⟩
   refine ⟨fun _ w hh=>⟨fun _=>(Pk 4 [1,2,3]) w hh,fun _=>(Pk 4 [1]) w hh,(fun h=>by cases h)⟩,?_⟩
   refine Ur 4 [2,3,0,1] ?_
   obtain ⟨y6,hy6,heq⟩:=bind_some heq
   refine Dz 11 (cal 76 (cache_Text_1_c hy6 (ho5.rw (.head _)) ho5.cap rfl (hov_b5.wide (xs:=[ch2,(some (g4,.cells #[.string x1.Key,.slice A1 x1.Refs.length c1,iv x1.Used] 50 (0,0)))]) (noby_cons ho5.noby (noby_cons (by kernel_rfl) noby_nil))))) ?_
   rintro _ _ _ _ ⟨_,rfl,ch3,cu2,rfl,rfl,rfl,ho6⟩
   have ho7:BlOwn 38 5 H F g2 y6 ch3 cu2:=ho6.thin 2
   refine ⟨fun _ w hh=>⟨(fun h=>by cases h),fun _=>(Pk 4 [3]) w hh,(fun h=>by cases h)⟩,?_⟩
   refine DrH.done (by kernel_rfl) ?_
   refine Sa 1<|Zd 2<|An 1 ?_
   exact Gt 4 [0,1] (ihk a0 _ _ _ y6 _ _ (w64 (v61+1)) hra0_3 hca0_3 ho7 heq)
  ·intro hb4 heq
   refine An 3 ?_
   exact Gt 2 [0,1] (he2 _ v_b5 _ _ hov_b5 heq)
theorem cache_Text.e1_c [Wz w0] {r:ByteArray × Int}:∀ (a0:Cache) (Aa0_2:Option Addr) (ca0_2:Nat) (Aa0_3:Option Addr) (ca0_3 g1 g2:Nat) (v_b5:ByteArray) (chv_b5 cuv_b5:Ch) ,Rw kBlob H F Aa0_2 a0.Blobs→a0.Blobs.length≤ca0_2→Rw kEntry H F Aa0_3 a0.Entries→a0.Entries.length≤ca0_3→BlOwn 38 5 H F g2 v_b5 chv_b5 cuv_b5→cache_Text.e1 a0 v_b5=some r→RunH C4 (S4 F H r) H w0 [.c [1,1,1,1,1,1,1,0,0],.c [1,1,1,1,1,1,1,0,1],.c [1,1,1,1,1,1,1,1]] [(1,pg g1 0),(5,pg g2 0),(6,.func (.func 9) #[] #[]),(7,.func (.func 10) #[] #[.pointer (some ⟨g2,0,none⟩)])] H (chv_b5::cuv_b5::(some (g1,.cells #[iv a0.Room,iv a0.Lease,.slice Aa0_2 a0.Blobs.length ca0_2,.slice Aa0_3 a0.Entries.length ca0_3] 25 (0,0)))::F):=by
 intro a0 Aa0_2 ca0_2 Aa0_3 ca0_3 g1 g2 v_b5 chv_b5 cuv_b5 hra0_2 hca0_2 hra0_3 hca0_3 hov_b5 heq
 unfold cache_Text.e1 at heq
 refine Sa 0<|Zw 4 [bx 2 3]<|An 2 ?_
 exact Gt 3 [0,1] (((cache_Text.l3_c (e2:=cache_Text.e2) (cache_Text.e2_c)) big) a0 _ _ _ v_b5 _ _ 0 hra0_3 hca0_3 hov_b5 heq)
theorem cache_Text.l4_c [Wz w0] {r:ByteArray × Int} (e1:Cache→ByteArray→Option (ByteArray × Int))
  (he1:∀ (a0:Cache) (Aa0_2:Option Addr) (ca0_2:Nat) (Aa0_3:Option Addr) (ca0_3 g1 g2:Nat) (v_b5:ByteArray) (chv_b5 cuv_b5:Ch) ,Rw kBlob H F Aa0_2 a0.Blobs→a0.Blobs.length≤ca0_2→Rw kEntry H F Aa0_3 a0.Entries→a0.Entries.length≤ca0_3→BlOwn 38 5 H F g2 v_b5 chv_b5 cuv_b5→e1 a0 v_b5=some r→RunH C4 (S4 F H r) H w0 [.c [1,1,1,1,1,1,1,0,0],.c [1,1,1,1,1,1,1,0,1],.c [1,1,1,1,1,1,1,1]] [(1,pg g1 0),(5,pg g2 0),(6,.func (.func 9) #[] #[]),(7,.func (.func 10) #[] #[.pointer (some ⟨g2,0,none⟩)])] H (chv_b5::cuv_b5::(some (g1,.cells #[iv a0.Room,iv a0.Lease,.slice Aa0_2 a0.Blobs.length ca0_2,.slice Aa0_3 a0.Entries.length ca0_3] 25 (0,0)))::F)):∀ (k:Nat),∀ (a0:Cache) (Aa0_2:Option Addr) (ca0_2:Nat) (Aa0_3:Option Addr) (ca0_3 g1 g2:Nat) (v_b5:ByteArray) (chv_b5 cuv_b5:Ch) (v32:Int) ,Rw kBlob H F Aa0_2 a0.Blobs→a0.Blobs.length≤ca0_2→Rw kEntry H F Aa0_3 a0.Entries→a0.Entries.length≤ca0_3→BlOwn 38 5 H F g2 v_b5 chv_b5 cuv_b5→cache_Text.l4 e1 k a0 v_b5 v32=some r→RunH C4 (S4 F H r) H w0 [.c [1,1,1,1,1,1,0,1,0,0],.l [1,1,1,1,1,1,0,1,0,0],.b 0,.c [1,1,1,1,1,1,1]] [(1,pg g1 0),(5,pg g2 0),(6,.func (.func 9) #[] #[]),(7,.func (.func 10) #[] #[.pointer (some ⟨g2,0,none⟩)]),(30,.slice Aa0_2 a0.Blobs.length ca0_2),(31,iv (a0.Blobs.length:Int)),(32,iv v32)] H (chv_b5::cuv_b5::(some (g1,.cells #[iv a0.Room,iv a0.Lease,.slice Aa0_2 a0.Blobs.length ca0_2,.slice Aa0_3 a0.Entries.length ca0_3] 25 (0,0)))::F):=by
 intro k
 induction k with
 | zero=>intro a0 Aa0_2 ca0_2 Aa0_3 ca0_3 g1 g2 v_b5 chv_b5 cuv_b5 v32 hra0_2 hca0_2 hra0_3 hca0_3 hov_b5 heq; exact nomatch (show (none:Option (ByteArray × Int))=some r from heq)
 | succ k ihk =>
  intro a0 Aa0_2 ca0_2 Aa0_3 ca0_3 g1 g2 v_b5 chv_b5 cuv_b5 v32 hra0_2 hca0_2 hra0_3 hca0_3 hov_b5 heq
  rw [cache_Text.l4] at heq
  refine Sa 1<|Zd 1<|An 1 ?_
  refine Cb heq ?_ ?_
  ·intro hb5 heq
   refine Sa 4 ?_
   obtain ⟨x2,hx2,heq⟩:=bind_some heq
   obtain ⟨ha2,cs2,hK2,hcc2⟩:=hra0_2.get hx2
   obtain ⟨rfl⟩:=kBlob_open hK2
   refine Zv 2 ([nx ha2 hx2]++ers hcc2 3) ?_
   refine RgH.does (DoesH.new (d:=9) (v:=fun g=>.pointer (some ⟨g,0,none⟩)) (o:=fun g=>.cells #[.string ByteArray.empty,iv 0,iv 0,iv 0,iv 0] 48 (0,0)) (fun g=>by kernel_rfl)) ?_
   rintro _ _ _ _ ⟨g6,rfl,rfl,rfl⟩
   refine RgH.does (DoesH.store (k:=0) (g:=g6) (off:=0) (v:=.agg #[.string x2.Digest,iv x2.Size,iv x2.Used,iv x2.Until,iv x2.Pins]) (cells':=#[.string x2.Digest,iv x2.Size,iv x2.Used,iv x2.Until,iv x2.Pins]) (by kernel_rfl) rfl (by kernel_rfl) (by kernel_rfl)) ?_
   rintro _ _ _ _ ⟨rfl,rfl,rfl⟩
   refine Dn<|Sd 4 21 [0,3] [3,3,3,3,3,3,0,3,3,3,0,3,3,3,0,3,3,3,0,0,1]<|Zr [0] 20 [] (Pk 4 [0,1,2,3]) (Pk 4 [0,3])<|Zt [1,2,3,4,5,7,8,9,11,12,13,15,16,17] 6 [bx 0 0,bx 0 1,bx 0 2,bx 0 3,bx 0 4] (Pk 4 [0,3]) ?_
   obtain ⟨y7,hy7,heq⟩:=bind_some heq
   refine Dz 6 (cal 42 (strconv_Itoa_c (a0:=x2.Size)  hy7)) ?_
   rintro _ _ _ _ ⟨_,rfl,rfl,rfl,rfl⟩
   refine ⟨fun _ w hh=>⟨fun _=>(Pk 4 [0,1,2,3]) w hh,fun _=>(Pk 4 [0,3]) w hh,(fun h=>by cases h)⟩,?_⟩
   obtain ⟨y8,hy8,heq⟩:=bind_some heq
   refine Dz 10 (cal 46 (strconv_Itoa_c (a0:=x2.Used)  hy8)) ?_
   rintro _ _ _ _ ⟨_,rfl,rfl,rfl,rfl⟩
   refine ⟨fun _ w hh=>⟨fun _=>(Pk 4 [0,1,2,3]) w hh,fun _=>(Pk 4 [0,3]) w hh,(fun h=>by cases h)⟩,?_⟩
   obtain ⟨y9,hy9,heq⟩:=bind_some heq
   refine Dz 14 (cal 50 (strconv_Itoa_c (a0:=x2.Until)  hy9)) ?_
   rintro _ _ _ _ ⟨_,rfl,rfl,rfl,rfl⟩
   refine ⟨fun _ w hh=>⟨fun _=>(Pk 4 [0,1,2,3]) w hh,fun _=>(Pk 4 [0,3]) w hh,(fun h=>by cases h)⟩,?_⟩
   obtain ⟨y10,hy10,heq⟩:=bind_some heq
   refine Dz 18 (cal 54 (strconv_Itoa_c (a0:=x2.Pins)  hy10)) ?_
   rintro _ _ _ _ ⟨_,rfl,rfl,rfl,rfl⟩
   refine ⟨fun _ w hh=>⟨fun _=>(Pk 4 [0,1,2,3]) w hh,fun _=>(Pk 4 [0,3]) w hh,(fun h=>by cases h)⟩,?_⟩
   refine Dz 19 (DoesH.new (d:=55) (v:=fun g=>.slice (some ⟨g,0,none⟩) 6 6) (o:=fun g=>.cells #[.string ({ data:=#[98,108,111,98] }:ByteArray),.string x2.Digest,.string y7,.string y8,.string y9,.string y10] 9 (0,0)) (fun g=>by kernel_rfl)) ?_
   rintro _ _ _ _ ⟨g7,rfl,rfl,rfl⟩
   have ho8:SlOwn Kd.string 9 H (some ⟨g7,0,none⟩) 6 ([({ data:=#[98,108,111,98] }:ByteArray),x2.Digest,y7,y8,y9,y10]:List ByteArray) (some (g7,.cells #[.string ({ data:=#[98,108,111,98] }:ByteArray),.string x2.Digest,.string y7,.string y8,.string y9,.string y10] 9 (0,0))):=SlOwn.lit (xs:=([({ data:=#[98,108,111,98] }:ByteArray),x2.Digest,y7,y8,y9,y10]:List ByteArray)) (by kernel_rfl) (Nat.le_of_ble_eq_true (by kernel_rfl)) (Kd.Rep.scalars rfl)
   refine ⟨fun _ w hh=>⟨fun _=>(Pk 5 [1,2,3,4]) w hh,fun _=>(Pk 5 [1,4]) w hh,(fun h=>by cases h)⟩,?_⟩
   refine Ur 5 [2,3,0,1,4] ?_
   obtain ⟨y11,hy11,heq⟩:=bind_some heq
   refine Dz 20 (cal 56 (cache_Text_1_c hy11 (ho8.rw (.head _)) ho8.cap rfl (hov_b5.wide (xs:=[(some (g7,.cells #[.string ({ data:=#[98,108,111,98] }:ByteArray),.string x2.Digest,.string y7,.string y8,.string y9,.string y10] 9 (0,0))),(some (g6,.cells #[.string x2.Digest,iv x2.Size,iv x2.Used,iv x2.Until,iv x2.Pins] 48 (0,0))),(some (g1,.cells #[iv a0.Room,iv a0.Lease,.slice Aa0_2 a0.Blobs.length ca0_2,.slice Aa0_3 a0.Entries.length ca0_3] 25 (0,0)))]) (by kernel_rfl)))) ?_
   rintro _ _ _ _ ⟨_,rfl,ch4,cu3,rfl,rfl,rfl,ho9⟩
   have ho10:BlOwn 38 5 H F g2 y11 ch4 cu3:=ho9.thin 3
   refine ⟨fun _ w hh=>⟨(fun h=>by cases h),fun _=>(Pk 5 [3,4]) w hh,(fun h=>by cases h)⟩,?_⟩
   refine DrH.done (by kernel_rfl) ?_
   refine Sa 1<|Zd 2<|An 1 ?_
   exact Gt 5 [0,1,4] (ihk a0 _ _ _ _ _ _ y11 _ _ (w64 (v32+1)) hra0_2 hca0_2 hra0_3 hca0_3 ho10 heq)
  ·intro hb5 heq
   refine An 3 ?_
   exact Gt 3 [0,1,2] (he1 a0 _ _ _ _ _ _ v_b5 _ _ hra0_2 hca0_2 hra0_3 hca0_3 hov_b5 heq)
theorem cache_Text_c [Wz w0] {a0:Cache} {Aa0_2:Option Addr} {na0_2 ca0_2:Nat} {Aa0_3:Option Addr} {na0_3 ca0_3:Nat} {r:ByteArray × Int} (heq:cache_Text.f a0=some r) (hra0_2:Rw kBlob H F Aa0_2 a0.Blobs) (hca0_2:na0_2≤ca0_2) (hna0_2:na0_2=a0.Blobs.length) (hra0_3:Rw kEntry H F Aa0_3 a0.Entries) (hca0_3:na0_3≤ca0_3) (hna0_3:na0_3=a0.Entries.length):CallsH Tryd.prog 4 #[.agg #[iv a0.Room,iv a0.Lease,.slice Aa0_2 na0_2 ca0_2,.slice Aa0_3 na0_3 ca0_3]] H w0 (F) (S4 F H r):=by
 refine Co C4 Tryd.func4 Tryd.ntmps4 ?_
 subst hna0_2
 subst hna0_3
 unfold cache_Text.f at heq
 refine Sa 1 ?_
 refine RgH.does (DoesH.new (d:=1) (v:=fun g=>.pointer (some ⟨g,0,none⟩)) (o:=fun g=>.cells #[iv a0.Room,iv a0.Lease,.slice Aa0_2 a0.Blobs.length ca0_2,.slice Aa0_3 a0.Entries.length ca0_3] 25 (0,0)) (fun g=>by kernel_rfl)) ?_
 rintro _ _ _ _ ⟨g1,rfl,rfl,rfl⟩
 refine Zd 3<|Sa 2<|Zv 1 (bxs 0) ?_
 obtain ⟨y1,hy1,heq⟩:=bind_some heq
 refine RgH.does (cal 13 (cache_CheckCache_c hy1 (hra0_2.wk (fun _ h=>(.tail _ h))) hca0_2 rfl (hra0_3.wk (fun _ h=>(.tail _ h))) hca0_3 rfl)) ?_
 rintro _ _ _ _ ⟨_,rfl,rfl,rfl,rfl⟩
 refine Zd 3<|Sa 1<|Zd 2 ?_
 refine Cb heq ?_ ?_
 ·intro hb1 heq
  refine Sa 1<|Zd 3 ?_
  obtain rfl:=Option.some.inj heq
  refine Up 1 [] ?_
  exact RunH.done (by kernel_rfl) Tryd.func4 (v:=.tuple #[.string ({ data:=#[] }:ByteArray),iv y1]) (by kernel_rfl) ⟨rfl,rfl,rfl⟩
 ·intro hb1 heq
  refine Sa 2 ?_
  refine RgH.does (DoesH.newBl (d:=5) (v:=fun g=>.pointer (some ⟨g,0,none⟩)) (T:=38) (e:=5) (xs:=[(some (g1,.cells #[iv a0.Room,iv a0.Lease,.slice Aa0_2 a0.Blobs.length ca0_2,.slice Aa0_3 a0.Entries.length ca0_3] 25 (0,0)))]) (F0:=F) (fun g=>by kernel_rfl) rfl) ?_
  rintro _ _ _ _ ⟨g2,rfl,rfl,rfl,hb2,hb2t⟩
  refine Dn<|Sa 1<|Zd 1<|Sa 1<|Zd 2<|An 1<|Sd 3 11 [2] [3,3,3,3,0,3,3,3,0,0,1]<|Zr [0] 10 [] (Pk 3 [0,1,2]) (Pk 3 [2])<|Zt [1,2,3,5,6,7] 4 [bx 0 0,bx 0 1] (Pk 3 [2]) ?_
  obtain ⟨y2,hy2,heq⟩:=bind_some heq
  refine Dz 4 (cal 22 (strconv_Itoa_c (a0:=a0.Room)  hy2)) ?_
  rintro _ _ _ _ ⟨_,rfl,rfl,rfl,rfl⟩
  refine ⟨fun _ w hh=>⟨fun _=>(Pk 3 [0,1,2]) w hh,fun _=>(Pk 3 [2]) w hh,(fun h=>by cases h)⟩,?_⟩
  obtain ⟨y3,hy3,heq⟩:=bind_some heq
  refine Dz 8 (cal 26 (strconv_Itoa_c (a0:=a0.Lease)  hy3)) ?_
  rintro _ _ _ _ ⟨_,rfl,rfl,rfl,rfl⟩
  refine ⟨fun _ w hh=>⟨fun _=>(Pk 3 [0,1,2]) w hh,fun _=>(Pk 3 [2]) w hh,(fun h=>by cases h)⟩,?_⟩
  refine Dz 9 (DoesH.new (d:=27) (v:=fun g=>.slice (some ⟨g,0,none⟩) 3 3) (o:=fun g=>.cells #[.string ({ data:=#[99,97,99,104,101] }:ByteArray),.string y2,.string y3] 9 (0,0)) (fun g=>by kernel_rfl)) ?_
  rintro _ _ _ _ ⟨g3,rfl,rfl,rfl⟩
  have ho1:SlOwn Kd.string 9 H (some ⟨g3,0,none⟩) 3 ([({ data:=#[99,97,99,104,101] }:ByteArray),y2,y3]:List ByteArray) (some (g3,.cells #[.string ({ data:=#[99,97,99,104,101] }:ByteArray),.string y2,.string y3] 9 (0,0))):=SlOwn.lit (xs:=([({ data:=#[99,97,99,104,101] }:ByteArray),y2,y3]:List ByteArray)) (by kernel_rfl) (Nat.le_of_ble_eq_true (by kernel_rfl)) (Kd.Rep.scalars rfl)
  refine ⟨fun _ w hh=>⟨fun _=>(Pk 4 [1,2,3]) w hh,fun _=>(Pk 4 [3]) w hh,(fun h=>by cases h)⟩,?_⟩
  refine Ur 4 [1,2,0,3] ?_
  obtain ⟨y4,hy4,heq⟩:=bind_some heq
  refine Dz 10 (cal 28 (cache_Text_1_c hy4 (ho1.rw (.head _)) ho1.cap rfl (hb2.wide (xs:=[(some (g3,.cells #[.string ({ data:=#[99,97,99,104,101] }:ByteArray),.string y2,.string y3] 9 (0,0))),(some (g1,.cells #[iv a0.Room,iv a0.Lease,.slice Aa0_2 a0.Blobs.length ca0_2,.slice Aa0_3 a0.Entries.length ca0_3] 25 (0,0)))]) (by kernel_rfl)))) ?_
  rintro _ _ _ _ ⟨_,rfl,ch1,cu1,rfl,rfl,rfl,ho2⟩
  have ho3:BlOwn 38 5 H F g2 y4 ch1 cu1:=ho2.thin 2
  refine ⟨fun _ w hh=>⟨(fun h=>by cases h),fun _=>(Pk 4 [3]) w hh,(fun h=>by cases h)⟩,?_⟩
  refine DrH.done (by kernel_rfl) ?_
  refine Sa 2<|Zw 4 [bx 3 2]<|An 2 ?_
  exact Gt 4 [0,1,3] (((cache_Text.l4_c (e1:=cache_Text.e1) (cache_Text.e1_c)) big) a0 _ _ _ _ _ _ y4 _ _ 0 hra0_2 hca0_2 hra0_3 hca0_3 ho3 heq)
def S36 (F:List Ch) (H0:Hp) (r:Int) (v:Value) (H:Hp) (cs:List Ch):Prop:=H0=H∧v=iv r∧F=cs
theorem stringslite_Index_c [Wz w0] {a0 a1:ByteArray} {r:Int} (heq:stringslite_Index.f a0 a1=some r):CallsH Tryd.prog 36 #[.string a0,.string a1] H w0 F (S36 F H r):=by
 intro w hh
 unfold stringslite_Index.f at heq
 obtain ⟨hn,heq⟩:=guard?_some heq
 obtain rfl:=Option.some.inj heq
 obtain ⟨c,rfl⟩:∃ c,a1=⟨#[c]⟩:=by
  obtain ⟨⟨l⟩⟩:=a1
  match l,hn with
  | [c],_=>exact ⟨c,rfl⟩
 refine (Shelf.Tryd.stringslite_Index_one a0 c w).mono ?_
 rintro e w' ⟨rfl,rfl⟩
 exact ⟨_,rfl,_,_,Le.refl _,hh,rfl,rfl,rfl⟩
noncomputable def C27:Ctx:={ P:=Tryd.prog,f:=27,N:=23,c:=bodyOf Tryd.f27 }
def S27 (F:List Ch) (H0:Hp) (r:ByteArray × ByteArray × Bool) (v:Value) (H:Hp) (cs:List Ch):Prop:=H0=H∧v=.tuple #[.string r.1,.string r.2.1,.bool r.2.2]∧F=cs
theorem stringslite_Cut_c [Wz w0] {a0 a1:ByteArray} {r:ByteArray × ByteArray × Bool} (heq:stringslite_Cut.f a0 a1=some r):CallsH Tryd.prog 27 #[.string a0,.string a1] H w0 (F) (S27 F H r):=by
 refine Co C27 Tryd.func27 Tryd.ntmps27 ?_
 unfold stringslite_Cut.f at heq
 refine Sa 1<|Zd 3<|Sa 2<|Zk 2 ?_
 obtain ⟨y1,hy1,heq⟩:=bind_some heq
 refine RgH.does (cal 10 (stringslite_Index_c (a0:=a0) (a1:=a1)  hy1)) ?_
 rintro _ _ _ _ ⟨_,rfl,rfl,rfl,rfl⟩
 refine Zd 4<|Sa 1<|Zd 2 ?_
 refine Cb heq ?_ ?_
 ·intro hb1 heq
  refine An 1<|Sd 0 12 [] [3,3,3,3,3,3,3,3,3,3,3,3] ?_
  obtain ⟨hn1,heq⟩:=guard?_some heq
  obtain ⟨hn2,heq⟩:=guard?_some heq
  refine Zr [0,1,2,3,4,5,6,7,8,9,10,11] 0 [n2 hn1,n2 hn2] (Pk 0 []) (Pk 0 []) ?_
  refine DrH.done (by kernel_rfl) ?_
  obtain rfl:=Option.some.inj heq
  exact RunH.done (by kernel_rfl) Tryd.func27 (v:=.tuple #[.string (a0.extract 0 y1.toNat),.string (a0.extract (w64 (y1+(a1.size:Int))).toNat a0.size),.bool true]) (by kernel_rfl) ⟨rfl,rfl,rfl⟩
 ·intro hb1 heq
  refine Sa 2<|Zd 4 ?_
  obtain rfl:=Option.some.inj heq
  exact RunH.done (by kernel_rfl) Tryd.func27 (v:=.tuple #[.string a0,.string ({ data:=#[] }:ByteArray),.bool false]) (by kernel_rfl) ⟨rfl,rfl,rfl⟩
noncomputable def C15:Ctx:={ P:=Tryd.prog,f:=15,N:=13,c:=bodyOf Tryd.f15 }
def S15 (F:List Ch) (H0:Hp) (r:ByteArray × ByteArray × Bool) (v:Value) (H:Hp) (cs:List Ch):Prop:=H0=H∧v=.tuple #[.string r.1,.string r.2.1,.bool r.2.2]∧F=cs
theorem strings_Cut_c [Wz w0] {a0 a1:ByteArray} {r:ByteArray × ByteArray × Bool} (heq:strings_Cut.f a0 a1=some r):CallsH Tryd.prog 15 #[.string a0,.string a1] H w0 (F) (S15 F H r):=by
 refine Co C15 Tryd.func15 Tryd.ntmps15 ?_
 unfold strings_Cut.f at heq
 refine Sa 1<|Zd 3<|Sa 1<|Zk 2 ?_
 obtain ⟨y1,hy1,heq⟩:=bind_some heq
 refine RgH.does (cal 9 (stringslite_Cut_c hy1 )) ?_
 rintro _ _ _ _ ⟨_,rfl,rfl,rfl,rfl⟩
 refine Zd 9 ?_
 obtain rfl:=Option.some.inj heq
 exact RunH.done (by kernel_rfl) Tryd.func15 (v:=.tuple #[.string y1.1,.string y1.2.1,.bool y1.2.2]) (by kernel_rfl) ⟨rfl,rfl,rfl⟩
def S28 (F:List Ch) (H0:Hp) (r:List ByteArray) (v:Value) (H:Hp) (cs:List Ch):Prop:=∃ (A0:Option Addr) (c0:Nat) (ch0:Ch),H0=H∧v=.slice A0 r.length c0∧ch0::F=cs∧SlOwn Kd.string 9 H A0 c0 r ch0
theorem strings_Split_c [Wz w0] {a0 a1:ByteArray} {r:List ByteArray} (heq:strings_Split.f a0 a1=some r):CallsH Tryd.prog 28 #[.string a0,.string a1] H w0 F (S28 F H r):=by
 intro w hh
 unfold strings_Split.f at heq
 obtain ⟨hn,heq⟩:=guard?_some heq
 obtain rfl:=Option.some.inj heq
 simp only [Bool.and_eq_true,decide_eq_true_eq] at hn
 obtain ⟨m,hm⟩:=GlobI.at (g:=0) hh
 refine (Shelf.Tryd.strings_Split a0 a1 m w hn.1 hm hn.2).mono ?_
 rintro e w' ⟨rfl,rfl⟩
 have hl:=Lib.splitB_all a1 hn.2 0 _ a0 rfl
 have hc:=Lib.countB_le a1 hn.2 a0.size a0 (Nat.le_refl _)
 obtain ⟨H',cs',hle,hh',A0,c0,ch0,rfl,hv,rfl,ho⟩:=split_post (e:=9) hh hl (by unfold maxLen; omega) rfl
 exact ⟨_,rfl,_,_,hle,hh',A0,c0,ch0,rfl,hv,rfl,ho⟩
noncomputable def C38:Ctx:={ P:=Tryd.prog,f:=38,N:=19,c:=bodyOf Tryd.f38 }
def S38 (F:List Ch) (H0:Hp) (r:Int) (v:Value) (H:Hp) (cs:List Ch):Prop:=H0=H∧v=iv r∧F=cs
theorem slices_Index_string.e1_c [Wz w0] {r:Int}:slices_Index_string.e1=some r→RunH C38 (S38 F H r) H w0 [.c [1,1,0],.c [1,1,1]] [] H (F):=by
 intro   heq
 unfold slices_Index_string.e1 at heq
 refine Sa 0<|Zd 1 ?_
 obtain rfl:=Option.some.inj heq
 exact RunH.done (by kernel_rfl) Tryd.func38 (v:=iv (-1)) (by kernel_rfl) ⟨rfl,rfl,rfl⟩
theorem slices_Index_string.l2_c [Wz w0] {r:Int} (e1:Option Int)
  (he1:e1=some r→RunH C38 (S38 F H r) H w0 [.c [1,1,0],.c [1,1,1]] [] H (F)):∀ (k:Nat),∀ (a0:List ByteArray) (Aa0:Option Addr) (ca0:Nat) (a1:ByteArray) (v8:Int) ,Rw Kd.string H F Aa0 a0→a0.length≤ca0→slices_Index_string.l2 e1 k a0 a1 v8=some r→RunH C38 (S38 F H r) H w0 [.c [1,0,1,0,0],.l [1,0,1,0,0],.b 0,.c [1,1]] [(0,.slice Aa0 a0.length ca0),(1,.string a1),(7,iv (a0.length:Int)),(8,iv v8)] H (F):=by
 intro k
 induction k with
 | zero=>intro a0 Aa0 ca0 a1 v8 hra0 hca0 heq; exact nomatch (show (none:Option Int)=some r from heq)
 | succ k ihk =>
  intro a0 Aa0 ca0 a1 v8 hra0 hca0 heq
  rw [slices_Index_string.l2] at heq
  refine Sa 1<|Zd 1<|An 1 ?_
  refine Cb heq ?_ ?_
  ·intro hb1 heq
   refine Sa 4<|Zd 2<|Sa 1 ?_
   obtain ⟨x1,hx1,heq⟩:=bind_some heq
   obtain ⟨ha1,cs1,hK1,hcc1⟩:=hra0.get hx1
   obtain rfl:cs1=[.string x1]:=hK1
   refine Zw 6 [nx ha1 hx1,er hcc1 0 0] ?_
   refine Cb heq ?_ ?_
   ·intro hb2 heq
    refine Sa 1<|Zd 2 ?_
    obtain rfl:=Option.some.inj heq
    exact RunH.done (by kernel_rfl) Tryd.func38 (v:=iv v8) (by kernel_rfl) ⟨rfl,rfl,rfl⟩
   ·intro hb2 heq
    refine Sa 2<|Zd 2<|An 1 ?_
    exact Gt 0 [] (ihk a0 _ _ a1 (w64 (v8+1)) hra0 hca0 heq)
  ·intro hb1 heq
   refine An 2 ?_
   exact Gt 0 [] (he1 heq)
theorem slices_Index_string_c [Wz w0] {a0:List ByteArray} {Aa0:Option Addr} {na0 ca0:Nat} {a1:ByteArray} {r:Int} (heq:slices_Index_string.f a0 a1=some r) (hra0:Rw Kd.string H F Aa0 a0) (hca0:na0≤ca0) (hna0:na0=a0.length):CallsH Tryd.prog 38 #[.slice Aa0 na0 ca0,.string a1] H w0 (F) (S38 F H r):=by
 refine Co C38 Tryd.func38 Tryd.ntmps38 ?_
 subst hna0
 unfold slices_Index_string.f at heq
 refine Sa 1<|Zd 1<|Sa 2<|Zd 3<|An 2 ?_
 exact Gt 0 [] (((slices_Index_string.l2_c (e1:=slices_Index_string.e1) (slices_Index_string.e1_c)) big) a0 _ _ a1 0 hra0 hca0 heq)
noncomputable def C29:Ctx:={ P:=Tryd.prog,f:=29,N:=9,c:=bodyOf Tryd.f29 }
def S29 (F:List Ch) (H0:Hp) (r:Bool) (v:Value) (H:Hp) (cs:List Ch):Prop:=H0=H∧v=.bool r∧F=cs
theorem slices_Contains_string_c [Wz w0] {a0:List ByteArray} {Aa0:Option Addr} {na0 ca0:Nat} {a1:ByteArray} {r:Bool} (heq:slices_Contains_string.f a0 a1=some r) (hra0:Rw Kd.string H F Aa0 a0) (hca0:na0≤ca0) (hna0:na0=a0.length):CallsH Tryd.prog 29 #[.slice Aa0 na0 ca0,.string a1] H w0 (F) (S29 F H r):=by
 refine Co C29 Tryd.func29 Tryd.ntmps29 ?_
 subst hna0
 unfold slices_Contains_string.f at heq
 refine Sa 1<|Zd 1<|Sa 1<|Zk 2 ?_
 obtain ⟨y1,hy1,heq⟩:=bind_some heq
 refine RgH.does (cal 7 (slices_Index_string_c hy1 hra0 hca0 rfl)) ?_
 rintro _ _ _ _ ⟨_,rfl,rfl,rfl,rfl⟩
 refine Zd 5 ?_
 obtain rfl:=Option.some.inj heq
 exact RunH.done (by kernel_rfl) Tryd.func29 (v:=.bool (decide (0≤y1))) (by kernel_rfl) ⟨rfl,rfl,rfl⟩
def S39 (F:List Ch) (H0:Hp) (r:Int) (v:Value) (H:Hp) (cs:List Ch):Prop:=H0=H∧v=.tuple #[iv r,.nilIface]∧F=cs
theorem strconv_Atoi_c [Wz w0] {a0:ByteArray} {r:Int} (heq:strconv_Atoi.f a0=some r):CallsH Tryd.prog 39 #[.string a0] H w0 F (S39 F H r):=by
 intro w hh
 unfold strconv_Atoi.f at heq
 obtain ⟨hn,heq⟩:=guard?_some heq
 refine (Shelf.Tryd.strconv_Atoi a0 r (of_decide_eq_true hn) heq w).mono ?_
 rintro e w' ⟨rfl,t,rfl⟩
 exact ⟨_,rfl,_,_,Le.refl _,hh.later (Lib.bytesWorld_below _ _ _),rfl,rfl,rfl⟩
noncomputable def C30:Ctx:={ P:=Tryd.prog,f:=30,N:=48,c:=bodyOf Tryd.f30 }
def S30 (F:List Ch) (H0:Hp) (r:(List Int) × Bool) (v:Value) (H:Hp) (cs:List Ch):Prop:=∃ (A0:Option Addr) (c0:Nat) (ch0:Ch),H0=H∧v=.tuple #[.slice A0 r.1.length c0,.bool r.2]∧ch0::F=cs∧SlOwn (Kd.int .i64) 3 H A0 c0 r.1 ch0
theorem cache_numbers.e1_c [Wz w0] {r:(List Int) × Bool}:∀ (v_out4:List Int) (Av_out4:Option Addr) (nv_out4 cv_out4:Nat) (chv_out4:Ch) ,SlOwn (Kd.int .i64) 3 H Av_out4 cv_out4 v_out4 chv_out4→nv_out4=v_out4.length→cache_numbers.e1 v_out4=some r→RunH C30 (S30 F H r) H w0 [.c [1,1,1,0],.c [1,1,1,1]] [(4,.slice Av_out4 nv_out4 cv_out4)] H (chv_out4::F):=by
 intro v_out4 Av_out4 nv_out4 cv_out4 chv_out4 hov_out4 hnv_out4 heq
 subst hnv_out4
 unfold cache_numbers.e1 at heq
 refine Sa 0<|Zd 3 ?_
 obtain rfl:=Option.some.inj heq
 exact RunH.done (by kernel_rfl) Tryd.func30 (v:=.tuple #[.slice Av_out4 v_out4.length cv_out4,.bool true]) (by kernel_rfl) ⟨Av_out4,cv_out4,chv_out4,rfl,rfl,rfl,hov_out4⟩
theorem cache_numbers.l2_c [Wz w0] {r:(List Int) × Bool} (e1:(List Int)→Option ((List Int) × Bool))
  (he1:∀ (v_out4:List Int) (Av_out4:Option Addr) (nv_out4 cv_out4:Nat) (chv_out4:Ch) ,SlOwn (Kd.int .i64) 3 H Av_out4 cv_out4 v_out4 chv_out4→nv_out4=v_out4.length→e1 v_out4=some r→RunH C30 (S30 F H r) H w0 [.c [1,1,1,0],.c [1,1,1,1]] [(4,.slice Av_out4 nv_out4 cv_out4)] H (chv_out4::F)):∀ (k:Nat),∀ (a0:List ByteArray) (Aa0:Option Addr) (ca0:Nat) (v_out4:List Int) (Av_out4:Option Addr) (nv_out4 cv_out4:Nat) (chv_out4:Ch) (v11:Int) ,Rw Kd.string H F Aa0 a0→a0.length≤ca0→SlOwn (Kd.int .i64) 3 H Av_out4 cv_out4 v_out4 chv_out4→nv_out4=v_out4.length→cache_numbers.l2 e1 k a0 v_out4 v11=some r→RunH C30 (S30 F H r) H w0 [.c [1,1,0,1,0,0],.l [1,1,0,1,0,0],.b 0,.c [1,1,1]] [(4,.slice Av_out4 nv_out4 cv_out4),(9,.slice Aa0 a0.length ca0),(10,iv (a0.length:Int)),(11,iv v11)] H (chv_out4::F):=by
 intro k
 induction k with
 | zero=>intro a0 Aa0 ca0 v_out4 Av_out4 nv_out4 cv_out4 chv_out4 v11 hra0 hca0 hov_out4 hnv_out4 heq; exact nomatch (show (none:Option ((List Int) × Bool))=some r from heq)
 | succ k ihk =>
  intro a0 Aa0 ca0 v_out4 Av_out4 nv_out4 cv_out4 chv_out4 v11 hra0 hca0 hov_out4 hnv_out4 heq
  subst hnv_out4
  rw [cache_numbers.l2] at heq
  refine Sa 1<|Zd 1<|An 1 ?_
  refine Cb heq ?_ ?_
  ·intro hb1 heq
   refine Sa 4 ?_
   obtain ⟨x1,hx1,heq⟩:=bind_some heq
   obtain ⟨ha1,cs1,hK1,hcc1⟩:=hra0.get hx1
   obtain rfl:cs1=[.string x1]:=hK1
   refine Zw 3 [nx ha1 hx1,er hcc1 1 0]<|An 2 ?_
   obtain ⟨t1,ht1,heq⟩:=bind_some heq
   have K3:RunH C30 (S30 F H r) H w0 [.c [1,1,0,1,0,0,1,1,0,0,1,0,1],.c [1,1,0,1,0,0,1,1,0,0,1,1],.b 1,.c [1,1,0,1,0,0,1,1,1],.l [1,1,0,1,0,0],.b 0,.c [1,1,1]] [(4,.slice Av_out4 v_out4.length cv_out4),(6,.string x1),(9,.slice Aa0 a0.length ca0),(10,iv (a0.length:Int)),(11,iv v11),(36,.bool t1)] H (chv_out4::F):=by
    refine Cb heq ?_ ?_
    ·intro hb6 heq
     refine Sa 1<|Zd 2<|RunH.nilc ?_
     have ho1:SlOwn (Kd.int .i64) 3 H none 0 ([]:List Int) none:=SlOwn.nil
     obtain rfl:=Option.some.inj heq
     refine Up 2 [0] ?_
     exact RunH.done (by kernel_rfl) Tryd.func30 (v:=.tuple #[.slice none 0 0,.bool false]) (by kernel_rfl) ⟨none,0,none,rfl,rfl,rfl,ho1⟩
    ·intro hb6 heq
     refine Sa 2<|Zk 1 ?_
     obtain ⟨y2,hy2,heq⟩:=bind_some heq
     refine RgH.does (cal 39 (strconv_Atoi_c (a0:=x1)  hy2)) ?_
     rintro _ _ _ _ ⟨_,rfl,rfl,rfl,rfl⟩
     refine Zd 7<|Sa 0<|Zk 2 ?_
     refine RgH.does (DoesH.new (d:=44) (v:=fun g=>.slice (some ⟨g,0,none⟩) 1 1) (o:=fun g=>.cells #[iv y2] 3 (0,0)) (fun g=>by kernel_rfl)) ?_
     rintro _ _ _ _ ⟨g1,rfl,rfl,rfl⟩
     have ho2:SlOwn (Kd.int .i64) 3 H (some ⟨g1,0,none⟩) 1 ([y2]:List Int) (some (g1,.cells #[iv y2] 3 (0,0))):=SlOwn.lit (xs:=([y2]:List Int)) (by kernel_rfl) (Nat.le_of_ble_eq_true (by kernel_rfl)) (Kd.Rep.scalars rfl)
     obtain ⟨hn2,heq⟩:=guard?_some heq
     refine RgH.does (DoesH.append (d:=45) (k:=1) (t:=69) (e:=3) (bytes:=8) (kd:=(Kd.int .i64)) (n:=v_out4.length) (m:=1) (xs:=v_out4) (ys:=([y2]:List Int)) (A:=Av_out4) (B:=(some ⟨g1,0,none⟩)) (c:=cv_out4) (cB:=1) (by kernel_rfl) rfl rfl (by kernel_rfl) rfl hov_out4 (fun w hh=>ho2.rdb (hh.chin 0 rfl)) (room_le hn2) (by have:=room_le hn2; omega)) ?_
     rintro _ _ _ _ ⟨A1,c1,ch1,rfl,rfl,rfl,ho3⟩
     refine Zd 5<|Sa 1<|Zd 2<|An 1 ?_
     exact Gt 2 [1] (ihk a0 _ _ (v_out4++([y2]:List Int)) _ _ _ _ (w64 (v11+1)) hra0 hca0 ho3 rfl heq)
   replace heq:=ht1
   refine Sa 0<|Zk 4 ?_
   rcases bool_cases (decide ((x1.size:Int)<1)) with hb2 | hb2
   ·replace heq:=bif_true hb2 heq
    refine Zs 18 (congrArg Value.bool hb2)<|Zk 22 ?_
    obtain rfl:=Option.some.inj heq
    refine Dn ?_
    exact Gt 1 [0] (K3)
   ·replace heq:=bif_false hb2 heq
    refine Zs 18 (congrArg Value.bool hb2)<|Zk 9 ?_
    rcases bool_cases (decide (10<(x1.size:Int))) with hb3 | hb3
    ·replace heq:=bif_true hb3 heq
     refine Zs 23 (congrArg Value.bool hb3)<|Zk 22 ?_
     obtain rfl:=Option.some.inj heq
     refine Dn ?_
     exact Gt 1 [0] (K3)
    ·replace heq:=bif_false hb3 heq
     refine Zs 23 (congrArg Value.bool hb3)<|Zk 10 ?_
     obtain ⟨y1,hy1,heq⟩:=bind_some heq
     refine RgH.does (cal 25 (strings_Trim_c (a0:=x1) (a1:=({ data:=#[48,49,50,51,52,53,54,55,56,57] }:ByteArray))  hy1)) ?_
     rintro _ _ _ _ ⟨_,rfl,rfl,rfl,rfl⟩
     refine Zk 14 ?_
     rcases bool_cases (!sEq y1 ({ data:=#[] }:ByteArray)) with hb4 | hb4
     ·replace heq:=bif_true hb4 heq
      refine Zs 28 (congrArg Value.bool hb4)<|Zk 22 ?_
      obtain rfl:=Option.some.inj heq
      refine Dn ?_
      exact Gt 1 [0] (K3)
     ·replace heq:=bif_false hb4 heq
      refine Zs 28 (congrArg Value.bool hb4) ?_
      obtain ⟨hn1,heq⟩:=guard?_some heq
      refine Zv 18 [n2 hn1] ?_
      rcases bool_cases ((bt x1 0) == 48) with hb5 | hb5
      ·replace heq:=bif_true hb5 heq
       refine Zs 32 (congrArg Value.bool hb5)<|Zk 22 ?_
       obtain rfl:=Option.some.inj heq
       refine Dn ?_
       exact Gt 1 [0] (K3)
      ·replace heq:=bif_false hb5 heq
       refine Zs 32 (congrArg Value.bool hb5)<|Zk 22 ?_
       obtain rfl:=Option.some.inj heq
       refine Dn ?_
       exact Gt 1 [0] (K3)
  ·intro hb1 heq
   refine An 2 ?_
   exact Gt 1 [0] (he1 v_out4 _ _ _ _ hov_out4 rfl heq)
theorem cache_numbers_c [Wz w0] {a0:List ByteArray} {Aa0:Option Addr} {na0 ca0:Nat} {r:(List Int) × Bool} (heq:cache_numbers.f a0=some r) (hra0:Rw Kd.string H F Aa0 a0) (hca0:na0≤ca0) (hna0:na0=a0.length):CallsH Tryd.prog 30 #[.slice Aa0 na0 ca0] H w0 (F) (S30 F H r):=by
 refine Co C30 Tryd.func30 Tryd.ntmps30 ?_
 subst hna0
 unfold cache_numbers.f at heq
 refine Sa 1<|Zd 2<|Sa 1<|Zd 1<|Sa 2<|Zd 3<|An 2<|RunH.nilc ?_
 have ho4:SlOwn (Kd.int .i64) 3 H none 0 ([]:List Int) none:=SlOwn.nil
 exact Gt 1 [0] (((cache_numbers.l2_c (e1:=cache_numbers.e1) (cache_numbers.e1_c)) big) a0 _ _ ([]:List Int) _ _ _ _ 0 hra0 hca0 ho4 rfl heq)
noncomputable def C31:Ctx:={ P:=Tryd.prog,f:=31,N:=8,c:=bodyOf Tryd.f31 }
def S31 (F:List Ch) (H0:Hp) (r:List ByteArray) (v:Value) (H:Hp) (cs:List Ch):Prop:=∃ (A0:Option Addr) (c0:Nat) (ch0:Ch),H0=H∧v=.slice A0 r.length c0∧ch0::F=cs∧SlOwn Kd.string 9 H A0 c0 r ch0
theorem slices_Clone_string_c [Wz w0] {a0:List ByteArray} {Aa0:Option Addr} {na0 ca0:Nat} {r:List ByteArray} (hra0:Rw Kd.string H F Aa0 a0) (hca0:na0≤ca0) (hna0:na0=a0.length) (heq:slices_Clone_string.f a0=some r):CallsH Tryd.prog 31 #[.slice Aa0 na0 ca0] H w0 F (S31 F H r):=by
 refine calls_of_runH (F:=C31) Tryd.func31 (by kernel_rfl) Tryd.ntmps31 (args:=[.slice Aa0 na0 ca0]) (by kernel_rfl) ?_
 subst hna0
 unfold slices_Clone_string.f at heq
 obtain ⟨hn,heq⟩:=guard?_some heq
 obtain rfl:=Option.some.inj heq
 refine Ra 1 [0] [.c [1]]<|Rd 1 [0] [(0,.slice Aa0 a0.length ca0)]<|Ra 2 [1,0,0] [.c [1,0,1],.c [1,1]] ?_
 cases Aa0 with
 | none =>
  have h0:a0=[]:=by
   cases a0 with
   | nil=>rfl
   | cons x xs=>obtain ⟨b,off,cs,e,fr,hA,_⟩:=hra0 (by simp); cases hA
  subst h0
  refine Rd 2 [4] [(4,.bool true)]<|Ct true rfl<|Ra 1 [1,0,1,0,0] [.c [1,0,1,0,1],.c [1,1]]<|Rd 1 [2] [(2,.slice none 0 0)]<|RunH.nilc ?_
  exact RunH.done (by kernel_rfl) Tryd.func31 (v:=.slice none ([]:List ByteArray).length 0) (by kernel_rfl) ⟨none,0,none,rfl,rfl,rfl,SlOwn.nil⟩
 | some ad =>
  refine Rd 2 [0,4] [(0,.slice (some ad) a0.length ca0),(4,.bool false)]<|Cf false rfl<|Ra 2 [1,1,0] [.c [1,1,1]] ?_
  refine RgH.does (DoesH.new (d:=5) (v:=fun g=>.slice (some ⟨g,0,none⟩) 0 0) (o:=fun g=>.cells #[] 9 (0,0)) (fun g=>by kernel_rfl)) ?_
  rintro _ _ _ _ ⟨g,rfl,rfl,rfl⟩
  have ho:SlOwn Kd.string 9 H (some ⟨g,0,none⟩) 0 ([]:List ByteArray) (some (g,.cells #[] 9 (0,0))):=.inr ⟨g,0,#[],rfl,rfl,by simp,by simp [maxLen],by simp,Kd.Rep.nil⟩
  refine Rk 2 [5,6] [(5,.slice (some ⟨g,0,none⟩) 0 0),(6,.slice (some ad) a0.length ca0)] ?_
  refine RgH.does (DoesH.append (d:=7) (k:=0) (t:=40) (e:=9) (bytes:=16) (kd:=Kd.string) (n:=0) (m:=a0.length) (xs:=([]:List ByteArray)) (ys:=a0) (A:=some ⟨g,0,none⟩) (B:=some ad) (c:=0) (cB:=ca0) (by kernel_rfl) rfl rfl (by kernel_rfl) rfl ho (fun w hh=>hra0.rdb (hh.drop 1)) (room_le hn) (by have:=room_le hn; omega)) ?_
  rintro _ _ _ _ ⟨A1,c1,ch1,rfl,rfl,rfl,ho1⟩
  refine Rd 4 [2] [(2,.slice A1 (([]:List ByteArray)++a0).length c1)] ?_
  exact RunH.done (by kernel_rfl) Tryd.func31 (v:=.slice A1 (([]:List ByteArray)++a0).length c1) (by kernel_rfl) ⟨A1,c1,ch1,rfl,rfl,rfl,ho1⟩
noncomputable def C16:Ctx:={ P:=Tryd.prog,f:=16,N:=140,c:=bodyOf Tryd.f16 }
def S16 (F:List Ch) (H0:Hp) (ga0:Nat) (r:Bool × Cache) (v:Value) (H:Hp) (cs:List Ch):Prop:=∃ (A1_2:Option Addr) (c1_2:Nat) (ch1_2:Ch) (A1_3:Option Addr) (c1_3:Nat) (ch1_3:Ch),v=.bool r.1∧some (ga0,.cells #[iv r.2.Room,iv r.2.Lease,.slice A1_2 r.2.Blobs.length c1_2,.slice A1_3 r.2.Entries.length c1_3] 25 (0,0))::ch1_2::ch1_3::F=cs∧SlOwn kBlob 48 H A1_2 c1_2 r.2.Blobs ch1_2∧SlOwn kEntry 50 H A1_3 c1_3 r.2.Entries ch1_3
theorem cache_line_c [Wz w0] {ga0:Nat} {a0:Cache} {Aa0_2:Option Addr} {na0_2 ca0_2:Nat} {cha0_2:Ch} {Aa0_3:Option Addr} {na0_3 ca0_3:Nat} {cha0_3:Ch} {a1:Int} {a2:ByteArray} {r:Bool × Cache} (heq:cache_line.f a0 a1 a2=some r) (hoa0_2:SlOwn kBlob 48 H0 Aa0_2 ca0_2 a0.Blobs cha0_2) (hna0_2:na0_2=a0.Blobs.length) (hoa0_3:SlOwn kEntry 50 H0 Aa0_3 ca0_3 a0.Entries cha0_3) (hna0_3:na0_3=a0.Entries.length):CallsH Tryd.prog 16 #[.pointer (some ⟨ga0,0,none⟩),iv a1,.string a2] H0 w0 ((some (ga0,.cells #[iv a0.Room,iv a0.Lease,.slice Aa0_2 na0_2 ca0_2,.slice Aa0_3 na0_3 ca0_3] 25 (0,0)))::cha0_2::cha0_3::F) (S16 F H0 ga0 r):=by
 refine Co C16 Tryd.func16 Tryd.ntmps16 ?_
 subst hna0_2
 subst hna0_3
 unfold cache_line.f at heq
 suffices key:∀ (H:Hp),SlOwn kBlob 48 H Aa0_2 ca0_2 a0.Blobs cha0_2→SlOwn kEntry 50 H Aa0_3 ca0_3 a0.Entries cha0_3→RunH C16 (S16 F H0 ga0 r) H0 w0 [.c []] (argL 0 [.pointer (some ⟨ga0,0,none⟩),iv a1,.string a2]) H ((some (ga0,.cells #[iv a0.Room,iv a0.Lease,.slice Aa0_2 (a0.Blobs.length) ca0_2,.slice Aa0_3 (a0.Entries.length) ca0_3] 25 (0,0)))::cha0_2::cha0_3::F) from key H0 hoa0_2 hoa0_3
 intro H hoa0_2 hoa0_3
 refine Sa 1<|Zd 1<|Sa 1<|Zk 1 ?_
 obtain ⟨y1,hy1,heq⟩:=bind_some heq
 refine RgH.does (cal 15 (strings_Split_c (a0:=a2) (a1:=({ data:=#[32] }:ByteArray))  hy1)) ?_
 rintro _ _ _ _ ⟨_,rfl,A1,c1,ch1,rfl,rfl,rfl,ho1⟩
 refine Zd 3<|Sa 2<|Zk 1 ?_
 obtain ⟨y2,hy2,heq⟩:=bind_some heq
 refine RgH.does (cal 17 (slices_Contains_string_c hy2 (ho1.rw (.head _)) ho1.cap rfl)) ?_
 rintro _ _ _ _ ⟨_,rfl,rfl,rfl,rfl⟩
 refine Dn ?_
 refine Cb heq ?_ ?_
 ·intro hb1 heq
  refine Sa 1<|Zd 1 ?_
  obtain rfl:=Option.some.inj heq
  refine Up 4 [1,2,3] ?_
  exact RunH.done (by kernel_rfl) Tryd.func16 (v:=.bool false) (by kernel_rfl) ⟨Aa0_2,ca0_2,cha0_2,Aa0_3,ca0_3,cha0_3,rfl,rfl,hoa0_2,hoa0_3⟩
 ·intro hb1 heq
  refine Sa 4<|Zd 3 ?_
  refine Cb heq ?_ ?_
  ·intro hb2 heq
   refine Sa 1 ?_
   obtain ⟨hn2,heq⟩:=guard?_some heq
   have hn1:y1.length - 1=(y1.drop 1).length:=by have h1:=both_of hn2; have h3:=trivial; (try simp); (try omega)
   have ho2:=ho1.drop 1 (by have h2:=ho1.cap; have h3:=trivial; have h1:=both_of hn2; omega)
   refine Zv 2 [⟨.need ((0:Int)≤1∧1≤((y1.length:Nat):Int)),fun w hh=>(both_of hn2)⟩] ?_
   obtain ⟨y3,hy3,heq⟩:=bind_some heq
   refine RgH.does (cal 24 (cache_numbers_c hy3 (ho2.rw (.head _)) (show y1.length - 1≤c1 - 1 from by have h1:=ho2.cap; have h2:=hn1; omega) hn1)) ?_
   rintro _ _ _ _ ⟨_,rfl,A2,c2,ch2,rfl,rfl,rfl,ho3⟩
   refine Zd 8<|An 2 ?_
   obtain ⟨t1,ht1,heq⟩:=bind_some heq
   have K6:∀ (H:Hp),SlOwn kBlob 48 H Aa0_2 ca0_2 a0.Blobs cha0_2→SlOwn kEntry 50 H Aa0_3 ca0_3 a0.Entries cha0_3→SlOwn (Kd.int .i64) 3 H A2 c2 y3.1 ch2→RunH C16 (S16 F H0 ga0 r) H0 w0 [.c [1,1,1,0,0,1,0,1,0,1],.c [1,1,1,0,0,1,0,1,1],.b 0,.c [1,1,1,1]] [(0,pg ga0 0),(8,.slice A2 y3.1.length c2),(39,.bool t1)] H (ch2::(some (ga0,.cells #[iv a0.Room,iv a0.Lease,.slice Aa0_2 a0.Blobs.length ca0_2,.slice Aa0_3 a0.Entries.length ca0_3] 25 (0,0)))::cha0_2::cha0_3::F):=by
    intro H hoa0_2 hoa0_3 ho3
    refine Cb heq ?_ ?_
    ·intro hb5 heq
     refine Sa 1<|Zd 1 ?_
     obtain rfl:=Option.some.inj heq
     refine Up 4 [1,2,3] ?_
     exact RunH.done (by kernel_rfl) Tryd.func16 (v:=.bool false) (by kernel_rfl) ⟨Aa0_2,ca0_2,cha0_2,Aa0_3,ca0_3,cha0_3,rfl,rfl,hoa0_2,hoa0_3⟩
    ·intro hb5 heq
     refine An 2<|Sd 4 14 [0,2,3] [3,3,3,3,3,3,3,3,3,3,1,1,3,2]<|Zr [0] 13 [] (Pk 4 [0,1,2,3]) (Pk 4 [0,2,3])<|Zt [1] 12 [] (Pk 4 [0,2,3]) ?_
     obtain ⟨x2,hx2,heq⟩:=bind_some heq
     obtain ⟨ha2,cs2,hK2,hcc2⟩:=ho3.get hx2
     obtain rfl:cs2=[iv x2]:=hK2
     refine Zr [2,3,4] 9 [nx ha2 hx2,el hcc2 0 0] (Pk 4 [0,1,2,3]) (Pk 4 [0,2,3]) ?_
     obtain ⟨x3,hx3,heq⟩:=bind_some heq
     obtain ⟨ha3,cs3,hK3,hcc3⟩:=ho3.get hx3
     obtain rfl:cs3=[iv x3]:=hK3
     refine Zt [5,6] 7 [nx ha3 hx3] (Pk 4 [0,2,3]) ?_
     obtain ⟨ha4,cs4,hK4,hcc4⟩:=ho3.get hx3
     obtain rfl:cs4=[iv x3]:=hK4
     refine Zr [7] 6 [el hcc4 0 0] (Pk 4 [0,1,2,3]) (Pk 4 [0,2,3])<|Zt [8] 5 [] (Pk 4 [0,2,3])<|Zr [9] 4 [] (Pk 4 [0,1,2,3]) (Pk 4 [0,2,3]) ?_
     refine Dz 10 (DoesH.store (k:=1) (g:=ga0) (off:=0) (v:=iv x2) (cells':=#[iv x2,iv a0.Lease,.slice Aa0_2 a0.Blobs.length ca0_2,.slice Aa0_3 a0.Entries.length ca0_3]) (by kernel_rfl) rfl (by kernel_rfl) (by kernel_rfl)) ?_
     rintro _ _ _ _ ⟨rfl,rfl,rfl⟩
     refine ⟨fun _ w hh=>⟨(fun h=>by cases h),fun _=>(Pk 4 [0,2,3]) w hh,(fun h=>by cases h)⟩,?_⟩
     refine Dz 11 (DoesH.pureop (d:=50) (v:=.pointer (some ⟨ga0,0,none⟩)) (vs:=[]) (evs:=[]) (by kernel_rfl) (fun _ _=>trivial)) ?_
     rintro _ _ _ _ ⟨rfl,rfl,rfl⟩
     refine ⟨fun _ w hh=>⟨(fun h=>by cases h),fun _=>(Pk 4 [0,2,3]) w hh,(fun h=>by cases h)⟩,?_⟩
     refine Zt [12] 1 [] (Pk 4 [0,2,3]) ?_
     refine Dz 13 (DoesH.store (k:=1) (g:=ga0) (off:=1) (v:=iv x3) (cells':=#[iv x2,iv x3,.slice Aa0_2 a0.Blobs.length ca0_2,.slice Aa0_3 a0.Entries.length ca0_3]) (by kernel_rfl) rfl (by kernel_rfl) (by kernel_rfl)) ?_
     rintro _ _ _ _ ⟨rfl,rfl,rfl⟩
     refine ⟨fun _ w hh=>⟨(fun h=>by cases h),(fun h=>absurd h (by decide)),(fun h=>by cases h)⟩,?_⟩
     refine DrH.done (by kernel_rfl) ?_
     refine Sa 1<|Zd 1 ?_
     obtain rfl:=Option.some.inj heq
     refine Up 4 [1,2,3] ?_
     exact RunH.done (by kernel_rfl) Tryd.func16 (v:=.bool true) (by kernel_rfl) ⟨Aa0_2,ca0_2,cha0_2,Aa0_3,ca0_3,cha0_3,rfl,rfl,hoa0_2,hoa0_3⟩
   replace heq:=ht1
   refine Sa 0 ?_
   obtain ⟨x1,hx1,heq⟩:=bind_some heq
   obtain ⟨ha1,cs1,hK1,hcc1⟩:=ho1.get hx1
   obtain rfl:cs1=[.string x1]:=hK1
   refine Zv 5 [nx ha1 hx1,el hcc1 1 0] ?_
   rcases bool_cases (!sEq x1 ({ data:=#[99,97,99,104,101] }:ByteArray)) with hb3 | hb3
   ·replace heq:=bif_true hb3 heq
    refine Zs 31 (congrArg Value.bool hb3)<|Zk 13 ?_
    obtain rfl:=Option.some.inj heq
    refine Dn ?_
    exact Gt 5 [0,2,3,4] (K6 _ hoa0_2 hoa0_3 ho3)
   ·replace heq:=bif_false hb3 heq
    refine Zs 31 (congrArg Value.bool hb3)<|Zk 9 ?_
    rcases bool_cases (!y3.2) with hb4 | hb4
    ·replace heq:=bif_true hb4 heq
     refine Zs 35 (congrArg Value.bool hb4)<|Zk 13 ?_
     obtain rfl:=Option.some.inj heq
     refine Dn ?_
     exact Gt 5 [0,2,3,4] (K6 _ hoa0_2 hoa0_3 ho3)
    ·replace heq:=bif_false hb4 heq
     refine Zs 35 (congrArg Value.bool hb4)<|Zk 13 ?_
     obtain rfl:=Option.some.inj heq
     refine Dn ?_
     exact Gt 5 [0,2,3,4] (K6 _ hoa0_2 hoa0_3 ho3)
  ·intro hb2 heq
   refine An 1 ?_
   obtain ⟨t2,ht2,heq⟩:=bind_some heq
   have K7:∀ (H:Hp),SlOwn kBlob 48 H Aa0_2 ca0_2 a0.Blobs cha0_2→SlOwn kEntry 50 H Aa0_3 ca0_3 a0.Entries cha0_3→SlOwn Kd.string 9 H A1 c1 y1 ch1→RunH C16 (S16 F H0 ga0 r) H0 w0 [.c [1,1,1,0,0,1,1,1],.b 0,.c [1,1,1,1]] [(0,pg ga0 0),(7,.slice A1 y1.length c1),(52,.bool t2)] H (ch1::(some (ga0,.cells #[iv a0.Room,iv a0.Lease,.slice Aa0_2 a0.Blobs.length ca0_2,.slice Aa0_3 a0.Entries.length ca0_3] 25 (0,0)))::cha0_2::cha0_3::F):=by
    intro H hoa0_2 hoa0_3 ho1
    refine Cb heq ?_ ?_
    ·intro hb8 heq
     refine Sa 1 ?_
     obtain ⟨hn4,heq⟩:=guard?_some heq
     have hn3:y1.length - 2=(y1.drop 2).length:=by have h1:=both_of hn4; have h3:=trivial; (try simp); (try omega)
     have ho4:=ho1.drop 2 (by have h2:=ho1.cap; have h3:=trivial; have h1:=both_of hn4; omega)
     refine Zv 2 [⟨.need ((0:Int)≤2∧2≤((y1.length:Nat):Int)),fun w hh=>(both_of hn4)⟩] ?_
     obtain ⟨y4,hy4,heq⟩:=bind_some heq
     refine RgH.does (cal 73 (cache_numbers_c hy4 (ho4.rw (.head _)) (show y1.length - 2≤c1 - 2 from by have h1:=ho4.cap; have h2:=hn3; omega) hn3)) ?_
     rintro _ _ _ _ ⟨_,rfl,A3,c3,ch3,rfl,rfl,rfl,ho5⟩
     refine Zd 8<|Sa 2<|Zd 2 ?_
     refine Cb heq ?_ ?_
     ·intro hb9 heq
      refine Sa 1<|Zd 1 ?_
      obtain rfl:=Option.some.inj heq
      refine Up 5 [2,3,4] ?_
      exact RunH.done (by kernel_rfl) Tryd.func16 (v:=.bool false) (by kernel_rfl) ⟨Aa0_2,ca0_2,cha0_2,Aa0_3,ca0_3,cha0_3,rfl,rfl,hoa0_2,hoa0_3⟩
     ·intro hb9 heq
      refine An 2<|Sd 5 26 [0,1,2,4] [3,3,3,3,3,3,3,3,3,3,3,3,3,3,3,3,3,3,3,3,3,0,1,1,3,2]<|Zt [0,1,2,3] 22 [] (Pk 5 [0,1,2,4])<|Zr [4] 21 [bx 2 2] (Pk 5 [0,1,2,3,4]) (Pk 5 [0,1,2,4]) ?_
      obtain ⟨x5,hx5,heq⟩:=bind_some heq
      obtain ⟨ha6,cs6,hK6,hcc6⟩:=ho1.get hx5
      obtain rfl:cs6=[.string x5]:=hK6
      obtain ⟨x6,hx6,heq⟩:=bind_some heq
      obtain ⟨ha7,cs7,hK7,hcc7⟩:=ho5.get hx6
      obtain rfl:cs7=[iv x6]:=hK7
      obtain ⟨x7,hx7,heq⟩:=bind_some heq
      obtain ⟨ha8,cs8,hK8,hcc8⟩:=ho5.get hx7
      obtain rfl:cs8=[iv x7]:=hK8
      obtain ⟨x8,hx8,heq⟩:=bind_some heq
      obtain ⟨ha9,cs9,hK9,hcc9⟩:=ho5.get hx8
      obtain rfl:cs9=[iv x8]:=hK9
      obtain ⟨x9,hx9,heq⟩:=bind_some heq
      obtain ⟨ha10,cs10,hK10,hcc10⟩:=ho5.get hx9
      obtain rfl:cs10=[iv x9]:=hK10
      refine Zt [5,6,7,8,9,10,11,12,13,14,15,16,17,18,19,20] 5 [nx ha6 hx5,el hcc6 1 0,nx ha7 hx6,el hcc7 0 0,nx ha8 hx7,el hcc8 0 0,nx ha9 hx8,el hcc9 0 0,nx ha10 hx9,el hcc10 0 0] (Pk 5 [0,1,2,4]) ?_
      refine Dz 21 (DoesH.new (d:=99) (v:=fun g=>.slice (some ⟨g,0,none⟩) 1 1) (o:=fun g=>.cells #[.string x5,iv x6,iv x7,iv x8,iv x9] 48 (0,0)) (fun g=>by kernel_rfl)) ?_
      rintro _ _ _ _ ⟨g1,rfl,rfl,rfl⟩
      have ho6:SlOwn kBlob 48 H (some ⟨g1,0,none⟩) 1 ([(⟨x5,x6,x7,x8,x9⟩:Blob)]:List Blob) (some (g1,.cells #[.string x5,iv x6,iv x7,iv x8,iv x9] 48 (0,0))):=SlOwn.lit (xs:=([(⟨x5,x6,x7,x8,x9⟩:Blob)]:List Blob)) (by kernel_rfl) (Nat.le_of_ble_eq_true (by kernel_rfl)) (Kd.Rep.one kBlob_mk)
      refine ⟨fun _ w hh=>⟨fun _=>(Pk 6 [1,2,3,4,5]) w hh,fun _=>(Pk 6 [1,2,3,5]) w hh,(fun h=>by cases h)⟩,?_⟩
      obtain ⟨hn5,heq⟩:=guard?_some heq
      refine Dz 22 (DoesH.append (d:=100) (k:=4) (t:=22) (e:=48) (bytes:=48) (kd:=kBlob) (n:=a0.Blobs.length) (m:=1) (xs:=a0.Blobs) (ys:=([(⟨x5,x6,x7,x8,x9⟩:Blob)]:List Blob)) (A:=Aa0_2) (B:=(some ⟨g1,0,none⟩)) (c:=ca0_2) (cB:=1) (by kernel_rfl) rfl rfl (by kernel_rfl) rfl hoa0_2 (fun w hh=>ho6.rdb (hh.chin 0 rfl)) (room_le hn5) (by have:=room_le hn5; omega)) ?_
      rintro _ _ _ _ ⟨A4,c4,ch4,rfl,rfl,rfl,ho7⟩
      refine ⟨fun _ w hh=>⟨(fun h=>by cases h),fun _=>(Pk 6 [1,2,3,5]) w hh,(fun h=>by cases h)⟩,?_⟩
      refine Dz 23 (DoesH.pureop (d:=101) (v:=.pointer (some ⟨ga0,0,none⟩)) (vs:=[]) (evs:=[]) (by kernel_rfl) (fun _ _=>trivial)) ?_
      rintro _ _ _ _ ⟨rfl,rfl,rfl⟩
      refine ⟨fun _ w hh=>⟨(fun h=>by cases h),fun _=>(Pk 6 [1,2,3,5]) w hh,(fun h=>by cases h)⟩,?_⟩
      refine Zt [24] 1 [] (Pk 6 [1,2,3,5]) ?_
      refine Dz 25 (DoesH.store (k:=3) (g:=ga0) (off:=2) (v:=.slice A4 ((a0.Blobs++([(⟨x5,x6,x7,x8,x9⟩:Blob)]:List Blob)).length) c4) (cells':=#[iv a0.Room,iv a0.Lease,.slice A4 ((a0.Blobs++([(⟨x5,x6,x7,x8,x9⟩:Blob)]:List Blob)).length) c4,.slice Aa0_3 a0.Entries.length ca0_3]) (by kernel_rfl) rfl (by kernel_rfl) (by kernel_rfl)) ?_
      rintro _ _ _ _ ⟨rfl,rfl,rfl⟩
      refine ⟨fun _ w hh=>⟨(fun h=>by cases h),(fun h=>absurd h (by decide)),(fun h=>by cases h)⟩,?_⟩
      refine DrH.done (by kernel_rfl) ?_
      refine Sa 1<|Zd 1 ?_
      obtain rfl:=Option.some.inj heq
      refine Up 6 [3,4,5] ?_
      exact RunH.done (by kernel_rfl) Tryd.func16 (v:=.bool true) (by kernel_rfl) ⟨A4,c4,ch4,Aa0_3,ca0_3,cha0_3,rfl,rfl,ho7,hoa0_3⟩
    ·intro hb8 heq
     refine An 1 ?_
     obtain ⟨t3,ht3,heq⟩:=bind_some heq
     have K10:∀ (H:Hp),SlOwn kBlob 48 H Aa0_2 ca0_2 a0.Blobs cha0_2→SlOwn kEntry 50 H Aa0_3 ca0_3 a0.Entries cha0_3→SlOwn Kd.string 9 H A1 c1 y1 ch1→RunH C16 (S16 F H0 ga0 r) H0 w0 [.c [1,1,1,0,0,1,1,1,1,1],.b 0,.c [1,1,1,1]] [(0,pg ga0 0),(7,.slice A1 y1.length c1),(103,.bool t3)] H (ch1::(some (ga0,.cells #[iv a0.Room,iv a0.Lease,.slice Aa0_2 a0.Blobs.length ca0_2,.slice Aa0_3 a0.Entries.length ca0_3] 25 (0,0)))::cha0_2::cha0_3::F):=by
      intro H hoa0_2 hoa0_3 ho1
      refine Cb heq ?_ ?_
      ·intro hb11 heq
       refine Sa 1 ?_
       obtain ⟨hn7,heq⟩:=guard?_some heq
       have hn6:3 - 2=((y1.take 3).drop 2).length:=by have h1:=three_of hn7; have h3:=trivial; (try simp); (try omega)
       have ho8:=(ho1.take 3).drop 2 (by have h2:=ho1.cap; have h3:=trivial; have h1:=three_of hn7; omega)
       refine Zv 2 [⟨.need ((0:Int)≤2∧(2:Int)≤3∧3≤((c1:Nat):Int)),fun w hh=>⟨(three_of hn7).1,(three_of hn7).2.1,(by have h1:=(three_of hn7).2.2; have h2:=ho1.cap; have h3:=trivial; omega)⟩⟩] ?_
       obtain ⟨y5,hy5,heq⟩:=bind_some heq
       refine RgH.does (cal 116 (cache_numbers_c hy5 (ho8.rw (.head _)) (show 3 - 2≤c1 - 2 from by have h1:=ho8.cap; have h2:=hn6; omega) hn6)) ?_
       rintro _ _ _ _ ⟨_,rfl,A5,c5,ch5,rfl,rfl,rfl,ho9⟩
       refine Zd 8<|Sa 2<|Zd 2 ?_
       refine Cb heq ?_ ?_
       ·intro hb12 heq
        refine Sa 1<|Zd 1 ?_
        obtain rfl:=Option.some.inj heq
        refine Up 5 [2,3,4] ?_
        exact RunH.done (by kernel_rfl) Tryd.func16 (v:=.bool false) (by kernel_rfl) ⟨Aa0_2,ca0_2,cha0_2,Aa0_3,ca0_3,cha0_3,rfl,rfl,hoa0_2,hoa0_3⟩
       ·intro hb12 heq
        refine An 2<|Sd 5 20 [0,1,2,3] [3,3,3,3,3,3,3,3,3,3,3,3,3,0,3,0,1,1,3,2]<|Zt [0,1,2,3] 16 [] (Pk 5 [0,1,2,3])<|Zr [4] 15 [bx 2 3] (Pk 5 [0,1,2,3,4]) (Pk 5 [0,1,2,3]) ?_
        obtain ⟨x11,hx11,heq⟩:=bind_some heq
        obtain ⟨ha12,cs12,hK12,hcc12⟩:=ho1.get hx11
        obtain rfl:cs12=[.string x11]:=hK12
        obtain ⟨x12,hx12,heq⟩:=bind_some heq
        obtain ⟨ha13,cs13,hK13,hcc13⟩:=ho9.get hx12
        obtain rfl:cs13=[iv x12]:=hK13
        obtain ⟨hn9,heq⟩:=guard?_some heq
        have hn8:y1.length - 3=(y1.drop 3).length:=by have h1:=both_of hn9; have h3:=trivial; (try simp); (try omega)
        have ho10:=ho1.drop 3 (by have h2:=ho1.cap; have h3:=trivial; have h1:=both_of hn9; omega)
        refine Zt [5,6,7,8,9,10,11,12] 7 [nx ha12 hx11,el hcc12 1 0,nx ha13 hx12,el hcc13 0 0,⟨.need ((0:Int)≤3∧3≤((y1.length:Nat):Int)),fun w hh=>(both_of hn9)⟩] (Pk 5 [0,1,2,3]) ?_
        obtain ⟨y6,hy6,heq⟩:=bind_some heq
        refine Dz 13 (cal 134 (slices_Clone_string_c (a0:=(y1.drop 3)) (ho10.rw (.tail _ (.head _))) (show y1.length - 3≤c1 - 3 from by have h1:=ho10.cap; have h2:=hn8; omega) hn8 hy6)) ?_
        rintro _ _ _ _ ⟨_,rfl,A6,c6,ch6,rfl,rfl,rfl,ho11⟩
        refine ⟨fun _ w hh=>⟨fun _=>(Pk 6 [1,2,3,4,5]) w hh,fun _=>(Pk 6 [1,2,3,4]) w hh,(fun h=>by cases h)⟩,?_⟩
        refine Zt [14] 5 [] (Pk 6 [1,2,3,4]) ?_
        have hc1:=ho11.cap
        refine DrH.freezeS ho11 (fun H hl hr1=>?_)
        have hle:=hl
        replace hoa0_2:=hoa0_2.mono hl
        replace hoa0_3:=hoa0_3.mono hl
        refine Dz 15 (DoesH.new (d:=136) (v:=fun g=>.slice (some ⟨g,0,none⟩) 1 1) (o:=fun g=>.cells #[.string x11,.slice A6 y6.length c6,iv x12] 50 (0,0)) (fun g=>by kernel_rfl)) ?_
        rintro _ _ _ _ ⟨g2,rfl,rfl,rfl⟩
        have ho12:SlOwn kEntry 50 H (some ⟨g2,0,none⟩) 1 ([(⟨x11,y6,x12⟩:Entry)]:List Entry) (some (g2,.cells #[.string x11,.slice A6 y6.length c6,iv x12] 50 (0,0))):=SlOwn.lit (xs:=([(⟨x11,y6,x12⟩:Entry)]:List Entry)) (by kernel_rfl) (Nat.le_of_ble_eq_true (by kernel_rfl)) (Kd.Rep.one (kEntry_mk hc1 hr1))
        refine ⟨fun _ w hh=>⟨fun _=>(fun w hh=>(hh.le hle).pick 6 [1,2,3,4,5] (by kernel_rfl)) w hh,fun _=>(fun w hh=>(hh.le hle).pick 6 [1,2,3,4] (by kernel_rfl)) w hh,(fun h=>by cases h)⟩,?_⟩
        obtain ⟨hn10,heq⟩:=guard?_some heq
        refine Dz 16 (DoesH.append (d:=137) (k:=5) (t:=23) (e:=50) (bytes:=48) (kd:=kEntry) (n:=a0.Entries.length) (m:=1) (xs:=a0.Entries) (ys:=([(⟨x11,y6,x12⟩:Entry)]:List Entry)) (A:=Aa0_3) (B:=(some ⟨g2,0,none⟩)) (c:=ca0_3) (cB:=1) (by kernel_rfl) rfl rfl (by kernel_rfl) rfl hoa0_3 (fun w hh=>ho12.rdb (hh.chin 0 rfl)) (room_le hn10) (by have:=room_le hn10; omega)) ?_
        rintro _ _ _ _ ⟨A7,c7,ch7,rfl,rfl,rfl,ho13⟩
        refine ⟨fun _ w hh=>⟨(fun h=>by cases h),fun _=>(fun w hh=>(hh.le hle).pick 6 [1,2,3,4] (by kernel_rfl)) w hh,(fun h=>by cases h)⟩,?_⟩
        refine Dz 17 (DoesH.pureop (d:=138) (v:=.pointer (some ⟨ga0,0,none⟩)) (vs:=[]) (evs:=[]) (by kernel_rfl) (fun _ _=>trivial)) ?_
        rintro _ _ _ _ ⟨rfl,rfl,rfl⟩
        refine ⟨fun _ w hh=>⟨(fun h=>by cases h),fun _=>(fun w hh=>(hh.le hle).pick 6 [1,2,3,4] (by kernel_rfl)) w hh,(fun h=>by cases h)⟩,?_⟩
        refine Zt [18] 1 [] (fun w hh=>(hh.le hle).pick 6 [1,2,3,4] (by kernel_rfl)) ?_
        refine Dz 19 (DoesH.store (k:=3) (g:=ga0) (off:=3) (v:=.slice A7 ((a0.Entries++([(⟨x11,y6,x12⟩:Entry)]:List Entry)).length) c7) (cells':=#[iv a0.Room,iv a0.Lease,.slice Aa0_2 a0.Blobs.length ca0_2,.slice A7 ((a0.Entries++([(⟨x11,y6,x12⟩:Entry)]:List Entry)).length) c7]) (by kernel_rfl) rfl (by kernel_rfl) (by kernel_rfl)) ?_
        rintro _ _ _ _ ⟨rfl,rfl,rfl⟩
        refine ⟨fun _ w hh=>⟨(fun h=>by cases h),(fun h=>absurd h (by decide)),(fun h=>by cases h)⟩,?_⟩
        refine DrH.done (by kernel_rfl) ?_
        refine Sa 1<|Zd 1 ?_
        obtain rfl:=Option.some.inj heq
        refine Up 6 [3,4,5] ?_
        exact RunH.done (by kernel_rfl) Tryd.func16 (v:=.bool true) (by kernel_rfl) ⟨Aa0_2,ca0_2,cha0_2,A7,c7,ch7,rfl,rfl,hoa0_2,ho13⟩
      ·intro hb11 heq
       refine Sa 3<|Zd 1 ?_
       obtain rfl:=Option.some.inj heq
       refine Up 4 [1,2,3] ?_
       exact RunH.done (by kernel_rfl) Tryd.func16 (v:=.bool false) (by kernel_rfl) ⟨Aa0_2,ca0_2,cha0_2,Aa0_3,ca0_3,cha0_3,rfl,rfl,hoa0_2,hoa0_3⟩
     replace heq:=ht3
     refine Sa 0 ?_
     obtain ⟨x10,hx10,heq⟩:=bind_some heq
     obtain ⟨ha11,cs11,hK11,hcc11⟩:=ho1.get hx10
     obtain rfl:cs11=[.string x10]:=hK11
     refine Zv 5 [nx ha11 hx10,el hcc11 0 0] ?_
     rcases bool_cases (sEq x10 ({ data:=#[101,110,116,114,121] }:ByteArray)) with hb10 | hb10
     ·replace heq:=bif_true hb10 heq
      refine Zs 108 (congrArg Value.bool hb10)<|Zk 10 ?_
      obtain rfl:=Option.some.inj heq
      refine Dn ?_
      exact Gt 4 [0,1,2,3] (K10 _ hoa0_2 hoa0_3 ho1)
     ·replace heq:=bif_false hb10 heq
      refine Zs 108 (congrArg Value.bool hb10)<|Zk 10 ?_
      obtain rfl:=Option.some.inj heq
      refine Dn ?_
      exact Gt 4 [0,1,2,3] (K10 _ hoa0_2 hoa0_3 ho1)
   replace heq:=ht2
   refine Sa 0 ?_
   obtain ⟨x4,hx4,heq⟩:=bind_some heq
   obtain ⟨ha5,cs5,hK5,hcc5⟩:=ho1.get hx4
   obtain rfl:cs5=[.string x4]:=hK5
   refine Zv 5 [nx ha5 hx4,el hcc5 0 0] ?_
   rcases bool_cases (sEq x4 ({ data:=#[98,108,111,98] }:ByteArray)) with hb6 | hb6
   ·replace heq:=bif_true hb6 heq
    refine Zs 57 (congrArg Value.bool hb6)<|Zk 10 ?_
    rcases bool_cases ((y1.length:Int) == 6) with hb7 | hb7
    ·replace heq:=bif_true hb7 heq
     refine Zs 62 (congrArg Value.bool hb7)<|Zv 18 [bx 1 3] ?_
     obtain rfl:=Option.some.inj heq
     refine Dn ?_
     exact Gt 4 [0,1,2,3] (K7 _ hoa0_2 hoa0_3 ho1)
    ·replace heq:=bif_false hb7 heq
     refine Zs 62 (congrArg Value.bool hb7)<|Zk 18 ?_
     obtain rfl:=Option.some.inj heq
     refine Dn ?_
     exact Gt 4 [0,1,2,3] (K7 _ hoa0_2 hoa0_3 ho1)
   ·replace heq:=bif_false hb6 heq
    refine Zs 57 (congrArg Value.bool hb6)<|Zk 18 ?_
    obtain rfl:=Option.some.inj heq
    refine Dn ?_
    exact Gt 4 [0,1,2,3] (K7 _ hoa0_2 hoa0_3 ho1)
noncomputable def C5:Ctx:={ P:=Tryd.prog,f:=5,N:=48,c:=bodyOf Tryd.f5 }
def S5 (F:List Ch) (H0:Hp) (r:Cache × Int × Int) (v:Value) (H:Hp) (cs:List Ch):Prop:=∃ (A0_2:Option Addr) (c0_2:Nat) (ch0_2:Ch) (A0_3:Option Addr) (c0_3:Nat) (ch0_3:Ch),v=.tuple #[.agg #[iv r.1.Room,iv r.1.Lease,.slice A0_2 r.1.Blobs.length c0_2,.slice A0_3 r.1.Entries.length c0_3],iv r.2.1,iv r.2.2]∧ch0_2::ch0_3::F=cs∧SlOwn kBlob 48 H A0_2 c0_2 r.1.Blobs ch0_2∧SlOwn kEntry 50 H A0_3 c0_3 r.1.Entries ch0_3
theorem cache_Read.e1_c [Wz w0] {r:Cache × Int × Int}:∀ (H:Hp) (g1 g2:Nat) (v_c5_0 v_c5_1:Int) (v_c5_2:List Blob) (Av_c5_2:Option Addr) (nv_c5_2 cv_c5_2:Nat) (chv_c5_2:Ch) (v_c5_3:List Entry) (Av_c5_3:Option Addr) (nv_c5_3 cv_c5_3:Nat) (chv_c5_3:Ch) ,SlOwn kBlob 48 H Av_c5_2 cv_c5_2 v_c5_2 chv_c5_2→nv_c5_2=v_c5_2.length→SlOwn kEntry 50 H Av_c5_3 cv_c5_3 v_c5_3 chv_c5_3→nv_c5_3=v_c5_3.length→cache_Read.e1 v_c5_0 v_c5_1 v_c5_2 v_c5_3=some r→RunH C5 (S5 F H0 r) H0 w0 [.c [1,1,1,1,0,0],.c [1,1,1,1,0,1],.c [1,1,1,1,1]] [(2,pg g1 0),(5,pg g2 0)] H (chv_c5_2::chv_c5_3::(some (g2,.cells #[iv v_c5_0,iv v_c5_1,.slice Av_c5_2 nv_c5_2 cv_c5_2,.slice Av_c5_3 nv_c5_3 cv_c5_3] 25 (0,0)))::(some (g1,.cells #[iv 0,iv 0,.slice none 0 0,.slice none 0 0] 25 (0,0)))::F):=by
 intro H g1 g2 v_c5_0 v_c5_1 v_c5_2 Av_c5_2 nv_c5_2 cv_c5_2 chv_c5_2 v_c5_3 Av_c5_3 nv_c5_3 cv_c5_3 chv_c5_3 hov_c5_2 hnv_c5_2 hov_c5_3 hnv_c5_3 heq
 subst hnv_c5_2
 subst hnv_c5_3
 unfold cache_Read.e1 at heq
 refine Sa 0<|Zv 1 (bxs 2) ?_
 obtain ⟨y1,hy1,heq⟩:=bind_some heq
 refine RgH.does (cal 42 (cache_CheckCache_c hy1 (hov_c5_2.rw (.head _)) hov_c5_2.cap rfl (hov_c5_3.rw (.tail _ (.head _))) hov_c5_3.cap rfl)) ?_
 rintro _ _ _ _ ⟨_,rfl,rfl,rfl,rfl⟩
 refine Zd 3<|Sa 1<|Zd 2 ?_
 refine Cb heq ?_ ?_
 ·intro hb2 heq
  refine Sa 1<|Zk 2 ?_
  refine RgH.does (DoesH.store (k:=3) (g:=g1) (off:=0) (v:=.agg #[iv 0,iv 0,.slice none 0 0,.slice none 0 0]) (cells':=#[iv 0,iv 0,.slice none 0 0,.slice none 0 0]) (by kernel_rfl) rfl (by kernel_rfl) (by kernel_rfl)) ?_
  rintro _ _ _ _ ⟨rfl,rfl,rfl⟩
  refine Zd 5<|RunH.nilc ?_
  have ho3:SlOwn kBlob 48 H none 0 ([]:List Blob) none:=SlOwn.nil
  refine RunH.nilc ?_
  have ho4:SlOwn kEntry 50 H none 0 ([]:List Entry) none:=SlOwn.nil
  obtain rfl:=Option.some.inj heq
  refine Up 6 [5,1,0] ?_
  exact RunH.doneM' 1 (vs:=[.agg #[iv 0,iv 0,.slice none 0 0,.slice none 0 0],iv 0,iv y1]) (v:=.tuple #[.agg #[iv 0,iv 0,.slice none 0 0,.slice none 0 0],iv 0,iv y1]) (by kernel_rfl) Tryd.func5 (fun w hh=>show ResAll _ _ _ [.cell 2 25,.tmp 3,.tmp 4] _ from ⟨⟨⟨g1,0,none⟩,by kernel_rfl,trS_run _ (vs:=[iv 0,iv 0,.slice none 0 0,.slice none 0 0]) (r:=[]) (es:=[.load ⟨g1,0,none⟩ (iv 0),.load ⟨g1,1,none⟩ (iv 0),.load ⟨g1,2,none⟩ (.slice none 0 0),.load ⟨g1,3,none⟩ (.slice none 0 0)]) (by kernel_rfl) ⟨(hh.box 0 rfl rfl),(hh.box 0 rfl rfl),(hh.box 0 rfl rfl),(hh.box 0 rfl rfl)⟩⟩,(show lk _ _=some _ by kernel_rfl),(show lk _ _=some _ by kernel_rfl),trivial⟩) rfl (cs':=none::none::F) rfl ⟨none,0,none,none,0,none,rfl,rfl,ho3,ho4⟩
 ·intro hb2 heq
  refine Sa 2<|Zv 1 (bxs 2) ?_
  refine RgH.does (DoesH.store (k:=3) (g:=g1) (off:=0) (v:=.agg #[iv v_c5_0,iv v_c5_1,.slice Av_c5_2 v_c5_2.length cv_c5_2,.slice Av_c5_3 v_c5_3.length cv_c5_3]) (cells':=#[iv v_c5_0,iv v_c5_1,.slice Av_c5_2 v_c5_2.length cv_c5_2,.slice Av_c5_3 v_c5_3.length cv_c5_3]) (by kernel_rfl) rfl (by kernel_rfl) (by kernel_rfl)) ?_
  rintro _ _ _ _ ⟨rfl,rfl,rfl⟩
  refine Zd 4 ?_
  obtain rfl:=Option.some.inj heq
  refine Up 4 [3,0,1] ?_
  exact RunH.doneM' 1 (vs:=[.agg #[iv v_c5_0,iv v_c5_1,.slice Av_c5_2 v_c5_2.length cv_c5_2,.slice Av_c5_3 v_c5_3.length cv_c5_3],iv 0,iv 0]) (v:=.tuple #[.agg #[iv v_c5_0,iv v_c5_1,.slice Av_c5_2 v_c5_2.length cv_c5_2,.slice Av_c5_3 v_c5_3.length cv_c5_3],iv 0,iv 0]) (by kernel_rfl) Tryd.func5 (fun w hh=>show ResAll _ _ _ [.cell 2 25,.tmp 3,.tmp 4] _ from ⟨⟨⟨g1,0,none⟩,by kernel_rfl,trS_run _ (vs:=[iv v_c5_0,iv v_c5_1,.slice Av_c5_2 v_c5_2.length cv_c5_2,.slice Av_c5_3 v_c5_3.length cv_c5_3]) (r:=[]) (es:=[.load ⟨g1,0,none⟩ (iv v_c5_0),.load ⟨g1,1,none⟩ (iv v_c5_1),.load ⟨g1,2,none⟩ (.slice Av_c5_2 v_c5_2.length cv_c5_2),.load ⟨g1,3,none⟩ (.slice Av_c5_3 v_c5_3.length cv_c5_3)]) (by kernel_rfl) ⟨(hh.box 0 rfl rfl),(hh.box 0 rfl rfl),(hh.box 0 rfl rfl),(hh.box 0 rfl rfl)⟩⟩,(show lk _ _=some _ by kernel_rfl),(show lk _ _=some _ by kernel_rfl),trivial⟩) rfl (cs':=chv_c5_2::chv_c5_3::F) rfl ⟨Av_c5_2,cv_c5_2,chv_c5_2,Av_c5_3,cv_c5_3,chv_c5_3,rfl,rfl,hov_c5_2,hov_c5_3⟩
theorem cache_Read.l2_c [Wz w0] {r:Cache × Int × Int} (e1:Int→Int→(List Blob)→(List Entry)→Option (Cache × Int × Int))
  (he1:∀ (H:Hp) (g1 g2:Nat) (v_c5_0 v_c5_1:Int) (v_c5_2:List Blob) (Av_c5_2:Option Addr) (nv_c5_2 cv_c5_2:Nat) (chv_c5_2:Ch) (v_c5_3:List Entry) (Av_c5_3:Option Addr) (nv_c5_3 cv_c5_3:Nat) (chv_c5_3:Ch) ,SlOwn kBlob 48 H Av_c5_2 cv_c5_2 v_c5_2 chv_c5_2→nv_c5_2=v_c5_2.length→SlOwn kEntry 50 H Av_c5_3 cv_c5_3 v_c5_3 chv_c5_3→nv_c5_3=v_c5_3.length→e1 v_c5_0 v_c5_1 v_c5_2 v_c5_3=some r→RunH C5 (S5 F H0 r) H0 w0 [.c [1,1,1,1,0,0],.c [1,1,1,1,0,1],.c [1,1,1,1,1]] [(2,pg g1 0),(5,pg g2 0)] H (chv_c5_2::chv_c5_3::(some (g2,.cells #[iv v_c5_0,iv v_c5_1,.slice Av_c5_2 nv_c5_2 cv_c5_2,.slice Av_c5_3 nv_c5_3 cv_c5_3] 25 (0,0)))::(some (g1,.cells #[iv 0,iv 0,.slice none 0 0,.slice none 0 0] 25 (0,0)))::F)):∀ (k:Nat),∀ (H:Hp) (g1 g2:Nat) (v_text0:ByteArray) (v_c5_0 v_c5_1:Int) (v_c5_2:List Blob) (Av_c5_2:Option Addr) (nv_c5_2 cv_c5_2:Nat) (chv_c5_2:Ch) (v_c5_3:List Entry) (Av_c5_3:Option Addr) (nv_c5_3 cv_c5_3:Nat) (chv_c5_3:Ch) (v_i6:Int) ,SlOwn kBlob 48 H Av_c5_2 cv_c5_2 v_c5_2 chv_c5_2→nv_c5_2=v_c5_2.length→SlOwn kEntry 50 H Av_c5_3 cv_c5_3 v_c5_3 chv_c5_3→nv_c5_3=v_c5_3.length→cache_Read.l2 e1 k v_text0 v_c5_0 v_c5_1 v_c5_2 v_c5_3 v_i6=some r→RunH C5 (S5 F H0 r) H0 w0 [.c [1,1,1,0,1,0,0],.l [1,1,1,0,1,0,0],.b 0,.c [1,1,1,1]] [(0,.string v_text0),(2,pg g1 0),(5,pg g2 0),(6,iv v_i6)] H (chv_c5_2::chv_c5_3::(some (g2,.cells #[iv v_c5_0,iv v_c5_1,.slice Av_c5_2 nv_c5_2 cv_c5_2,.slice Av_c5_3 nv_c5_3 cv_c5_3] 25 (0,0)))::(some (g1,.cells #[iv 0,iv 0,.slice none 0 0,.slice none 0 0] 25 (0,0)))::F):=by
 intro k
 induction k with
 | zero=>intro H g1 g2 v_text0 v_c5_0 v_c5_1 v_c5_2 Av_c5_2 nv_c5_2 cv_c5_2 chv_c5_2 v_c5_3 Av_c5_3 nv_c5_3 cv_c5_3 chv_c5_3 v_i6 hov_c5_2 hnv_c5_2 hov_c5_3 hnv_c5_3 heq; exact nomatch (show (none:Option (Cache × Int × Int))=some r from heq)
 | succ k ihk =>
  intro H g1 g2 v_text0 v_c5_0 v_c5_1 v_c5_2 Av_c5_2 nv_c5_2 cv_c5_2 chv_c5_2 v_c5_3 Av_c5_3 nv_c5_3 cv_c5_3 chv_c5_3 v_i6 hov_c5_2 hnv_c5_2 hov_c5_3 hnv_c5_3 heq
  subst hnv_c5_2
  subst hnv_c5_3
  rw [cache_Read.l2] at heq
  refine An 2 ?_
  obtain ⟨t1,ht1,heq⟩:=bind_some heq
  have K11:∀ (H:Hp),SlOwn kBlob 48 H Av_c5_2 cv_c5_2 v_c5_2 chv_c5_2→SlOwn kEntry 50 H Av_c5_3 cv_c5_3 v_c5_3 chv_c5_3→RunH C5 (S5 F H0 r) H0 w0 [.c [1,1,1,0,1,0,0,0,1],.c [1,1,1,0,1,0,0,1],.l [1,1,1,0,1,0,0],.b 0,.c [1,1,1,1]] [(0,.string v_text0),(2,pg g1 0),(5,pg g2 0),(6,iv v_i6),(20,.bool t1)] H (chv_c5_2::chv_c5_3::(some (g2,.cells #[iv v_c5_0,iv v_c5_1,.slice Av_c5_2 v_c5_2.length cv_c5_2,.slice Av_c5_3 v_c5_3.length cv_c5_3] 25 (0,0)))::(some (g1,.cells #[iv 0,iv 0,.slice none 0 0,.slice none 0 0] 25 (0,0)))::F):=by
   intro H hov_c5_2 hov_c5_3
   refine Cb heq ?_ ?_
   ·intro hb4 heq
    refine Sa 4<|Zk 1 ?_
    obtain ⟨y2,hy2,heq⟩:=bind_some heq
    refine RgH.does (cal 25 (strings_Cut_c hy2 )) ?_
    rintro _ _ _ _ ⟨_,rfl,rfl,rfl,rfl⟩
    refine Zd 9<|An 2 ?_
    obtain ⟨t2,ht2,heq⟩:=bind_some heq
    have K16:∀ (H:Hp),∀ (Av_c5_2m:Option Addr),∀ (nv_c5_2m:Nat),∀ (cv_c5_2m:Nat),∀ (chv_c5_2m:Ch),∀ (Av_c5_3m:Option Addr),∀ (nv_c5_3m:Nat),∀ (cv_c5_3m:Nat),∀ (chv_c5_3m:Ch),SlOwn kBlob 48 H Av_c5_2m cv_c5_2m t2.2.2.1 chv_c5_2m→nv_c5_2m=t2.2.2.1.length→SlOwn kEntry 50 H Av_c5_3m cv_c5_3m t2.2.2.2.1 chv_c5_3m→nv_c5_3m=t2.2.2.2.1.length→RunH C5 (S5 F H0 r) H0 w0 [.c [1,1,1,0,1,0,0,1,0,0,1,0,1],.c [1,1,1,0,1,0,0,1,0,0,1,1],.b 1,.c [1,1,1,0,1,0,0,1,1],.l [1,1,1,0,1,0,0],.b 0,.c [1,1,1,1]] [(2,pg g1 0),(5,pg g2 0),(6,iv v_i6),(8,.string y2.2.1),(36,.bool t2.2.2.2.2)] H (chv_c5_2m::chv_c5_3m::(some (g2,.cells #[iv t2.1,iv t2.2.1,.slice Av_c5_2m nv_c5_2m cv_c5_2m,.slice Av_c5_3m nv_c5_3m cv_c5_3m] 25 (0,0)))::(some (g1,.cells #[iv 0,iv 0,.slice none 0 0,.slice none 0 0] 25 (0,0)))::F):=by
     intro H Av_c5_2m nv_c5_2m cv_c5_2m chv_c5_2m Av_c5_3m nv_c5_3m cv_c5_3m chv_c5_3m hov_c5_2m hnv_c5_2m hov_c5_3m hnv_c5_3m
     subst hnv_c5_2m
     subst hnv_c5_3m
     refine Cb heq ?_ ?_
     ·intro hb6 heq
      refine Sa 1<|Zk 3 ?_
      refine RgH.does (DoesH.store (k:=3) (g:=g1) (off:=0) (v:=.agg #[iv 0,iv 0,.slice none 0 0,.slice none 0 0]) (cells':=#[iv 0,iv 0,.slice none 0 0,.slice none 0 0]) (by kernel_rfl) rfl (by kernel_rfl) (by kernel_rfl)) ?_
      rintro _ _ _ _ ⟨rfl,rfl,rfl⟩
      refine Zd 6<|RunH.nilc ?_
      have ho7:SlOwn kBlob 48 H none 0 ([]:List Blob) none:=SlOwn.nil
      refine RunH.nilc ?_
      have ho8:SlOwn kEntry 50 H none 0 ([]:List Entry) none:=SlOwn.nil
      obtain rfl:=Option.some.inj heq
      refine Up 6 [5,1,0] ?_
      exact RunH.doneM' 1 (vs:=[.agg #[iv 0,iv 0,.slice none 0 0,.slice none 0 0],iv (w64 (v_i6+1)),iv 10]) (v:=.tuple #[.agg #[iv 0,iv 0,.slice none 0 0,.slice none 0 0],iv (w64 (v_i6+1)),iv 10]) (by kernel_rfl) Tryd.func5 (fun w hh=>show ResAll _ _ _ [.cell 2 25,.tmp 3,.tmp 4] _ from ⟨⟨⟨g1,0,none⟩,by kernel_rfl,trS_run _ (vs:=[iv 0,iv 0,.slice none 0 0,.slice none 0 0]) (r:=[]) (es:=[.load ⟨g1,0,none⟩ (iv 0),.load ⟨g1,1,none⟩ (iv 0),.load ⟨g1,2,none⟩ (.slice none 0 0),.load ⟨g1,3,none⟩ (.slice none 0 0)]) (by kernel_rfl) ⟨(hh.box 0 rfl rfl),(hh.box 0 rfl rfl),(hh.box 0 rfl rfl),(hh.box 0 rfl rfl)⟩⟩,(show lk _ _=some _ by kernel_rfl),(show lk _ _=some _ by kernel_rfl),trivial⟩) rfl (cs':=none::none::F) rfl ⟨none,0,none,none,0,none,rfl,rfl,ho7,ho8⟩
     ·intro hb6 heq
      refine Sa 1<|Zd 2<|Sa 1<|Zd 3<|An 1 ?_
      exact Gt 4 [0,1,2,3] (ihk _ _ _ y2.2.1 t2.1 t2.2.1 t2.2.2.1 _ _ _ _ t2.2.2.2.1 _ _ _ _ (w64 (v_i6+1)) hov_c5_2m rfl hov_c5_3m rfl heq)
    replace heq:=ht2
    refine Sa 0<|Zk 3 ?_
    rcases bool_cases (!y2.2.2) with hb5 | hb5
    ·replace heq:=bif_true hb5 heq
     refine Zs 31 (congrArg Value.bool hb5)<|Zk 8 ?_
     obtain rfl:=Option.some.inj heq
     refine Dn ?_
     exact Gt 4 [0,1,2,3] (K16 _ _ _ _ _ _ _ _ _ hov_c5_2 rfl hov_c5_3 rfl)
    ·replace heq:=bif_false hb5 heq
     refine Zs 31 (congrArg Value.bool hb5)<|Zk 5<|Ug 4 [2,0,1,3] ?_
     obtain ⟨y3,hy3,heq⟩:=bind_some heq
     refine RgH.does (cal 34 (cache_line_c hy3 hov_c5_2 rfl hov_c5_3 rfl)) ?_
     rintro _ H _ hl ⟨_,rfl,A1,c1,ch1,A2,c2,ch2,rfl,rfl,ho5,ho6⟩
     replace hov_c5_2:=hov_c5_2.mono hl
     replace hov_c5_3:=hov_c5_3.mono hl
     refine Zk 8 ?_
     obtain rfl:=Option.some.inj heq
     refine Dn ?_
     exact Gt 4 [1,2,0,3] (K16 _ _ _ _ _ _ _ _ _ ho5 rfl ho6 rfl)
   ·intro hb4 heq
    refine An 3 ?_
    exact Gt 4 [0,1,2,3] (he1 _ _ _ v_c5_0 v_c5_1 v_c5_2 _ _ _ _ v_c5_3 _ _ _ _ hov_c5_2 rfl hov_c5_3 rfl heq)
  replace heq:=ht1
  refine Sa 0<|Zk 3 ?_
  rcases bool_cases (v_i6 == 0) with hb3 | hb3
  ·replace heq:=bif_true hb3 heq
   refine Zs 17 (congrArg Value.bool hb3)<|Zk 6 ?_
   obtain rfl:=Option.some.inj heq
   refine Dn ?_
   exact Gt 4 [0,1,2,3] (K11 _ hov_c5_2 hov_c5_3)
  ·replace heq:=bif_false hb3 heq
   refine Zs 17 (congrArg Value.bool hb3)<|Zk 6 ?_
   obtain rfl:=Option.some.inj heq
   refine Dn ?_
   exact Gt 4 [0,1,2,3] (K11 _ hov_c5_2 hov_c5_3)
theorem cache_Read_c [Wz w0] {a0:ByteArray} {r:Cache × Int × Int} (heq:cache_Read.f a0=some r):CallsH Tryd.prog 5 #[.string a0] H0 w0 (F) (S5 F H0 r):=by
 refine Co C5 Tryd.func5 Tryd.ntmps5 ?_
 unfold cache_Read.f at heq
 suffices key:∀ (H:Hp),RunH C5 (S5 F H0 r) H0 w0 [.c []] (argL 0 [.string a0]) H (F) from key H0
 intro H
 refine Sa 1 ?_
 refine RgH.does (DoesH.new (d:=2) (v:=fun g=>.pointer (some ⟨g,0,none⟩)) (o:=fun g=>.cells #[iv 0,iv 0,.slice none 0 0,.slice none 0 0] 25 (0,0)) (fun g=>by kernel_rfl)) ?_
 rintro _ _ _ _ ⟨g1,rfl,rfl,rfl⟩
 refine Zd 3<|Sa 2<|Zd 3 ?_
 refine Cb heq ?_ ?_
 ·intro hb1 heq
  refine Sa 1<|Zk 1 ?_
  refine RgH.does (DoesH.store (k:=0) (g:=g1) (off:=0) (v:=.agg #[iv 0,iv 0,.slice none 0 0,.slice none 0 0]) (cells':=#[iv 0,iv 0,.slice none 0 0,.slice none 0 0]) (by kernel_rfl) rfl (by kernel_rfl) (by kernel_rfl)) ?_
  rintro _ _ _ _ ⟨rfl,rfl,rfl⟩
  refine Zd 4<|RunH.nilc ?_
  have ho1:SlOwn kBlob 48 H none 0 ([]:List Blob) none:=SlOwn.nil
  refine RunH.nilc ?_
  have ho2:SlOwn kEntry 50 H none 0 ([]:List Entry) none:=SlOwn.nil
  obtain rfl:=Option.some.inj heq
  refine Up 3 [2,1,0] ?_
  exact RunH.doneM' 1 (vs:=[.agg #[iv 0,iv 0,.slice none 0 0,.slice none 0 0],iv 0,iv 2]) (v:=.tuple #[.agg #[iv 0,iv 0,.slice none 0 0,.slice none 0 0],iv 0,iv 2]) (by kernel_rfl) Tryd.func5 (fun w hh=>show ResAll _ _ _ [.cell 2 25,.tmp 3,.tmp 4] _ from ⟨⟨⟨g1,0,none⟩,by kernel_rfl,trS_run _ (vs:=[iv 0,iv 0,.slice none 0 0,.slice none 0 0]) (r:=[]) (es:=[.load ⟨g1,0,none⟩ (iv 0),.load ⟨g1,1,none⟩ (iv 0),.load ⟨g1,2,none⟩ (.slice none 0 0),.load ⟨g1,3,none⟩ (.slice none 0 0)]) (by kernel_rfl) ⟨(hh.box 0 rfl rfl),(hh.box 0 rfl rfl),(hh.box 0 rfl rfl),(hh.box 0 rfl rfl)⟩⟩,(show lk _ _=some _ by kernel_rfl),(show lk _ _=some _ by kernel_rfl),trivial⟩) rfl (cs':=none::none::F) rfl ⟨none,0,none,none,0,none,rfl,rfl,ho1,ho2⟩
 ·intro hb1 heq
  refine Sa 2 ?_
  refine RgH.does (DoesH.new (d:=5) (v:=fun g=>.pointer (some ⟨g,0,none⟩)) (o:=fun g=>.cells #[iv 0,iv 0,.slice none 0 0,.slice none 0 0] 25 (0,0)) (fun g=>by kernel_rfl)) ?_
  rintro _ _ _ _ ⟨g2,rfl,rfl,rfl⟩
  refine Dn<|Sa 2<|Zd 1<|An 2<|RunH.nilc ?_
  have ho9:SlOwn kBlob 48 H none 0 ([]:List Blob) none:=SlOwn.nil
  refine RunH.nilc ?_
  have ho10:SlOwn kEntry 50 H none 0 ([]:List Entry) none:=SlOwn.nil
  exact Gt 4 [1,0,2,3] (((cache_Read.l2_c (e1:=cache_Read.e1) (cache_Read.e1_c)) big) _ _ _ a0 0 0 ([]:List Blob) _ _ _ _ ([]:List Entry) _ _ _ _ 0 ho9 rfl ho10 rfl heq)
noncomputable def C18:Ctx:={ P:=Tryd.prog,f:=18,N:=18,c:=bodyOf Tryd.f18 }
def S18 (F:List Ch) (H0:Hp) (r:Cache × Int) (v:Value) (H:Hp) (cs:List Ch):Prop:=∃ (A0_2:Option Addr) (c0_2:Nat) (ch0_2:Ch) (A0_3:Option Addr) (c0_3:Nat) (ch0_3:Ch),H0=H∧v=.tuple #[.agg #[iv r.1.Room,iv r.1.Lease,.slice A0_2 r.1.Blobs.length c0_2,.slice A0_3 r.1.Entries.length c0_3],iv r.2]∧ch0_2::ch0_3::F=cs∧SlOwn kBlob 48 H A0_2 c0_2 r.1.Blobs ch0_2∧SlOwn kEntry 50 H A0_3 c0_3 r.1.Entries ch0_3
theorem cache_New_c [Wz w0] {a0 a1:Int} {r:Cache × Int} (heq:cache_New.f a0 a1=some r):CallsH Tryd.prog 18 #[iv a0,iv a1] H w0 (F) (S18 F H r):=by
 refine Co C18 Tryd.func18 Tryd.ntmps18 ?_
 unfold cache_New.f at heq
 refine Sa 1 ?_
 refine RgH.does (DoesH.new (d:=4) (v:=fun g=>.pointer (some ⟨g,0,none⟩)) (o:=fun g=>.cells #[iv 0,iv 0,.slice none 0 0,.slice none 0 0] 25 (0,0)) (fun g=>by kernel_rfl)) ?_
 rintro _ _ _ _ ⟨g1,rfl,rfl,rfl⟩
 refine Zd 2<|Sa 1<|Zk 3 ?_
 refine RgH.does (DoesH.new (d:=6) (v:=fun g=>.pointer (some ⟨g,0,none⟩)) (o:=fun g=>.cells #[iv 0,iv 0,.slice none 0 0,.slice none 0 0] 25 (0,0)) (fun g=>by kernel_rfl)) ?_
 rintro _ _ _ _ ⟨g2,rfl,rfl,rfl⟩
 refine RgH.does (DoesH.store (k:=0) (g:=g2) (off:=0) (v:=.agg #[iv a0,iv a1,.slice none 0 0,.slice none 0 0]) (cells':=#[iv a0,iv a1,.slice none 0 0,.slice none 0 0]) (by kernel_rfl) rfl (by kernel_rfl) (by kernel_rfl)) ?_
 rintro _ _ _ _ ⟨rfl,rfl,rfl⟩
 refine Dn<|Sa 2<|Zv 1 (bxs 0) ?_
 obtain ⟨y1,hy1,heq⟩:=bind_some heq
 refine RgH.does (cal 12 (cache_CheckCache_c hy1 (Rw.nil (A:=none)) (Nat.le_refl _) rfl (Rw.nil (A:=none)) (Nat.le_refl _) rfl)) ?_
 rintro _ _ _ _ ⟨_,rfl,rfl,rfl,rfl⟩
 refine Zd 3<|Sa 1<|Zd 2 ?_
 refine Cb heq ?_ ?_
 ·intro hb1 heq
  refine Sa 1<|Zk 2 ?_
  refine RgH.does (DoesH.store (k:=1) (g:=g1) (off:=0) (v:=.agg #[iv 0,iv 0,.slice none 0 0,.slice none 0 0]) (cells':=#[iv 0,iv 0,.slice none 0 0,.slice none 0 0]) (by kernel_rfl) rfl (by kernel_rfl) (by kernel_rfl)) ?_
  rintro _ _ _ _ ⟨rfl,rfl,rfl⟩
  refine Zd 4<|RunH.nilc ?_
  have ho1:SlOwn kBlob 48 H none 0 ([]:List Blob) none:=SlOwn.nil
  refine RunH.nilc ?_
  have ho2:SlOwn kEntry 50 H none 0 ([]:List Entry) none:=SlOwn.nil
  obtain rfl:=Option.some.inj heq
  refine Up 4 [3,1,0] ?_
  exact RunH.doneM' 1 (vs:=[.agg #[iv 0,iv 0,.slice none 0 0,.slice none 0 0],iv y1]) (v:=.tuple #[.agg #[iv 0,iv 0,.slice none 0 0,.slice none 0 0],iv y1]) (by kernel_rfl) Tryd.func18 (fun w hh=>show ResAll _ _ _ [.cell 4 25,.tmp 5] _ from ⟨⟨⟨g1,0,none⟩,by kernel_rfl,trS_run _ (vs:=[iv 0,iv 0,.slice none 0 0,.slice none 0 0]) (r:=[]) (es:=[.load ⟨g1,0,none⟩ (iv 0),.load ⟨g1,1,none⟩ (iv 0),.load ⟨g1,2,none⟩ (.slice none 0 0),.load ⟨g1,3,none⟩ (.slice none 0 0)]) (by kernel_rfl) ⟨(hh.box 0 rfl rfl),(hh.box 0 rfl rfl),(hh.box 0 rfl rfl),(hh.box 0 rfl rfl)⟩⟩,(show lk _ _=some _ by kernel_rfl),trivial⟩) rfl (cs':=none::none::F) rfl ⟨none,0,none,none,0,none,rfl,rfl,rfl,ho1,ho2⟩
 ·intro hb1 heq
  refine Sa 2<|Zv 1 (bxs 0) ?_
  refine RgH.does (DoesH.store (k:=1) (g:=g1) (off:=0) (v:=.agg #[iv a0,iv a1,.slice none 0 0,.slice none 0 0]) (cells':=#[iv a0,iv a1,.slice none 0 0,.slice none 0 0]) (by kernel_rfl) rfl (by kernel_rfl) (by kernel_rfl)) ?_
  rintro _ _ _ _ ⟨rfl,rfl,rfl⟩
  refine Zd 3<|RunH.nilc ?_
  have ho3:SlOwn kBlob 48 H none 0 ([]:List Blob) none:=SlOwn.nil
  refine RunH.nilc ?_
  have ho4:SlOwn kEntry 50 H none 0 ([]:List Entry) none:=SlOwn.nil
  obtain rfl:=Option.some.inj heq
  refine Up 4 [3,1,0] ?_
  exact RunH.doneM' 1 (vs:=[.agg #[iv a0,iv a1,.slice none 0 0,.slice none 0 0],iv 0]) (v:=.tuple #[.agg #[iv a0,iv a1,.slice none 0 0,.slice none 0 0],iv 0]) (by kernel_rfl) Tryd.func18 (fun w hh=>show ResAll _ _ _ [.cell 4 25,.tmp 5] _ from ⟨⟨⟨g1,0,none⟩,by kernel_rfl,trS_run _ (vs:=[iv a0,iv a1,.slice none 0 0,.slice none 0 0]) (r:=[]) (es:=[.load ⟨g1,0,none⟩ (iv a0),.load ⟨g1,1,none⟩ (iv a1),.load ⟨g1,2,none⟩ (.slice none 0 0),.load ⟨g1,3,none⟩ (.slice none 0 0)]) (by kernel_rfl) ⟨(hh.box 0 rfl rfl),(hh.box 0 rfl rfl),(hh.box 0 rfl rfl),(hh.box 0 rfl rfl)⟩⟩,(show lk _ _=some _ by kernel_rfl),trivial⟩) rfl (cs':=none::none::F) rfl ⟨none,0,none,none,0,none,rfl,rfl,rfl,ho3,ho4⟩
noncomputable def C7:Ctx:={ P:=Tryd.prog,f:=7,N:=19,c:=bodyOf Tryd.f7 }
def S7 (F:List Ch) (H0:Hp) (r:Bool) (v:Value) (H:Hp) (cs:List Ch):Prop:=H0=H∧v=.bool r∧F=cs
theorem smithyardlaw7_awake_c [Wz w0] {r:Bool} (heq:smithyardlaw7_awake.f=some r):CallsH Tryd.prog 7 (List.toArray []) H w0 (F) (S7 F H r):=by
 refine Co C7 Tryd.func7 Tryd.ntmps7 ?_
 unfold smithyardlaw7_awake.f at heq
 refine Sa 1<|Zd 1<|Sa 1 ?_
 obtain ⟨y1,hy1,heq⟩:=bind_some heq
 refine RgH.does (cal 4 (cache_New_c hy1 )) ?_
 rintro _ _ _ _ ⟨_,rfl,A1,c1,ch1,A2,c2,ch2,rfl,rfl,rfl,ho1,ho2⟩
 refine Zk 4 ?_
 refine RgH.does (DoesH.new (d:=1) (v:=fun g=>.pointer (some ⟨g,0,none⟩)) (o:=fun g=>.cells #[iv 0,iv 0,.slice none 0 0,.slice none 0 0] 25 (0,0)) (fun g=>by kernel_rfl)) ?_
 rintro _ _ _ _ ⟨g1,rfl,rfl,rfl⟩
 refine RgH.does (DoesH.store (k:=0) (g:=g1) (off:=0) (v:=.agg #[iv y1.1.Room,iv y1.1.Lease,.slice A1 y1.1.Blobs.length c1,.slice A2 y1.1.Entries.length c2]) (cells':=#[iv y1.1.Room,iv y1.1.Lease,.slice A1 y1.1.Blobs.length c1,.slice A2 y1.1.Entries.length c2]) (by kernel_rfl) rfl (by kernel_rfl) (by kernel_rfl)) ?_
 rintro _ _ _ _ ⟨rfl,rfl,rfl⟩
 refine Zd 7<|An 1 ?_
 obtain ⟨t1,ht1,heq⟩:=bind_some heq
 have K4:RunH C7 (S7 F H r) H w0 [.c [1,1,1]] [(0,.bool t1)] H (F):=by
  obtain rfl:=Option.some.inj heq
  exact RunH.done (by kernel_rfl) Tryd.func7 (v:=.bool t1) (by kernel_rfl) ⟨rfl,rfl,rfl⟩
 replace heq:=ht1
 refine Sa 0<|Zk 3 ?_
 rcases bool_cases (y1.2 == 0) with hb1 | hb1
 ·replace heq:=bif_true hb1 heq
  refine Zs 9 (congrArg Value.bool hb1)<|Zv 8 [bx 0 0] ?_
  rcases bool_cases (y1.1.Room == 5) with hb2 | hb2
  ·replace heq:=bif_true hb2 heq
   refine Zs 14 (congrArg Value.bool hb2)<|Zv 13 [bx 0 1] ?_
   obtain rfl:=Option.some.inj heq
   refine Dn ?_
   exact Gt 3 [] (K4)
  ·replace heq:=bif_false hb2 heq
   refine Zs 14 (congrArg Value.bool hb2)<|Zk 13 ?_
   obtain rfl:=Option.some.inj heq
   refine Dn ?_
   exact Gt 3 [] (K4)
 ·replace heq:=bif_false hb1 heq
  refine Zs 9 (congrArg Value.bool hb1)<|Zk 13 ?_
  obtain rfl:=Option.some.inj heq
  refine Dn ?_
  exact Gt 3 [] (K4)
noncomputable def C17:Ctx:={ P:=Tryd.prog,f:=17,N:=26,c:=bodyOf Tryd.f17 }
def S17 (F:List Ch) (H0:Hp) (r:Bool) (v:Value) (H:Hp) (cs:List Ch):Prop:=H0=H∧v=.bool r∧F=cs
theorem smithyardref7_sameList.e1_c [Wz w0] {r:Bool}:smithyardref7_sameList.e1=some r→RunH C17 (S17 F H r) H w0 [.c [1,1,1,0],.c [1,1,1,1]] [] H (F):=by
 intro   heq
 unfold smithyardref7_sameList.e1 at heq
 refine Sa 0<|Zd 1 ?_
 obtain rfl:=Option.some.inj heq
 exact RunH.done (by kernel_rfl) Tryd.func17 (v:=.bool true) (by kernel_rfl) ⟨rfl,rfl,rfl⟩
theorem smithyardref7_sameList.l2_c [Wz w0] {r:Bool} (e1:Option Bool)
  (he1:e1=some r→RunH C17 (S17 F H r) H w0 [.c [1,1,1,0],.c [1,1,1,1]] [] H (F)):∀ (k:Nat),∀ (a0:List ByteArray) (Aa0:Option Addr) (ca0:Nat) (a1:List ByteArray) (Aa1:Option Addr) (ca1:Nat) (v_i5:Int) ,Rw Kd.string H F Aa0 a0→a0.length≤ca0→Rw Kd.string H F Aa1 a1→a1.length≤ca1→smithyardref7_sameList.l2 e1 k a0 a1 v_i5=some r→RunH C17 (S17 F H r) H w0 [.c [1,1,0,1,0,0],.l [1,1,0,1,0,0],.b 0,.c [1,1,1]] [(0,.slice Aa0 a0.length ca0),(1,.slice Aa1 a1.length ca1),(5,iv v_i5)] H (F):=by
 intro k
 induction k with
 | zero=>intro a0 Aa0 ca0 a1 Aa1 ca1 v_i5 hra0 hca0 hra1 hca1 heq; exact nomatch (show (none:Option Bool)=some r from heq)
 | succ k ihk =>
  intro a0 Aa0 ca0 a1 Aa1 ca1 v_i5 hra0 hca0 hra1 hca1 heq
  rw [smithyardref7_sameList.l2] at heq
  refine Sa 2<|Zd 4 ?_
  refine Cb heq ?_ ?_
  ·intro hb2 heq
   refine An 4<|Sd 0 9 [] [3,3,3,3,3,3,3,3,3] ?_
   obtain ⟨x1,hx1,heq⟩:=bind_some heq
   obtain ⟨ha1,cs1,hK1,hcc1⟩:=hra0.get hx1
   obtain rfl:cs1=[.string x1]:=hK1
   obtain ⟨x2,hx2,heq⟩:=bind_some heq
   obtain ⟨ha2,cs2,hK2,hcc2⟩:=hra1.get hx2
   obtain rfl:cs2=[.string x2]:=hK2
   refine Zr [0,1,2,3,4,5,6,7,8] 0 [nx ha1 hx1,er hcc1 0 0,nx ha2 hx2,er hcc2 0 0] (Pk 0 []) (Pk 0 []) ?_
   refine DrH.done (by kernel_rfl) ?_
   refine Cb heq ?_ ?_
   ·intro hb3 heq
    refine Sa 1<|Zd 1 ?_
    obtain rfl:=Option.some.inj heq
    exact RunH.done (by kernel_rfl) Tryd.func17 (v:=.bool false) (by kernel_rfl) ⟨rfl,rfl,rfl⟩
   ·intro hb3 heq
    refine Sa 2<|Zd 3<|An 1 ?_
    exact Gt 0 [] (ihk a0 _ _ a1 _ _ (w64 (v_i5+1)) hra0 hca0 hra1 hca1 heq)
  ·intro hb2 heq
   refine An 2 ?_
   exact Gt 0 [] (he1 heq)
theorem smithyardref7_sameList_c [Wz w0] {a0:List ByteArray} {Aa0:Option Addr} {na0 ca0:Nat} {a1:List ByteArray} {Aa1:Option Addr} {na1 ca1:Nat} {r:Bool} (heq:smithyardref7_sameList.f a0 a1=some r) (hra0:Rw Kd.string H F Aa0 a0) (hca0:na0≤ca0) (hna0:na0=a0.length) (hra1:Rw Kd.string H F Aa1 a1) (hca1:na1≤ca1) (hna1:na1=a1.length):CallsH Tryd.prog 17 #[.slice Aa0 na0 ca0,.slice Aa1 na1 ca1] H w0 (F) (S17 F H r):=by
 refine Co C17 Tryd.func17 Tryd.ntmps17 ?_
 subst hna0
 subst hna1
 unfold smithyardref7_sameList.f at heq
 refine Sa 1<|Zd 1<|Sa 2<|Zd 5 ?_
 refine Cb heq ?_ ?_
 ·intro hb1 heq
  refine Sa 1<|Zd 1 ?_
  obtain rfl:=Option.some.inj heq
  exact RunH.done (by kernel_rfl) Tryd.func17 (v:=.bool false) (by kernel_rfl) ⟨rfl,rfl,rfl⟩
 ·intro hb1 heq
  refine Sa 3<|Zd 1<|An 2 ?_
  exact Gt 0 [] (((smithyardref7_sameList.l2_c (e1:=smithyardref7_sameList.e1) (smithyardref7_sameList.e1_c)) big) a0 _ _ a1 _ _ 0 hra0 hca0 hra1 hca1 heq)
noncomputable def C6:Ctx:={ P:=Tryd.prog,f:=6,N:=106,c:=bodyOf Tryd.f6 }
def S6 (F:List Ch) (H0:Hp) (r:Bool) (v:Value) (H:Hp) (cs:List Ch):Prop:=H0=H∧v=.bool r∧F=cs
theorem smithyardref7_Same.e2_c [Wz w0] {r:Bool}:smithyardref7_Same.e2=some r→RunH C6 (S6 F H r) H w0 [.c [1,1,1,1,0],.c [1,1,1,1,1]] [] H (F):=by
 intro   heq
 unfold smithyardref7_Same.e2 at heq
 refine Sa 0<|Zd 1 ?_
 obtain rfl:=Option.some.inj heq
 exact RunH.done (by kernel_rfl) Tryd.func6 (v:=.bool true) (by kernel_rfl) ⟨rfl,rfl,rfl⟩
theorem smithyardref7_Same.l3_c [Wz w0] {r:Bool} (e2:Option Bool)
  (he2:e2=some r→RunH C6 (S6 F H r) H w0 [.c [1,1,1,1,0],.c [1,1,1,1,1]] [] H (F)):∀ (k:Nat),∀ (a0:Cache) (Aa0_2:Option Addr) (ca0_2:Nat) (Aa0_3:Option Addr) (ca0_3:Nat) (a1:Cache) (Aa1_2:Option Addr) (ca1_2:Nat) (Aa1_3:Option Addr) (ca1_3 g1 g2:Nat) (v_i6:Int) ,Rw kBlob H F Aa0_2 a0.Blobs→a0.Blobs.length≤ca0_2→Rw kEntry H F Aa0_3 a0.Entries→a0.Entries.length≤ca0_3→Rw kBlob H F Aa1_2 a1.Blobs→a1.Blobs.length≤ca1_2→Rw kEntry H F Aa1_3 a1.Entries→a1.Entries.length≤ca1_3→smithyardref7_Same.l3 e2 k a0 a1 v_i6=some r→RunH C6 (S6 F H r) H w0 [.c [1,1,1,0,1,0,0],.l [1,1,1,0,1,0,0],.b 2,.c [1,1,1,1]] [(2,pg g1 0),(3,pg g2 0),(6,iv v_i6)] H ((some (g2,.cells #[iv a1.Room,iv a1.Lease,.slice Aa1_2 a1.Blobs.length ca1_2,.slice Aa1_3 a1.Entries.length ca1_3] 25 (0,0)))::(some (g1,.cells #[iv a0.Room,iv a0.Lease,.slice Aa0_2 a0.Blobs.length ca0_2,.slice Aa0_3 a0.Entries.length ca0_3] 25 (0,0)))::F):=by
 intro k
 induction k with
 | zero=>intro a0 Aa0_2 ca0_2 Aa0_3 ca0_3 a1 Aa1_2 ca1_2 Aa1_3 ca1_3 g1 g2 v_i6 hra0_2 hca0_2 hra0_3 hca0_3 hra1_2 hca1_2 hra1_3 hca1_3 heq; exact nomatch (show (none:Option Bool)=some r from heq)
 | succ k ihk =>
  intro a0 Aa0_2 ca0_2 Aa0_3 ca0_3 a1 Aa1_2 ca1_2 Aa1_3 ca1_3 g1 g2 v_i6 hra0_2 hca0_2 hra0_3 hca0_3 hra1_2 hca1_2 hra1_3 hca1_3 heq
  rw [smithyardref7_Same.l3] at heq
  refine Sa 2<|Zw 5 [bx 1 3] ?_
  refine Cb heq ?_ ?_
  ·intro hb5 heq
   refine An 4 ?_
   obtain ⟨t2,ht2,heq⟩:=bind_some heq
   have K4:RunH C6 (S6 F H r) H w0 [.c [1,1,1,0,1,0,0,1,0,0,1],.b 3,.c [1,1,1,0,1,0,0,1,1],.l [1,1,1,0,1,0,0],.b 2,.c [1,1,1,1]] [(2,pg g1 0),(3,pg g2 0),(6,iv v_i6),(105,.bool t2)] H ((some (g2,.cells #[iv a1.Room,iv a1.Lease,.slice Aa1_2 a1.Blobs.length ca1_2,.slice Aa1_3 a1.Entries.length ca1_3] 25 (0,0)))::(some (g1,.cells #[iv a0.Room,iv a0.Lease,.slice Aa0_2 a0.Blobs.length ca0_2,.slice Aa0_3 a0.Entries.length ca0_3] 25 (0,0)))::F):=by
    refine Cb heq ?_ ?_
    ·intro hb8 heq
     refine Sa 1<|Zd 1 ?_
     obtain rfl:=Option.some.inj heq
     refine Up 2 [] ?_
     exact RunH.done (by kernel_rfl) Tryd.func6 (v:=.bool false) (by kernel_rfl) ⟨rfl,rfl,rfl⟩
    ·intro hb8 heq
     refine Sa 2<|Zd 3<|An 1 ?_
     exact Gt 2 [0,1] (ihk a0 _ _ _ _ a1 _ _ _ _ _ _ (w64 (v_i6+1)) hra0_2 hca0_2 hra0_3 hca0_3 hra1_2 hca1_2 hra1_3 hca1_3 heq)
   replace heq:=ht2
   refine Sd 2 44 [0,1] [3,3,3,3,3,3,3,3,3,3,3,3,3,3,3,3,3,3,3,3,3,3,3,3,3,3,3,3,3,3,3,3,3,3,3,3,3,3,3,3,3,0,3,3] ?_
   obtain ⟨x1,hx1,heq⟩:=bind_some heq
   obtain ⟨ha1,cs1,hK1,hcc1⟩:=hra0_3.get hx1
   obtain ⟨A1,c1,rfl,hc1,hr1⟩:=kEntry_open hK1
   obtain ⟨x2,hx2,heq⟩:=bind_some heq
   obtain ⟨ha2,cs2,hK2,hcc2⟩:=hra1_3.get hx2
   obtain ⟨A2,c2,rfl,hc2,hr2⟩:=kEntry_open hK2
   refine Zr [0,1,2,3,4,5,6,7,8,9,10,11,12,13] 30 [bx 1 3,nx ha1 hx1,er hcc1 2 0,bx 0 3,nx ha2 hx2,er hcc2 2 0] (Pk 2 [0,1]) (Pk 2 [0,1]) ?_
   rcases bool_cases (!sEq x1.Key x2.Key) with hb6 | hb6
   ·replace heq:=bif_true hb6 heq
    refine Zu 75 (congrArg Value.bool hb6)<|Zr [14,15,16,17,18,19,20,21,22,23,24,25,26,27,28,29,30,31,32,33,34,35,36,37,38,39,40,41,42,43] 0 [] (Pk 2 [0,1]) (Pk 2 [0,1]) ?_
    obtain rfl:=Option.some.inj heq
    refine DrH.done (by kernel_rfl) ?_
    exact Gt 2 [0,1] (K4)
   ·replace heq:=bif_false hb6 heq
    refine Zu 75 (congrArg Value.bool hb6) ?_
    obtain ⟨ha3,cs3,hK3,hcc3⟩:=hra0_3.get hx1
    obtain ⟨A3,c3,rfl,hc3,hr3⟩:=kEntry_open hK3
    obtain ⟨ha4,cs4,hK4,hcc4⟩:=hra1_3.get hx2
    obtain ⟨A4,c4,rfl,hc4,hr4⟩:=kEntry_open hK4
    refine Zr [14,15,16,17,18,19,20,21,22,23,24,25,26,27,28] 15 [bx 1 3,nx ha3 hx1,er hcc3 2 2,bx 0 3,nx ha4 hx2,er hcc4 2 2] (Pk 2 [0,1]) (Pk 2 [0,1]) ?_
    rcases bool_cases (x1.Used != x2.Used) with hb7 | hb7
    ·replace heq:=bif_true hb7 heq
     refine Zu 90 (congrArg Value.bool hb7)<|Zr [29,30,31,32,33,34,35,36,37,38,39,40,41,42,43] 0 [] (Pk 2 [0,1]) (Pk 2 [0,1]) ?_
     obtain rfl:=Option.some.inj heq
     refine DrH.done (by kernel_rfl) ?_
     exact Gt 2 [0,1] (K4)
    ·replace heq:=bif_false hb7 heq
     refine Zu 90 (congrArg Value.bool hb7) ?_
     obtain ⟨ha5,cs5,hK5,hcc5⟩:=hra0_3.get hx1
     obtain ⟨A5,c5,rfl,hc5,hr5⟩:=kEntry_open hK5
     obtain ⟨ha6,cs6,hK6,hcc6⟩:=hra1_3.get hx2
     obtain ⟨A6,c6,rfl,hc6,hr6⟩:=kEntry_open hK6
     refine Zr [29,30,31,32,33,34,35,36,37,38,39,40] 3 [bx 1 3,nx ha5 hx1,er hcc5 2 1,bx 0 3,nx ha6 hx2,er hcc6 2 1] (Pk 2 [0,1]) (Pk 2 [0,1]) ?_
     obtain ⟨y1,hy1,heq⟩:=bind_some heq
     refine Dz 41 (cal 103 (smithyardref7_sameList_c hy1 (Rw.of hr5) hc5 rfl (Rw.of hr6) hc6 rfl)) ?_
     rintro _ _ _ _ ⟨_,rfl,rfl,rfl,rfl⟩
     refine ⟨fun _ w hh=>⟨fun _=>(Pk 2 [0,1]) w hh,fun _=>(Pk 2 [0,1]) w hh,(fun h=>by cases h)⟩,?_⟩
     refine Zr [42,43] 0 [] (Pk 2 [0,1]) (Pk 2 [0,1]) ?_
     obtain rfl:=Option.some.inj heq
     refine DrH.done (by kernel_rfl) ?_
     exact Gt 2 [0,1] (K4)
  ·intro hb5 heq
   refine An 2 ?_
   exact Gt 2 [] (he2 heq)
theorem smithyardref7_Same.e1_c [Wz w0] {r:Bool}:∀ (a0:Cache) (Aa0_2:Option Addr) (ca0_2:Nat) (Aa0_3:Option Addr) (ca0_3:Nat) (a1:Cache) (Aa1_2:Option Addr) (ca1_2:Nat) (Aa1_3:Option Addr) (ca1_3 g1 g2:Nat) ,Rw kBlob H F Aa0_2 a0.Blobs→a0.Blobs.length≤ca0_2→Rw kEntry H F Aa0_3 a0.Entries→a0.Entries.length≤ca0_3→Rw kBlob H F Aa1_2 a1.Blobs→a1.Blobs.length≤ca1_2→Rw kEntry H F Aa1_3 a1.Entries→a1.Entries.length≤ca1_3→smithyardref7_Same.e1 a0 a1=some r→RunH C6 (S6 F H r) H w0 [.c [1,1,1,0,0],.c [1,1,1,0,1],.c [1,1,1,1]] [(2,pg g1 0),(3,pg g2 0)] H ((some (g2,.cells #[iv a1.Room,iv a1.Lease,.slice Aa1_2 a1.Blobs.length ca1_2,.slice Aa1_3 a1.Entries.length ca1_3] 25 (0,0)))::(some (g1,.cells #[iv a0.Room,iv a0.Lease,.slice Aa0_2 a0.Blobs.length ca0_2,.slice Aa0_3 a0.Entries.length ca0_3] 25 (0,0)))::F):=by
 intro a0 Aa0_2 ca0_2 Aa0_3 ca0_3 a1 Aa1_2 ca1_2 Aa1_3 ca1_3 g1 g2 hra0_2 hca0_2 hra0_3 hca0_3 hra1_2 hca1_2 hra1_3 hca1_3 heq
 unfold smithyardref7_Same.e1 at heq
 refine Sa 0<|Zd 1<|An 2 ?_
 exact Gt 2 [0,1] (((smithyardref7_Same.l3_c (e2:=smithyardref7_Same.e2) (smithyardref7_Same.e2_c)) big) a0 _ _ _ _ a1 _ _ _ _ _ _ 0 hra0_2 hca0_2 hra0_3 hca0_3 hra1_2 hca1_2 hra1_3 hca1_3 heq)
theorem smithyardref7_Same.l4_c [Wz w0] {r:Bool} (e1:Cache→Cache→Option Bool)
  (he1:∀ (a0:Cache) (Aa0_2:Option Addr) (ca0_2:Nat) (Aa0_3:Option Addr) (ca0_3:Nat) (a1:Cache) (Aa1_2:Option Addr) (ca1_2:Nat) (Aa1_3:Option Addr) (ca1_3 g1 g2:Nat) ,Rw kBlob H F Aa0_2 a0.Blobs→a0.Blobs.length≤ca0_2→Rw kEntry H F Aa0_3 a0.Entries→a0.Entries.length≤ca0_3→Rw kBlob H F Aa1_2 a1.Blobs→a1.Blobs.length≤ca1_2→Rw kEntry H F Aa1_3 a1.Entries→a1.Entries.length≤ca1_3→e1 a0 a1=some r→RunH C6 (S6 F H r) H w0 [.c [1,1,1,0,0],.c [1,1,1,0,1],.c [1,1,1,1]] [(2,pg g1 0),(3,pg g2 0)] H ((some (g2,.cells #[iv a1.Room,iv a1.Lease,.slice Aa1_2 a1.Blobs.length ca1_2,.slice Aa1_3 a1.Entries.length ca1_3] 25 (0,0)))::(some (g1,.cells #[iv a0.Room,iv a0.Lease,.slice Aa0_2 a0.Blobs.length ca0_2,.slice Aa0_3 a0.Entries.length ca0_3] 25 (0,0)))::F)):∀ (k:Nat),∀ (a0:Cache) (Aa0_2:Option Addr) (ca0_2:Nat) (Aa0_3:Option Addr) (ca0_3:Nat) (a1:Cache) (Aa1_2:Option Addr) (ca1_2:Nat) (Aa1_3:Option Addr) (ca1_3 g1 g2:Nat) (v_i5:Int) ,Rw kBlob H F Aa0_2 a0.Blobs→a0.Blobs.length≤ca0_2→Rw kEntry H F Aa0_3 a0.Entries→a0.Entries.length≤ca0_3→Rw kBlob H F Aa1_2 a1.Blobs→a1.Blobs.length≤ca1_2→Rw kEntry H F Aa1_3 a1.Entries→a1.Entries.length≤ca1_3→smithyardref7_Same.l4 e1 k a0 a1 v_i5=some r→RunH C6 (S6 F H r) H w0 [.c [1,1,0,1,0,0],.l [1,1,0,1,0,0],.b 0,.c [1,1,1]] [(2,pg g1 0),(3,pg g2 0),(5,iv v_i5)] H ((some (g2,.cells #[iv a1.Room,iv a1.Lease,.slice Aa1_2 a1.Blobs.length ca1_2,.slice Aa1_3 a1.Entries.length ca1_3] 25 (0,0)))::(some (g1,.cells #[iv a0.Room,iv a0.Lease,.slice Aa0_2 a0.Blobs.length ca0_2,.slice Aa0_3 a0.Entries.length ca0_3] 25 (0,0)))::F):=by
 intro k
 induction k with
 | zero=>intro a0 Aa0_2 ca0_2 Aa0_3 ca0_3 a1 Aa1_2 ca1_2 Aa1_3 ca1_3 g1 g2 v_i5 hra0_2 hca0_2 hra0_3 hca0_3 hra1_2 hca1_2 hra1_3 hca1_3 heq; exact nomatch (show (none:Option Bool)=some r from heq)
 | succ k ihk =>
  intro a0 Aa0_2 ca0_2 Aa0_3 ca0_3 a1 Aa1_2 ca1_2 Aa1_3 ca1_3 g1 g2 v_i5 hra0_2 hca0_2 hra0_3 hca0_3 hra1_2 hca1_2 hra1_3 hca1_3 heq
  rw [smithyardref7_Same.l4] at heq
  refine Sa 2<|Zw 5 [bx 1 2] ?_
  refine Cb heq ?_ ?_
  ·intro hb9 heq
   refine An 4<|Sd 2 11 [0,1] [3,3,3,3,3,3,3,3,3,3,3] ?_
   obtain ⟨x3,hx3,heq⟩:=bind_some heq
   obtain ⟨ha7,cs7,hK7,hcc7⟩:=hra0_2.get hx3
   obtain ⟨rfl⟩:=kBlob_open hK7
   obtain ⟨x4,hx4,heq⟩:=bind_some heq
   obtain ⟨ha8,cs8,hK8,hcc8⟩:=hra1_2.get hx4
   obtain ⟨rfl⟩:=kBlob_open hK8
   refine Zr [0,1,2,3,4,5,6,7,8,9,10] 0 ([bx 1 2,nx ha7 hx3]++ers hcc7 2++[bx 0 2,nx ha8 hx4]++ers hcc8 2) (Pk 2 [0,1]) (Pk 2 [0,1]) ?_
   refine DrH.done (by kernel_rfl) ?_
   refine Cb heq ?_ ?_
   ·intro hb10 heq
    refine Sa 1<|Zd 1 ?_
    obtain rfl:=Option.some.inj heq
    refine Up 2 [] ?_
    exact RunH.done (by kernel_rfl) Tryd.func6 (v:=.bool false) (by kernel_rfl) ⟨rfl,rfl,rfl⟩
   ·intro hb10 heq
    refine Sa 2<|Zd 3<|An 1 ?_
    exact Gt 2 [0,1] (ihk a0 _ _ _ _ a1 _ _ _ _ _ _ (w64 (v_i5+1)) hra0_2 hca0_2 hra0_3 hca0_3 hra1_2 hca1_2 hra1_3 hca1_3 heq)
  ·intro hb9 heq
   refine An 3 ?_
   exact Gt 2 [0,1] (he1 a0 _ _ _ _ a1 _ _ _ _ _ _ hra0_2 hca0_2 hra0_3 hca0_3 hra1_2 hca1_2 hra1_3 hca1_3 heq)
theorem smithyardref7_Same_c [Wz w0] {a0:Cache} {Aa0_2:Option Addr} {na0_2 ca0_2:Nat} {Aa0_3:Option Addr} {na0_3 ca0_3:Nat} {a1:Cache} {Aa1_2:Option Addr} {na1_2 ca1_2:Nat} {Aa1_3:Option Addr} {na1_3 ca1_3:Nat} {r:Bool} (heq:smithyardref7_Same.f a0 a1=some r) (hra0_2:Rw kBlob H F Aa0_2 a0.Blobs) (hca0_2:na0_2≤ca0_2) (hna0_2:na0_2=a0.Blobs.length) (hra0_3:Rw kEntry H F Aa0_3 a0.Entries) (hca0_3:na0_3≤ca0_3) (hna0_3:na0_3=a0.Entries.length) (hra1_2:Rw kBlob H F Aa1_2 a1.Blobs) (hca1_2:na1_2≤ca1_2) (hna1_2:na1_2=a1.Blobs.length) (hra1_3:Rw kEntry H F Aa1_3 a1.Entries) (hca1_3:na1_3≤ca1_3) (hna1_3:na1_3=a1.Entries.length):CallsH Tryd.prog 6 #[.agg #[iv a0.Room,iv a0.Lease,.slice Aa0_2 na0_2 ca0_2,.slice Aa0_3 na0_3 ca0_3],.agg #[iv a1.Room,iv a1.Lease,.slice Aa1_2 na1_2 ca1_2,.slice Aa1_3 na1_3 ca1_3]] H w0 (F) (S6 F H r):=by
 refine Co C6 Tryd.func6 Tryd.ntmps6 ?_
 subst hna0_2
 subst hna0_3
 subst hna1_2
 subst hna1_3
 unfold smithyardref7_Same.f at heq
 refine Sa 1 ?_
 refine RgH.does (DoesH.new (d:=2) (v:=fun g=>.pointer (some ⟨g,0,none⟩)) (o:=fun g=>.cells #[iv a0.Room,iv a0.Lease,.slice Aa0_2 a0.Blobs.length ca0_2,.slice Aa0_3 a0.Entries.length ca0_3] 25 (0,0)) (fun g=>by kernel_rfl)) ?_
 rintro _ _ _ _ ⟨g1,rfl,rfl,rfl⟩
 refine RgH.does (DoesH.new (d:=3) (v:=fun g=>.pointer (some ⟨g,0,none⟩)) (o:=fun g=>.cells #[iv a1.Room,iv a1.Lease,.slice Aa1_2 a1.Blobs.length ca1_2,.slice Aa1_3 a1.Entries.length ca1_3] 25 (0,0)) (fun g=>by kernel_rfl)) ?_
 rintro _ _ _ _ ⟨g2,rfl,rfl,rfl⟩
 refine Zd 3<|An 2 ?_
 obtain ⟨t1,ht1,heq⟩:=bind_some heq
 have K3:RunH C6 (S6 F H r) H w0 [.c [1,0,1],.c [1,1]] [(2,pg g1 0),(3,pg g2 0),(36,.bool t1)] H ((some (g2,.cells #[iv a1.Room,iv a1.Lease,.slice Aa1_2 a1.Blobs.length ca1_2,.slice Aa1_3 a1.Entries.length ca1_3] 25 (0,0)))::(some (g1,.cells #[iv a0.Room,iv a0.Lease,.slice Aa0_2 a0.Blobs.length ca0_2,.slice Aa0_3 a0.Entries.length ca0_3] 25 (0,0)))::F):=by
  refine Cb heq ?_ ?_
  ·intro hb4 heq
   refine Sa 1<|Zd 1 ?_
   obtain rfl:=Option.some.inj heq
   refine Up 2 [] ?_
   exact RunH.done (by kernel_rfl) Tryd.func6 (v:=.bool false) (by kernel_rfl) ⟨rfl,rfl,rfl⟩
  ·intro hb4 heq
   refine Sa 3<|Zd 1<|An 2 ?_
   exact Gt 2 [0,1] (((smithyardref7_Same.l4_c (e1:=smithyardref7_Same.e1) (smithyardref7_Same.e1_c)) big) a0 _ _ _ _ a1 _ _ _ _ _ _ 0 hra0_2 hca0_2 hra0_3 hca0_3 hra1_2 hca1_2 hra1_3 hca1_3 heq)
 replace heq:=ht1
 refine Sa 0<|Zv 6 [bx 1 0,bx 0 0] ?_
 rcases bool_cases (a0.Room != a1.Room) with hb1 | hb1
 ·replace heq:=bif_true hb1 heq
  refine Zs 12 (congrArg Value.bool hb1)<|Zk 30 ?_
  obtain rfl:=Option.some.inj heq
  refine Dn ?_
  exact Gt 2 [0,1] (K3)
 ·replace heq:=bif_false hb1 heq
  refine Zs 12 (congrArg Value.bool hb1)<|Zv 13 [bx 1 1,bx 0 1] ?_
  rcases bool_cases (a0.Lease != a1.Lease) with hb2 | hb2
  ·replace heq:=bif_true hb2 heq
   refine Zs 19 (congrArg Value.bool hb2)<|Zk 30 ?_
   obtain rfl:=Option.some.inj heq
   refine Dn ?_
   exact Gt 2 [0,1] (K3)
  ·replace heq:=bif_false hb2 heq
   refine Zs 19 (congrArg Value.bool hb2)<|Zv 22 [bx 1 2,bx 0 2] ?_
   rcases bool_cases ((a0.Blobs.length:Int) != (a1.Blobs.length:Int)) with hb3 | hb3
   ·replace heq:=bif_true hb3 heq
    refine Zs 28 (congrArg Value.bool hb3)<|Zk 30 ?_
    obtain rfl:=Option.some.inj heq
    refine Dn ?_
    exact Gt 2 [0,1] (K3)
   ·replace heq:=bif_false hb3 heq
    refine Zs 28 (congrArg Value.bool hb3)<|Zv 30 [bx 1 3,bx 0 3] ?_
    obtain rfl:=Option.some.inj heq
    refine Dn ?_
    exact Gt 2 [0,1] (K3)
noncomputable def C3:Ctx:={ P:=Tryd.prog,f:=3,N:=69,c:=bodyOf Tryd.f3 }
def S3 (F:List Ch) (H0:Hp) (r:Bool) (v:Value) (H:Hp) (cs:List Ch):Prop:=v=.bool r∧F=cs
theorem smithyardlaw7_CacheTextsComeBack.j1_c [Wz w0] {r:Bool}:∀ (H:Hp) (a1:ByteArray) ,smithyardlaw7_CacheTextsComeBack.j1 a1=some r→RunH C3 (S3 F H0 r) H0 w0 [.c [1,1,0],.c [1,1,1]] [(1,.string a1)] H (F):=by
 intro H a1  heq
 unfold smithyardlaw7_CacheTextsComeBack.j1 at heq
 refine Sa 0<|Zk 1 ?_
 obtain ⟨y2,hy2,heq⟩:=bind_some heq
 refine RgH.does (cal 41 (cache_Read_c hy2 )) ?_
 rintro _ H _ hl ⟨_,rfl,A1,c1,ch1,A2,c2,ch2,rfl,rfl,ho1,ho2⟩
 refine Zk 6 ?_
 refine RgH.does (DoesH.new (d:=10) (v:=fun g=>.pointer (some ⟨g,0,none⟩)) (o:=fun g=>.cells #[iv 0,iv 0,.slice none 0 0,.slice none 0 0] 25 (0,0)) (fun g=>by kernel_rfl)) ?_
 rintro _ _ _ _ ⟨g2,rfl,rfl,rfl⟩
 refine RgH.does (DoesH.store (k:=0) (g:=g2) (off:=0) (v:=.agg #[iv y2.1.Room,iv y2.1.Lease,.slice A1 y2.1.Blobs.length c1,.slice A2 y2.1.Entries.length c2]) (cells':=#[iv y2.1.Room,iv y2.1.Lease,.slice A1 y2.1.Blobs.length c1,.slice A2 y2.1.Entries.length c2]) (by kernel_rfl) rfl (by kernel_rfl) (by kernel_rfl)) ?_
 rintro _ _ _ _ ⟨rfl,rfl,rfl⟩
 refine Zd 10<|Sa 2<|Zd 2 ?_
 refine Cb heq ?_ ?_
 ·intro hb1 heq
  refine An 1 ?_
  obtain ⟨t1,ht1,heq⟩:=bind_some heq
  have K5:∀ (H:Hp),RunH C3 (S3 F H0 r) H0 w0 [.c [1,1,1,0,1,0,1],.c [1,1,1,1]] [(4,.bool t1)] H (F):=by
   intro H
   obtain rfl:=Option.some.inj heq
   exact RunH.done (by kernel_rfl) Tryd.func3 (v:=.bool t1) (by kernel_rfl) ⟨rfl,rfl⟩
  replace heq:=ht1
  refine Sa 0<|Zv 5 [bx 0 2] ?_
  rcases bool_cases ((y2.1.Blobs.length:Int) == 0) with hb2 | hb2
  ·replace heq:=bif_true hb2 heq
   refine Zs 51 (congrArg Value.bool hb2) ?_
   obtain ⟨y3,hy3,heq⟩:=bind_some heq
   refine RgH.does (cal 52 (smithyardlaw7_awake_c hy3 )) ?_
   rintro _ _ _ _ ⟨_,rfl,rfl,rfl,rfl⟩
   refine Zk 8 ?_
   obtain rfl:=Option.some.inj heq
   refine Dn ?_
   exact Gt 3 [] (K5 _)
  ·replace heq:=bif_false hb2 heq
   refine Zs 51 (congrArg Value.bool hb2)<|Zk 8 ?_
   obtain rfl:=Option.some.inj heq
   refine Dn ?_
   exact Gt 3 [] (K5 _)
 ·intro hb1 heq
  refine Sa 2<|Zv 1 (bxs 0) ?_
  obtain ⟨y4,hy4,heq⟩:=bind_some heq
  refine RgH.does (cal 56 (cache_Text_c hy4 (ho1.rw (.tail _ (.head _))) ho1.cap rfl (ho2.rw (.tail _ (.tail _ (.head _)))) ho2.cap rfl)) ?_
  rintro _ _ _ _ ⟨_,rfl,rfl,rfl,rfl⟩
  refine Zd 7<|An 1 ?_
  obtain ⟨t2,ht2,heq⟩:=bind_some heq
  have K6:∀ (H:Hp),RunH C3 (S3 F H0 r) H0 w0 [.c [1,1,1,1,1,1]] [(4,.bool t2)] H (F):=by
   intro H
   obtain rfl:=Option.some.inj heq
   exact RunH.done (by kernel_rfl) Tryd.func3 (v:=.bool t2) (by kernel_rfl) ⟨rfl,rfl⟩
  replace heq:=ht2
  refine Sa 0<|Zk 3 ?_
  rcases bool_cases (y4.2 == 0) with hb3 | hb3
  ·replace heq:=bif_true hb3 heq
   refine Zs 61 (congrArg Value.bool hb3)<|Zk 8 ?_
   rcases bool_cases (sEq y4.1 a1) with hb4 | hb4
   ·replace heq:=bif_true hb4 heq
    refine Zs 66 (congrArg Value.bool hb4) ?_
    obtain ⟨y5,hy5,heq⟩:=bind_some heq
    refine RgH.does (cal 67 (smithyardlaw7_awake_c hy5 )) ?_
    rintro _ _ _ _ ⟨_,rfl,rfl,rfl,rfl⟩
    refine Zk 11 ?_
    obtain rfl:=Option.some.inj heq
    refine Dn ?_
    exact Gt 3 [] (K6 _)
   ·replace heq:=bif_false hb4 heq
    refine Zs 66 (congrArg Value.bool hb4)<|Zk 11 ?_
    obtain rfl:=Option.some.inj heq
    refine Dn ?_
    exact Gt 3 [] (K6 _)
  ·replace heq:=bif_false hb3 heq
   refine Zs 61 (congrArg Value.bool hb3)<|Zk 11 ?_
   obtain rfl:=Option.some.inj heq
   refine Dn ?_
   exact Gt 3 [] (K6 _)
theorem smithyardlaw7_CacheTextsComeBack_c [Wz w0] {a0:Cache} {Aa0_2:Option Addr} {na0_2 ca0_2:Nat} {Aa0_3:Option Addr} {na0_3 ca0_3:Nat} {a1:ByteArray} {r:Bool} (heq:smithyardlaw7_CacheTextsComeBack.f a0 a1=some r) (hra0_2:Rw kBlob H0 F Aa0_2 a0.Blobs) (hca0_2:na0_2≤ca0_2) (hna0_2:na0_2=a0.Blobs.length) (hra0_3:Rw kEntry H0 F Aa0_3 a0.Entries) (hca0_3:na0_3≤ca0_3) (hna0_3:na0_3=a0.Entries.length):CallsH Tryd.prog 3 #[.agg #[iv a0.Room,iv a0.Lease,.slice Aa0_2 na0_2 ca0_2,.slice Aa0_3 na0_3 ca0_3],.string a1] H0 w0 (F) (S3 F H0 r):=by
 refine Co C3 Tryd.func3 Tryd.ntmps3 ?_
 subst hna0_2
 subst hna0_3
 unfold smithyardlaw7_CacheTextsComeBack.f at heq
 suffices key:∀ (H:Hp),Rw kBlob H F Aa0_2 a0.Blobs→Rw kEntry H F Aa0_3 a0.Entries→RunH C3 (S3 F H0 r) H0 w0 [.c []] (argL 0 [.agg #[iv a0.Room,iv a0.Lease,.slice Aa0_2 (a0.Blobs.length) ca0_2,.slice Aa0_3 (a0.Entries.length) ca0_3],.string a1]) H (F) from key H0 hra0_2 hra0_3
 intro H hra0_2 hra0_3
 refine Sa 1 ?_
 refine RgH.does (DoesH.new (d:=2) (v:=fun g=>.pointer (some ⟨g,0,none⟩)) (o:=fun g=>.cells #[iv a0.Room,iv a0.Lease,.slice Aa0_2 a0.Blobs.length ca0_2,.slice Aa0_3 a0.Entries.length ca0_3] 25 (0,0)) (fun g=>by kernel_rfl)) ?_
 rintro _ _ _ _ ⟨g1,rfl,rfl,rfl⟩
 refine Zd 2<|Sa 2<|Zv 1 (bxs 0) ?_
 obtain ⟨y1,hy1,heq⟩:=bind_some heq
 refine RgH.does (cal 16 (cache_Text_c hy1 (hra0_2.wk (fun _ h=>(.tail _ h))) hca0_2 rfl (hra0_3.wk (fun _ h=>(.tail _ h))) hca0_3 rfl)) ?_
 rintro _ _ _ _ ⟨_,rfl,rfl,rfl,rfl⟩
 refine Zd 7<|Sa 1<|Zd 2 ?_
 refine Cb heq ?_ ?_
 ·intro hb5 heq
  refine Sa 1<|Zk 1 ?_
  obtain ⟨y6,hy6,heq⟩:=bind_some heq
  refine RgH.does (cal 23 (cache_Read_c hy6 )) ?_
  rintro _ H _ hl ⟨_,rfl,A3,c3,ch3,A4,c4,ch4,rfl,rfl,ho3,ho4⟩
  replace hra0_2:=hra0_2.mono hl
  replace hra0_3:=hra0_3.mono hl
  refine Zk 6 ?_
  refine RgH.does (DoesH.new (d:=7) (v:=fun g=>.pointer (some ⟨g,0,none⟩)) (o:=fun g=>.cells #[iv 0,iv 0,.slice none 0 0,.slice none 0 0] 25 (0,0)) (fun g=>by kernel_rfl)) ?_
  rintro _ _ _ _ ⟨g3,rfl,rfl,rfl⟩
  refine RgH.does (DoesH.store (k:=0) (g:=g3) (off:=0) (v:=.agg #[iv y6.1.Room,iv y6.1.Lease,.slice A3 y6.1.Blobs.length c3,.slice A4 y6.1.Entries.length c4]) (cells':=#[iv y6.1.Room,iv y6.1.Lease,.slice A3 y6.1.Blobs.length c3,.slice A4 y6.1.Entries.length c4]) (by kernel_rfl) rfl (by kernel_rfl) (by kernel_rfl)) ?_
  rintro _ _ _ _ ⟨rfl,rfl,rfl⟩
  refine Zd 10<|An 1 ?_
  obtain ⟨t3,ht3,heq⟩:=bind_some heq
  have K10:∀ (H:Hp),RunH C3 (S3 F H0 r) H0 w0 [.c [1,0,1,1,0,1,1],.c [1,1]] [(1,.string a1),(38,.bool t3)] H (F):=by
   intro H
   refine Cb heq ?_ ?_
   ·intro hb8 heq
    refine Sa 1<|Zd 1 ?_
    obtain rfl:=Option.some.inj heq
    exact RunH.done (by kernel_rfl) Tryd.func3 (v:=.bool false) (by kernel_rfl) ⟨rfl,rfl⟩
   ·intro hb8 heq
    refine An 2 ?_
    exact Gt 0 [] ((smithyardlaw7_CacheTextsComeBack.j1_c) _ a1 heq)
  replace heq:=ht3
  refine Sa 0<|Zk 3 ?_
  rcases bool_cases (y6.2.2 != 0) with hb6 | hb6
  ·replace heq:=bif_true hb6 heq
   refine Zs 29 (congrArg Value.bool hb6)<|Zk 12 ?_
   obtain rfl:=Option.some.inj heq
   refine Dn ?_
   exact Gt 4 [] (K10 _)
  ·replace heq:=bif_false hb6 heq
   refine Zs 29 (congrArg Value.bool hb6)<|Zk 7 ?_
   rcases bool_cases (y6.2.1 != 0) with hb7 | hb7
   ·replace heq:=bif_true hb7 heq
    refine Zs 33 (congrArg Value.bool hb7)<|Zk 12 ?_
    obtain rfl:=Option.some.inj heq
    refine Dn ?_
    exact Gt 4 [] (K10 _)
   ·replace heq:=bif_false hb7 heq
    refine Zs 33 (congrArg Value.bool hb7)<|Zv 9 (bxs 0++bxs 3) ?_
    obtain ⟨y7,hy7,heq⟩:=bind_some heq
    refine RgH.does (cal 36 (smithyardref7_Same_c hy7 (ho3.rw (.tail _ (.head _))) ho3.cap rfl (ho4.rw (.tail _ (.tail _ (.head _)))) ho4.cap rfl (hra0_2.wk (fun _ h=>(.tail _ (.tail _ (.tail _ (.tail _ h)))))) hca0_2 rfl (hra0_3.wk (fun _ h=>(.tail _ (.tail _ (.tail _ (.tail _ h)))))) hca0_3 rfl)) ?_
    rintro _ _ _ _ ⟨_,rfl,rfl,rfl,rfl⟩
    refine Zk 12 ?_
    obtain rfl:=Option.some.inj heq
    refine Dn ?_
    exact Gt 4 [] (K10 _)
 ·intro hb5 heq
  refine An 2 ?_
  exact Gt 1 [] ((smithyardlaw7_CacheTextsComeBack.j1_c) _ a1 heq)
end Go.Proofs.YtphcmcgdinkjbaaDoor
