/- What the machine's calls of these functions come to: just what the plain functions say. Written by program. -/
import Derived.Test.YtadkanllaocdeaaDoorProg
import Derived.Test.YtadkanllaocdeaaDoorKitX
import Derived.Test.YtadkanllaocdeaaDoorZD
import Derived.Test.YtadkanllaocdeaaDoorShelf
import Derived.Test.YtadkanllaocdeaaDoorKitBs
import Derived.Test.YtadkanllaocdeaaDoorZ3M1
set_option linter.unusedVariables false
set_option linter.unnecessarySimpa false
set_option linter.unusedSimpArgs false
set_option maxRecDepth 100000
set_option maxHeartbeats 1000000
namespace Go.Proofs.YtadkanllaocdeaaDoor
open Go Go.RowKit Go.Proofs.YtadkanllaocdeaaDoor.Kit
noncomputable def C88:Ctx:={ P:=Tryd.prog,f:=88,N:=58,c:=bodyOf Tryd.f88 }
def S88 (F:List Ch) (H0:Hp) (Aa0:Option Addr) (ca0:Nat) (la0:Nat) (r:(List Blob)) (v:Value) (H:Hp) (cs:List Ch):Prop:=∃ (ch0:Ch),H0=H∧v=.tuple #[]∧ch0::F=cs∧SlOwn kBlob 29 H Aa0 ca0 r ch0∧la0=r.length
theorem slices_rotateCmpFunc_Blob.e1_c {w0:World} {H:Hp} {F:List Ch} {r:(List Blob)}:∀ (Aa0:Option Addr) (ca0:Nat) (la0:Nat) (a2:Int) (v_data0:List Blob) (chv_data0:Ch) (nv_data0:Nat) (v_i10:Int) ,nv_data0=v_data0.length→la0=nv_data0→SlOwn kBlob 29 H Aa0 ca0 v_data0 chv_data0→slices_rotateCmpFunc_Blob.e1 a2 v_data0 v_i10=some r→RunH C88 (S88 F H Aa0 ca0 la0 r) H w0 [.c [1,1,1]] [(0,.slice Aa0 nv_data0 ca0),(2,iv a2),(4,.func (.func 72) #[] #[]),(10,iv v_i10)] H (chv_data0::F):=by
 intro Aa0 ca0 la0 a2 v_data0 chv_data0 nv_data0 v_i10 hnv_data0 hlv_data0 hov_data0 heq
 subst hnv_data0
 unfold slices_rotateCmpFunc_Blob.e1 at heq
 refine Rr<|Rk 7 [0,50,53,54,55,56] [(0,.slice Aa0 v_data0.length ca0),(50,.slice Aa0 v_data0.length ca0),(53,iv (w64 (a2 - v_i10))),(54,iv a2),(55,iv v_i10),(56,.func (.func 72) #[] #[])] ?_
 obtain ⟨y1,hy1,heq⟩:=bind_some heq
 refine RgH.does (DoesH.call (d:=57) (g:=89) (args:=#[.slice Aa0 v_data0.length ca0,iv (w64 (a2 - v_i10)),iv a2,iv v_i10,.func (.func 72) #[] #[]]) (by kernel_rfl) (slices_swapRangeCmpFunc_Blob_c (a0:=v_data0) (a1:=w64 (a2 - v_i10)) (a2:=a2) (a3:=v_i10) hov_data0 rfl hy1)) ?_
 rintro _ _ _ _ ⟨_,rfl,ch1,rfl,rfl,rfl,ho1,hn1⟩
 refine Dn ?_
 obtain rfl:=Option.some.inj heq
 exact RunH.done (by kernel_rfl) Tryd.func88 (v:=.tuple #[]) (by kernel_rfl) ⟨ch1,rfl,rfl,rfl,ho1,(hlv_data0.trans hn1)⟩
theorem slices_rotateCmpFunc_Blob.l2_c {w0:World} {H:Hp} {F:List Ch} {r:(List Blob)} (e1:Int→(List Blob)→Int→Option (List Blob))
  (he1:∀ (Aa0:Option Addr) (ca0:Nat) (la0:Nat) (a2:Int) (v_data0:List Blob) (chv_data0:Ch) (nv_data0:Nat) (v_i10:Int) ,nv_data0=v_data0.length→la0=nv_data0→SlOwn kBlob 29 H Aa0 ca0 v_data0 chv_data0→e1 a2 v_data0 v_i10=some r→RunH C88 (S88 F H Aa0 ca0 la0 r) H w0 [.c [1,1,1]] [(0,.slice Aa0 nv_data0 ca0),(2,iv a2),(4,.func (.func 72) #[] #[]),(10,iv v_i10)] H (chv_data0::F)):∀ (k:Nat),∀ (Aa0:Option Addr) (ca0:Nat) (la0:Nat) (a2:Int) (v_data0:List Blob) (chv_data0:Ch) (nv_data0:Nat) (v_i10:Int) (v_j11:Int) ,nv_data0=v_data0.length→la0=nv_data0→SlOwn kBlob 29 H Aa0 ca0 v_data0 chv_data0→slices_rotateCmpFunc_Blob.l2 e1 k a2 v_data0 v_i10 v_j11=some r→RunH C88 (S88 F H Aa0 ca0 la0 r) H w0 [.c [1,1,0,0,0],.l [1,1,0,0,0],.b 0,.c [1,1,1]] [(0,.slice Aa0 nv_data0 ca0),(2,iv a2),(4,.func (.func 72) #[] #[]),(10,iv v_i10),(11,iv v_j11)] H (chv_data0::F):=by
 intro k
 induction k with
 | zero=>intro Aa0 ca0 la0 a2 v_data0 chv_data0 nv_data0 v_i10 v_j11 hnv_data0 hlv_data0 hov_data0 heq; exact nomatch (show (none:Option (List Blob))=some r from heq)
 | succ k ihk =>
  intro Aa0 ca0 la0 a2 v_data0 chv_data0 nv_data0 v_i10 v_j11 hnv_data0 hlv_data0 hov_data0 heq
  subst hnv_data0
  rw [slices_rotateCmpFunc_Blob.l2] at heq
  refine Ra 2 [1,1,0,0,0,0,0] [.c [1,1,0,0,0,0,1],.c [1,1,0,0,0,1],.l [1,1,0,0,0],.b 0,.c [1,1,1]]<|Rd 3 [0,2,4,10,11,20] [(0,.slice Aa0 v_data0.length ca0),(2,iv a2),(4,.func (.func 72) #[] #[]),(10,iv v_i10),(11,iv v_j11),(20,.bool (v_i10 != v_j11))] ?_
  rcases bool_cases (v_i10 != v_j11) with hb1 | hb1
  ·replace heq:=bif_true hb1 heq
   refine Ct (v_i10 != v_j11) hb1<|Ra 3 [1,1,0,0,0,1,0,0] [.c [1,1,0,0,0,1,0,1],.b 1,.l [1,1,0,0,0],.b 0,.c [1,1,1]]<|Rd 3 [0,2,4,10,11,23] [(0,.slice Aa0 v_data0.length ca0),(2,iv a2),(4,.func (.func 72) #[] #[]),(10,iv v_i10),(11,iv v_j11),(23,.bool (decide (v_j11<v_i10)))] ?_
   rcases bool_cases (decide (v_j11<v_i10)) with hb2 | hb2
   ·replace heq:=bif_true hb2 heq
    refine Ct (decide (v_j11<v_i10)) hb2<|Ra 1 [1,1,0,0,0,1,0,1,0,0] [.c [1,1,0,0,0,1,0,1,0,1],.b 1,.l [1,1,0,0,0],.b 0,.c [1,1,1]]<|Rk 7 [0,2,4,10,11,24,27,28,29,30] [(0,.slice Aa0 v_data0.length ca0),(2,iv a2),(4,.func (.func 72) #[] #[]),(10,iv v_i10),(11,iv v_j11),(24,.slice Aa0 v_data0.length ca0),(27,iv (w64 (a2 - v_i10))),(28,iv a2),(29,iv v_j11),(30,.func (.func 72) #[] #[])] ?_
    obtain ⟨y2,hy2,heq⟩:=bind_some heq
    refine RgH.does (DoesH.call (d:=31) (g:=89) (args:=#[.slice Aa0 v_data0.length ca0,iv (w64 (a2 - v_i10)),iv a2,iv v_j11,.func (.func 72) #[] #[]]) (by kernel_rfl) (slices_swapRangeCmpFunc_Blob_c (a0:=v_data0) (a1:=w64 (a2 - v_i10)) (a2:=a2) (a3:=v_j11) hov_data0 rfl hy2)) ?_
    rintro _ _ _ _ ⟨_,rfl,ch2,rfl,rfl,rfl,ho2,hn2⟩
    refine Dn<|Rr<|Rd 4 [0,2,4,10,11] [(0,.slice Aa0 v_data0.length ca0),(2,iv a2),(4,.func (.func 72) #[] #[]),(10,iv (w64 (v_i10 - v_j11))),(11,iv v_j11)]<|Ad 2 [.c [1,1,0,0,0],.l [1,1,0,0,0],.b 0,.c [1,1,1]]<|Kp [0,2,4,10,11] [(0,.slice Aa0 v_data0.length ca0),(2,iv a2),(4,.func (.func 72) #[] #[]),(10,iv (w64 (v_i10 - v_j11))),(11,iv v_j11)] ?_
    exact ihk _ _ _ a2 y2 _ _ (w64 (v_i10 - v_j11)) v_j11 hn2 hlv_data0 ho2 heq
   ·replace heq:=bif_false hb2 heq
    refine Cf (decide (v_j11<v_i10)) hb2<|Ra 1 [1,1,0,0,0,1,0,1,1,0] [.c [1,1,0,0,0,1,0,1,1,1],.b 1,.l [1,1,0,0,0],.b 0,.c [1,1,1]]<|Rk 11 [0,2,4,10,11,35,38,43,44,45] [(0,.slice Aa0 v_data0.length ca0),(2,iv a2),(4,.func (.func 72) #[] #[]),(10,iv v_i10),(11,iv v_j11),(35,.slice Aa0 v_data0.length ca0),(38,iv (w64 (a2 - v_i10))),(43,iv (w64 ((w64 (a2+v_j11)) - v_i10))),(44,iv v_i10),(45,.func (.func 72) #[] #[])] ?_
    obtain ⟨y3,hy3,heq⟩:=bind_some heq
    refine RgH.does (DoesH.call (d:=46) (g:=89) (args:=#[.slice Aa0 v_data0.length ca0,iv (w64 (a2 - v_i10)),iv (w64 ((w64 (a2+v_j11)) - v_i10)),iv v_i10,.func (.func 72) #[] #[]]) (by kernel_rfl) (slices_swapRangeCmpFunc_Blob_c (a0:=v_data0) (a1:=w64 (a2 - v_i10)) (a2:=w64 ((w64 (a2+v_j11)) - v_i10)) (a3:=v_i10) hov_data0 rfl hy3)) ?_
    rintro _ _ _ _ ⟨_,rfl,ch3,rfl,rfl,rfl,ho3,hn3⟩
    refine Dn<|Rr<|Rd 4 [0,2,4,10,11] [(0,.slice Aa0 v_data0.length ca0),(2,iv a2),(4,.func (.func 72) #[] #[]),(10,iv v_i10),(11,iv (w64 (v_j11 - v_i10)))]<|Ad 2 [.c [1,1,0,0,0],.l [1,1,0,0,0],.b 0,.c [1,1,1]]<|Kp [0,2,4,10,11] [(0,.slice Aa0 v_data0.length ca0),(2,iv a2),(4,.func (.func 72) #[] #[]),(10,iv v_i10),(11,iv (w64 (v_j11 - v_i10)))] ?_
    exact ihk _ _ _ a2 y3 _ _ v_i10 (w64 (v_j11 - v_i10)) hn3 hlv_data0 ho3 heq
  ·replace heq:=bif_false hb1 heq
   refine Cf (v_i10 != v_j11) hb1<|Ad 1 [.c [1,1,1]]<|Kp [0,2,4,10] [(0,.slice Aa0 v_data0.length ca0),(2,iv a2),(4,.func (.func 72) #[] #[]),(10,iv v_i10)] ?_
   exact he1 _ _ _ a2 v_data0 _ _ v_i10 rfl hlv_data0 hov_data0 heq
theorem slices_rotateCmpFunc_Blob_c {w0:World} {H:Hp} {F:List Ch} {a0:List Blob} {Aa0:Option Addr} {na0:Nat} {ca0:Nat} {cha0:Ch} {a1:Int} {a2:Int} {a3:Int} {r:(List Blob)} (hoa0:SlOwn kBlob 29 H Aa0 ca0 a0 cha0) (hna0:na0=a0.length) (heq:slices_rotateCmpFunc_Blob.f a0 a1 a2 a3=some r):CallsH Tryd.prog 88 #[.slice Aa0 na0 ca0,iv a1,iv a2,iv a3,.func (.func 72) #[] #[]] H w0 (cha0::F) (S88 F H Aa0 ca0 na0 r):=by
 refine calls_of_runH (F:=C88) Tryd.func88 (by kernel_rfl) Tryd.ntmps88 (args:=[.slice Aa0 na0 ca0,iv a1,iv a2,iv a3,.func (.func 72) #[] #[]]) (by kernel_rfl) ?_
 suffices key0:∀ (la0:Nat),la0=na0→RunH C88 (S88 F H Aa0 ca0 la0 r) H w0 [.c []] (argL 0 [.slice Aa0 na0 ca0,iv a1,iv a2,iv a3,.func (.func 72) #[] #[]]) H (cha0::F) from key0 na0 rfl
 intro la0 hla0
 subst hna0
 unfold slices_rotateCmpFunc_Blob.f at heq
 refine Ra 1 [0] [.c [1]]<|Rd 4 [0,2,3,4,10] [(0,.slice Aa0 a0.length ca0),(2,iv a2),(3,iv a3),(4,.func (.func 72) #[] #[]),(10,iv (w64 (a2 - a1)))]<|Ra 1 [1,0] [.c [1,1]]<|Rd 4 [0,2,4,10,11] [(0,.slice Aa0 a0.length ca0),(2,iv a2),(4,.func (.func 72) #[] #[]),(10,iv (w64 (a2 - a1))),(11,iv (w64 (a3 - a2)))]<|Ad 3 [.c [1,1,0,0,0],.l [1,1,0,0,0],.b 0,.c [1,1,1]]<|Kp [0,2,4,10,11] [(0,.slice Aa0 a0.length ca0),(2,iv a2),(4,.func (.func 72) #[] #[]),(10,iv (w64 (a2 - a1))),(11,iv (w64 (a3 - a2)))] ?_
 exact ((slices_rotateCmpFunc_Blob.l2_c (e1:=slices_rotateCmpFunc_Blob.e1) (slices_rotateCmpFunc_Blob.e1_c)) big) _ _ _ a2 a0 _ _ (w64 (a2 - a1)) (w64 (a3 - a2)) rfl hla0 hoa0 heq
noncomputable def C86:Ctx:={ P:=Tryd.prog,f:=86,N:=220,c:=bodyOf Tryd.f86 }
def S86 (F:List Ch) (H0:Hp) (Aa0:Option Addr) (ca0:Nat) (la0:Nat) (r:(List Blob)) (v:Value) (H:Hp) (cs:List Ch):Prop:=∃ (ch0:Ch),H0=H∧v=.tuple #[]∧ch0::F=cs∧SlOwn kBlob 29 H Aa0 ca0 r ch0∧la0=r.length
theorem slices_symMergeCmpFunc_Blob.l2_c {w0:World} {H:Hp} {F:List Ch} {r:(List Blob)}:∀ (k:Nat),∀ (Aa0:Option Addr) (ca0:Nat) (la0:Nat) (v_i10:Int) (v_data0:List Blob) (chv_data0:Ch) (nv_data0:Nat) (v_k13:Int) ,nv_data0=v_data0.length→la0=nv_data0→SlOwn kBlob 29 H Aa0 ca0 v_data0 chv_data0→slices_symMergeCmpFunc_Blob.l2 k v_i10 v_data0 v_k13=some r→RunH C86 (S86 F H Aa0 ca0 la0 r) H w0 [.c [0,1,0,1,1,1,0,1,0,0],.l [0,1,0,1,1,1,0,1,0,0],.b 2,.c [0,1,0,1,1,1,1],.c [1]] [(0,.slice Aa0 nv_data0 ca0),(10,iv v_i10),(13,iv v_k13)] H (chv_data0::F):=by
 intro k
 induction k with
 | zero=>intro Aa0 ca0 la0 v_i10 v_data0 chv_data0 nv_data0 v_k13 hnv_data0 hlv_data0 hov_data0 heq; exact nomatch (show (none:Option (List Blob))=some r from heq)
 | succ k ihk =>
  intro Aa0 ca0 la0 v_i10 v_data0 chv_data0 nv_data0 v_k13 hnv_data0 hlv_data0 hov_data0 heq
  subst hnv_data0
  rw [slices_symMergeCmpFunc_Blob.l2] at heq
  refine Ra 2 [0,1,0,1,1,1,0,1,0,0,0,0] [.c [0,1,0,1,1,1,0,1,0,0,0,1],.c [0,1,0,1,1,1,0,1,0,0,1],.l [0,1,0,1,1,1,0,1,0,0],.b 2,.c [0,1,0,1,1,1,1],.c [1]]<|Rd 4 [0,10,13,58] [(0,.slice Aa0 v_data0.length ca0),(10,iv v_i10),(13,iv v_k13),(58,.bool (decide (v_k13<(w64 (v_i10 - 1)))))] ?_
  rcases bool_cases (decide (v_k13<(w64 (v_i10 - 1)))) with hb2 | hb2
  ·replace heq:=bif_true hb2 heq
   refine Ct (decide (v_k13<(w64 (v_i10 - 1)))) hb2<|Ad 3 [.c [0,1,0,1,1,1,0,1,0,0,1,0,0],.b 3,.c [0,1,0,1,1,1,0,1,0,0,1,1],.l [0,1,0,1,1,1,0,1,0,0],.b 2,.c [0,1,0,1,1,1,1],.c [1]]<|Kp [0,10,13] [(0,.slice Aa0 v_data0.length ca0),(10,iv v_i10),(13,iv v_k13)] ?_
   refine RunH.draw (fun w=>Heap H w0 w (chv_data0::F)) (fun w=>Heap H w0 w (F)) [3,3,3,3,3,3,3,3,3,3,3,3,3,3,3,1,3,2] (n:=18) (ls:=[false,false,false,false,false,false,false,false,false,false,false,false,false,false,false,false,false,false]) (by kernel_rfl) (by kernel_rfl) (by kernel_rfl) rfl ?_
   refine Dk [0,1] 16 (nb 18 3) [] [] [0,10,13,61,62] [(0,.slice Aa0 v_data0.length ca0),(10,iv v_i10),(13,iv v_k13),(61,.slice Aa0 v_data0.length ca0),(62,iv v_k13)] (Pk 1 [0]) (Pk 1 []) (fun _ _=>trivial)<|De [2,3,4] 13 (nb 18 31) [] [] [0,10,13,61,62,63,65] [(0,.slice Aa0 v_data0.length ca0),(10,iv v_i10),(13,iv v_k13),(61,.slice Aa0 v_data0.length ca0),(62,iv v_k13),(63,.slice Aa0 v_data0.length ca0),(65,iv (w64 (v_k13+1)))] (Pk 1 []) (fun _ _=>trivial) ?_
   obtain ⟨x1,hx1,heq⟩:=bind_some heq
   obtain ⟨ha1,cs1,hK1,hcc1⟩:=hov_data0.get hx1
   obtain ⟨rfl⟩:=kBlob_open hK1
   refine Dk [5,6,7,8,9] 8 (nb 18 1023) [.string x1.Digest,iv x1.Size,iv x1.Used,iv x1.Until,iv x1.Pins] [.need (Aa0=some (adr Aa0)∧(0:Int)≤(w64 (v_k13+1))∧(w64 (v_k13+1))<((v_data0.length:Nat):Int)),.load (((adr Aa0).add ((w64 (v_k13+1)).toNat*5)).add 0) (.string x1.Digest),.load (((adr Aa0).add ((w64 (v_k13+1)).toNat*5)).add 1) (iv x1.Size),.load (((adr Aa0).add ((w64 (v_k13+1)).toNat*5)).add 2) (iv x1.Used),.load (((adr Aa0).add ((w64 (v_k13+1)).toNat*5)).add 3) (iv x1.Until),.load (((adr Aa0).add ((w64 (v_k13+1)).toNat*5)).add 4) (iv x1.Pins)] [0,10,13,61,62,63,65,70] [(0,.slice Aa0 v_data0.length ca0),(10,iv v_i10),(13,iv v_k13),(61,.slice Aa0 v_data0.length ca0),(62,iv v_k13),(63,.slice Aa0 v_data0.length ca0),(65,iv (w64 (v_k13+1))),(70,.agg #[.string x1.Digest,iv x1.Size,iv x1.Used,iv x1.Until,iv x1.Pins])] (Pk 1 [0]) (Pk 1 []) (fun w hh=>⟨⟨ha1,(at?_some hx1).1,(at?_some hx1).2.1⟩,(hcc1 _ (hh.chin 0 rfl) 0 _ rfl),(hcc1 _ (hh.chin 0 rfl) 1 _ rfl),(hcc1 _ (hh.chin 0 rfl) 2 _ rfl),(hcc1 _ (hh.chin 0 rfl) 3 _ rfl),(hcc1 _ (hh.chin 0 rfl) 4 _ rfl)⟩) ?_
   obtain ⟨x2,hx2,heq⟩:=bind_some heq
   obtain ⟨ha2,cs2,hK2,hcc2⟩:=hov_data0.get hx2
   obtain ⟨rfl⟩:=kBlob_open hK2
   refine De [10,11,12] 5 (nb 18 8191) [] [.need (Aa0=some (adr Aa0)∧(0:Int)≤v_k13∧v_k13<((v_data0.length:Nat):Int))] [0,10,13,61,62,63,65,70,73] [(0,.slice Aa0 v_data0.length ca0),(10,iv v_i10),(13,iv v_k13),(61,.slice Aa0 v_data0.length ca0),(62,iv v_k13),(63,.slice Aa0 v_data0.length ca0),(65,iv (w64 (v_k13+1))),(70,.agg #[.string x1.Digest,iv x1.Size,iv x1.Used,iv x1.Until,iv x1.Pins]),(73,.pointer (some ((adr Aa0).add (v_k13.toNat*5))))] (Pk 1 []) (fun w hh=>⟨ha2,(at?_some hx2).1,(at?_some hx2).2.1⟩) ?_
   obtain ⟨ha3,cs3,hK3,hcc3⟩:=hov_data0.get hx2
   obtain ⟨rfl⟩:=kBlob_open hK3
   refine Dk [13,14] 3 (nb 18 32767) [.string x2.Digest,iv x2.Size,iv x2.Used,iv x2.Until,iv x2.Pins] [.load (((adr Aa0).add (v_k13.toNat*5)).add 0) (.string x2.Digest),.load (((adr Aa0).add (v_k13.toNat*5)).add 1) (iv x2.Size),.load (((adr Aa0).add (v_k13.toNat*5)).add 2) (iv x2.Used),.load (((adr Aa0).add (v_k13.toNat*5)).add 3) (iv x2.Until),.load (((adr Aa0).add (v_k13.toNat*5)).add 4) (iv x2.Pins),.need (Aa0=some (adr Aa0)∧(0:Int)≤v_k13∧v_k13<((v_data0.length:Nat):Int))] [0,10,13,63,65,70,74,75] [(0,.slice Aa0 v_data0.length ca0),(10,iv v_i10),(13,iv v_k13),(63,.slice Aa0 v_data0.length ca0),(65,iv (w64 (v_k13+1))),(70,.agg #[.string x1.Digest,iv x1.Size,iv x1.Used,iv x1.Until,iv x1.Pins]),(74,.agg #[.string x2.Digest,iv x2.Size,iv x2.Used,iv x2.Until,iv x2.Pins]),(75,.pointer (some ((adr Aa0).add (v_k13.toNat*5))))] (Pk 1 [0]) (Pk 1 []) (fun w hh=>⟨(hcc3 _ (hh.chin 0 rfl) 0 _ rfl),(hcc3 _ (hh.chin 0 rfl) 1 _ rfl),(hcc3 _ (hh.chin 0 rfl) 2 _ rfl),(hcc3 _ (hh.chin 0 rfl) 3 _ rfl),(hcc3 _ (hh.chin 0 rfl) 4 _ rfl),⟨ha3,(at?_some hx2).1,(at?_some hx2).2.1⟩⟩) ?_
   obtain ⟨ha4,cs4,hK4,hcc4⟩:=hov_data0.get hx2
   obtain ⟨rfl⟩:=kBlob_open hK4
   refine DrH.does (n:=2) (ls':=[true,true,true,true,true,true,true,true,true,true,true,true,true,true,true,true,false,false]) 15 (by kernel_rfl) rfl (DoesH.storeEl (a:=((adr Aa0).add (v_k13.toNat*5))) (k:=0) (kd:=kBlob) (c0:=[.string x2.Digest,iv x2.Size,iv x2.Used,iv x2.Until,iv x2.Pins]) (x':=x1) (o:=0) (ix:=v_k13) (v:=.agg #[.string x1.Digest,iv x1.Size,iv x1.Used,iv x1.Until,iv x1.Pins]) (by kernel_rfl) rfl hov_data0 hx2 (by kernel_rfl) hcc4 rfl (Nat.le_of_ble_eq_true (by kernel_rfl)) kBlob_mk) ?_
   rintro _ _ _ _ ⟨ch1,rfl,rfl,rfl,ho1⟩
   have hn1:v_data0.length=(v_data0.set v_k13.toNat x1).length:=by rw [List.length_set]
   refine ⟨fun _ w hh=>⟨(fun h=>by cases h),fun _=>(Pk 1 []) w hh,(fun h=>by cases h)⟩,?_⟩
   obtain ⟨x3,hx3,heq⟩:=bind_some heq
   obtain ⟨ha5,cs5,hK5,hcc5⟩:=ho1.get hx3
   obtain ⟨rfl⟩:=kBlob_open hK5
   refine De [16] 1 (nb 18 131071) [] [.need (Aa0=some (adr Aa0)∧(0:Int)≤(w64 (v_k13+1))∧(w64 (v_k13+1))<((v_data0.length:Nat):Int))] [0,10,13,74,76] [(0,.slice Aa0 v_data0.length ca0),(10,iv v_i10),(13,iv v_k13),(74,.agg #[.string x2.Digest,iv x2.Size,iv x2.Used,iv x2.Until,iv x2.Pins]),(76,.pointer (some ((adr Aa0).add ((w64 (v_k13+1)).toNat*5))))] (Pk 1 []) (fun w hh=>⟨ha5,(at?_some hx3).1,(by have:=(at?_some hx3).2.1; have:=hn1; omega)⟩) ?_
   obtain ⟨ha6,cs6,hK6,hcc6⟩:=ho1.get hx3
   obtain ⟨rfl⟩:=kBlob_open hK6
   refine DrH.does (n:=0) (ls':=[true,true,true,true,true,true,true,true,true,true,true,true,true,true,true,true,true,true]) 17 (by kernel_rfl) rfl (DoesH.storeEl (a:=((adr Aa0).add ((w64 (v_k13+1)).toNat*5))) (k:=0) (kd:=kBlob) (c0:=[.string x3.Digest,iv x3.Size,iv x3.Used,iv x3.Until,iv x3.Pins]) (x':=x2) (o:=0) (ix:=(w64 (v_k13+1))) (v:=.agg #[.string x2.Digest,iv x2.Size,iv x2.Used,iv x2.Until,iv x2.Pins]) (by kernel_rfl) rfl ho1 hx3 (by kernel_rfl) hcc6 rfl (Nat.le_of_ble_eq_true (by kernel_rfl)) kBlob_mk) ?_
   rintro _ _ _ _ ⟨ch2,rfl,rfl,rfl,ho2⟩
   have hn2:v_data0.length=((v_data0.set v_k13.toNat x1).set (w64 (v_k13+1)).toNat x2).length:=by rw [List.length_set]; exact hn1
   refine ⟨fun _ w hh=>⟨(fun h=>by cases h),(fun h=>absurd h (by decide)),(fun h=>by cases h)⟩,?_⟩
   refine Kr [0,10,13] [(0,.slice Aa0 v_data0.length ca0),(10,iv v_i10),(13,iv v_k13)] ?_
   refine DrH.done (by kernel_rfl) ?_
   refine Ra 1 [0,1,0,1,1,1,0,1,0,0,1,1] [.l [0,1,0,1,1,1,0,1,0,0],.b 2,.c [0,1,0,1,1,1,1],.c [1]]<|Rd 3 [0,10,13] [(0,.slice Aa0 v_data0.length ca0),(10,iv v_i10),(13,iv (w64 (v_k13+1)))]<|Ad 1 [.c [0,1,0,1,1,1,0,1,0,0],.l [0,1,0,1,1,1,0,1,0,0],.b 2,.c [0,1,0,1,1,1,1],.c [1]]<|Kp [0,10,13] [(0,.slice Aa0 v_data0.length ca0),(10,iv v_i10),(13,iv (w64 (v_k13+1)))] ?_
   exact ihk _ _ _ v_i10 ((v_data0.set v_k13.toNat x1).set (w64 (v_k13+1)).toNat x2) _ _ (w64 (v_k13+1)) hn2 hlv_data0 ho2 heq
  ·replace heq:=bif_false hb2 heq
   refine Cf (decide (v_k13<(w64 (v_i10 - 1)))) hb2<|Ad 1 [.c [0,1,0,1,1,1,1],.c [1]] ?_
   obtain rfl:=Option.some.inj heq
   exact RunH.done (by kernel_rfl) Tryd.func86 (v:=.tuple #[]) (by kernel_rfl) ⟨chv_data0,rfl,rfl,rfl,hov_data0,(hlv_data0.trans rfl)⟩
theorem slices_symMergeCmpFunc_Blob.e1_c {w0:World} {H:Hp} {F:List Ch} {r:(List Blob)}:∀ (a0:List Blob) (Aa0:Option Addr) (ca0:Nat) (cha0:Ch) (la0:Nat) (a1:Int) (v_i10:Int) ,SlOwn kBlob 29 H Aa0 ca0 a0 cha0→la0=a0.length→slices_symMergeCmpFunc_Blob.e1 a0 a1 v_i10=some r→RunH C86 (S86 F H Aa0 ca0 la0 r) H w0 [.c [0,1,0,1,1,1,0,0],.c [0,1,0,1,1,1,0,1],.c [0,1,0,1,1,1,1],.c [1]] [(0,.slice Aa0 a0.length ca0),(1,iv a1),(10,iv v_i10)] H (cha0::F):=by
 intro a0 Aa0 ca0 cha0 la0 a1 v_i10 hoa0 hla0 heq
 unfold slices_symMergeCmpFunc_Blob.e1 at heq
 refine Rr<|Rd 2 [0,10,13] [(0,.slice Aa0 a0.length ca0),(10,iv v_i10),(13,iv a1)]<|Ad 2 [.c [0,1,0,1,1,1,0,1,0,0],.l [0,1,0,1,1,1,0,1,0,0],.b 2,.c [0,1,0,1,1,1,1],.c [1]]<|Kp [0,10,13] [(0,.slice Aa0 a0.length ca0),(10,iv v_i10),(13,iv a1)] ?_
 exact ((slices_symMergeCmpFunc_Blob.l2_c) big) _ _ _ v_i10 a0 _ _ a1 rfl hla0 hoa0 heq
theorem slices_symMergeCmpFunc_Blob.l3_c {w0:World} {H:Hp} {F:List Ch} {r:(List Blob)} (e1:(List Blob)→Int→Int→Option (List Blob))
  (he1:∀ (a0:List Blob) (Aa0:Option Addr) (ca0:Nat) (cha0:Ch) (la0:Nat) (a1:Int) (v_i10:Int) ,SlOwn kBlob 29 H Aa0 ca0 a0 cha0→la0=a0.length→e1 a0 a1 v_i10=some r→RunH C86 (S86 F H Aa0 ca0 la0 r) H w0 [.c [0,1,0,1,1,1,0,0],.c [0,1,0,1,1,1,0,1],.c [0,1,0,1,1,1,1],.c [1]] [(0,.slice Aa0 a0.length ca0),(1,iv a1),(10,iv v_i10)] H (cha0::F)):∀ (k:Nat),∀ (a0:List Blob) (Aa0:Option Addr) (ca0:Nat) (cha0:Ch) (la0:Nat) (a1:Int) (v_i10:Int) (v_j11:Int) ,SlOwn kBlob 29 H Aa0 ca0 a0 cha0→la0=a0.length→slices_symMergeCmpFunc_Blob.l3 e1 k a0 a1 v_i10 v_j11=some r→RunH C86 (S86 F H Aa0 ca0 la0 r) H w0 [.c [0,1,0,1,1,0,0,0],.l [0,1,0,1,1,0,0,0],.b 0,.c [0,1,0,1,1,1],.c [1]] [(0,.slice Aa0 a0.length ca0),(1,iv a1),(4,.func (.func 72) #[] #[]),(10,iv v_i10),(11,iv v_j11)] H (cha0::F):=by
 intro k
 induction k with
 | zero=>intro a0 Aa0 ca0 cha0 la0 a1 v_i10 v_j11 hoa0 hla0 heq; exact nomatch (show (none:Option (List Blob))=some r from heq)
 | succ k ihk =>
  intro a0 Aa0 ca0 cha0 la0 a1 v_i10 v_j11 hoa0 hla0 heq
  rw [slices_symMergeCmpFunc_Blob.l3] at heq
  refine Ra 2 [0,1,0,1,1,0,0,0,0,0] [.c [0,1,0,1,1,0,0,0,0,1],.c [0,1,0,1,1,0,0,0,1],.l [0,1,0,1,1,0,0,0],.b 0,.c [0,1,0,1,1,1],.c [1]]<|Rd 3 [0,1,4,10,11,33] [(0,.slice Aa0 a0.length ca0),(1,iv a1),(4,.func (.func 72) #[] #[]),(10,iv v_i10),(11,iv v_j11),(33,.bool (decide (v_i10<v_j11)))] ?_
  rcases bool_cases (decide (v_i10<v_j11)) with hb3 | hb3
  ·replace heq:=bif_true hb3 heq
   refine Ct (decide (v_i10<v_j11)) hb3<|Ra 3 [0,1,0,1,1,0,0,0,1,0,0] [.c [0,1,0,1,1,0,0,0,1,0,1],.b 1,.l [0,1,0,1,1,0,0,0],.b 0,.c [0,1,0,1,1,1],.c [1]]<|Rw' 7 [0,1,4,10,11,12] [] [.need ((0:Int)≤1)] [(0,.slice Aa0 a0.length ca0),(1,iv a1),(4,.func (.func 72) #[] #[]),(10,iv v_i10),(11,iv v_j11),(12,iv (w64 (iShr .u64 (IntKind.wrap .u64 (w64 (v_i10+v_j11))) 1)))] (fun w hh=>(show (0:Int)≤1 by decide))<|Ad 1 [.c [0,1,0,1,1,0,0,0,1,0,1,0],.c [0,1,0,1,1,0,0,0,1,0,1,1],.b 1,.l [0,1,0,1,1,0,0,0],.b 0,.c [0,1,0,1,1,1],.c [1]]<|Kp [0,1,4,10,11,12] [(0,.slice Aa0 a0.length ca0),(1,iv a1),(4,.func (.func 72) #[] #[]),(10,iv v_i10),(11,iv v_j11),(12,iv (w64 (iShr .u64 (IntKind.wrap .u64 (w64 (v_i10+v_j11))) 1)))] ?_
   refine RunH.draw (fun w=>Heap H w0 w (cha0::F)) (fun w=>Heap H w0 w (cha0::F)) [3,3,3,3,3,3,3,3,3,0,3] (n:=11) (ls:=[false,false,false,false,false,false,false,false,false,false,false]) (by kernel_rfl) (by kernel_rfl) (by kernel_rfl) rfl ?_
   obtain ⟨x4,hx4,heq⟩:=bind_some heq
   obtain ⟨ha7,cs7,hK7,hcc7⟩:=hoa0.get hx4
   obtain ⟨rfl⟩:=kBlob_open hK7
   obtain ⟨x5,hx5,heq⟩:=bind_some heq
   obtain ⟨ha8,cs8,hK8,hcc8⟩:=hoa0.get hx5
   obtain ⟨rfl⟩:=kBlob_open hK8
   refine Dk [0,1,2,3,4,5,6,7,8] 2 (nb 11 511) [.string x4.Digest,iv x4.Size,iv x4.Used,iv x4.Until,iv x4.Pins,.string x5.Digest,iv x5.Size,iv x5.Used,iv x5.Until,iv x5.Pins] [.need (Aa0=some (adr Aa0)∧(0:Int)≤(w64 (iShr .u64 (IntKind.wrap .u64 (w64 (v_i10+v_j11))) 1))∧(w64 (iShr .u64 (IntKind.wrap .u64 (w64 (v_i10+v_j11))) 1))<((a0.length:Nat):Int)),.load (((adr Aa0).add ((w64 (iShr .u64 (IntKind.wrap .u64 (w64 (v_i10+v_j11))) 1)).toNat*5)).add 0) (.string x4.Digest),.load (((adr Aa0).add ((w64 (iShr .u64 (IntKind.wrap .u64 (w64 (v_i10+v_j11))) 1)).toNat*5)).add 1) (iv x4.Size),.load (((adr Aa0).add ((w64 (iShr .u64 (IntKind.wrap .u64 (w64 (v_i10+v_j11))) 1)).toNat*5)).add 2) (iv x4.Used),.load (((adr Aa0).add ((w64 (iShr .u64 (IntKind.wrap .u64 (w64 (v_i10+v_j11))) 1)).toNat*5)).add 3) (iv x4.Until),.load (((adr Aa0).add ((w64 (iShr .u64 (IntKind.wrap .u64 (w64 (v_i10+v_j11))) 1)).toNat*5)).add 4) (iv x4.Pins),.need (Aa0=some (adr Aa0)∧(0:Int)≤a1∧a1<((a0.length:Nat):Int)),.load (((adr Aa0).add (a1.toNat*5)).add 0) (.string x5.Digest),.load (((adr Aa0).add (a1.toNat*5)).add 1) (iv x5.Size),.load (((adr Aa0).add (a1.toNat*5)).add 2) (iv x5.Used),.load (((adr Aa0).add (a1.toNat*5)).add 3) (iv x5.Until),.load (((adr Aa0).add (a1.toNat*5)).add 4) (iv x5.Pins)] [0,1,4,10,11,12,40,44,48] [(0,.slice Aa0 a0.length ca0),(1,iv a1),(4,.func (.func 72) #[] #[]),(10,iv v_i10),(11,iv v_j11),(12,iv (w64 (iShr .u64 (IntKind.wrap .u64 (w64 (v_i10+v_j11))) 1))),(40,.func (.func 72) #[] #[]),(44,.agg #[.string x4.Digest,iv x4.Size,iv x4.Used,iv x4.Until,iv x4.Pins]),(48,.agg #[.string x5.Digest,iv x5.Size,iv x5.Used,iv x5.Until,iv x5.Pins])] (Pk 1 [0]) (Pk 1 [0]) (fun w hh=>⟨⟨ha7,(at?_some hx4).1,(at?_some hx4).2.1⟩,(hcc7 _ (hh.chin 0 rfl) 0 _ rfl),(hcc7 _ (hh.chin 0 rfl) 1 _ rfl),(hcc7 _ (hh.chin 0 rfl) 2 _ rfl),(hcc7 _ (hh.chin 0 rfl) 3 _ rfl),(hcc7 _ (hh.chin 0 rfl) 4 _ rfl),⟨ha8,(at?_some hx5).1,(at?_some hx5).2.1⟩,(hcc8 _ (hh.chin 0 rfl) 0 _ rfl),(hcc8 _ (hh.chin 0 rfl) 1 _ rfl),(hcc8 _ (hh.chin 0 rfl) 2 _ rfl),(hcc8 _ (hh.chin 0 rfl) 3 _ rfl),(hcc8 _ (hh.chin 0 rfl) 4 _ rfl)⟩) ?_
   obtain ⟨y1,hy1,heq⟩:=bind_some heq
   refine DrH.does (n:=1) (ls':=[true,true,true,true,true,true,true,true,true,true,false]) 9 (by kernel_rfl) rfl (DoesH.call (d:=49) (g:=72) (args:=#[.agg #[.string x4.Digest,iv x4.Size,iv x4.Used,iv x4.Until,iv x4.Pins],.agg #[.string x5.Digest,iv x5.Size,iv x5.Used,iv x5.Until,iv x5.Pins]]) (by kernel_rfl) (cache_leaving_2_c (a0:=x4) (a1:=x5)  hy1)) ?_
   rintro _ _ _ _ ⟨_,rfl,rfl,rfl,rfl⟩
   refine ⟨fun _ w hh=>⟨fun _=>(Pk 1 [0]) w hh,fun _=>(Pk 1 [0]) w hh,(fun h=>by cases h)⟩,?_⟩
   refine Dk [10] 0 (nb 11 2047) [] [] [0,1,4,10,11,12,50] [(0,.slice Aa0 a0.length ca0),(1,iv a1),(4,.func (.func 72) #[] #[]),(10,iv v_i10),(11,iv v_j11),(12,iv (w64 (iShr .u64 (IntKind.wrap .u64 (w64 (v_i10+v_j11))) 1))),(50,.bool (decide (y1<0)))] (Pk 1 [0]) (Pk 1 [0]) (fun _ _=>trivial) ?_
   refine DrH.done (by kernel_rfl) ?_
   rcases bool_cases (decide (y1<0)) with hb4 | hb4
   ·replace heq:=bif_true hb4 heq
    refine Ct (decide (y1<0)) hb4<|Rr<|Rd 3 [0,1,4,10,11] [(0,.slice Aa0 a0.length ca0),(1,iv a1),(4,.func (.func 72) #[] #[]),(10,iv (w64 ((w64 (iShr .u64 (IntKind.wrap .u64 (w64 (v_i10+v_j11))) 1))+1))),(11,iv v_j11)]<|Ad 2 [.c [0,1,0,1,1,0,0,0],.l [0,1,0,1,1,0,0,0],.b 0,.c [0,1,0,1,1,1],.c [1]]<|Kp [0,1,4,10,11] [(0,.slice Aa0 a0.length ca0),(1,iv a1),(4,.func (.func 72) #[] #[]),(10,iv (w64 ((w64 (iShr .u64 (IntKind.wrap .u64 (w64 (v_i10+v_j11))) 1))+1))),(11,iv v_j11)] ?_
    exact ihk a0 _ _ _ _ a1 (w64 ((w64 (iShr .u64 (IntKind.wrap .u64 (w64 (v_i10+v_j11))) 1))+1)) v_j11 hoa0 hla0 heq
   ·replace heq:=bif_false hb4 heq
    refine Cf (decide (y1<0)) hb4<|Rr<|Rd 2 [0,1,4,10,11] [(0,.slice Aa0 a0.length ca0),(1,iv a1),(4,.func (.func 72) #[] #[]),(10,iv v_i10),(11,iv (w64 (iShr .u64 (IntKind.wrap .u64 (w64 (v_i10+v_j11))) 1)))]<|Ad 2 [.c [0,1,0,1,1,0,0,0],.l [0,1,0,1,1,0,0,0],.b 0,.c [0,1,0,1,1,1],.c [1]]<|Kp [0,1,4,10,11] [(0,.slice Aa0 a0.length ca0),(1,iv a1),(4,.func (.func 72) #[] #[]),(10,iv v_i10),(11,iv (w64 (iShr .u64 (IntKind.wrap .u64 (w64 (v_i10+v_j11))) 1)))] ?_
    exact ihk a0 _ _ _ _ a1 v_i10 (w64 (iShr .u64 (IntKind.wrap .u64 (w64 (v_i10+v_j11))) 1)) hoa0 hla0 heq
  ·replace heq:=bif_false hb3 heq
   refine Cf (decide (v_i10<v_j11)) hb3<|Ad 3 [.c [0,1,0,1,1,1,0,0],.c [0,1,0,1,1,1,0,1],.c [0,1,0,1,1,1,1],.c [1]]<|Kp [0,1,10] [(0,.slice Aa0 a0.length ca0),(1,iv a1),(10,iv v_i10)] ?_
   exact he1 a0 _ _ _ _ a1 v_i10 hoa0 hla0 heq
theorem slices_symMergeCmpFunc_Blob.l5_c {w0:World} {H:Hp} {F:List Ch} {r:(List Blob)}:∀ (k:Nat),∀ (Aa0:Option Addr) (ca0:Nat) (la0:Nat) (v_i14:Int) (v_data0:List Blob) (chv_data0:Ch) (nv_data0:Nat) (v_k17:Int) ,nv_data0=v_data0.length→la0=nv_data0→SlOwn kBlob 29 H Aa0 ca0 v_data0 chv_data0→slices_symMergeCmpFunc_Blob.l5 k v_i14 v_data0 v_k17=some r→RunH C86 (S86 F H Aa0 ca0 la0 r) H w0 [.c [1,0,1,0,1,1,1,0,1,0,0],.l [1,0,1,0,1,1,1,0,1,0,0],.b 6,.c [1,0,1,0,1,1,1,1],.c [1,1]] [(0,.slice Aa0 nv_data0 ca0),(14,iv v_i14),(17,iv v_k17)] H (chv_data0::F):=by
 intro k
 induction k with
 | zero=>intro Aa0 ca0 la0 v_i14 v_data0 chv_data0 nv_data0 v_k17 hnv_data0 hlv_data0 hov_data0 heq; exact nomatch (show (none:Option (List Blob))=some r from heq)
 | succ k ihk =>
  intro Aa0 ca0 la0 v_i14 v_data0 chv_data0 nv_data0 v_k17 hnv_data0 hlv_data0 hov_data0 heq
  subst hnv_data0
  rw [slices_symMergeCmpFunc_Blob.l5] at heq
  refine Ra 2 [1,0,1,0,1,1,1,0,1,0,0,0,0] [.c [1,0,1,0,1,1,1,0,1,0,0,0,1],.c [1,0,1,0,1,1,1,0,1,0,0,1],.l [1,0,1,0,1,1,1,0,1,0,0],.b 6,.c [1,0,1,0,1,1,1,1],.c [1,1]]<|Rd 3 [0,14,17,110] [(0,.slice Aa0 v_data0.length ca0),(14,iv v_i14),(17,iv v_k17),(110,.bool (decide (v_i14<v_k17)))] ?_
  rcases bool_cases (decide (v_i14<v_k17)) with hb6 | hb6
  ·replace heq:=bif_true hb6 heq
   refine Ct (decide (v_i14<v_k17)) hb6<|Ad 3 [.c [1,0,1,0,1,1,1,0,1,0,0,1,0,0],.b 7,.c [1,0,1,0,1,1,1,0,1,0,0,1,1],.l [1,0,1,0,1,1,1,0,1,0,0],.b 6,.c [1,0,1,0,1,1,1,1],.c [1,1]]<|Kp [0,14,17] [(0,.slice Aa0 v_data0.length ca0),(14,iv v_i14),(17,iv v_k17)] ?_
   refine RunH.draw (fun w=>Heap H w0 w (chv_data0::F)) (fun w=>Heap H w0 w (F)) [3,3,3,3,3,3,3,3,3,3,3,3,3,3,3,1,3,2] (n:=18) (ls:=[false,false,false,false,false,false,false,false,false,false,false,false,false,false,false,false,false,false]) (by kernel_rfl) (by kernel_rfl) (by kernel_rfl) rfl ?_
   refine Dk [0,1] 16 (nb 18 3) [] [] [0,14,17,113,114] [(0,.slice Aa0 v_data0.length ca0),(14,iv v_i14),(17,iv v_k17),(113,.slice Aa0 v_data0.length ca0),(114,iv v_k17)] (Pk 1 [0]) (Pk 1 []) (fun _ _=>trivial)<|De [2,3,4] 13 (nb 18 31) [] [] [0,14,17,113,114,115,117] [(0,.slice Aa0 v_data0.length ca0),(14,iv v_i14),(17,iv v_k17),(113,.slice Aa0 v_data0.length ca0),(114,iv v_k17),(115,.slice Aa0 v_data0.length ca0),(117,iv (w64 (v_k17 - 1)))] (Pk 1 []) (fun _ _=>trivial) ?_
   obtain ⟨x6,hx6,heq⟩:=bind_some heq
   obtain ⟨ha9,cs9,hK9,hcc9⟩:=hov_data0.get hx6
   obtain ⟨rfl⟩:=kBlob_open hK9
   refine Dk [5,6,7,8,9] 8 (nb 18 1023) [.string x6.Digest,iv x6.Size,iv x6.Used,iv x6.Until,iv x6.Pins] [.need (Aa0=some (adr Aa0)∧(0:Int)≤(w64 (v_k17 - 1))∧(w64 (v_k17 - 1))<((v_data0.length:Nat):Int)),.load (((adr Aa0).add ((w64 (v_k17 - 1)).toNat*5)).add 0) (.string x6.Digest),.load (((adr Aa0).add ((w64 (v_k17 - 1)).toNat*5)).add 1) (iv x6.Size),.load (((adr Aa0).add ((w64 (v_k17 - 1)).toNat*5)).add 2) (iv x6.Used),.load (((adr Aa0).add ((w64 (v_k17 - 1)).toNat*5)).add 3) (iv x6.Until),.load (((adr Aa0).add ((w64 (v_k17 - 1)).toNat*5)).add 4) (iv x6.Pins)] [0,14,17,113,114,115,117,122] [(0,.slice Aa0 v_data0.length ca0),(14,iv v_i14),(17,iv v_k17),(113,.slice Aa0 v_data0.length ca0),(114,iv v_k17),(115,.slice Aa0 v_data0.length ca0),(117,iv (w64 (v_k17 - 1))),(122,.agg #[.string x6.Digest,iv x6.Size,iv x6.Used,iv x6.Until,iv x6.Pins])] (Pk 1 [0]) (Pk 1 []) (fun w hh=>⟨⟨ha9,(at?_some hx6).1,(at?_some hx6).2.1⟩,(hcc9 _ (hh.chin 0 rfl) 0 _ rfl),(hcc9 _ (hh.chin 0 rfl) 1 _ rfl),(hcc9 _ (hh.chin 0 rfl) 2 _ rfl),(hcc9 _ (hh.chin 0 rfl) 3 _ rfl),(hcc9 _ (hh.chin 0 rfl) 4 _ rfl)⟩) ?_
   obtain ⟨x7,hx7,heq⟩:=bind_some heq
   obtain ⟨ha10,cs10,hK10,hcc10⟩:=hov_data0.get hx7
   obtain ⟨rfl⟩:=kBlob_open hK10
   refine De [10,11,12] 5 (nb 18 8191) [] [.need (Aa0=some (adr Aa0)∧(0:Int)≤v_k17∧v_k17<((v_data0.length:Nat):Int))] [0,14,17,113,114,115,117,122,125] [(0,.slice Aa0 v_data0.length ca0),(14,iv v_i14),(17,iv v_k17),(113,.slice Aa0 v_data0.length ca0),(114,iv v_k17),(115,.slice Aa0 v_data0.length ca0),(117,iv (w64 (v_k17 - 1))),(122,.agg #[.string x6.Digest,iv x6.Size,iv x6.Used,iv x6.Until,iv x6.Pins]),(125,.pointer (some ((adr Aa0).add (v_k17.toNat*5))))] (Pk 1 []) (fun w hh=>⟨ha10,(at?_some hx7).1,(at?_some hx7).2.1⟩) ?_
   obtain ⟨ha11,cs11,hK11,hcc11⟩:=hov_data0.get hx7
   obtain ⟨rfl⟩:=kBlob_open hK11
   refine Dk [13,14] 3 (nb 18 32767) [.string x7.Digest,iv x7.Size,iv x7.Used,iv x7.Until,iv x7.Pins] [.load (((adr Aa0).add (v_k17.toNat*5)).add 0) (.string x7.Digest),.load (((adr Aa0).add (v_k17.toNat*5)).add 1) (iv x7.Size),.load (((adr Aa0).add (v_k17.toNat*5)).add 2) (iv x7.Used),.load (((adr Aa0).add (v_k17.toNat*5)).add 3) (iv x7.Until),.load (((adr Aa0).add (v_k17.toNat*5)).add 4) (iv x7.Pins),.need (Aa0=some (adr Aa0)∧(0:Int)≤v_k17∧v_k17<((v_data0.length:Nat):Int))] [0,14,17,115,117,122,126,127] [(0,.slice Aa0 v_data0.length ca0),(14,iv v_i14),(17,iv v_k17),(115,.slice Aa0 v_data0.length ca0),(117,iv (w64 (v_k17 - 1))),(122,.agg #[.string x6.Digest,iv x6.Size,iv x6.Used,iv x6.Until,iv x6.Pins]),(126,.agg #[.string x7.Digest,iv x7.Size,iv x7.Used,iv x7.Until,iv x7.Pins]),(127,.pointer (some ((adr Aa0).add (v_k17.toNat*5))))] (Pk 1 [0]) (Pk 1 []) (fun w hh=>⟨(hcc11 _ (hh.chin 0 rfl) 0 _ rfl),(hcc11 _ (hh.chin 0 rfl) 1 _ rfl),(hcc11 _ (hh.chin 0 rfl) 2 _ rfl),(hcc11 _ (hh.chin 0 rfl) 3 _ rfl),(hcc11 _ (hh.chin 0 rfl) 4 _ rfl),⟨ha11,(at?_some hx7).1,(at?_some hx7).2.1⟩⟩) ?_
   obtain ⟨ha12,cs12,hK12,hcc12⟩:=hov_data0.get hx7
   obtain ⟨rfl⟩:=kBlob_open hK12
   refine DrH.does (n:=2) (ls':=[true,true,true,true,true,true,true,true,true,true,true,true,true,true,true,true,false,false]) 15 (by kernel_rfl) rfl (DoesH.storeEl (a:=((adr Aa0).add (v_k17.toNat*5))) (k:=0) (kd:=kBlob) (c0:=[.string x7.Digest,iv x7.Size,iv x7.Used,iv x7.Until,iv x7.Pins]) (x':=x6) (o:=0) (ix:=v_k17) (v:=.agg #[.string x6.Digest,iv x6.Size,iv x6.Used,iv x6.Until,iv x6.Pins]) (by kernel_rfl) rfl hov_data0 hx7 (by kernel_rfl) hcc12 rfl (Nat.le_of_ble_eq_true (by kernel_rfl)) kBlob_mk) ?_
   rintro _ _ _ _ ⟨ch3,rfl,rfl,rfl,ho3⟩
   have hn3:v_data0.length=(v_data0.set v_k17.toNat x6).length:=by rw [List.length_set]
   refine ⟨fun _ w hh=>⟨(fun h=>by cases h),fun _=>(Pk 1 []) w hh,(fun h=>by cases h)⟩,?_⟩
   obtain ⟨x8,hx8,heq⟩:=bind_some heq
   obtain ⟨ha13,cs13,hK13,hcc13⟩:=ho3.get hx8
   obtain ⟨rfl⟩:=kBlob_open hK13
   refine De [16] 1 (nb 18 131071) [] [.need (Aa0=some (adr Aa0)∧(0:Int)≤(w64 (v_k17 - 1))∧(w64 (v_k17 - 1))<((v_data0.length:Nat):Int))] [0,14,17,126,128] [(0,.slice Aa0 v_data0.length ca0),(14,iv v_i14),(17,iv v_k17),(126,.agg #[.string x7.Digest,iv x7.Size,iv x7.Used,iv x7.Until,iv x7.Pins]),(128,.pointer (some ((adr Aa0).add ((w64 (v_k17 - 1)).toNat*5))))] (Pk 1 []) (fun w hh=>⟨ha13,(at?_some hx8).1,(by have:=(at?_some hx8).2.1; have:=hn3; omega)⟩) ?_
   obtain ⟨ha14,cs14,hK14,hcc14⟩:=ho3.get hx8
   obtain ⟨rfl⟩:=kBlob_open hK14
   refine DrH.does (n:=0) (ls':=[true,true,true,true,true,true,true,true,true,true,true,true,true,true,true,true,true,true]) 17 (by kernel_rfl) rfl (DoesH.storeEl (a:=((adr Aa0).add ((w64 (v_k17 - 1)).toNat*5))) (k:=0) (kd:=kBlob) (c0:=[.string x8.Digest,iv x8.Size,iv x8.Used,iv x8.Until,iv x8.Pins]) (x':=x7) (o:=0) (ix:=(w64 (v_k17 - 1))) (v:=.agg #[.string x7.Digest,iv x7.Size,iv x7.Used,iv x7.Until,iv x7.Pins]) (by kernel_rfl) rfl ho3 hx8 (by kernel_rfl) hcc14 rfl (Nat.le_of_ble_eq_true (by kernel_rfl)) kBlob_mk) ?_
   rintro _ _ _ _ ⟨ch4,rfl,rfl,rfl,ho4⟩
   have hn4:v_data0.length=((v_data0.set v_k17.toNat x6).set (w64 (v_k17 - 1)).toNat x7).length:=by rw [List.length_set]; exact hn3
   refine ⟨fun _ w hh=>⟨(fun h=>by cases h),(fun h=>absurd h (by decide)),(fun h=>by cases h)⟩,?_⟩
   refine Kr [0,14,17] [(0,.slice Aa0 v_data0.length ca0),(14,iv v_i14),(17,iv v_k17)] ?_
   refine DrH.done (by kernel_rfl) ?_
   refine Ra 1 [1,0,1,0,1,1,1,0,1,0,0,1,1] [.l [1,0,1,0,1,1,1,0,1,0,0],.b 6,.c [1,0,1,0,1,1,1,1],.c [1,1]]<|Rd 3 [0,14,17] [(0,.slice Aa0 v_data0.length ca0),(14,iv v_i14),(17,iv (w64 (v_k17 - 1)))]<|Ad 1 [.c [1,0,1,0,1,1,1,0,1,0,0],.l [1,0,1,0,1,1,1,0,1,0,0],.b 6,.c [1,0,1,0,1,1,1,1],.c [1,1]]<|Kp [0,14,17] [(0,.slice Aa0 v_data0.length ca0),(14,iv v_i14),(17,iv (w64 (v_k17 - 1)))] ?_
   exact ihk _ _ _ v_i14 ((v_data0.set v_k17.toNat x6).set (w64 (v_k17 - 1)).toNat x7) _ _ (w64 (v_k17 - 1)) hn4 hlv_data0 ho4 heq
  ·replace heq:=bif_false hb6 heq
   refine Cf (decide (v_i14<v_k17)) hb6<|Ad 1 [.c [1,0,1,0,1,1,1,1],.c [1,1]] ?_
   obtain rfl:=Option.some.inj heq
   exact RunH.done (by kernel_rfl) Tryd.func86 (v:=.tuple #[]) (by kernel_rfl) ⟨chv_data0,rfl,rfl,rfl,hov_data0,(hlv_data0.trans rfl)⟩
theorem slices_symMergeCmpFunc_Blob.e4_c {w0:World} {H:Hp} {F:List Ch} {r:(List Blob)}:∀ (a0:List Blob) (Aa0:Option Addr) (ca0:Nat) (cha0:Ch) (la0:Nat) (a2:Int) (v_i14:Int) ,SlOwn kBlob 29 H Aa0 ca0 a0 cha0→la0=a0.length→slices_symMergeCmpFunc_Blob.e4 a0 a2 v_i14=some r→RunH C86 (S86 F H Aa0 ca0 la0 r) H w0 [.c [1,0,1,0,1,1,1,0,0],.c [1,0,1,0,1,1,1,0,1],.c [1,0,1,0,1,1,1,1],.c [1,1]] [(0,.slice Aa0 a0.length ca0),(2,iv a2),(14,iv v_i14)] H (cha0::F):=by
 intro a0 Aa0 ca0 cha0 la0 a2 v_i14 hoa0 hla0 heq
 unfold slices_symMergeCmpFunc_Blob.e4 at heq
 refine Rr<|Rd 2 [0,14,17] [(0,.slice Aa0 a0.length ca0),(14,iv v_i14),(17,iv a2)]<|Ad 2 [.c [1,0,1,0,1,1,1,0,1,0,0],.l [1,0,1,0,1,1,1,0,1,0,0],.b 6,.c [1,0,1,0,1,1,1,1],.c [1,1]]<|Kp [0,14,17] [(0,.slice Aa0 a0.length ca0),(14,iv v_i14),(17,iv a2)] ?_
 exact ((slices_symMergeCmpFunc_Blob.l5_c) big) _ _ _ v_i14 a0 _ _ a2 rfl hla0 hoa0 heq
theorem slices_symMergeCmpFunc_Blob.l6_c {w0:World} {H:Hp} {F:List Ch} {r:(List Blob)} (e4:(List Blob)→Int→Int→Option (List Blob))
  (he4:∀ (a0:List Blob) (Aa0:Option Addr) (ca0:Nat) (cha0:Ch) (la0:Nat) (a2:Int) (v_i14:Int) ,SlOwn kBlob 29 H Aa0 ca0 a0 cha0→la0=a0.length→e4 a0 a2 v_i14=some r→RunH C86 (S86 F H Aa0 ca0 la0 r) H w0 [.c [1,0,1,0,1,1,1,0,0],.c [1,0,1,0,1,1,1,0,1],.c [1,0,1,0,1,1,1,1],.c [1,1]] [(0,.slice Aa0 a0.length ca0),(2,iv a2),(14,iv v_i14)] H (cha0::F)):∀ (k:Nat),∀ (a0:List Blob) (Aa0:Option Addr) (ca0:Nat) (cha0:Ch) (la0:Nat) (a2:Int) (v_i14:Int) (v_j15:Int) ,SlOwn kBlob 29 H Aa0 ca0 a0 cha0→la0=a0.length→slices_symMergeCmpFunc_Blob.l6 e4 k a0 a2 v_i14 v_j15=some r→RunH C86 (S86 F H Aa0 ca0 la0 r) H w0 [.c [1,0,1,0,1,1,0,0,0],.l [1,0,1,0,1,1,0,0,0],.b 4,.c [1,0,1,0,1,1,1],.c [1,1]] [(0,.slice Aa0 a0.length ca0),(2,iv a2),(4,.func (.func 72) #[] #[]),(14,iv v_i14),(15,iv v_j15)] H (cha0::F):=by
 intro k
 induction k with
 | zero=>intro a0 Aa0 ca0 cha0 la0 a2 v_i14 v_j15 hoa0 hla0 heq; exact nomatch (show (none:Option (List Blob))=some r from heq)
 | succ k ihk =>
  intro a0 Aa0 ca0 cha0 la0 a2 v_i14 v_j15 hoa0 hla0 heq
  rw [slices_symMergeCmpFunc_Blob.l6] at heq
  refine Ra 2 [1,0,1,0,1,1,0,0,0,0,0] [.c [1,0,1,0,1,1,0,0,0,0,1],.c [1,0,1,0,1,1,0,0,0,1],.l [1,0,1,0,1,1,0,0,0],.b 4,.c [1,0,1,0,1,1,1],.c [1,1]]<|Rd 3 [0,2,4,14,15,85] [(0,.slice Aa0 a0.length ca0),(2,iv a2),(4,.func (.func 72) #[] #[]),(14,iv v_i14),(15,iv v_j15),(85,.bool (decide (v_i14<v_j15)))] ?_
  rcases bool_cases (decide (v_i14<v_j15)) with hb7 | hb7
  ·replace heq:=bif_true hb7 heq
   refine Ct (decide (v_i14<v_j15)) hb7<|Ra 3 [1,0,1,0,1,1,0,0,0,1,0,0] [.c [1,0,1,0,1,1,0,0,0,1,0,1],.b 5,.l [1,0,1,0,1,1,0,0,0],.b 4,.c [1,0,1,0,1,1,1],.c [1,1]]<|Rw' 7 [0,2,4,14,15,16] [] [.need ((0:Int)≤1)] [(0,.slice Aa0 a0.length ca0),(2,iv a2),(4,.func (.func 72) #[] #[]),(14,iv v_i14),(15,iv v_j15),(16,iv (w64 (iShr .u64 (IntKind.wrap .u64 (w64 (v_i14+v_j15))) 1)))] (fun w hh=>(show (0:Int)≤1 by decide))<|Ad 1 [.c [1,0,1,0,1,1,0,0,0,1,0,1,0],.c [1,0,1,0,1,1,0,0,0,1,0,1,1],.b 5,.l [1,0,1,0,1,1,0,0,0],.b 4,.c [1,0,1,0,1,1,1],.c [1,1]]<|Kp [0,2,4,14,15,16] [(0,.slice Aa0 a0.length ca0),(2,iv a2),(4,.func (.func 72) #[] #[]),(14,iv v_i14),(15,iv v_j15),(16,iv (w64 (iShr .u64 (IntKind.wrap .u64 (w64 (v_i14+v_j15))) 1)))] ?_
   refine RunH.draw (fun w=>Heap H w0 w (cha0::F)) (fun w=>Heap H w0 w (cha0::F)) [3,3,3,3,3,3,3,3,3,0,3,3] (n:=12) (ls:=[false,false,false,false,false,false,false,false,false,false,false,false]) (by kernel_rfl) (by kernel_rfl) (by kernel_rfl) rfl ?_
   obtain ⟨x9,hx9,heq⟩:=bind_some heq
   obtain ⟨ha15,cs15,hK15,hcc15⟩:=hoa0.get hx9
   obtain ⟨rfl⟩:=kBlob_open hK15
   obtain ⟨x10,hx10,heq⟩:=bind_some heq
   obtain ⟨ha16,cs16,hK16,hcc16⟩:=hoa0.get hx10
   obtain ⟨rfl⟩:=kBlob_open hK16
   refine Dk [0,1,2,3,4,5,6,7,8] 3 (nb 12 511) [.string x9.Digest,iv x9.Size,iv x9.Used,iv x9.Until,iv x9.Pins,.string x10.Digest,iv x10.Size,iv x10.Used,iv x10.Until,iv x10.Pins] [.need (Aa0=some (adr Aa0)∧(0:Int)≤a2∧a2<((a0.length:Nat):Int)),.load (((adr Aa0).add (a2.toNat*5)).add 0) (.string x9.Digest),.load (((adr Aa0).add (a2.toNat*5)).add 1) (iv x9.Size),.load (((adr Aa0).add (a2.toNat*5)).add 2) (iv x9.Used),.load (((adr Aa0).add (a2.toNat*5)).add 3) (iv x9.Until),.load (((adr Aa0).add (a2.toNat*5)).add 4) (iv x9.Pins),.need (Aa0=some (adr Aa0)∧(0:Int)≤(w64 (iShr .u64 (IntKind.wrap .u64 (w64 (v_i14+v_j15))) 1))∧(w64 (iShr .u64 (IntKind.wrap .u64 (w64 (v_i14+v_j15))) 1))<((a0.length:Nat):Int)),.load (((adr Aa0).add ((w64 (iShr .u64 (IntKind.wrap .u64 (w64 (v_i14+v_j15))) 1)).toNat*5)).add 0) (.string x10.Digest),.load (((adr Aa0).add ((w64 (iShr .u64 (IntKind.wrap .u64 (w64 (v_i14+v_j15))) 1)).toNat*5)).add 1) (iv x10.Size),.load (((adr Aa0).add ((w64 (iShr .u64 (IntKind.wrap .u64 (w64 (v_i14+v_j15))) 1)).toNat*5)).add 2) (iv x10.Used),.load (((adr Aa0).add ((w64 (iShr .u64 (IntKind.wrap .u64 (w64 (v_i14+v_j15))) 1)).toNat*5)).add 3) (iv x10.Until),.load (((adr Aa0).add ((w64 (iShr .u64 (IntKind.wrap .u64 (w64 (v_i14+v_j15))) 1)).toNat*5)).add 4) (iv x10.Pins)] [0,2,4,14,15,16,92,96,100] [(0,.slice Aa0 a0.length ca0),(2,iv a2),(4,.func (.func 72) #[] #[]),(14,iv v_i14),(15,iv v_j15),(16,iv (w64 (iShr .u64 (IntKind.wrap .u64 (w64 (v_i14+v_j15))) 1))),(92,.func (.func 72) #[] #[]),(96,.agg #[.string x9.Digest,iv x9.Size,iv x9.Used,iv x9.Until,iv x9.Pins]),(100,.agg #[.string x10.Digest,iv x10.Size,iv x10.Used,iv x10.Until,iv x10.Pins])] (Pk 1 [0]) (Pk 1 [0]) (fun w hh=>⟨⟨ha15,(at?_some hx9).1,(at?_some hx9).2.1⟩,(hcc15 _ (hh.chin 0 rfl) 0 _ rfl),(hcc15 _ (hh.chin 0 rfl) 1 _ rfl),(hcc15 _ (hh.chin 0 rfl) 2 _ rfl),(hcc15 _ (hh.chin 0 rfl) 3 _ rfl),(hcc15 _ (hh.chin 0 rfl) 4 _ rfl),⟨ha16,(at?_some hx10).1,(at?_some hx10).2.1⟩,(hcc16 _ (hh.chin 0 rfl) 0 _ rfl),(hcc16 _ (hh.chin 0 rfl) 1 _ rfl),(hcc16 _ (hh.chin 0 rfl) 2 _ rfl),(hcc16 _ (hh.chin 0 rfl) 3 _ rfl),(hcc16 _ (hh.chin 0 rfl) 4 _ rfl)⟩) ?_
   obtain ⟨y2,hy2,heq⟩:=bind_some heq
   refine DrH.does (n:=2) (ls':=[true,true,true,true,true,true,true,true,true,true,false,false]) 9 (by kernel_rfl) rfl (DoesH.call (d:=101) (g:=72) (args:=#[.agg #[.string x9.Digest,iv x9.Size,iv x9.Used,iv x9.Until,iv x9.Pins],.agg #[.string x10.Digest,iv x10.Size,iv x10.Used,iv x10.Until,iv x10.Pins]]) (by kernel_rfl) (cache_leaving_2_c (a0:=x9) (a1:=x10)  hy2)) ?_
   rintro _ _ _ _ ⟨_,rfl,rfl,rfl,rfl⟩
   refine ⟨fun _ w hh=>⟨fun _=>(Pk 1 [0]) w hh,fun _=>(Pk 1 [0]) w hh,(fun h=>by cases h)⟩,?_⟩
   refine Dk [10,11] 0 (nb 12 4095) [] [] [0,2,4,14,15,16,103] [(0,.slice Aa0 a0.length ca0),(2,iv a2),(4,.func (.func 72) #[] #[]),(14,iv v_i14),(15,iv v_j15),(16,iv (w64 (iShr .u64 (IntKind.wrap .u64 (w64 (v_i14+v_j15))) 1))),(103,.bool (!(decide (y2<0))))] (Pk 1 [0]) (Pk 1 [0]) (fun _ _=>trivial) ?_
   refine DrH.done (by kernel_rfl) ?_
   rcases bool_cases (!(decide (y2<0))) with hb8 | hb8
   ·replace heq:=bif_true hb8 heq
    refine Ct (!(decide (y2<0))) hb8<|Rr<|Rd 3 [0,2,4,14,15] [(0,.slice Aa0 a0.length ca0),(2,iv a2),(4,.func (.func 72) #[] #[]),(14,iv (w64 ((w64 (iShr .u64 (IntKind.wrap .u64 (w64 (v_i14+v_j15))) 1))+1))),(15,iv v_j15)]<|Ad 2 [.c [1,0,1,0,1,1,0,0,0],.l [1,0,1,0,1,1,0,0,0],.b 4,.c [1,0,1,0,1,1,1],.c [1,1]]<|Kp [0,2,4,14,15] [(0,.slice Aa0 a0.length ca0),(2,iv a2),(4,.func (.func 72) #[] #[]),(14,iv (w64 ((w64 (iShr .u64 (IntKind.wrap .u64 (w64 (v_i14+v_j15))) 1))+1))),(15,iv v_j15)] ?_
    exact ihk a0 _ _ _ _ a2 (w64 ((w64 (iShr .u64 (IntKind.wrap .u64 (w64 (v_i14+v_j15))) 1))+1)) v_j15 hoa0 hla0 heq
   ·replace heq:=bif_false hb8 heq
    refine Cf (!(decide (y2<0))) hb8<|Rr<|Rd 2 [0,2,4,14,15] [(0,.slice Aa0 a0.length ca0),(2,iv a2),(4,.func (.func 72) #[] #[]),(14,iv v_i14),(15,iv (w64 (iShr .u64 (IntKind.wrap .u64 (w64 (v_i14+v_j15))) 1)))]<|Ad 2 [.c [1,0,1,0,1,1,0,0,0],.l [1,0,1,0,1,1,0,0,0],.b 4,.c [1,0,1,0,1,1,1],.c [1,1]]<|Kp [0,2,4,14,15] [(0,.slice Aa0 a0.length ca0),(2,iv a2),(4,.func (.func 72) #[] #[]),(14,iv v_i14),(15,iv (w64 (iShr .u64 (IntKind.wrap .u64 (w64 (v_i14+v_j15))) 1)))] ?_
    exact ihk a0 _ _ _ _ a2 v_i14 (w64 (iShr .u64 (IntKind.wrap .u64 (w64 (v_i14+v_j15))) 1)) hoa0 hla0 heq
  ·replace heq:=bif_false hb7 heq
   refine Cf (decide (v_i14<v_j15)) hb7<|Ad 3 [.c [1,0,1,0,1,1,1,0,0],.c [1,0,1,0,1,1,1,0,1],.c [1,0,1,0,1,1,1,1],.c [1,1]]<|Kp [0,2,14] [(0,.slice Aa0 a0.length ca0),(2,iv a2),(14,iv v_i14)] ?_
   exact he4 a0 _ _ _ _ a2 v_i14 hoa0 hla0 heq
theorem slices_symMergeCmpFunc_Blob.j11_c {w0:World} {H:Hp} {F:List Ch} {r:(List Blob)}:∀ (Aa0:Option Addr) (ca0:Nat) (la0:Nat) (v_data0:List Blob) (chv_data0:Ch) (nv_data0:Nat) ,nv_data0=v_data0.length→la0=nv_data0→SlOwn kBlob 29 H Aa0 ca0 v_data0 chv_data0→slices_symMergeCmpFunc_Blob.j11 v_data0=some r→RunH C86 (S86 F H Aa0 ca0 la0 r) H w0 [] [(0,.slice Aa0 nv_data0 ca0)] H (chv_data0::F):=by
 intro Aa0 ca0 la0 v_data0 chv_data0 nv_data0 hnv_data0 hlv_data0 hov_data0 heq
 subst hnv_data0
 unfold slices_symMergeCmpFunc_Blob.j11 at heq
 obtain rfl:=Option.some.inj heq
 exact RunH.done (by kernel_rfl) Tryd.func86 (v:=.tuple #[]) (by kernel_rfl) ⟨chv_data0,rfl,rfl,rfl,hov_data0,(hlv_data0.trans rfl)⟩
theorem slices_symMergeCmpFunc_Blob.j10_c {w0:World} {H:Hp} {F:List Ch} {r:(List Blob)} (rec_:(List Blob)→Int→Int→Int→Option (List Blob))
  (hrec_:∀ {H:Hp} {F:List Ch} {a0:List Blob} {Aa0:Option Addr} {na0:Nat} {ca0:Nat} {cha0:Ch} {a1:Int} {a2:Int} {a3:Int} {r:(List Blob)},SlOwn kBlob 29 H Aa0 ca0 a0 cha0→na0=a0.length→rec_ a0 a1 a2 a3=some r→CallsH Tryd.prog 86 #[.slice Aa0 na0 ca0,iv a1,iv a2,iv a3,.func (.func 72) #[] #[]] H w0 (cha0::F) (S86 F H Aa0 ca0 na0 r)):∀ (Aa0:Option Addr) (ca0:Nat) (la0:Nat) (a1:Int) (a2:Int) (a3:Int) (v_start20:Int) (v_data0:List Blob) (chv_data0:Ch) (nv_data0:Nat) ,nv_data0=v_data0.length→la0=nv_data0→SlOwn kBlob 29 H Aa0 ca0 v_data0 chv_data0→slices_symMergeCmpFunc_Blob.j10 rec_ a1 a2 a3 v_start20 v_data0=some r→RunH C86 (S86 F H Aa0 ca0 la0 r) H w0 [.c [1,1,1,1,1,1,1,1,1,1,1,0],.c [1,1,1,1,1,1,1,1,1,1,1,1]] [(0,.slice Aa0 nv_data0 ca0),(3,iv a3),(4,.func (.func 72) #[] #[]),(18,iv (w64 (iShr .u64 (IntKind.wrap .u64 (w64 (a1+a3))) 1))),(24,iv (w64 ((w64 ((w64 (iShr .u64 (IntKind.wrap .u64 (w64 (a1+a3))) 1))+a2)) - v_start20)))] H (chv_data0::F):=by
 intro Aa0 ca0 la0 a1 a2 a3 v_start20 v_data0 chv_data0 nv_data0 hnv_data0 hlv_data0 hov_data0 heq
 subst hnv_data0
 unfold slices_symMergeCmpFunc_Blob.j10 at heq
 obtain ⟨t3,ht3,heq⟩:=bind_some heq
 have K8:RunH C86 (S86 F H Aa0 ca0 la0 r) H w0 [.c [1,1,1,1,1,1,1,1,1,1,1,1]] [(0,.slice Aa0 v_data0.length ca0),(3,iv a3),(4,.func (.func 72) #[] #[]),(18,iv (w64 (iShr .u64 (IntKind.wrap .u64 (w64 (a1+a3))) 1))),(24,iv (w64 ((w64 ((w64 (iShr .u64 (IntKind.wrap .u64 (w64 (a1+a3))) 1))+a2)) - v_start20))),(213,.bool t3)] H (chv_data0::F):=by
  rcases bool_cases (t3) with hb12 | hb12
  ·replace heq:=bif_true hb12 heq
   refine Ct t3 hb12<|Rr<|Rk 5 [0,214,215,216,217,218] [(0,.slice Aa0 v_data0.length ca0),(214,.slice Aa0 v_data0.length ca0),(215,iv (w64 (iShr .u64 (IntKind.wrap .u64 (w64 (a1+a3))) 1))),(216,iv (w64 ((w64 ((w64 (iShr .u64 (IntKind.wrap .u64 (w64 (a1+a3))) 1))+a2)) - v_start20))),(217,iv a3),(218,.func (.func 72) #[] #[])] ?_
   obtain ⟨y3,hy3,heq⟩:=bind_some heq
   refine RgH.does (DoesH.call (d:=219) (g:=86) (args:=#[.slice Aa0 v_data0.length ca0,iv (w64 (iShr .u64 (IntKind.wrap .u64 (w64 (a1+a3))) 1)),iv (w64 ((w64 ((w64 (iShr .u64 (IntKind.wrap .u64 (w64 (a1+a3))) 1))+a2)) - v_start20)),iv a3,.func (.func 72) #[] #[]]) (by kernel_rfl) (hrec_ (a0:=v_data0) (a1:=w64 (iShr .u64 (IntKind.wrap .u64 (w64 (a1+a3))) 1)) (a2:=w64 ((w64 ((w64 (iShr .u64 (IntKind.wrap .u64 (w64 (a1+a3))) 1))+a2)) - v_start20)) (a3:=a3) hov_data0 rfl hy3)) ?_
   rintro _ _ _ _ ⟨_,rfl,ch5,rfl,rfl,rfl,ho5,hn5⟩
   refine Dn<|Kp [0] [(0,.slice Aa0 v_data0.length ca0)] ?_
   exact (slices_symMergeCmpFunc_Blob.j11_c) _ _ _ y3 _ _ hn5 hlv_data0 ho5 heq
  ·replace heq:=bif_false hb12 heq
   refine Cf t3 hb12<|Ad 1 []<|Kp [0] [(0,.slice Aa0 v_data0.length ca0)] ?_
   exact (slices_symMergeCmpFunc_Blob.j11_c) _ _ _ v_data0 _ _ rfl hlv_data0 hov_data0 heq
 replace heq:=ht3
 refine Rr<|Rk 4 [209,0,3,4,18,24] [(209,.bool (decide ((w64 (iShr .u64 (IntKind.wrap .u64 (w64 (a1+a3))) 1))<(w64 ((w64 ((w64 (iShr .u64 (IntKind.wrap .u64 (w64 (a1+a3))) 1))+a2)) - v_start20))))),(0,.slice Aa0 v_data0.length ca0),(3,iv a3),(4,.func (.func 72) #[] #[]),(18,iv (w64 (iShr .u64 (IntKind.wrap .u64 (w64 (a1+a3))) 1))),(24,iv (w64 ((w64 ((w64 (iShr .u64 (IntKind.wrap .u64 (w64 (a1+a3))) 1))+a2)) - v_start20)))] ?_
 rcases bool_cases (decide ((w64 (iShr .u64 (IntKind.wrap .u64 (w64 (a1+a3))) 1))<(w64 ((w64 ((w64 (iShr .u64 (IntKind.wrap .u64 (w64 (a1+a3))) 1))+a2)) - v_start20)))) with hb11 | hb11
 ·replace heq:=bif_true hb11 heq
  refine RgH.val1 (v':=.bool true) (congrArg Value.bool hb11) ?_
  refine Rk 8 [0,3,4,18,24,213] [(0,.slice Aa0 v_data0.length ca0),(3,iv a3),(4,.func (.func 72) #[] #[]),(18,iv (w64 (iShr .u64 (IntKind.wrap .u64 (w64 (a1+a3))) 1))),(24,iv (w64 ((w64 ((w64 (iShr .u64 (IntKind.wrap .u64 (w64 (a1+a3))) 1))+a2)) - v_start20))),(213,.bool (decide ((w64 ((w64 ((w64 (iShr .u64 (IntKind.wrap .u64 (w64 (a1+a3))) 1))+a2)) - v_start20))<a3)))] ?_
  obtain rfl:=Option.some.inj heq
  refine Kg [0,3,4,18,24,213] [(0,.slice Aa0 v_data0.length ca0),(3,iv a3),(4,.func (.func 72) #[] #[]),(18,iv (w64 (iShr .u64 (IntKind.wrap .u64 (w64 (a1+a3))) 1))),(24,iv (w64 ((w64 ((w64 (iShr .u64 (IntKind.wrap .u64 (w64 (a1+a3))) 1))+a2)) - v_start20))),(213,.bool (decide ((w64 ((w64 ((w64 (iShr .u64 (IntKind.wrap .u64 (w64 (a1+a3))) 1))+a2)) - v_start20))<a3)))]<|Dn ?_
  exact K8
 ·replace heq:=bif_false hb11 heq
  refine RgH.val1 (v':=.bool false) (congrArg Value.bool hb11) ?_
  refine Rk 8 [0,3,4,18,24,213] [(0,.slice Aa0 v_data0.length ca0),(3,iv a3),(4,.func (.func 72) #[] #[]),(18,iv (w64 (iShr .u64 (IntKind.wrap .u64 (w64 (a1+a3))) 1))),(24,iv (w64 ((w64 ((w64 (iShr .u64 (IntKind.wrap .u64 (w64 (a1+a3))) 1))+a2)) - v_start20))),(213,.bool false)] ?_
  obtain rfl:=Option.some.inj heq
  refine Kg [0,3,4,18,24,213] [(0,.slice Aa0 v_data0.length ca0),(3,iv a3),(4,.func (.func 72) #[] #[]),(18,iv (w64 (iShr .u64 (IntKind.wrap .u64 (w64 (a1+a3))) 1))),(24,iv (w64 ((w64 ((w64 (iShr .u64 (IntKind.wrap .u64 (w64 (a1+a3))) 1))+a2)) - v_start20))),(213,.bool false)]<|Dn ?_
  exact K8
theorem slices_symMergeCmpFunc_Blob.j9_c {w0:World} {H:Hp} {F:List Ch} {r:(List Blob)} (rec_:(List Blob)→Int→Int→Int→Option (List Blob))
  (hrec_:∀ {H:Hp} {F:List Ch} {a0:List Blob} {Aa0:Option Addr} {na0:Nat} {ca0:Nat} {cha0:Ch} {a1:Int} {a2:Int} {a3:Int} {r:(List Blob)},SlOwn kBlob 29 H Aa0 ca0 a0 cha0→na0=a0.length→rec_ a0 a1 a2 a3=some r→CallsH Tryd.prog 86 #[.slice Aa0 na0 ca0,iv a1,iv a2,iv a3,.func (.func 72) #[] #[]] H w0 (cha0::F) (S86 F H Aa0 ca0 na0 r)):∀ (Aa0:Option Addr) (ca0:Nat) (la0:Nat) (a1:Int) (a2:Int) (a3:Int) (v_start20:Int) (v_data0:List Blob) (chv_data0:Ch) (nv_data0:Nat) ,nv_data0=v_data0.length→la0=nv_data0→SlOwn kBlob 29 H Aa0 ca0 v_data0 chv_data0→slices_symMergeCmpFunc_Blob.j9 rec_ a1 a2 a3 v_start20 v_data0=some r→RunH C86 (S86 F H Aa0 ca0 la0 r) H w0 [.c [1,1,1,1,1,1,1,1,1,1,0,0],.c [1,1,1,1,1,1,1,1,1,1,0,1],.c [1,1,1,1,1,1,1,1,1,1,1]] [(0,.slice Aa0 nv_data0 ca0),(1,iv a1),(3,iv a3),(4,.func (.func 72) #[] #[]),(18,iv (w64 (iShr .u64 (IntKind.wrap .u64 (w64 (a1+a3))) 1))),(20,iv v_start20),(24,iv (w64 ((w64 ((w64 (iShr .u64 (IntKind.wrap .u64 (w64 (a1+a3))) 1))+a2)) - v_start20)))] H (chv_data0::F):=by
 intro Aa0 ca0 la0 a1 a2 a3 v_start20 v_data0 chv_data0 nv_data0 hnv_data0 hlv_data0 hov_data0 heq
 subst hnv_data0
 unfold slices_symMergeCmpFunc_Blob.j9 at heq
 obtain ⟨t2,ht2,heq⟩:=bind_some heq
 have K6:RunH C86 (S86 F H Aa0 ca0 la0 r) H w0 [.c [1,1,1,1,1,1,1,1,1,1,0,1],.c [1,1,1,1,1,1,1,1,1,1,1]] [(0,.slice Aa0 v_data0.length ca0),(1,iv a1),(3,iv a3),(4,.func (.func 72) #[] #[]),(18,iv (w64 (iShr .u64 (IntKind.wrap .u64 (w64 (a1+a3))) 1))),(20,iv v_start20),(24,iv (w64 ((w64 ((w64 (iShr .u64 (IntKind.wrap .u64 (w64 (a1+a3))) 1))+a2)) - v_start20))),(199,.bool t2)] H (chv_data0::F):=by
  rcases bool_cases (t2) with hb13 | hb13
  ·replace heq:=bif_true hb13 heq
   refine Ct t2 hb13<|Rr<|Rk 5 [0,3,4,18,24,200,201,202,203,204] [(0,.slice Aa0 v_data0.length ca0),(3,iv a3),(4,.func (.func 72) #[] #[]),(18,iv (w64 (iShr .u64 (IntKind.wrap .u64 (w64 (a1+a3))) 1))),(24,iv (w64 ((w64 ((w64 (iShr .u64 (IntKind.wrap .u64 (w64 (a1+a3))) 1))+a2)) - v_start20))),(200,.slice Aa0 v_data0.length ca0),(201,iv a1),(202,iv v_start20),(203,iv (w64 (iShr .u64 (IntKind.wrap .u64 (w64 (a1+a3))) 1))),(204,.func (.func 72) #[] #[])] ?_
   obtain ⟨y4,hy4,heq⟩:=bind_some heq
   refine RgH.does (DoesH.call (d:=205) (g:=86) (args:=#[.slice Aa0 v_data0.length ca0,iv a1,iv v_start20,iv (w64 (iShr .u64 (IntKind.wrap .u64 (w64 (a1+a3))) 1)),.func (.func 72) #[] #[]]) (by kernel_rfl) (hrec_ (a0:=v_data0) (a1:=a1) (a2:=v_start20) (a3:=w64 (iShr .u64 (IntKind.wrap .u64 (w64 (a1+a3))) 1)) hov_data0 rfl hy4)) ?_
   rintro _ _ _ _ ⟨_,rfl,ch6,rfl,rfl,rfl,ho6,hn6⟩
   refine Dn<|Ad 1 [.c [1,1,1,1,1,1,1,1,1,1,1,0],.c [1,1,1,1,1,1,1,1,1,1,1,1]]<|Kp [0,3,4,18,24] [(0,.slice Aa0 v_data0.length ca0),(3,iv a3),(4,.func (.func 72) #[] #[]),(18,iv (w64 (iShr .u64 (IntKind.wrap .u64 (w64 (a1+a3))) 1))),(24,iv (w64 ((w64 ((w64 (iShr .u64 (IntKind.wrap .u64 (w64 (a1+a3))) 1))+a2)) - v_start20)))] ?_
   exact (slices_symMergeCmpFunc_Blob.j10_c (rec_:=rec_) hrec_) _ _ _ a1 a2 a3 v_start20 y4 _ _ hn6 hlv_data0 ho6 heq
  ·replace heq:=bif_false hb13 heq
   refine Cf t2 hb13<|Ad 2 [.c [1,1,1,1,1,1,1,1,1,1,1,0],.c [1,1,1,1,1,1,1,1,1,1,1,1]]<|Kp [0,3,4,18,24] [(0,.slice Aa0 v_data0.length ca0),(3,iv a3),(4,.func (.func 72) #[] #[]),(18,iv (w64 (iShr .u64 (IntKind.wrap .u64 (w64 (a1+a3))) 1))),(24,iv (w64 ((w64 ((w64 (iShr .u64 (IntKind.wrap .u64 (w64 (a1+a3))) 1))+a2)) - v_start20)))] ?_
   exact (slices_symMergeCmpFunc_Blob.j10_c (rec_:=rec_) hrec_) _ _ _ a1 a2 a3 v_start20 v_data0 _ _ rfl hlv_data0 hov_data0 heq
 replace heq:=ht2
 refine Rr<|Rk 4 [195,0,1,3,4,18,20,24] [(195,.bool (decide (a1<v_start20))),(0,.slice Aa0 v_data0.length ca0),(1,iv a1),(3,iv a3),(4,.func (.func 72) #[] #[]),(18,iv (w64 (iShr .u64 (IntKind.wrap .u64 (w64 (a1+a3))) 1))),(20,iv v_start20),(24,iv (w64 ((w64 ((w64 (iShr .u64 (IntKind.wrap .u64 (w64 (a1+a3))) 1))+a2)) - v_start20)))] ?_
 rcases bool_cases (decide (a1<v_start20)) with hb10 | hb10
 ·replace heq:=bif_true hb10 heq
  refine RgH.val1 (v':=.bool true) (congrArg Value.bool hb10) ?_
  refine Rk 8 [0,1,3,4,18,20,24,199] [(0,.slice Aa0 v_data0.length ca0),(1,iv a1),(3,iv a3),(4,.func (.func 72) #[] #[]),(18,iv (w64 (iShr .u64 (IntKind.wrap .u64 (w64 (a1+a3))) 1))),(20,iv v_start20),(24,iv (w64 ((w64 ((w64 (iShr .u64 (IntKind.wrap .u64 (w64 (a1+a3))) 1))+a2)) - v_start20))),(199,.bool (decide (v_start20<(w64 (iShr .u64 (IntKind.wrap .u64 (w64 (a1+a3))) 1)))))] ?_
  obtain rfl:=Option.some.inj heq
  refine Kg [0,1,3,4,18,20,24,199] [(0,.slice Aa0 v_data0.length ca0),(1,iv a1),(3,iv a3),(4,.func (.func 72) #[] #[]),(18,iv (w64 (iShr .u64 (IntKind.wrap .u64 (w64 (a1+a3))) 1))),(20,iv v_start20),(24,iv (w64 ((w64 ((w64 (iShr .u64 (IntKind.wrap .u64 (w64 (a1+a3))) 1))+a2)) - v_start20))),(199,.bool (decide (v_start20<(w64 (iShr .u64 (IntKind.wrap .u64 (w64 (a1+a3))) 1)))))]<|Dn ?_
  exact K6
 ·replace heq:=bif_false hb10 heq
  refine RgH.val1 (v':=.bool false) (congrArg Value.bool hb10) ?_
  refine Rk 8 [0,1,3,4,18,20,24,199] [(0,.slice Aa0 v_data0.length ca0),(1,iv a1),(3,iv a3),(4,.func (.func 72) #[] #[]),(18,iv (w64 (iShr .u64 (IntKind.wrap .u64 (w64 (a1+a3))) 1))),(20,iv v_start20),(24,iv (w64 ((w64 ((w64 (iShr .u64 (IntKind.wrap .u64 (w64 (a1+a3))) 1))+a2)) - v_start20))),(199,.bool false)] ?_
  obtain rfl:=Option.some.inj heq
  refine Kg [0,1,3,4,18,20,24,199] [(0,.slice Aa0 v_data0.length ca0),(1,iv a1),(3,iv a3),(4,.func (.func 72) #[] #[]),(18,iv (w64 (iShr .u64 (IntKind.wrap .u64 (w64 (a1+a3))) 1))),(20,iv v_start20),(24,iv (w64 ((w64 ((w64 (iShr .u64 (IntKind.wrap .u64 (w64 (a1+a3))) 1))+a2)) - v_start20))),(199,.bool false)]<|Dn ?_
  exact K6
theorem slices_symMergeCmpFunc_Blob.e8_c {w0:World} {H:Hp} {F:List Ch} {r:(List Blob)} (rec_:(List Blob)→Int→Int→Int→Option (List Blob))
  (hrec_:∀ {H:Hp} {F:List Ch} {a0:List Blob} {Aa0:Option Addr} {na0:Nat} {ca0:Nat} {cha0:Ch} {a1:Int} {a2:Int} {a3:Int} {r:(List Blob)},SlOwn kBlob 29 H Aa0 ca0 a0 cha0→na0=a0.length→rec_ a0 a1 a2 a3=some r→CallsH Tryd.prog 86 #[.slice Aa0 na0 ca0,iv a1,iv a2,iv a3,.func (.func 72) #[] #[]] H w0 (cha0::F) (S86 F H Aa0 ca0 na0 r)):∀ (a0:List Blob) (Aa0:Option Addr) (ca0:Nat) (cha0:Ch) (la0:Nat) (a1:Int) (a2:Int) (a3:Int) (v_start20:Int) ,SlOwn kBlob 29 H Aa0 ca0 a0 cha0→la0=a0.length→slices_symMergeCmpFunc_Blob.e8 rec_ a0 a1 a2 a3 v_start20=some r→RunH C86 (S86 F H Aa0 ca0 la0 r) H w0 [.c [1,1,1,1,1,1,1,1,0],.c [1,1,1,1,1,1,1,1,1]] [(0,.slice Aa0 a0.length ca0),(1,iv a1),(2,iv a2),(3,iv a3),(4,.func (.func 72) #[] #[]),(18,iv (w64 (iShr .u64 (IntKind.wrap .u64 (w64 (a1+a3))) 1))),(19,iv (w64 ((w64 (iShr .u64 (IntKind.wrap .u64 (w64 (a1+a3))) 1))+a2))),(20,iv v_start20)] H (cha0::F):=by
 intro a0 Aa0 ca0 cha0 la0 a1 a2 a3 v_start20 hoa0 hla0 heq
 unfold slices_symMergeCmpFunc_Blob.e8 at heq
 refine Rr<|Rd 4 [0,1,2,3,4,18,20,24] [(0,.slice Aa0 a0.length ca0),(1,iv a1),(2,iv a2),(3,iv a3),(4,.func (.func 72) #[] #[]),(18,iv (w64 (iShr .u64 (IntKind.wrap .u64 (w64 (a1+a3))) 1))),(20,iv v_start20),(24,iv (w64 ((w64 ((w64 (iShr .u64 (IntKind.wrap .u64 (w64 (a1+a3))) 1))+a2)) - v_start20)))]<|Ad 2 [.c [1,1,1,1,1,1,1,1,1,0,0],.c [1,1,1,1,1,1,1,1,1,0,1],.c [1,1,1,1,1,1,1,1,1,1]] ?_
 obtain ⟨t1,ht1,heq⟩:=bind_some heq
 have K4:RunH C86 (S86 F H Aa0 ca0 la0 r) H w0 [.c [1,1,1,1,1,1,1,1,1,0,1],.c [1,1,1,1,1,1,1,1,1,1]] [(0,.slice Aa0 a0.length ca0),(1,iv a1),(2,iv a2),(3,iv a3),(4,.func (.func 72) #[] #[]),(18,iv (w64 (iShr .u64 (IntKind.wrap .u64 (w64 (a1+a3))) 1))),(20,iv v_start20),(24,iv (w64 ((w64 ((w64 (iShr .u64 (IntKind.wrap .u64 (w64 (a1+a3))) 1))+a2)) - v_start20))),(185,.bool t1)] H (cha0::F):=by
  rcases bool_cases (t1) with hb14 | hb14
  ·replace heq:=bif_true hb14 heq
   refine Ct t1 hb14<|Rr<|Rk 5 [0,1,3,4,18,20,24,186,187,188,189,190] [(0,.slice Aa0 a0.length ca0),(1,iv a1),(3,iv a3),(4,.func (.func 72) #[] #[]),(18,iv (w64 (iShr .u64 (IntKind.wrap .u64 (w64 (a1+a3))) 1))),(20,iv v_start20),(24,iv (w64 ((w64 ((w64 (iShr .u64 (IntKind.wrap .u64 (w64 (a1+a3))) 1))+a2)) - v_start20))),(186,.slice Aa0 a0.length ca0),(187,iv v_start20),(188,iv a2),(189,iv (w64 ((w64 ((w64 (iShr .u64 (IntKind.wrap .u64 (w64 (a1+a3))) 1))+a2)) - v_start20))),(190,.func (.func 72) #[] #[])] ?_
   obtain ⟨y5,hy5,heq⟩:=bind_some heq
   refine RgH.does (DoesH.call (d:=191) (g:=88) (args:=#[.slice Aa0 a0.length ca0,iv v_start20,iv a2,iv (w64 ((w64 ((w64 (iShr .u64 (IntKind.wrap .u64 (w64 (a1+a3))) 1))+a2)) - v_start20)),.func (.func 72) #[] #[]]) (by kernel_rfl) (slices_rotateCmpFunc_Blob_c (a0:=a0) (a1:=v_start20) (a2:=a2) (a3:=w64 ((w64 ((w64 (iShr .u64 (IntKind.wrap .u64 (w64 (a1+a3))) 1))+a2)) - v_start20)) hoa0 rfl hy5)) ?_
   rintro _ _ _ _ ⟨_,rfl,ch7,rfl,rfl,rfl,ho7,hn7⟩
   refine Dn<|Ad 2 [.c [1,1,1,1,1,1,1,1,1,1,0,0],.c [1,1,1,1,1,1,1,1,1,1,0,1],.c [1,1,1,1,1,1,1,1,1,1,1]]<|Kp [0,1,3,4,18,20,24] [(0,.slice Aa0 a0.length ca0),(1,iv a1),(3,iv a3),(4,.func (.func 72) #[] #[]),(18,iv (w64 (iShr .u64 (IntKind.wrap .u64 (w64 (a1+a3))) 1))),(20,iv v_start20),(24,iv (w64 ((w64 ((w64 (iShr .u64 (IntKind.wrap .u64 (w64 (a1+a3))) 1))+a2)) - v_start20)))] ?_
   exact (slices_symMergeCmpFunc_Blob.j9_c (rec_:=rec_) hrec_) _ _ _ a1 a2 a3 v_start20 y5 _ _ hn7 hla0 ho7 heq
  ·replace heq:=bif_false hb14 heq
   refine Cf t1 hb14<|Ad 3 [.c [1,1,1,1,1,1,1,1,1,1,0,0],.c [1,1,1,1,1,1,1,1,1,1,0,1],.c [1,1,1,1,1,1,1,1,1,1,1]]<|Kp [0,1,3,4,18,20,24] [(0,.slice Aa0 a0.length ca0),(1,iv a1),(3,iv a3),(4,.func (.func 72) #[] #[]),(18,iv (w64 (iShr .u64 (IntKind.wrap .u64 (w64 (a1+a3))) 1))),(20,iv v_start20),(24,iv (w64 ((w64 ((w64 (iShr .u64 (IntKind.wrap .u64 (w64 (a1+a3))) 1))+a2)) - v_start20)))] ?_
   exact (slices_symMergeCmpFunc_Blob.j9_c (rec_:=rec_) hrec_) _ _ _ a1 a2 a3 v_start20 a0 _ _ rfl hla0 hoa0 heq
 replace heq:=ht1
 refine Rr<|Rk 4 [181,0,1,2,3,4,18,20,24] [(181,.bool (decide (v_start20<a2))),(0,.slice Aa0 a0.length ca0),(1,iv a1),(2,iv a2),(3,iv a3),(4,.func (.func 72) #[] #[]),(18,iv (w64 (iShr .u64 (IntKind.wrap .u64 (w64 (a1+a3))) 1))),(20,iv v_start20),(24,iv (w64 ((w64 ((w64 (iShr .u64 (IntKind.wrap .u64 (w64 (a1+a3))) 1))+a2)) - v_start20)))] ?_
 rcases bool_cases (decide (v_start20<a2)) with hb9 | hb9
 ·replace heq:=bif_true hb9 heq
  refine RgH.val1 (v':=.bool true) (congrArg Value.bool hb9) ?_
  refine Rk 8 [0,1,2,3,4,18,20,24,185] [(0,.slice Aa0 a0.length ca0),(1,iv a1),(2,iv a2),(3,iv a3),(4,.func (.func 72) #[] #[]),(18,iv (w64 (iShr .u64 (IntKind.wrap .u64 (w64 (a1+a3))) 1))),(20,iv v_start20),(24,iv (w64 ((w64 ((w64 (iShr .u64 (IntKind.wrap .u64 (w64 (a1+a3))) 1))+a2)) - v_start20))),(185,.bool (decide (a2<(w64 ((w64 ((w64 (iShr .u64 (IntKind.wrap .u64 (w64 (a1+a3))) 1))+a2)) - v_start20)))))] ?_
  obtain rfl:=Option.some.inj heq
  refine Kg [0,1,2,3,4,18,20,24,185] [(0,.slice Aa0 a0.length ca0),(1,iv a1),(2,iv a2),(3,iv a3),(4,.func (.func 72) #[] #[]),(18,iv (w64 (iShr .u64 (IntKind.wrap .u64 (w64 (a1+a3))) 1))),(20,iv v_start20),(24,iv (w64 ((w64 ((w64 (iShr .u64 (IntKind.wrap .u64 (w64 (a1+a3))) 1))+a2)) - v_start20))),(185,.bool (decide (a2<(w64 ((w64 ((w64 (iShr .u64 (IntKind.wrap .u64 (w64 (a1+a3))) 1))+a2)) - v_start20)))))]<|Dn ?_
  exact K4
 ·replace heq:=bif_false hb9 heq
  refine RgH.val1 (v':=.bool false) (congrArg Value.bool hb9) ?_
  refine Rk 8 [0,1,2,3,4,18,20,24,185] [(0,.slice Aa0 a0.length ca0),(1,iv a1),(2,iv a2),(3,iv a3),(4,.func (.func 72) #[] #[]),(18,iv (w64 (iShr .u64 (IntKind.wrap .u64 (w64 (a1+a3))) 1))),(20,iv v_start20),(24,iv (w64 ((w64 ((w64 (iShr .u64 (IntKind.wrap .u64 (w64 (a1+a3))) 1))+a2)) - v_start20))),(185,.bool false)] ?_
  obtain rfl:=Option.some.inj heq
  refine Kg [0,1,2,3,4,18,20,24,185] [(0,.slice Aa0 a0.length ca0),(1,iv a1),(2,iv a2),(3,iv a3),(4,.func (.func 72) #[] #[]),(18,iv (w64 (iShr .u64 (IntKind.wrap .u64 (w64 (a1+a3))) 1))),(20,iv v_start20),(24,iv (w64 ((w64 ((w64 (iShr .u64 (IntKind.wrap .u64 (w64 (a1+a3))) 1))+a2)) - v_start20))),(185,.bool false)]<|Dn ?_
  exact K4
theorem slices_symMergeCmpFunc_Blob.l12_c {w0:World} {H:Hp} {F:List Ch} {r:(List Blob)} (e8:(List Blob)→Int→Int→Int→Int→Option (List Blob))
  (he8:∀ (a0:List Blob) (Aa0:Option Addr) (ca0:Nat) (cha0:Ch) (la0:Nat) (a1:Int) (a2:Int) (a3:Int) (v_start20:Int) ,SlOwn kBlob 29 H Aa0 ca0 a0 cha0→la0=a0.length→e8 a0 a1 a2 a3 v_start20=some r→RunH C86 (S86 F H Aa0 ca0 la0 r) H w0 [.c [1,1,1,1,1,1,1,1,0],.c [1,1,1,1,1,1,1,1,1]] [(0,.slice Aa0 a0.length ca0),(1,iv a1),(2,iv a2),(3,iv a3),(4,.func (.func 72) #[] #[]),(18,iv (w64 (iShr .u64 (IntKind.wrap .u64 (w64 (a1+a3))) 1))),(19,iv (w64 ((w64 (iShr .u64 (IntKind.wrap .u64 (w64 (a1+a3))) 1))+a2))),(20,iv v_start20)] H (cha0::F)):∀ (k:Nat),∀ (a0:List Blob) (Aa0:Option Addr) (ca0:Nat) (cha0:Ch) (la0:Nat) (a1:Int) (a2:Int) (a3:Int) (v_start20:Int) (v_r21:Int) ,SlOwn kBlob 29 H Aa0 ca0 a0 cha0→la0=a0.length→slices_symMergeCmpFunc_Blob.l12 e8 k a0 a1 a2 a3 v_start20 v_r21=some r→RunH C86 (S86 F H Aa0 ca0 la0 r) H w0 [.c [1,1,1,1,1,1,1,0,0,0],.l [1,1,1,1,1,1,1,0,0,0],.b 8,.c [1,1,1,1,1,1,1,1]] [(0,.slice Aa0 a0.length ca0),(1,iv a1),(2,iv a2),(3,iv a3),(4,.func (.func 72) #[] #[]),(18,iv (w64 (iShr .u64 (IntKind.wrap .u64 (w64 (a1+a3))) 1))),(19,iv (w64 ((w64 (iShr .u64 (IntKind.wrap .u64 (w64 (a1+a3))) 1))+a2))),(20,iv v_start20),(21,iv v_r21),(22,iv (w64 ((w64 ((w64 (iShr .u64 (IntKind.wrap .u64 (w64 (a1+a3))) 1))+a2)) - 1)))] H (cha0::F):=by
 intro k
 induction k with
 | zero=>intro a0 Aa0 ca0 cha0 la0 a1 a2 a3 v_start20 v_r21 hoa0 hla0 heq; exact nomatch (show (none:Option (List Blob))=some r from heq)
 | succ k ihk =>
  intro a0 Aa0 ca0 cha0 la0 a1 a2 a3 v_start20 v_r21 hoa0 hla0 heq
  rw [slices_symMergeCmpFunc_Blob.l12] at heq
  refine Ra 2 [1,1,1,1,1,1,1,0,0,0,0,0] [.c [1,1,1,1,1,1,1,0,0,0,0,1],.c [1,1,1,1,1,1,1,0,0,0,1],.l [1,1,1,1,1,1,1,0,0,0],.b 8,.c [1,1,1,1,1,1,1,1]]<|Rd 3 [0,1,2,3,4,18,19,20,21,22,151] [(0,.slice Aa0 a0.length ca0),(1,iv a1),(2,iv a2),(3,iv a3),(4,.func (.func 72) #[] #[]),(18,iv (w64 (iShr .u64 (IntKind.wrap .u64 (w64 (a1+a3))) 1))),(19,iv (w64 ((w64 (iShr .u64 (IntKind.wrap .u64 (w64 (a1+a3))) 1))+a2))),(20,iv v_start20),(21,iv v_r21),(22,iv (w64 ((w64 ((w64 (iShr .u64 (IntKind.wrap .u64 (w64 (a1+a3))) 1))+a2)) - 1))),(151,.bool (decide (v_start20<v_r21)))] ?_
  rcases bool_cases (decide (v_start20<v_r21)) with hb15 | hb15
  ·replace heq:=bif_true hb15 heq
   refine Ct (decide (v_start20<v_r21)) hb15<|Ra 3 [1,1,1,1,1,1,1,0,0,0,1,0,0] [.c [1,1,1,1,1,1,1,0,0,0,1,0,1],.b 9,.l [1,1,1,1,1,1,1,0,0,0],.b 8,.c [1,1,1,1,1,1,1,1]]<|Rw' 7 [0,1,2,3,4,18,19,20,21,22,23] [] [.need ((0:Int)≤1)] [(0,.slice Aa0 a0.length ca0),(1,iv a1),(2,iv a2),(3,iv a3),(4,.func (.func 72) #[] #[]),(18,iv (w64 (iShr .u64 (IntKind.wrap .u64 (w64 (a1+a3))) 1))),(19,iv (w64 ((w64 (iShr .u64 (IntKind.wrap .u64 (w64 (a1+a3))) 1))+a2))),(20,iv v_start20),(21,iv v_r21),(22,iv (w64 ((w64 ((w64 (iShr .u64 (IntKind.wrap .u64 (w64 (a1+a3))) 1))+a2)) - 1))),(23,iv (w64 (iShr .u64 (IntKind.wrap .u64 (w64 (v_start20+v_r21))) 1)))] (fun w hh=>(show (0:Int)≤1 by decide))<|Ad 1 [.c [1,1,1,1,1,1,1,0,0,0,1,0,1,0],.c [1,1,1,1,1,1,1,0,0,0,1,0,1,1],.b 9,.l [1,1,1,1,1,1,1,0,0,0],.b 8,.c [1,1,1,1,1,1,1,1]]<|Kp [0,1,2,3,4,18,19,20,21,22,23] [(0,.slice Aa0 a0.length ca0),(1,iv a1),(2,iv a2),(3,iv a3),(4,.func (.func 72) #[] #[]),(18,iv (w64 (iShr .u64 (IntKind.wrap .u64 (w64 (a1+a3))) 1))),(19,iv (w64 ((w64 (iShr .u64 (IntKind.wrap .u64 (w64 (a1+a3))) 1))+a2))),(20,iv v_start20),(21,iv v_r21),(22,iv (w64 ((w64 ((w64 (iShr .u64 (IntKind.wrap .u64 (w64 (a1+a3))) 1))+a2)) - 1))),(23,iv (w64 (iShr .u64 (IntKind.wrap .u64 (w64 (v_start20+v_r21))) 1)))] ?_
   refine RunH.draw (fun w=>Heap H w0 w (cha0::F)) (fun w=>Heap H w0 w (cha0::F)) [3,3,3,3,3,3,3,3,3,3,3,0,3,3] (n:=14) (ls:=[false,false,false,false,false,false,false,false,false,false,false,false,false,false]) (by kernel_rfl) (by kernel_rfl) (by kernel_rfl) rfl ?_
   obtain ⟨x11,hx11,heq⟩:=bind_some heq
   obtain ⟨ha17,cs17,hK17,hcc17⟩:=hoa0.get hx11
   obtain ⟨rfl⟩:=kBlob_open hK17
   obtain ⟨x12,hx12,heq⟩:=bind_some heq
   obtain ⟨ha18,cs18,hK18,hcc18⟩:=hoa0.get hx12
   obtain ⟨rfl⟩:=kBlob_open hK18
   refine Dk [0,1,2,3,4,5,6,7,8,9,10] 3 (nb 14 2047) [.string x11.Digest,iv x11.Size,iv x11.Used,iv x11.Until,iv x11.Pins,.string x12.Digest,iv x12.Size,iv x12.Used,iv x12.Until,iv x12.Pins] [.need (Aa0=some (adr Aa0)∧(0:Int)≤(w64 ((w64 ((w64 ((w64 (iShr .u64 (IntKind.wrap .u64 (w64 (a1+a3))) 1))+a2)) - 1)) - (w64 (iShr .u64 (IntKind.wrap .u64 (w64 (v_start20+v_r21))) 1))))∧(w64 ((w64 ((w64 ((w64 (iShr .u64 (IntKind.wrap .u64 (w64 (a1+a3))) 1))+a2)) - 1)) - (w64 (iShr .u64 (IntKind.wrap .u64 (w64 (v_start20+v_r21))) 1))))<((a0.length:Nat):Int)),.load (((adr Aa0).add ((w64 ((w64 ((w64 ((w64 (iShr .u64 (IntKind.wrap .u64 (w64 (a1+a3))) 1))+a2)) - 1)) - (w64 (iShr .u64 (IntKind.wrap .u64 (w64 (v_start20+v_r21))) 1)))).toNat*5)).add 0) (.string x11.Digest),.load (((adr Aa0).add ((w64 ((w64 ((w64 ((w64 (iShr .u64 (IntKind.wrap .u64 (w64 (a1+a3))) 1))+a2)) - 1)) - (w64 (iShr .u64 (IntKind.wrap .u64 (w64 (v_start20+v_r21))) 1)))).toNat*5)).add 1) (iv x11.Size),.load (((adr Aa0).add ((w64 ((w64 ((w64 ((w64 (iShr .u64 (IntKind.wrap .u64 (w64 (a1+a3))) 1))+a2)) - 1)) - (w64 (iShr .u64 (IntKind.wrap .u64 (w64 (v_start20+v_r21))) 1)))).toNat*5)).add 2) (iv x11.Used),.load (((adr Aa0).add ((w64 ((w64 ((w64 ((w64 (iShr .u64 (IntKind.wrap .u64 (w64 (a1+a3))) 1))+a2)) - 1)) - (w64 (iShr .u64 (IntKind.wrap .u64 (w64 (v_start20+v_r21))) 1)))).toNat*5)).add 3) (iv x11.Until),.load (((adr Aa0).add ((w64 ((w64 ((w64 ((w64 (iShr .u64 (IntKind.wrap .u64 (w64 (a1+a3))) 1))+a2)) - 1)) - (w64 (iShr .u64 (IntKind.wrap .u64 (w64 (v_start20+v_r21))) 1)))).toNat*5)).add 4) (iv x11.Pins),.need (Aa0=some (adr Aa0)∧(0:Int)≤(w64 (iShr .u64 (IntKind.wrap .u64 (w64 (v_start20+v_r21))) 1))∧(w64 (iShr .u64 (IntKind.wrap .u64 (w64 (v_start20+v_r21))) 1))<((a0.length:Nat):Int)),.load (((adr Aa0).add ((w64 (iShr .u64 (IntKind.wrap .u64 (w64 (v_start20+v_r21))) 1)).toNat*5)).add 0) (.string x12.Digest),.load (((adr Aa0).add ((w64 (iShr .u64 (IntKind.wrap .u64 (w64 (v_start20+v_r21))) 1)).toNat*5)).add 1) (iv x12.Size),.load (((adr Aa0).add ((w64 (iShr .u64 (IntKind.wrap .u64 (w64 (v_start20+v_r21))) 1)).toNat*5)).add 2) (iv x12.Used),.load (((adr Aa0).add ((w64 (iShr .u64 (IntKind.wrap .u64 (w64 (v_start20+v_r21))) 1)).toNat*5)).add 3) (iv x12.Until),.load (((adr Aa0).add ((w64 (iShr .u64 (IntKind.wrap .u64 (w64 (v_start20+v_r21))) 1)).toNat*5)).add 4) (iv x12.Pins)] [0,1,2,3,4,18,19,20,21,22,23,158,164,168] [(0,.slice Aa0 a0.length ca0),(1,iv a1),(2,iv a2),(3,iv a3),(4,.func (.func 72) #[] #[]),(18,iv (w64 (iShr .u64 (IntKind.wrap .u64 (w64 (a1+a3))) 1))),(19,iv (w64 ((w64 (iShr .u64 (IntKind.wrap .u64 (w64 (a1+a3))) 1))+a2))),(20,iv v_start20),(21,iv v_r21),(22,iv (w64 ((w64 ((w64 (iShr .u64 (IntKind.wrap .u64 (w64 (a1+a3))) 1))+a2)) - 1))),(23,iv (w64 (iShr .u64 (IntKind.wrap .u64 (w64 (v_start20+v_r21))) 1))),(158,.func (.func 72) #[] #[]),(164,.agg #[.string x11.Digest,iv x11.Size,iv x11.Used,iv x11.Until,iv x11.Pins]),(168,.agg #[.string x12.Digest,iv x12.Size,iv x12.Used,iv x12.Until,iv x12.Pins])] (Pk 1 [0]) (Pk 1 [0]) (fun w hh=>⟨⟨ha17,(at?_some hx11).1,(at?_some hx11).2.1⟩,(hcc17 _ (hh.chin 0 rfl) 0 _ rfl),(hcc17 _ (hh.chin 0 rfl) 1 _ rfl),(hcc17 _ (hh.chin 0 rfl) 2 _ rfl),(hcc17 _ (hh.chin 0 rfl) 3 _ rfl),(hcc17 _ (hh.chin 0 rfl) 4 _ rfl),⟨ha18,(at?_some hx12).1,(at?_some hx12).2.1⟩,(hcc18 _ (hh.chin 0 rfl) 0 _ rfl),(hcc18 _ (hh.chin 0 rfl) 1 _ rfl),(hcc18 _ (hh.chin 0 rfl) 2 _ rfl),(hcc18 _ (hh.chin 0 rfl) 3 _ rfl),(hcc18 _ (hh.chin 0 rfl) 4 _ rfl)⟩) ?_
   obtain ⟨y6,hy6,heq⟩:=bind_some heq
   refine DrH.does (n:=2) (ls':=[true,true,true,true,true,true,true,true,true,true,true,true,false,false]) 11 (by kernel_rfl) rfl (DoesH.call (d:=169) (g:=72) (args:=#[.agg #[.string x11.Digest,iv x11.Size,iv x11.Used,iv x11.Until,iv x11.Pins],.agg #[.string x12.Digest,iv x12.Size,iv x12.Used,iv x12.Until,iv x12.Pins]]) (by kernel_rfl) (cache_leaving_2_c (a0:=x11) (a1:=x12)  hy6)) ?_
   rintro _ _ _ _ ⟨_,rfl,rfl,rfl,rfl⟩
   refine ⟨fun _ w hh=>⟨fun _=>(Pk 1 [0]) w hh,fun _=>(Pk 1 [0]) w hh,(fun h=>by cases h)⟩,?_⟩
   refine Dk [12,13] 0 (nb 14 16383) [] [] [0,1,2,3,4,18,19,20,21,22,23,171] [(0,.slice Aa0 a0.length ca0),(1,iv a1),(2,iv a2),(3,iv a3),(4,.func (.func 72) #[] #[]),(18,iv (w64 (iShr .u64 (IntKind.wrap .u64 (w64 (a1+a3))) 1))),(19,iv (w64 ((w64 (iShr .u64 (IntKind.wrap .u64 (w64 (a1+a3))) 1))+a2))),(20,iv v_start20),(21,iv v_r21),(22,iv (w64 ((w64 ((w64 (iShr .u64 (IntKind.wrap .u64 (w64 (a1+a3))) 1))+a2)) - 1))),(23,iv (w64 (iShr .u64 (IntKind.wrap .u64 (w64 (v_start20+v_r21))) 1))),(171,.bool (!(decide (y6<0))))] (Pk 1 [0]) (Pk 1 [0]) (fun _ _=>trivial) ?_
   refine DrH.done (by kernel_rfl) ?_
   rcases bool_cases (!(decide (y6<0))) with hb16 | hb16
   ·replace heq:=bif_true hb16 heq
    refine Ct (!(decide (y6<0))) hb16<|Rr<|Rd 3 [0,1,2,3,4,18,19,20,21,22] [(0,.slice Aa0 a0.length ca0),(1,iv a1),(2,iv a2),(3,iv a3),(4,.func (.func 72) #[] #[]),(18,iv (w64 (iShr .u64 (IntKind.wrap .u64 (w64 (a1+a3))) 1))),(19,iv (w64 ((w64 (iShr .u64 (IntKind.wrap .u64 (w64 (a1+a3))) 1))+a2))),(20,iv (w64 ((w64 (iShr .u64 (IntKind.wrap .u64 (w64 (v_start20+v_r21))) 1))+1))),(21,iv v_r21),(22,iv (w64 ((w64 ((w64 (iShr .u64 (IntKind.wrap .u64 (w64 (a1+a3))) 1))+a2)) - 1)))]<|Ad 2 [.c [1,1,1,1,1,1,1,0,0,0],.l [1,1,1,1,1,1,1,0,0,0],.b 8,.c [1,1,1,1,1,1,1,1]]<|Kp [0,1,2,3,4,18,19,20,21,22] [(0,.slice Aa0 a0.length ca0),(1,iv a1),(2,iv a2),(3,iv a3),(4,.func (.func 72) #[] #[]),(18,iv (w64 (iShr .u64 (IntKind.wrap .u64 (w64 (a1+a3))) 1))),(19,iv (w64 ((w64 (iShr .u64 (IntKind.wrap .u64 (w64 (a1+a3))) 1))+a2))),(20,iv (w64 ((w64 (iShr .u64 (IntKind.wrap .u64 (w64 (v_start20+v_r21))) 1))+1))),(21,iv v_r21),(22,iv (w64 ((w64 ((w64 (iShr .u64 (IntKind.wrap .u64 (w64 (a1+a3))) 1))+a2)) - 1)))] ?_
    exact ihk a0 _ _ _ _ a1 a2 a3 (w64 ((w64 (iShr .u64 (IntKind.wrap .u64 (w64 (v_start20+v_r21))) 1))+1)) v_r21 hoa0 hla0 heq
   ·replace heq:=bif_false hb16 heq
    refine Cf (!(decide (y6<0))) hb16<|Rr<|Rd 2 [0,1,2,3,4,18,19,20,21,22] [(0,.slice Aa0 a0.length ca0),(1,iv a1),(2,iv a2),(3,iv a3),(4,.func (.func 72) #[] #[]),(18,iv (w64 (iShr .u64 (IntKind.wrap .u64 (w64 (a1+a3))) 1))),(19,iv (w64 ((w64 (iShr .u64 (IntKind.wrap .u64 (w64 (a1+a3))) 1))+a2))),(20,iv v_start20),(21,iv (w64 (iShr .u64 (IntKind.wrap .u64 (w64 (v_start20+v_r21))) 1))),(22,iv (w64 ((w64 ((w64 (iShr .u64 (IntKind.wrap .u64 (w64 (a1+a3))) 1))+a2)) - 1)))]<|Ad 2 [.c [1,1,1,1,1,1,1,0,0,0],.l [1,1,1,1,1,1,1,0,0,0],.b 8,.c [1,1,1,1,1,1,1,1]]<|Kp [0,1,2,3,4,18,19,20,21,22] [(0,.slice Aa0 a0.length ca0),(1,iv a1),(2,iv a2),(3,iv a3),(4,.func (.func 72) #[] #[]),(18,iv (w64 (iShr .u64 (IntKind.wrap .u64 (w64 (a1+a3))) 1))),(19,iv (w64 ((w64 (iShr .u64 (IntKind.wrap .u64 (w64 (a1+a3))) 1))+a2))),(20,iv v_start20),(21,iv (w64 (iShr .u64 (IntKind.wrap .u64 (w64 (v_start20+v_r21))) 1))),(22,iv (w64 ((w64 ((w64 (iShr .u64 (IntKind.wrap .u64 (w64 (a1+a3))) 1))+a2)) - 1)))] ?_
    exact ihk a0 _ _ _ _ a1 a2 a3 v_start20 (w64 (iShr .u64 (IntKind.wrap .u64 (w64 (v_start20+v_r21))) 1)) hoa0 hla0 heq
  ·replace heq:=bif_false hb15 heq
   refine Cf (decide (v_start20<v_r21)) hb15<|Ad 2 [.c [1,1,1,1,1,1,1,1,0],.c [1,1,1,1,1,1,1,1,1]]<|Kp [0,1,2,3,4,18,19,20] [(0,.slice Aa0 a0.length ca0),(1,iv a1),(2,iv a2),(3,iv a3),(4,.func (.func 72) #[] #[]),(18,iv (w64 (iShr .u64 (IntKind.wrap .u64 (w64 (a1+a3))) 1))),(19,iv (w64 ((w64 (iShr .u64 (IntKind.wrap .u64 (w64 (a1+a3))) 1))+a2))),(20,iv v_start20)] ?_
   exact he8 a0 _ _ _ _ a1 a2 a3 v_start20 hoa0 hla0 heq
theorem slices_symMergeCmpFunc_Blob.j7_c {w0:World} {H:Hp} {F:List Ch} {r:(List Blob)} (rec_:(List Blob)→Int→Int→Int→Option (List Blob))
  (hrec_:∀ {H:Hp} {F:List Ch} {a0:List Blob} {Aa0:Option Addr} {na0:Nat} {ca0:Nat} {cha0:Ch} {a1:Int} {a2:Int} {a3:Int} {r:(List Blob)},SlOwn kBlob 29 H Aa0 ca0 a0 cha0→na0=a0.length→rec_ a0 a1 a2 a3=some r→CallsH Tryd.prog 86 #[.slice Aa0 na0 ca0,iv a1,iv a2,iv a3,.func (.func 72) #[] #[]] H w0 (cha0::F) (S86 F H Aa0 ca0 na0 r)):∀ (a0:List Blob) (Aa0:Option Addr) (ca0:Nat) (cha0:Ch) (la0:Nat) (a1:Int) (a2:Int) (a3:Int) (v_start20:Int) (v_r21:Int) ,SlOwn kBlob 29 H Aa0 ca0 a0 cha0→la0=a0.length→slices_symMergeCmpFunc_Blob.j7 rec_ a0 a1 a2 a3 v_start20 v_r21=some r→RunH C86 (S86 F H Aa0 ca0 la0 r) H w0 [.c [1,1,1,1,1,1,0],.c [1,1,1,1,1,1,1]] [(0,.slice Aa0 a0.length ca0),(1,iv a1),(2,iv a2),(3,iv a3),(4,.func (.func 72) #[] #[]),(18,iv (w64 (iShr .u64 (IntKind.wrap .u64 (w64 (a1+a3))) 1))),(19,iv (w64 ((w64 (iShr .u64 (IntKind.wrap .u64 (w64 (a1+a3))) 1))+a2))),(20,iv v_start20),(21,iv v_r21)] H (cha0::F):=by
 intro a0 Aa0 ca0 cha0 la0 a1 a2 a3 v_start20 v_r21 hoa0 hla0 heq
 unfold slices_symMergeCmpFunc_Blob.j7 at heq
 refine Rr<|Rd 3 [0,1,2,3,4,18,19,20,21,22] [(0,.slice Aa0 a0.length ca0),(1,iv a1),(2,iv a2),(3,iv a3),(4,.func (.func 72) #[] #[]),(18,iv (w64 (iShr .u64 (IntKind.wrap .u64 (w64 (a1+a3))) 1))),(19,iv (w64 ((w64 (iShr .u64 (IntKind.wrap .u64 (w64 (a1+a3))) 1))+a2))),(20,iv v_start20),(21,iv v_r21),(22,iv (w64 ((w64 ((w64 (iShr .u64 (IntKind.wrap .u64 (w64 (a1+a3))) 1))+a2)) - 1)))]<|Ad 3 [.c [1,1,1,1,1,1,1,0,0,0],.l [1,1,1,1,1,1,1,0,0,0],.b 8,.c [1,1,1,1,1,1,1,1]]<|Kp [0,1,2,3,4,18,19,20,21,22] [(0,.slice Aa0 a0.length ca0),(1,iv a1),(2,iv a2),(3,iv a3),(4,.func (.func 72) #[] #[]),(18,iv (w64 (iShr .u64 (IntKind.wrap .u64 (w64 (a1+a3))) 1))),(19,iv (w64 ((w64 (iShr .u64 (IntKind.wrap .u64 (w64 (a1+a3))) 1))+a2))),(20,iv v_start20),(21,iv v_r21),(22,iv (w64 ((w64 ((w64 (iShr .u64 (IntKind.wrap .u64 (w64 (a1+a3))) 1))+a2)) - 1)))] ?_
 exact ((slices_symMergeCmpFunc_Blob.l12_c (e8:=slices_symMergeCmpFunc_Blob.e8 rec_) (slices_symMergeCmpFunc_Blob.e8_c (rec_:=rec_) hrec_)) big) a0 _ _ _ _ a1 a2 a3 v_start20 v_r21 hoa0 hla0 heq
theorem slices_symMergeCmpFunc_Blob_g {w0:World} {rec_:(List Blob)→Int→Int→Int→Option (List Blob)} (hrec_:∀ {H:Hp} {F:List Ch} {a0:List Blob} {Aa0:Option Addr} {na0:Nat} {ca0:Nat} {cha0:Ch} {a1:Int} {a2:Int} {a3:Int} {r:(List Blob)},SlOwn kBlob 29 H Aa0 ca0 a0 cha0→na0=a0.length→rec_ a0 a1 a2 a3=some r→CallsH Tryd.prog 86 #[.slice Aa0 na0 ca0,iv a1,iv a2,iv a3,.func (.func 72) #[] #[]] H w0 (cha0::F) (S86 F H Aa0 ca0 na0 r)) {H:Hp} {F:List Ch} {a0:List Blob} {Aa0:Option Addr} {na0:Nat} {ca0:Nat} {cha0:Ch} {a1:Int} {a2:Int} {a3:Int} {r:(List Blob)} (hoa0:SlOwn kBlob 29 H Aa0 ca0 a0 cha0) (hna0:na0=a0.length) (heq:slices_symMergeCmpFunc_Blob.g rec_ a0 a1 a2 a3=some r):CallsH Tryd.prog 86 #[.slice Aa0 na0 ca0,iv a1,iv a2,iv a3,.func (.func 72) #[] #[]] H w0 (cha0::F) (S86 F H Aa0 ca0 na0 r):=by
 refine calls_of_runH (F:=C86) Tryd.func86 (by kernel_rfl) Tryd.ntmps86 (args:=[.slice Aa0 na0 ca0,iv a1,iv a2,iv a3,.func (.func 72) #[] #[]]) (by kernel_rfl) ?_
 suffices key0:∀ (la0:Nat),la0=na0→RunH C86 (S86 F H Aa0 ca0 la0 r) H w0 [.c []] (argL 0 [.slice Aa0 na0 ca0,iv a1,iv a2,iv a3,.func (.func 72) #[] #[]]) H (cha0::F) from key0 na0 rfl
 intro la0 hla0
 subst hna0
 unfold slices_symMergeCmpFunc_Blob.g at heq
 refine Ra 2 [0,0] [.c [0,1],.c [1]]<|Rd 4 [0,1,2,3,4,28] [(0,.slice Aa0 a0.length ca0),(1,iv a1),(2,iv a2),(3,iv a3),(4,.func (.func 72) #[] #[]),(28,.bool ((w64 (a2 - a1)) == 1))] ?_
 rcases bool_cases ((w64 (a2 - a1)) == 1) with hb1 | hb1
 ·replace heq:=bif_true hb1 heq
  refine Ct ((w64 (a2 - a1)) == 1) hb1<|Ra 1 [0,1,0,0] [.c [0,1,0,1],.c [1]]<|Rd 2 [0,1,3,4,10] [(0,.slice Aa0 a0.length ca0),(1,iv a1),(3,iv a3),(4,.func (.func 72) #[] #[]),(10,iv a2)]<|Ra 1 [0,1,0,1,0] [.c [0,1,0,1,1],.c [1]]<|Rd 2 [0,1,4,10,11] [(0,.slice Aa0 a0.length ca0),(1,iv a1),(4,.func (.func 72) #[] #[]),(10,iv a2),(11,iv a3)]<|Ad 3 [.c [0,1,0,1,1,0,0,0],.l [0,1,0,1,1,0,0,0],.b 0,.c [0,1,0,1,1,1],.c [1]]<|Kp [0,1,4,10,11] [(0,.slice Aa0 a0.length ca0),(1,iv a1),(4,.func (.func 72) #[] #[]),(10,iv a2),(11,iv a3)] ?_
  exact ((slices_symMergeCmpFunc_Blob.l3_c (e1:=slices_symMergeCmpFunc_Blob.e1) (slices_symMergeCmpFunc_Blob.e1_c)) big) a0 _ _ _ _ a1 a2 a3 hoa0 hla0 heq
 ·replace heq:=bif_false hb1 heq
  refine Cf ((w64 (a2 - a1)) == 1) hb1<|Ra 3 [1,0,0] [.c [1,0,1],.c [1,1]]<|Rd 4 [0,1,2,3,4,80] [(0,.slice Aa0 a0.length ca0),(1,iv a1),(2,iv a2),(3,iv a3),(4,.func (.func 72) #[] #[]),(80,.bool ((w64 (a3 - a2)) == 1))] ?_
  rcases bool_cases ((w64 (a3 - a2)) == 1) with hb5 | hb5
  ·replace heq:=bif_true hb5 heq
   refine Ct ((w64 (a3 - a2)) == 1) hb5<|Ra 1 [1,0,1,0,0] [.c [1,0,1,0,1],.c [1,1]]<|Rd 2 [0,2,4,14] [(0,.slice Aa0 a0.length ca0),(2,iv a2),(4,.func (.func 72) #[] #[]),(14,iv a1)]<|Ra 1 [1,0,1,0,1,0] [.c [1,0,1,0,1,1],.c [1,1]]<|Rd 2 [0,2,4,14,15] [(0,.slice Aa0 a0.length ca0),(2,iv a2),(4,.func (.func 72) #[] #[]),(14,iv a1),(15,iv a2)]<|Ad 3 [.c [1,0,1,0,1,1,0,0,0],.l [1,0,1,0,1,1,0,0,0],.b 4,.c [1,0,1,0,1,1,1],.c [1,1]]<|Kp [0,2,4,14,15] [(0,.slice Aa0 a0.length ca0),(2,iv a2),(4,.func (.func 72) #[] #[]),(14,iv a1),(15,iv a2)] ?_
   exact ((slices_symMergeCmpFunc_Blob.l6_c (e4:=slices_symMergeCmpFunc_Blob.e4) (slices_symMergeCmpFunc_Blob.e4_c)) big) a0 _ _ _ _ a2 a1 a2 hoa0 hla0 heq
  ·replace heq:=bif_false hb5 heq
   refine Cf ((w64 (a3 - a2)) == 1) hb5<|Ra 2 [1,1,0] [.c [1,1,1]]<|Rw' 7 [0,1,2,3,4,18] [] [.need ((0:Int)≤1)] [(0,.slice Aa0 a0.length ca0),(1,iv a1),(2,iv a2),(3,iv a3),(4,.func (.func 72) #[] #[]),(18,iv (w64 (iShr .u64 (IntKind.wrap .u64 (w64 (a1+a3))) 1)))] (fun w hh=>(show (0:Int)≤1 by decide))<|Ra 1 [1,1,1,0] [.c [1,1,1,1]]<|Rd 4 [0,1,2,3,4,18,19] [(0,.slice Aa0 a0.length ca0),(1,iv a1),(2,iv a2),(3,iv a3),(4,.func (.func 72) #[] #[]),(18,iv (w64 (iShr .u64 (IntKind.wrap .u64 (w64 (a1+a3))) 1))),(19,iv (w64 ((w64 (iShr .u64 (IntKind.wrap .u64 (w64 (a1+a3))) 1))+a2)))]<|Ra 1 [1,1,1,1,0] [.c [1,1,1,1,1]]<|Rd 2 [0,1,2,3,4,18,19] [(0,.slice Aa0 a0.length ca0),(1,iv a1),(2,iv a2),(3,iv a3),(4,.func (.func 72) #[] #[]),(18,iv (w64 (iShr .u64 (IntKind.wrap .u64 (w64 (a1+a3))) 1))),(19,iv (w64 ((w64 (iShr .u64 (IntKind.wrap .u64 (w64 (a1+a3))) 1))+a2)))]<|Ra 2 [1,1,1,1,1,0,0] [.c [1,1,1,1,1,0,1],.c [1,1,1,1,1,1]]<|Rd 3 [0,1,2,3,4,18,19,140] [(0,.slice Aa0 a0.length ca0),(1,iv a1),(2,iv a2),(3,iv a3),(4,.func (.func 72) #[] #[]),(18,iv (w64 (iShr .u64 (IntKind.wrap .u64 (w64 (a1+a3))) 1))),(19,iv (w64 ((w64 (iShr .u64 (IntKind.wrap .u64 (w64 (a1+a3))) 1))+a2))),(140,.bool (decide ((w64 (iShr .u64 (IntKind.wrap .u64 (w64 (a1+a3))) 1))<a2)))] ?_
   rcases bool_cases (decide ((w64 (iShr .u64 (IntKind.wrap .u64 (w64 (a1+a3))) 1))<a2)) with hb17 | hb17
   ·replace heq:=bif_true hb17 heq
    refine Ct (decide ((w64 (iShr .u64 (IntKind.wrap .u64 (w64 (a1+a3))) 1))<a2)) hb17<|Ra 1 [1,1,1,1,1,0,1,0,0] [.c [1,1,1,1,1,0,1,0,1],.c [1,1,1,1,1,1]]<|Rd 4 [0,1,2,3,4,18,19,20] [(0,.slice Aa0 a0.length ca0),(1,iv a1),(2,iv a2),(3,iv a3),(4,.func (.func 72) #[] #[]),(18,iv (w64 (iShr .u64 (IntKind.wrap .u64 (w64 (a1+a3))) 1))),(19,iv (w64 ((w64 (iShr .u64 (IntKind.wrap .u64 (w64 (a1+a3))) 1))+a2))),(20,iv (w64 ((w64 ((w64 (iShr .u64 (IntKind.wrap .u64 (w64 (a1+a3))) 1))+a2)) - a3)))]<|Rr<|Rd 2 [0,1,2,3,4,18,19,20,21] [(0,.slice Aa0 a0.length ca0),(1,iv a1),(2,iv a2),(3,iv a3),(4,.func (.func 72) #[] #[]),(18,iv (w64 (iShr .u64 (IntKind.wrap .u64 (w64 (a1+a3))) 1))),(19,iv (w64 ((w64 (iShr .u64 (IntKind.wrap .u64 (w64 (a1+a3))) 1))+a2))),(20,iv (w64 ((w64 ((w64 (iShr .u64 (IntKind.wrap .u64 (w64 (a1+a3))) 1))+a2)) - a3))),(21,iv (w64 (iShr .u64 (IntKind.wrap .u64 (w64 (a1+a3))) 1)))]<|Ad 1 [.c [1,1,1,1,1,1,0],.c [1,1,1,1,1,1,1]]<|Kp [0,1,2,3,4,18,19,20,21] [(0,.slice Aa0 a0.length ca0),(1,iv a1),(2,iv a2),(3,iv a3),(4,.func (.func 72) #[] #[]),(18,iv (w64 (iShr .u64 (IntKind.wrap .u64 (w64 (a1+a3))) 1))),(19,iv (w64 ((w64 (iShr .u64 (IntKind.wrap .u64 (w64 (a1+a3))) 1))+a2))),(20,iv (w64 ((w64 ((w64 (iShr .u64 (IntKind.wrap .u64 (w64 (a1+a3))) 1))+a2)) - a3))),(21,iv (w64 (iShr .u64 (IntKind.wrap .u64 (w64 (a1+a3))) 1)))] ?_
    exact (slices_symMergeCmpFunc_Blob.j7_c (rec_:=rec_) hrec_) a0 _ _ _ _ a1 a2 a3 (w64 ((w64 ((w64 (iShr .u64 (IntKind.wrap .u64 (w64 (a1+a3))) 1))+a2)) - a3)) (w64 (iShr .u64 (IntKind.wrap .u64 (w64 (a1+a3))) 1)) hoa0 hla0 heq
   ·replace heq:=bif_false hb17 heq
    refine Cf (decide ((w64 (iShr .u64 (IntKind.wrap .u64 (w64 (a1+a3))) 1))<a2)) hb17<|Ra 1 [1,1,1,1,1,0,1,1,0] [.c [1,1,1,1,1,0,1,1,1],.c [1,1,1,1,1,1]]<|Rd 2 [0,1,2,3,4,18,19,20] [(0,.slice Aa0 a0.length ca0),(1,iv a1),(2,iv a2),(3,iv a3),(4,.func (.func 72) #[] #[]),(18,iv (w64 (iShr .u64 (IntKind.wrap .u64 (w64 (a1+a3))) 1))),(19,iv (w64 ((w64 (iShr .u64 (IntKind.wrap .u64 (w64 (a1+a3))) 1))+a2))),(20,iv a1)]<|Rr<|Rd 2 [0,1,2,3,4,18,19,20,21] [(0,.slice Aa0 a0.length ca0),(1,iv a1),(2,iv a2),(3,iv a3),(4,.func (.func 72) #[] #[]),(18,iv (w64 (iShr .u64 (IntKind.wrap .u64 (w64 (a1+a3))) 1))),(19,iv (w64 ((w64 (iShr .u64 (IntKind.wrap .u64 (w64 (a1+a3))) 1))+a2))),(20,iv a1),(21,iv a2)]<|Ad 1 [.c [1,1,1,1,1,1,0],.c [1,1,1,1,1,1,1]]<|Kp [0,1,2,3,4,18,19,20,21] [(0,.slice Aa0 a0.length ca0),(1,iv a1),(2,iv a2),(3,iv a3),(4,.func (.func 72) #[] #[]),(18,iv (w64 (iShr .u64 (IntKind.wrap .u64 (w64 (a1+a3))) 1))),(19,iv (w64 ((w64 (iShr .u64 (IntKind.wrap .u64 (w64 (a1+a3))) 1))+a2))),(20,iv a1),(21,iv a2)] ?_
    exact (slices_symMergeCmpFunc_Blob.j7_c (rec_:=rec_) hrec_) a0 _ _ _ _ a1 a2 a3 a1 a2 hoa0 hla0 heq
theorem slices_symMergeCmpFunc_Blob_k {w0:World}:∀ (k:Nat),∀ {H:Hp} {F:List Ch} {a0:List Blob} {Aa0:Option Addr} {na0:Nat} {ca0:Nat} {cha0:Ch} {a1:Int} {a2:Int} {a3:Int} {r:(List Blob)},SlOwn kBlob 29 H Aa0 ca0 a0 cha0→na0=a0.length→slices_symMergeCmpFunc_Blob.fk k a0 a1 a2 a3=some r→CallsH Tryd.prog 86 #[.slice Aa0 na0 ca0,iv a1,iv a2,iv a3,.func (.func 72) #[] #[]] H w0 (cha0::F) (S86 F H Aa0 ca0 na0 r):=by
 intro k
 induction k with
 | zero=>intro H F a0 Aa0 na0 ca0 cha0 a1 a2 a3 r h0_ h1_ heq; cases heq
 | succ k ih =>
  intro H F a0 Aa0 na0 ca0 cha0 a1 a2 a3 r h0_ h1_ heq
  exact slices_symMergeCmpFunc_Blob_g (rec_:=slices_symMergeCmpFunc_Blob.fk k) ih h0_ h1_ heq
theorem slices_symMergeCmpFunc_Blob_c {w0:World} {H:Hp} {F:List Ch} {a0:List Blob} {Aa0:Option Addr} {na0:Nat} {ca0:Nat} {cha0:Ch} {a1:Int} {a2:Int} {a3:Int} {r:(List Blob)} (hoa0:SlOwn kBlob 29 H Aa0 ca0 a0 cha0) (hna0:na0=a0.length) (heq:slices_symMergeCmpFunc_Blob.f a0 a1 a2 a3=some r):CallsH Tryd.prog 86 #[.slice Aa0 na0 ca0,iv a1,iv a2,iv a3,.func (.func 72) #[] #[]] H w0 (cha0::F) (S86 F H Aa0 ca0 na0 r):=by
 exact slices_symMergeCmpFunc_Blob_k big hoa0 hna0 heq
noncomputable def C80:Ctx:={ P:=Tryd.prog,f:=80,N:=63,c:=bodyOf Tryd.f80 }
def S80 (F:List Ch) (H0:Hp) (Aa0:Option Addr) (ca0:Nat) (la0:Nat) (r:(List Blob)) (v:Value) (H:Hp) (cs:List Ch):Prop:=∃ (ch0:Ch),H0=H∧v=.tuple #[]∧ch0::F=cs∧SlOwn kBlob 29 H Aa0 ca0 r ch0∧la0=r.length
theorem slices_stableCmpFunc_Blob.j4_c {w0:World} {H:Hp} {F:List Ch} {r:(List Blob)} (backl2:Int→(List Blob)→Int→Option (List Blob))
  (hbackl2:∀ (Aa0:Option Addr) (ca0:Nat) (la0:Nat) (a1:Int) (v_data0:List Blob) (chv_data0:Ch) (nv_data0:Nat) (v_blockSize6:Int) ,nv_data0=v_data0.length→la0=nv_data0→SlOwn kBlob 29 H Aa0 ca0 v_data0 chv_data0→backl2 a1 v_data0 v_blockSize6=some r→RunH C80 (S80 F H Aa0 ca0 la0 r) H w0 [.c [1,1,1,1,0,0],.l [1,1,1,1,0,0],.b 2] [(0,.slice Aa0 nv_data0 ca0),(1,iv a1),(2,.func (.func 72) #[] #[]),(6,iv v_blockSize6)] H (chv_data0::F)):∀ (Aa0:Option Addr) (ca0:Nat) (la0:Nat) (a1:Int) (v_blockSize6:Int) (v_data0:List Blob) (chv_data0:Ch) (nv_data0:Nat) ,nv_data0=v_data0.length→la0=nv_data0→SlOwn kBlob 29 H Aa0 ca0 v_data0 chv_data0→slices_stableCmpFunc_Blob.j4 backl2 a1 v_blockSize6 v_data0=some r→RunH C80 (S80 F H Aa0 ca0 la0 r) H w0 [.c [1,1,1,1,0,0,1,0,1,1,1],.b 3,.l [1,1,1,1,0,0],.b 2] [(0,.slice Aa0 nv_data0 ca0),(1,iv a1),(2,.func (.func 72) #[] #[]),(6,iv v_blockSize6)] H (chv_data0::F):=by
 intro Aa0 ca0 la0 a1 v_blockSize6 v_data0 chv_data0 nv_data0 hnv_data0 hlv_data0 hov_data0 heq
 subst hnv_data0
 unfold slices_stableCmpFunc_Blob.j4 at heq
 refine Rr<|Rd 3 [0,1,2,6] [(0,.slice Aa0 v_data0.length ca0),(1,iv a1),(2,.func (.func 72) #[] #[]),(6,iv (w64 (v_blockSize6*2)))]<|Ad 2 [.c [1,1,1,1,0,0],.l [1,1,1,1,0,0],.b 2]<|Kp [0,1,2,6] [(0,.slice Aa0 v_data0.length ca0),(1,iv a1),(2,.func (.func 72) #[] #[]),(6,iv (w64 (v_blockSize6*2)))] ?_
 exact hbackl2 _ _ _ a1 v_data0 _ _ (w64 (v_blockSize6*2)) rfl hlv_data0 hov_data0 heq
theorem slices_stableCmpFunc_Blob.e3_c {w0:World} {H:Hp} {F:List Ch} {r:(List Blob)} (backl2:Int→(List Blob)→Int→Option (List Blob))
  (hbackl2:∀ (Aa0:Option Addr) (ca0:Nat) (la0:Nat) (a1:Int) (v_data0:List Blob) (chv_data0:Ch) (nv_data0:Nat) (v_blockSize6:Int) ,nv_data0=v_data0.length→la0=nv_data0→SlOwn kBlob 29 H Aa0 ca0 v_data0 chv_data0→backl2 a1 v_data0 v_blockSize6=some r→RunH C80 (S80 F H Aa0 ca0 la0 r) H w0 [.c [1,1,1,1,0,0],.l [1,1,1,1,0,0],.b 2] [(0,.slice Aa0 nv_data0 ca0),(1,iv a1),(2,.func (.func 72) #[] #[]),(6,iv v_blockSize6)] H (chv_data0::F)):∀ (Aa0:Option Addr) (ca0:Nat) (la0:Nat) (a1:Int) (v_data0:List Blob) (chv_data0:Ch) (v_blockSize6:Int) (v_a7:Int) ,la0=v_data0.length→SlOwn kBlob 29 H Aa0 ca0 v_data0 chv_data0→slices_stableCmpFunc_Blob.e3 backl2 a1 v_data0 v_blockSize6 v_a7=some r→RunH C80 (S80 F H Aa0 ca0 la0 r) H w0 [.c [1,1,1,1,0,0,1,0,1,1,0,0],.c [1,1,1,1,0,0,1,0,1,1,0,1],.c [1,1,1,1,0,0,1,0,1,1,1],.b 3,.l [1,1,1,1,0,0],.b 2] [(0,.slice Aa0 v_data0.length ca0),(1,iv a1),(2,.func (.func 72) #[] #[]),(6,iv v_blockSize6),(7,iv v_a7)] H (chv_data0::F):=by
 intro Aa0 ca0 la0 a1 v_data0 chv_data0 v_blockSize6 v_a7 hlv_data0 hov_data0 heq
 unfold slices_stableCmpFunc_Blob.e3 at heq
 refine Rr<|Rd 4 [0,1,2,6,7,9] [(0,.slice Aa0 v_data0.length ca0),(1,iv a1),(2,.func (.func 72) #[] #[]),(6,iv v_blockSize6),(7,iv v_a7),(9,iv (w64 (v_a7+v_blockSize6)))]<|Ra 1 [1,1,1,1,0,0,1,0,1,1,0,1,0] [.c [1,1,1,1,0,0,1,0,1,1,0,1,1],.c [1,1,1,1,0,0,1,0,1,1,1],.b 3,.l [1,1,1,1,0,0],.b 2]<|Rd 3 [0,1,2,6,7,9,54] [(0,.slice Aa0 v_data0.length ca0),(1,iv a1),(2,.func (.func 72) #[] #[]),(6,iv v_blockSize6),(7,iv v_a7),(9,iv (w64 (v_a7+v_blockSize6))),(54,.bool (decide ((w64 (v_a7+v_blockSize6))<a1)))] ?_
 rcases bool_cases (decide ((w64 (v_a7+v_blockSize6))<a1)) with hb2 | hb2
 ·replace heq:=bif_true hb2 heq
  refine Ct (decide ((w64 (v_a7+v_blockSize6))<a1)) hb2<|Rr<|Rk 5 [0,1,2,6,55,56,57,58,59] [(0,.slice Aa0 v_data0.length ca0),(1,iv a1),(2,.func (.func 72) #[] #[]),(6,iv v_blockSize6),(55,.slice Aa0 v_data0.length ca0),(56,iv v_a7),(57,iv (w64 (v_a7+v_blockSize6))),(58,iv a1),(59,.func (.func 72) #[] #[])] ?_
  obtain ⟨y2,hy2,heq⟩:=bind_some heq
  refine RgH.does (DoesH.call (d:=60) (g:=86) (args:=#[.slice Aa0 v_data0.length ca0,iv v_a7,iv (w64 (v_a7+v_blockSize6)),iv a1,.func (.func 72) #[] #[]]) (by kernel_rfl) (slices_symMergeCmpFunc_Blob_c (a0:=v_data0) (a1:=v_a7) (a2:=w64 (v_a7+v_blockSize6)) (a3:=a1) hov_data0 rfl hy2)) ?_
  rintro _ _ _ _ ⟨_,rfl,ch2,rfl,rfl,rfl,ho2,hn2⟩
  refine Dn<|Kp [0,1,2,6] [(0,.slice Aa0 v_data0.length ca0),(1,iv a1),(2,.func (.func 72) #[] #[]),(6,iv v_blockSize6)] ?_
  exact (slices_stableCmpFunc_Blob.j4_c (backl2:=backl2) hbackl2) _ _ _ a1 v_blockSize6 y2 _ _ hn2 hlv_data0 ho2 heq
 ·replace heq:=bif_false hb2 heq
  refine Cf (decide ((w64 (v_a7+v_blockSize6))<a1)) hb2<|Ad 1 [.c [1,1,1,1,0,0,1,0,1,1,1],.b 3,.l [1,1,1,1,0,0],.b 2]<|Kp [0,1,2,6] [(0,.slice Aa0 v_data0.length ca0),(1,iv a1),(2,.func (.func 72) #[] #[]),(6,iv v_blockSize6)] ?_
  exact (slices_stableCmpFunc_Blob.j4_c (backl2:=backl2) hbackl2) _ _ _ a1 v_blockSize6 v_data0 _ _ rfl hlv_data0 hov_data0 heq
theorem slices_stableCmpFunc_Blob.l5_c {w0:World} {H:Hp} {F:List Ch} {r:(List Blob)} (e3:Int→(List Blob)→Int→Int→Option (List Blob))
  (he3:∀ (Aa0:Option Addr) (ca0:Nat) (la0:Nat) (a1:Int) (v_data0:List Blob) (chv_data0:Ch) (v_blockSize6:Int) (v_a7:Int) ,la0=v_data0.length→SlOwn kBlob 29 H Aa0 ca0 v_data0 chv_data0→e3 a1 v_data0 v_blockSize6 v_a7=some r→RunH C80 (S80 F H Aa0 ca0 la0 r) H w0 [.c [1,1,1,1,0,0,1,0,1,1,0,0],.c [1,1,1,1,0,0,1,0,1,1,0,1],.c [1,1,1,1,0,0,1,0,1,1,1],.b 3,.l [1,1,1,1,0,0],.b 2] [(0,.slice Aa0 v_data0.length ca0),(1,iv a1),(2,.func (.func 72) #[] #[]),(6,iv v_blockSize6),(7,iv v_a7)] H (chv_data0::F)):∀ (k:Nat),∀ (Aa0:Option Addr) (ca0:Nat) (la0:Nat) (a1:Int) (v_blockSize6:Int) (v_data0:List Blob) (chv_data0:Ch) (nv_data0:Nat) (v_a7:Int) (v_b8:Int) ,nv_data0=v_data0.length→la0=nv_data0→SlOwn kBlob 29 H Aa0 ca0 v_data0 chv_data0→slices_stableCmpFunc_Blob.l5 e3 k a1 v_blockSize6 v_data0 v_a7 v_b8=some r→RunH C80 (S80 F H Aa0 ca0 la0 r) H w0 [.c [1,1,1,1,0,0,1,0,1,0,0,0],.l [1,1,1,1,0,0,1,0,1,0,0,0],.b 4,.c [1,1,1,1,0,0,1,0,1,1],.b 3,.l [1,1,1,1,0,0],.b 2] [(0,.slice Aa0 nv_data0 ca0),(1,iv a1),(2,.func (.func 72) #[] #[]),(6,iv v_blockSize6),(7,iv v_a7),(8,iv v_b8)] H (chv_data0::F):=by
 intro k
 induction k with
 | zero=>intro Aa0 ca0 la0 a1 v_blockSize6 v_data0 chv_data0 nv_data0 v_a7 v_b8 hnv_data0 hlv_data0 hov_data0 heq; exact nomatch (show (none:Option (List Blob))=some r from heq)
 | succ k ihk =>
  intro Aa0 ca0 la0 a1 v_blockSize6 v_data0 chv_data0 nv_data0 v_a7 v_b8 hnv_data0 hlv_data0 hov_data0 heq
  subst hnv_data0
  rw [slices_stableCmpFunc_Blob.l5] at heq
  refine Ra 2 [1,1,1,1,0,0,1,0,1,0,0,0,0,0] [.c [1,1,1,1,0,0,1,0,1,0,0,0,0,1],.c [1,1,1,1,0,0,1,0,1,0,0,0,1],.l [1,1,1,1,0,0,1,0,1,0,0,0],.b 4,.c [1,1,1,1,0,0,1,0,1,1],.b 3,.l [1,1,1,1,0,0],.b 2]<|Rd 3 [0,1,2,6,7,8,35] [(0,.slice Aa0 v_data0.length ca0),(1,iv a1),(2,.func (.func 72) #[] #[]),(6,iv v_blockSize6),(7,iv v_a7),(8,iv v_b8),(35,.bool (decide (v_b8≤a1)))] ?_
  rcases bool_cases (decide (v_b8≤a1)) with hb3 | hb3
  ·replace heq:=bif_true hb3 heq
   refine Ct (decide (v_b8≤a1)) hb3<|Ra 3 [1,1,1,1,0,0,1,0,1,0,0,0,1,0,0] [.c [1,1,1,1,0,0,1,0,1,0,0,0,1,0,1],.b 5,.l [1,1,1,1,0,0,1,0,1,0,0,0],.b 4,.c [1,1,1,1,0,0,1,0,1,1],.b 3,.l [1,1,1,1,0,0],.b 2]<|Rk 7 [0,1,2,6,8,36,37,40,41,42] [(0,.slice Aa0 v_data0.length ca0),(1,iv a1),(2,.func (.func 72) #[] #[]),(6,iv v_blockSize6),(8,iv v_b8),(36,.slice Aa0 v_data0.length ca0),(37,iv v_a7),(40,iv (w64 (v_a7+v_blockSize6))),(41,iv v_b8),(42,.func (.func 72) #[] #[])] ?_
   obtain ⟨y3,hy3,heq⟩:=bind_some heq
   refine RgH.does (DoesH.call (d:=43) (g:=86) (args:=#[.slice Aa0 v_data0.length ca0,iv v_a7,iv (w64 (v_a7+v_blockSize6)),iv v_b8,.func (.func 72) #[] #[]]) (by kernel_rfl) (slices_symMergeCmpFunc_Blob_c (a0:=v_data0) (a1:=v_a7) (a2:=w64 (v_a7+v_blockSize6)) (a3:=v_b8) hov_data0 rfl hy3)) ?_
   rintro _ _ _ _ ⟨_,rfl,ch3,rfl,rfl,rfl,ho3,hn3⟩
   refine Dn<|Ra 1 [1,1,1,1,0,0,1,0,1,0,0,0,1,0,1,0] [.c [1,1,1,1,0,0,1,0,1,0,0,0,1,0,1,1],.b 5,.l [1,1,1,1,0,0,1,0,1,0,0,0],.b 4,.c [1,1,1,1,0,0,1,0,1,1],.b 3,.l [1,1,1,1,0,0],.b 2]<|Rd 2 [0,1,2,6,7,8] [(0,.slice Aa0 v_data0.length ca0),(1,iv a1),(2,.func (.func 72) #[] #[]),(6,iv v_blockSize6),(7,iv v_b8),(8,iv v_b8)]<|Rr<|Rd 5 [0,1,2,6,7,8] [(0,.slice Aa0 v_data0.length ca0),(1,iv a1),(2,.func (.func 72) #[] #[]),(6,iv v_blockSize6),(7,iv v_b8),(8,iv (w64 (v_b8+(w64 (2*v_blockSize6)))))]<|Ad 2 [.c [1,1,1,1,0,0,1,0,1,0,0,0],.l [1,1,1,1,0,0,1,0,1,0,0,0],.b 4,.c [1,1,1,1,0,0,1,0,1,1],.b 3,.l [1,1,1,1,0,0],.b 2]<|Kp [0,1,2,6,7,8] [(0,.slice Aa0 v_data0.length ca0),(1,iv a1),(2,.func (.func 72) #[] #[]),(6,iv v_blockSize6),(7,iv v_b8),(8,iv (w64 (v_b8+(w64 (2*v_blockSize6)))))] ?_
   exact ihk _ _ _ a1 v_blockSize6 y3 _ _ v_b8 (w64 (v_b8+(w64 (2*v_blockSize6)))) hn3 hlv_data0 ho3 heq
  ·replace heq:=bif_false hb3 heq
   refine Cf (decide (v_b8≤a1)) hb3<|Ad 3 [.c [1,1,1,1,0,0,1,0,1,1,0,0],.c [1,1,1,1,0,0,1,0,1,1,0,1],.c [1,1,1,1,0,0,1,0,1,1,1],.b 3,.l [1,1,1,1,0,0],.b 2]<|Kp [0,1,2,6,7] [(0,.slice Aa0 v_data0.length ca0),(1,iv a1),(2,.func (.func 72) #[] #[]),(6,iv v_blockSize6),(7,iv v_a7)] ?_
   exact he3 _ _ _ a1 v_data0 _ v_blockSize6 v_a7 hlv_data0 hov_data0 heq
theorem slices_stableCmpFunc_Blob.l2_c {w0:World} {H:Hp} {F:List Ch} {r:(List Blob)}:∀ (k:Nat),∀ (Aa0:Option Addr) (ca0:Nat) (la0:Nat) (a1:Int) (v_data0:List Blob) (chv_data0:Ch) (nv_data0:Nat) (v_blockSize6:Int) ,nv_data0=v_data0.length→la0=nv_data0→SlOwn kBlob 29 H Aa0 ca0 v_data0 chv_data0→slices_stableCmpFunc_Blob.l2 k a1 v_data0 v_blockSize6=some r→RunH C80 (S80 F H Aa0 ca0 la0 r) H w0 [.c [1,1,1,1,0,0],.l [1,1,1,1,0,0],.b 2] [(0,.slice Aa0 nv_data0 ca0),(1,iv a1),(2,.func (.func 72) #[] #[]),(6,iv v_blockSize6)] H (chv_data0::F):=by
 intro k
 induction k with
 | zero=>intro Aa0 ca0 la0 a1 v_data0 chv_data0 nv_data0 v_blockSize6 hnv_data0 hlv_data0 hov_data0 heq; exact nomatch (show (none:Option (List Blob))=some r from heq)
 | succ k ihk =>
  intro Aa0 ca0 la0 a1 v_data0 chv_data0 nv_data0 v_blockSize6 hnv_data0 hlv_data0 hov_data0 heq
  subst hnv_data0
  rw [slices_stableCmpFunc_Blob.l2] at heq
  refine Ra 2 [1,1,1,1,0,0,0,0] [.c [1,1,1,1,0,0,0,1],.c [1,1,1,1,0,0,1],.l [1,1,1,1,0,0],.b 2]<|Rd 3 [0,1,2,6,30] [(0,.slice Aa0 v_data0.length ca0),(1,iv a1),(2,.func (.func 72) #[] #[]),(6,iv v_blockSize6),(30,.bool (decide (v_blockSize6<a1)))] ?_
  rcases bool_cases (decide (v_blockSize6<a1)) with hb1 | hb1
  ·replace heq:=bif_true hb1 heq
   refine Ct (decide (v_blockSize6<a1)) hb1<|Ra 3 [1,1,1,1,0,0,1,0,0] [.c [1,1,1,1,0,0,1,0,1],.b 3,.l [1,1,1,1,0,0],.b 2]<|Rd 4 [0,1,2,6,7,8] [(0,.slice Aa0 v_data0.length ca0),(1,iv a1),(2,.func (.func 72) #[] #[]),(6,iv v_blockSize6),(7,iv 0),(8,iv (w64 (2*v_blockSize6)))]<|Ad 3 [.c [1,1,1,1,0,0,1,0,1,0,0,0],.l [1,1,1,1,0,0,1,0,1,0,0,0],.b 4,.c [1,1,1,1,0,0,1,0,1,1],.b 3,.l [1,1,1,1,0,0],.b 2]<|Kp [0,1,2,6,7,8] [(0,.slice Aa0 v_data0.length ca0),(1,iv a1),(2,.func (.func 72) #[] #[]),(6,iv v_blockSize6),(7,iv 0),(8,iv (w64 (2*v_blockSize6)))] ?_
   exact ((slices_stableCmpFunc_Blob.l5_c (e3:=slices_stableCmpFunc_Blob.e3 ((slices_stableCmpFunc_Blob.l2 k))) (slices_stableCmpFunc_Blob.e3_c (backl2:=(slices_stableCmpFunc_Blob.l2 k)) ihk)) big) _ _ _ a1 v_blockSize6 v_data0 _ _ 0 (w64 (2*v_blockSize6)) rfl hlv_data0 hov_data0 heq
  ·replace heq:=bif_false hb1 heq
   refine Cf (decide (v_blockSize6<a1)) hb1<|Ad 1 [] ?_
   obtain rfl:=Option.some.inj heq
   exact RunH.done (by kernel_rfl) Tryd.func80 (v:=.tuple #[]) (by kernel_rfl) ⟨chv_data0,rfl,rfl,rfl,hov_data0,(hlv_data0.trans rfl)⟩
theorem slices_stableCmpFunc_Blob.e1_c {w0:World} {H:Hp} {F:List Ch} {r:(List Blob)}:∀ (Aa0:Option Addr) (ca0:Nat) (la0:Nat) (a1:Int) (v_data0:List Blob) (chv_data0:Ch) (nv_data0:Nat) (v_a7:Int) ,nv_data0=v_data0.length→la0=nv_data0→SlOwn kBlob 29 H Aa0 ca0 v_data0 chv_data0→slices_stableCmpFunc_Blob.e1 a1 v_data0 v_a7=some r→RunH C80 (S80 F H Aa0 ca0 la0 r) H w0 [.c [1,1,1,0],.c [1,1,1,1]] [(0,.slice Aa0 nv_data0 ca0),(1,iv a1),(2,.func (.func 72) #[] #[]),(6,iv 20),(7,iv v_a7)] H (chv_data0::F):=by
 intro Aa0 ca0 la0 a1 v_data0 chv_data0 nv_data0 v_a7 hnv_data0 hlv_data0 hov_data0 heq
 subst hnv_data0
 unfold slices_stableCmpFunc_Blob.e1 at heq
 refine Rr<|Rk 4 [0,1,2,6,23,24,25,26] [(0,.slice Aa0 v_data0.length ca0),(1,iv a1),(2,.func (.func 72) #[] #[]),(6,iv 20),(23,.slice Aa0 v_data0.length ca0),(24,iv v_a7),(25,iv a1),(26,.func (.func 72) #[] #[])] ?_
 obtain ⟨y1,hy1,heq⟩:=bind_some heq
 refine RgH.does (DoesH.call (d:=27) (g:=85) (args:=#[.slice Aa0 v_data0.length ca0,iv v_a7,iv a1,.func (.func 72) #[] #[]]) (by kernel_rfl) (slices_insertionSortCmpFunc_Blob_c (a0:=v_data0) (a1:=v_a7) (a2:=a1) hov_data0 rfl hy1)) ?_
 rintro _ _ _ _ ⟨_,rfl,ch1,rfl,rfl,rfl,ho1,hn1⟩
 refine Dn<|Ad 2 [.c [1,1,1,1,0,0],.l [1,1,1,1,0,0],.b 2]<|Kp [0,1,2,6] [(0,.slice Aa0 v_data0.length ca0),(1,iv a1),(2,.func (.func 72) #[] #[]),(6,iv 20)] ?_
 exact ((slices_stableCmpFunc_Blob.l2_c) big) _ _ _ a1 y1 _ _ 20 hn1 hlv_data0 ho1 heq
theorem slices_stableCmpFunc_Blob.l6_c {w0:World} {H:Hp} {F:List Ch} {r:(List Blob)} (e1:Int→(List Blob)→Int→Option (List Blob))
  (he1:∀ (Aa0:Option Addr) (ca0:Nat) (la0:Nat) (a1:Int) (v_data0:List Blob) (chv_data0:Ch) (nv_data0:Nat) (v_a7:Int) ,nv_data0=v_data0.length→la0=nv_data0→SlOwn kBlob 29 H Aa0 ca0 v_data0 chv_data0→e1 a1 v_data0 v_a7=some r→RunH C80 (S80 F H Aa0 ca0 la0 r) H w0 [.c [1,1,1,0],.c [1,1,1,1]] [(0,.slice Aa0 nv_data0 ca0),(1,iv a1),(2,.func (.func 72) #[] #[]),(6,iv 20),(7,iv v_a7)] H (chv_data0::F)):∀ (k:Nat),∀ (Aa0:Option Addr) (ca0:Nat) (la0:Nat) (a1:Int) (v_data0:List Blob) (chv_data0:Ch) (nv_data0:Nat) (v_a7:Int) (v_b8:Int) ,nv_data0=v_data0.length→la0=nv_data0→SlOwn kBlob 29 H Aa0 ca0 v_data0 chv_data0→slices_stableCmpFunc_Blob.l6 e1 k a1 v_data0 v_a7 v_b8=some r→RunH C80 (S80 F H Aa0 ca0 la0 r) H w0 [.c [1,1,0,0,0],.l [1,1,0,0,0],.b 0,.c [1,1,1]] [(0,.slice Aa0 nv_data0 ca0),(1,iv a1),(2,.func (.func 72) #[] #[]),(6,iv 20),(7,iv v_a7),(8,iv v_b8)] H (chv_data0::F):=by
 intro k
 induction k with
 | zero=>intro Aa0 ca0 la0 a1 v_data0 chv_data0 nv_data0 v_a7 v_b8 hnv_data0 hlv_data0 hov_data0 heq; exact nomatch (show (none:Option (List Blob))=some r from heq)
 | succ k ihk =>
  intro Aa0 ca0 la0 a1 v_data0 chv_data0 nv_data0 v_a7 v_b8 hnv_data0 hlv_data0 hov_data0 heq
  subst hnv_data0
  rw [slices_stableCmpFunc_Blob.l6] at heq
  refine Ra 2 [1,1,0,0,0,0,0] [.c [1,1,0,0,0,0,1],.c [1,1,0,0,0,1],.l [1,1,0,0,0],.b 0,.c [1,1,1]]<|Rd 3 [0,1,2,6,7,8,13] [(0,.slice Aa0 v_data0.length ca0),(1,iv a1),(2,.func (.func 72) #[] #[]),(6,iv 20),(7,iv v_a7),(8,iv v_b8),(13,.bool (decide (v_b8≤a1)))] ?_
  rcases bool_cases (decide (v_b8≤a1)) with hb4 | hb4
  ·replace heq:=bif_true hb4 heq
   refine Ct (decide (v_b8≤a1)) hb4<|Ra 3 [1,1,0,0,0,1,0,0] [.c [1,1,0,0,0,1,0,1],.b 1,.l [1,1,0,0,0],.b 0,.c [1,1,1]]<|Rk 4 [0,1,2,6,8,14,15,16,17] [(0,.slice Aa0 v_data0.length ca0),(1,iv a1),(2,.func (.func 72) #[] #[]),(6,iv 20),(8,iv v_b8),(14,.slice Aa0 v_data0.length ca0),(15,iv v_a7),(16,iv v_b8),(17,.func (.func 72) #[] #[])] ?_
   obtain ⟨y4,hy4,heq⟩:=bind_some heq
   refine RgH.does (DoesH.call (d:=18) (g:=85) (args:=#[.slice Aa0 v_data0.length ca0,iv v_a7,iv v_b8,.func (.func 72) #[] #[]]) (by kernel_rfl) (slices_insertionSortCmpFunc_Blob_c (a0:=v_data0) (a1:=v_a7) (a2:=v_b8) hov_data0 rfl hy4)) ?_
   rintro _ _ _ _ ⟨_,rfl,ch4,rfl,rfl,rfl,ho4,hn4⟩
   refine Dn<|Ra 1 [1,1,0,0,0,1,0,1,0] [.c [1,1,0,0,0,1,0,1,1],.b 1,.l [1,1,0,0,0],.b 0,.c [1,1,1]]<|Rd 2 [0,1,2,6,7,8] [(0,.slice Aa0 v_data0.length ca0),(1,iv a1),(2,.func (.func 72) #[] #[]),(6,iv 20),(7,iv v_b8),(8,iv v_b8)]<|Rr<|Rd 4 [0,1,2,6,7,8] [(0,.slice Aa0 v_data0.length ca0),(1,iv a1),(2,.func (.func 72) #[] #[]),(6,iv 20),(7,iv v_b8),(8,iv (w64 (v_b8+20)))]<|Ad 2 [.c [1,1,0,0,0],.l [1,1,0,0,0],.b 0,.c [1,1,1]]<|Kp [0,1,2,6,7,8] [(0,.slice Aa0 v_data0.length ca0),(1,iv a1),(2,.func (.func 72) #[] #[]),(6,iv 20),(7,iv v_b8),(8,iv (w64 (v_b8+20)))] ?_
   exact ihk _ _ _ a1 y4 _ _ v_b8 (w64 (v_b8+20)) hn4 hlv_data0 ho4 heq
  ·replace heq:=bif_false hb4 heq
   refine Cf (decide (v_b8≤a1)) hb4<|Ad 2 [.c [1,1,1,0],.c [1,1,1,1]]<|Kp [0,1,2,6,7] [(0,.slice Aa0 v_data0.length ca0),(1,iv a1),(2,.func (.func 72) #[] #[]),(6,iv 20),(7,iv v_a7)] ?_
   exact he1 _ _ _ a1 v_data0 _ _ v_a7 rfl hlv_data0 hov_data0 heq
theorem slices_stableCmpFunc_Blob_c {w0:World} {H:Hp} {F:List Ch} {a0:List Blob} {Aa0:Option Addr} {na0:Nat} {ca0:Nat} {cha0:Ch} {a1:Int} {r:(List Blob)} (hoa0:SlOwn kBlob 29 H Aa0 ca0 a0 cha0) (hna0:na0=a0.length) (heq:slices_stableCmpFunc_Blob.f a0 a1=some r):CallsH Tryd.prog 80 #[.slice Aa0 na0 ca0,iv a1,.func (.func 72) #[] #[]] H w0 (cha0::F) (S80 F H Aa0 ca0 na0 r):=by
 refine calls_of_runH (F:=C80) Tryd.func80 (by kernel_rfl) Tryd.ntmps80 (args:=[.slice Aa0 na0 ca0,iv a1,.func (.func 72) #[] #[]]) (by kernel_rfl) ?_
 suffices key0:∀ (la0:Nat),la0=na0→RunH C80 (S80 F H Aa0 ca0 la0 r) H w0 [.c []] (argL 0 [.slice Aa0 na0 ca0,iv a1,.func (.func 72) #[] #[]]) H (cha0::F) from key0 na0 rfl
 intro la0 hla0
 subst hna0
 unfold slices_stableCmpFunc_Blob.f at heq
 refine Ra 1 [0] [.c [1]]<|Rd 1 [0,1,2,6] [(0,.slice Aa0 a0.length ca0),(1,iv a1),(2,.func (.func 72) #[] #[]),(6,iv 20)]<|Ra 1 [1,0] [.c [1,1]]<|Rd 3 [0,1,2,6,7,8] [(0,.slice Aa0 a0.length ca0),(1,iv a1),(2,.func (.func 72) #[] #[]),(6,iv 20),(7,iv 0),(8,iv 20)]<|Ad 3 [.c [1,1,0,0,0],.l [1,1,0,0,0],.b 0,.c [1,1,1]]<|Kp [0,1,2,6,7,8] [(0,.slice Aa0 a0.length ca0),(1,iv a1),(2,.func (.func 72) #[] #[]),(6,iv 20),(7,iv 0),(8,iv 20)] ?_
 exact ((slices_stableCmpFunc_Blob.l6_c (e1:=slices_stableCmpFunc_Blob.e1) (slices_stableCmpFunc_Blob.e1_c)) big) _ _ _ a1 a0 _ _ 0 20 rfl hla0 hoa0 heq
noncomputable def C71:Ctx:={ P:=Tryd.prog,f:=71,N:=9,c:=bodyOf Tryd.f71 }
def S71 (F:List Ch) (H0:Hp) (Aa0:Option Addr) (ca0:Nat) (la0:Nat) (r:(List Blob)) (v:Value) (H:Hp) (cs:List Ch):Prop:=∃ (ch0:Ch),H0=H∧v=.tuple #[]∧ch0::F=cs∧SlOwn kBlob 29 H Aa0 ca0 r ch0∧la0=r.length
theorem slices_SortStableFunc_Blob_c {w0:World} {H:Hp} {F:List Ch} {a0:List Blob} {Aa0:Option Addr} {na0:Nat} {ca0:Nat} {cha0:Ch} {r:(List Blob)} (hoa0:SlOwn kBlob 29 H Aa0 ca0 a0 cha0) (hna0:na0=a0.length) (heq:slices_SortStableFunc_Blob.f a0=some r):CallsH Tryd.prog 71 #[.slice Aa0 na0 ca0,.func (.func 72) #[] #[]] H w0 (cha0::F) (S71 F H Aa0 ca0 na0 r):=by
 refine calls_of_runH (F:=C71) Tryd.func71 (by kernel_rfl) Tryd.ntmps71 (args:=[.slice Aa0 na0 ca0,.func (.func 72) #[] #[]]) (by kernel_rfl) ?_
 suffices key0:∀ (la0:Nat),la0=na0→RunH C71 (S71 F H Aa0 ca0 la0 r) H w0 [.c []] (argL 0 [.slice Aa0 na0 ca0,.func (.func 72) #[] #[]]) H (cha0::F) from key0 na0 rfl
 intro la0 hla0
 subst hna0
 unfold slices_SortStableFunc_Blob.f at heq
 refine Rr<|Rk 4 [0,4,6,7] [(0,.slice Aa0 a0.length ca0),(4,.slice Aa0 a0.length ca0),(6,iv (a0.length:Int)),(7,.func (.func 72) #[] #[])] ?_
 obtain ⟨y1,hy1,heq⟩:=bind_some heq
 refine RgH.does (DoesH.call (d:=8) (g:=80) (args:=#[.slice Aa0 a0.length ca0,iv (a0.length:Int),.func (.func 72) #[] #[]]) (by kernel_rfl) (slices_stableCmpFunc_Blob_c (a0:=a0) (a1:=(a0.length:Int)) hoa0 rfl hy1)) ?_
 rintro _ _ _ _ ⟨_,rfl,ch1,rfl,rfl,rfl,ho1,hn1⟩
 refine Dn ?_
 obtain rfl:=Option.some.inj heq
 exact RunH.done (by kernel_rfl) Tryd.func71 (v:=.tuple #[]) (by kernel_rfl) ⟨ch1,rfl,rfl,rfl,ho1,(hla0.trans hn1)⟩
noncomputable def C56:Ctx:={ P:=Tryd.prog,f:=56,N:=14,c:=bodyOf Tryd.f56 }
def S56 (F:List Ch) (H0:Hp) (r:(List Blob)) (v:Value) (H:Hp) (cs:List Ch):Prop:=∃ (A0:Option Addr) (c0:Nat) (ch0:Ch),H0=H∧v=.slice A0 r.length c0∧ch0::F=cs∧SlOwn kBlob 29 H A0 c0 r ch0
theorem cache_leaving_c {w0:World} {H:Hp} {F:List Ch} {a0:Cache} {Aa0_2:Option Addr} {na0_2:Nat} {ca0_2:Nat} {Aa0_3:Option Addr} {na0_3:Nat} {ca0_3:Nat} {a1:Int} {r:(List Blob)} (hra0_2:Rw kBlob H F Aa0_2 a0.Blobs) (hca0_2:na0_2≤ca0_2) (hna0_2:na0_2=a0.Blobs.length) (hra0_3:Rw kEntry H F Aa0_3 a0.Entries) (hca0_3:na0_3≤ca0_3) (hna0_3:na0_3=a0.Entries.length) (heq:cache_leaving.f a0 a1=some r):CallsH Tryd.prog 56 #[.agg #[iv a0.Room,iv a0.Lease,.slice Aa0_2 na0_2 ca0_2,.slice Aa0_3 na0_3 ca0_3],iv a1] H w0 (F) (S56 F H r):=by
 refine calls_of_runH (F:=C56) Tryd.func56 (by kernel_rfl) Tryd.ntmps56 (args:=[.agg #[iv a0.Room,iv a0.Lease,.slice Aa0_2 na0_2 ca0_2,.slice Aa0_3 na0_3 ca0_3],iv a1]) (by kernel_rfl) ?_
 subst hna0_2
 subst hna0_3
 unfold cache_leaving.f at heq
 refine Ra 1 [0] [.c [1]] ?_
 refine RgH.does (DoesH.new (d:=2) (v:=fun g=>.pointer (some ⟨g,0,none⟩)) (o:=fun g=>.cells #[iv a0.Room,iv a0.Lease,.slice Aa0_2 a0.Blobs.length ca0_2,.slice Aa0_3 a0.Entries.length ca0_3] 25 (0,0)) (fun g=>by kernel_rfl)) ?_
 rintro _ _ _ _ ⟨g1,rfl,rfl,rfl⟩
 refine RgH.does (DoesH.new (d:=3) (v:=fun g=>.pointer (some ⟨g,0,none⟩)) (o:=fun g=>.cells #[iv a1] 3 (0,0)) (fun g=>by kernel_rfl)) ?_
 rintro _ _ _ _ ⟨g2,rfl,rfl,rfl⟩
 refine Rd 3 [2,3] [(2,pg g1 0),(3,pg g2 0)]<|Ra 1 [1,0] [.c [1,1]]<|Rv 2 [3,7] [.slice Aa0_2 a0.Blobs.length ca0_2] [.load ⟨g1,2,none⟩ (.slice Aa0_2 a0.Blobs.length ca0_2)] [(3,pg g2 0),(7,.slice Aa0_2 a0.Blobs.length ca0_2)] (fun w hh=>(hh.box 1 rfl rfl)) ?_
 obtain ⟨y1,hy1,heq⟩:=bind_some heq
 refine RgH.does (DoesH.call (d:=8) (g:=19) (args:=#[.slice Aa0_2 a0.Blobs.length ca0_2]) (by kernel_rfl) (slices_Clone_Blob_c (a0:=a0.Blobs) (hra0_2.wk (fun _ h=>(.tail _ (.tail _ h)))) hca0_2 rfl hy1)) ?_
 rintro _ _ _ _ ⟨_,rfl,A1,c1,ch1,rfl,rfl,rfl,ho1⟩
 refine Rk 4 [8,9] [(8,.slice A1 y1.length c1),(9,.func (.func 70) #[] #[.pointer (some ⟨g2,0,none⟩)])] ?_
 obtain ⟨y2,hy2,heq⟩:=bind_some heq
 refine RgH.does (DoesH.call (d:=10) (g:=49) (args:=#[.slice A1 y1.length c1,.func (.func 70) #[] #[.pointer (some ⟨g2,0,none⟩)]]) (by kernel_rfl) (slices_DeleteFunc_Blob_c (a0:=y1) (a1q0:=a1) ho1 rfl (.inr (.head _)) hy2)) ?_
 rintro _ _ _ _ ⟨_,rfl,A2,c2,ch2,rfl,rfl,rfl,ho2⟩
 refine Rd 6 [5] [(5,.slice A2 y2.length c2)]<|Ra 1 [1,1,0] [.c [1,1,1]]<|Rk 1 [5,11] [(5,.slice A2 y2.length c2),(11,.slice A2 y2.length c2)] ?_
 obtain ⟨y3,hy3,heq⟩:=bind_some heq
 refine RgH.does (DoesH.call (d:=12) (g:=71) (args:=#[.slice A2 y2.length c2,.func (.func 72) #[] #[]]) (by kernel_rfl) (slices_SortStableFunc_Blob_c (a0:=y2) ho2 rfl hy3)) ?_
 rintro _ _ _ _ ⟨_,rfl,ch3,rfl,rfl,rfl,ho3,hn1⟩
 refine Dn<|Ra 1 [1,1,1,0] [.c [1,1,1,1]]<|Rd 2 [4] [(4,.slice A2 y2.length c2)] ?_
 obtain rfl:=Option.some.inj heq
 refine RunH.pick 3 [0] (cs':=ch3::F) (by kernel_rfl) rfl ?_
 exact RunH.done (by kernel_rfl) Tryd.func56 (v:=.slice A2 y2.length c2) (by kernel_rfl) ⟨A2,c2,ch3,rfl,(by first | rfl | exact congrArg (fun q=>Value.slice _ q _) hn1 | (rw [hn1]; done) | (simp only [← hn1])),(by first | rfl | (rw [hn1]; done) | (rw [hn1]; rfl) | (simp only [List.length_set]; done) | (simp only [List.length_set]; rfl)),ho3⟩
noncomputable def C57:Ctx:={ P:=Tryd.prog,f:=57,N:=19,c:=bodyOf Tryd.f57 }
def S57 (F:List Ch) (H0:Hp) (r:Int) (v:Value) (H:Hp) (cs:List Ch):Prop:=H0=H∧v=iv r∧F=cs
theorem cache_used.e1_c {w0:World} {H:Hp} {F:List Ch} {r:Int}:∀ (v_sum3:Int) ,cache_used.e1 v_sum3=some r→RunH C57 (S57 F H r) H w0 [.c [1,1,1,0],.c [1,1,1,1]] [(3,iv v_sum3)] H (F):=by
 intro v_sum3  heq
 unfold cache_used.e1 at heq
 refine Rr<|Rd 2 [2] [(2,iv v_sum3)] ?_
 obtain rfl:=Option.some.inj heq
 exact RunH.done (by kernel_rfl) Tryd.func57 (v:=iv v_sum3) (by kernel_rfl) ⟨rfl,rfl,rfl⟩
theorem cache_used.l2_c {w0:World} {H:Hp} {F:List Ch} {r:Int} (e1:Int→Option Int)
  (he1:∀ (v_sum3:Int) ,e1 v_sum3=some r→RunH C57 (S57 F H r) H w0 [.c [1,1,1,0],.c [1,1,1,1]] [(3,iv v_sum3)] H (F)):∀ (k:Nat),∀ (a0:Cache) (Aa0_2:Option Addr) (ca0_2:Nat) (v_sum3:Int) (v9:Int) ,Rw kBlob H F Aa0_2 a0.Blobs→a0.Blobs.length≤ca0_2→cache_used.l2 e1 k a0 v_sum3 v9=some r→RunH C57 (S57 F H r) H w0 [.c [1,1,0,1,0,0],.l [1,1,0,1,0,0],.b 0,.c [1,1,1]] [(3,iv v_sum3),(7,.slice Aa0_2 a0.Blobs.length ca0_2),(8,iv (a0.Blobs.length:Int)),(9,iv v9)] H (F):=by
 intro k
 induction k with
 | zero=>intro a0 Aa0_2 ca0_2 v_sum3 v9 hra0_2 hca0_2 heq; exact nomatch (show (none:Option Int)=some r from heq)
 | succ k ihk =>
  intro a0 Aa0_2 ca0_2 v_sum3 v9 hra0_2 hca0_2 heq
  rw [cache_used.l2] at heq
  refine Ra 1 [1,1,0,1,0,0,0] [.c [1,1,0,1,0,0,1],.l [1,1,0,1,0,0],.b 0,.c [1,1,1]]<|Rd 1 [3,7,8,9,10] [(3,iv v_sum3),(7,.slice Aa0_2 a0.Blobs.length ca0_2),(8,iv (a0.Blobs.length:Int)),(9,iv v9),(10,.bool (decide (v9<(a0.Blobs.length:Int))))]<|Ad 1 [.c [1,1,0,1,0,0,1,0],.c [1,1,0,1,0,0,1,1],.l [1,1,0,1,0,0],.b 0,.c [1,1,1]] ?_
  rcases bool_cases (decide (v9<(a0.Blobs.length:Int))) with hb1 | hb1
  ·replace heq:=bif_true hb1 heq
   refine Ct (decide (v9<(a0.Blobs.length:Int))) hb1<|Ra 4 [1,1,0,1,0,0,1,1,0,0,0] [.c [1,1,0,1,0,0,1,1,0,0,1],.b 1,.c [1,1,0,1,0,0,1,1,1],.l [1,1,0,1,0,0],.b 0,.c [1,1,1]] ?_
   obtain ⟨x1,hx1,heq⟩:=bind_some heq
   obtain ⟨ha1,cs1,hK1,hcc1⟩:=hra0_2.get hx1
   obtain ⟨rfl⟩:=kBlob_open hK1
   refine Rv 2 [3,7,8,9,12] [.string x1.Digest,iv x1.Size,iv x1.Used,iv x1.Until,iv x1.Pins] [.need (Aa0_2=some (adr Aa0_2)∧(0:Int)≤v9∧v9<((a0.Blobs.length:Nat):Int)),.load (((adr Aa0_2).add (v9.toNat*5)).add 0) (.string x1.Digest),.load (((adr Aa0_2).add (v9.toNat*5)).add 1) (iv x1.Size),.load (((adr Aa0_2).add (v9.toNat*5)).add 2) (iv x1.Used),.load (((adr Aa0_2).add (v9.toNat*5)).add 3) (iv x1.Until),.load (((adr Aa0_2).add (v9.toNat*5)).add 4) (iv x1.Pins)] [(3,iv v_sum3),(7,.slice Aa0_2 a0.Blobs.length ca0_2),(8,iv (a0.Blobs.length:Int)),(9,iv v9),(12,.agg #[.string x1.Digest,iv x1.Size,iv x1.Used,iv x1.Until,iv x1.Pins])] (fun w hh=>⟨⟨ha1,(at?_some hx1).1,(at?_some hx1).2.1⟩,(hcc1 _ _ (hh.drop 0) 0 _ rfl),(hcc1 _ _ (hh.drop 0) 1 _ rfl),(hcc1 _ _ (hh.drop 0) 2 _ rfl),(hcc1 _ _ (hh.drop 0) 3 _ rfl),(hcc1 _ _ (hh.drop 0) 4 _ rfl)⟩) ?_
   refine RgH.does (DoesH.new (d:=5) (v:=fun g=>.pointer (some ⟨g,0,none⟩)) (o:=fun g=>.cells #[.string ByteArray.empty,iv 0,iv 0,iv 0,iv 0] 29 (0,0)) (fun g=>by kernel_rfl)) ?_
   rintro _ _ _ _ ⟨g2,rfl,rfl,rfl⟩
   refine RgH.does (DoesH.store (k:=0) (g:=g2) (off:=0) (v:=.agg #[.string x1.Digest,iv x1.Size,iv x1.Used,iv x1.Until,iv x1.Pins]) (cells':=#[.string x1.Digest,iv x1.Size,iv x1.Used,iv x1.Until,iv x1.Pins]) (by kernel_rfl) rfl (by kernel_rfl) (by kernel_rfl)) ?_
   rintro _ _ _ _ ⟨rfl,rfl,rfl⟩
   refine Dn<|Rr<|Rw' 5 [3,7,8,9] [iv x1.Size] [.load ⟨g2,1,none⟩ (iv x1.Size)] [(3,iv (w64 (v_sum3+x1.Size))),(7,.slice Aa0_2 a0.Blobs.length ca0_2),(8,iv (a0.Blobs.length:Int)),(9,iv v9)] (fun w hh=>(hh.box 0 rfl rfl))<|Ra 1 [1,1,0,1,0,0,1,1,1] [.l [1,1,0,1,0,0],.b 0,.c [1,1,1]]<|Rd 2 [3,7,8,9] [(3,iv (w64 (v_sum3+x1.Size))),(7,.slice Aa0_2 a0.Blobs.length ca0_2),(8,iv (a0.Blobs.length:Int)),(9,iv (w64 (v9+1)))]<|Ad 1 [.c [1,1,0,1,0,0],.l [1,1,0,1,0,0],.b 0,.c [1,1,1]]<|Kp [3,7,8,9] [(3,iv (w64 (v_sum3+x1.Size))),(7,.slice Aa0_2 a0.Blobs.length ca0_2),(8,iv (a0.Blobs.length:Int)),(9,iv (w64 (v9+1)))] ?_
   refine RunH.pick 1 [] (cs':=F) (by kernel_rfl) rfl ?_
   exact ihk a0 _ _ (w64 (v_sum3+x1.Size)) (w64 (v9+1)) hra0_2 hca0_2 heq
  ·replace heq:=bif_false hb1 heq
   refine Cf (decide (v9<(a0.Blobs.length:Int))) hb1<|Ad 2 [.c [1,1,1,0],.c [1,1,1,1]]<|Kp [3] [(3,iv v_sum3)] ?_
   exact he1 v_sum3 heq
theorem cache_used_c {w0:World} {H:Hp} {F:List Ch} {a0:Cache} {Aa0_2:Option Addr} {na0_2:Nat} {ca0_2:Nat} {Aa0_3:Option Addr} {na0_3:Nat} {ca0_3:Nat} {r:Int} (hra0_2:Rw kBlob H F Aa0_2 a0.Blobs) (hca0_2:na0_2≤ca0_2) (hna0_2:na0_2=a0.Blobs.length) (hra0_3:Rw kEntry H F Aa0_3 a0.Entries) (hca0_3:na0_3≤ca0_3) (hna0_3:na0_3=a0.Entries.length) (heq:cache_used.f a0=some r):CallsH Tryd.prog 57 #[.agg #[iv a0.Room,iv a0.Lease,.slice Aa0_2 na0_2 ca0_2,.slice Aa0_3 na0_3 ca0_3]] H w0 (F) (S57 F H r):=by
 refine calls_of_runH (F:=C57) Tryd.func57 (by kernel_rfl) Tryd.ntmps57 (args:=[.agg #[iv a0.Room,iv a0.Lease,.slice Aa0_2 na0_2 ca0_2,.slice Aa0_3 na0_3 ca0_3]]) (by kernel_rfl) ?_
 subst hna0_2
 subst hna0_3
 unfold cache_used.f at heq
 refine Ra 1 [0] [.c [1]] ?_
 refine RgH.does (DoesH.new (d:=1) (v:=fun g=>.pointer (some ⟨g,0,none⟩)) (o:=fun g=>.cells #[iv a0.Room,iv a0.Lease,.slice Aa0_2 a0.Blobs.length ca0_2,.slice Aa0_3 a0.Entries.length ca0_3] 25 (0,0)) (fun g=>by kernel_rfl)) ?_
 rintro _ _ _ _ ⟨g1,rfl,rfl,rfl⟩
 refine Rd 2 [1] [(1,pg g1 0)]<|Ra 1 [1,0] [.c [1,1]]<|Rd 1 [1,3] [(1,pg g1 0),(3,iv 0)]<|Ra 2 [1,1,0,0] [.c [1,1,0,1],.c [1,1,1]]<|Rw' 4 [3,7,8,9] [.slice Aa0_2 a0.Blobs.length ca0_2] [.load ⟨g1,2,none⟩ (.slice Aa0_2 a0.Blobs.length ca0_2)] [(3,iv 0),(7,.slice Aa0_2 a0.Blobs.length ca0_2),(8,iv (a0.Blobs.length:Int)),(9,iv 0)] (fun w hh=>(hh.box 0 rfl rfl))<|Ad 2 [.c [1,1,0,1,0,0],.l [1,1,0,1,0,0],.b 0,.c [1,1,1]]<|Kp [3,7,8,9] [(3,iv 0),(7,.slice Aa0_2 a0.Blobs.length ca0_2),(8,iv (a0.Blobs.length:Int)),(9,iv 0)] ?_
 refine RunH.pick 1 [] (cs':=F) (by kernel_rfl) rfl ?_
 exact ((cache_used.l2_c (e1:=cache_used.e1) (cache_used.e1_c)) big) a0 _ _ 0 0 hra0_2 hca0_2 heq
noncomputable def C58:Ctx:={ P:=Tryd.prog,f:=58,N:=6,c:=bodyOf Tryd.f58 }
def S58 (F:List Ch) (H0:Hp) (r:Int) (v:Value) (H:Hp) (cs:List Ch):Prop:=H0=H∧v=iv r∧F=cs
theorem cache_sumOf_c {w0:World} {H:Hp} {F:List Ch} {a0:List Blob} {Aa0:Option Addr} {na0:Nat} {ca0:Nat} {r:Int} (hra0:Rw kBlob H F Aa0 a0) (hca0:na0≤ca0) (hna0:na0=a0.length) (heq:cache_sumOf.f a0=some r):CallsH Tryd.prog 58 #[.slice Aa0 na0 ca0] H w0 (F) (S58 F H r):=by
 refine calls_of_runH (F:=C58) Tryd.func58 (by kernel_rfl) Tryd.ntmps58 (args:=[.slice Aa0 na0 ca0]) (by kernel_rfl) ?_
 subst hna0
 unfold cache_sumOf.f at heq
 refine Ra 1 [0] [.c [1]]<|Rd 1 [0] [(0,.slice Aa0 a0.length ca0)]<|Ra 1 [1,0] [.c [1,1]]<|Rk 2 [4] [(4,.agg #[iv 0,iv 0,.slice Aa0 a0.length ca0,.slice none 0 0])] ?_
 obtain ⟨y1,hy1,heq⟩:=bind_some heq
 refine RgH.does (DoesH.call (d:=5) (g:=57) (args:=#[.agg #[iv 0,iv 0,.slice Aa0 a0.length ca0,.slice none 0 0]]) (by kernel_rfl) (cache_used_c (a0:=(⟨0,0,a0,([]:List Entry)⟩:Cache)) hra0 hca0 rfl Rw.nil (Nat.le_refl _) rfl hy1)) ?_
 rintro _ _ _ _ ⟨_,rfl,rfl,rfl,rfl⟩
 refine Rd 4 [2] [(2,iv y1)] ?_
 obtain rfl:=Option.some.inj heq
 exact RunH.done (by kernel_rfl) Tryd.func58 (v:=iv y1) (by kernel_rfl) ⟨rfl,rfl,rfl⟩
noncomputable def C50:Ctx:={ P:=Tryd.prog,f:=50,N:=8,c:=bodyOf Tryd.f50 }
def S50 (F:List Ch) (H0:Hp) (r:Bool) (v:Value) (H:Hp) (cs:List Ch):Prop:=H0=H∧v=.bool r∧F=cs
theorem cache_drop_1_c {w0:World} {H:Hp} {F:List Ch} {a0:Blob} {ga1:Nat} {a1:List (ByteArray × Bool)} {Aa1_0:Option Nat} {r:Bool} (hra1_0:Mw Value.string Kd.bool false H F Aa1_0 a1) (hga1:InG H F ga1 (.cells #[.map Aa1_0] 44 (0,0))) (heq:cache_drop_1.f a0 a1=some r):CallsH Tryd.prog 50 #[.agg #[.string a0.Digest,iv a0.Size,iv a0.Used,iv a0.Until,iv a0.Pins],.pointer (some ⟨ga1,0,none⟩)] H w0 (F) (S50 F H r):=by
 refine calls_of_runH (F:=C50) Tryd.func50 (by kernel_rfl) Tryd.ntmps50 (args:=[.agg #[.string a0.Digest,iv a0.Size,iv a0.Used,iv a0.Until,iv a0.Pins],.pointer (some ⟨ga1,0,none⟩)]) (by kernel_rfl) ?_
 unfold cache_drop_1.f at heq
 refine Ra 1 [0] [.c [1]] ?_
 refine RgH.does (DoesH.new (d:=2) (v:=fun g=>.pointer (some ⟨g,0,none⟩)) (o:=fun g=>.cells #[.string a0.Digest,iv a0.Size,iv a0.Used,iv a0.Until,iv a0.Pins] 29 (0,0)) (fun g=>by kernel_rfl)) ?_
 rintro _ _ _ _ ⟨g1,rfl,rfl,rfl⟩
 refine Rd 2 [1,2] [(1,pg ga1 0),(2,pg g1 0)]<|Ra 1 [1,0] [.c [1,1]]<|Rv 3 [4,6] [.map Aa1_0,.string a0.Digest] [.load ⟨ga1,0,none⟩ (.map Aa1_0),.load ⟨g1,0,none⟩ (.string a0.Digest)] [(4,.map Aa1_0),(6,.string a0.Digest)] (fun w hh=>⟨(hga1.cell (hh.drop 1) rfl),(hh.box 0 rfl rfl)⟩) ?_
 refine RgH.does (DoesH.lookup (d:=7) (t:=44) (m:=a1) (k:=a0.Digest) (z:=.bool false) (zc:=[.bool false]) (z0:=false) (ok:=false) (kd:=Kd.bool) (ag:=false) (by kernel_rfl) (KyAt.string Tryd.underlying9) rfl rfl (fun w hh=>hra1_0.on (hh.drop 1))) ?_
 rintro _ _ _ _ ⟨cc1,rfl,rfl,rfl,hcc1⟩
 obtain rfl:cc1=[.bool (mgetD a1 a0.Digest false)]:=hcc1
 refine RgH.val1 (v':=.bool (mgetD a1 a0.Digest false)) rfl ?_
 refine Rd 5 [3] [(3,.bool (mgetD a1 a0.Digest false))] ?_
 obtain rfl:=Option.some.inj heq
 refine RunH.pick 1 [] (cs':=F) (by kernel_rfl) rfl ?_
 exact RunH.done (by kernel_rfl) Tryd.func50 (v:=.bool (mgetD a1 a0.Digest false)) (by kernel_rfl) ⟨rfl,rfl,rfl⟩
noncomputable def C65v2:Ctx:={ P:=Tryd.prog,f:=65,N:=19,c:=bodyOf Tryd.f65 }
def S65v2 (F:List Ch) (H0:Hp) (r:Int) (v:Value) (H:Hp) (cs:List Ch):Prop:=H0=H∧v=iv r∧F=cs
theorem slices_IndexFunc_Blob_2.e1_c {w0:World} {H:Hp} {F:List Ch} {r:Int}:slices_IndexFunc_Blob_2.e1=some r→RunH C65v2 (S65v2 F H r) H w0 [.c [1,1,0],.c [1,1,1]] [] H (F):=by
 intro   heq
 unfold slices_IndexFunc_Blob_2.e1 at heq
 refine Rr<|Rd 1 [4] [(4,iv (-1))] ?_
 obtain rfl:=Option.some.inj heq
 exact RunH.done (by kernel_rfl) Tryd.func65 (v:=iv (-1)) (by kernel_rfl) ⟨rfl,rfl,rfl⟩
theorem slices_IndexFunc_Blob_2.l2_c {w0:World} {H:Hp} {F:List Ch} {r:Int} (e1:Option Int)
  (he1:e1=some r→RunH C65v2 (S65v2 F H r) H w0 [.c [1,1,0],.c [1,1,1]] [] H (F)):∀ (k:Nat),∀ (a0:List Blob) (Aa0:Option Addr) (ca0:Nat) (ga1q0:Nat) (a1q0:List (ByteArray × Bool)) (Aa1q0_0:Option Nat) (v8:Int) ,Rw kBlob H F Aa0 a0→a0.length≤ca0→Mw Value.string Kd.bool false H F Aa1q0_0 a1q0→InG H F ga1q0 (.cells #[.map Aa1q0_0] 44 (0,0))→slices_IndexFunc_Blob_2.l2 e1 k a0 a1q0 v8=some r→RunH C65v2 (S65v2 F H r) H w0 [.c [1,0,1,0,0],.l [1,0,1,0,0],.b 0,.c [1,1]] [(0,.slice Aa0 a0.length ca0),(1,.func (.func 50) #[] #[.pointer (some ⟨ga1q0,0,none⟩)]),(7,iv (a0.length:Int)),(8,iv v8)] H (F):=by
 intro k
 induction k with
 | zero=>intro a0 Aa0 ca0 ga1q0 a1q0 Aa1q0_0 v8 hra0 hca0 hra1q0_0 hga1q0 heq; exact nomatch (show (none:Option Int)=some r from heq)
 | succ k ihk =>
  intro a0 Aa0 ca0 ga1q0 a1q0 Aa1q0_0 v8 hra0 hca0 hra1q0_0 hga1q0 heq
  rw [slices_IndexFunc_Blob_2.l2] at heq
  refine Ra 1 [1,0,1,0,0,0] [.c [1,0,1,0,0,1],.l [1,0,1,0,0],.b 0,.c [1,1]]<|Rd 1 [0,1,7,8,9] [(0,.slice Aa0 a0.length ca0),(1,.func (.func 50) #[] #[.pointer (some ⟨ga1q0,0,none⟩)]),(7,iv (a0.length:Int)),(8,iv v8),(9,.bool (decide (v8<(a0.length:Int))))]<|Ad 1 [.c [1,0,1,0,0,1,0],.c [1,0,1,0,0,1,1],.l [1,0,1,0,0],.b 0,.c [1,1]] ?_
  rcases bool_cases (decide (v8<(a0.length:Int))) with hb1 | hb1
  ·replace heq:=bif_true hb1 heq
   refine Ct (decide (v8<(a0.length:Int))) hb1<|Ra 4 [1,0,1,0,0,1,1,0,0,0] [.c [1,0,1,0,0,1,1,0,0,1],.b 1,.c [1,0,1,0,0,1,1,1],.l [1,0,1,0,0],.b 0,.c [1,1]]<|Rd 2 [0,1,5,7,8] [(0,.slice Aa0 a0.length ca0),(1,.func (.func 50) #[] #[.pointer (some ⟨ga1q0,0,none⟩)]),(5,iv v8),(7,iv (a0.length:Int)),(8,iv v8)]<|Ra 1 [1,0,1,0,0,1,1,0,0,1,0] [.c [1,0,1,0,0,1,1,0,0,1,1],.b 1,.c [1,0,1,0,0,1,1,1],.l [1,0,1,0,0],.b 0,.c [1,1]] ?_
   obtain ⟨x1,hx1,heq⟩:=bind_some heq
   obtain ⟨ha1,cs1,hK1,hcc1⟩:=hra0.get hx1
   obtain ⟨rfl⟩:=kBlob_open hK1
   refine Rv 5 [0,1,5,7,8,11,15] [.string x1.Digest,iv x1.Size,iv x1.Used,iv x1.Until,iv x1.Pins] [.need (Aa0=some (adr Aa0)∧(0:Int)≤v8∧v8<((a0.length:Nat):Int)),.load (((adr Aa0).add (v8.toNat*5)).add 0) (.string x1.Digest),.load (((adr Aa0).add (v8.toNat*5)).add 1) (iv x1.Size),.load (((adr Aa0).add (v8.toNat*5)).add 2) (iv x1.Used),.load (((adr Aa0).add (v8.toNat*5)).add 3) (iv x1.Until),.load (((adr Aa0).add (v8.toNat*5)).add 4) (iv x1.Pins)] [(0,.slice Aa0 a0.length ca0),(1,.func (.func 50) #[] #[.pointer (some ⟨ga1q0,0,none⟩)]),(5,iv v8),(7,iv (a0.length:Int)),(8,iv v8),(11,.func (.func 50) #[] #[.pointer (some ⟨ga1q0,0,none⟩)]),(15,.agg #[.string x1.Digest,iv x1.Size,iv x1.Used,iv x1.Until,iv x1.Pins])] (fun w hh=>⟨⟨ha1,(at?_some hx1).1,(at?_some hx1).2.1⟩,(hcc1 _ _ (hh.drop 0) 0 _ rfl),(hcc1 _ _ (hh.drop 0) 1 _ rfl),(hcc1 _ _ (hh.drop 0) 2 _ rfl),(hcc1 _ _ (hh.drop 0) 3 _ rfl),(hcc1 _ _ (hh.drop 0) 4 _ rfl)⟩) ?_
   obtain ⟨y1,hy1,heq⟩:=bind_some heq
   refine RgH.does (DoesH.call (d:=16) (g:=50) (args:=#[.agg #[.string x1.Digest,iv x1.Size,iv x1.Used,iv x1.Until,iv x1.Pins],.pointer (some ⟨ga1q0,0,none⟩)]) (by kernel_rfl) (cache_drop_1_c (a0:=x1) (a1:=a1q0) hra1q0_0 hga1q0 hy1)) ?_
   rintro _ _ _ _ ⟨_,rfl,rfl,rfl,rfl⟩
   refine Dn ?_
   rcases bool_cases (y1) with hb2 | hb2
   ·replace heq:=bif_true hb2 heq
    refine Ct y1 hb2<|Ra 1 [1,0,1,0,0,1,1,0,0,1,1,0,0] [.c [1,0,1,0,0,1,1,0,0,1,1,0,1],.b 1,.c [1,0,1,0,0,1,1,1],.l [1,0,1,0,0],.b 0,.c [1,1]]<|Rd 2 [4] [(4,iv v8)] ?_
    obtain rfl:=Option.some.inj heq
    exact RunH.done (by kernel_rfl) Tryd.func65 (v:=iv v8) (by kernel_rfl) ⟨rfl,rfl,rfl⟩
   ·replace heq:=bif_false hb2 heq
    refine Cf y1 hb2<|Ra 2 [1,0,1,0,0,1,1,1] [.l [1,0,1,0,0],.b 0,.c [1,1]]<|Rd 2 [0,1,7,8] [(0,.slice Aa0 a0.length ca0),(1,.func (.func 50) #[] #[.pointer (some ⟨ga1q0,0,none⟩)]),(7,iv (a0.length:Int)),(8,iv (w64 (v8+1)))]<|Ad 1 [.c [1,0,1,0,0],.l [1,0,1,0,0],.b 0,.c [1,1]]<|Kp [0,1,7,8] [(0,.slice Aa0 a0.length ca0),(1,.func (.func 50) #[] #[.pointer (some ⟨ga1q0,0,none⟩)]),(7,iv (a0.length:Int)),(8,iv (w64 (v8+1)))] ?_
    exact ihk a0 _ _ _ a1q0 _ (w64 (v8+1)) hra0 hca0 hra1q0_0 hga1q0 heq
  ·replace heq:=bif_false hb1 heq
   refine Cf (decide (v8<(a0.length:Int))) hb1<|Ad 2 [.c [1,1,0],.c [1,1,1]]<|Kp [] [] ?_
   exact he1 heq
theorem slices_IndexFunc_Blob_2_c {w0:World} {H:Hp} {F:List Ch} {a0:List Blob} {Aa0:Option Addr} {na0:Nat} {ca0:Nat} {ga1q0:Nat} {a1q0:List (ByteArray × Bool)} {Aa1q0_0:Option Nat} {r:Int} (hra0:Rw kBlob H F Aa0 a0) (hca0:na0≤ca0) (hna0:na0=a0.length) (hra1q0_0:Mw Value.string Kd.bool false H F Aa1q0_0 a1q0) (hga1q0:InG H F ga1q0 (.cells #[.map Aa1q0_0] 44 (0,0))) (heq:slices_IndexFunc_Blob_2.f a0 a1q0=some r):CallsH Tryd.prog 65 #[.slice Aa0 na0 ca0,.func (.func 50) #[] #[.pointer (some ⟨ga1q0,0,none⟩)]] H w0 (F) (S65v2 F H r):=by
 refine calls_of_runH (F:=C65v2) Tryd.func65 (by kernel_rfl) Tryd.ntmps65 (args:=[.slice Aa0 na0 ca0,.func (.func 50) #[] #[.pointer (some ⟨ga1q0,0,none⟩)]]) (by kernel_rfl) ?_
 subst hna0
 unfold slices_IndexFunc_Blob_2.f at heq
 refine Ra 1 [0] [.c [1]]<|Rd 1 [0,1] [(0,.slice Aa0 a0.length ca0),(1,.func (.func 50) #[] #[.pointer (some ⟨ga1q0,0,none⟩)])]<|Ra 2 [1,0,0] [.c [1,0,1],.c [1,1]]<|Rd 3 [0,1,7,8] [(0,.slice Aa0 a0.length ca0),(1,.func (.func 50) #[] #[.pointer (some ⟨ga1q0,0,none⟩)]),(7,iv (a0.length:Int)),(8,iv 0)]<|Ad 2 [.c [1,0,1,0,0],.l [1,0,1,0,0],.b 0,.c [1,1]]<|Kp [0,1,7,8] [(0,.slice Aa0 a0.length ca0),(1,.func (.func 50) #[] #[.pointer (some ⟨ga1q0,0,none⟩)]),(7,iv (a0.length:Int)),(8,iv 0)] ?_
 exact ((slices_IndexFunc_Blob_2.l2_c (e1:=slices_IndexFunc_Blob_2.e1) (slices_IndexFunc_Blob_2.e1_c)) big) a0 _ _ _ a1q0 _ 0 hra0 hca0 hra1q0_0 hga1q0 heq
noncomputable def C49v2:Ctx:={ P:=Tryd.prog,f:=49,N:=42,c:=bodyOf Tryd.f49 }
def S49v2 (F:List Ch) (H0:Hp) (r:(List Blob)) (v:Value) (H:Hp) (cs:List Ch):Prop:=∃ (A0:Option Addr) (c0:Nat) (ch0:Ch),H0=H∧v=.slice A0 r.length c0∧ch0::F=cs∧SlOwn kBlob 29 H A0 c0 r ch0
theorem slices_DeleteFunc_Blob_2.e1_c {w0:World} {H:Hp} {F:List Ch} {r:(List Blob)}:∀ (v_s0:List Blob) (Av_s0:Option Addr) (nv_s0:Nat) (cv_s0:Nat) (chv_s0:Ch) (v_i5:Int) ,SlOwn kBlob 29 H Av_s0 cv_s0 v_s0 chv_s0→nv_s0=v_s0.length→slices_DeleteFunc_Blob_2.e1 v_s0 v_i5=some r→RunH C49v2 (S49v2 F H r) H w0 [.c [1,1,1,1,0],.c [1,1,1,1,1]] [(0,.slice Av_s0 nv_s0 cv_s0),(5,iv v_i5)] H (chv_s0::F):=by
 intro v_s0 Av_s0 nv_s0 cv_s0 chv_s0 v_i5 hov_s0 hnv_s0 heq
 subst hnv_s0
 unfold slices_DeleteFunc_Blob_2.e1 at heq
 refine Rr ?_
 obtain ⟨hn2,heq⟩:=guard?_some heq
 have hn1:v_s0.length - v_i5.toNat=(v_s0.drop v_i5.toNat).length:=by have h1:=both_of hn2; have h3:=trivial; (try simp); (try omega)
 have ho1:=hov_s0.drop v_i5.toNat (by have h2:=hov_s0.cap; have h3:=trivial; have h1:=both_of hn2; omega)
 refine Rv 3 [0,5,38] [] [.need ((0:Int)≤v_i5∧v_i5≤((v_s0.length:Nat):Int))] [(0,.slice Av_s0 v_s0.length cv_s0),(5,iv v_i5),(38,.slice (shiftA cv_s0 v_i5.toNat 5 Av_s0) (v_s0.length - v_i5.toNat) (cv_s0 - v_i5.toNat))] (fun w hh=>(both_of hn2)) ?_
 refine RgH.does (DoesH.clear (k:=0) (j:=v_i5.toNat) (n:=v_s0.length - v_i5.toNat) (t:=22) (e:=29) (bytes:=48) (kd:=kBlob) (A:=Av_s0) (A2:=(shiftA cv_s0 v_i5.toNat 5 Av_s0)) (c:=cv_s0) (c2:=(cv_s0 - v_i5.toNat)) (xs:=v_s0) (z:=(⟨ByteArray.empty,0,0,0,0⟩:Blob)) (zc:=#[.string ByteArray.empty,iv 0,iv 0,iv 0,iv 0]) (by kernel_rfl) (by have h3:=trivial; omega) (by kernel_rfl) (by kernel_rfl) kBlob_mk (by kernel_rfl) rfl hov_s0 (by have h1:=both_of hn2; have h3:=trivial; omega) (fun h b off hA=>shiftA_at h hov_s0.cap hA)) ?_
 rintro _ _ _ _ ⟨ch1,rfl,rfl,rfl,ho2⟩
 have hn3:v_s0.length=(v_s0.take v_i5.toNat++List.replicate (v_s0.length - v_i5.toNat) (⟨ByteArray.empty,0,0,0,0⟩:Blob)).length:=by have h1:=both_of hn2; have h3:=trivial; simp; omega
 refine Dn<|Ra 1 [1,1,1,1,1,0] [.c [1,1,1,1,1,1]] ?_
 obtain ⟨hn5,heq⟩:=guard?_some heq
 have hn4:v_i5.toNat=((v_s0.take v_i5.toNat++List.replicate (v_s0.length - v_i5.toNat) (⟨ByteArray.empty,0,0,0,0⟩:Blob)).take v_i5.toNat).length:=by have h1:=both_of hn5; have h3:=hn3; (try simp); (try omega)
 have ho3:=ho2.take v_i5.toNat
 refine Rw' 4 [4] [] [.need ((0:Int)≤v_i5∧v_i5≤((cv_s0:Nat):Int))] [(4,.slice Av_s0 v_i5.toNat cv_s0)] (fun w hh=>⟨(both_of hn5).1,(by have h1:=(both_of hn5).2; have h2:=(show v_s0.length≤cv_s0 from by have:=ho2.cap; have:=hn3; omega); have h3:=hn3; omega)⟩) ?_
 obtain rfl:=Option.some.inj heq
 exact RunH.done (by kernel_rfl) Tryd.func49 (v:=.slice Av_s0 v_i5.toNat cv_s0) (by kernel_rfl) ⟨Av_s0,cv_s0,ch1,rfl,(by first | rfl | exact congrArg (fun q=>Value.slice _ q _) hn4 | (rw [hn4]; done) | (simp only [← hn4])),(by first | rfl | (rw [hn4]; done) | (rw [hn4]; rfl) | (simp only [List.length_set]; done) | (simp only [List.length_set]; rfl)),ho3⟩
theorem slices_DeleteFunc_Blob_2.j3_c {w0:World} {H:Hp} {F:List Ch} {r:(List Blob)} (backl2:(List (ByteArray × Bool))→(List Blob)→Int→Int→Option (List Blob))
  (hbackl2:∀ (ga1q0:Nat) (a1q0:List (ByteArray × Bool)) (Aa1q0_0:Option Nat) (v_s0:List Blob) (Av_s0:Option Addr) (nv_s0:Nat) (cv_s0:Nat) (chv_s0:Ch) (v_i5:Int) (v_j6:Int) ,Mw Value.string Kd.bool false H F Aa1q0_0 a1q0→InG H F ga1q0 (.cells #[.map Aa1q0_0] 44 (0,0))→SlOwn kBlob 29 H Av_s0 cv_s0 v_s0 chv_s0→nv_s0=v_s0.length→backl2 a1q0 v_s0 v_i5 v_j6=some r→RunH C49v2 (S49v2 F H r) H w0 [.c [1,1,1,0,1,0,0],.l [1,1,1,0,1,0,0],.b 0,.c [1,1,1,1]] [(0,.slice Av_s0 nv_s0 cv_s0),(1,.func (.func 50) #[] #[.pointer (some ⟨ga1q0,0,none⟩)]),(5,iv v_i5),(6,iv v_j6)] H (chv_s0::F)):∀ (ga1q0:Nat) (a1q0:List (ByteArray × Bool)) (Aa1q0_0:Option Nat) (v_j6:Int) (v_s0:List Blob) (Av_s0:Option Addr) (nv_s0:Nat) (cv_s0:Nat) (chv_s0:Ch) (v_i5:Int) ,Mw Value.string Kd.bool false H F Aa1q0_0 a1q0→InG H F ga1q0 (.cells #[.map Aa1q0_0] 44 (0,0))→SlOwn kBlob 29 H Av_s0 cv_s0 v_s0 chv_s0→nv_s0=v_s0.length→slices_DeleteFunc_Blob_2.j3 backl2 a1q0 v_j6 v_s0 v_i5=some r→RunH C49v2 (S49v2 F H r) H w0 [.c [1,1,1,0,1,0,0,1,1],.l [1,1,1,0,1,0,0],.b 0,.c [1,1,1,1]] [(0,.slice Av_s0 nv_s0 cv_s0),(1,.func (.func 50) #[] #[.pointer (some ⟨ga1q0,0,none⟩)]),(5,iv v_i5),(6,iv v_j6)] H (chv_s0::F):=by
 intro ga1q0 a1q0 Aa1q0_0 v_j6 v_s0 Av_s0 nv_s0 cv_s0 chv_s0 v_i5 hra1q0_0 hga1q0 hov_s0 hnv_s0 heq
 subst hnv_s0
 unfold slices_DeleteFunc_Blob_2.j3 at heq
 refine Rr<|Rd 3 [0,1,5,6] [(0,.slice Av_s0 v_s0.length cv_s0),(1,.func (.func 50) #[] #[.pointer (some ⟨ga1q0,0,none⟩)]),(5,iv v_i5),(6,iv (w64 (v_j6+1)))]<|Ad 1 [.c [1,1,1,0,1,0,0],.l [1,1,1,0,1,0,0],.b 0,.c [1,1,1,1]]<|Kp [0,1,5,6] [(0,.slice Av_s0 v_s0.length cv_s0),(1,.func (.func 50) #[] #[.pointer (some ⟨ga1q0,0,none⟩)]),(5,iv v_i5),(6,iv (w64 (v_j6+1)))] ?_
 exact hbackl2 _ a1q0 _ v_s0 _ _ _ _ v_i5 (w64 (v_j6+1)) hra1q0_0 hga1q0 hov_s0 rfl heq
theorem slices_DeleteFunc_Blob_2.l2_c {w0:World} {H:Hp} {F:List Ch} {r:(List Blob)} (e1:(List Blob)→Int→Option (List Blob))
  (he1:∀ (v_s0:List Blob) (Av_s0:Option Addr) (nv_s0:Nat) (cv_s0:Nat) (chv_s0:Ch) (v_i5:Int) ,SlOwn kBlob 29 H Av_s0 cv_s0 v_s0 chv_s0→nv_s0=v_s0.length→e1 v_s0 v_i5=some r→RunH C49v2 (S49v2 F H r) H w0 [.c [1,1,1,1,0],.c [1,1,1,1,1]] [(0,.slice Av_s0 nv_s0 cv_s0),(5,iv v_i5)] H (chv_s0::F)):∀ (k:Nat),∀ (ga1q0:Nat) (a1q0:List (ByteArray × Bool)) (Aa1q0_0:Option Nat) (v_s0:List Blob) (Av_s0:Option Addr) (nv_s0:Nat) (cv_s0:Nat) (chv_s0:Ch) (v_i5:Int) (v_j6:Int) ,Mw Value.string Kd.bool false H F Aa1q0_0 a1q0→InG H F ga1q0 (.cells #[.map Aa1q0_0] 44 (0,0))→SlOwn kBlob 29 H Av_s0 cv_s0 v_s0 chv_s0→nv_s0=v_s0.length→slices_DeleteFunc_Blob_2.l2 e1 k a1q0 v_s0 v_i5 v_j6=some r→RunH C49v2 (S49v2 F H r) H w0 [.c [1,1,1,0,1,0,0],.l [1,1,1,0,1,0,0],.b 0,.c [1,1,1,1]] [(0,.slice Av_s0 nv_s0 cv_s0),(1,.func (.func 50) #[] #[.pointer (some ⟨ga1q0,0,none⟩)]),(5,iv v_i5),(6,iv v_j6)] H (chv_s0::F):=by
 intro k
 induction k with
 | zero=>intro ga1q0 a1q0 Aa1q0_0 v_s0 Av_s0 nv_s0 cv_s0 chv_s0 v_i5 v_j6 hra1q0_0 hga1q0 hov_s0 hnv_s0 heq; exact nomatch (show (none:Option (List Blob))=some r from heq)
 | succ k ihk =>
  intro ga1q0 a1q0 Aa1q0_0 v_s0 Av_s0 nv_s0 cv_s0 chv_s0 v_i5 v_j6 hra1q0_0 hga1q0 hov_s0 hnv_s0 heq
  subst hnv_s0
  rw [slices_DeleteFunc_Blob_2.l2] at heq
  refine Ra 2 [1,1,1,0,1,0,0,0,0] [.c [1,1,1,0,1,0,0,0,1],.c [1,1,1,0,1,0,0,1],.l [1,1,1,0,1,0,0],.b 0,.c [1,1,1,1]]<|Rd 4 [0,1,5,6,19] [(0,.slice Av_s0 v_s0.length cv_s0),(1,.func (.func 50) #[] #[.pointer (some ⟨ga1q0,0,none⟩)]),(5,iv v_i5),(6,iv v_j6),(19,.bool (decide (v_j6<(v_s0.length:Int))))] ?_
  rcases bool_cases (decide (v_j6<(v_s0.length:Int))) with hb2 | hb2
  ·replace heq:=bif_true hb2 heq
   refine Ct (decide (v_j6<(v_s0.length:Int))) hb2<|Ra 4 [1,1,1,0,1,0,0,1,0,0,0] [.c [1,1,1,0,1,0,0,1,0,0,1],.b 1,.c [1,1,1,0,1,0,0,1,1],.l [1,1,1,0,1,0,0],.b 0,.c [1,1,1,1]] ?_
   obtain ⟨x1,hx1,heq⟩:=bind_some heq
   obtain ⟨ha1,cs1,hK1,hcc1⟩:=hov_s0.get hx1
   obtain ⟨rfl⟩:=kBlob_open hK1
   refine Rv 4 [0,1,5,6,25] [.string x1.Digest,iv x1.Size,iv x1.Used,iv x1.Until,iv x1.Pins] [.need (Av_s0=some (adr Av_s0)∧(0:Int)≤v_j6∧v_j6<((v_s0.length:Nat):Int)),.load (((adr Av_s0).add (v_j6.toNat*5)).add 0) (.string x1.Digest),.load (((adr Av_s0).add (v_j6.toNat*5)).add 1) (iv x1.Size),.load (((adr Av_s0).add (v_j6.toNat*5)).add 2) (iv x1.Used),.load (((adr Av_s0).add (v_j6.toNat*5)).add 3) (iv x1.Until),.load (((adr Av_s0).add (v_j6.toNat*5)).add 4) (iv x1.Pins)] [(0,.slice Av_s0 v_s0.length cv_s0),(1,.func (.func 50) #[] #[.pointer (some ⟨ga1q0,0,none⟩)]),(5,iv v_i5),(6,iv v_j6),(25,.agg #[.string x1.Digest,iv x1.Size,iv x1.Used,iv x1.Until,iv x1.Pins])] (fun w hh=>⟨⟨ha1,(at?_some hx1).1,(at?_some hx1).2.1⟩,(hcc1 _ (hh.chin 0 rfl) 0 _ rfl),(hcc1 _ (hh.chin 0 rfl) 1 _ rfl),(hcc1 _ (hh.chin 0 rfl) 2 _ rfl),(hcc1 _ (hh.chin 0 rfl) 3 _ rfl),(hcc1 _ (hh.chin 0 rfl) 4 _ rfl)⟩) ?_
   refine RgH.does (DoesH.new (d:=7) (v:=fun g=>.pointer (some ⟨g,0,none⟩)) (o:=fun g=>.cells #[.string ByteArray.empty,iv 0,iv 0,iv 0,iv 0] 29 (0,0)) (fun g=>by kernel_rfl)) ?_
   rintro _ _ _ _ ⟨g1,rfl,rfl,rfl⟩
   refine RgH.does (DoesH.store (k:=0) (g:=g1) (off:=0) (v:=.agg #[.string x1.Digest,iv x1.Size,iv x1.Used,iv x1.Until,iv x1.Pins]) (cells':=#[.string x1.Digest,iv x1.Size,iv x1.Used,iv x1.Until,iv x1.Pins]) (by kernel_rfl) rfl (by kernel_rfl) (by kernel_rfl)) ?_
   rintro _ _ _ _ ⟨rfl,rfl,rfl⟩
   refine Dn<|Ra 1 [1,1,1,0,1,0,0,1,0,0,1,0] [.c [1,1,1,0,1,0,0,1,0,0,1,1],.b 1,.c [1,1,1,0,1,0,0,1,1],.l [1,1,1,0,1,0,0],.b 0,.c [1,1,1,1]]<|Rv 2 [0,1,5,6,7,26,27] [.string x1.Digest,iv x1.Size,iv x1.Used,iv x1.Until,iv x1.Pins] [.load ⟨g1,0,none⟩ (.string x1.Digest),.load ⟨g1,1,none⟩ (iv x1.Size),.load ⟨g1,2,none⟩ (iv x1.Used),.load ⟨g1,3,none⟩ (iv x1.Until),.load ⟨g1,4,none⟩ (iv x1.Pins)] [(0,.slice Av_s0 v_s0.length cv_s0),(1,.func (.func 50) #[] #[.pointer (some ⟨ga1q0,0,none⟩)]),(5,iv v_i5),(6,iv v_j6),(7,pg g1 0),(26,.func (.func 50) #[] #[.pointer (some ⟨ga1q0,0,none⟩)]),(27,.agg #[.string x1.Digest,iv x1.Size,iv x1.Used,iv x1.Until,iv x1.Pins])] (fun w hh=>⟨(hh.box 0 rfl rfl),(hh.box 0 rfl rfl),(hh.box 0 rfl rfl),(hh.box 0 rfl rfl),(hh.box 0 rfl rfl)⟩) ?_
   obtain ⟨y2,hy2,heq⟩:=bind_some heq
   refine RgH.does (DoesH.call (d:=28) (g:=50) (args:=#[.agg #[.string x1.Digest,iv x1.Size,iv x1.Used,iv x1.Until,iv x1.Pins],.pointer (some ⟨ga1q0,0,none⟩)]) (by kernel_rfl) (cache_drop_1_c (a0:=x1) (a1:=a1q0) (hra1q0_0.wk (fun _ h=>(.tail _ (.tail _ h)))) (hga1q0.wk (fun _ h=>(.tail _ (.tail _ h)))) hy2)) ?_
   rintro _ _ _ _ ⟨_,rfl,rfl,rfl,rfl⟩
   refine Rd 4 [0,1,5,6,7,29] [(0,.slice Av_s0 v_s0.length cv_s0),(1,.func (.func 50) #[] #[.pointer (some ⟨ga1q0,0,none⟩)]),(5,iv v_i5),(6,iv v_j6),(7,pg g1 0),(29,.bool (!y2))] ?_
   rcases bool_cases (!y2) with hb3 | hb3
   ·replace heq:=bif_true hb3 heq
    refine Ct (!y2) hb3<|Ra 1 [1,1,1,0,1,0,0,1,0,0,1,1,0,0] [.c [1,1,1,0,1,0,0,1,0,0,1,1,0,1],.b 1,.c [1,1,1,0,1,0,0,1,1],.l [1,1,1,0,1,0,0],.b 0,.c [1,1,1,1]] ?_
    obtain ⟨x2,hx2,heq⟩:=bind_some heq
    obtain ⟨ha2,cs2,hK2,hcc2⟩:=hov_s0.get hx2
    obtain ⟨rfl⟩:=kBlob_open hK2
    refine Rv 4 [0,1,5,6,32,33] [.string x1.Digest,iv x1.Size,iv x1.Used,iv x1.Until,iv x1.Pins] [.load ⟨g1,0,none⟩ (.string x1.Digest),.load ⟨g1,1,none⟩ (iv x1.Size),.load ⟨g1,2,none⟩ (iv x1.Used),.load ⟨g1,3,none⟩ (iv x1.Until),.load ⟨g1,4,none⟩ (iv x1.Pins),.need (Av_s0=some (adr Av_s0)∧(0:Int)≤v_i5∧v_i5<((v_s0.length:Nat):Int))] [(0,.slice Av_s0 v_s0.length cv_s0),(1,.func (.func 50) #[] #[.pointer (some ⟨ga1q0,0,none⟩)]),(5,iv v_i5),(6,iv v_j6),(32,.agg #[.string x1.Digest,iv x1.Size,iv x1.Used,iv x1.Until,iv x1.Pins]),(33,.pointer (some ((adr Av_s0).add (v_i5.toNat*5))))] (fun w hh=>⟨(hh.box 0 rfl rfl),(hh.box 0 rfl rfl),(hh.box 0 rfl rfl),(hh.box 0 rfl rfl),(hh.box 0 rfl rfl),⟨ha2,(at?_some hx2).1,(at?_some hx2).2.1⟩⟩) ?_
    obtain ⟨ha3,cs3,hK3,hcc3⟩:=hov_s0.get hx2
    obtain ⟨rfl⟩:=kBlob_open hK3
    refine RgH.does (DoesH.storeEl (a:=((adr Av_s0).add (v_i5.toNat*5))) (k:=1) (kd:=kBlob) (c0:=[.string x2.Digest,iv x2.Size,iv x2.Used,iv x2.Until,iv x2.Pins]) (x':=x1) (o:=0) (ix:=v_i5) (v:=.agg #[.string x1.Digest,iv x1.Size,iv x1.Used,iv x1.Until,iv x1.Pins]) (by kernel_rfl) rfl hov_s0 hx2 (by kernel_rfl) hcc3 rfl (Nat.le_of_ble_eq_true (by kernel_rfl)) kBlob_mk) ?_
    rintro _ _ _ _ ⟨ch2,rfl,rfl,rfl,ho4⟩
    have hn6:v_s0.length=(v_s0.set v_i5.toNat x1).length:=by rw [List.length_set]
    refine Dn<|Rr<|Rd 3 [0,1,5,6] [(0,.slice Av_s0 v_s0.length cv_s0),(1,.func (.func 50) #[] #[.pointer (some ⟨ga1q0,0,none⟩)]),(5,iv (w64 (v_i5+1))),(6,iv v_j6)]<|Ad 1 [.c [1,1,1,0,1,0,0,1,1],.l [1,1,1,0,1,0,0],.b 0,.c [1,1,1,1]]<|Kp [0,1,5,6] [(0,.slice Av_s0 v_s0.length cv_s0),(1,.func (.func 50) #[] #[.pointer (some ⟨ga1q0,0,none⟩)]),(5,iv (w64 (v_i5+1))),(6,iv v_j6)] ?_
    refine RunH.pick 2 [1] (cs':=ch2::F) (by kernel_rfl) rfl ?_
    exact (slices_DeleteFunc_Blob_2.j3_c (backl2:=(slices_DeleteFunc_Blob_2.l2 e1 k)) ihk) _ a1q0 _ v_j6 (v_s0.set v_i5.toNat x1) _ _ _ _ (w64 (v_i5+1)) hra1q0_0 hga1q0 ho4 hn6 heq
   ·replace heq:=bif_false hb3 heq
    refine Cf (!y2) hb3<|Ad 2 [.c [1,1,1,0,1,0,0,1,1],.l [1,1,1,0,1,0,0],.b 0,.c [1,1,1,1]]<|Kp [0,1,5,6] [(0,.slice Av_s0 v_s0.length cv_s0),(1,.func (.func 50) #[] #[.pointer (some ⟨ga1q0,0,none⟩)]),(5,iv v_i5),(6,iv v_j6)] ?_
    refine RunH.pick 2 [1] (cs':=chv_s0::F) (by kernel_rfl) rfl ?_
    exact (slices_DeleteFunc_Blob_2.j3_c (backl2:=(slices_DeleteFunc_Blob_2.l2 e1 k)) ihk) _ a1q0 _ v_j6 v_s0 _ _ _ _ v_i5 hra1q0_0 hga1q0 hov_s0 rfl heq
  ·replace heq:=bif_false hb2 heq
   refine Cf (decide (v_j6<(v_s0.length:Int))) hb2<|Ad 2 [.c [1,1,1,1,0],.c [1,1,1,1,1]]<|Kp [0,5] [(0,.slice Av_s0 v_s0.length cv_s0),(5,iv v_i5)] ?_
   exact he1 v_s0 _ _ _ _ v_i5 hov_s0 rfl heq
theorem slices_DeleteFunc_Blob_2_c {w0:World} {H:Hp} {F:List Ch} {a0:List Blob} {Aa0:Option Addr} {na0:Nat} {ca0:Nat} {cha0:Ch} {ga1q0:Nat} {a1q0:List (ByteArray × Bool)} {Aa1q0_0:Option Nat} {r:(List Blob)} (hoa0:SlOwn kBlob 29 H Aa0 ca0 a0 cha0) (hna0:na0=a0.length) (hra1q0_0:Mw Value.string Kd.bool false H F Aa1q0_0 a1q0) (hga1q0:InG H F ga1q0 (.cells #[.map Aa1q0_0] 44 (0,0))) (heq:slices_DeleteFunc_Blob_2.f a0 a1q0=some r):CallsH Tryd.prog 49 #[.slice Aa0 na0 ca0,.func (.func 50) #[] #[.pointer (some ⟨ga1q0,0,none⟩)]] H w0 (cha0::F) (S49v2 F H r):=by
 refine calls_of_runH (F:=C49v2) Tryd.func49 (by kernel_rfl) Tryd.ntmps49 (args:=[.slice Aa0 na0 ca0,.func (.func 50) #[] #[.pointer (some ⟨ga1q0,0,none⟩)]]) (by kernel_rfl) ?_
 subst hna0
 unfold slices_DeleteFunc_Blob_2.f at heq
 refine Ra 1 [0] [.c [1]]<|Rd 1 [0,1] [(0,.slice Aa0 a0.length ca0),(1,.func (.func 50) #[] #[.pointer (some ⟨ga1q0,0,none⟩)])]<|Ra 1 [1,0] [.c [1,1]]<|Rk 2 [0,1,8,9] [(0,.slice Aa0 a0.length ca0),(1,.func (.func 50) #[] #[.pointer (some ⟨ga1q0,0,none⟩)]),(8,.slice Aa0 a0.length ca0),(9,.func (.func 50) #[] #[.pointer (some ⟨ga1q0,0,none⟩)])] ?_
 obtain ⟨y1,hy1,heq⟩:=bind_some heq
 refine RgH.does (DoesH.call (d:=10) (g:=65) (args:=#[.slice Aa0 a0.length ca0,.func (.func 50) #[] #[.pointer (some ⟨ga1q0,0,none⟩)]]) (by kernel_rfl) (slices_IndexFunc_Blob_2_c (a0:=a0) (a1q0:=a1q0) (hoa0.rw (.head _)) hoa0.cap rfl (hra1q0_0.wk (fun _ h=>(.tail _ h))) (hga1q0.wk (fun _ h=>(.tail _ h))) hy1)) ?_
 rintro _ _ _ _ ⟨_,rfl,rfl,rfl,rfl⟩
 refine Rd 4 [0,1,5] [(0,.slice Aa0 a0.length ca0),(1,.func (.func 50) #[] #[.pointer (some ⟨ga1q0,0,none⟩)]),(5,iv y1)]<|Ra 2 [1,1,0,0] [.c [1,1,0,1],.c [1,1,1]]<|Rd 2 [0,1,5,12] [(0,.slice Aa0 a0.length ca0),(1,.func (.func 50) #[] #[.pointer (some ⟨ga1q0,0,none⟩)]),(5,iv y1),(12,.bool (y1 == (-1)))] ?_
 rcases bool_cases (y1 == (-1)) with hb1 | hb1
 ·replace heq:=bif_true hb1 heq
  refine Ct (y1 == (-1)) hb1<|Ra 1 [1,1,0,1,0,0] [.c [1,1,0,1,0,1],.c [1,1,1]]<|Rd 2 [4] [(4,.slice Aa0 a0.length ca0)] ?_
  obtain rfl:=Option.some.inj heq
  exact RunH.done (by kernel_rfl) Tryd.func49 (v:=.slice Aa0 a0.length ca0) (by kernel_rfl) ⟨Aa0,ca0,cha0,rfl,rfl,rfl,hoa0⟩
 ·replace heq:=bif_false hb1 heq
  refine Cf (y1 == (-1)) hb1<|Ra 3 [1,1,1,0,0] [.c [1,1,1,0,1],.c [1,1,1,1]]<|Rd 3 [0,1,5,6] [(0,.slice Aa0 a0.length ca0),(1,.func (.func 50) #[] #[.pointer (some ⟨ga1q0,0,none⟩)]),(5,iv y1),(6,iv (w64 (y1+1)))]<|Ad 2 [.c [1,1,1,0,1,0,0],.l [1,1,1,0,1,0,0],.b 0,.c [1,1,1,1]]<|Kp [0,1,5,6] [(0,.slice Aa0 a0.length ca0),(1,.func (.func 50) #[] #[.pointer (some ⟨ga1q0,0,none⟩)]),(5,iv y1),(6,iv (w64 (y1+1)))] ?_
  exact ((slices_DeleteFunc_Blob_2.l2_c (e1:=slices_DeleteFunc_Blob_2.e1) (slices_DeleteFunc_Blob_2.e1_c)) big) _ a1q0 _ a0 _ _ _ _ y1 (w64 (y1+1)) hra1q0_0 hga1q0 hoa0 rfl heq
noncomputable def C45:Ctx:={ P:=Tryd.prog,f:=45,N:=95,c:=bodyOf Tryd.f45 }
def S45 (F:List Ch) (H0:Hp) (r:List Blob) (v:Value) (H:Hp) (cs:List Ch):Prop:=∃ (A0:Option Addr) (c0:Nat) (ch0:Ch),H0=H∧v=.slice A0 r.length c0∧ch0::F=cs∧SlOwn kBlob 29 H A0 c0 r ch0
theorem slices_Insert_Blob_c {w0:World} {H:Hp} {F:List Ch} {a0:List Blob} {Aa0:Option Addr} {na0 ca0:Nat} {cha0:Ch} {a1:Int} {a2:List Blob} {Aa2:Option Addr} {na2 ca2:Nat} {cha2:Ch} {r:List Blob} (hoa0:SlOwn kBlob 29 H Aa0 ca0 a0 cha0) (hna0:na0=a0.length) (hoa2:SlOwn kBlob 29 H Aa2 ca2 a2 cha2) (hna2:na2=a2.length) (heq:slices_Insert_Blob.f a0 a1 a2=some r):CallsH Tryd.prog 45 #[.slice Aa0 na0 ca0,iv a1,.slice Aa2 na2 ca2] H w0 (cha0::cha2::F) (S45 F H r):=by
 refine calls_of_runH (F:=C45) Tryd.func45 (by kernel_rfl) Tryd.ntmps45 (args:=[.slice Aa0 na0 ca0,iv a1,.slice Aa2 na2 ca2]) (by kernel_rfl) ?_
 subst hna0 hna2
 unfold slices_Insert_Blob.f at heq
 obtain ⟨hn,heq⟩:=guard?_some heq
 obtain rfl:=Option.some.inj heq
 simp only [Bool.and_eq_true,decide_eq_true_eq] at hn
 obtain ⟨h0,h1,h2,h3⟩:=hn
 have h3:=room_le h3
 obtain ⟨I,rfl⟩:∃ I:Nat,a1=(I:Int):=⟨a1.toNat,by omega⟩
 have hI:I≤a0.length:=by omega
 have hbig:a0.length+a2.length≤140737490452480:=by
  have:(a0.length+a2.length)*1≤(a0.length+a2.length)*48:=Nat.mul_le_mul_left _ (by omega)
  omega
 have hw1:w64 ((a0.length:Int)+(a2.length:Int))=((a0.length+a2.length:Nat):Int):=by unfold w64; rw [IntKind.wrap_i64]; omega
 have hw2:w64 ((I:Int)+(a2.length:Int))=((I+a2.length:Nat):Int):=by unfold w64; rw [IntKind.wrap_i64]; omega
 have hw3:w64 (((a0.length+a2.length:Nat):Int) - (I:Int))=((a0.length+a2.length - I:Nat):Int):=by rw [show ((a0.length+a2.length:Nat):Int) - (I:Int)=((a0.length+a2.length - I:Nat):Int) by omega]; unfold w64; rw [IntKind.wrap_i64]; omega
 simp only [Int.toNat_natCast]
 refine Ra 1 [0] [.c [1]]<|Rd 1 [0,1,2] [(0,.slice Aa0 a0.length ca0),(1,iv (I:Int)),(2,.slice Aa2 a2.length ca2)]<|Ra 1 [1,0] [.c [1,1]]<|Rw' 3 [0,1,2] [] [.need ((0:Int)≤(I:Int)∧(I:Int)≤((a0.length:Nat):Int))] [(0,.slice Aa0 a0.length ca0),(1,iv (I:Int)),(2,.slice Aa2 a2.length ca2)] (fun w hh=>⟨h0,h1⟩)<|Ra 1 [1,1,0] [.c [1,1,1]]<|Rd 3 [0,1,2,7] [(0,.slice Aa0 a0.length ca0),(1,iv (I:Int)),(2,.slice Aa2 a2.length ca2),(7,iv (a2.length:Int))]<|Ra 2 [1,1,1,0,0] [.c [1,1,1,0,1],.c [1,1,1,1]]<|Rd 2 [0,1,2,7,16] [(0,.slice Aa0 a0.length ca0),(1,iv (I:Int)),(2,.slice Aa2 a2.length ca2),(7,iv (a2.length:Int)),(16,.bool ((a2.length:Int) == 0))]<|Cf ((a2.length:Int) == 0) (beq_eq_false_iff_ne.2 (by omega))<|Ra 2 [1,1,1,1,0] [.c [1,1,1,1,1]]<|Rd 3 [0,1,2,7,8] [(0,.slice Aa0 a0.length ca0),(1,iv (I:Int)),(2,.slice Aa2 a2.length ca2),(7,iv (a2.length:Int)),(8,iv (a0.length:Int))]<|Ra 2 [1,1,1,1,1,0,0] [.c [1,1,1,1,1,0,1],.c [1,1,1,1,1,1]]<|Rd 3 [0,1,2,7,8,22] [(0,.slice Aa0 a0.length ca0),(1,iv (I:Int)),(2,.slice Aa2 a2.length ca2),(7,iv (a2.length:Int)),(8,iv (a0.length:Int)),(22,.bool ((I:Int) == (a0.length:Int)))] ?_
 rcases bool_cases ((I:Int) == (a0.length:Int)) with hb | hb
 ·have hIn:I=a0.length:=by have:=eq_of_beq hb; omega
  have e:a0.take I++a2++a0.drop I=a0++a2:=by rw [hIn]; simp
  rw [e]
  refine Ct ((I:Int) == (a0.length:Int)) hb<|Ra 1 [1,1,1,1,1,0,1,0,0] [.c [1,1,1,1,1,0,1,0,1],.c [1,1,1,1,1,1]]<|Rk 2 [23,24] [(23,.slice Aa0 a0.length ca0),(24,.slice Aa2 a2.length ca2)] ?_
  refine RgH.does (DoesH.append (d:=25) (k:=0) (t:=22) (e:=29) (bytes:=48) (kd:=kBlob) (n:=a0.length) (m:=a2.length) (xs:=a0) (ys:=a2) (A:=Aa0) (B:=Aa2) (c:=ca0) (cB:=ca2) (by kernel_rfl) rfl rfl (by kernel_rfl) rfl hoa0 (fun w hh=>hoa2.rdb (hh.chin 1 rfl)) h3 (by omega)) ?_
  rintro _ _ _ _ ⟨A1,c1,ch1,rfl,rfl,rfl,ho1⟩
  refine Rd 4 [6] [(6,.slice A1 (a0++a2).length c1)] ?_
  refine RunH.pick 2 [0] (cs':=ch1::F) (by kernel_rfl) rfl ?_
  exact RunH.done (by kernel_rfl) Tryd.func45 (v:=.slice A1 (a0++a2).length c1) (by kernel_rfl) ⟨A1,c1,ch1,rfl,rfl,rfl,ho1⟩
 ·have hIn:I<a0.length:=by have:=beq_eq_false_iff_ne.1 hb; omega
  have hx:a0≠[]:=by intro h; subst h; simp at hIn
  have hy:a2≠[]:=by intro h; subst h; simp at h2
  have hrl:(a0.take I++a2++a0.drop I).length=a0.length+a2.length:=by simp; omega
  rcases hoa0 with ⟨h,_⟩ | ⟨b,off,cells,rfl,rfl,k3,k4,k5,k6⟩
  ·exact absurd h hx
  rcases hoa2 with ⟨h,_⟩ | ⟨vb,voff,vcells,rfl,rfl,q3,q4,q5,q6⟩
  ·exact absurd h hy
  obtain ⟨newsV,v1,v2,v3,v4⟩:=Rep.toList q6
  obtain ⟨newsD,d1,d2,d3,d4⟩:=Rep.toList (Rep.drop k6 I)
  have hsz:(kBlob).sz=5:=rfl
  have hdl:(a0.drop I).length=a0.length - I:=by simp
  rw [hdl] at d1
  rw [hsz] at v1 d1 d2 k5 q5
  refine Cf ((I:Int) == (a0.length:Int)) hb<|Ra 3 [1,1,1,1,1,1,0,0] [.c [1,1,1,1,1,1,0,1],.c [1,1,1,1,1,1,1]]<|Rd 6 [0,1,2,7,8,31] [(0,.slice (some ⟨b,off,none⟩) a0.length ca0),(1,iv (I:Int)),(2,.slice (some ⟨vb,voff,none⟩) a2.length ca2),(7,iv (a2.length:Int)),(8,iv (a0.length:Int)),(31,.bool (decide ((ca0:Int)<w64 ((a0.length:Int)+(a2.length:Int)))))] ?_
  rcases bool_cases (decide ((ca0:Int)<w64 ((a0.length:Int)+(a2.length:Int)))) with hc | hc
  ·have hroom:ca0<a0.length+a2.length:=by rw [hw1] at hc; have:=of_decide_eq_true hc; omega
   refine Ct (decide ((ca0:Int)<w64 ((a0.length:Int)+(a2.length:Int)))) hc<|Ra 1 [1,1,1,1,1,1,0,1,0,0] [.c [1,1,1,1,1,1,0,1,0,1],.c [1,1,1,1,1,1,1]]<|Rv 8 [0,1,2,7,34,39] [] [.need ((0:Int)≤(I:Int)∧(I:Int)≤((ca0:Nat):Int))] [(0,.slice (some ⟨b,off,none⟩) a0.length ca0),(1,iv (I:Int)),(2,.slice (some ⟨vb,voff,none⟩) a2.length ca2),(7,iv (a2.length:Int)),(34,.slice (some ⟨b,off,none⟩) I ca0),(39,iv (w64 (w64 ((a0.length:Int)+(a2.length:Int)) - (I:Int))))] (fun w hh=>⟨h0,by omega⟩) ?_
   have hzq:w64 (w64 ((a0.length:Int)+(a2.length:Int)) - (I:Int))=((a0.length+a2.length - I:Nat):Int):=by rw [hw1,hw3]
   have hrt:Kd.Rep kBlob H cells off (a0.take I):=Rep.take k6 I
   have htl:(a0.take I).length=I:=by simp; omega
   refine RgH.does (DoesH.appendZeros (dd:=40) (kd:=kBlob) (t:=22) (tn:=3) (e:=29) (bytes:=48) (q:=a0.length+a2.length - I) (A:=some ⟨b,off,none⟩) (a:=⟨b,off,none⟩) (c:=ca0) (n:=I) (xs:=a0.take I) (by kernel_rfl) rfl hzq (by kernel_rfl) htl.symm (by kernel_rfl) (fun w hh hne=>⟨b,off,cells,29,(0,0),rfl,hh.chin 0 rfl,hrt⟩) (by omega) (by omega) (by rw [show I+(a0.length+a2.length - I)=a0.length+a2.length by omega]; exact h3) (by omega)) ?_
   rintro _ _ _ _ ⟨g,c',cells2,rfl,rfl,rfl,g1,g2,g3,g4⟩
   rw [hsz] at g3
   refine Rd 10 [0,1,2,7,9] [(0,.slice (some ⟨b,off,none⟩) a0.length ca0),(1,iv (I:Int)),(2,.slice (some ⟨vb,voff,none⟩) a2.length ca2),(7,iv (a2.length:Int)),(9,.slice (some ⟨g,0,none⟩) (I+(a0.length+a2.length - I)) c')]<|Ra 1 [1,1,1,1,1,1,0,1,0,1,0] [.c [1,1,1,1,1,1,0,1,0,1,1],.c [1,1,1,1,1,1,1]]<|Rv 4 [0,1,2,7,9,43,44] [] [.need ((0:Int)≤(I:Int)∧(I:Int)≤((I+(a0.length+a2.length - I):Nat):Int))] [(0,.slice (some ⟨b,off,none⟩) a0.length ca0),(1,iv (I:Int)),(2,.slice (some ⟨vb,voff,none⟩) a2.length ca2),(7,iv (a2.length:Int)),(9,.slice (some ⟨g,0,none⟩) (I+(a0.length+a2.length - I)) c'),(43,.slice (shiftA c' I 5 (some ⟨g,0,none⟩)) (I+(a0.length+a2.length - I) - I) (c' - I)),(44,.slice (some ⟨vb,voff,none⟩) a2.length ca2)] (fun w hh=>⟨h0,by omega⟩) ?_
   refine RgH.does (DoesH.copyRaw (k:=0) (t:=22) (e:=29) (bytes:=48) (sz:=5) (A1:=shiftA c' I 5 (some ⟨g,0,none⟩)) (A2:=some ⟨vb,voff,none⟩) (dd:=some 45) (dc:=c' - I) (sc:=ca2) (dl:=I+(a0.length+a2.length - I) - I) (sl:=a2.length) (b:=g) (o:=0+I*5) (a:=⟨vb,voff,none⟩) (cells:=cells2) (news:=newsV) (by kernel_rfl) (shiftA_at (n:=I+1) (by omega) (by omega) rfl) rfl (by kernel_rfl) rfl (by rw [v1]; congr 1; simp only [Nat.min_def]; split <;> omega) (fun w hh j u hu=>by rw [add_plain]; exact blk_cell (hh.chin 2 rfl) (v2 j u hu)) v3 (by rw [v1]; omega)) ?_
   rintro _ _ _ _ ⟨rfl,rfl,rfl⟩
   refine Rd 5 [0,1,2,7,9] [(0,.slice (some ⟨b,off,none⟩) a0.length ca0),(1,iv (I:Int)),(2,.slice (some ⟨vb,voff,none⟩) a2.length ca2),(7,iv (a2.length:Int)),(9,.slice (some ⟨g,0,none⟩) (I+(a0.length+a2.length - I)) c')]<|Ad 1 [.c [1,1,1,1,1,1,0,1,0,1,1,0],.c [1,1,1,1,1,1,0,1,0,1,1,1],.c [1,1,1,1,1,1,1]] ?_
   refine RunH.draw (fun w=>True) (fun w=>True) [3,3,3,3,3,3,3,3,0] (n:=9) (ls:=[false,false,false,false,false,false,false,false,false]) (by kernel_rfl) (by kernel_rfl) (by kernel_rfl) rfl ?_
   refine Dr [0,1,2,3,4,5,6,7] 1 (nb 9 255) [] [.need ((0:Int)≤w64 ((I:Int)+(a2.length:Int))∧w64 ((I:Int)+(a2.length:Int))≤((I+(a0.length+a2.length - I):Nat):Int)),.need ((0:Int)≤(I:Int)∧(I:Int)≤((a0.length:Nat):Int))] [(53,.slice (shiftA ca0 I 5 (some ⟨b,off,none⟩)) (a0.length - I) (ca0 - I)),(52,iv (I:Int)),(51,.slice (some ⟨b,off,none⟩) a0.length ca0),(50,.slice (shiftA c' (w64 ((I:Int)+(a2.length:Int))).toNat 5 (some ⟨g,0,none⟩)) (I+(a0.length+a2.length - I) - (w64 ((I:Int)+(a2.length:Int))).toNat) (c' - (w64 ((I:Int)+(a2.length:Int))).toNat)),(49,iv (w64 ((I:Int)+(a2.length:Int)))),(48,iv (a2.length:Int)),(47,iv (I:Int)),(46,.slice (some ⟨g,0,none⟩) (I+(a0.length+a2.length - I)) c'),(0,.slice (some ⟨b,off,none⟩) a0.length ca0),(1,iv (I:Int)),(2,.slice (some ⟨vb,voff,none⟩) a2.length ca2),(7,iv (a2.length:Int)),(9,.slice (some ⟨g,0,none⟩) (I+(a0.length+a2.length - I)) c')] (fun w hh=>trivial) (fun w hh=>trivial) (fun w hh=>⟨by rw [hw2]; constructor <;> omega,h0,h1⟩) ?_
   refine DrH.does (n:=0) (ls':=[true,true,true,true,true,true,true,true,true]) 8 (by kernel_rfl) rfl (DoesH.copyRaw (k:=0) (t:=22) (e:=29) (bytes:=48) (sz:=5) (A1:=shiftA c' (w64 ((I:Int)+(a2.length:Int))).toNat 5 (some ⟨g,0,none⟩)) (A2:=shiftA ca0 I 5 (some ⟨b,off,none⟩)) (dd:=some 54) (dc:=c' - (w64 ((I:Int)+(a2.length:Int))).toNat) (sc:=ca0 - I) (dl:=I+(a0.length+a2.length - I) - (w64 ((I:Int)+(a2.length:Int))).toNat) (sl:=a0.length - I) (b:=g) (o:=0+(I+a2.length)*5) (a:=⟨b,off+I*5,none⟩) (cells:=owr cells2 (0+I*5) newsV) (news:=newsD) (by kernel_rfl) (by rw [hw2]; exact shiftA_at (n:=I+a2.length+1) (by omega) (by omega) rfl) (shiftA_at hIn k3 rfl) (by kernel_rfl) rfl (by rw [d1,hw2]; congr 1; simp only [Nat.min_def,Int.toNat_natCast]; split <;> omega) (fun w hh j u hu=>by rw [add_plain]; exact blk_cell (hh.chin 1 rfl) (d2 j u hu)) d3 (by rw [owr_size,d1]; omega)) ?_
   rintro _ _ _ _ ⟨rfl,rfl,rfl⟩
   refine ⟨fun _ w hh=>⟨fun _=>trivial,fun _=>trivial,(fun h=>by cases h)⟩,?_⟩
   refine Kr [9] [(9,.slice (some ⟨g,0,none⟩) (I+(a0.length+a2.length - I)) c')] ?_
   refine DrH.done (by kernel_rfl) ?_
   refine Ra 1 [1,1,1,1,1,1,0,1,0,1,1,1,0] [.c [1,1,1,1,1,1,0,1,0,1,1,1,1],.c [1,1,1,1,1,1,1]]<|Rd 2 [6] [(6,.slice (some ⟨g,0,none⟩) (I+(a0.length+a2.length - I)) c')] ?_
   have r1:Kd.Rep kBlob H (owr cells2 (0+I*5) newsV) 0 (a0.take I++a2):=by
    have:=Rep.owr g4 v4 (by rw [htl,hsz,v1]; omega)
    rwa [htl,hsz] at this
   have hl1:(a0.take I++a2).length=I+a2.length:=by rw [List.length_append,htl]
   have r2:Kd.Rep kBlob H (owr (owr cells2 (0+I*5) newsV) (0+(I+a2.length)*5) newsD) 0 (a0.take I++a2++a0.drop I):=by
    have:=Rep.owr r1 d4 (by rw [hl1,hsz,d1,owr_size]; omega)
    rwa [hl1,hsz] at this
   have ho:SlOwn kBlob 29 H (some ⟨g,0,none⟩) c' (a0.take I++a2++a0.drop I) (some (g,.cells (owr (owr cells2 (0+I*5) newsV) (0+(I+a2.length)*5) newsD) 29 (0,0))):=.inr ⟨g,0,_,rfl,rfl,by rw [hrl]; omega,g2,by rw [owr_size,owr_size,hsz]; exact g3,r2⟩
   refine RunH.pick 3 [0] (cs':=some (g,.cells (owr (owr cells2 (0+I*5) newsV) (0+(I+a2.length)*5) newsD) 29 (0,0))::F) (by kernel_rfl) rfl ?_
   exact RunH.done (by kernel_rfl) Tryd.func45 (v:=.slice (some ⟨g,0,none⟩) (I+(a0.length+a2.length - I)) c') (by kernel_rfl) ⟨some ⟨g,0,none⟩,c',_,rfl,by rw [hrl,show I+(a0.length+a2.length - I)=a0.length+a2.length by omega],rfl,ho⟩
  ·have hroom:a0.length+a2.length≤ca0:=by rw [hw1] at hc; have:=of_decide_eq_false hc; omega
   refine Cf (decide ((ca0:Int)<w64 ((a0.length:Int)+(a2.length:Int)))) hc<|Ra 2 [1,1,1,1,1,1,1,0] [.c [1,1,1,1,1,1,1,1]]<|Rv 6 [0,1,2,7] [] [.need ((0:Int)≤w64 ((a0.length:Int)+(a2.length:Int))∧w64 ((a0.length:Int)+(a2.length:Int))≤((ca0:Nat):Int))] [(0,.slice (some ⟨b,off,none⟩) (w64 ((a0.length:Int)+(a2.length:Int))).toNat ca0),(1,iv (I:Int)),(2,.slice (some ⟨vb,voff,none⟩) a2.length ca2),(7,iv (a2.length:Int))] (fun w hh=>by rw [hw1]; constructor <;> omega) ?_
   refine RgH.val1 (v':=.slice (some ⟨b,off,none⟩) (a0.length+a2.length) ca0) (by rw [hw1]; rfl) ?_
   refine Dn<|Ra 2 [1,1,1,1,1,1,1,1,0,0] [.c [1,1,1,1,1,1,1,1,0,1],.c [1,1,1,1,1,1,1,1,1]]<|Rv 6 [0,1,2,7,61,66] [] [.need ((0:Int)≤w64 ((I:Int)+(a2.length:Int))∧w64 ((I:Int)+(a2.length:Int))≤((a0.length+a2.length:Nat):Int))] [(0,.slice (some ⟨b,off,none⟩) (a0.length+a2.length) ca0),(1,iv (I:Int)),(2,.slice (some ⟨vb,voff,none⟩) a2.length ca2),(7,iv (a2.length:Int)),(61,.slice (some ⟨vb,voff,none⟩) a2.length ca2),(66,.slice (shiftA ca0 (w64 ((I:Int)+(a2.length:Int))).toNat 5 (some ⟨b,off,none⟩)) (a0.length+a2.length - (w64 ((I:Int)+(a2.length:Int))).toNat) (ca0 - (w64 ((I:Int)+(a2.length:Int))).toNat))] (fun w hh=>by rw [hw2]; constructor <;> omega) ?_
   have hsh:shiftA ca0 (w64 ((I:Int)+(a2.length:Int))).toNat 5 (some ⟨b,off,none⟩)=some ⟨b,off+(I+a2.length)*5,none⟩:=by rw [hw2]; exact shiftA_at (n:=a0.length+a2.length) (by omega) hroom rfl
   have hne:∀ w,Heap H w0 w (some (b,.cells cells 29 (0,0))::some (vb,.cells vcells 29 (0,0))::F)→vb≠b:=fun w hh=>hh.dif 1 0 _ _ rfl rfl (by omega)
   refine RgH.does (DoesH.ext (d:=67) (g:=59) (args:=#[.slice (some ⟨vb,voff,none⟩) a2.length ca2,.slice (shiftA ca0 (w64 ((I:Int)+(a2.length:Int))).toNat 5 (some ⟨b,off,none⟩)) (a0.length+a2.length - (w64 ((I:Int)+(a2.length:Int))).toNat) (ca0 - (w64 ((I:Int)+(a2.length:Int))).toNat)]) (v:=.bool false) (by kernel_rfl) (fun w hh=>by rw [hsh]; exact run_overlaps_own (e:=4) Tryd.func59 (by kernel_rfl) (by kernel_rfl) (by kernel_rfl) (by kernel_rfl) (show elemOk Tryd.prog 22 29 5 48=true by kernel_rfl) (hh.chin 1 rfl) (hh.chin 0 rfl) (hne w hh) (by omega))) ?_
   rintro _ _ _ _ ⟨rfl,rfl,rfl⟩
   refine Rd 8 [0,1,2,7,68] [(0,.slice (some ⟨b,off,none⟩) (a0.length+a2.length) ca0),(1,iv (I:Int)),(2,.slice (some ⟨vb,voff,none⟩) a2.length ca2),(7,iv (a2.length:Int)),(68,.bool true)]<|Ct true rfl<|Ad 1 [.c [1,1,1,1,1,1,1,1,0,1,0,0],.c [1,1,1,1,1,1,1,1,0,1,0,1],.c [1,1,1,1,1,1,1,1,1]] ?_
   refine RunH.draw (fun w=>True) (fun w=>True) [3,3,3,3,3,3,3,3,0] (n:=9) (ls:=[false,false,false,false,false,false,false,false,false]) (by kernel_rfl) (by kernel_rfl) (by kernel_rfl) rfl ?_
   refine Dr [0,1,2,3,4,5,6,7] 1 (nb 9 255) [] [.need ((0:Int)≤w64 ((I:Int)+(a2.length:Int))∧w64 ((I:Int)+(a2.length:Int))≤((a0.length+a2.length:Nat):Int)),.need ((0:Int)≤(I:Int)∧(I:Int)≤((a0.length+a2.length:Nat):Int))] [(76,.slice (shiftA ca0 I 5 (some ⟨b,off,none⟩)) (a0.length+a2.length - I) (ca0 - I)),(75,iv (I:Int)),(74,.slice (some ⟨b,off,none⟩) (a0.length+a2.length) ca0),(73,.slice (shiftA ca0 (w64 ((I:Int)+(a2.length:Int))).toNat 5 (some ⟨b,off,none⟩)) (a0.length+a2.length - (w64 ((I:Int)+(a2.length:Int))).toNat) (ca0 - (w64 ((I:Int)+(a2.length:Int))).toNat)),(72,iv (w64 ((I:Int)+(a2.length:Int)))),(71,iv (a2.length:Int)),(70,iv (I:Int)),(69,.slice (some ⟨b,off,none⟩) (a0.length+a2.length) ca0),(0,.slice (some ⟨b,off,none⟩) (a0.length+a2.length) ca0),(1,iv (I:Int)),(2,.slice (some ⟨vb,voff,none⟩) a2.length ca2),(7,iv (a2.length:Int)),(68,.bool true)] (fun w hh=>trivial) (fun w hh=>trivial) (fun w hh=>⟨by rw [hw2]; constructor <;> omega,h0,by omega⟩) ?_
   refine DrH.does (n:=0) (ls':=[true,true,true,true,true,true,true,true,true]) 8 (by kernel_rfl) rfl (DoesH.copyRaw (k:=0) (t:=22) (e:=29) (bytes:=48) (sz:=5) (A1:=shiftA ca0 (w64 ((I:Int)+(a2.length:Int))).toNat 5 (some ⟨b,off,none⟩)) (A2:=shiftA ca0 I 5 (some ⟨b,off,none⟩)) (dd:=some 77) (dc:=ca0 - (w64 ((I:Int)+(a2.length:Int))).toNat) (sc:=ca0 - I) (dl:=a0.length+a2.length - (w64 ((I:Int)+(a2.length:Int))).toNat) (sl:=a0.length+a2.length - I) (b:=b) (o:=off+(I+a2.length)*5) (a:=⟨b,off+I*5,none⟩) (cells:=cells) (news:=newsD) (by kernel_rfl) hsh (shiftA_at hIn k3 rfl) (by kernel_rfl) rfl (by rw [d1,hw2]; congr 1; simp only [Nat.min_def,Int.toNat_natCast]; split <;> omega) (fun w hh j u hu=>by rw [add_plain]; exact blk_cell (hh.chin 0 rfl) (d2 j u hu)) d3 (by rw [d1]; omega)) ?_
   rintro _ _ _ _ ⟨rfl,rfl,rfl⟩
   refine ⟨fun _ w hh=>⟨fun _=>trivial,fun _=>trivial,(fun h=>by cases h)⟩,?_⟩
   refine Kr [0,1,2] [(0,.slice (some ⟨b,off,none⟩) (a0.length+a2.length) ca0),(1,iv (I:Int)),(2,.slice (some ⟨vb,voff,none⟩) a2.length ca2)] ?_
   refine DrH.done (by kernel_rfl) ?_
   refine Ra 1 [1,1,1,1,1,1,1,1,0,1,0,1,0] [.c [1,1,1,1,1,1,1,1,0,1,0,1,1],.c [1,1,1,1,1,1,1,1,1]]<|Rv 4 [0,80,81] [] [.need ((0:Int)≤(I:Int)∧(I:Int)≤((a0.length+a2.length:Nat):Int))] [(0,.slice (some ⟨b,off,none⟩) (a0.length+a2.length) ca0),(80,.slice (shiftA ca0 I 5 (some ⟨b,off,none⟩)) (a0.length+a2.length - I) (ca0 - I)),(81,.slice (some ⟨vb,voff,none⟩) a2.length ca2)] (fun w hh=>⟨h0,by omega⟩) ?_
   refine RgH.does (DoesH.copyRaw (k:=0) (t:=22) (e:=29) (bytes:=48) (sz:=5) (A1:=shiftA ca0 I 5 (some ⟨b,off,none⟩)) (A2:=some ⟨vb,voff,none⟩) (dd:=some 82) (dc:=ca0 - I) (sc:=ca2) (dl:=a0.length+a2.length - I) (sl:=a2.length) (b:=b) (o:=off+I*5) (a:=⟨vb,voff,none⟩) (cells:=owr cells (off+(I+a2.length)*5) newsD) (news:=newsV) (by kernel_rfl) (shiftA_at hIn k3 rfl) rfl (by kernel_rfl) rfl (by rw [v1]; congr 1; simp only [Nat.min_def]; split <;> omega) (fun w hh j u hu=>by rw [add_plain]; exact blk_cell (hh.chin 1 rfl) (v2 j u hu)) v3 (by rw [owr_size,v1]; omega)) ?_
   rintro _ _ _ _ ⟨rfl,rfl,rfl⟩
   refine Rd 5 [0] [(0,.slice (some ⟨b,off,none⟩) (a0.length+a2.length) ca0)]<|Ra 1 [1,1,1,1,1,1,1,1,0,1,0,1,1,0] [.c [1,1,1,1,1,1,1,1,0,1,0,1,1,1],.c [1,1,1,1,1,1,1,1,1]]<|Rd 2 [6] [(6,.slice (some ⟨b,off,none⟩) (a0.length+a2.length) ca0)] ?_
   have htl:(a0.take I).length=I:=by simp; omega
   have s1:Kd.Rep kBlob H (owr (owr cells (off+(I+a2.length)*5) newsD) (off+I*5) newsV) off (a0.take I):=Rep.outw (Rep.outw (Rep.take k6 I) (by rw [d1]; omega) (by rw [htl,hsz]; omega)) (by rw [owr_size,v1]; omega) (by rw [htl,hsz]; omega)
   have s2:Kd.Rep kBlob H (owr (owr cells (off+(I+a2.length)*5) newsD) (off+I*5) newsV) (off+I*5) a2:=Rep.inw v4 (by rw [owr_size,v1]; omega)
   have s3:Kd.Rep kBlob H (owr (owr cells (off+(I+a2.length)*5) newsD) (off+I*5) newsV) (off+(I+a2.length)*5) (a0.drop I):=Rep.outw (Rep.inw d4 (by rw [d1]; omega)) (by rw [owr_size,v1]; omega) (by rw [v1]; omega)
   have hl1:(a0.take I++a2).length=I+a2.length:=by rw [List.length_append,htl]
   have r2:Kd.Rep kBlob H (owr (owr cells (off+(I+a2.length)*5) newsD) (off+I*5) newsV) off (a0.take I++a2++a0.drop I):=Rep.glue (Rep.glue s1 (by rw [htl,hsz]; exact s2)) (by rw [hl1,hsz]; exact s3)
   have ho:SlOwn kBlob 29 H (some ⟨b,off,none⟩) ca0 (a0.take I++a2++a0.drop I) (some (b,.cells (owr (owr cells (off+(I+a2.length)*5) newsD) (off+I*5) newsV) 29 (0,0))):=.inr ⟨b,off,_,rfl,rfl,by rw [hrl]; omega,k4,by rw [owr_size,owr_size,hsz]; exact k5,r2⟩
   refine RunH.pick 2 [0] (cs':=some (b,.cells (owr (owr cells (off+(I+a2.length)*5) newsD) (off+I*5) newsV) 29 (0,0))::F) (by kernel_rfl) rfl ?_
   exact RunH.done (by kernel_rfl) Tryd.func45 (v:=.slice (some ⟨b,off,none⟩) (a0.length+a2.length) ca0) (by kernel_rfl) ⟨some ⟨b,off,none⟩,ca0,_,rfl,by rw [hrl],rfl,ho⟩
noncomputable def C26v3:Ctx:={ P:=Tryd.prog,f:=26,N:=67,c:=bodyOf Tryd.f26 }
def S26v3 (F:List Ch) (H0:Hp) (ga0:Nat) (r:Cache) (v:Value) (H:Hp) (cs:List Ch):Prop:=∃ (A0_2:Option Addr) (c0_2:Nat) (ch0_2:Ch) (A0_3:Option Addr) (c0_3:Nat) (ch0_3:Ch),H0=H∧v=.tuple #[]∧some (ga0,.cells #[iv r.Room,iv r.Lease,.slice A0_2 r.Blobs.length c0_2,.slice A0_3 r.Entries.length c0_3] 25 (0,0))::ch0_2::ch0_3::F=cs∧SlOwn kBlob 29 H A0_2 c0_2 r.Blobs ch0_2∧SlOwn kEntry 57 H A0_3 c0_3 r.Entries ch0_3
theorem cache_touch_3.j3_c {w0:World} {H:Hp} {F:List Ch} {r:Cache} (backl1:Cache→(List ByteArray)→Int→Bool→Bool→(List Blob)→Int→Option Cache)
  (hbackl1:∀ (ga0:Nat) (a0:Cache) (Aa0_3:Option Addr) (ca0_3:Nat) (cha0_3:Ch) (a1:List ByteArray) (Aa1:Option Addr) (ca1:Nat) (a2:Int) (a3:Bool) (a4:Bool) (v_c0_2:List Blob) (Av_c0_2:Option Addr) (nv_c0_2:Nat) (cv_c0_2:Nat) (chv_c0_2:Ch) (v16:Int) ,SlOwn kEntry 57 H Aa0_3 ca0_3 a0.Entries cha0_3→Rw Kd.string H F Aa1 a1→a1.length≤ca1→SlOwn kBlob 29 H Av_c0_2 cv_c0_2 v_c0_2 chv_c0_2→nv_c0_2=v_c0_2.length→backl1 a0 a1 a2 a3 a4 v_c0_2 v16=some r→RunH C26v3 (S26v3 F H ga0 r) H w0 [.c [1,0,0],.l [1,0,0],.b 0] [(0,pg ga0 0),(2,iv a2),(3,.bool a3),(4,.bool a4),(14,.slice Aa1 a1.length ca1),(15,iv (a1.length:Int)),(16,iv v16)] H ((some (ga0,.cells #[iv a0.Room,iv a0.Lease,.slice Av_c0_2 nv_c0_2 cv_c0_2,.slice Aa0_3 a0.Entries.length ca0_3] 25 (0,0)))::chv_c0_2::cha0_3::F)):∀ (ga0:Nat) (a0:Cache) (Aa0_3:Option Addr) (ca0_3:Nat) (cha0_3:Ch) (a1:List ByteArray) (Aa1:Option Addr) (ca1:Nat) (a2:Int) (a3:Bool) (a4:Bool) (v16:Int) (v_c0_2:List Blob) (Av_c0_2:Option Addr) (nv_c0_2:Nat) (cv_c0_2:Nat) (chv_c0_2:Ch) ,SlOwn kEntry 57 H Aa0_3 ca0_3 a0.Entries cha0_3→Rw Kd.string H F Aa1 a1→a1.length≤ca1→SlOwn kBlob 29 H Av_c0_2 cv_c0_2 v_c0_2 chv_c0_2→nv_c0_2=v_c0_2.length→cache_touch_3.j3 backl1 a0 a1 a2 a3 a4 v16 v_c0_2=some r→RunH C26v3 (S26v3 F H ga0 r) H w0 [.c [1,0,0,1,1,1],.l [1,0,0],.b 0] [(0,pg ga0 0),(2,iv a2),(3,.bool a3),(4,.bool a4),(14,.slice Aa1 a1.length ca1),(15,iv (a1.length:Int)),(16,iv v16)] H ((some (ga0,.cells #[iv a0.Room,iv a0.Lease,.slice Av_c0_2 nv_c0_2 cv_c0_2,.slice Aa0_3 a0.Entries.length ca0_3] 25 (0,0)))::chv_c0_2::cha0_3::F):=by
 intro ga0 a0 Aa0_3 ca0_3 cha0_3 a1 Aa1 ca1 a2 a3 a4 v16 v_c0_2 Av_c0_2 nv_c0_2 cv_c0_2 chv_c0_2 hoa0_3 hra1 hca1 hov_c0_2 hnv_c0_2 heq
 subst hnv_c0_2
 unfold cache_touch_3.j3 at heq
 refine Rr<|Rd 2 [0,2,3,4,14,15,16] [(0,pg ga0 0),(2,iv a2),(3,.bool a3),(4,.bool a4),(14,.slice Aa1 a1.length ca1),(15,iv (a1.length:Int)),(16,iv (w64 (v16+1)))]<|Ad 1 [.c [1,0,0],.l [1,0,0],.b 0]<|Kp [0,2,3,4,14,15,16] [(0,pg ga0 0),(2,iv a2),(3,.bool a3),(4,.bool a4),(14,.slice Aa1 a1.length ca1),(15,iv (a1.length:Int)),(16,iv (w64 (v16+1)))] ?_
 exact hbackl1 _ a0 _ _ _ a1 _ _ a2 a3 a4 v_c0_2 _ _ _ _ (w64 (v16+1)) hoa0_3 hra1 hca1 hov_c0_2 rfl heq
theorem cache_touch_3.j2_c {w0:World} {H:Hp} {F:List Ch} {r:Cache} (backl1:Cache→(List ByteArray)→Int→Bool→Bool→(List Blob)→Int→Option Cache)
  (hbackl1:∀ (ga0:Nat) (a0:Cache) (Aa0_3:Option Addr) (ca0_3:Nat) (cha0_3:Ch) (a1:List ByteArray) (Aa1:Option Addr) (ca1:Nat) (a2:Int) (a3:Bool) (a4:Bool) (v_c0_2:List Blob) (Av_c0_2:Option Addr) (nv_c0_2:Nat) (cv_c0_2:Nat) (chv_c0_2:Ch) (v16:Int) ,SlOwn kEntry 57 H Aa0_3 ca0_3 a0.Entries cha0_3→Rw Kd.string H F Aa1 a1→a1.length≤ca1→SlOwn kBlob 29 H Av_c0_2 cv_c0_2 v_c0_2 chv_c0_2→nv_c0_2=v_c0_2.length→backl1 a0 a1 a2 a3 a4 v_c0_2 v16=some r→RunH C26v3 (S26v3 F H ga0 r) H w0 [.c [1,0,0],.l [1,0,0],.b 0] [(0,pg ga0 0),(2,iv a2),(3,.bool a3),(4,.bool a4),(14,.slice Aa1 a1.length ca1),(15,iv (a1.length:Int)),(16,iv v16)] H ((some (ga0,.cells #[iv a0.Room,iv a0.Lease,.slice Av_c0_2 nv_c0_2 cv_c0_2,.slice Aa0_3 a0.Entries.length ca0_3] 25 (0,0)))::chv_c0_2::cha0_3::F)):∀ (ga0:Nat) (a0:Cache) (Aa0_3:Option Addr) (ca0_3:Nat) (cha0_3:Ch) (a1:List ByteArray) (Aa1:Option Addr) (ca1:Nat) (a2:Int) (a3:Bool) (a4:Bool) (v16:Int) (y1:Int × Bool) (v_c0_2:List Blob) (Av_c0_2:Option Addr) (nv_c0_2:Nat) (cv_c0_2:Nat) (chv_c0_2:Ch) ,SlOwn kEntry 57 H Aa0_3 ca0_3 a0.Entries cha0_3→Rw Kd.string H F Aa1 a1→a1.length≤ca1→SlOwn kBlob 29 H Av_c0_2 cv_c0_2 v_c0_2 chv_c0_2→nv_c0_2=v_c0_2.length→cache_touch_3.j2 backl1 a0 a1 a2 a3 a4 v16 y1 v_c0_2=some r→RunH C26v3 (S26v3 F H ga0 r) H w0 [.c [1,0,0,1,1,0,0,1,1,1,0],.c [1,0,0,1,1,0,0,1,1,1,1],.b 1,.c [1,0,0,1,1,1],.l [1,0,0],.b 0] [(0,pg ga0 0),(2,iv a2),(3,.bool a3),(4,.bool a4),(12,iv y1.1),(13,.bool y1.2),(14,.slice Aa1 a1.length ca1),(15,iv (a1.length:Int)),(16,iv v16)] H ((some (ga0,.cells #[iv a0.Room,iv a0.Lease,.slice Av_c0_2 nv_c0_2 cv_c0_2,.slice Aa0_3 a0.Entries.length ca0_3] 25 (0,0)))::chv_c0_2::cha0_3::F):=by
 intro ga0 a0 Aa0_3 ca0_3 cha0_3 a1 Aa1 ca1 a2 a3 a4 v16 y1 v_c0_2 Av_c0_2 nv_c0_2 cv_c0_2 chv_c0_2 hoa0_3 hra1 hca1 hov_c0_2 hnv_c0_2 heq
 subst hnv_c0_2
 unfold cache_touch_3.j2 at heq
 obtain ⟨t2,ht2,heq⟩:=bind_some heq
 have K7:RunH C26v3 (S26v3 F H ga0 r) H w0 [.c [1,0,0,1,1,0,0,1,1,1,1],.b 1,.c [1,0,0,1,1,1],.l [1,0,0],.b 0] [(0,pg ga0 0),(2,iv a2),(3,.bool a3),(4,.bool a4),(12,iv y1.1),(14,.slice Aa1 a1.length ca1),(15,iv (a1.length:Int)),(16,iv v16),(43,.bool t2)] H ((some (ga0,.cells #[iv a0.Room,iv a0.Lease,.slice Av_c0_2 v_c0_2.length cv_c0_2,.slice Aa0_3 a0.Entries.length ca0_3] 25 (0,0)))::chv_c0_2::cha0_3::F):=by
  rcases bool_cases (t2) with hb4 | hb4
  ·replace heq:=bif_true hb4 heq
   refine Ct t2 hb4<|Kp [0,2,3,4,12,14,15,16] [(0,pg ga0 0),(2,iv a2),(3,.bool a3),(4,.bool a4),(12,iv y1.1),(14,.slice Aa1 a1.length ca1),(15,iv (a1.length:Int)),(16,iv v16)] ?_
   refine RunH.draw (fun w=>Heap H w0 w ((some (ga0,.cells #[iv a0.Room,iv a0.Lease,.slice Av_c0_2 v_c0_2.length cv_c0_2,.slice Aa0_3 a0.Entries.length ca0_3] 25 (0,0)))::chv_c0_2::cha0_3::F)) (fun w=>Heap H w0 w ((some (ga0,.cells #[iv a0.Room,iv a0.Lease,.slice Av_c0_2 v_c0_2.length cv_c0_2,.slice Aa0_3 a0.Entries.length ca0_3] 25 (0,0)))::chv_c0_2::cha0_3::F)) [3,3,3,3,3,3,3,3,3,3,3,3,3,3,3,3,3,3,3,3,0,3,2] (n:=23) (ls:=[false,false,false,false,false,false,false,false,false,false,false,false,false,false,false,false,false,false,false,false,false,false,false]) (by kernel_rfl) (by kernel_rfl) (by kernel_rfl) rfl ?_
   obtain ⟨x2,hx2,heq⟩:=bind_some heq
   obtain ⟨ha2,cs2,hK2,hcc2⟩:=hov_c0_2.get hx2
   obtain ⟨rfl⟩:=kBlob_open hK2
   refine Dk [0,1,2,3,4,5,6,7,8,9,10,11,12,13,14,15,16,17,18,19] 3 (nb 23 1048575) [.slice Av_c0_2 v_c0_2.length cv_c0_2,.slice Av_c0_2 v_c0_2.length cv_c0_2,iv x2.Until,iv a0.Lease] [.load ⟨ga0,2,none⟩ (.slice Av_c0_2 v_c0_2.length cv_c0_2),.load ⟨ga0,2,none⟩ (.slice Av_c0_2 v_c0_2.length cv_c0_2),.need (Av_c0_2=some (adr Av_c0_2)∧(0:Int)≤y1.1∧y1.1<((v_c0_2.length:Nat):Int)),.load (((adr Av_c0_2).add (y1.1.toNat*5)).add 3) (iv x2.Until),.load ⟨ga0,1,none⟩ (iv a0.Lease)] [0,2,3,4,14,15,16,47,48,63] [(0,pg ga0 0),(2,iv a2),(3,.bool a3),(4,.bool a4),(14,.slice Aa1 a1.length ca1),(15,iv (a1.length:Int)),(16,iv v16),(47,.slice Av_c0_2 v_c0_2.length cv_c0_2),(48,iv y1.1),(63,iv (max2 x2.Until (w64 (a2+a0.Lease))))] (Pk 3 [0,1,2]) (Pk 3 [0,1,2]) (fun w hh=>⟨(hh.box 0 rfl rfl),(hh.box 0 rfl rfl),⟨ha2,(at?_some hx2).1,(at?_some hx2).2.1⟩,(hcc2 _ (hh.chin 1 rfl) 3 _ rfl),(hh.box 0 rfl rfl)⟩)<|Kr [0,2,3,4,14,15,16,47,48,63] [(0,pg ga0 0),(2,iv a2),(3,.bool a3),(4,.bool a4),(14,.slice Aa1 a1.length ca1),(15,iv (a1.length:Int)),(16,iv v16),(47,.slice Av_c0_2 v_c0_2.length cv_c0_2),(48,iv y1.1),(63,iv (max2 x2.Until (w64 (a2+a0.Lease))))] ?_
   obtain ⟨ha3,cs3,hK3,hcc3⟩:=hov_c0_2.get hx2
   obtain ⟨rfl⟩:=kBlob_open hK3
   refine DrH.does (n:=2) (ls':=[true,true,true,true,true,true,true,true,true,true,true,true,true,true,true,true,true,true,true,true,true,false,false]) 20 (by kernel_rfl) rfl (DoesH.pureop (d:=64) (v:=.pointer (some ((adr Av_c0_2).add (y1.1.toNat*5)))) (vs:=[]) (evs:=[.need (Av_c0_2=some (adr Av_c0_2)∧(0:Int)≤y1.1∧y1.1<((v_c0_2.length:Nat):Int))]) (by kernel_rfl) (fun w hh=>⟨ha3,(at?_some hx2).1,(at?_some hx2).2.1⟩)) ?_
   rintro _ _ _ _ ⟨rfl,rfl,rfl⟩
   refine ⟨fun _ w hh=>⟨fun _=>(Pk 3 [0,1,2]) w hh,fun _=>(Pk 3 [0,1,2]) w hh,(fun h=>by cases h)⟩,?_⟩
   refine Dk [21] 1 (nb 23 4194303) [] [] [0,2,3,4,14,15,16,63,65] [(0,pg ga0 0),(2,iv a2),(3,.bool a3),(4,.bool a4),(14,.slice Aa1 a1.length ca1),(15,iv (a1.length:Int)),(16,iv v16),(63,iv (max2 x2.Until (w64 (a2+a0.Lease)))),(65,.pointer (some (((adr Av_c0_2).add (y1.1.toNat*5)).add 3)))] (Pk 3 [0,1,2]) (Pk 3 [0,1,2]) (fun _ _=>trivial) ?_
   obtain ⟨ha4,cs4,hK4,hcc4⟩:=hov_c0_2.get hx2
   obtain ⟨rfl⟩:=kBlob_open hK4
   refine DrH.does (n:=0) (ls':=[true,true,true,true,true,true,true,true,true,true,true,true,true,true,true,true,true,true,true,true,true,true,true]) 22 (by kernel_rfl) rfl (DoesH.storeEl (a:=(((adr Av_c0_2).add (y1.1.toNat*5)).add 3)) (k:=1) (kd:=kBlob) (c0:=[.string x2.Digest,iv x2.Size,iv x2.Used,iv x2.Until,iv x2.Pins]) (x':=(⟨x2.Digest,x2.Size,x2.Used,max2 x2.Until (w64 (a2+a0.Lease)),x2.Pins⟩:Blob)) (o:=3) (ix:=y1.1) (v:=iv (max2 x2.Until (w64 (a2+a0.Lease)))) (by kernel_rfl) rfl hov_c0_2 hx2 (by kernel_rfl) hcc4 rfl (Nat.le_of_ble_eq_true (by kernel_rfl)) kBlob_mk) ?_
   rintro _ _ _ _ ⟨ch1,rfl,rfl,rfl,ho1⟩
   have hn1:v_c0_2.length=(v_c0_2.set y1.1.toNat (⟨x2.Digest,x2.Size,x2.Used,max2 x2.Until (w64 (a2+a0.Lease)),x2.Pins⟩:Blob)).length:=by rw [List.length_set]
   refine ⟨fun _ w hh=>⟨(fun h=>by cases h),(fun h=>absurd h (by decide)),(fun h=>by cases h)⟩,?_⟩
   refine Kr [0,2,3,4,14,15,16] [(0,pg ga0 0),(2,iv a2),(3,.bool a3),(4,.bool a4),(14,.slice Aa1 a1.length ca1),(15,iv (a1.length:Int)),(16,iv v16)] ?_
   refine DrH.done (by kernel_rfl) ?_
   refine Ad 1 [.c [1,0,0,1,1,1],.l [1,0,0],.b 0]<|Kp [0,2,3,4,14,15,16] [(0,pg ga0 0),(2,iv a2),(3,.bool a3),(4,.bool a4),(14,.slice Aa1 a1.length ca1),(15,iv (a1.length:Int)),(16,iv v16)] ?_
   exact (cache_touch_3.j3_c (backl1:=backl1) hbackl1) _ a0 _ _ _ a1 _ _ a2 a3 a4 v16 (v_c0_2.set y1.1.toNat (⟨x2.Digest,x2.Size,x2.Used,max2 x2.Until (w64 (a2+a0.Lease)),x2.Pins⟩:Blob)) _ _ _ _ hoa0_3 hra1 hca1 ho1 hn1 heq
  ·replace heq:=bif_false hb4 heq
   refine Cf t2 hb4<|Ad 2 [.c [1,0,0,1,1,1],.l [1,0,0],.b 0]<|Kp [0,2,3,4,14,15,16] [(0,pg ga0 0),(2,iv a2),(3,.bool a3),(4,.bool a4),(14,.slice Aa1 a1.length ca1),(15,iv (a1.length:Int)),(16,iv v16)] ?_
   exact (cache_touch_3.j3_c (backl1:=backl1) hbackl1) _ a0 _ _ _ a1 _ _ a2 a3 a4 v16 v_c0_2 _ _ _ _ hoa0_3 hra1 hca1 hov_c0_2 rfl heq
 replace heq:=ht2
 refine Rr<|Rk 2 [41,0,2,3,4,12,14,15,16] [(41,.bool y1.2),(0,pg ga0 0),(2,iv a2),(3,.bool a3),(4,.bool a4),(12,iv y1.1),(14,.slice Aa1 a1.length ca1),(15,iv (a1.length:Int)),(16,iv v16)] ?_
 rcases bool_cases (y1.2) with hb3 | hb3
 ·replace heq:=bif_true hb3 heq
  refine RgH.val1 (v':=.bool true) (congrArg Value.bool hb3) ?_
  refine Rk 4 [0,2,3,4,12,14,15,16,43] [(0,pg ga0 0),(2,iv a2),(3,.bool a3),(4,.bool a4),(12,iv y1.1),(14,.slice Aa1 a1.length ca1),(15,iv (a1.length:Int)),(16,iv v16),(43,.bool a4)] ?_
  obtain rfl:=Option.some.inj heq
  refine Kg [0,2,3,4,12,14,15,16,43] [(0,pg ga0 0),(2,iv a2),(3,.bool a3),(4,.bool a4),(12,iv y1.1),(14,.slice Aa1 a1.length ca1),(15,iv (a1.length:Int)),(16,iv v16),(43,.bool a4)]<|Dn ?_
  exact K7
 ·replace heq:=bif_false hb3 heq
  refine RgH.val1 (v':=.bool false) (congrArg Value.bool hb3) ?_
  refine Rk 4 [0,2,3,4,12,14,15,16,43] [(0,pg ga0 0),(2,iv a2),(3,.bool a3),(4,.bool a4),(12,iv y1.1),(14,.slice Aa1 a1.length ca1),(15,iv (a1.length:Int)),(16,iv v16),(43,.bool false)] ?_
  obtain rfl:=Option.some.inj heq
  refine Kg [0,2,3,4,12,14,15,16,43] [(0,pg ga0 0),(2,iv a2),(3,.bool a3),(4,.bool a4),(12,iv y1.1),(14,.slice Aa1 a1.length ca1),(15,iv (a1.length:Int)),(16,iv v16),(43,.bool false)]<|Dn ?_
  exact K7
theorem cache_touch_3.l1_c {w0:World} {H:Hp} {F:List Ch} {r:Cache}:∀ (k:Nat),∀ (ga0:Nat) (a0:Cache) (Aa0_3:Option Addr) (ca0_3:Nat) (cha0_3:Ch) (a1:List ByteArray) (Aa1:Option Addr) (ca1:Nat) (a2:Int) (a3:Bool) (a4:Bool) (v_c0_2:List Blob) (Av_c0_2:Option Addr) (nv_c0_2:Nat) (cv_c0_2:Nat) (chv_c0_2:Ch) (v16:Int) ,SlOwn kEntry 57 H Aa0_3 ca0_3 a0.Entries cha0_3→Rw Kd.string H F Aa1 a1→a1.length≤ca1→SlOwn kBlob 29 H Av_c0_2 cv_c0_2 v_c0_2 chv_c0_2→nv_c0_2=v_c0_2.length→cache_touch_3.l1 k a0 a1 a2 a3 a4 v_c0_2 v16=some r→RunH C26v3 (S26v3 F H ga0 r) H w0 [.c [1,0,0],.l [1,0,0],.b 0] [(0,pg ga0 0),(2,iv a2),(3,.bool a3),(4,.bool a4),(14,.slice Aa1 a1.length ca1),(15,iv (a1.length:Int)),(16,iv v16)] H ((some (ga0,.cells #[iv a0.Room,iv a0.Lease,.slice Av_c0_2 nv_c0_2 cv_c0_2,.slice Aa0_3 a0.Entries.length ca0_3] 25 (0,0)))::chv_c0_2::cha0_3::F):=by
 intro k
 induction k with
 | zero=>intro ga0 a0 Aa0_3 ca0_3 cha0_3 a1 Aa1 ca1 a2 a3 a4 v_c0_2 Av_c0_2 nv_c0_2 cv_c0_2 chv_c0_2 v16 hoa0_3 hra1 hca1 hov_c0_2 hnv_c0_2 heq; exact nomatch (show (none:Option Cache)=some r from heq)
 | succ k ihk =>
  intro ga0 a0 Aa0_3 ca0_3 cha0_3 a1 Aa1 ca1 a2 a3 a4 v_c0_2 Av_c0_2 nv_c0_2 cv_c0_2 chv_c0_2 v16 hoa0_3 hra1 hca1 hov_c0_2 hnv_c0_2 heq
  subst hnv_c0_2
  rw [cache_touch_3.l1] at heq
  refine Ra 1 [1,0,0,0] [.c [1,0,0,1],.l [1,0,0],.b 0]<|Rd 1 [0,2,3,4,14,15,16,17] [(0,pg ga0 0),(2,iv a2),(3,.bool a3),(4,.bool a4),(14,.slice Aa1 a1.length ca1),(15,iv (a1.length:Int)),(16,iv v16),(17,.bool (decide (v16<(a1.length:Int))))]<|Ad 1 [.c [1,0,0,1,0],.c [1,0,0,1,1],.l [1,0,0],.b 0] ?_
  rcases bool_cases (decide (v16<(a1.length:Int))) with hb1 | hb1
  ·replace heq:=bif_true hb1 heq
   refine Ct (decide (v16<(a1.length:Int))) hb1<|Ra 4 [1,0,0,1,1,0,0,0] [.c [1,0,0,1,1,0,0,1],.b 1,.c [1,0,0,1,1,1],.l [1,0,0],.b 0] ?_
   obtain ⟨x1,hx1,heq⟩:=bind_some heq
   obtain ⟨ha1,cs1,hK1,hcc1⟩:=hra1.get hx1
   obtain rfl:cs1=[.string x1]:=hK1
   refine Rw' 3 [0,2,3,4,11,14,15,16] [.string x1] [.need (Aa1=some (adr Aa1)∧(0:Int)≤v16∧v16<((a1.length:Nat):Int)),.load ((adr Aa1).add (v16.toNat*1)) (.string x1)] [(0,pg ga0 0),(2,iv a2),(3,.bool a3),(4,.bool a4),(11,.string x1),(14,.slice Aa1 a1.length ca1),(15,iv (a1.length:Int)),(16,iv v16)] (fun w hh=>⟨⟨ha1,(at?_some hx1).1,(at?_some hx1).2.1⟩,(hcc1 _ _ (hh.drop 3) 0 _ rfl)⟩)<|Ra 1 [1,0,0,1,1,0,0,1,0] [.c [1,0,0,1,1,0,0,1,1],.b 1,.c [1,0,0,1,1,1],.l [1,0,0],.b 0]<|Rv 4 [0,2,3,4,14,15,16,23,24] [iv a0.Room,iv a0.Lease,.slice Av_c0_2 v_c0_2.length cv_c0_2,.slice Aa0_3 a0.Entries.length ca0_3] [.load ⟨ga0,0,none⟩ (iv a0.Room),.load ⟨ga0,1,none⟩ (iv a0.Lease),.load ⟨ga0,2,none⟩ (.slice Av_c0_2 v_c0_2.length cv_c0_2),.load ⟨ga0,3,none⟩ (.slice Aa0_3 a0.Entries.length ca0_3)] [(0,pg ga0 0),(2,iv a2),(3,.bool a3),(4,.bool a4),(14,.slice Aa1 a1.length ca1),(15,iv (a1.length:Int)),(16,iv v16),(23,.agg #[iv a0.Room,iv a0.Lease,.slice Av_c0_2 v_c0_2.length cv_c0_2,.slice Aa0_3 a0.Entries.length ca0_3]),(24,.string x1)] (fun w hh=>⟨(hh.box 0 rfl rfl),(hh.box 0 rfl rfl),(hh.box 0 rfl rfl),(hh.box 0 rfl rfl)⟩) ?_
   obtain ⟨y1,hy1,heq⟩:=bind_some heq
   refine RgH.does (DoesH.call (d:=25) (g:=24) (args:=#[.agg #[iv a0.Room,iv a0.Lease,.slice Av_c0_2 v_c0_2.length cv_c0_2,.slice Aa0_3 a0.Entries.length ca0_3],.string x1]) (by kernel_rfl) (cache_find_c (a0:=(⟨a0.Room,a0.Lease,v_c0_2,a0.Entries⟩:Cache)) (a1:=x1) (hov_c0_2.rw (.tail _ (.head _))) hov_c0_2.cap rfl (hoa0_3.rw (.tail _ (.tail _ (.head _)))) hoa0_3.cap rfl hy1)) ?_
   rintro _ _ _ _ ⟨_,rfl,rfl,rfl,rfl⟩
   refine Rd 10 [0,2,3,4,12,13,14,15,16] [(0,pg ga0 0),(2,iv a2),(3,.bool a3),(4,.bool a4),(12,iv y1.1),(13,.bool y1.2),(14,.slice Aa1 a1.length ca1),(15,iv (a1.length:Int)),(16,iv v16)]<|Ad 2 [.c [1,0,0,1,1,0,0,1,1,0,0],.c [1,0,0,1,1,0,0,1,1,0,1],.c [1,0,0,1,1,0,0,1,1,1],.b 1,.c [1,0,0,1,1,1],.l [1,0,0],.b 0] ?_
   obtain ⟨t1,ht1,heq⟩:=bind_some heq
   have K5:RunH C26v3 (S26v3 F H ga0 r) H w0 [.c [1,0,0,1,1,0,0,1,1,0,1],.c [1,0,0,1,1,0,0,1,1,1],.b 1,.c [1,0,0,1,1,1],.l [1,0,0],.b 0] [(0,pg ga0 0),(2,iv a2),(3,.bool a3),(4,.bool a4),(12,iv y1.1),(13,.bool y1.2),(14,.slice Aa1 a1.length ca1),(15,iv (a1.length:Int)),(16,iv v16),(31,.bool t1)] H ((some (ga0,.cells #[iv a0.Room,iv a0.Lease,.slice Av_c0_2 v_c0_2.length cv_c0_2,.slice Aa0_3 a0.Entries.length ca0_3] 25 (0,0)))::chv_c0_2::cha0_3::F):=by
    rcases bool_cases (t1) with hb5 | hb5
    ·replace heq:=bif_true hb5 heq
     refine Ct t1 hb5<|Rr ?_
     obtain ⟨x3,hx3,heq⟩:=bind_some heq
     obtain ⟨ha5,cs5,hK5,hcc5⟩:=hov_c0_2.get hx3
     obtain ⟨rfl⟩:=kBlob_open hK5
     refine Rv 8 [0,2,3,4,12,13,14,15,16,37,39] [.slice Av_c0_2 v_c0_2.length cv_c0_2] [.load ⟨ga0,2,none⟩ (.slice Av_c0_2 v_c0_2.length cv_c0_2),.need (Av_c0_2=some (adr Av_c0_2)∧(0:Int)≤y1.1∧y1.1<((v_c0_2.length:Nat):Int))] [(0,pg ga0 0),(2,iv a2),(3,.bool a3),(4,.bool a4),(12,iv y1.1),(13,.bool y1.2),(14,.slice Aa1 a1.length ca1),(15,iv (a1.length:Int)),(16,iv v16),(37,iv a2),(39,.pointer (some (((adr Av_c0_2).add (y1.1.toNat*5)).add 2)))] (fun w hh=>⟨(hh.box 0 rfl rfl),⟨ha5,(at?_some hx3).1,(at?_some hx3).2.1⟩⟩) ?_
     obtain ⟨ha6,cs6,hK6,hcc6⟩:=hov_c0_2.get hx3
     obtain ⟨rfl⟩:=kBlob_open hK6
     refine RgH.does (DoesH.storeEl (a:=(((adr Av_c0_2).add (y1.1.toNat*5)).add 2)) (k:=1) (kd:=kBlob) (c0:=[.string x3.Digest,iv x3.Size,iv x3.Used,iv x3.Until,iv x3.Pins]) (x':=(⟨x3.Digest,x3.Size,a2,x3.Until,x3.Pins⟩:Blob)) (o:=2) (ix:=y1.1) (v:=iv a2) (by kernel_rfl) rfl hov_c0_2 hx3 (by kernel_rfl) hcc6 rfl (Nat.le_of_ble_eq_true (by kernel_rfl)) kBlob_mk) ?_
     rintro _ _ _ _ ⟨ch2,rfl,rfl,rfl,ho2⟩
     have hn2:v_c0_2.length=(v_c0_2.set y1.1.toNat (⟨x3.Digest,x3.Size,a2,x3.Until,x3.Pins⟩:Blob)).length:=by rw [List.length_set]
     refine Dn<|Ad 1 [.c [1,0,0,1,1,0,0,1,1,1,0],.c [1,0,0,1,1,0,0,1,1,1,1],.b 1,.c [1,0,0,1,1,1],.l [1,0,0],.b 0]<|Kp [0,2,3,4,12,13,14,15,16] [(0,pg ga0 0),(2,iv a2),(3,.bool a3),(4,.bool a4),(12,iv y1.1),(13,.bool y1.2),(14,.slice Aa1 a1.length ca1),(15,iv (a1.length:Int)),(16,iv v16)] ?_
     exact (cache_touch_3.j2_c (backl1:=(cache_touch_3.l1 k)) ihk) _ a0 _ _ _ a1 _ _ a2 a3 a4 v16 y1 (v_c0_2.set y1.1.toNat (⟨x3.Digest,x3.Size,a2,x3.Until,x3.Pins⟩:Blob)) _ _ _ _ hoa0_3 hra1 hca1 ho2 hn2 heq
    ·replace heq:=bif_false hb5 heq
     refine Cf t1 hb5<|Ad 2 [.c [1,0,0,1,1,0,0,1,1,1,0],.c [1,0,0,1,1,0,0,1,1,1,1],.b 1,.c [1,0,0,1,1,1],.l [1,0,0],.b 0]<|Kp [0,2,3,4,12,13,14,15,16] [(0,pg ga0 0),(2,iv a2),(3,.bool a3),(4,.bool a4),(12,iv y1.1),(13,.bool y1.2),(14,.slice Aa1 a1.length ca1),(15,iv (a1.length:Int)),(16,iv v16)] ?_
     exact (cache_touch_3.j2_c (backl1:=(cache_touch_3.l1 k)) ihk) _ a0 _ _ _ a1 _ _ a2 a3 a4 v16 y1 v_c0_2 _ _ _ _ hoa0_3 hra1 hca1 hov_c0_2 rfl heq
   replace heq:=ht1
   refine Rr<|Rk 2 [29,0,2,3,4,12,13,14,15,16] [(29,.bool y1.2),(0,pg ga0 0),(2,iv a2),(3,.bool a3),(4,.bool a4),(12,iv y1.1),(13,.bool y1.2),(14,.slice Aa1 a1.length ca1),(15,iv (a1.length:Int)),(16,iv v16)] ?_
   rcases bool_cases (y1.2) with hb2 | hb2
   ·replace heq:=bif_true hb2 heq
    refine RgH.val1 (v':=.bool true) (congrArg Value.bool hb2) ?_
    refine Rk 4 [0,2,3,4,12,13,14,15,16,31] [(0,pg ga0 0),(2,iv a2),(3,.bool a3),(4,.bool a4),(12,iv y1.1),(13,.bool y1.2),(14,.slice Aa1 a1.length ca1),(15,iv (a1.length:Int)),(16,iv v16),(31,.bool a3)] ?_
    obtain rfl:=Option.some.inj heq
    refine Kg [0,2,3,4,12,13,14,15,16,31] [(0,pg ga0 0),(2,iv a2),(3,.bool a3),(4,.bool a4),(12,iv y1.1),(13,.bool y1.2),(14,.slice Aa1 a1.length ca1),(15,iv (a1.length:Int)),(16,iv v16),(31,.bool a3)]<|Dn ?_
    exact K5
   ·replace heq:=bif_false hb2 heq
    refine RgH.val1 (v':=.bool false) (congrArg Value.bool hb2) ?_
    refine Rk 4 [0,2,3,4,12,13,14,15,16,31] [(0,pg ga0 0),(2,iv a2),(3,.bool a3),(4,.bool a4),(12,iv y1.1),(13,.bool y1.2),(14,.slice Aa1 a1.length ca1),(15,iv (a1.length:Int)),(16,iv v16),(31,.bool false)] ?_
    obtain rfl:=Option.some.inj heq
    refine Kg [0,2,3,4,12,13,14,15,16,31] [(0,pg ga0 0),(2,iv a2),(3,.bool a3),(4,.bool a4),(12,iv y1.1),(13,.bool y1.2),(14,.slice Aa1 a1.length ca1),(15,iv (a1.length:Int)),(16,iv v16),(31,.bool false)]<|Dn ?_
    exact K5
  ·replace heq:=bif_false hb1 heq
   refine Cf (decide (v16<(a1.length:Int))) hb1<|Ad 1 [] ?_
   obtain rfl:=Option.some.inj heq
   exact RunH.done (by kernel_rfl) Tryd.func26 (v:=.tuple #[]) (by kernel_rfl) ⟨Av_c0_2,cv_c0_2,chv_c0_2,Aa0_3,ca0_3,cha0_3,rfl,rfl,rfl,hov_c0_2,hoa0_3⟩
theorem cache_touch_3_c {w0:World} {H:Hp} {F:List Ch} {ga0:Nat} {a0:Cache} {Aa0_2:Option Addr} {na0_2:Nat} {ca0_2:Nat} {cha0_2:Ch} {Aa0_3:Option Addr} {na0_3:Nat} {ca0_3:Nat} {cha0_3:Ch} {a1:List ByteArray} {Aa1:Option Addr} {na1:Nat} {ca1:Nat} {a2:Int} {a3:Bool} {a4:Bool} {r:Cache} (hoa0_2:SlOwn kBlob 29 H Aa0_2 ca0_2 a0.Blobs cha0_2) (hna0_2:na0_2=a0.Blobs.length) (hoa0_3:SlOwn kEntry 57 H Aa0_3 ca0_3 a0.Entries cha0_3) (hna0_3:na0_3=a0.Entries.length) (hra1:Rw Kd.string H F Aa1 a1) (hca1:na1≤ca1) (hna1:na1=a1.length) (heq:cache_touch_3.f a0 a1 a2 a3 a4=some r):CallsH Tryd.prog 26 #[.pointer (some ⟨ga0,0,none⟩),.slice Aa1 na1 ca1,iv a2,.bool a3,.bool a4] H w0 ((some (ga0,.cells #[iv a0.Room,iv a0.Lease,.slice Aa0_2 na0_2 ca0_2,.slice Aa0_3 na0_3 ca0_3] 25 (0,0)))::cha0_2::cha0_3::F) (S26v3 F H ga0 r):=by
 refine calls_of_runH (F:=C26v3) Tryd.func26 (by kernel_rfl) Tryd.ntmps26 (args:=[.pointer (some ⟨ga0,0,none⟩),.slice Aa1 na1 ca1,iv a2,.bool a3,.bool a4]) (by kernel_rfl) ?_
 subst hna0_2
 subst hna0_3
 subst hna1
 unfold cache_touch_3.f at heq
 refine Ra 1 [0] [.c [1]]<|Rd 3 [0,2,3,4,14,15,16] [(0,pg ga0 0),(2,iv a2),(3,.bool a3),(4,.bool a4),(14,.slice Aa1 a1.length ca1),(15,iv (a1.length:Int)),(16,iv 0)]<|Ad 2 [.c [1,0,0],.l [1,0,0],.b 0]<|Kp [0,2,3,4,14,15,16] [(0,pg ga0 0),(2,iv a2),(3,.bool a3),(4,.bool a4),(14,.slice Aa1 a1.length ca1),(15,iv (a1.length:Int)),(16,iv 0)] ?_
 exact ((cache_touch_3.l1_c) big) _ a0 _ _ _ a1 _ _ a2 a3 a4 a0.Blobs _ _ _ _ 0 hoa0_3 hra1 hca1 hoa0_2 rfl heq
noncomputable def C32v3:Ctx:={ P:=Tryd.prog,f:=32,N:=26,c:=bodyOf Tryd.f32 }
def S32v3 (F:List Ch) (H0:Hp) (ga0:Nat) (r:Cache) (v:Value) (H:Hp) (cs:List Ch):Prop:=∃ (A0_2:Option Addr) (c0_2:Nat) (ch0_2:Ch) (A0_3:Option Addr) (c0_3:Nat) (ch0_3:Ch),H0=H∧v=.tuple #[]∧some (ga0,.cells #[iv r.Room,iv r.Lease,.slice A0_2 r.Blobs.length c0_2,.slice A0_3 r.Entries.length c0_3] 25 (0,0))::ch0_2::ch0_3::F=cs∧SlOwn kBlob 29 H A0_2 c0_2 r.Blobs ch0_2∧SlOwn kEntry 57 H A0_3 c0_3 r.Entries ch0_3
theorem cache_drop_3.e1_c {w0:World} {H:Hp} {F:List Ch} {r:Cache}:∀ (ga0:Nat) (a0:Cache) (Aa0_2:Option Addr) (ca0_2:Nat) (cha0_2:Ch) (Aa0_3:Option Addr) (ca0_3:Nat) (cha0_3:Ch) (g2:Nat) (v_has4_0:List (ByteArray × Bool)) (gv_has4_0:Nat) (chv_has4_0:Ch) ,SlOwn kBlob 29 H Aa0_2 ca0_2 a0.Blobs cha0_2→SlOwn kEntry 57 H Aa0_3 ca0_3 a0.Entries cha0_3→MpOwn Value.string Kd.bool false H gv_has4_0 v_has4_0 chv_has4_0→cache_drop_3.e1 a0 v_has4_0=some r→RunH C32v3 (S32v3 F H ga0 r) H w0 [.c [1,1]] [(0,pg ga0 0),(4,pg g2 0)] H ((some (g2,.cells #[.map (some gv_has4_0)] 44 (0,0)))::chv_has4_0::(some (ga0,.cells #[iv a0.Room,iv a0.Lease,.slice Aa0_2 a0.Blobs.length ca0_2,.slice Aa0_3 a0.Entries.length ca0_3] 25 (0,0)))::cha0_2::cha0_3::F):=by
 intro ga0 a0 Aa0_2 ca0_2 cha0_2 Aa0_3 ca0_3 cha0_3 g2 v_has4_0 gv_has4_0 chv_has4_0 hoa0_2 hoa0_3 hov_has4_0 heq
 unfold cache_drop_3.e1 at heq
 refine Rr<|Rv 6 [0,17,21,22] [.slice Aa0_2 a0.Blobs.length ca0_2] [.load ⟨ga0,2,none⟩ (.slice Aa0_2 a0.Blobs.length ca0_2)] [(0,pg ga0 0),(17,pg ga0 0),(21,.slice Aa0_2 a0.Blobs.length ca0_2),(22,.func (.func 50) #[] #[.pointer (some ⟨g2,0,none⟩)])] (fun w hh=>(hh.box 2 rfl rfl)) ?_
 refine RgH.pick 5 [3,0,1,2,4] (cs':=cha0_2::(some (g2,.cells #[.map (some gv_has4_0)] 44 (0,0)))::chv_has4_0::(some (ga0,.cells #[iv a0.Room,iv a0.Lease,.slice Aa0_2 a0.Blobs.length ca0_2,.slice Aa0_3 a0.Entries.length ca0_3] 25 (0,0)))::cha0_3::F) (by kernel_rfl) rfl ?_
 obtain ⟨y1,hy1,heq⟩:=bind_some heq
 refine RgH.does (DoesH.call (d:=23) (g:=49) (args:=#[.slice Aa0_2 a0.Blobs.length ca0_2,.func (.func 50) #[] #[.pointer (some ⟨g2,0,none⟩)]]) (by kernel_rfl) (slices_DeleteFunc_Blob_2_c (a0:=a0.Blobs) (a1q0:=v_has4_0) hoa0_2 rfl (hov_has4_0.mw (.tail _ (.head _))) (.inr (.head _)) hy1)) ?_
 rintro _ _ _ _ ⟨_,rfl,A1,c1,ch1,rfl,rfl,rfl,ho2⟩
 refine Rk 9 [0,23,25] [(0,pg ga0 0),(23,.slice A1 y1.length c1),(25,pg ga0 2)] ?_
 refine RgH.does (DoesH.store (k:=3) (g:=ga0) (off:=2) (v:=.slice A1 y1.length c1) (cells':=#[iv a0.Room,iv a0.Lease,.slice A1 y1.length c1,.slice Aa0_3 a0.Entries.length ca0_3]) (by kernel_rfl) rfl (by kernel_rfl) (by kernel_rfl)) ?_
 rintro _ _ _ _ ⟨rfl,rfl,rfl⟩
 refine Dn ?_
 obtain rfl:=Option.some.inj heq
 refine RunH.pick 5 [3,0,4] (cs':=(some (ga0,.cells #[iv a0.Room,iv a0.Lease,.slice A1 y1.length c1,.slice Aa0_3 a0.Entries.length ca0_3] 25 (0,0)))::ch1::cha0_3::F) (by kernel_rfl) rfl ?_
 exact RunH.done (by kernel_rfl) Tryd.func32 (v:=.tuple #[]) (by kernel_rfl) ⟨A1,c1,ch1,Aa0_3,ca0_3,cha0_3,rfl,rfl,rfl,ho2,hoa0_3⟩
theorem cache_drop_3.l2_c {w0:World} {H:Hp} {F:List Ch} {r:Cache} (e1:Cache→(List (ByteArray × Bool))→Option Cache)
  (he1:∀ (ga0:Nat) (a0:Cache) (Aa0_2:Option Addr) (ca0_2:Nat) (cha0_2:Ch) (Aa0_3:Option Addr) (ca0_3:Nat) (cha0_3:Ch) (g2:Nat) (v_has4_0:List (ByteArray × Bool)) (gv_has4_0:Nat) (chv_has4_0:Ch) ,SlOwn kBlob 29 H Aa0_2 ca0_2 a0.Blobs cha0_2→SlOwn kEntry 57 H Aa0_3 ca0_3 a0.Entries cha0_3→MpOwn Value.string Kd.bool false H gv_has4_0 v_has4_0 chv_has4_0→e1 a0 v_has4_0=some r→RunH C32v3 (S32v3 F H ga0 r) H w0 [.c [1,1]] [(0,pg ga0 0),(4,pg g2 0)] H ((some (g2,.cells #[.map (some gv_has4_0)] 44 (0,0)))::chv_has4_0::(some (ga0,.cells #[iv a0.Room,iv a0.Lease,.slice Aa0_2 a0.Blobs.length ca0_2,.slice Aa0_3 a0.Entries.length ca0_3] 25 (0,0)))::cha0_2::cha0_3::F)):∀ (k:Nat),∀ (ga0:Nat) (a0:Cache) (Aa0_2:Option Addr) (ca0_2:Nat) (cha0_2:Ch) (Aa0_3:Option Addr) (ca0_3:Nat) (cha0_3:Ch) (a1:List ByteArray) (Aa1:Option Addr) (ca1:Nat) (g2:Nat) (v_has4_0:List (ByteArray × Bool)) (gv_has4_0:Nat) (chv_has4_0:Ch) (v10:Int) ,SlOwn kBlob 29 H Aa0_2 ca0_2 a0.Blobs cha0_2→SlOwn kEntry 57 H Aa0_3 ca0_3 a0.Entries cha0_3→Rw Kd.string H F Aa1 a1→a1.length≤ca1→MpOwn Value.string Kd.bool false H gv_has4_0 v_has4_0 chv_has4_0→cache_drop_3.l2 e1 k a0 a1 v_has4_0 v10=some r→RunH C32v3 (S32v3 F H ga0 r) H w0 [.c [1,0,1,0,0],.l [1,0,1,0,0],.b 0,.c [1,1]] [(0,pg ga0 0),(4,pg g2 0),(8,.slice Aa1 a1.length ca1),(9,iv (a1.length:Int)),(10,iv v10)] H ((some (g2,.cells #[.map (some gv_has4_0)] 44 (0,0)))::chv_has4_0::(some (ga0,.cells #[iv a0.Room,iv a0.Lease,.slice Aa0_2 a0.Blobs.length ca0_2,.slice Aa0_3 a0.Entries.length ca0_3] 25 (0,0)))::cha0_2::cha0_3::F):=by
 intro k
 induction k with
 | zero=>intro ga0 a0 Aa0_2 ca0_2 cha0_2 Aa0_3 ca0_3 cha0_3 a1 Aa1 ca1 g2 v_has4_0 gv_has4_0 chv_has4_0 v10 hoa0_2 hoa0_3 hra1 hca1 hov_has4_0 heq; exact nomatch (show (none:Option Cache)=some r from heq)
 | succ k ihk =>
  intro ga0 a0 Aa0_2 ca0_2 cha0_2 Aa0_3 ca0_3 cha0_3 a1 Aa1 ca1 g2 v_has4_0 gv_has4_0 chv_has4_0 v10 hoa0_2 hoa0_3 hra1 hca1 hov_has4_0 heq
  rw [cache_drop_3.l2] at heq
  refine Ra 1 [1,0,1,0,0,0] [.c [1,0,1,0,0,1],.l [1,0,1,0,0],.b 0,.c [1,1]]<|Rd 1 [0,4,8,9,10,11] [(0,pg ga0 0),(4,pg g2 0),(8,.slice Aa1 a1.length ca1),(9,iv (a1.length:Int)),(10,iv v10),(11,.bool (decide (v10<(a1.length:Int))))]<|Ad 1 [.c [1,0,1,0,0,1,0],.c [1,0,1,0,0,1,1],.l [1,0,1,0,0],.b 0,.c [1,1]] ?_
  rcases bool_cases (decide (v10<(a1.length:Int))) with hb1 | hb1
  ·replace heq:=bif_true hb1 heq
   refine Ct (decide (v10<(a1.length:Int))) hb1<|Ra 4 [1,0,1,0,0,1,1,0,0,0] [.c [1,0,1,0,0,1,1,0,0,1],.b 1,.c [1,0,1,0,0,1,1,1],.l [1,0,1,0,0],.b 0,.c [1,1]] ?_
   obtain ⟨x1,hx1,heq⟩:=bind_some heq
   obtain ⟨ha1,cs1,hK1,hcc1⟩:=hra1.get hx1
   obtain rfl:cs1=[.string x1]:=hK1
   refine Rw' 3 [0,4,6,8,9,10] [.string x1] [.need (Aa1=some (adr Aa1)∧(0:Int)≤v10∧v10<((a1.length:Nat):Int)),.load ((adr Aa1).add (v10.toNat*1)) (.string x1)] [(0,pg ga0 0),(4,pg g2 0),(6,.string x1),(8,.slice Aa1 a1.length ca1),(9,iv (a1.length:Int)),(10,iv v10)] (fun w hh=>⟨⟨ha1,(at?_some hx1).1,(at?_some hx1).2.1⟩,(hcc1 _ _ (hh.drop 5) 0 _ rfl)⟩)<|Rr<|Rv 2 [0,4,8,9,10,14,15] [.map (some gv_has4_0)] [.load ⟨g2,0,none⟩ (.map (some gv_has4_0))] [(0,pg ga0 0),(4,pg g2 0),(8,.slice Aa1 a1.length ca1),(9,iv (a1.length:Int)),(10,iv v10),(14,.map (some gv_has4_0)),(15,.string x1)] (fun w hh=>(hh.box 0 rfl rfl)) ?_
   refine RgH.does (DoesH.mapUpdate (kk:=1) (cv:=[.bool true]) (k:=x1) (v:=true) (by kernel_rfl) (KyAt.string Tryd.underlying9) rfl rfl rfl hov_has4_0) ?_
   rintro _ _ _ _ ⟨ch2,rfl,rfl,rfl,ho3⟩
   refine Dn<|Ra 1 [1,0,1,0,0,1,1,1] [.l [1,0,1,0,0],.b 0,.c [1,1]]<|Rd 2 [0,4,8,9,10] [(0,pg ga0 0),(4,pg g2 0),(8,.slice Aa1 a1.length ca1),(9,iv (a1.length:Int)),(10,iv (w64 (v10+1)))]<|Ad 1 [.c [1,0,1,0,0],.l [1,0,1,0,0],.b 0,.c [1,1]]<|Kp [0,4,8,9,10] [(0,pg ga0 0),(4,pg g2 0),(8,.slice Aa1 a1.length ca1),(9,iv (a1.length:Int)),(10,iv (w64 (v10+1)))] ?_
   exact ihk _ a0 _ _ _ _ _ _ a1 _ _ _ (mput v_has4_0 x1 true) _ _ (w64 (v10+1)) hoa0_2 hoa0_3 hra1 hca1 ho3 heq
  ·replace heq:=bif_false hb1 heq
   refine Cf (decide (v10<(a1.length:Int))) hb1<|Ad 1 [.c [1,1]]<|Kp [0,4] [(0,pg ga0 0),(4,pg g2 0)] ?_
   exact he1 _ a0 _ _ _ _ _ _ _ v_has4_0 _ _ hoa0_2 hoa0_3 hov_has4_0 heq
theorem cache_drop_3_c {w0:World} {H:Hp} {F:List Ch} {ga0:Nat} {a0:Cache} {Aa0_2:Option Addr} {na0_2:Nat} {ca0_2:Nat} {cha0_2:Ch} {Aa0_3:Option Addr} {na0_3:Nat} {ca0_3:Nat} {cha0_3:Ch} {a1:List ByteArray} {Aa1:Option Addr} {na1:Nat} {ca1:Nat} {r:Cache} (hoa0_2:SlOwn kBlob 29 H Aa0_2 ca0_2 a0.Blobs cha0_2) (hna0_2:na0_2=a0.Blobs.length) (hoa0_3:SlOwn kEntry 57 H Aa0_3 ca0_3 a0.Entries cha0_3) (hna0_3:na0_3=a0.Entries.length) (hra1:Rw Kd.string H F Aa1 a1) (hca1:na1≤ca1) (hna1:na1=a1.length) (heq:cache_drop_3.f a0 a1=some r):CallsH Tryd.prog 32 #[.pointer (some ⟨ga0,0,none⟩),.slice Aa1 na1 ca1] H w0 ((some (ga0,.cells #[iv a0.Room,iv a0.Lease,.slice Aa0_2 na0_2 ca0_2,.slice Aa0_3 na0_3 ca0_3] 25 (0,0)))::cha0_2::cha0_3::F) (S32v3 F H ga0 r):=by
 refine calls_of_runH (F:=C32v3) Tryd.func32 (by kernel_rfl) Tryd.ntmps32 (args:=[.pointer (some ⟨ga0,0,none⟩),.slice Aa1 na1 ca1]) (by kernel_rfl) ?_
 subst hna0_2
 subst hna0_3
 subst hna1
 unfold cache_drop_3.f at heq
 refine Ra 1 [0] [.c [1]] ?_
 refine RgH.does (DoesH.new (d:=7) (v:=fun g=>.map (some g)) (o:=fun g=>.map #[] 0) (fun g=>by kernel_rfl)) ?_
 rintro _ _ _ _ ⟨g1,rfl,rfl,rfl⟩
 have ho1:MpOwn Value.string Kd.bool false H g1 ([]:List (ByteArray × Bool)) (some (g1,.map #[] 0)):=MpOwn.made
 refine RgH.does (DoesH.new (d:=4) (v:=fun g=>.pointer (some ⟨g,0,none⟩)) (o:=fun g=>.cells #[.map none] 44 (0,0)) (fun g=>by kernel_rfl)) ?_
 rintro _ _ _ _ ⟨g2,rfl,rfl,rfl⟩
 refine RgH.does (DoesH.store (k:=0) (g:=g2) (off:=0) (v:=.map (some g1)) (cells':=#[.map (some g1)]) (by kernel_rfl) rfl (by kernel_rfl) (by kernel_rfl)) ?_
 rintro _ _ _ _ ⟨rfl,rfl,rfl⟩
 refine Dn<|Ra 2 [1,0,0] [.c [1,0,1],.c [1,1]]<|Rd 3 [0,4,8,9,10] [(0,pg ga0 0),(4,pg g2 0),(8,.slice Aa1 a1.length ca1),(9,iv (a1.length:Int)),(10,iv 0)]<|Ad 2 [.c [1,0,1,0,0],.l [1,0,1,0,0],.b 0,.c [1,1]]<|Kp [0,4,8,9,10] [(0,pg ga0 0),(4,pg g2 0),(8,.slice Aa1 a1.length ca1),(9,iv (a1.length:Int)),(10,iv 0)] ?_
 exact ((cache_drop_3.l2_c (e1:=cache_drop_3.e1) (cache_drop_3.e1_c)) big) _ a0 _ _ _ _ _ _ a1 _ _ _ ([]:List (ByteArray × Bool)) _ _ 0 hoa0_2 hoa0_3 hra1 hca1 ho1 heq
noncomputable def C44v2:Ctx:={ P:=Tryd.prog,f:=44,N:=50,c:=bodyOf Tryd.f44 }
def S44v2 (F:List Ch) (H0:Hp) (ga0:Nat) (r:(List ByteArray) × Bool × Cache) (v:Value) (H:Hp) (cs:List Ch):Prop:=∃ (A0:Option Addr) (c0:Nat) (ch0:Ch) (A2_2:Option Addr) (c2_2:Nat) (ch2_2:Ch) (A2_3:Option Addr) (c2_3:Nat) (ch2_3:Ch),H0=H∧v=.tuple #[.slice A0 r.1.length c0,.bool r.2.1]∧ch0::some (ga0,.cells #[iv r.2.2.Room,iv r.2.2.Lease,.slice A2_2 r.2.2.Blobs.length c2_2,.slice A2_3 r.2.2.Entries.length c2_3] 25 (0,0))::ch2_2::ch2_3::F=cs∧SlOwn Kd.string 9 H A0 c0 r.1 ch0∧SlOwn kBlob 29 H A2_2 c2_2 r.2.2.Blobs ch2_2∧SlOwn kEntry 57 H A2_3 c2_3 r.2.2.Entries ch2_3
theorem cache_clear_2.e1_c {w0:World} {H:Hp} {F:List Ch} {r:(List ByteArray) × Bool × Cache}:∀ (ga0:Nat) (a0:Cache) (Aa0_2:Option Addr) (ca0_2:Nat) (cha0_2:Ch) (Aa0_3:Option Addr) (ca0_3:Nat) (cha0_3:Ch) (v_gone10:List ByteArray) (Av_gone10:Option Addr) (nv_gone10:Nat) (cv_gone10:Nat) (chv_gone10:Ch) ,SlOwn kBlob 29 H Aa0_2 ca0_2 a0.Blobs cha0_2→SlOwn kEntry 57 H Aa0_3 ca0_3 a0.Entries cha0_3→SlOwn Kd.string 9 H Av_gone10 cv_gone10 v_gone10 chv_gone10→nv_gone10=v_gone10.length→cache_clear_2.e1 a0 v_gone10=some r→RunH C44v2 (S44v2 F H ga0 r) H w0 [.c [1,1,1,1,1,1,0],.c [1,1,1,1,1,1,1]] [(0,pg ga0 0),(10,.slice Av_gone10 nv_gone10 cv_gone10)] H (chv_gone10::(some (ga0,.cells #[iv a0.Room,iv a0.Lease,.slice Aa0_2 a0.Blobs.length ca0_2,.slice Aa0_3 a0.Entries.length ca0_3] 25 (0,0)))::cha0_2::cha0_3::F):=by
 intro ga0 a0 Aa0_2 ca0_2 cha0_2 Aa0_3 ca0_3 cha0_3 v_gone10 Av_gone10 nv_gone10 cv_gone10 chv_gone10 hoa0_2 hoa0_3 hov_gone10 hnv_gone10 heq
 subst hnv_gone10
 unfold cache_clear_2.e1 at heq
 refine Rr<|Rk 2 [0,10,46,47] [(0,pg ga0 0),(10,.slice Av_gone10 v_gone10.length cv_gone10),(46,pg ga0 0),(47,.slice Av_gone10 v_gone10.length cv_gone10)] ?_
 refine RgH.pick 4 [1,2,3,0] (cs':=(some (ga0,.cells #[iv a0.Room,iv a0.Lease,.slice Aa0_2 a0.Blobs.length ca0_2,.slice Aa0_3 a0.Entries.length ca0_3] 25 (0,0)))::cha0_2::cha0_3::chv_gone10::F) (by kernel_rfl) rfl ?_
 obtain ⟨y4,hy4,heq⟩:=bind_some heq
 refine RgH.does (DoesH.call (d:=48) (g:=32) (args:=#[.pointer (some ⟨ga0,0,none⟩),.slice Av_gone10 v_gone10.length cv_gone10]) (by kernel_rfl) (cache_drop_3_c (a0:=(⟨a0.Room,a0.Lease,a0.Blobs,a0.Entries⟩:Cache)) (a1:=v_gone10) hoa0_2 rfl hoa0_3 rfl (hov_gone10.rw (.head _)) hov_gone10.cap rfl hy4)) ?_
 rintro _ _ _ _ ⟨_,rfl,A2,c2,ch2,A3,c3,ch3,rfl,rfl,rfl,ho3,ho4⟩
 refine Dn<|Ra 1 [1,1,1,1,1,1,1,0] [.c [1,1,1,1,1,1,1,1]]<|Rd 3 [0,6,7] [(0,pg ga0 0),(6,.slice Av_gone10 v_gone10.length cv_gone10),(7,.bool true)] ?_
 obtain rfl:=Option.some.inj heq
 refine RunH.pick 4 [3,0,1,2] (cs':=chv_gone10::(some (ga0,.cells #[iv y4.Room,iv y4.Lease,.slice A2 y4.Blobs.length c2,.slice A3 y4.Entries.length c3] 25 (0,0)))::ch2::ch3::F) (by kernel_rfl) rfl ?_
 exact RunH.done (by kernel_rfl) Tryd.func44 (v:=.tuple #[.slice Av_gone10 v_gone10.length cv_gone10,.bool true]) (by kernel_rfl) ⟨Av_gone10,cv_gone10,chv_gone10,A2,c2,ch2,A3,c3,ch3,rfl,rfl,rfl,hov_gone10,ho3,ho4⟩
theorem cache_clear_2.l2_c {w0:World} {H:Hp} {F:List Ch} {r:(List ByteArray) × Bool × Cache} (e1:Cache→(List ByteArray)→Option ((List ByteArray) × Bool × Cache))
  (he1:∀ (ga0:Nat) (a0:Cache) (Aa0_2:Option Addr) (ca0_2:Nat) (cha0_2:Ch) (Aa0_3:Option Addr) (ca0_3:Nat) (cha0_3:Ch) (v_gone10:List ByteArray) (Av_gone10:Option Addr) (nv_gone10:Nat) (cv_gone10:Nat) (chv_gone10:Ch) ,SlOwn kBlob 29 H Aa0_2 ca0_2 a0.Blobs cha0_2→SlOwn kEntry 57 H Aa0_3 ca0_3 a0.Entries cha0_3→SlOwn Kd.string 9 H Av_gone10 cv_gone10 v_gone10 chv_gone10→nv_gone10=v_gone10.length→e1 a0 v_gone10=some r→RunH C44v2 (S44v2 F H ga0 r) H w0 [.c [1,1,1,1,1,1,0],.c [1,1,1,1,1,1,1]] [(0,pg ga0 0),(10,.slice Av_gone10 nv_gone10 cv_gone10)] H (chv_gone10::(some (ga0,.cells #[iv a0.Room,iv a0.Lease,.slice Aa0_2 a0.Blobs.length ca0_2,.slice Aa0_3 a0.Entries.length ca0_3] 25 (0,0)))::cha0_2::cha0_3::F)):∀ (k:Nat),∀ (ga0:Nat) (a0:Cache) (Aa0_2:Option Addr) (ca0_2:Nat) (cha0_2:Ch) (Aa0_3:Option Addr) (ca0_3:Nat) (cha0_3:Ch) (y1:(List Blob)) (A1:Option Addr) (c1:Nat) (ch1:Ch) (v_over9:Int) (v_gone10:List ByteArray) (Av_gone10:Option Addr) (nv_gone10:Nat) (cv_gone10:Nat) (chv_gone10:Ch) (v30:Int) ,SlOwn kBlob 29 H Aa0_2 ca0_2 a0.Blobs cha0_2→SlOwn kEntry 57 H Aa0_3 ca0_3 a0.Entries cha0_3→SlOwn kBlob 29 H A1 c1 y1 ch1→SlOwn Kd.string 9 H Av_gone10 cv_gone10 v_gone10 chv_gone10→nv_gone10=v_gone10.length→cache_clear_2.l2 e1 k a0 y1 v_over9 v_gone10 v30=some r→RunH C44v2 (S44v2 F H ga0 r) H w0 [.c [1,1,1,1,1,0,1,0,0],.l [1,1,1,1,1,0,1,0,0],.b 0,.c [1,1,1,1,1,1]] [(0,pg ga0 0),(9,iv v_over9),(10,.slice Av_gone10 nv_gone10 cv_gone10),(28,.slice A1 y1.length c1),(29,iv (y1.length:Int)),(30,iv v30)] H (chv_gone10::ch1::(some (ga0,.cells #[iv a0.Room,iv a0.Lease,.slice Aa0_2 a0.Blobs.length ca0_2,.slice Aa0_3 a0.Entries.length ca0_3] 25 (0,0)))::cha0_2::cha0_3::F):=by
 intro k
 induction k with
 | zero=>intro ga0 a0 Aa0_2 ca0_2 cha0_2 Aa0_3 ca0_3 cha0_3 y1 A1 c1 ch1 v_over9 v_gone10 Av_gone10 nv_gone10 cv_gone10 chv_gone10 v30 hoa0_2 hoa0_3 ho1 hov_gone10 hnv_gone10 heq; exact nomatch (show (none:Option ((List ByteArray) × Bool × Cache))=some r from heq)
 | succ k ihk =>
  intro ga0 a0 Aa0_2 ca0_2 cha0_2 Aa0_3 ca0_3 cha0_3 y1 A1 c1 ch1 v_over9 v_gone10 Av_gone10 nv_gone10 cv_gone10 chv_gone10 v30 hoa0_2 hoa0_3 ho1 hov_gone10 hnv_gone10 heq
  subst hnv_gone10
  rw [cache_clear_2.l2] at heq
  refine Ra 1 [1,1,1,1,1,0,1,0,0,0] [.c [1,1,1,1,1,0,1,0,0,1],.l [1,1,1,1,1,0,1,0,0],.b 0,.c [1,1,1,1,1,1]]<|Rd 1 [0,9,10,28,29,30,31] [(0,pg ga0 0),(9,iv v_over9),(10,.slice Av_gone10 v_gone10.length cv_gone10),(28,.slice A1 y1.length c1),(29,iv (y1.length:Int)),(30,iv v30),(31,.bool (decide (v30<(y1.length:Int))))]<|Ad 1 [.c [1,1,1,1,1,0,1,0,0,1,0],.c [1,1,1,1,1,0,1,0,0,1,1],.l [1,1,1,1,1,0,1,0,0],.b 0,.c [1,1,1,1,1,1]] ?_
  rcases bool_cases (decide (v30<(y1.length:Int))) with hb2 | hb2
  ·replace heq:=bif_true hb2 heq
   refine Ct (decide (v30<(y1.length:Int))) hb2<|Ra 4 [1,1,1,1,1,0,1,0,0,1,1,0,0,0] [.c [1,1,1,1,1,0,1,0,0,1,1,0,0,1],.b 1,.c [1,1,1,1,1,0,1,0,0,1,1,1],.l [1,1,1,1,1,0,1,0,0],.b 0,.c [1,1,1,1,1,1]] ?_
   obtain ⟨x1,hx1,heq⟩:=bind_some heq
   obtain ⟨ha1,cs1,hK1,hcc1⟩:=ho1.get hx1
   obtain ⟨rfl⟩:=kBlob_open hK1
   refine Rv 2 [0,9,10,28,29,30,33] [.string x1.Digest,iv x1.Size,iv x1.Used,iv x1.Until,iv x1.Pins] [.need (A1=some (adr A1)∧(0:Int)≤v30∧v30<((y1.length:Nat):Int)),.load (((adr A1).add (v30.toNat*5)).add 0) (.string x1.Digest),.load (((adr A1).add (v30.toNat*5)).add 1) (iv x1.Size),.load (((adr A1).add (v30.toNat*5)).add 2) (iv x1.Used),.load (((adr A1).add (v30.toNat*5)).add 3) (iv x1.Until),.load (((adr A1).add (v30.toNat*5)).add 4) (iv x1.Pins)] [(0,pg ga0 0),(9,iv v_over9),(10,.slice Av_gone10 v_gone10.length cv_gone10),(28,.slice A1 y1.length c1),(29,iv (y1.length:Int)),(30,iv v30),(33,.agg #[.string x1.Digest,iv x1.Size,iv x1.Used,iv x1.Until,iv x1.Pins])] (fun w hh=>⟨⟨ha1,(at?_some hx1).1,(at?_some hx1).2.1⟩,(hcc1 _ (hh.chin 1 rfl) 0 _ rfl),(hcc1 _ (hh.chin 1 rfl) 1 _ rfl),(hcc1 _ (hh.chin 1 rfl) 2 _ rfl),(hcc1 _ (hh.chin 1 rfl) 3 _ rfl),(hcc1 _ (hh.chin 1 rfl) 4 _ rfl)⟩) ?_
   refine RgH.does (DoesH.new (d:=12) (v:=fun g=>.pointer (some ⟨g,0,none⟩)) (o:=fun g=>.cells #[.string ByteArray.empty,iv 0,iv 0,iv 0,iv 0] 29 (0,0)) (fun g=>by kernel_rfl)) ?_
   rintro _ _ _ _ ⟨g1,rfl,rfl,rfl⟩
   refine RgH.does (DoesH.store (k:=0) (g:=g1) (off:=0) (v:=.agg #[.string x1.Digest,iv x1.Size,iv x1.Used,iv x1.Until,iv x1.Pins]) (cells':=#[.string x1.Digest,iv x1.Size,iv x1.Used,iv x1.Until,iv x1.Pins]) (by kernel_rfl) rfl (by kernel_rfl) (by kernel_rfl)) ?_
   rintro _ _ _ _ ⟨rfl,rfl,rfl⟩
   refine Dn<|Ra 2 [1,1,1,1,1,0,1,0,0,1,1,0,0,1,0,0] [.c [1,1,1,1,1,0,1,0,0,1,1,0,0,1,0,1],.c [1,1,1,1,1,0,1,0,0,1,1,0,0,1,1],.b 1,.c [1,1,1,1,1,0,1,0,0,1,1,1],.l [1,1,1,1,1,0,1,0,0],.b 0,.c [1,1,1,1,1,1]]<|Rd 2 [0,9,10,12,28,29,30,35] [(0,pg ga0 0),(9,iv v_over9),(10,.slice Av_gone10 v_gone10.length cv_gone10),(12,pg g1 0),(28,.slice A1 y1.length c1),(29,iv (y1.length:Int)),(30,iv v30),(35,.bool (decide (v_over9≤0)))] ?_
   rcases bool_cases (decide (v_over9≤0)) with hb3 | hb3
   ·replace heq:=bif_true hb3 heq
    refine Ct (decide (v_over9≤0)) hb3<|Ad 2 [.c [1,1,1,1,1,1,0],.c [1,1,1,1,1,1,1]]<|Kp [0,10] [(0,pg ga0 0),(10,.slice Av_gone10 v_gone10.length cv_gone10)] ?_
    refine RunH.pick 6 [1,3,4,5] (cs':=chv_gone10::(some (ga0,.cells #[iv a0.Room,iv a0.Lease,.slice Aa0_2 a0.Blobs.length ca0_2,.slice Aa0_3 a0.Entries.length ca0_3] 25 (0,0)))::cha0_2::cha0_3::F) (by kernel_rfl) rfl ?_
    exact he1 _ a0 _ _ _ _ _ _ v_gone10 _ _ _ _ hoa0_2 hoa0_3 hov_gone10 rfl heq
   ·replace heq:=bif_false hb3 heq
    refine Cf (decide (v_over9≤0)) hb3<|Ra 2 [1,1,1,1,1,0,1,0,0,1,1,0,0,1,1,0] [.c [1,1,1,1,1,0,1,0,0,1,1,0,0,1,1,1],.b 1,.c [1,1,1,1,1,0,1,0,0,1,1,1],.l [1,1,1,1,1,0,1,0,0],.b 0,.c [1,1,1,1,1,1]]<|Rw' 5 [0,9,10,12,28,29,30] [iv x1.Size] [.load ⟨g1,1,none⟩ (iv x1.Size)] [(0,pg ga0 0),(9,iv (w64 (v_over9 - x1.Size))),(10,.slice Av_gone10 v_gone10.length cv_gone10),(12,pg g1 0),(28,.slice A1 y1.length c1),(29,iv (y1.length:Int)),(30,iv v30)] (fun w hh=>(hh.box 0 rfl rfl))<|Rr<|Rv 3 [0,9,28,29,30,40,42] [.string x1.Digest] [.load ⟨g1,0,none⟩ (.string x1.Digest)] [(0,pg ga0 0),(9,iv (w64 (v_over9 - x1.Size))),(28,.slice A1 y1.length c1),(29,iv (y1.length:Int)),(30,iv v30),(40,.slice Av_gone10 v_gone10.length cv_gone10),(42,.string x1.Digest)] (fun w hh=>(hh.box 0 rfl rfl)) ?_
    refine RgH.does (DoesH.new (d:=43) (v:=fun g=>.slice (some ⟨g,0,none⟩) 1 1) (o:=fun g=>.cells #[.string x1.Digest] 9 (0,0)) (fun g=>by kernel_rfl)) ?_
    rintro _ _ _ _ ⟨g2,rfl,rfl,rfl⟩
    have ho5:SlOwn Kd.string 9 H (some ⟨g2,0,none⟩) 1 ([x1.Digest]:List ByteArray) (some (g2,.cells #[.string x1.Digest] 9 (0,0))):=SlOwn.lit (xs:=([x1.Digest]:List ByteArray)) (by kernel_rfl) (Nat.le_of_ble_eq_true (by kernel_rfl)) (Kd.Rep.scalars rfl)
    obtain ⟨hn1,heq⟩:=guard?_some heq
    refine RgH.does (DoesH.append (d:=44) (k:=2) (t:=27) (e:=9) (bytes:=16) (kd:=Kd.string) (n:=v_gone10.length) (m:=1) (xs:=v_gone10) (ys:=([x1.Digest]:List ByteArray)) (A:=Av_gone10) (B:=(some ⟨g2,0,none⟩)) (c:=cv_gone10) (cB:=1) (by kernel_rfl) rfl rfl (by kernel_rfl) rfl hov_gone10 (fun w hh=>ho5.rdb (hh.chin 0 rfl)) (room_le hn1) (by have:=room_le hn1; omega)) ?_
    rintro _ _ _ _ ⟨A4,c4,ch4,rfl,rfl,rfl,ho6⟩
    refine Rd 6 [0,9,10,28,29,30] [(0,pg ga0 0),(9,iv (w64 (v_over9 - x1.Size))),(10,.slice A4 ((v_gone10++([x1.Digest]:List ByteArray)).length) c4),(28,.slice A1 y1.length c1),(29,iv (y1.length:Int)),(30,iv v30)]<|Ra 1 [1,1,1,1,1,0,1,0,0,1,1,1] [.l [1,1,1,1,1,0,1,0,0],.b 0,.c [1,1,1,1,1,1]]<|Rd 2 [0,9,10,28,29,30] [(0,pg ga0 0),(9,iv (w64 (v_over9 - x1.Size))),(10,.slice A4 ((v_gone10++([x1.Digest]:List ByteArray)).length) c4),(28,.slice A1 y1.length c1),(29,iv (y1.length:Int)),(30,iv (w64 (v30+1)))]<|Ad 1 [.c [1,1,1,1,1,0,1,0,0],.l [1,1,1,1,1,0,1,0,0],.b 0,.c [1,1,1,1,1,1]]<|Kp [0,9,10,28,29,30] [(0,pg ga0 0),(9,iv (w64 (v_over9 - x1.Size))),(10,.slice A4 ((v_gone10++([x1.Digest]:List ByteArray)).length) c4),(28,.slice A1 y1.length c1),(29,iv (y1.length:Int)),(30,iv (w64 (v30+1)))] ?_
    refine RunH.pick 7 [2,3,4,5,6] (cs':=ch4::ch1::(some (ga0,.cells #[iv a0.Room,iv a0.Lease,.slice Aa0_2 a0.Blobs.length ca0_2,.slice Aa0_3 a0.Entries.length ca0_3] 25 (0,0)))::cha0_2::cha0_3::F) (by kernel_rfl) rfl ?_
    exact ihk _ a0 _ _ _ _ _ _ y1 _ _ _ (w64 (v_over9 - x1.Size)) (v_gone10++([x1.Digest]:List ByteArray)) _ _ _ _ (w64 (v30+1)) hoa0_2 hoa0_3 ho1 ho6 rfl heq
  ·replace heq:=bif_false hb2 heq
   refine Cf (decide (v30<(y1.length:Int))) hb2<|Ad 2 [.c [1,1,1,1,1,1,0],.c [1,1,1,1,1,1,1]]<|Kp [0,10] [(0,pg ga0 0),(10,.slice Av_gone10 v_gone10.length cv_gone10)] ?_
   refine RunH.pick 5 [0,2,3,4] (cs':=chv_gone10::(some (ga0,.cells #[iv a0.Room,iv a0.Lease,.slice Aa0_2 a0.Blobs.length ca0_2,.slice Aa0_3 a0.Entries.length ca0_3] 25 (0,0)))::cha0_2::cha0_3::F) (by kernel_rfl) rfl ?_
   exact he1 _ a0 _ _ _ _ _ _ v_gone10 _ _ _ _ hoa0_2 hoa0_3 hov_gone10 rfl heq
theorem cache_clear_2_c {w0:World} {H:Hp} {F:List Ch} {ga0:Nat} {a0:Cache} {Aa0_2:Option Addr} {na0_2:Nat} {ca0_2:Nat} {cha0_2:Ch} {Aa0_3:Option Addr} {na0_3:Nat} {ca0_3:Nat} {cha0_3:Ch} {a1:Int} {a2:Int} {r:(List ByteArray) × Bool × Cache} (hoa0_2:SlOwn kBlob 29 H Aa0_2 ca0_2 a0.Blobs cha0_2) (hna0_2:na0_2=a0.Blobs.length) (hoa0_3:SlOwn kEntry 57 H Aa0_3 ca0_3 a0.Entries cha0_3) (hna0_3:na0_3=a0.Entries.length) (heq:cache_clear_2.f a0 a1 a2=some r):CallsH Tryd.prog 44 #[.pointer (some ⟨ga0,0,none⟩),iv a1,iv a2] H w0 ((some (ga0,.cells #[iv a0.Room,iv a0.Lease,.slice Aa0_2 na0_2 ca0_2,.slice Aa0_3 na0_3 ca0_3] 25 (0,0)))::cha0_2::cha0_3::F) (S44v2 F H ga0 r):=by
 refine calls_of_runH (F:=C44v2) Tryd.func44 (by kernel_rfl) Tryd.ntmps44 (args:=[.pointer (some ⟨ga0,0,none⟩),iv a1,iv a2]) (by kernel_rfl) ?_
 subst hna0_2
 subst hna0_3
 unfold cache_clear_2.f at heq
 refine Ra 1 [0] [.c [1]]<|Rd 2 [0,1,2] [(0,pg ga0 0),(1,iv a1),(2,iv a2)]<|Ra 1 [1,0] [.c [1,1]]<|Rv 4 [0,1,15,16] [iv a0.Room,iv a0.Lease,.slice Aa0_2 a0.Blobs.length ca0_2,.slice Aa0_3 a0.Entries.length ca0_3] [.load ⟨ga0,0,none⟩ (iv a0.Room),.load ⟨ga0,1,none⟩ (iv a0.Lease),.load ⟨ga0,2,none⟩ (.slice Aa0_2 a0.Blobs.length ca0_2),.load ⟨ga0,3,none⟩ (.slice Aa0_3 a0.Entries.length ca0_3)] [(0,pg ga0 0),(1,iv a1),(15,.agg #[iv a0.Room,iv a0.Lease,.slice Aa0_2 a0.Blobs.length ca0_2,.slice Aa0_3 a0.Entries.length ca0_3]),(16,iv a2)] (fun w hh=>⟨(hh.box 0 rfl rfl),(hh.box 0 rfl rfl),(hh.box 0 rfl rfl),(hh.box 0 rfl rfl)⟩) ?_
 obtain ⟨y1,hy1,heq⟩:=bind_some heq
 refine RgH.does (DoesH.call (d:=17) (g:=56) (args:=#[.agg #[iv a0.Room,iv a0.Lease,.slice Aa0_2 a0.Blobs.length ca0_2,.slice Aa0_3 a0.Entries.length ca0_3],iv a2]) (by kernel_rfl) (cache_leaving_c (a0:=(⟨a0.Room,a0.Lease,a0.Blobs,a0.Entries⟩:Cache)) (a1:=a2) (hoa0_2.rw (.tail _ (.head _))) hoa0_2.cap rfl (hoa0_3.rw (.tail _ (.tail _ (.head _)))) hoa0_3.cap rfl hy1)) ?_
 rintro _ _ _ _ ⟨_,rfl,A1,c1,ch1,rfl,rfl,rfl,ho1⟩
 refine Rd 6 [0,1,8] [(0,pg ga0 0),(1,iv a1),(8,.slice A1 y1.length c1)]<|Ra 1 [1,1,0] [.c [1,1,1]]<|Rv 3 [0,1,8,20] [iv a0.Room,iv a0.Lease,.slice Aa0_2 a0.Blobs.length ca0_2,.slice Aa0_3 a0.Entries.length ca0_3] [.load ⟨ga0,0,none⟩ (iv a0.Room),.load ⟨ga0,1,none⟩ (iv a0.Lease),.load ⟨ga0,2,none⟩ (.slice Aa0_2 a0.Blobs.length ca0_2),.load ⟨ga0,3,none⟩ (.slice Aa0_3 a0.Entries.length ca0_3)] [(0,pg ga0 0),(1,iv a1),(8,.slice A1 y1.length c1),(20,.agg #[iv a0.Room,iv a0.Lease,.slice Aa0_2 a0.Blobs.length ca0_2,.slice Aa0_3 a0.Entries.length ca0_3])] (fun w hh=>⟨(hh.box 1 rfl rfl),(hh.box 1 rfl rfl),(hh.box 1 rfl rfl),(hh.box 1 rfl rfl)⟩) ?_
 obtain ⟨y2,hy2,heq⟩:=bind_some heq
 refine RgH.does (DoesH.call (d:=21) (g:=57) (args:=#[.agg #[iv a0.Room,iv a0.Lease,.slice Aa0_2 a0.Blobs.length ca0_2,.slice Aa0_3 a0.Entries.length ca0_3]]) (by kernel_rfl) (cache_used_c (a0:=(⟨a0.Room,a0.Lease,a0.Blobs,a0.Entries⟩:Cache)) (hoa0_2.rw (.tail _ (.tail _ (.head _)))) hoa0_2.cap rfl (hoa0_3.rw (.tail _ (.tail _ (.tail _ (.head _))))) hoa0_3.cap rfl hy2)) ?_
 rintro _ _ _ _ ⟨_,rfl,rfl,rfl,rfl⟩
 refine Rd 7 [0,8,9] [(0,pg ga0 0),(8,.slice A1 y1.length c1),(9,iv (w64 (y2 - a1)))]<|Ra 2 [1,1,1,0,0] [.c [1,1,1,0,1],.c [1,1,1,1]]<|Rk 2 [0,8,9,24,25] [(0,pg ga0 0),(8,.slice A1 y1.length c1),(9,iv (w64 (y2 - a1))),(24,iv (w64 (y2 - a1))),(25,.slice A1 y1.length c1)] ?_
 obtain ⟨y3,hy3,heq⟩:=bind_some heq
 refine RgH.does (DoesH.call (d:=26) (g:=58) (args:=#[.slice A1 y1.length c1]) (by kernel_rfl) (cache_sumOf_c (a0:=y1) (ho1.rw (.head _)) ho1.cap rfl hy3)) ?_
 rintro _ _ _ _ ⟨_,rfl,rfl,rfl,rfl⟩
 refine Rd 4 [0,8,9,27] [(0,pg ga0 0),(8,.slice A1 y1.length c1),(9,iv (w64 (y2 - a1))),(27,.bool (decide (y3<(w64 (y2 - a1)))))] ?_
 rcases bool_cases (decide (y3<(w64 (y2 - a1)))) with hb1 | hb1
 ·replace heq:=bif_true hb1 heq
  refine Ct (decide (y3<(w64 (y2 - a1)))) hb1<|Ra 1 [1,1,1,0,1,0,0] [.c [1,1,1,0,1,0,1],.c [1,1,1,1]]<|Rd 2 [0,6,7] [(0,pg ga0 0),(6,.slice none 0 0),(7,.bool false)]<|RunH.nilc ?_
  have ho2:SlOwn Kd.string 9 H none 0 ([]:List ByteArray) none:=SlOwn.nil
  obtain rfl:=Option.some.inj heq
  refine RunH.pick 5 [0,2,3,4] (cs':=none::(some (ga0,.cells #[iv a0.Room,iv a0.Lease,.slice Aa0_2 a0.Blobs.length ca0_2,.slice Aa0_3 a0.Entries.length ca0_3] 25 (0,0)))::cha0_2::cha0_3::F) (by kernel_rfl) rfl ?_
  exact RunH.done (by kernel_rfl) Tryd.func44 (v:=.tuple #[.slice none 0 0,.bool false]) (by kernel_rfl) ⟨none,0,none,Aa0_2,ca0_2,cha0_2,Aa0_3,ca0_3,cha0_3,rfl,rfl,rfl,ho2,hoa0_2,hoa0_3⟩
 ·replace heq:=bif_false hb1 heq
  refine Cf (decide (y3<(w64 (y2 - a1)))) hb1<|Ra 2 [1,1,1,1,0] [.c [1,1,1,1,1]]<|Rd 1 [0,8,9,10] [(0,pg ga0 0),(8,.slice A1 y1.length c1),(9,iv (w64 (y2 - a1))),(10,.slice none 0 0)]<|Ra 2 [1,1,1,1,1,0,0] [.c [1,1,1,1,1,0,1],.c [1,1,1,1,1,1]]<|Rd 3 [0,9,10,28,29,30] [(0,pg ga0 0),(9,iv (w64 (y2 - a1))),(10,.slice none 0 0),(28,.slice A1 y1.length c1),(29,iv (y1.length:Int)),(30,iv 0)]<|Ad 2 [.c [1,1,1,1,1,0,1,0,0],.l [1,1,1,1,1,0,1,0,0],.b 0,.c [1,1,1,1,1,1]]<|RunH.nilc ?_
  have ho7:SlOwn Kd.string 9 H none 0 ([]:List ByteArray) none:=SlOwn.nil
  refine Kp [0,9,10,28,29,30] [(0,pg ga0 0),(9,iv (w64 (y2 - a1))),(10,.slice none 0 0),(28,.slice A1 y1.length c1),(29,iv (y1.length:Int)),(30,iv 0)] ?_
  exact ((cache_clear_2.l2_c (e1:=cache_clear_2.e1) (cache_clear_2.e1_c)) big) _ a0 _ _ _ _ _ _ y1 _ _ _ (w64 (y2 - a1)) ([]:List ByteArray) _ _ _ _ 0 hoa0_2 hoa0_3 ho1 ho7 rfl heq
noncomputable def C25v2:Ctx:={ P:=Tryd.prog,f:=25,N:=99,c:=bodyOf Tryd.f25 }
def S25v2 (F:List Ch) (H0:Hp) (ga0:Nat) (r:CacheAnswer × Int × Cache) (v:Value) (H:Hp) (cs:List Ch):Prop:=∃ (A0_1:Option Addr) (c0_1:Nat) (ch0_1:Ch) (A0_2:Option Addr) (c0_2:Nat) (ch0_2:Ch) (A2_2:Option Addr) (c2_2:Nat) (ch2_2:Ch) (A2_3:Option Addr) (c2_3:Nat) (ch2_3:Ch),H0=H∧v=.tuple #[.agg #[.bool r.1.Done,.slice A0_1 r.1.Missing.length c0_1,.slice A0_2 r.1.Gone.length c0_2],iv r.2.1]∧ch0_1::ch0_2::some (ga0,.cells #[iv r.2.2.Room,iv r.2.2.Lease,.slice A2_2 r.2.2.Blobs.length c2_2,.slice A2_3 r.2.2.Entries.length c2_3] 25 (0,0))::ch2_2::ch2_3::F=cs∧SlOwn Kd.string 9 H A0_1 c0_1 r.1.Missing ch0_1∧SlOwn Kd.string 9 H A0_2 c0_2 r.1.Gone ch0_2∧SlOwn kBlob 29 H A2_2 c2_2 r.2.2.Blobs ch2_2∧SlOwn kEntry 57 H A2_3 c2_3 r.2.2.Entries ch2_3
theorem cache_put_2_c {w0:World} {H:Hp} {F:List Ch} {ga0:Nat} {a0:Cache} {Aa0_2:Option Addr} {na0_2:Nat} {ca0_2:Nat} {cha0_2:Ch} {Aa0_3:Option Addr} {na0_3:Nat} {ca0_3:Nat} {cha0_3:Ch} {a1:CacheEvent} {Aa1_3:Option Addr} {na1_3:Nat} {ca1_3:Nat} {r:CacheAnswer × Int × Cache} (hoa0_2:SlOwn kBlob 29 H Aa0_2 ca0_2 a0.Blobs cha0_2) (hna0_2:na0_2=a0.Blobs.length) (hoa0_3:SlOwn kEntry 57 H Aa0_3 ca0_3 a0.Entries cha0_3) (hna0_3:na0_3=a0.Entries.length) (hra1_3:Rw Kd.string H F Aa1_3 a1.Digests) (hca1_3:na1_3≤ca1_3) (hna1_3:na1_3=a1.Digests.length) (heq:cache_put_2.f a0 a1=some r):CallsH Tryd.prog 25 #[.pointer (some ⟨ga0,0,none⟩),.agg #[iv a1.Kind,iv a1.At,.string a1.Digest,.slice Aa1_3 na1_3 ca1_3,.string a1.Key,iv a1.Size]] H w0 ((some (ga0,.cells #[iv a0.Room,iv a0.Lease,.slice Aa0_2 na0_2 ca0_2,.slice Aa0_3 na0_3 ca0_3] 25 (0,0)))::cha0_2::cha0_3::F) (S25v2 F H ga0 r):=by
 refine calls_of_runH (F:=C25v2) Tryd.func25 (by kernel_rfl) Tryd.ntmps25 (args:=[.pointer (some ⟨ga0,0,none⟩),.agg #[iv a1.Kind,iv a1.At,.string a1.Digest,.slice Aa1_3 na1_3 ca1_3,.string a1.Key,iv a1.Size]]) (by kernel_rfl) ?_
 subst hna0_2
 subst hna0_3
 subst hna1_3
 unfold cache_put_2.f at heq
 refine Ra 1 [0] [.c [1]] ?_
 refine RgH.does (DoesH.new (d:=3) (v:=fun g=>.pointer (some ⟨g,0,none⟩)) (o:=fun g=>.cells #[iv a1.Kind,iv a1.At,.string a1.Digest,.slice Aa1_3 a1.Digests.length ca1_3,.string a1.Key,iv a1.Size] 40 (0,0)) (fun g=>by kernel_rfl)) ?_
 rintro _ _ _ _ ⟨g1,rfl,rfl,rfl⟩
 refine RgH.does (DoesH.new (d:=4) (v:=fun g=>.pointer (some ⟨g,0,none⟩)) (o:=fun g=>.cells #[.bool false,.slice none 0 0,.slice none 0 0] 36 (0,0)) (fun g=>by kernel_rfl)) ?_
 rintro _ _ _ _ ⟨g2,rfl,rfl,rfl⟩
 refine Rd 3 [0,3,4] [(0,pg ga0 0),(3,pg g1 0),(4,pg g2 0)]<|Ad 1 [.c [1,0],.c [1,1]]<|Kp [0,3,4] [(0,pg ga0 0),(3,pg g1 0),(4,pg g2 0)] ?_
 refine RunH.draw (fun w=>Heap H w0 w ((some (g2,.cells #[.bool false,.slice none 0 0,.slice none 0 0] 36 (0,0)))::(some (g1,.cells #[iv a1.Kind,iv a1.At,.string a1.Digest,.slice Aa1_3 a1.Digests.length ca1_3,.string a1.Key,iv a1.Size] 40 (0,0)))::(some (ga0,.cells #[iv a0.Room,iv a0.Lease,.slice Aa0_2 a0.Blobs.length ca0_2,.slice Aa0_3 a0.Entries.length ca0_3] 25 (0,0)))::cha0_2::cha0_3::F)) (fun w=>Heap H w0 w ((some (g2,.cells #[.bool false,.slice none 0 0,.slice none 0 0] 36 (0,0)))::(some (g1,.cells #[iv a1.Kind,iv a1.At,.string a1.Digest,.slice Aa1_3 a1.Digests.length ca1_3,.string a1.Key,iv a1.Size] 40 (0,0)))::(some (ga0,.cells #[iv a0.Room,iv a0.Lease,.slice Aa0_2 a0.Blobs.length ca0_2,.slice Aa0_3 a0.Entries.length ca0_3] 25 (0,0)))::cha0_2::cha0_3::F)) [3,3,3,3,3,0,3,3,3,3,3] (n:=11) (ls:=[false,false,false,false,false,false,false,false,false,false,false]) (by kernel_rfl) (by kernel_rfl) (by kernel_rfl) rfl ?_
 refine Dk [0,1,2,3,4] 6 (nb 11 31) [iv a0.Room,iv a0.Lease,.slice Aa0_2 a0.Blobs.length ca0_2,.slice Aa0_3 a0.Entries.length ca0_3,.string a1.Digest] [.load ⟨ga0,0,none⟩ (iv a0.Room),.load ⟨ga0,1,none⟩ (iv a0.Lease),.load ⟨ga0,2,none⟩ (.slice Aa0_2 a0.Blobs.length ca0_2),.load ⟨ga0,3,none⟩ (.slice Aa0_3 a0.Entries.length ca0_3),.load ⟨g1,2,none⟩ (.string a1.Digest)] [0,3,4,13,15] [(0,pg ga0 0),(3,pg g1 0),(4,pg g2 0),(13,.agg #[iv a0.Room,iv a0.Lease,.slice Aa0_2 a0.Blobs.length ca0_2,.slice Aa0_3 a0.Entries.length ca0_3]),(15,.string a1.Digest)] (Pk 5 [0,1,2,3,4]) (Pk 5 [0,1,2,3,4]) (fun w hh=>⟨(hh.box 2 rfl rfl),(hh.box 2 rfl rfl),(hh.box 2 rfl rfl),(hh.box 2 rfl rfl),(hh.box 1 rfl rfl)⟩) ?_
 obtain ⟨y1,hy1,heq⟩:=bind_some heq
 refine DrH.does (n:=5) (ls':=[true,true,true,true,true,true,false,false,false,false,false]) 5 (by kernel_rfl) rfl (DoesH.call (d:=16) (g:=24) (args:=#[.agg #[iv a0.Room,iv a0.Lease,.slice Aa0_2 a0.Blobs.length ca0_2,.slice Aa0_3 a0.Entries.length ca0_3],.string a1.Digest]) (by kernel_rfl) (cache_find_c (a0:=(⟨a0.Room,a0.Lease,a0.Blobs,a0.Entries⟩:Cache)) (a1:=a1.Digest) (hoa0_2.rw (.tail _ (.tail _ (.tail _ (.head _))))) hoa0_2.cap rfl (hoa0_3.rw (.tail _ (.tail _ (.tail _ (.tail _ (.head _)))))) hoa0_3.cap rfl hy1)) ?_
 rintro _ _ _ _ ⟨_,rfl,rfl,rfl,rfl⟩
 refine ⟨fun _ w hh=>⟨fun _=>(Pk 5 [0,1,2,3,4]) w hh,fun _=>(Pk 5 [0,1,2,3,4]) w hh,(fun h=>by cases h)⟩,?_⟩
 refine Dk [6,7,8,9,10] 0 (nb 11 2047) [] [] [0,3,4,6,7] [(0,pg ga0 0),(3,pg g1 0),(4,pg g2 0),(6,iv y1.1),(7,.bool y1.2)] (Pk 5 [0,1,2,3,4]) (Pk 5 [0,1,2,3,4]) (fun _ _=>trivial) ?_
 refine DrH.done (by kernel_rfl) ?_
 refine Ra 2 [1,1,0,0] [.c [1,1,0,1],.c [1,1,1]]<|Rd 1 [0,3,4,6,19] [(0,pg ga0 0),(3,pg g1 0),(4,pg g2 0),(6,iv y1.1),(19,.bool y1.2)] ?_
 rcases bool_cases (y1.2) with hb1 | hb1
 ·replace heq:=bif_true hb1 heq
  refine Ct y1.2 hb1<|Ad 2 [.c [1,1,0,1,0,0,0],.c [1,1,0,1,0,0,1],.c [1,1,0,1,0,1],.c [1,1,1]]<|Kp [0,3,4,6] [(0,pg ga0 0),(3,pg g1 0),(4,pg g2 0),(6,iv y1.1)] ?_
  refine RunH.draw (fun w=>Heap H w0 w ((some (g2,.cells #[.bool false,.slice none 0 0,.slice none 0 0] 36 (0,0)))::(some (g1,.cells #[iv a1.Kind,iv a1.At,.string a1.Digest,.slice Aa1_3 a1.Digests.length ca1_3,.string a1.Key,iv a1.Size] 40 (0,0)))::(some (ga0,.cells #[iv a0.Room,iv a0.Lease,.slice Aa0_2 a0.Blobs.length ca0_2,.slice Aa0_3 a0.Entries.length ca0_3] 25 (0,0)))::cha0_2::cha0_3::F)) (fun w=>Heap H w0 w ((some (g2,.cells #[.bool false,.slice none 0 0,.slice none 0 0] 36 (0,0)))::(some (g1,.cells #[iv a1.Kind,iv a1.At,.string a1.Digest,.slice Aa1_3 a1.Digests.length ca1_3,.string a1.Key,iv a1.Size] 40 (0,0)))::(some (ga0,.cells #[iv a0.Room,iv a0.Lease,.slice Aa0_2 a0.Blobs.length ca0_2,.slice Aa0_3 a0.Entries.length ca0_3] 25 (0,0)))::cha0_2::cha0_3::F)) [3,3,3,3,3,3,3,3,3,3,3] (n:=11) (ls:=[false,false,false,false,false,false,false,false,false,false,false]) (by kernel_rfl) (by kernel_rfl) (by kernel_rfl) rfl ?_
  obtain ⟨x1,hx1,heq⟩:=bind_some heq
  obtain ⟨ha1,cs1,hK1,hcc1⟩:=hoa0_2.get hx1
  obtain ⟨rfl⟩:=kBlob_open hK1
  refine Dk [0,1,2,3,4,5,6,7,8,9,10] 0 (nb 11 2047) [.slice Aa0_2 a0.Blobs.length ca0_2,iv x1.Size,iv a1.Size] [.load ⟨ga0,2,none⟩ (.slice Aa0_2 a0.Blobs.length ca0_2),.need (Aa0_2=some (adr Aa0_2)∧(0:Int)≤y1.1∧y1.1<((a0.Blobs.length:Nat):Int)),.load (((adr Aa0_2).add (y1.1.toNat*5)).add 1) (iv x1.Size),.load ⟨g1,5,none⟩ (iv a1.Size)] [0,3,4,30] [(0,pg ga0 0),(3,pg g1 0),(4,pg g2 0),(30,.bool (x1.Size != a1.Size))] (Pk 5 [0,1,2,3,4]) (Pk 5 [0,1,2,3,4]) (fun w hh=>⟨(hh.box 2 rfl rfl),⟨ha1,(at?_some hx1).1,(at?_some hx1).2.1⟩,(hcc1 _ (hh.chin 3 rfl) 1 _ rfl),(hh.box 1 rfl rfl)⟩) ?_
  refine DrH.done (by kernel_rfl) ?_
  rcases bool_cases (x1.Size != a1.Size) with hb2 | hb2
  ·replace heq:=bif_true hb2 heq
   refine Ct (x1.Size != a1.Size) hb2<|Ra 1 [1,1,0,1,0,0,1,0,0] [.c [1,1,0,1,0,0,1,0,1],.c [1,1,0,1,0,1],.c [1,1,1]]<|Rk 1 [0,4,31] [(0,pg ga0 0),(4,pg g2 0),(31,.agg #[.bool false,.slice none 0 0,.slice none 0 0])] ?_
   refine RgH.does (DoesH.store (k:=0) (g:=g2) (off:=0) (v:=.agg #[.bool false,.slice none 0 0,.slice none 0 0]) (cells':=#[.bool false,.slice none 0 0,.slice none 0 0]) (by kernel_rfl) rfl (by kernel_rfl) (by kernel_rfl)) ?_
   rintro _ _ _ _ ⟨rfl,rfl,rfl⟩
   refine Rd 3 [0,4,5] [(0,pg ga0 0),(4,pg g2 0),(5,iv 12)]<|RunH.nilc ?_
   have ho1:SlOwn Kd.string 9 H none 0 ([]:List ByteArray) none:=SlOwn.nil
   refine RunH.nilc ?_
   have ho2:SlOwn Kd.string 9 H none 0 ([]:List ByteArray) none:=SlOwn.nil
   obtain rfl:=Option.some.inj heq
   refine RunH.pick 7 [2,1,0,4,5,6] (cs':=(some (g2,.cells #[.bool false,.slice none 0 0,.slice none 0 0] 36 (0,0)))::none::none::(some (ga0,.cells #[iv a0.Room,iv a0.Lease,.slice Aa0_2 a0.Blobs.length ca0_2,.slice Aa0_3 a0.Entries.length ca0_3] 25 (0,0)))::cha0_2::cha0_3::F) (by kernel_rfl) rfl ?_
   exact RunH.doneM' 1 (vs:=[.agg #[.bool false,.slice none 0 0,.slice none 0 0],iv 12]) (v:=.tuple #[.agg #[.bool false,.slice none 0 0,.slice none 0 0],iv 12]) (by kernel_rfl) Tryd.func25 (fun w hh=>show ResAll _ _ _ [.cell 4 36,.tmp 5] _ from ⟨⟨⟨g2,0,none⟩,by kernel_rfl,trS_run _ (vs:=[.bool false,.slice none 0 0,.slice none 0 0]) (r:=[]) (es:=[.load ⟨g2,0,none⟩ (.bool false),.load ⟨g2,1,none⟩ (.slice none 0 0),.load ⟨g2,2,none⟩ (.slice none 0 0)]) (by kernel_rfl) ⟨(hh.box 0 rfl rfl),(hh.box 0 rfl rfl),(hh.box 0 rfl rfl)⟩⟩,(show lk _ _=some _ by kernel_rfl),trivial⟩) rfl (cs':=none::none::(some (ga0,.cells #[iv a0.Room,iv a0.Lease,.slice Aa0_2 a0.Blobs.length ca0_2,.slice Aa0_3 a0.Entries.length ca0_3] 25 (0,0)))::cha0_2::cha0_3::F) rfl ⟨none,0,none,none,0,none,Aa0_2,ca0_2,cha0_2,Aa0_3,ca0_3,cha0_3,rfl,rfl,rfl,ho1,ho2,hoa0_2,hoa0_3⟩
  ·replace heq:=bif_false hb2 heq
   refine Cf (x1.Size != a1.Size) hb2<|Ra 2 [1,1,0,1,0,1,0] [.c [1,1,0,1,0,1,1],.c [1,1,1]]<|Rv 3 [0,3,4,32,34] [.string a1.Digest] [.load ⟨g1,2,none⟩ (.string a1.Digest)] [(0,pg ga0 0),(3,pg g1 0),(4,pg g2 0),(32,pg ga0 0),(34,.string a1.Digest)] (fun w hh=>(hh.box 1 rfl rfl)) ?_
   refine RgH.does (DoesH.new (d:=35) (v:=fun g=>.slice (some ⟨g,0,none⟩) 1 1) (o:=fun g=>.cells #[.string a1.Digest] 9 (0,0)) (fun g=>by kernel_rfl)) ?_
   rintro _ _ _ _ ⟨g3,rfl,rfl,rfl⟩
   have ho3:SlOwn Kd.string 9 H (some ⟨g3,0,none⟩) 1 ([a1.Digest]:List ByteArray) (some (g3,.cells #[.string a1.Digest] 9 (0,0))):=SlOwn.lit (xs:=([a1.Digest]:List ByteArray)) (by kernel_rfl) (Nat.le_of_ble_eq_true (by kernel_rfl)) (Kd.Rep.scalars rfl)
   refine Rv 6 [0,4,32,35,37] [iv a1.At] [.load ⟨g1,1,none⟩ (iv a1.At)] [(0,pg ga0 0),(4,pg g2 0),(32,pg ga0 0),(35,.slice (some ⟨g3,0,none⟩) 1 1),(37,iv a1.At)] (fun w hh=>(hh.box 2 rfl rfl)) ?_
   refine RgH.pick 6 [3,4,5,0,1,2] (cs':=(some (ga0,.cells #[iv a0.Room,iv a0.Lease,.slice Aa0_2 a0.Blobs.length ca0_2,.slice Aa0_3 a0.Entries.length ca0_3] 25 (0,0)))::cha0_2::cha0_3::(some (g3,.cells #[.string a1.Digest] 9 (0,0)))::(some (g2,.cells #[.bool false,.slice none 0 0,.slice none 0 0] 36 (0,0)))::(some (g1,.cells #[iv a1.Kind,iv a1.At,.string a1.Digest,.slice Aa1_3 a1.Digests.length ca1_3,.string a1.Key,iv a1.Size] 40 (0,0)))::F) (by kernel_rfl) rfl ?_
   obtain ⟨y2,hy2,heq⟩:=bind_some heq
   refine RgH.does (DoesH.call (d:=38) (g:=26) (args:=#[.pointer (some ⟨ga0,0,none⟩),.slice (some ⟨g3,0,none⟩) 1 1,iv a1.At,.bool true,.bool true]) (by kernel_rfl) (cache_touch_3_c (a0:=(⟨a0.Room,a0.Lease,a0.Blobs,a0.Entries⟩:Cache)) (a1:=([a1.Digest]:List ByteArray)) (a2:=a1.At) (a3:=true) (a4:=true) hoa0_2 rfl hoa0_3 rfl (ho3.rw (.head _)) ho3.cap rfl hy2)) ?_
   rintro _ _ _ _ ⟨_,rfl,A1,c1,ch1,A2,c2,ch2,rfl,rfl,rfl,ho4,ho5⟩
   refine Dn<|Ra 1 [1,1,0,1,0,1,1,0] [.c [1,1,0,1,0,1,1,1],.c [1,1,1]]<|Rk 1 [0,4,39] [(0,pg ga0 0),(4,pg g2 0),(39,.agg #[.bool true,.slice none 0 0,.slice none 0 0])] ?_
   refine RgH.does (DoesH.store (k:=4) (g:=g2) (off:=0) (v:=.agg #[.bool true,.slice none 0 0,.slice none 0 0]) (cells':=#[.bool true,.slice none 0 0,.slice none 0 0]) (by kernel_rfl) rfl (by kernel_rfl) (by kernel_rfl)) ?_
   rintro _ _ _ _ ⟨rfl,rfl,rfl⟩
   refine Rd 3 [0,4,5] [(0,pg ga0 0),(4,pg g2 0),(5,iv 0)]<|RunH.nilc ?_
   have ho6:SlOwn Kd.string 9 H none 0 ([]:List ByteArray) none:=SlOwn.nil
   refine RunH.nilc ?_
   have ho7:SlOwn Kd.string 9 H none 0 ([]:List ByteArray) none:=SlOwn.nil
   obtain rfl:=Option.some.inj heq
   refine RunH.pick 8 [6,1,0,2,3,4] (cs':=(some (g2,.cells #[.bool true,.slice none 0 0,.slice none 0 0] 36 (0,0)))::none::none::(some (ga0,.cells #[iv y2.Room,iv y2.Lease,.slice A1 y2.Blobs.length c1,.slice A2 y2.Entries.length c2] 25 (0,0)))::ch1::ch2::F) (by kernel_rfl) rfl ?_
   exact RunH.doneM' 1 (vs:=[.agg #[.bool true,.slice none 0 0,.slice none 0 0],iv 0]) (v:=.tuple #[.agg #[.bool true,.slice none 0 0,.slice none 0 0],iv 0]) (by kernel_rfl) Tryd.func25 (fun w hh=>show ResAll _ _ _ [.cell 4 36,.tmp 5] _ from ⟨⟨⟨g2,0,none⟩,by kernel_rfl,trS_run _ (vs:=[.bool true,.slice none 0 0,.slice none 0 0]) (r:=[]) (es:=[.load ⟨g2,0,none⟩ (.bool true),.load ⟨g2,1,none⟩ (.slice none 0 0),.load ⟨g2,2,none⟩ (.slice none 0 0)]) (by kernel_rfl) ⟨(hh.box 0 rfl rfl),(hh.box 0 rfl rfl),(hh.box 0 rfl rfl)⟩⟩,(show lk _ _=some _ by kernel_rfl),trivial⟩) rfl (cs':=none::none::(some (ga0,.cells #[iv y2.Room,iv y2.Lease,.slice A1 y2.Blobs.length c1,.slice A2 y2.Entries.length c2] 25 (0,0)))::ch1::ch2::F) rfl ⟨none,0,none,none,0,none,A1,c1,ch1,A2,c2,ch2,rfl,rfl,rfl,ho6,ho7,ho4,ho5⟩
 ·replace heq:=bif_false hb1 heq
  refine Cf y1.2 hb1<|Ad 2 [.c [1,1,1,0],.c [1,1,1,1]]<|Kp [0,3,4] [(0,pg ga0 0),(3,pg g1 0),(4,pg g2 0)] ?_
  refine RunH.draw (fun w=>Heap H w0 w ((some (g2,.cells #[.bool false,.slice none 0 0,.slice none 0 0] 36 (0,0)))::(some (g1,.cells #[iv a1.Kind,iv a1.At,.string a1.Digest,.slice Aa1_3 a1.Digests.length ca1_3,.string a1.Key,iv a1.Size] 40 (0,0)))::(some (ga0,.cells #[iv a0.Room,iv a0.Lease,.slice Aa0_2 a0.Blobs.length ca0_2,.slice Aa0_3 a0.Entries.length ca0_3] 25 (0,0)))::cha0_2::cha0_3::F)) (fun w=>Heap H w0 w ((some (g2,.cells #[.bool false,.slice none 0 0,.slice none 0 0] 36 (0,0)))::(some (g1,.cells #[iv a1.Kind,iv a1.At,.string a1.Digest,.slice Aa1_3 a1.Digests.length ca1_3,.string a1.Key,iv a1.Size] 40 (0,0)))::F)) [3,3,3,3,0,3,3,3,3,3,1,3,3,3,3,3] (n:=16) (ls:=[false,false,false,false,false,false,false,false,false,false,false,false,false,false,false,false]) (by kernel_rfl) (by kernel_rfl) (by kernel_rfl) rfl ?_
  refine Dk [0] 15 (nb 16 1) [] [] [0,3,4,41] [(0,pg ga0 0),(3,pg g1 0),(4,pg g2 0),(41,pg ga0 0)] (Pk 5 [0,1,2,3,4]) (Pk 5 [0,1]) (fun _ _=>trivial)<|De [1,2,3,5,6,8] 9 (nb 16 367) [iv a1.Size] [.load ⟨g1,5,none⟩ (iv a1.Size)] [0,3,4,41,44,47,49] [(0,pg ga0 0),(3,pg g1 0),(4,pg g2 0),(41,pg ga0 0),(44,pg ga0 0),(47,iv a1.Size),(49,pg g1 1)] (Pk 5 [0,1]) (fun w hh=>(hh.box 1 rfl rfl))<|Dk [9] 8 (nb 16 879) [iv a1.At] [.load ⟨g1,1,none⟩ (iv a1.At)] [0,3,4,41,44,47,50] [(0,pg ga0 0),(3,pg g1 0),(4,pg g2 0),(41,pg ga0 0),(44,pg ga0 0),(47,iv a1.Size),(50,iv a1.At)] (Pk 5 [0,1,2,3,4]) (Pk 5 [0,1]) (fun w hh=>(hh.box 1 rfl rfl))<|Kr [0,3,4,41,44,47,50] [(0,pg ga0 0),(3,pg g1 0),(4,pg g2 0),(41,pg ga0 0),(44,pg ga0 0),(47,iv a1.Size),(50,iv a1.At)] ?_
  refine DrH.does (n:=7) (ls':=[true,true,true,true,true,true,true,false,true,true,false,false,false,false,false,false]) 4 (by kernel_rfl) rfl (DoesH.pureop (d:=45) (v:=iv a0.Room) (vs:=[iv a0.Room]) (evs:=[.load ⟨ga0,0,none⟩ (iv a0.Room)]) (by kernel_rfl) (fun w hh=>(hh.box 2 rfl rfl))) ?_
  rintro _ _ _ _ ⟨rfl,rfl,rfl⟩
  refine ⟨fun _ w hh=>⟨fun _=>(Pk 5 [0,1,2,3,4]) w hh,fun _=>(Pk 5 [0,1]) w hh,(fun h=>by cases h)⟩,?_⟩
  refine Dk [7] 6 (nb 16 1023) [] [] [0,3,4,41,48,50] [(0,pg ga0 0),(3,pg g1 0),(4,pg g2 0),(41,pg ga0 0),(48,iv (w64 (a0.Room - a1.Size))),(50,iv a1.At)] (Pk 5 [0,1,2,3,4]) (Pk 5 [0,1]) (fun _ _=>trivial) ?_
  refine DrH.pick 5 [2,3,4,0,1] (cs':=(some (ga0,.cells #[iv a0.Room,iv a0.Lease,.slice Aa0_2 a0.Blobs.length ca0_2,.slice Aa0_3 a0.Entries.length ca0_3] 25 (0,0)))::cha0_2::cha0_3::(some (g2,.cells #[.bool false,.slice none 0 0,.slice none 0 0] 36 (0,0)))::(some (g1,.cells #[iv a1.Kind,iv a1.At,.string a1.Digest,.slice Aa1_3 a1.Digests.length ca1_3,.string a1.Key,iv a1.Size] 40 (0,0)))::F) (by kernel_rfl) rfl ?_
  obtain ⟨y3,hy3,heq⟩:=bind_some heq
  refine DrH.does (n:=5) (ls':=[true,true,true,true,true,true,true,true,true,true,true,false,false,false,false,false]) 10 (by kernel_rfl) rfl (DoesH.call (d:=51) (g:=44) (args:=#[.pointer (some ⟨ga0,0,none⟩),iv (w64 (a0.Room - a1.Size)),iv a1.At]) (by kernel_rfl) (cache_clear_2_c (a0:=(⟨a0.Room,a0.Lease,a0.Blobs,a0.Entries⟩:Cache)) (a1:=w64 (a0.Room - a1.Size)) (a2:=a1.At) hoa0_2 rfl hoa0_3 rfl hy3)) ?_
  rintro _ _ _ _ ⟨_,rfl,A3,c3,ch3,A4,c4,ch4,A5,c5,ch5,rfl,rfl,rfl,ho8,ho9,ho10⟩
  refine ⟨fun _ w hh=>⟨(fun h=>by cases h),fun _=>(Pk 6 [4,5]) w hh,(fun h=>by cases h)⟩,?_⟩
  refine De [11,12,13,14,15] 0 (nb 16 65535) [] [] [0,3,4,8,9] [(0,pg ga0 0),(3,pg g1 0),(4,pg g2 0),(8,.slice A3 y3.1.length c3),(9,.bool y3.2.1)] (Pk 6 [4,5]) (fun _ _=>trivial) ?_
  refine DrH.done (by kernel_rfl) ?_
  refine Ra 2 [1,1,1,1,0,0] [.c [1,1,1,1,0,1],.c [1,1,1,1,1]]<|Rd 2 [0,3,4,8,55] [(0,pg ga0 0),(3,pg g1 0),(4,pg g2 0),(8,.slice A3 y3.1.length c3),(55,.bool (!y3.2.1))] ?_
  rcases bool_cases (!y3.2.1) with hb3 | hb3
  ·replace heq:=bif_true hb3 heq
   refine Ct (!y3.2.1) hb3<|Ra 1 [1,1,1,1,0,1,0,0] [.c [1,1,1,1,0,1,0,1],.c [1,1,1,1,1]]<|Rk 1 [0,4,56] [(0,pg ga0 0),(4,pg g2 0),(56,.agg #[.bool false,.slice none 0 0,.slice none 0 0])] ?_
   refine RgH.does (DoesH.store (k:=4) (g:=g2) (off:=0) (v:=.agg #[.bool false,.slice none 0 0,.slice none 0 0]) (cells':=#[.bool false,.slice none 0 0,.slice none 0 0]) (by kernel_rfl) rfl (by kernel_rfl) (by kernel_rfl)) ?_
   rintro _ _ _ _ ⟨rfl,rfl,rfl⟩
   refine Rd 3 [0,4,5] [(0,pg ga0 0),(4,pg g2 0),(5,iv 0)]<|RunH.nilc ?_
   have ho11:SlOwn Kd.string 9 H none 0 ([]:List ByteArray) none:=SlOwn.nil
   refine RunH.nilc ?_
   have ho12:SlOwn Kd.string 9 H none 0 ([]:List ByteArray) none:=SlOwn.nil
   obtain rfl:=Option.some.inj heq
   refine RunH.pick 8 [6,1,0,3,4,5] (cs':=(some (g2,.cells #[.bool false,.slice none 0 0,.slice none 0 0] 36 (0,0)))::none::none::(some (ga0,.cells #[iv y3.2.2.Room,iv y3.2.2.Lease,.slice A4 y3.2.2.Blobs.length c4,.slice A5 y3.2.2.Entries.length c5] 25 (0,0)))::ch4::ch5::F) (by kernel_rfl) rfl ?_
   exact RunH.doneM' 1 (vs:=[.agg #[.bool false,.slice none 0 0,.slice none 0 0],iv 0]) (v:=.tuple #[.agg #[.bool false,.slice none 0 0,.slice none 0 0],iv 0]) (by kernel_rfl) Tryd.func25 (fun w hh=>show ResAll _ _ _ [.cell 4 36,.tmp 5] _ from ⟨⟨⟨g2,0,none⟩,by kernel_rfl,trS_run _ (vs:=[.bool false,.slice none 0 0,.slice none 0 0]) (r:=[]) (es:=[.load ⟨g2,0,none⟩ (.bool false),.load ⟨g2,1,none⟩ (.slice none 0 0),.load ⟨g2,2,none⟩ (.slice none 0 0)]) (by kernel_rfl) ⟨(hh.box 0 rfl rfl),(hh.box 0 rfl rfl),(hh.box 0 rfl rfl)⟩⟩,(show lk _ _=some _ by kernel_rfl),trivial⟩) rfl (cs':=none::none::(some (ga0,.cells #[iv y3.2.2.Room,iv y3.2.2.Lease,.slice A4 y3.2.2.Blobs.length c4,.slice A5 y3.2.2.Entries.length c5] 25 (0,0)))::ch4::ch5::F) rfl ⟨none,0,none,none,0,none,A4,c4,ch4,A5,c5,ch5,rfl,rfl,rfl,ho11,ho12,ho9,ho10⟩
  ·replace heq:=bif_false hb3 heq
   refine Cf (!y3.2.1) hb3<|Ra 3 [1,1,1,1,1,0,0] [.c [1,1,1,1,1,0,1],.c [1,1,1,1,1,1]]<|Rw' 6 [0,3,4,8,62] [.slice A4 y3.2.2.Blobs.length c4] [.load ⟨ga0,2,none⟩ (.slice A4 y3.2.2.Blobs.length c4)] [(0,pg ga0 0),(3,pg g1 0),(4,pg g2 0),(8,.slice A3 y3.1.length c3),(62,.bool (decide (3000≤(y3.2.2.Blobs.length:Int))))] (fun w hh=>(hh.box 1 rfl rfl)) ?_
   rcases bool_cases (decide (3000≤(y3.2.2.Blobs.length:Int))) with hb4 | hb4
   ·replace heq:=bif_true hb4 heq
    refine Ct (decide (3000≤(y3.2.2.Blobs.length:Int))) hb4<|Ra 1 [1,1,1,1,1,0,1,0,0] [.c [1,1,1,1,1,0,1,0,1],.c [1,1,1,1,1,1]]<|Rk 1 [0,4,63] [(0,pg ga0 0),(4,pg g2 0),(63,.agg #[.bool false,.slice none 0 0,.slice none 0 0])] ?_
    refine RgH.does (DoesH.store (k:=4) (g:=g2) (off:=0) (v:=.agg #[.bool false,.slice none 0 0,.slice none 0 0]) (cells':=#[.bool false,.slice none 0 0,.slice none 0 0]) (by kernel_rfl) rfl (by kernel_rfl) (by kernel_rfl)) ?_
    rintro _ _ _ _ ⟨rfl,rfl,rfl⟩
    refine Rd 3 [0,4,5] [(0,pg ga0 0),(4,pg g2 0),(5,iv 16)]<|RunH.nilc ?_
    have ho13:SlOwn Kd.string 9 H none 0 ([]:List ByteArray) none:=SlOwn.nil
    refine RunH.nilc ?_
    have ho14:SlOwn Kd.string 9 H none 0 ([]:List ByteArray) none:=SlOwn.nil
    obtain rfl:=Option.some.inj heq
    refine RunH.pick 8 [6,1,0,3,4,5] (cs':=(some (g2,.cells #[.bool false,.slice none 0 0,.slice none 0 0] 36 (0,0)))::none::none::(some (ga0,.cells #[iv y3.2.2.Room,iv y3.2.2.Lease,.slice A4 y3.2.2.Blobs.length c4,.slice A5 y3.2.2.Entries.length c5] 25 (0,0)))::ch4::ch5::F) (by kernel_rfl) rfl ?_
    exact RunH.doneM' 1 (vs:=[.agg #[.bool false,.slice none 0 0,.slice none 0 0],iv 16]) (v:=.tuple #[.agg #[.bool false,.slice none 0 0,.slice none 0 0],iv 16]) (by kernel_rfl) Tryd.func25 (fun w hh=>show ResAll _ _ _ [.cell 4 36,.tmp 5] _ from ⟨⟨⟨g2,0,none⟩,by kernel_rfl,trS_run _ (vs:=[.bool false,.slice none 0 0,.slice none 0 0]) (r:=[]) (es:=[.load ⟨g2,0,none⟩ (.bool false),.load ⟨g2,1,none⟩ (.slice none 0 0),.load ⟨g2,2,none⟩ (.slice none 0 0)]) (by kernel_rfl) ⟨(hh.box 0 rfl rfl),(hh.box 0 rfl rfl),(hh.box 0 rfl rfl)⟩⟩,(show lk _ _=some _ by kernel_rfl),trivial⟩) rfl (cs':=none::none::(some (ga0,.cells #[iv y3.2.2.Room,iv y3.2.2.Lease,.slice A4 y3.2.2.Blobs.length c4,.slice A5 y3.2.2.Entries.length c5] 25 (0,0)))::ch4::ch5::F) rfl ⟨none,0,none,none,0,none,A4,c4,ch4,A5,c5,ch5,rfl,rfl,rfl,ho13,ho14,ho9,ho10⟩
   ·replace heq:=bif_false hb4 heq
    refine Cf (decide (3000≤(y3.2.2.Blobs.length:Int))) hb4<|Ad 2 [.c [1,1,1,1,1,1,0],.c [1,1,1,1,1,1,1]]<|Kp [0,3,4,8] [(0,pg ga0 0),(3,pg g1 0),(4,pg g2 0),(8,.slice A3 y3.1.length c3)] ?_
    refine RunH.draw (fun w=>Heap H w0 w (ch3::(some (ga0,.cells #[iv y3.2.2.Room,iv y3.2.2.Lease,.slice A4 y3.2.2.Blobs.length c4,.slice A5 y3.2.2.Entries.length c5] 25 (0,0)))::ch4::ch5::(some (g2,.cells #[.bool false,.slice none 0 0,.slice none 0 0] 36 (0,0)))::(some (g1,.cells #[iv a1.Kind,iv a1.At,.string a1.Digest,.slice Aa1_3 a1.Digests.length ca1_3,.string a1.Key,iv a1.Size] 40 (0,0)))::F)) (fun w=>Heap H w0 w (ch3::(some (ga0,.cells #[iv y3.2.2.Room,iv y3.2.2.Lease,.slice A4 y3.2.2.Blobs.length c4,.slice A5 y3.2.2.Entries.length c5] 25 (0,0)))::ch4::ch5::(some (g2,.cells #[.bool false,.slice none 0 0,.slice none 0 0] 36 (0,0)))::(some (g1,.cells #[iv a1.Kind,iv a1.At,.string a1.Digest,.slice Aa1_3 a1.Digests.length ca1_3,.string a1.Key,iv a1.Size] 40 (0,0)))::F)) [3,3,3,3,3,0,3,3,3,3] (n:=10) (ls:=[false,false,false,false,false,false,false,false,false,false]) (by kernel_rfl) (by kernel_rfl) (by kernel_rfl) rfl ?_
    refine Dk [0,1,2,3,4] 5 (nb 10 31) [iv y3.2.2.Room,iv y3.2.2.Lease,.slice A4 y3.2.2.Blobs.length c4,.slice A5 y3.2.2.Entries.length c5,.string a1.Digest] [.load ⟨ga0,0,none⟩ (iv y3.2.2.Room),.load ⟨ga0,1,none⟩ (iv y3.2.2.Lease),.load ⟨ga0,2,none⟩ (.slice A4 y3.2.2.Blobs.length c4),.load ⟨ga0,3,none⟩ (.slice A5 y3.2.2.Entries.length c5),.load ⟨g1,2,none⟩ (.string a1.Digest)] [0,3,4,8,67,69] [(0,pg ga0 0),(3,pg g1 0),(4,pg g2 0),(8,.slice A3 y3.1.length c3),(67,.agg #[iv y3.2.2.Room,iv y3.2.2.Lease,.slice A4 y3.2.2.Blobs.length c4,.slice A5 y3.2.2.Entries.length c5]),(69,.string a1.Digest)] (Pk 6 [0,1,2,3,4,5]) (Pk 6 [0,1,2,3,4,5]) (fun w hh=>⟨(hh.box 1 rfl rfl),(hh.box 1 rfl rfl),(hh.box 1 rfl rfl),(hh.box 1 rfl rfl),(hh.box 5 rfl rfl)⟩) ?_
    obtain ⟨y4,hy4,heq⟩:=bind_some heq
    refine DrH.does (n:=4) (ls':=[true,true,true,true,true,true,false,false,false,false]) 5 (by kernel_rfl) rfl (DoesH.call (d:=70) (g:=24) (args:=#[.agg #[iv y3.2.2.Room,iv y3.2.2.Lease,.slice A4 y3.2.2.Blobs.length c4,.slice A5 y3.2.2.Entries.length c5],.string a1.Digest]) (by kernel_rfl) (cache_find_c (a0:=(⟨y3.2.2.Room,y3.2.2.Lease,y3.2.2.Blobs,y3.2.2.Entries⟩:Cache)) (a1:=a1.Digest) (ho9.rw (.tail _ (.tail _ (.head _)))) ho9.cap rfl (ho10.rw (.tail _ (.tail _ (.tail _ (.head _))))) ho10.cap rfl hy4)) ?_
    rintro _ _ _ _ ⟨_,rfl,rfl,rfl,rfl⟩
    refine ⟨fun _ w hh=>⟨fun _=>(Pk 6 [0,1,2,3,4,5]) w hh,fun _=>(Pk 6 [0,1,2,3,4,5]) w hh,(fun h=>by cases h)⟩,?_⟩
    refine Dk [6,7,8,9] 0 (nb 10 1023) [] [] [0,3,4,6,8] [(0,pg ga0 0),(3,pg g1 0),(4,pg g2 0),(6,iv y4.1),(8,.slice A3 y3.1.length c3)] (Pk 6 [0,1,2,3,4,5]) (Pk 6 [0,1,2,3,4,5]) (fun _ _=>trivial) ?_
    refine DrH.done (by kernel_rfl) ?_
    refine Ad 1 [.c [1,1,1,1,1,1,1,0],.c [1,1,1,1,1,1,1,1]]<|Kp [0,3,4,6,8] [(0,pg ga0 0),(3,pg g1 0),(4,pg g2 0),(6,iv y4.1),(8,.slice A3 y3.1.length c3)] ?_
    refine RunH.draw (fun w=>Heap H w0 w (ch3::(some (ga0,.cells #[iv y3.2.2.Room,iv y3.2.2.Lease,.slice A4 y3.2.2.Blobs.length c4,.slice A5 y3.2.2.Entries.length c5] 25 (0,0)))::ch4::ch5::(some (g2,.cells #[.bool false,.slice none 0 0,.slice none 0 0] 36 (0,0)))::(some (g1,.cells #[iv a1.Kind,iv a1.At,.string a1.Digest,.slice Aa1_3 a1.Digests.length ca1_3,.string a1.Key,iv a1.Size] 40 (0,0)))::F)) (fun w=>Heap H w0 w (ch3::(some (ga0,.cells #[iv y3.2.2.Room,iv y3.2.2.Lease,.slice A4 y3.2.2.Blobs.length c4,.slice A5 y3.2.2.Entries.length c5] 25 (0,0)))::ch5::(some (g2,.cells #[.bool false,.slice none 0 0,.slice none 0 0] 36 (0,0)))::(some (g1,.cells #[iv a1.Kind,iv a1.At,.string a1.Digest,.slice Aa1_3 a1.Digests.length ca1_3,.string a1.Key,iv a1.Size] 40 (0,0)))::F)) [3,3,3,3,3,3,3,3,3,3,3,3,3,3,3,3,3,3,3,3,0,1,1,3,2] (n:=25) (ls:=[false,false,false,false,false,false,false,false,false,false,false,false,false,false,false,false,false,false,false,false,false,false,false,false,false]) (by kernel_rfl) (by kernel_rfl) (by kernel_rfl) rfl ?_
    refine De [0,1,2,3] 21 (nb 25 15) [] [] [0,3,4,6,8,73,76] [(0,pg ga0 0),(3,pg g1 0),(4,pg g2 0),(6,iv y4.1),(8,.slice A3 y3.1.length c3),(73,pg ga0 0),(76,pg ga0 2)] (Pk 6 [0,1,3,4,5]) (fun _ _=>trivial)<|Dk [4,5] 19 (nb 25 63) [.slice A4 y3.2.2.Blobs.length c4] [.load ⟨ga0,2,none⟩ (.slice A4 y3.2.2.Blobs.length c4)] [0,3,4,8,73,77,78] [(0,pg ga0 0),(3,pg g1 0),(4,pg g2 0),(8,.slice A3 y3.1.length c3),(73,pg ga0 0),(77,.slice A4 y3.2.2.Blobs.length c4),(78,iv y4.1)] (Pk 6 [0,1,2,3,4,5]) (Pk 6 [0,1,3,4,5]) (fun w hh=>(hh.box 1 rfl rfl))<|De [6,7,8,9,10,11,12,13,14,15,16,17,18,19] 5 (nb 25 1048575) [.string a1.Digest,iv a1.Size,iv a1.At,iv a1.At,iv y3.2.2.Lease] [.load ⟨g1,2,none⟩ (.string a1.Digest),.load ⟨g1,5,none⟩ (iv a1.Size),.load ⟨g1,1,none⟩ (iv a1.At),.load ⟨g1,1,none⟩ (iv a1.At),.load ⟨ga0,1,none⟩ (iv y3.2.2.Lease)] [0,4,8,73,77,78,92] [(0,pg ga0 0),(4,pg g2 0),(8,.slice A3 y3.1.length c3),(73,pg ga0 0),(77,.slice A4 y3.2.2.Blobs.length c4),(78,iv y4.1),(92,.agg #[.string a1.Digest,iv a1.Size,iv a1.At,iv (w64 (a1.At+y3.2.2.Lease)),iv 0])] (Pk 6 [0,1,3,4,5]) (fun w hh=>⟨(hh.box 4 rfl rfl),(hh.box 4 rfl rfl),(hh.box 4 rfl rfl),(hh.box 4 rfl rfl),(hh.box 1 rfl rfl)⟩) ?_
    refine DrH.does (n:=4) (ls':=[true,true,true,true,true,true,true,true,true,true,true,true,true,true,true,true,true,true,true,true,true,false,false,false,false]) 20 (by kernel_rfl) rfl (DoesH.new (d:=93) (v:=fun g=>.slice (some ⟨g,0,none⟩) 1 1) (o:=fun g=>.cells #[.string a1.Digest,iv a1.Size,iv a1.At,iv (w64 (a1.At+y3.2.2.Lease)),iv 0] 29 (0,0)) (fun g=>by kernel_rfl)) ?_
    rintro _ _ _ _ ⟨g4,rfl,rfl,rfl⟩
    have ho15:SlOwn kBlob 29 H (some ⟨g4,0,none⟩) 1 ([(⟨a1.Digest,a1.Size,a1.At,w64 (a1.At+y3.2.2.Lease),0⟩:Blob)]:List Blob) (some (g4,.cells #[.string a1.Digest,iv a1.Size,iv a1.At,iv (w64 (a1.At+y3.2.2.Lease)),iv 0] 29 (0,0))):=SlOwn.lit (xs:=([(⟨a1.Digest,a1.Size,a1.At,w64 (a1.At+y3.2.2.Lease),0⟩:Blob)]:List Blob)) (by kernel_rfl) (Nat.le_of_ble_eq_true (by kernel_rfl)) (Kd.Rep.one kBlob_mk)
    refine ⟨fun _ w hh=>⟨fun _=>(Pk 7 [1,2,3,4,5,6]) w hh,fun _=>(Pk 7 [1,2,4,5,6]) w hh,(fun h=>by cases h)⟩,?_⟩
    refine Kr [0,4,8,73,77,78,93] [(0,pg ga0 0),(4,pg g2 0),(8,.slice A3 y3.1.length c3),(73,pg ga0 0),(77,.slice A4 y3.2.2.Blobs.length c4),(78,iv y4.1),(93,.slice (some ⟨g4,0,none⟩) 1 1)] ?_
    refine DrH.pick 7 [3,0,1,2,4,5,6] (cs':=ch4::(some (g4,.cells #[.string a1.Digest,iv a1.Size,iv a1.At,iv (w64 (a1.At+y3.2.2.Lease)),iv 0] 29 (0,0)))::ch3::(some (ga0,.cells #[iv y3.2.2.Room,iv y3.2.2.Lease,.slice A4 y3.2.2.Blobs.length c4,.slice A5 y3.2.2.Entries.length c5] 25 (0,0)))::ch5::(some (g2,.cells #[.bool false,.slice none 0 0,.slice none 0 0] 36 (0,0)))::(some (g1,.cells #[iv a1.Kind,iv a1.At,.string a1.Digest,.slice Aa1_3 a1.Digests.length ca1_3,.string a1.Key,iv a1.Size] 40 (0,0)))::F) (by kernel_rfl) rfl ?_
    obtain ⟨y5,hy5,heq⟩:=bind_some heq
    refine DrH.does (n:=3) (ls':=[true,true,true,true,true,true,true,true,true,true,true,true,true,true,true,true,true,true,true,true,true,true,false,false,false]) 21 (by kernel_rfl) rfl (DoesH.call (d:=94) (g:=45) (args:=#[.slice A4 y3.2.2.Blobs.length c4,iv y4.1,.slice (some ⟨g4,0,none⟩) 1 1]) (by kernel_rfl) (slices_Insert_Blob_c (a0:=y3.2.2.Blobs) (a1:=y4.1) (a2:=([(⟨a1.Digest,a1.Size,a1.At,w64 (a1.At+y3.2.2.Lease),0⟩:Blob)]:List Blob)) ho9 rfl ho15 rfl hy5)) ?_
    rintro _ _ _ _ ⟨_,rfl,A6,c6,ch6,rfl,rfl,rfl,ho16⟩
    refine ⟨fun _ w hh=>⟨(fun h=>by cases h),fun _=>(Pk 6 [1,2,3,4,5]) w hh,(fun h=>by cases h)⟩,?_⟩
    refine Kr [94,0,4,8,73,78] [(94,.slice A6 y5.length c6),(0,pg ga0 0),(4,pg g2 0),(8,.slice A3 y3.1.length c3),(73,pg ga0 0),(78,iv y4.1)]<|Kr [0,4,8,73,94] [(0,pg ga0 0),(4,pg g2 0),(8,.slice A3 y3.1.length c3),(73,pg ga0 0),(94,.slice A6 y5.length c6)] ?_
    refine DrH.does (n:=2) (ls':=[true,true,true,true,true,true,true,true,true,true,true,true,true,true,true,true,true,true,true,true,true,true,true,false,false]) 22 (by kernel_rfl) rfl (DoesH.pureop (d:=95) (v:=.pointer (some ⟨ga0,0,none⟩)) (vs:=[]) (evs:=[]) (by kernel_rfl) (fun _ _=>trivial)) ?_
    rintro _ _ _ _ ⟨rfl,rfl,rfl⟩
    refine ⟨fun _ w hh=>⟨(fun h=>by cases h),fun _=>(Pk 6 [1,2,3,4,5]) w hh,(fun h=>by cases h)⟩,?_⟩
    refine De [23] 1 (nb 25 16777215) [] [] [0,4,8,94,96] [(0,pg ga0 0),(4,pg g2 0),(8,.slice A3 y3.1.length c3),(94,.slice A6 y5.length c6),(96,pg ga0 2)] (Pk 6 [1,2,3,4,5]) (fun _ _=>trivial) ?_
    refine DrH.does (n:=0) (ls':=[true,true,true,true,true,true,true,true,true,true,true,true,true,true,true,true,true,true,true,true,true,true,true,true,true]) 24 (by kernel_rfl) rfl (DoesH.store (k:=2) (g:=ga0) (off:=2) (v:=.slice A6 y5.length c6) (cells':=#[iv y3.2.2.Room,iv y3.2.2.Lease,.slice A6 y5.length c6,.slice A5 y3.2.2.Entries.length c5]) (by kernel_rfl) rfl (by kernel_rfl) (by kernel_rfl)) ?_
    rintro _ _ _ _ ⟨rfl,rfl,rfl⟩
    refine ⟨fun _ w hh=>⟨(fun h=>by cases h),(fun h=>absurd h (by decide)),(fun h=>by cases h)⟩,?_⟩
    refine Kr [0,4,8] [(0,pg ga0 0),(4,pg g2 0),(8,.slice A3 y3.1.length c3)] ?_
    refine DrH.done (by kernel_rfl) ?_
    refine Ra 1 [1,1,1,1,1,1,1,1,0] [.c [1,1,1,1,1,1,1,1,1]]<|Rk 2 [0,4,98] [(0,pg ga0 0),(4,pg g2 0),(98,.agg #[.bool true,.slice none 0 0,.slice A3 y3.1.length c3])] ?_
    refine RgH.does (DoesH.store (k:=4) (g:=g2) (off:=0) (v:=.agg #[.bool true,.slice none 0 0,.slice A3 y3.1.length c3]) (cells':=#[.bool true,.slice none 0 0,.slice A3 y3.1.length c3]) (by kernel_rfl) rfl (by kernel_rfl) (by kernel_rfl)) ?_
    rintro _ _ _ _ ⟨rfl,rfl,rfl⟩
    refine Rd 4 [0,4,5] [(0,pg ga0 0),(4,pg g2 0),(5,iv 0)]<|RunH.nilc ?_
    have ho17:SlOwn Kd.string 9 H none 0 ([]:List ByteArray) none:=SlOwn.nil
    obtain rfl:=Option.some.inj heq
    refine RunH.pick 7 [5,0,2,3,1,4] (cs':=(some (g2,.cells #[.bool true,.slice none 0 0,.slice A3 y3.1.length c3] 36 (0,0)))::none::ch3::(some (ga0,.cells #[iv y3.2.2.Room,iv y3.2.2.Lease,.slice A6 y5.length c6,.slice A5 y3.2.2.Entries.length c5] 25 (0,0)))::ch6::ch5::F) (by kernel_rfl) rfl ?_
    exact RunH.doneM' 1 (vs:=[.agg #[.bool true,.slice none 0 0,.slice A3 y3.1.length c3],iv 0]) (v:=.tuple #[.agg #[.bool true,.slice none 0 0,.slice A3 y3.1.length c3],iv 0]) (by kernel_rfl) Tryd.func25 (fun w hh=>show ResAll _ _ _ [.cell 4 36,.tmp 5] _ from ⟨⟨⟨g2,0,none⟩,by kernel_rfl,trS_run _ (vs:=[.bool true,.slice none 0 0,.slice A3 y3.1.length c3]) (r:=[]) (es:=[.load ⟨g2,0,none⟩ (.bool true),.load ⟨g2,1,none⟩ (.slice none 0 0),.load ⟨g2,2,none⟩ (.slice A3 y3.1.length c3)]) (by kernel_rfl) ⟨(hh.box 0 rfl rfl),(hh.box 0 rfl rfl),(hh.box 0 rfl rfl)⟩⟩,(show lk _ _=some _ by kernel_rfl),trivial⟩) rfl (cs':=none::ch3::(some (ga0,.cells #[iv y3.2.2.Room,iv y3.2.2.Lease,.slice A6 y5.length c6,.slice A5 y3.2.2.Entries.length c5] 25 (0,0)))::ch6::ch5::F) rfl ⟨none,0,none,A3,c3,ch3,A6,c6,ch6,A5,c5,ch5,rfl,rfl,rfl,ho17,ho8,ho16,ho10⟩
end Go.Proofs.YtadkanllaocdeaaDoor
