/- Texts of caches: the reference writes and reads the same. -/
import Derived.Test.YtnfgkhmhdefagaaGreatDoorPCv7
set_option linter.unusedVariables false
set_option linter.unusedSimpArgs false
namespace Go.Proofs.YtnfgkhmhdefagaaGreatDoor
open Go Go.Proofs.YtnfgkhmhdefagaaGreatDoor.Kit
/-! numbers -/
theorem digit_cmp (b:UInt8):digitB b=(!decide ((b.toNat:Int)<48)&&!decide (57<(b.toNat:Int))):=by
  have hu:=u8_all (p:=fun b=>digitB b == (!decide (b.toNat<48)&&!decide (57<b.toNat))) (by kernel_rfl) b
  rw [eq_of_beq hu]
  congr 2 <;> (rw [Bool.eq_iff_iff]; simp; omega)
theorem bytes_loop {e3:List ByteArray→List Int→Int→ByteArray→Option ((List Int) × Bool)} (a0:List ByteArray) (out:List Int) (i:Int) (x:ByteArray) (h:x.size≤4611686018427387904):∀ (d k:Nat) (v:Int),0≤v→v≤x.size→(x.size:Int) - v=d→d<k →
    smithyardref7_numbers.l4 e3 k a0 out i x v=bif (x.data.toList.drop v.toNat).all digitB then e3 a0 out i x else some (([]:List Int),false):=by
  intro d
  induction d with
  | zero =>
    intro k v h0 h1 hd hk
    obtain ⟨k,rfl⟩:∃ m,k=m+1:=⟨k - 1,by omega⟩
    have e:decide (v<(x.size:Int))=false:=decide_eq_false (by omega)
    have hn:x.data.toList.drop v.toNat=[]:=List.drop_eq_nil_of_le (by simp; omega)
    rw [smithyardref7_numbers.l4,e,hn]
    rfl
  | succ d ih =>
    intro k v h0 h1 hd hk
    obtain ⟨k,rfl⟩:∃ m,k=m+1:=⟨k - 1,by omega⟩
    have e:decide (v<(x.size:Int))=true:=decide_eq_true (by omega)
    have e0:decide ((0:Int)≤v)=true:=decide_eq_true (by omega)
    have hn:v.toNat<x.data.toList.length:=by simp; omega
    have hb:bt x v=((x.data.toList[v.toNat]).toNat:Int):=by
      have:=bt_of (s:=x) (i:=v.toNat) (List.getElem?_eq_getElem hn)
      rwa [Int.toNat_of_nonneg h0] at this
    have hw:w64 (v+1)=v+1:=w64_id (by omega) (by omega)
    rw [smithyardref7_numbers.l4,e,e0,hb,hw,ih k (v+1) (by omega) (by omega) (by omega) (by omega),List.drop_eq_getElem_cons hn,show (v+1).toNat=v.toNat+1 by omega]
    simp only [Bool.and_self,guard?,cond_true,List.all_cons]
    rw [digit_cmp]
    generalize x.data.toList[v.toNat]=c
    cases decide ((c.toNat:Int)<48) <;> cases decide (57<(c.toNat:Int)) <;> rfl
theorem num_ref (x:ByteArray) (a0:List ByteArray) (out:List Int) (i:Int) (e3:List ByteArray→List Int→Int→ByteArray→Option ((List Int) × Bool)):((bif sEq x ({ data:=#[] }:ByteArray) then (some true) else (bif decide (10<(x.size:Int)) then (some true) else (bif decide (1<(x.size:Int)) then (guard? (decide ((0:Int)≤0)&&decide (0<(x.size:Int))) (
    some ((bt x 0) == 48))) else (some false)))).bind fun t1 =>
    bif t1 then (some (([]:List Int),false)) else (smithyardref7_numbers.l4 e3 big a0 out i x 0))=bif !numB x then some (([]:List Int),false) else e3 a0 out i x:=by
  unfold numB
  by_cases h1:x.size<1
  · have:sEq x ({ data:=#[] }:ByteArray)=true:=by
      rw [sEq_data,decide_eq_true]
      have hl:x.data.toList.length=x.size:=by simp
      exact List.eq_nil_of_length_eq_zero (by omega)
    rw [this,decide_eq_false (show ¬ 1≤x.size by omega)]
    rfl
  obtain ⟨b,l,hs,hb,hz⟩:=head_cases (s:=x) (by omega)
  have he:sEq x ({ data:=#[] }:ByteArray)=false:=by
    rw [sEq_data,hs]
    simp
  rw [he,decide_eq_true (show 1≤x.size by omega)]
  by_cases h2:10<x.size
  · rw [decide_eq_true (show (10:Int)<(x.size:Int) by omega),decide_eq_false (show ¬ x.size≤10 by omega)]
    rfl
  rw [decide_eq_false (show ¬ (10:Int)<(x.size:Int) by omega),decide_eq_true (show x.size≤10 by omega),decide_eq_true (show (0:Int)<(x.size:Int) by omega),hb]
  have hl4:=bytes_loop (e3:=e3) a0 out i x (by omega) x.size big 0 (by omega) (by omega) (by omega) (by unfold big; omega)
  rw [hl4]
  simp only [Int.toNat_zero,List.drop_zero]
  have hh:headB x=(b.toNat == 48&&!(l == [])):=by unfold headB; rw [hs]
  have e1:(((b.toNat:Nat):Int) == 48)=(b.toNat == 48):=by rw [Bool.eq_iff_iff]; simp; omega
  rw [hh,e1]
  simp only [decide_true,Bool.and_self,guard?,cond_true,cond_false,Bool.true_and]
  cases l with
  | nil =>
    have hz1:x.size=1:=by simpa using hz
    rw [decide_eq_false (show ¬ (1:Int)<(x.size:Int) by omega)]
    cases x.data.toList.all digitB <;> cases (b.toNat == 48) <;> rfl
  | cons c l =>
    have hz1:x.size=l.length+1+1:=by simpa using hz
    rw [decide_eq_true (show (1:Int)<(x.size:Int) by omega)]
    cases x.data.toList.all digitB <;> cases (b.toNat == 48) <;> rfl
theorem numbers_ref {l:List ByteArray} (h:l.length≤4000000):smithyardref7_numbers.f l=some (bif l.all numB then (l.map valN,true) else ([],false)):=by
  unfold smithyardref7_numbers.f
  have h1:=rangeS_all (xs:=l) (S:=List Int) (L:=fun k s v=>smithyardref7_numbers.l2 smithyardref7_numbers.e1 k l s v) (body:=fun _ x (out:List Int) f=>bif !numB x then some (([]:List Int),false) else (strconv_Atoi.f x).bind fun y2=>guard? (room out.length 1 8) (f (out++([y2]:List Int)))) (e:=smithyardref7_numbers.e1) (by omega) (fun k s v=>by
    simp only [smithyardref7_numbers.l2]
    congr 1
    refine bind_at (fun x hx=>?_)
    rw [num_ref]
    rfl) []
  refine h1.trans ?_
  have h2:=nums_range l 0 [] (by simpa using h)
  exact h2
/-! a line -/
theorem sEq_comm (a b:ByteArray):sEq a b=sEq b a:=by
  rw [sEq_data,sEq_data,Bool.eq_iff_iff,decide_eq_true_eq,decide_eq_true_eq]
  exact ⟨Eq.symm,Eq.symm⟩
theorem anyLoop {α β:Type} {c:α→Bool} {a:Option β} {e:Unit→Option β}:∀ (l:List α) (i:Int),rangeS (fun _ x (s:Unit) f=>bif c x then a else f s) e i l ()=bif l.any c then a else e ()
  | [],i=>rfl
  | x::l,i=>by
    rw [rangeS,List.any_cons]
    cases c x
    · simp only [cond_false,Bool.false_or]
      exact anyLoop l (i+1)
    · rfl
theorem line_ref {c:Cache} {s:ByteArray} {first:Bool} (hs:s.size≤3000000) (hb:c.Blobs.length≤4000000) (he:c.Entries.length≤4000000):smithyardref7_line.f c s first=some (lineO c (lineV c first (wordsOf s))):=by
  have hl:=wordsOf_length s
  obtain ⟨_,hne,_⟩:=join_words s
  unfold smithyardref7_line.f lineV
  rw [splitW_eq (by omega)]
  simp only [Option.bind_some]
  generalize wordsOf s=ws at *
  have h1:=rangeS_all (xs:=ws) (S:=Unit) (L:=fun k _ v=>smithyardref7_line.l5 smithyardref7_line.e1 k c first ws v) (body:=fun _ x (s:Unit) f=>bif sEq x ({ data:=#[] }:ByteArray) then (some (false,(⟨c.Room,c.Lease,c.Blobs,c.Entries⟩:Cache))) else f s) (e:=fun _=>smithyardref7_line.e1 c first ws) (by omega) (fun k s v=>by
    simp only [smithyardref7_line.l5]) ()
  rw [h1,anyLoop]
  have e0:(ws.any fun x=>sEq x ({ data:=#[] }:ByteArray))=(ws.any fun x=>sEq emptyW x):=by
    congr 1
    funext x
    rw [sEq_comm]
    rfl
  rw [e0]
  cases ws.any fun x=>sEq emptyW x
  rotate_left
  · rfl
  simp only [cond_false]
  unfold smithyardref7_line.e1 smithyardref7_line.j2 smithyardref7_line.j3 smithyardref7_line.j4
  cases first
  rotate_left
  · simp only [cond_true]
    have hp:0<ws.length:=List.length_pos_iff.2 hne
    have hc:∀ w:ByteArray,sEq w ({ data:=#[99,97,99,104,101] }:ByteArray)=sEq w cacheW:=fun _=>rfl
    have hg:(decide ((0:Int)≤1)&&decide (1≤((ws.length:Nat):Int)))=true:=by rw [decide_eq_true (by omega),decide_eq_true (by omega)]; rfl
    rw [hg,numbers_ref (by rw [List.length_drop]; omega)]
    rcases ws with _ | ⟨w,_ | ⟨a,_ | ⟨b,_ | ⟨d,l⟩⟩⟩⟩
    · exact absurd rfl hne
    · simp only [Option.bind_some,at_0,hc,headV]
      cases sEq w cacheW <;> rfl
    · simp only [Option.bind_some,at_0,hc,headV]
      cases sEq w cacheW <;> rfl
    · have h3:(([w,a,b].length:Int) != 3)=false:=rfl
      simp only [List.drop_succ_cons,List.drop_zero,List.all_nil,List.all_cons,Bool.and_true,List.map_nil,List.map_cons,Option.bind_some,at_0,hc,headV,h3]
      cases sEq w cacheW <;> cases numB a <;> cases numB b <;> rfl
    · have h3:(((w::a::b::d::l).length:Int) != 3)=true:=by simp; omega
      simp only [Option.bind_some,at_0,hc,headV,h3]
      cases sEq w cacheW <;> rfl
  · simp only [cond_false]
    have hc:∀ w:ByteArray,sEq w ({ data:=#[98,108,111,98] }:ByteArray)=sEq w blobW:=fun _=>rfl
    have hd:∀ w:ByteArray,sEq w ({ data:=#[101,110,116,114,121] }:ByteArray)=sEq w entryW:=fun _=>rfl
    have hz:((c.Entries.length:Int) == 0)=decide (c.Entries.length=0):=by
      rw [Bool.eq_iff_iff]
      simp
    have ent:∀ ws:List ByteArray,ws≠[]→ws.length≤3000001→(((at? ws 0).bind fun x10 =>
        bif sEq x10 ({ data:=#[101,110,116,114,121] }:ByteArray) then (some (decide (3≤(ws.length:Int)))) else (some false)).bind fun t3 =>
        bif t3 then
        (guard? (decide ((0:Int)≤2)&&(decide ((2:Int)≤3)&&decide (3≤((ws.length:Nat):Int)))) (
        (smithyardref7_numbers.f ((ws.take 3).drop 2)).bind fun y4 =>
        bif y4.2 then
        ((at? ws 1).bind fun x11 =>
        (at? y4.1 0).bind fun x12 =>
        guard? (decide ((0:Int)≤3)&&decide (3≤((ws.length:Nat):Int))) (
        guard? (room c.Entries.length 1 48) (
        some (y4.2,(⟨c.Room,c.Lease,c.Blobs,(c.Entries++([(⟨x11,(ws.drop 3),x12⟩:Entry)]:List Entry))⟩:Cache)))))
        else
        (some (y4.2,(⟨c.Room,c.Lease,c.Blobs,c.Entries⟩:Cache)))))
        else
        (some (false,(⟨c.Room,c.Lease,c.Blobs,c.Entries⟩:Cache))))=some (lineO c (entV c ws)):=by
      intro ws hne hl
      rcases ws with _ | ⟨w,_ | ⟨a,_ | ⟨b,l⟩⟩⟩
      · exact absurd rfl hne
      · simp only [at_0,Option.bind_some,hd]
        cases sEq w entryW <;> rfl
      · simp only [at_0,Option.bind_some,hd]
        cases sEq w entryW <;> rfl
      · have h3:decide ((3:Int)≤((w::a::b::l).length:Int))=true:=decide_eq_true (by simp; omega)
        simp only [at_0,at_1,Option.bind_some,hd,h3]
        cases hw:sEq w entryW
        · simp only [cond_false,Option.bind_some]
          show _=some (lineO c (bif sEq w entryW&&numB b then _ else none))
          rw [hw]
          rfl
        · simp only [cond_true,Option.bind_some,List.take_succ_cons,List.take_zero,List.drop_succ_cons,List.drop_zero]
          rw [guard?_true (by simp),numbers_ref (by simp)]
          simp only [Option.bind_some,List.all_cons,List.all_nil,Bool.and_true,List.map_cons,List.map_nil]
          show _=some (lineO c (bif sEq w entryW&&numB b then _ else none))
          rw [hw]
          cases numB b
          · rfl
          · simp only [cond_true,at_0,Option.bind_some,Bool.and_self]
            rw [guard?_true (by simp),guard?_true (room_of (by omega))]
            rfl
    have ent':=ent ws hne (by omega)
    rcases ws with _ | ⟨w,_ | ⟨a,_ | ⟨b,_ | ⟨d,_ | ⟨e,_ | ⟨f,_ | ⟨g,l⟩⟩⟩⟩⟩⟩⟩
    · exact absurd rfl hne
    · rw [show blobV c [w]=entV c [w] from rfl,← ent']
      simp only [at_0,Option.bind_some,hc]
      cases sEq w blobW <;> rfl
    · rw [show blobV c [w,a]=entV c [w,a] from rfl,← ent']
      simp only [at_0,Option.bind_some,hc]
      cases sEq w blobW <;> rfl
    · rw [show blobV c [w,a,b]=entV c [w,a,b] from rfl,← ent']
      simp only [at_0,Option.bind_some,hc]
      cases sEq w blobW <;> rfl
    · rw [show blobV c [w,a,b,d]=entV c [w,a,b,d] from rfl,← ent']
      simp only [at_0,Option.bind_some,hc]
      cases sEq w blobW <;> rfl
    · rw [show blobV c [w,a,b,d,e]=entV c [w,a,b,d,e] from rfl,← ent']
      simp only [at_0,Option.bind_some,hc]
      cases sEq w blobW <;> rfl
    · have h6:(([w,a,b,d,e,f].length:Int) == 6)=true:=rfl
      cases hw:sEq w blobW
      · rw [show blobV c [w,a,b,d,e,f]=entV c [w,a,b,d,e,f] by rw [blobV_six,hw]; rfl,← ent']
        simp only [at_0,Option.bind_some,hc,hw]
        rfl
      · cases hz':decide (c.Entries.length=0)
        · rw [show blobV c [w,a,b,d,e,f]=entV c [w,a,b,d,e,f] by rw [blobV_six,hw,hz']; rfl,← ent']
          simp only [at_0,Option.bind_some,hc,hw,h6,hz,hz',cond_true]
          rfl
        · rw [show blobV c [w,a,b,d,e,f]=(bif numB b&&(numB d&&(numB e&&numB f)) then some ⟨c.Room,c.Lease,c.Blobs++[⟨a,valN b,valN d,valN e,valN f⟩],c.Entries⟩ else none) by rw [blobV_six,hw,hz']; rfl]
          simp only [at_0,Option.bind_some,hc,hw,h6,hz,hz',cond_true]
          rw [guard?_true (by simp),numbers_ref (by simp)]
          simp only [List.drop_succ_cons,List.drop_zero,List.all_cons,List.all_nil,Bool.and_true,List.map_cons,List.map_nil,Option.bind_some]
          cases (numB b&&(numB d&&(numB e&&numB f)))
          · rfl
          · simp only [cond_true,at_0,at_1,at_2,at_3,Option.bind_some]
            rw [guard?_true (room_of (by omega))]
            rfl
    · rw [show blobV c (w::a::b::d::e::f::g::l)=entV c (w::a::b::d::e::f::g::l) from rfl,← ent']
      simp only [at_0,Option.bind_some,hc]
      have:(((w::a::b::d::e::f::g::l).length:Int) == 6)=false:=by simp; omega
      rw [this]
      cases sEq w blobW <;> rfl
/-! Read -/
theorem read_loopR:∀ (k:Nat) (t:ByteArray) (c:Cache) (i:Int) (n:Nat),0≤i→bndC c n→n+t.size≤3000000→i+t.size≤4000000→smithyardref7_Read.l2 smithyardref7_Read.e1 k t c.Room c.Lease c.Blobs c.Entries i=readV k t c i
  | 0,t,c,i,n,_,_,_,_=>rfl
  | k+1,t,c,i,n,h0,hb,hn,hi=>by
    have hw:w64 (i+1)=i+1:=w64_id (by omega) (by omega)
    have hw1:((i+1 == 1):Bool)=(i == 0):=by rw [Bool.eq_iff_iff]; simp; omega
    rw [smithyardref7_Read.l2,readV]
    have e1:(bif !sEq t ({ data:=#[] }:ByteArray) then (some true) else (some (i == 0)))=some ((i == 0)||!sEq t emptyW):=by
      show (bif !sEq t emptyW then (some true) else (some (i == 0)))=_
      cases i == 0 <;> cases sEq t emptyW <;> rfl
    rw [e1]
    simp only [Option.bind_some]
    cases hc:((i == 0)||!sEq t emptyW)
    · simp only [cond_false]
      unfold smithyardref7_Read.e1 readE
      rw [check_ref (c:=c) (bnd_small hb (by omega))]
      obtain ⟨r,hr⟩:=cacheS_some c
      rw [hr]
      rfl
    · simp only [cond_true]
      rcases cut_any t (by omega) with ⟨a,r,hs,hz,hcut⟩ | hcut
      · rw [hcut]
        simp only [Option.bind_some,Bool.not_true,cond_false]
        rw [line_ref (c:=c) (by omega) (by have:=hb.1; omega) (by have:=hb.1; omega),hw,hw1]
        simp only [Option.bind_some]
        cases hl:lineV c (i == 0) (wordsOf a) with
        | none =>
          simp only [lineO,Bool.not_false,cond_true]
          rfl
        | some c' =>
          simp only [lineO,Bool.not_true,cond_false]
          exact read_loopR k r c' (i+1) (n+1) (by omega) (line_bnd (by omega) hl hb) (by omega) (by omega)
      · rw [hcut]
        simp only [Option.bind_some,Bool.not_false,cond_true,hw]
        rfl
theorem read_ref {t:ByteArray} (ht:t.size≤2000000):smithyardref7_Read.f t=readV big t noC 0:=by
  unfold smithyardref7_Read.f
  rw [decide_eq_false (by omega),cond_false]
  exact read_loopR big t noC 0 0 (by omega) ⟨by simp [noC],fun x hx=>by simp [noC] at hx,fun x hx=>by simp [noC] at hx⟩ (by omega) (by omega)
/-! Text -/
def blobTR (x:Blob) (s:ByteArray) (f:ByteArray→Option (ByteArray × Int)):Option (ByteArray × Int) :=
    guard? (decide (({ data:=#[98,108,111,98,32] }:ByteArray).size+x.Digest.size≤9223372036854775807)) (
    guard? (decide ((({ data:=#[98,108,111,98,32] }:ByteArray)++x.Digest).size+({ data:=#[32] }:ByteArray).size≤9223372036854775807)) (
    (strconv_Itoa.f x.Size).bind fun y5 =>
    guard? (decide (((({ data:=#[98,108,111,98,32] }:ByteArray)++x.Digest)++({ data:=#[32] }:ByteArray)).size+y5.size≤9223372036854775807)) (
    guard? (decide ((((({ data:=#[98,108,111,98,32] }:ByteArray)++x.Digest)++({ data:=#[32] }:ByteArray))++y5).size+({ data:=#[32] }:ByteArray).size≤9223372036854775807)) (
    (strconv_Itoa.f x.Used).bind fun y6 =>
    guard? (decide (((((({ data:=#[98,108,111,98,32] }:ByteArray)++x.Digest)++({ data:=#[32] }:ByteArray))++y5)++({ data:=#[32] }:ByteArray)).size+y6.size≤9223372036854775807)) (
    guard? (decide ((((((({ data:=#[98,108,111,98,32] }:ByteArray)++x.Digest)++({ data:=#[32] }:ByteArray))++y5)++({ data:=#[32] }:ByteArray))++y6).size+({ data:=#[32] }:ByteArray).size≤9223372036854775807)) (
    (strconv_Itoa.f x.Until).bind fun y7 =>
    guard? (decide (((((((({ data:=#[98,108,111,98,32] }:ByteArray)++x.Digest)++({ data:=#[32] }:ByteArray))++y5)++({ data:=#[32] }:ByteArray))++y6)++({ data:=#[32] }:ByteArray)).size+y7.size≤9223372036854775807)) (
    guard? (decide ((((((((({ data:=#[98,108,111,98,32] }:ByteArray)++x.Digest)++({ data:=#[32] }:ByteArray))++y5)++({ data:=#[32] }:ByteArray))++y6)++({ data:=#[32] }:ByteArray))++y7).size+({ data:=#[32] }:ByteArray).size≤9223372036854775807)) (
    (strconv_Itoa.f x.Pins).bind fun y8 =>
    guard? (decide (((((((((({ data:=#[98,108,111,98,32] }:ByteArray)++x.Digest)++({ data:=#[32] }:ByteArray))++y5)++({ data:=#[32] }:ByteArray))++y6)++({ data:=#[32] }:ByteArray))++y7)++({ data:=#[32] }:ByteArray)).size+y8.size≤9223372036854775807)) (
    guard? (decide ((((((((((({ data:=#[98,108,111,98,32] }:ByteArray)++x.Digest)++({ data:=#[32] }:ByteArray))++y5)++({ data:=#[32] }:ByteArray))++y6)++({ data:=#[32] }:ByteArray))++y7)++({ data:=#[32] }:ByteArray))++y8).size+({ data:=#[10] }:ByteArray).size≤9223372036854775807)) (
    guard? (decide (s.size+((((((((((({ data:=#[98,108,111,98,32] }:ByteArray)++x.Digest)++({ data:=#[32] }:ByteArray))++y5)++({ data:=#[32] }:ByteArray))++y6)++({ data:=#[32] }:ByteArray))++y7)++({ data:=#[32] }:ByteArray))++y8)++({ data:=#[10] }:ByteArray)).size≤9223372036854775807)) (
    f (s++((((((((((({ data:=#[98,108,111,98,32] }:ByteArray)++x.Digest)++({ data:=#[32] }:ByteArray))++y5)++({ data:=#[32] }:ByteArray))++y6)++({ data:=#[32] }:ByteArray))++y7)++({ data:=#[32] }:ByteArray))++y8)++({ data:=#[10] }:ByteArray))))))))))))))
theorem blobTR_eq {x:Blob} (h:okBlob x) {s:ByteArray} (hs:s.size≤50000000) (f:ByteArray→Option (ByteArray × Int)):blobTR x s f=f (appB s (lineL (blobWs x))):=by
  obtain ⟨h1,h2,h3,h4,h5,h6,h7,h8,h9⟩:=h
  obtain ⟨-,-,-,a⟩:=clean_num h2 (show x.Size≤9999999999 by omega)
  obtain ⟨-,-,-,b⟩:=clean_num h4 (show x.Used≤9999999999 by omega)
  obtain ⟨-,-,-,c⟩:=clean_num h6 (show x.Until≤9999999999 by omega)
  obtain ⟨-,-,-,d⟩:=clean_num h8 (show x.Pins≤9999999999 by omega)
  have e:=(clean_dig h1).2
  have z1:({ data:=#[98,108,111,98,32] }:ByteArray).size=5:=rfl
  have z2:({ data:=#[32] }:ByteArray).size=1:=rfl
  have z3:({ data:=#[10] }:ByteArray).size=1:=rfl
  unfold blobTR
  rw [itoa_eq (n:=x.Size) (by omega) (by omega),itoa_eq (n:=x.Used) (by omega) (by omega),itoa_eq (n:=x.Until) (by omega) (by omega),itoa_eq (n:=x.Pins) (by omega) (by omega)]
  simp only [Option.bind_some]
  rw [guard?_true (decide_eq_true (by simp only [ByteArray.size_append,z1,z2,z3,e]; omega))]
  rw [guard?_true (decide_eq_true (by simp only [ByteArray.size_append,z1,z2,z3,e]; omega))]
  rw [guard?_true (decide_eq_true (by simp only [ByteArray.size_append,z1,z2,z3,e]; omega))]
  rw [guard?_true (decide_eq_true (by simp only [ByteArray.size_append,z1,z2,z3,e]; omega))]
  rw [guard?_true (decide_eq_true (by simp only [ByteArray.size_append,z1,z2,z3,e]; omega))]
  rw [guard?_true (decide_eq_true (by simp only [ByteArray.size_append,z1,z2,z3,e]; omega))]
  rw [guard?_true (decide_eq_true (by simp only [ByteArray.size_append,z1,z2,z3,e]; omega))]
  rw [guard?_true (decide_eq_true (by simp only [ByteArray.size_append,z1,z2,z3,e]; omega))]
  rw [guard?_true (decide_eq_true (by simp only [ByteArray.size_append,z1,z2,z3,e]; omega))]
  rw [guard?_true (decide_eq_true (by simp only [ByteArray.size_append,z1,z2,z3,e]; omega))]
  rw [guard?_true (decide_eq_true (by simp only [ByteArray.size_append,z1,z2,z3,e]; omega))]
  congr 1
  refine ba_ext ?_
  simp only [ba_app,appB,blobWs,lineL,joinB,List.map_cons,List.map_nil,joinK,blobW]
  simp
def entTR (x:Entry) (s:ByteArray) (g:ByteArray→Option (ByteArray × Int)):Option (ByteArray × Int) :=
    guard? (decide (({ data:=#[101,110,116,114,121,32] }:ByteArray).size+x.Key.size≤9223372036854775807)) (
    guard? (decide ((({ data:=#[101,110,116,114,121,32] }:ByteArray)++x.Key).size+({ data:=#[32] }:ByteArray).size≤9223372036854775807)) (
    (strconv_Itoa.f x.Used).bind fun y4 =>
    guard? (decide (((({ data:=#[101,110,116,114,121,32] }:ByteArray)++x.Key)++({ data:=#[32] }:ByteArray)).size+y4.size≤9223372036854775807)) (
    guard? (decide (s.size+(((({ data:=#[101,110,116,114,121,32] }:ByteArray)++x.Key)++({ data:=#[32] }:ByteArray))++y4).size≤9223372036854775807)) (
    g (s++(((({ data:=#[101,110,116,114,121,32] }:ByteArray)++x.Key)++({ data:=#[32] }:ByteArray))++y4))))))
theorem refs_range {E:ByteArray→Option (ByteArray × Int)}:∀ (l:List ByteArray) (i:Int) (s:ByteArray),(∀ x∈l,x.size≤16)→s.size+17*l.length≤100000000→rangeS (fun _ (x2:ByteArray) (s:ByteArray) f=>guard? (decide (({ data:=#[32] }:ByteArray).size+x2.size≤9223372036854775807)) (
    guard? (decide (s.size+(({ data:=#[32] }:ByteArray)++x2).size≤9223372036854775807)) (f (s++(({ data:=#[32] }:ByteArray)++x2))))) E i l s=E (appB s (l.flatMap (fun x=>32::x.data.toList)))
  | [],i,s,_,_=>by rw [List.flatMap_nil,appB_nil]; rfl
  | x::l,i,s,h,hz=>by
    have z2:({ data:=#[32] }:ByteArray).size=1:=rfl
    have hx:=h x (by simp)
    rw [List.length_cons] at hz
    rw [rangeS,guard?_true (decide_eq_true (by rw [z2]; omega)),guard?_true (decide_eq_true (by rw [ByteArray.size_append,z2]; omega))]
    refine (refs_range l (i+1) _ (fun y hy=>h y (by simp [hy])) (by rw [ByteArray.size_append,ByteArray.size_append,z2]; omega)).trans ?_
    congr 1
    refine ba_ext ?_
    simp only [ba_app,appB,List.flatMap_cons]
    simp
def entTR2 (x:Entry) (s:ByteArray) (f:ByteArray→Option (ByteArray × Int)):Option (ByteArray × Int):=entTR x s fun s1=>rangeS (fun _ (x2:ByteArray) (s:ByteArray) f=>guard? (decide (({ data:=#[32] }:ByteArray).size+x2.size≤9223372036854775807)) (
    guard? (decide (s.size+(({ data:=#[32] }:ByteArray)++x2).size≤9223372036854775807)) (f (s++(({ data:=#[32] }:ByteArray)++x2))))) (fun s2=>guard? (decide (s2.size+({ data:=#[10] }:ByteArray).size≤9223372036854775807)) (f (s2++({ data:=#[10] }:ByteArray)))) 0 x.Refs s1
theorem entTR_eq {x:Entry} (h:okEntry x) {s:ByteArray} (hs:s.size≤50000000) (f:ByteArray→Option (ByteArray × Int)):entTR2 x s f=f (appB s (lineL (entWs x))):=by
  obtain ⟨h1,h2,h3,h4,h5⟩:=h
  obtain ⟨-,-,-,a⟩:=clean_num h4 (show x.Used≤9999999999 by omega)
  have e:=(clean_dig h1).2
  have z1:({ data:=#[101,110,116,114,121,32] }:ByteArray).size=6:=rfl
  have z2:({ data:=#[32] }:ByteArray).size=1:=rfl
  have z3:({ data:=#[10] }:ByteArray).size=1:=rfl
  have hr:∀ y∈x.Refs,y.size≤16:=fun y hy=>by rw [(clean_dig (h3.1 y hy)).2]; omega
  unfold entTR2 entTR
  rw [itoa_eq (n:=x.Used) (by omega) (by omega)]
  simp only [Option.bind_some]
  rw [guard?_true (decide_eq_true (by simp only [ByteArray.size_append,z1,z2,z3,e]; omega))]
  rw [guard?_true (decide_eq_true (by simp only [ByteArray.size_append,z1,z2,z3,e]; omega))]
  rw [guard?_true (decide_eq_true (by simp only [ByteArray.size_append,z1,z2,z3,e]; omega))]
  rw [guard?_true (decide_eq_true (by simp only [ByteArray.size_append,z1,z2,z3,e]; omega))]
  rw [refs_range x.Refs 0 _ hr (by simp only [ByteArray.size_append,z1,z2,e]; omega)]
  have hfl:(x.Refs.flatMap (fun x=>32::x.data.toList)).length≤17*x.Refs.length:=by
    generalize x.Refs=l at hr
    induction l with
    | nil=>simp
    | cons y l ih =>
      have:=ih (fun z hz=>hr z (by simp [hz]))
      have hy:=hr y (by simp)
      rw [List.flatMap_cons,List.length_append,List.length_cons,List.length_cons,ba_len]
      omega
  rw [guard?_true (decide_eq_true (by rw [appB_size]; simp only [ByteArray.size_append,z1,z2,z3,e]; omega))]
  congr 1
  refine ba_ext ?_
  simp only [ba_app,appB,lineL,entWs]
  rw [joinB_cons entryW (by simp),joinB_cons x.Key (by simp),joinB_flat]
  simp [entryW]
theorem ents_rangeR {E:ByteArray→Option (ByteArray × Int)}:∀ (l:List Entry) (i:Int) (s:ByteArray),(∀ x∈l,okEntry x)→s.size+4000*l.length≤40000000→rangeS (fun _ x s f=>entTR2 x s f) E i l s=E (appB s (l.flatMap (fun x=>lineL (entWs x))))
  | [],i,s,_,_=>by rw [List.flatMap_nil,appB_nil]; rfl
  | x::l,i,s,ho,hz=>by
    rw [List.length_cons] at hz
    have h2:=(entT_eq (ho x (by simp)) (s:=s) (by omega) (fun _=>none)).2
    have h1:=entTR_eq (ho x (by simp)) (s:=s) (by omega) (fun s'=>rangeS (fun _ x s f=>entTR2 x s f) E (i+1) l s')
    rw [rangeS,h1,ents_rangeR l (i+1) _ (fun y hy=>ho y (by simp [hy])) (by rw [appB_size]; omega),appB_app,List.flatMap_cons]
theorem blobs_rangeR {E:ByteArray→Option (ByteArray × Int)}:∀ (l:List Blob) (i:Int) (s:ByteArray),(∀ x∈l,okBlob x)→s.size+100*l.length≤40000000→rangeS (fun _ x s f=>blobTR x s f) E i l s=E (appB s (l.flatMap (fun x=>lineL (blobWs x))))
  | [],i,s,_,_=>by rw [List.flatMap_nil,appB_nil]; rfl
  | x::l,i,s,ho,hz=>by
    rw [List.length_cons] at hz
    have h2:=(blobT_eq (ho x (by simp)) (s:=s) (by omega) (fun _=>none)).2
    have h1:=blobTR_eq (ho x (by simp)) (s:=s) (by omega) (fun s'=>rangeS (fun _ x s f=>blobTR x s f) E (i+1) l s')
    rw [rangeS,h1,blobs_rangeR l (i+1) _ (fun y hy=>ho y (by simp [hy])) (by rw [appB_size]; omega),appB_app,List.flatMap_cons]
theorem text_ref {c:Cache} (h:smallCache c):smithyardref7_Text.f c=textR c:=by
  unfold smithyardref7_Text.f textR
  rw [check_ref h]
  obtain ⟨r,hr⟩:=cacheS_some c
  rw [hr]
  simp only [Option.bind_some]
  by_cases h0:r=0
  · subst h0
    have ho:=cacheS_ok hr
    simp only [bne_self_eq_false,cond_false]
    have r0:=ho.room0; have r1:=ho.room1; have l0:=ho.lease0; have l1:=ho.lease1
    obtain ⟨-,-,-,a⟩:=clean_num r0 (show c.Room≤9999999999 by omega)
    obtain ⟨-,-,-,b⟩:=clean_num l0 (show c.Lease≤9999999999 by omega)
    have z1:({ data:=#[99,97,99,104,101,32] }:ByteArray).size=6:=rfl
    have z2:({ data:=#[32] }:ByteArray).size=1:=rfl
    have z3:({ data:=#[10] }:ByteArray).size=1:=rfl
    have z0:(⟨#[]⟩:ByteArray).size=0:=rfl
    have zc:cacheW.size=5:=rfl
    have hl:=line_len (headWs c.Room c.Lease)
    simp only [headWs,sumZ,List.length_cons,List.length_nil,zc] at hl
    have hlh:(lineL (headWs c.Room c.Lease)).length≤100:=by unfold headWs; omega
    rw [itoa_eq (n:=c.Room) (by omega) (by omega),itoa_eq (n:=c.Lease) (by omega) (by omega)]
    simp only [Option.bind_some]
    rw [guard?_true (decide_eq_true (by simp only [ByteArray.size_append,z1,z2,z3]; omega))]
    rw [guard?_true (decide_eq_true (by simp only [ByteArray.size_append,z1,z2,z3]; omega))]
    rw [guard?_true (decide_eq_true (by simp only [ByteArray.size_append,z1,z2,z3]; omega))]
    rw [guard?_true (decide_eq_true (by simp only [ByteArray.size_append,z1,z2,z3]; omega))]
    have e0:(((({ data:=#[99,97,99,104,101,32] }:ByteArray)++numT c.Room)++({ data:=#[32] }:ByteArray))++numT c.Lease)++({ data:=#[10] }:ByteArray)=appB ⟨#[]⟩ (lineL (headWs c.Room c.Lease)):=by
      refine ba_ext ?_
      simp only [ba_app,appB,headWs,lineL,joinB,List.map_cons,List.map_nil,joinK,cacheW]
      simp
    rw [e0]
    have hbl:=ho.bl
    have hel:=ho.el
    have h1:=rangeS_all (xs:=c.Blobs) (S:=ByteArray) (L:=fun k s v=>smithyardref7_Text.l6 smithyardref7_Text.e1 k c s v) (body:=fun _ x s f=>blobTR x s f) (e:=smithyardref7_Text.e1 c) (by omega) (fun k s v=>by
      simp only [smithyardref7_Text.l6]
      congr 1) (appB ⟨#[]⟩ (lineL (headWs c.Room c.Lease)))
    refine h1.trans ?_
    rw [blobs_rangeR c.Blobs 0 _ ho.be (by rw [appB_size,z0]; omega)]
    obtain ⟨_,k2⟩:=blobs_range (E:=cache_Text.e1 c) c.Blobs 0 (appB ⟨#[]⟩ (lineL (headWs c.Room c.Lease))) ho.be (by rw [appB_size,z0]; omega)
    unfold smithyardref7_Text.e1
    have h2:=rangeS_all (xs:=c.Entries) (S:=ByteArray) (L:=fun k s v=>smithyardref7_Text.l3 smithyardref7_Text.e2 k c s v) (body:=fun _ x s f=>entTR2 x s f) (e:=smithyardref7_Text.e2) (by omega) (fun k s v=>by
      simp only [smithyardref7_Text.l3]
      congr 1
      refine bind_at (fun x hx=>?_)
      have hx5:∀ s1:ByteArray,smithyardref7_Text.l5 (smithyardref7_Text.e4 (smithyardref7_Text.l3 smithyardref7_Text.e2 k)) big c v x s1 0=rangeS (fun _ (x2:ByteArray) (s:ByteArray) f=>guard? (decide (({ data:=#[32] }:ByteArray).size+x2.size≤9223372036854775807)) (
          guard? (decide (s.size+(({ data:=#[32] }:ByteArray)++x2).size≤9223372036854775807)) (f (s++(({ data:=#[32] }:ByteArray)++x2))))) (fun s2=>guard? (decide (s2.size+({ data:=#[10] }:ByteArray).size≤9223372036854775807)) (smithyardref7_Text.l3 smithyardref7_Text.e2 k c (s2++({ data:=#[10] }:ByteArray)) (w64 (v+1)))) 0 x.Refs s1:=fun s1 =>
        rangeS_all (xs:=x.Refs) (S:=ByteArray) (L:=fun k' s v'=>smithyardref7_Text.l5 (smithyardref7_Text.e4 (smithyardref7_Text.l3 smithyardref7_Text.e2 k)) k' c v x s v') (body:=fun _ (x2:ByteArray) (s:ByteArray) f=>guard? (decide (({ data:=#[32] }:ByteArray).size+x2.size≤9223372036854775807)) (
          guard? (decide (s.size+(({ data:=#[32] }:ByteArray)++x2).size≤9223372036854775807)) (f (s++(({ data:=#[32] }:ByteArray)++x2))))) (e:=fun s2=>guard? (decide (s2.size+({ data:=#[10] }:ByteArray).size≤9223372036854775807)) (smithyardref7_Text.l3 smithyardref7_Text.e2 k c (s2++({ data:=#[10] }:ByteArray)) (w64 (v+1)))) (by
            obtain ⟨_,h3,_⟩:=ho.ee x hx
            omega) (fun k' s v'=>by
            simp only [smithyardref7_Text.l5,smithyardref7_Text.e4]) s1
      simp only [hx5]
      rfl) (appB (appB ⟨#[]⟩ (lineL (headWs c.Room c.Lease))) (c.Blobs.flatMap (fun x=>lineL (blobWs x))))
    refine h2.trans ?_
    rw [ents_rangeR c.Entries 0 _ ho.ee (by rw [appB_size,appB_size,z0]; omega),appB_app,appB_app]
    have e:appB ⟨#[]⟩ (lineL (headWs c.Room c.Lease)++(c.Blobs.flatMap (fun x=>lineL (blobWs x))++c.Entries.flatMap (fun x=>lineL (entWs x))))=textS c:=rfl
    rw [e]
    unfold smithyardref7_Text.e2
    cases decide (2000000<((textS c).size:Int)) <;> rfl
  · have:(r != 0)=true:=by simpa using h0
    rw [this]
    rfl
end Go.Proofs.YtnfgkhmhdefagaaGreatDoor
