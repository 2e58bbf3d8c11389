/- Texts of caches: what is written, what is read, each the other's inverse. -/
import Derived.Test.YtnfgkhmhdefagaaGreatDoorPJn
set_option linter.unusedVariables false
set_option linter.unusedSimpArgs false
namespace Go.Proofs.YtnfgkhmhdefagaaGreatDoor
open Go Go.Proofs.YtnfgkhmhdefagaaGreatDoor.Kit
def cacheW:ByteArray:={ data:=#[99,97,99,104,101] }
def blobW:ByteArray:={ data:=#[98,108,111,98] }
def entryW:ByteArray:={ data:=#[101,110,116,114,121] }
def emptyW:ByteArray:={ data:=#[] }
def headWs (room lease:Int):List ByteArray:=[cacheW,numT room,numT lease]
def blobWs (x:Blob):List ByteArray:=[blobW,x.Digest,numT x.Size,numT x.Used,numT x.Until,numT x.Pins]
def entWs (x:Entry):List ByteArray:=entryW::x.Key::numT x.Used::x.Refs
def lineL (ws:List ByteArray):List UInt8:=joinB ws++[10]
def textL (c:Cache):List UInt8:=lineL (headWs c.Room c.Lease)++(c.Blobs.flatMap (fun x=>lineL (blobWs x))++c.Entries.flatMap (fun x=>lineL (entWs x)))
def textS (c:Cache):ByteArray:=⟨(textL c).toArray⟩
/-! numbers -/
theorem num_check (x:ByteArray):(bif decide ((x.size:Int)<1) then (some true) else (bif decide (10<(x.size:Int)) then (some true) else ((strings_Trim.f x ({ data:=#[48,49,50,51,52,53,54,55,56,57] }:ByteArray)).bind fun y1 =>
    bif !sEq y1 ({ data:=#[] }:ByteArray) then (some true) else (guard? (decide ((0:Int)≤0)&&decide (0<(x.size:Int))) (
    bif (bt x 0) == 48 then (some (!sEq x ({ data:=#[48] }:ByteArray))) else (some false))))))=some (!numB x):=by
  unfold numB
  by_cases h1:x.size<1
  · rw [decide_eq_true (show (x.size:Int)<1 by omega),decide_eq_false (show ¬ 1≤x.size by omega)]
    rfl
  rw [decide_eq_false (show ¬ (x.size:Int)<1 by omega),decide_eq_true (show 1≤x.size by omega)]
  by_cases h2:10<x.size
  · rw [decide_eq_true (show (10:Int)<(x.size:Int) by omega),decide_eq_false (show ¬ x.size≤10 by omega)]
    rfl
  rw [decide_eq_false (show ¬ (10:Int)<(x.size:Int) by omega),decide_eq_true (show x.size≤10 by omega),trim_digits (by omega)]
  simp only [cond_false,Option.bind_some]
  rw [trim_all]
  obtain ⟨b,l,hs,hb,hz⟩:=head_cases (s:=x) (by omega)
  rw [decide_eq_true (show (0:Int)<(x.size:Int) by omega),hb]
  simp only [decide_true,Bool.and_self,guard?,cond_true]
  have hh:headB x=(b.toNat == 48&&!(l == [])):=by unfold headB; rw [hs]
  have e1:(((b.toNat:Nat):Int) == 48)=(b.toNat == 48):=by rw [Bool.eq_iff_iff]; simp; omega
  rw [hh,e1]
  cases hc:(b.toNat == 48)
  · cases x.data.toList.all digitB <;> rfl
  · have e2:sEq x ({ data:=#[48] }:ByteArray)=(l == []):=by
      rw [sEq_data,hs]
      have:b=48:=UInt8.toNat_inj.1 (by simpa using hc)
      subst this
      cases l <;> simp
    rw [e2]
    cases x.data.toList.all digitB <;> cases (l == []) <;> rfl
def valN (s:ByteArray):Int:=(numV s).1
theorem atoi_num {s:ByteArray} (h:numB s=true):strconv_Atoi.f s=some (valN s):=by
  have hv:numV s=((Lib.atoi s.data.toList).getD 0,true):=by unfold numV; rw [h]; rfl
  unfold numB at h
  simp only [Bool.and_eq_true,decide_eq_true_eq] at h
  obtain ⟨h1,h2,h3,h4⟩:=h
  obtain ⟨n,hn⟩:=atoi_some h1 h3
  unfold strconv_Atoi.f valN
  rw [guard?_true (decide_eq_true (by omega)),hv,hn]
  rfl
theorem nums_range:∀ (l:List ByteArray) (i:Int) (out:List Int),out.length+l.length≤4000000→rangeS (fun _ x (out:List Int) f=>bif !numB x then some (([]:List Int),false) else (strconv_Atoi.f x).bind fun y2=>guard? (room out.length 1 8) (f (out++([y2]:List Int)))) cache_numbers.e1 i l out=some (bif l.all numB then (out++l.map valN,true) else ([],false))
  | [],i,out,_=>by simp [rangeS,cache_numbers.e1]
  | x::l,i,out,h=>by
    rw [List.length_cons] at h
    rw [rangeS]
    cases hx:numB x
    · simp [hx]
    · rw [atoi_num hx]
      simp only [Bool.not_true,cond_false,Option.bind_some]
      rw [guard?_true (room_of (by omega))]
      refine (nums_range l (i+1) _ (by rw [List.length_append,List.length_singleton]; omega)).trans ?_
      rw [List.all_cons,hx,Bool.true_and,List.map_cons,List.append_assoc]
      rfl
theorem numbers_prog {l:List ByteArray} (h:l.length≤4000000):cache_numbers.f l=some (bif l.all numB then (l.map valN,true) else ([],false)):=by
  unfold cache_numbers.f
  have h1:=rangeS_all (xs:=l) (S:=List Int) (L:=fun k s v=>cache_numbers.l2 cache_numbers.e1 k l s v) (body:=fun _ x (out:List Int) f=>bif !numB x then some (([]:List Int),false) else (strconv_Atoi.f x).bind fun y2=>guard? (room out.length 1 8) (f (out++([y2]:List Int)))) (e:=cache_numbers.e1) (by omega) (fun k s v=>by
    simp only [cache_numbers.l2]
    congr 1
    refine bind_at (fun x hx=>?_)
    rw [num_check]
    rfl) []
  refine h1.trans ?_
  rw [nums_range l 0 [] (by simpa using h)]
  rfl
theorem contains_prog {l:List ByteArray} (h:l.length≤4000000) (a:ByteArray):slices_Contains_string.f l a=some (l.any (fun x=>sEq a x)):=by
  unfold slices_Contains_string.f slices_Index_string.f
  have h1:=rangeS_all (xs:=l) (S:=Unit) (L:=fun k _ v=>slices_Index_string.l2 slices_Index_string.e1 k l a v) (body:=fun v y (s:Unit) f=>bif sEq a y then some v else f s) (e:=fun _=>some (-1)) (by omega) (fun k s v=>by
    simp only [slices_Index_string.l2,slices_Index_string.e1]) ()
  rw [h1,findLoop]
  exact found_eqT l
/-! a line -/
def entV (c:Cache):List ByteArray→Option Cache
  | w::k::u::refs=>bif sEq w entryW&&numB u then some ⟨c.Room,c.Lease,c.Blobs,c.Entries++[⟨k,refs,valN u⟩]⟩ else none
  | _=>none
def headV (c:Cache):List ByteArray→Option Cache
  | [w,a,b]=>bif sEq w cacheW&&(numB a&&numB b) then some ⟨valN a,valN b,c.Blobs,c.Entries⟩ else none
  | _=>none
def blobV (c:Cache):List ByteArray→Option Cache
  | [w,d,a,b,e,f]=>bif sEq w blobW&&decide (c.Entries.length=0) then (bif numB a&&(numB b&&(numB e&&numB f)) then some ⟨c.Room,c.Lease,c.Blobs++[⟨d,valN a,valN b,valN e,valN f⟩],c.Entries⟩ else none) else entV c [w,d,a,b,e,f]
  | ws=>entV c ws
theorem blobV_six (c:Cache) (w d a b e f:ByteArray):blobV c [w,d,a,b,e,f]=bif sEq w blobW&&decide (c.Entries.length=0) then (bif numB a&&(numB b&&(numB e&&numB f)) then some ⟨c.Room,c.Lease,c.Blobs++[⟨d,valN a,valN b,valN e,valN f⟩],c.Entries⟩ else none) else entV c [w,d,a,b,e,f]:=rfl
def lineV (c:Cache) (first:Bool) (ws:List ByteArray):Option Cache:=bif ws.any (fun x=>sEq emptyW x) then none else bif first then headV c ws else blobV c ws
def lineO (c:Cache):Option Cache→Bool × Cache
  | some x=>(true,x)
  | none=>(false,c)
theorem at_0 {α:Type} (x:α) (l:List α):at? (x::l) 0=some x:=rfl
theorem at_1 {α:Type} (x y:α) (l:List α):at? (x::y::l) 1=some y:=rfl
theorem at_2 {α:Type} (x y z:α) (l:List α):at? (x::y::z::l) 2=some z:=rfl
theorem at_3 {α:Type} (x y z w:α) (l:List α):at? (x::y::z::w::l) 3=some w:=rfl
theorem line_prog {c:Cache} {i:Int} {s:ByteArray} (hs:s.size≤3000000) (hb:c.Blobs.length≤4000000) (he:c.Entries.length≤4000000):cache_line.f c i s=some (lineO c (lineV c (i == 0) (wordsOf s))):=by
  have hl:=wordsOf_length s
  obtain ⟨_,hne,_⟩:=join_words s
  unfold cache_line.f lineV
  rw [splitW_eq (by omega)]
  simp only [Option.bind_some]
  rw [contains_prog (by omega)]
  generalize wordsOf s=ws at *
  simp only [Option.bind_some]
  have e0:(ws.any fun x=>sEq ({ data:=#[] }:ByteArray) x)=(ws.any fun x=>sEq emptyW x):=rfl
  rw [e0]
  cases ws.any fun x=>sEq emptyW x
  rotate_left
  · rfl
  simp only [cond_false]
  cases hi:(i == 0)
  rotate_left
  · -- the first line
    simp only [cond_true]
    have hp:0<ws.length:=List.length_pos_iff.2 hne
    rw [guard?_true (by rw [decide_eq_true (by omega),decide_eq_true (by omega)]; rfl),numbers_prog (by rw [List.length_drop]; omega)]
    have hc:∀ w:ByteArray,sEq w ({ data:=#[99,97,99,104,101] }:ByteArray)=sEq w cacheW:=fun _=>rfl
    rcases ws with _ | ⟨w,_ | ⟨a,_ | ⟨b,_ | ⟨d,l⟩⟩⟩⟩
    · exact absurd rfl hne
    · simp only [List.drop_succ_cons,List.drop_zero,List.all_nil,cond_true,List.map_nil,Option.bind_some,at_0,hc,headV]
      cases sEq w cacheW <;> rfl
    · simp only [List.drop_succ_cons,List.drop_zero,List.all_nil,List.all_cons,Bool.and_true,List.map_nil,List.map_cons,Option.bind_some,at_0,hc,headV]
      cases sEq w cacheW <;> cases numB a <;> rfl
    · simp only [List.drop_succ_cons,List.drop_zero,List.all_nil,List.all_cons,Bool.and_true,List.map_nil,List.map_cons,Option.bind_some,at_0,hc,headV]
      cases sEq w cacheW <;> cases numB a <;> cases numB b <;> rfl
    · simp only [List.drop_succ_cons,List.drop_zero,List.all_cons,List.map_cons,Option.bind_some,at_0,hc,headV]
      cases sEq w cacheW
      · cases (numB a&&(numB b&&(numB d&&l.all numB))) <;> rfl
      · cases (numB a&&(numB b&&(numB d&&l.all numB)))
        · rfl
        · simp only [cond_true,Bool.not_true,cond_false,Option.bind_some]
          have:(((valN a::valN b::valN d::List.map valN l).length:Int) != 2)=true:=by simp; omega
          rw [this]
          rfl
  · -- a later line
    simp only [cond_false]
    have hc:∀ w:ByteArray,sEq w ({ data:=#[98,108,111,98] }:ByteArray)=sEq w blobW:=fun _=>rfl
    have hd:∀ w:ByteArray,sEq w ({ data:=#[101,110,116,114,121] }:ByteArray)=sEq w entryW:=fun _=>rfl
    have hz:((c.Entries.length:Int) == 0)=decide (c.Entries.length=0):=by
      rw [Bool.eq_iff_iff]
      simp
    -- what an entry's line comes to
    have ent:∀ ws:List ByteArray,ws≠[]→ws.length≤3000001→(((at? ws 0).bind fun x10 =>
        bif sEq x10 ({ data:=#[101,110,116,114,121] }:ByteArray) then (some (decide (3≤(ws.length:Int)))) else (some false)).bind fun t3 =>
        bif t3 then
        (guard? (decide ((0:Int)≤2)&&(decide ((2:Int)≤3)&&decide (3≤((ws.length:Nat):Int)))) (
        (cache_numbers.f ((ws.take 3).drop 2)).bind fun y5 =>
        bif !y5.2 then
        (some (false,(⟨c.Room,c.Lease,c.Blobs,c.Entries⟩:Cache)))
        else
        ((at? ws 1).bind fun x11 =>
        (at? y5.1 0).bind fun x12 =>
        guard? (decide ((0:Int)≤3)&&decide (3≤((ws.length:Nat):Int))) (
        (slices_Clone_string.f (ws.drop 3)).bind fun y6 =>
        guard? (room c.Entries.length 1 48) (
        some (true,(⟨c.Room,c.Lease,c.Blobs,(c.Entries++([(⟨x11,y6,x12⟩:Entry)]:List Entry))⟩:Cache)))))))
        else
        (some (false,(⟨c.Room,c.Lease,c.Blobs,c.Entries⟩:Cache))))=some (lineO c (entV c ws)):=by
      intro ws hne hl
      rcases ws with _ | ⟨w,_ | ⟨a,_ | ⟨b,l⟩⟩⟩
      · exact absurd rfl hne
      · simp only [at_0,Option.bind_some,hd]
        cases sEq w entryW <;> rfl
      · simp only [at_0,Option.bind_some,hd]
        cases sEq w entryW <;> rfl
      · have h3:decide ((3:Int)≤((w::a::b::l).length:Int))=true:=decide_eq_true (by simp; omega)
        simp only [at_0,at_1,Option.bind_some,hd,h3]
        cases hw:sEq w entryW
        · simp only [cond_false,Option.bind_some]
          show _=some (lineO c (bif sEq w entryW&&numB b then _ else none))
          rw [hw]
          rfl
        · simp only [cond_true,Option.bind_some,List.take_succ_cons,List.take_zero,List.drop_succ_cons,List.drop_zero]
          rw [guard?_true (by simp),numbers_prog (by simp)]
          simp only [Option.bind_some,List.all_cons,List.all_nil,Bool.and_true,List.map_cons,List.map_nil]
          show _=some (lineO c (bif sEq w entryW&&numB b then _ else none))
          rw [hw]
          cases numB b
          · rfl
          · simp only [cond_true,Bool.not_true,cond_false,at_0,Option.bind_some,Bool.and_self]
            rw [guard?_true (by simp)]
            unfold slices_Clone_string.f
            rw [guard?_true (room_of (by rw [List.length_cons,List.length_cons,List.length_cons] at hl; omega))]
            simp only [Option.bind_some]
            rw [guard?_true (room_of (by omega))]
            rfl
    have ent':=ent ws hne (by omega)
    rcases ws with _ | ⟨w,_ | ⟨a,_ | ⟨b,_ | ⟨d,_ | ⟨e,_ | ⟨f,_ | ⟨g,l⟩⟩⟩⟩⟩⟩⟩
    · exact absurd rfl hne
    · rw [show blobV c [w]=entV c [w] from rfl,← ent']
      simp only [at_0,Option.bind_some,hc]
      cases sEq w blobW <;> rfl
    · rw [show blobV c [w,a]=entV c [w,a] from rfl,← ent']
      simp only [at_0,Option.bind_some,hc]
      cases sEq w blobW <;> rfl
    · rw [show blobV c [w,a,b]=entV c [w,a,b] from rfl,← ent']
      simp only [at_0,Option.bind_some,hc]
      cases sEq w blobW <;> rfl
    · rw [show blobV c [w,a,b,d]=entV c [w,a,b,d] from rfl,← ent']
      simp only [at_0,Option.bind_some,hc]
      cases sEq w blobW <;> rfl
    · rw [show blobV c [w,a,b,d,e]=entV c [w,a,b,d,e] from rfl,← ent']
      simp only [at_0,Option.bind_some,hc]
      cases sEq w blobW <;> rfl
    · have h6:(([w,a,b,d,e,f].length:Int) == 6)=true:=rfl
      cases hw:sEq w blobW
      · rw [show blobV c [w,a,b,d,e,f]=entV c [w,a,b,d,e,f] by rw [blobV_six,hw]; rfl,← ent']
        simp only [at_0,Option.bind_some,hc,hw]
        rfl
      · cases hz':decide (c.Entries.length=0)
        · rw [show blobV c [w,a,b,d,e,f]=entV c [w,a,b,d,e,f] by rw [blobV_six,hw,hz']; rfl,← ent']
          simp only [at_0,Option.bind_some,hc,hw,h6,hz,hz',cond_true]
          rfl
        · rw [show blobV c [w,a,b,d,e,f]=(bif numB b&&(numB d&&(numB e&&numB f)) then some ⟨c.Room,c.Lease,c.Blobs++[⟨a,valN b,valN d,valN e,valN f⟩],c.Entries⟩ else none) by rw [blobV_six,hw,hz']; rfl]
          simp only [at_0,Option.bind_some,hc,hw,h6,hz,hz',cond_true]
          rw [guard?_true (by simp),numbers_prog (by simp)]
          simp only [List.drop_succ_cons,List.drop_zero,List.all_cons,List.all_nil,Bool.and_true,List.map_cons,List.map_nil,Option.bind_some]
          cases (numB b&&(numB d&&(numB e&&numB f)))
          · rfl
          · simp only [cond_true,Bool.not_true,cond_false,at_0,at_1,at_2,at_3,Option.bind_some]
            rw [guard?_true (room_of (by omega))]
            rfl
    · rw [show blobV c (w::a::b::d::e::f::g::l)=entV c (w::a::b::d::e::f::g::l) from rfl,← ent']
      simp only [at_0,Option.bind_some,hc]
      have:(((w::a::b::d::e::f::g::l).length:Int) == 6)=false:=by simp; omega
      rw [this]
      cases sEq w blobW <;> rfl
end Go.Proofs.YtnfgkhmhdefagaaGreatDoor
