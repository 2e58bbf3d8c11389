/- Caches: the reference's way through an event; Do on both sides. -/
import Derived.Test.YtjdnnkdhajhdkaaGreatDoorPAns
import Derived.Test.YtjdnnkdhajhdkaaGreatDoorPC7E
set_option linter.unusedVariables false
set_option linter.unusedSimpArgs false
namespace Go.Proofs.YtjdnnkdhajhdkaaGreatDoor
open Go Go.Proofs.YtjdnnkdhajhdkaaGreatDoor.Kit
theorem earlyLoop' {α β:Type} {p:α→Bool} {r:Option β} {e:Unit→Option β}:∀ (l:List α) (i:Int),rangeS (fun _ x (s:Unit) f=>bif p x then r else f s) e i l ()=bif l.any p then r else e ()
  | [],_=>rfl
  | x::l,i=>by
    show (bif p x then _ else _)=_
    rw [List.any_cons]
    cases h:p x
    · exact earlyLoop' l (i+1)
    · rfl
theorem place_lt {α:Type} {key:α→ByteArray} {l:List α} {d:ByteArray} (hs:l.Pairwise (fun a b=>sLt (key a) (key b)=true)) (h:l.any (fun x=>sEq (key x) d)=true):placeOf key l d<l.length:=by
  obtain ⟨y,hy,hym,hye,hyg⟩:=placeOf_get hs h
  rcases Nat.lt_or_ge (placeOf key l d) l.length with h | h
  · exact h
  · rw [List.getElem?_eq_none h] at hyg; cases hyg
theorem find_place {α:Type} {key:α→ByteArray} {l:List α} {d:ByteArray} (hs:l.Pairwise (fun a b=>sLt (key a) (key b)=true)) (h:l.any (fun x=>sEq (key x) d)=true):l.findIdx? (fun x=>sEq (key x) d)=some (placeOf key l d):=by
  obtain ⟨y,hy,hym,hye,hyg⟩:=placeOf_get hs h
  have hlt:=place_lt hs h
  rw [List.getElem?_eq_getElem hlt] at hyg
  injection hyg with hyg
  rw [List.findIdx?_eq_some_iff_getElem]
  refine ⟨hlt,by rw [hyg]; exact hye,fun j hj=>?_⟩
  have h1:=placeOf_lt (key:=key) l d j (by omega) hj
  rw [sLt_ne h1]
  simp
theorem touch_set {t l:Int} {a3 a4:Bool} {bl:List Blob} {d:ByteArray} {y:Blob} (hs:bl.Pairwise (fun a b=>sLt a.Digest b.Digest=true)) (hg:bl[placeOf (fun x:Blob=>x.Digest) bl d]? = some y) (hd:y.Digest=d) :
    bl.set (placeOf (fun x:Blob=>x.Digest) bl d) (touchB t l a3 a4 y)=bl.map (fun x=>bif sEq x.Digest d then touchB t l a3 a4 x else x):=by
  have e:=set_map (key:=fun y:Blob=>y.Digest) (f:=touchB t l a3 a4) hs hg
  simp only [hd] at e
  exact e
theorem map_none {bl:List Blob} {d:ByteArray} {f:Blob→Blob} (ha:bl.any (fun x=>sEq x.Digest d)=false):bl.map (fun x=>bif sEq x.Digest d then f x else x)=bl:=by
  have:∀ y∈bl,(fun y:Blob=>bif sEq y.Digest d then f y else y) y=id y:=fun y hy=>by
    have:sEq y.Digest d=false:=by
      cases hc:sEq y.Digest d
      · rfl
      · rw [List.any_eq_true.2 ⟨y,hy,hc⟩] at ha; cases ha
    simp only [this,cond_false,id]
  rw [List.map_congr_left this,List.map_id]
theorem touch_one (t l:Int) (a3 a4:Bool) (d:ByteArray) (bl:List Blob):touchL t l a3 a4 [d] bl=bl.map (fun x=>bif sEq x.Digest d then touchB t l a3 a4 x else x):=by
  rw [← touch_cons]
  simp [touchL,memB]
theorem touch_no {t l:Int} {a3 a4:Bool} {d:ByteArray} {bl:List Blob} (ha:bl.any (fun x=>sEq x.Digest d)=false):touchL t l a3 a4 [d] bl=bl:=by
  rw [touch_one,map_none ha]
theorem touch_nil (t l:Int) (a3 a4:Bool) (bl:List Blob):touchL t l a3 a4 [] bl=bl:=by
  simp [touchL,memB]
theorem cut_place {α:Type} {key:α→ByteArray} {l:List α} {d:ByteArray} (hs:l.Pairwise (fun a b=>sLt (key a) (key b)=true)) (h:placeOf key l d<l.length):placeOf key (cutAt l (placeOf key l d)) d=placeOf key l d:=by
  have h1:∀ x∈l.take (placeOf key l d),sLt (key x) d=true:=by
    intro x hx
    obtain ⟨n,hn,rfl⟩:=List.getElem_of_mem hx
    rw [List.length_take] at hn
    rw [List.getElem_take]
    exact placeOf_lt (key:=key) l d n (by omega) (by omega)
  have h2:(l.drop (placeOf key l d+1)).takeWhile (fun x=>sLt (key x) d)=[]:=by
    cases hq:l.drop (placeOf key l d+1) with
    | nil=>rfl
    | cons x r =>
      have hlen:placeOf key l d+1<l.length:=by
        rcases Nat.lt_or_ge (placeOf key l d+1) l.length with h | h
        · exact h
        · rw [List.drop_eq_nil_of_le h] at hq; cases hq
      rw [List.drop_eq_getElem_cons hlen] at hq
      injection hq with q1 q2
      have:=placeOf_ge (key:=key) l d hs (placeOf key l d+1) hlen (by omega)
      rw [q1] at this
      rw [List.takeWhile_cons,this]
      rfl
  show ((l.take (placeOf key l d)++l.drop (placeOf key l d+1)).takeWhile (fun x=>sLt (key x) d)).length=placeOf key l d
  rw [List.takeWhile_append_of_pos h1,h2,List.append_nil,List.length_take]
  omega
theorem ins_cut {α:Type} {l:List α} {p:Nat} {x:α} (h:p<l.length):insAt (cutAt l p) p x=l.set p x:=by
  unfold insAt cutAt
  have h1:(l.take p).length=p:=by rw [List.length_take]; omega
  rw [List.take_append_of_le_length (by omega),List.take_take,Nat.min_self,List.drop_append_of_le_length (by omega)]
  rw [List.drop_eq_nil_of_le (by omega),List.nil_append,List.set_eq_take_append_cons_drop,if_pos h]
  simp
end Go.Proofs.YtjdnnkdhajhdkaaGreatDoor

namespace Go.Proofs.YtjdnnkdhajhdkaaGreatDoor
open Go Go.Proofs.YtjdnnkdhajhdkaaGreatDoor.Kit
theorem g2 {a b:Bool} {α:Type} {x:Option α} (ha:a=true) (hb:b=true):guard? (a&&b) x=x:=by rw [ha,hb]; rfl
theorem blob_at {c:Cache} (hb:c.Blobs.length≤4611686018427387904) (hs:c.Blobs.Pairwise (fun a b=>sLt a.Digest b.Digest=true)) (d:ByteArray):smithyardref7_blob.f c d=some (bif c.Blobs.any (fun x=>sEq x.Digest d) then ((placeOf (fun x:Blob=>x.Digest) c.Blobs d:Nat):Int) else -1):=by
  rw [blob_ix hb]
  cases ha:c.Blobs.any (fun x=>sEq x.Digest d)
  · rw [List.findIdx?_eq_none_iff.2 (fun x hx=>by
      cases hc:sEq x.Digest d
      · rfl
      · rw [List.any_eq_true.2 ⟨x,hx,hc⟩] at ha; cases ha)]
    rfl
  · rw [find_place (key:=fun x:Blob=>x.Digest) hs ha]
    simp only [Int.zero_add,cond_true]
theorem entry_at' {c:Cache} (hb:c.Entries.length≤4611686018427387904) (hs:c.Entries.Pairwise (fun a b=>sLt a.Key b.Key=true)) (d:ByteArray):smithyardref7_entry.f c d=some (bif c.Entries.any (fun x=>sEq x.Key d) then ((placeOf (fun x:Entry=>x.Key) c.Entries d:Nat):Int) else -1):=by
  rw [entry_ix hb]
  cases ha:c.Entries.any (fun x=>sEq x.Key d)
  · rw [List.findIdx?_eq_none_iff.2 (fun x hx=>by
      cases hc:sEq x.Key d
      · rfl
      · rw [List.any_eq_true.2 ⟨x,hx,hc⟩] at ha; cases ha)]
    rfl
  · rw [find_place (key:=fun x:Entry=>x.Key) hs ha]
    simp only [Int.zero_add,cond_true]
theorem remove_ref {c:Cache} {p:Nat} (hp:p<c.Entries.length) (hel:c.Entries.length≤1000):smithyardref7_removeEntry.f c (p:Int)=some ⟨c.Room,c.Lease,c.Blobs,cutAt c.Entries p⟩:=by
  have hw:w64 ((p:Int)+1)=((p+1:Nat):Int):=by rw [w64_id (by omega) (by omega)]; omega
  unfold smithyardref7_removeEntry.f
  rw [hw]
  simp only [Int.toNat_natCast,List.nil_append]
  rw [g2 (decide_eq_true (by omega)) (decide_eq_true (by omega)),guard?_true (room_of (by omega)),g2 (decide_eq_true (by omega)) (decide_eq_true (by omega)),guard?_true (room_of (by simp; omega))]
  rfl
theorem at_set {bl:List Blob} {p:Nat} (hp:p<bl.length) (z:Blob):at? (bl.set p z) ((p:Nat):Int)=some z:=by
  rw [at_nat (by rw [List.length_set]; exact hp)]
  simp
theorem lease_at {r l:Int} {bl:List Blob} {es:List Entry} {p:Nat} {y:Blob} (hy:at? bl ((p:Nat):Int)=some y) {t:Int} (hw:w64 (t+l)=t+l) :
    smithyardref7_lease_2.f ⟨r,l,bl,es⟩ ((p:Nat):Int) t=some ⟨r,l,bl.set p (touchB t l false true y),es⟩:=by
  unfold smithyardref7_lease_2.f
  simp only [hy,Option.bind_some,hw,Int.toNat_natCast]
  rfl
theorem use_lease_at {r l:Int} {bl:List Blob} {es:List Entry} {p:Nat} (hp:p<bl.length) (y:Blob) {t:Int} (hw:w64 (t+l)=t+l) :
    smithyardref7_lease_2.f ⟨r,l,bl.set p ⟨y.Digest,y.Size,t,y.Until,y.Pins⟩,es⟩ ((p:Nat):Int) t=some ⟨r,l,bl.set p (touchB t l true true y),es⟩:=by
  rw [lease_at (at_set hp _) hw,List.set_set]
  rfl
theorem fields_ref (e:CacheEvent):smithyardref7_fields.f e=some (!strayS e):=by
  have hl:((e.Digests.length:Int) == 0)=!decide (0<(e.Digests.length:Int)):=by
    rcases Nat.eq_zero_or_pos e.Digests.length with h | h
    · rw [h]
      rfl
    · rw [decide_eq_true (by omega),beq_eq_false_iff_ne.2 (by omega)]
      rfl
  have h1:∀ a b c d:Bool,smithyardref7_fields.j1 e a b c d=some (!((!a&&!sEq e.Digest ({ data:=#[] }:ByteArray))||((!b&&decide (0<(e.Digests.length:Int)))||((!c&&!sEq e.Key ({ data:=#[] }:ByteArray))||(!d&&e.Size != 0))))):=by
    intro a b c d
    have hz:(e.Size == 0)=!(e.Size != 0):=by simp [bne]
    unfold smithyardref7_fields.j1
    rw [hl,hz]
    cases a <;> cases b <;> cases c <;> cases d <;> cases sEq e.Digest ({ data:=#[] }:ByteArray) <;> cases decide (0<(e.Digests.length:Int)) <;> cases sEq e.Key ({ data:=#[] }:ByteArray) <;> cases e.Size != 0 <;> rfl
  unfold smithyardref7_fields.f strayS fieldsS
  simp only [h1]
  cases e.Kind == 1 <;> cases e.Kind == 3 <;> cases e.Kind == 6 <;> cases e.Kind == 7 <;> rfl
def clashB (c:Cache) (e:CacheEvent):Bool:=match getB c e.Digest with | some y=>y.Size != e.Size | none=>false
def fullB (c:Cache) (e:CacheEvent):Bool:=match getB c e.Digest with | some y=>y.Pins == 3000 | none=>false
def extraS (c:Cache) (e:CacheEvent):Int:=bif (e.Kind == 1&&clashB c e) then 12 else bif (e.Kind == 4&&fullB c e) then 16 else 0
theorem newest_any {c:Cache} {t:Int} (h:0≤t):decide (t<newestS c)=(c.Blobs.any (fun x=>decide (t<x.Used))||c.Entries.any (fun x=>decide (t<x.Used))):=by
  have:=newest_le (c:=c) (t:=t)
  cases h1:c.Blobs.any (fun x=>decide (t<x.Used))
  · cases h2:c.Entries.any (fun x=>decide (t<x.Used))
    · have h1:=List.any_eq_false.1 h1
      have h2:=List.any_eq_false.1 h2
      refine decide_eq_false ?_
      have h3:=this.2 ⟨⟨h,fun x hx=>by have:=h1 x hx; simp at this; omega⟩,fun x hx=>by have:=h2 x hx; simp at this; omega⟩
      omega
    · obtain ⟨x,hx,hu⟩:=List.any_eq_true.1 h2
      refine decide_eq_true ?_
      rcases Int.lt_or_le t (newestS c) with h3 | h3
      · exact h3
      · have:=(this.1 h3).2 x hx
        have:=of_decide_eq_true hu
        omega
  · obtain ⟨x,hx,hu⟩:=List.any_eq_true.1 h1
    refine decide_eq_true ?_
    rcases Int.lt_or_le t (newestS c) with h3 | h3
    · exact h3
    · have:=(this.1 h3).1.2 x hx
      have:=of_decide_eq_true hu
      omega
theorem late_ref {c:Cache} (ok:OkCache c) {e:CacheEvent} (ht:0≤e.At):smithyardref7_checkEvent.l4 smithyardref7_checkEvent.e1 big c e 0=some (bif decide (e.At<newestS c) then 11 else extraS c e):=by
  have hbl:=ok.bl
  have hel:=ok.el
  have h2:smithyardref7_checkEvent.e2 c e=some (extraS c e):=by
    unfold smithyardref7_checkEvent.e2 extraS clashB fullB
    rw [blob_at (by omega) ok.bs]
    simp only [Option.bind_some]
    rcases getB_cases ok.bs e.Digest with ⟨g1,g2⟩ | ⟨y,g1,g2,g3,g4,g5,g6⟩
    · rw [g1,g2]
      cases e.Kind == 1 <;> cases e.Kind == 4 <;> rfl
    · rw [g1,g2]
      simp only [cond_true,g3,Option.bind_some]
      rw [decide_eq_true (by omega)]
      cases e.Kind == 1 <;> cases e.Kind == 4 <;> cases y.Size != e.Size <;> cases y.Pins == 3000 <;> rfl
  have h1:smithyardref7_checkEvent.e1 c e=some (bif c.Entries.any (fun x=>decide (e.At<x.Used)) then 11 else extraS c e):=by
    unfold smithyardref7_checkEvent.e1
    rw [rangeS_all (S:=Unit) (L:=fun k _ v=>smithyardref7_checkEvent.l3 smithyardref7_checkEvent.e2 k c e v) (body:=fun _ x s f=>bif decide (e.At<x.Used) then some 11 else f s) (e:=fun _=>smithyardref7_checkEvent.e2 c e) (xs:=c.Entries) (by omega) (fun k s v=>rfl) (),earlyLoop' c.Entries 0,h2]
    cases c.Entries.any (fun x=>decide (e.At<x.Used)) <;> rfl
  rw [rangeS_all (S:=Unit) (L:=fun k _ v=>smithyardref7_checkEvent.l4 smithyardref7_checkEvent.e1 k c e v) (body:=fun _ x s f=>bif decide (e.At<x.Used) then some 11 else f s) (e:=fun _=>smithyardref7_checkEvent.e1 c e) (xs:=c.Blobs) (by omega) (fun k s v=>rfl) (),earlyLoop' c.Blobs 0,h1,newest_any ht]
  cases c.Blobs.any (fun x=>decide (e.At<x.Used)) <;> cases c.Entries.any (fun x=>decide (e.At<x.Used)) <;> rfl
theorem checkEv_ref {c:Cache} (ok:OkCache c) {e:CacheEvent} (hsd:smallStrs e.Digests) (hd:e.Digest.size≤4611686018427387904) (hk:e.Key.size≤4611686018427387904) :
    smithyardref7_checkEvent.f c e=(eventS e).bind fun y=>some (bif y != 0 then y else bif decide (e.At<newestS c) then 11 else extraS c e):=by
  unfold smithyardref7_checkEvent.f eventS
  simp only [within7R,Option.bind_some,fields_ref,isDig_ref _ hd,isDig_ref _ hk]
  cases inR 1 8 e.Kind
  · rfl
  · cases strayS e
    · simp only [Bool.not_true,Bool.not_false,cond_true,cond_false]
      have hb:∀ X:Option Int,((bif e.Kind == 6 then (some true) else (some (e.Kind == 7))).bind fun t1 =>
          (bif !t1 then (some (e.Kind != 3)) else (some false)).bind fun t2 =>
          (bif t2 then (bif !isDigB e.Digest then (some true) else (bif t1 then (some (!isDigB e.Key)) else (some false))) else (bif t1 then (some (!isDigB e.Key)) else (some false))).bind fun t3 =>
          bif t3 then some 3 else X)=bif badS e then some 3 else X:=by
        intro X
        unfold badS fieldsS
        by_cases k1:e.Kind=1
        · rw [k1]
          cases isDigB e.Digest <;> cases isDigB e.Key <;> rfl
        · by_cases k3:e.Kind=3
          · rw [k3]
            cases isDigB e.Digest <;> cases isDigB e.Key <;> rfl
          · by_cases k6:e.Kind=6
            · rw [k6]
              cases isDigB e.Digest <;> cases isDigB e.Key <;> rfl
            · by_cases k7:e.Kind=7
              · rw [k7]
                cases isDigB e.Digest <;> cases isDigB e.Key <;> rfl
              · have e1:(e.Kind == 1)=false:=by simpa using k1
                have e3:(e.Kind == 3)=false:=by simpa using k3
                have e6:(e.Kind == 6)=false:=by simpa using k6
                have e7:(e.Kind == 7)=false:=by simpa using k7
                simp only [bne,e1,e3,e6,e7]
                cases isDigB e.Digest <;> cases isDigB e.Key <;> rfl
      rw [hb]
      cases badS e
      · simp only [cond_false]
        unfold digestsS
        rw [rising_ref hsd]
        cases decide ((200:Int)<(e.Digests.length:Int))
        · simp only [cond_false]
          cases refsS e.Digests with
          | none=>rfl
          | some g =>
            simp only [Option.bind_some]
            cases hg:g != 0
            · simp only [cond_false]
              cases h1:inR 0 100000000 e.Size
              · rfl
              · cases h2:inR 0 1000000000 e.At
                · rfl
                · have ht:0≤e.At:=by simp [inR] at h2; exact h2.1
                  simp only [Bool.not_true,cond_false,Option.bind_some,Bool.or_self,bne_self_eq_false]
                  exact late_ref ok ht
            · simp only [cond_true,Option.bind_some,hg]
        · rfl
      · rfl
    · rfl
end Go.Proofs.YtjdnnkdhajhdkaaGreatDoor

namespace Go.Proofs.YtjdnnkdhajhdkaaGreatDoor
open Go Go.Proofs.YtjdnnkdhajhdkaaGreatDoor.Kit
theorem neg_lt (p:Nat):decide (((p:Nat):Int)<0)=false:=decide_eq_false (by omega)
theorem neg_ge (p:Nat):decide ((0:Int)≤((p:Nat):Int))=true:=decide_eq_true (by omega)
theorem putR {c:Cache} (ok:OkCache c) {e:CacheEvent} (hs0:0≤e.Size) (hs1:e.Size≤100000000) (ht0:0≤e.At) (ht1:e.At≤1000000000) (hx:∀ y,getB c e.Digest=some y→y.Size=e.Size):smithyardref7_putBlob_2.f c e=some (putS c e.Digest e.Size e.At):=by
  have hr0:=ok.room0
  have hr1:=ok.room1
  have hl0:=ok.lease0
  have hl1:=ok.lease1
  have hbl:=ok.bl
  have hq:w64 (e.At+c.Lease)=e.At+c.Lease:=w64_id (by omega) (by omega)
  unfold smithyardref7_putBlob_2.f putS
  have e1:smithyardref7_blob.f (⟨c.Room,c.Lease,c.Blobs,c.Entries⟩:Cache) e.Digest=_:=blob_at (c:=c) (by omega) ok.bs e.Digest
  rw [e1]
  simp only [Option.bind_some]
  rcases getB_cases ok.bs e.Digest with ⟨g1,g2'⟩ | ⟨y,g1,g2',g3,g4,g5,g6⟩
  · rw [g2']
    simp only [cond_false]
    rw [show decide ((0:Int) ≤ -1)=false from rfl]
    simp only [cond_false]
    have hw:w64 (c.Room - e.Size)=c.Room - e.Size:=w64_id (by omega) (by omega)
    have e2:smithyardref7_space_2.f (⟨c.Room,c.Lease,c.Blobs,c.Entries⟩:Cache) (c.Room - e.Size) e.At=some (clearS c (c.Room - e.Size) e.At):=space_ref (c:=c) hbl ok.sz ok.bs _ _
    rw [hw,e2]
    simp only [Option.bind_some]
    obtain ⟨m1,m2,m3,m4,_,_⟩:=clear_more c (c.Room - e.Size) e.At
    cases hb:decide (c.Room<e.Size)
    · simp only [cond_false]
      cases hc:(clearS c (c.Room - e.Size) e.At).2.1
      · rfl
      · simp only [Bool.not_true,cond_false]
        cases h3:decide (3000≤((clearS c (c.Room - e.Size) e.At).2.2.Blobs.length:Int))
        · have h4:=of_decide_eq_false h3
          rw [beq_eq_false_iff_ne.2 (by omega)]
          simp only [cond_false]
          have hp:=placeOf_le (key:=fun x:Blob=>x.Digest) (clearS c (c.Room - e.Size) e.At).2.2.Blobs e.Digest
          rw [scan0 (xs:=(clearS c (c.Room - e.Size) e.At).2.2.Blobs) (key:=fun y:Blob=>y.Digest) (d:=e.Digest) (L:=fun k' v'=>smithyardref7_putBlob_2.l2 smithyardref7_putBlob_2.e1 k' e (clearS c (c.Room - e.Size) e.At) v') (E:=smithyardref7_putBlob_2.e1 e (clearS c (c.Room - e.Size) e.At)) (by omega) (fun k v'=>by rw [smithyardref7_putBlob_2.l2])]
          unfold smithyardref7_putBlob_2.e1
          simp only [Int.toNat_natCast,List.nil_append]
          rw [g2 (decide_eq_true (by omega)) (decide_eq_true (by omega)),guard?_true (room_of (by omega)),guard?_true (room_of (by simp; omega)),g2 (decide_eq_true (by omega)) (decide_eq_true (by omega)),guard?_true (room_of (by simp; omega))]
          rw [m2,hq,m1,m3]
          rfl
        · have h4:=of_decide_eq_true h3
          rw [beq_iff_eq.2 (show ((clearS c (c.Room - e.Size) e.At).2.2.Blobs.length:Int)=3000 by omega)]
          rfl
    · have hlt:=of_decide_eq_true hb
      have hcl:clearS c (c.Room - e.Size) e.At=([],false,c):=by
        unfold clearS
        have h1:=sum_leaving c e.At
        have h2:=sumI_nn (c.Blobs.filter (fun b=>heldB b e.At)) (fun x hx=>(ok.sz x (List.mem_filter.1 hx).1).1)
        rw [decide_eq_true (by omega)]
        rfl
      rw [hcl]
      rfl
  · rw [g2']
    simp only [cond_true]
    rw [neg_ge]
    have hp:=place_lt (key:=fun x:Blob=>x.Digest) ok.bs g2'
    have hz:=hx y g1
    simp only [cond_true,g3,Option.bind_some,Int.toNat_natCast]
    rw [use_lease_at hp y hq]
    have hzz:(y.Size != e.Size)=false:=by rw [hz]; simp
    simp only [Option.bind_some,g6,hzz,cond_false]
    rw [touch_set ok.bs g6 g5,touch_one]
theorem askR {c:Cache} (ok:OkCache c) {e:CacheEvent} (hd:e.Digests.length≤200) (ht0:0≤e.At) (ht1:e.At≤1000000000) :
    smithyardref7_ask.f c e=some (⟨((missingS c e.Digests).length:Int) == 0,missingS c e.Digests,[]⟩,⟨c.Room,c.Lease,touchL e.At c.Lease false true e.Digests c.Blobs,c.Entries⟩):=by
  have hl0:=ok.lease0
  have hl1:=ok.lease1
  have hbl:=ok.bl
  have hq:w64 (e.At+c.Lease)=e.At+c.Lease:=w64_id (by omega) (by omega)
  have main:∀ (l:List ByteArray) (k v:Nat) (bl:List Blob),e.Digests.drop v=l→v≤e.Digests.length→bl.length≤3000→bl.Pairwise (fun a b=>sLt a.Digest b.Digest=true)→l.length<k →
      smithyardref7_ask.l2 smithyardref7_ask.e1 k e c.Room c.Lease bl c.Entries (v:Int)=smithyardref7_ask.e1 e c.Room c.Lease (touchL e.At c.Lease false true l bl) c.Entries:=by
    intro l
    induction l with
    | nil =>
      intro k v bl h1 h2 h3 h4 h5
      obtain ⟨k,rfl⟩:∃ m,k=m+1:=⟨k - 1,by omega⟩
      have hv:e.Digests.length≤v:=List.drop_eq_nil_iff.1 h1
      rw [smithyardref7_ask.l2,decide_eq_false (by omega),cond_false,touch_nil]
    | cons x l ih =>
      intro k v bl h1 h2 h3 h4 h5
      simp only [List.length_cons] at h5
      obtain ⟨k,rfl⟩:∃ m,k=m+1:=⟨k - 1,by omega⟩
      have hv:v<e.Digests.length:=by
        rcases Nat.lt_or_ge v e.Digests.length with h | h
        · exact h
        · rw [List.drop_eq_nil_of_le h] at h1; cases h1
      rw [List.drop_eq_getElem_cons hv] at h1
      injection h1 with q1 q2
      have hw:w64 ((v:Int)+1)=((v+1:Nat):Int):=by rw [w64_id (by omega) (by omega)]; omega
      rw [smithyardref7_ask.l2,decide_eq_true (by omega),at_nat hv,q1]
      simp only [cond_true,Option.bind_some]
      rw [blob_at (c:=⟨c.Room,c.Lease,bl,c.Entries⟩) (by simp only; omega) h4 x,← touch_cons]
      simp only [Option.bind_some,smithyardref7_ask.j3,hw]
      rw [← ih k (v+1) _ q2 (by omega) (by rw [List.length_map]; exact h3) (map_srt (fun y=>touch_dig e.At c.Lease false true x y) h4) (by omega)]
      cases ha:bl.any (fun y=>sEq y.Digest x)
      · rw [map_none ha]
        rfl
      · obtain ⟨y,hy,hym,hye,hyg⟩:=placeOf_get (key:=fun y:Blob=>y.Digest) h4 ha
        simp only [cond_true]
        rw [neg_ge,cond_true,lease_at hy hq]
        simp only [Option.bind_some]
        rw [touch_set h4 hyg (sEq_iff.1 hye)]
  unfold smithyardref7_ask.f
  have h:=main e.Digests big 0 c.Blobs rfl (by omega) hbl ok.bs (by unfold big; omega)
  rw [show ((0:Nat):Int)=0 from rfl] at h
  rw [h]
  unfold smithyardref7_ask.e1
  have hsm2:smallCache ⟨c.Room,c.Lease,touchL e.At c.Lease false true e.Digests c.Blobs,c.Entries⟩:=map_small (fun y=>by cases memB e.Digests y.Digest <;> rfl) ok.fit.small
  rw [missing_ref hsm2 (by omega),missing_touch]
  rfl
theorem write_key {l:List Entry} {k:ByteArray} {x:Entry} (hs:l.Pairwise (fun a b=>sLt a.Key b.Key=true)) (ha:l.any (fun y=>sEq y.Key k)=true):insAt (cutAt l (placeOf (fun y:Entry=>y.Key) l k)) (placeOf (fun y:Entry=>y.Key) (cutAt l (placeOf (fun y:Entry=>y.Key) l k)) k) x=l.set (placeOf (fun y:Entry=>y.Key) l k) x:=by
  have hp:=place_lt (key:=fun y:Entry=>y.Key) hs ha
  rw [cut_place hs hp,ins_cut hp]
theorem store3R {c:Cache} {e:CacheEvent} (hd:e.Digests.length≤200) {bl:List Blob} {es:List Entry} (hel:es.length≤1000) (r l:Int) :
    smithyardref7_store.j3 e r l bl es=some (yesA,⟨r,l,bl,insAt es (placeOf (fun x:Entry=>x.Key) es e.Key) ⟨e.Key,e.Digests,e.At⟩⟩):=by
  have hp:=placeOf_le (key:=fun x:Entry=>x.Key) es e.Key
  unfold smithyardref7_store.j3
  rw [scan0 (xs:=es) (key:=fun y:Entry=>y.Key) (d:=e.Key) (L:=fun k' v'=>smithyardref7_store.l5 smithyardref7_store.e4 k' e r l bl es v') (E:=smithyardref7_store.e4 e r l bl es) (by omega) (fun k v'=>by rw [smithyardref7_store.l5])]
  unfold smithyardref7_store.e4
  simp only [Int.toNat_natCast,List.nil_append]
  rw [guard?_true (room_of (by omega)),g2 (decide_eq_true (by omega)) (decide_eq_true (by omega)),guard?_true (room_of (by omega)),guard?_true (room_of (by simp; omega)),g2 (decide_eq_true (by omega)) (decide_eq_true (by omega)),guard?_true (room_of (by simp; omega))]
  rfl
theorem store4R {c:Cache} {e:CacheEvent} (hd:e.Digests.length≤200) {bl:List Blob} {es:List Entry} (hel:es.length≤1000) (r l:Int) :
    ((some (⟨r,l,bl,es⟩:Cache)).bind fun y3=>smithyardref7_store.j3 e y3.Room y3.Lease y3.Blobs y3.Entries)=some (yesA,⟨r,l,bl,insAt es (placeOf (fun x:Entry=>x.Key) es e.Key) ⟨e.Key,e.Digests,e.At⟩⟩):=by
  rw [Option.bind_some]
  exact store3R (c:=c) hd hel r l
theorem least_ref {e:CacheEvent} {r l:Int} {bl:List Blob} {es:List Entry} {j3:CacheEvent→Int→Int→List Blob→List Entry→Option (CacheAnswer × Cache)} (hel:es.length≤1000):∀ (q:List Entry) (k v b:Nat),es.drop v=q→v≤es.length→b<es.length→q.length<k →
    leastG es q v b<es.length∧smithyardref7_store.l7 (smithyardref7_store.e6 j3) k e r l bl es (b:Int) (v:Int)=smithyardref7_store.e6 j3 e r l bl es ((leastG es q v b:Nat):Int):=by
  intro q
  induction q with
  | nil =>
    intro k v b h1 h2 h3 h5
    obtain ⟨k,rfl⟩:∃ m,k=m+1:=⟨k - 1,by omega⟩
    have hv:es.length≤v:=List.drop_eq_nil_iff.1 h1
    rw [smithyardref7_store.l7,decide_eq_false (by omega),cond_false]
    exact ⟨h3,rfl⟩
  | cons x q ih =>
    intro k v b h1 h2 h3 h5
    simp only [List.length_cons] at h5
    obtain ⟨k,rfl⟩:∃ m,k=m+1:=⟨k - 1,by omega⟩
    have hv:v<es.length:=by
      rcases Nat.lt_or_ge v es.length with h | h
      · exact h
      · rw [List.drop_eq_nil_of_le h] at h1; cases h1
    rw [List.drop_eq_getElem_cons hv] at h1
    injection h1 with g1 g2
    have hw:w64 ((v:Int)+1)=((v+1:Nat):Int):=by rw [w64_id (by omega) (by omega)]; omega
    rw [smithyardref7_store.l7,decide_eq_true (by omega),at_nat hv,g1,at_nat h3]
    simp only [cond_true,Option.bind_some,smithyardref7_store.j8,hw,leastG,List.getElem?_eq_getElem h3]
    cases hc:decide (x.Used<es[b].Used)
    · exact ih k (v+1) b g2 (by omega) h3 (by omega)
    · exact ih k (v+1) v g2 (by omega) hv (by omega)
theorem store2R {c:Cache} {e:CacheEvent} (hd:e.Digests.length≤200) {bl:List Blob} {es:List Entry} (hel:es.length≤1000) (r l:Int) :
    smithyardref7_store.j2 e r l bl es=some (yesA,⟨r,l,bl,insAt (roomE1 es) (placeOf (fun x:Entry=>x.Key) (roomE1 es) e.Key) ⟨e.Key,e.Digests,e.At⟩⟩):=by
  unfold smithyardref7_store.j2
  cases hq:decide (1000≤(es.length:Int))
  · have:=of_decide_eq_false hq
    rw [beq_eq_false_iff_ne.2 (by omega),show roomE1 es=es by unfold roomE1; rw [hq]; rfl]
    simp only [cond_false]
    exact store3R (c:=c) hd hel r l
  · have:=of_decide_eq_true hq
    rw [beq_iff_eq.2 (show (es.length:Int)=1000 by omega),show roomE1 es=cutAt es (leastS es) by unfold roomE1; rw [hq]; rfl]
    have hls:leastG es es 0 0=leastS es:=rfl
    obtain ⟨q1,q2⟩:=least_ref (e:=e) (r:=r) (l:=l) (bl:=bl) (j3:=smithyardref7_store.j3) hel es big 0 0 rfl (by omega) (by omega) (by unfold big; omega)
    rw [show ((0:Nat):Int)=0 from rfl] at q2
    rw [hls] at q1 q2
    simp only [cond_true]
    rw [q2]
    unfold smithyardref7_store.e6
    rw [remove_ref (c:=⟨r,l,bl,es⟩) q1 hel]
    exact store4R (c:=c) hd (Nat.le_trans (cut_sub es (leastS es)).length_le hel) r l
theorem storeR {c:Cache} (ok:OkCache c) {e:CacheEvent} (hd:e.Digests.length≤200):smithyardref7_store.f c e=some (storeS c e):=by
  have hbl:=ok.bl
  have hel:=ok.el
  unfold smithyardref7_store.f storeS
  have e2:smithyardref7_missing.f (⟨c.Room,c.Lease,c.Blobs,c.Entries⟩:Cache) e.Digests=some (missingS c e.Digests):=missing_ref (c:=c) ok.fit.small (by omega)
  rw [e2]
  simp only [Option.bind_some]
  cases hm:decide (0<((missingS c e.Digests).length:Int))
  · have hmn:missingS c e.Digests=[]:=by have:=of_decide_eq_false hm; exact List.eq_nil_of_length_eq_zero (by omega)
    have hall:=missing_nil.1 (show (missingS c e.Digests).isEmpty=true by rw [hmn]; rfl)
    have main:∀ (l:List ByteArray) (k v:Nat) (bl:List Blob),e.Digests.drop v=l→v≤e.Digests.length→bl.length≤3000→bl.Pairwise (fun a b=>sLt a.Digest b.Digest=true)→(∀ d∈e.Digests,bl.any (fun x=>sEq x.Digest d)=true)→l.length<k →
        smithyardref7_store.l9 smithyardref7_store.e1 k c e bl (v:Int)=smithyardref7_store.e1 c e (touchL e.At c.Lease true false l bl):=by
      intro l
      induction l with
      | nil =>
        intro k v bl h1 h2 h3 h4 ha h5
        obtain ⟨k,rfl⟩:∃ m,k=m+1:=⟨k - 1,by omega⟩
        have hv:e.Digests.length≤v:=List.drop_eq_nil_iff.1 h1
        rw [smithyardref7_store.l9,decide_eq_false (by omega),cond_false,touch_nil]
      | cons x l ih =>
        intro k v bl h1 h2 h3 h4 ha h5
        simp only [List.length_cons] at h5
        obtain ⟨k,rfl⟩:∃ m,k=m+1:=⟨k - 1,by omega⟩
        have hv:v<e.Digests.length:=by
          rcases Nat.lt_or_ge v e.Digests.length with h | h
          · exact h
          · rw [List.drop_eq_nil_of_le h] at h1; cases h1
        rw [List.drop_eq_getElem_cons hv] at h1
        injection h1 with q1 q2
        have hx:=ha _ (List.getElem_mem hv)
        rw [q1] at hx
        have hw:w64 ((v:Int)+1)=((v+1:Nat):Int):=by rw [w64_id (by omega) (by omega)]; omega
        obtain ⟨y,hy,hym,hye,hyg⟩:=placeOf_get (key:=fun y:Blob=>y.Digest) h4 hx
        rw [smithyardref7_store.l9,decide_eq_true (by omega),at_nat hv,q1]
        simp only [cond_true,Option.bind_some]
        rw [blob_at (c:=⟨c.Room,c.Lease,bl,c.Entries⟩) (by simp only; omega) h4 x,← touch_cons]
        simp only [Option.bind_some,hx,cond_true,hy,hw,Int.toNat_natCast]
        rw [← ih k (v+1) _ q2 (by omega) (by rw [List.length_map]; exact h3) (map_srt (fun y=>touch_dig e.At c.Lease true false x y) h4) (fun d hd=>by
          have:=ha d hd
          rw [List.any_eq_true] at this ⊢
          obtain ⟨z,z1,z2⟩:=this
          exact ⟨_,List.mem_map.2 ⟨z,z1,rfl⟩,by rw [touch_dig]; exact z2⟩) (by omega),← touch_set h4 hyg (sEq_iff.1 hye)]
        rfl
    have h:=main e.Digests big 0 c.Blobs rfl (by omega) hbl ok.bs hall (by unfold big; omega)
    rw [show ((0:Nat):Int)=0 from rfl] at h
    simp only [cond_false]
    rw [h]
    unfold smithyardref7_store.e1
    rw [entry_at' (c:=⟨c.Room,c.Lease,touchL e.At c.Lease true false e.Digests c.Blobs,c.Entries⟩) (by simp only; omega) ok.es e.Key]
    simp only [Option.bind_some]
    cases ha:c.Entries.any (fun x=>sEq x.Key e.Key)
    · simp only [cond_false]
      rw [show decide ((0:Int) ≤ -1)=false from rfl]
      simp only [cond_false]
      exact store2R (c:=c) hd hel _ _
    · simp only [cond_true]
      have hp:=place_lt (key:=fun y:Entry=>y.Key) ok.es ha
      rw [neg_ge,cond_true,remove_ref (c:=⟨c.Room,c.Lease,touchL e.At c.Lease true false e.Digests c.Blobs,c.Entries⟩) hp hel]
      simp only [Option.bind_some]
      have hcl:(cutAt c.Entries (placeOf (fun x:Entry=>x.Key) c.Entries e.Key)).length<1000:=by
        unfold cutAt
        rw [List.length_append,List.length_take,List.length_drop]
        omega
      rw [store2R (c:=c) hd (by omega)]
      have hr:roomE1 (cutAt c.Entries (placeOf (fun x:Entry=>x.Key) c.Entries e.Key))=cutAt c.Entries (placeOf (fun x:Entry=>x.Key) c.Entries e.Key):=by
        unfold roomE1
        rw [decide_eq_false (by omega)]
        rfl
      rw [hr,write_key ok.es ha]
  · rfl
theorem findR {c:Cache} (ok:OkCache c) {e:CacheEvent} (ht0:0≤e.At) (ht1:e.At≤1000000000):smithyardref7_find.f c e=some (searchS c e):=by
  have hl0:=ok.lease0
  have hl1:=ok.lease1
  have hbl:=ok.bl
  have hel:=ok.el
  have hq:w64 (e.At+c.Lease)=e.At+c.Lease:=w64_id (by omega) (by omega)
  unfold smithyardref7_find.f searchS
  have e1:smithyardref7_entry.f (⟨c.Room,c.Lease,c.Blobs,c.Entries⟩:Cache) e.Key=_:=entry_at' (c:=c) (by omega) ok.es e.Key
  rw [e1]
  simp only [Option.bind_some]
  rcases getE_cases ok.es e.Key with ⟨h1,h2⟩ | ⟨x,h1,h2,h3,h4,h5,h6⟩
  · rw [h1,h2]
    rfl
  · rw [h1,h2]
    have hrl:=(ok.ee x h4).2.1
    have e2:smithyardref7_missing.f (⟨c.Room,c.Lease,c.Blobs,c.Entries⟩:Cache) x.Refs=some (missingS c x.Refs):=missing_ref (c:=c) ok.fit.small (by omega)
    have hp:=place_lt (key:=fun y:Entry=>y.Key) ok.es h2
    simp only [cond_true]
    rw [neg_lt]
    simp only [cond_false,h3,Option.bind_some,e2]
    cases hm:decide (0<((missingS c x.Refs).length:Int))
    · have hmn:missingS c x.Refs=[]:=by have:=of_decide_eq_false hm; exact List.eq_nil_of_length_eq_zero (by omega)
      have hall:=missing_nil.1 (show (missingS c x.Refs).isEmpty=true by rw [hmn]; rfl)
      simp only [cond_false,Int.toNat_natCast]
      generalize c.Entries.set (placeOf (fun x:Entry=>x.Key) c.Entries e.Key) ⟨x.Key,x.Refs,e.At⟩=es
      have main:∀ (l:List ByteArray) (k v:Nat) (bl:List Blob),x.Refs.drop v=l→v≤x.Refs.length→bl.length≤3000→bl.Pairwise (fun a b=>sLt a.Digest b.Digest=true)→(∀ d∈x.Refs,bl.any (fun x=>sEq x.Digest d)=true)→l.length<k →
          smithyardref7_find.l2 smithyardref7_find.e1 k e x c.Room c.Lease bl es (v:Int)=smithyardref7_find.e1 c.Room c.Lease (touchL e.At c.Lease true true l bl) es:=by
        intro l
        induction l with
        | nil =>
          intro k v bl h1 h2 h3 h4 ha h5
          obtain ⟨k,rfl⟩:∃ m,k=m+1:=⟨k - 1,by omega⟩
          have hv:x.Refs.length≤v:=List.drop_eq_nil_iff.1 h1
          rw [smithyardref7_find.l2,decide_eq_false (by omega),cond_false,touch_nil]
        | cons d l ih =>
          intro k v bl h1 h2 h3 h4 ha h5
          simp only [List.length_cons] at h5
          obtain ⟨k,rfl⟩:∃ m,k=m+1:=⟨k - 1,by omega⟩
          have hv:v<x.Refs.length:=by
            rcases Nat.lt_or_ge v x.Refs.length with h | h
            · exact h
            · rw [List.drop_eq_nil_of_le h] at h1; cases h1
          rw [List.drop_eq_getElem_cons hv] at h1
          injection h1 with q1 q2
          have hx:=ha _ (List.getElem_mem hv)
          rw [q1] at hx
          have hw:w64 ((v:Int)+1)=((v+1:Nat):Int):=by rw [w64_id (by omega) (by omega)]; omega
          obtain ⟨y,hy,hym,hye,hyg⟩:=placeOf_get (key:=fun y:Blob=>y.Digest) h4 hx
          have hpb:=place_lt (key:=fun y:Blob=>y.Digest) h4 hx
          rw [smithyardref7_find.l2,decide_eq_true (by omega),at_nat hv,q1]
          simp only [cond_true,Option.bind_some]
          rw [blob_at (c:=⟨c.Room,c.Lease,bl,es⟩) (by simp only; omega) h4 d,← touch_cons]
          simp only [Option.bind_some,hx,cond_true,hy,hw,Int.toNat_natCast]
          rw [use_lease_at hpb y hq]
          simp only [Option.bind_some]
          rw [← ih k (v+1) _ q2 (by omega) (by rw [List.length_map]; exact h3) (map_srt (fun y=>touch_dig e.At c.Lease true true d y) h4) (fun d' hd=>by
            have:=ha d' hd
            rw [List.any_eq_true] at this ⊢
            obtain ⟨z,z1,z2⟩:=this
            exact ⟨_,List.mem_map.2 ⟨z,z1,rfl⟩,by rw [touch_dig]; exact z2⟩) (by omega),← touch_set h4 hyg (sEq_iff.1 hye)]
      have h:=main x.Refs big 0 c.Blobs rfl (by omega) hbl ok.bs hall (by unfold big; omega)
      rw [show ((0:Nat):Int)=0 from rfl] at h
      rw [h]
      rfl
    · simp only [cond_true]
      have e3:smithyardref7_removeEntry.f (⟨c.Room,c.Lease,c.Blobs,c.Entries⟩:Cache) ((placeOf (fun x:Entry=>x.Key) c.Entries e.Key:Nat):Int)=_:=remove_ref (c:=c) hp hel
      rw [e3]
      rfl
theorem oneR {c:Cache} (ok:OkCache c) {e:CacheEvent} (ht0:0≤e.At) (ht1:e.At≤1000000000) (hk:e.Kind=2∨e.Kind=4∨e.Kind=5∨e.Kind=8) (hx:e.Kind=4→∀ y,getB c e.Digest=some y→y.Pins≠3000) :
    smithyardref7_one.f c e=some ((doK c e).1,(doK c e).2.2)∧(doK c e).2.1=0:=by
  have hl0:=ok.lease0
  have hl1:=ok.lease1
  have hbl:=ok.bl
  have hq:w64 (e.At+c.Lease)=e.At+c.Lease:=w64_id (by omega) (by omega)
  unfold smithyardref7_one.f
  have e1:smithyardref7_blob.f (⟨c.Room,c.Lease,c.Blobs,c.Entries⟩:Cache) e.Digest=_:=blob_at (c:=c) (by omega) ok.bs e.Digest
  rw [e1]
  simp only [Option.bind_some]
  rcases getB_cases ok.bs e.Digest with ⟨h1,h2⟩ | ⟨y,h1,h2,h3,h4,h5,h6⟩
  · rw [h2]
    simp only [cond_false]
    rw [show decide ((-1:Int)<0)=true from rfl]
    simp only [cond_true]
    unfold doK
    rcases hk with k | k | k | k
    · rw [k]
      show some _=some ((⟨c.Blobs.any (fun x=>sEq x.Digest e.Digest),[],[]⟩:CacheAnswer),(⟨c.Room,c.Lease,touchL e.At c.Lease true true [e.Digest] c.Blobs,c.Entries⟩:Cache))∧_
      rw [h2,touch_no h2]
      exact ⟨rfl,rfl⟩
    · rw [k]
      show some _=some ((pinS c e).1,(pinS c e).2.2)∧(pinS c e).2.1=0
      unfold pinS
      rw [h1]
      exact ⟨rfl,rfl⟩
    · rw [k]
      show some _=some ((pinS c e).1,(pinS c e).2.2)∧(pinS c e).2.1=0
      unfold pinS
      rw [h1]
      exact ⟨rfl,rfl⟩
    · rw [k]
      show some _=some ((dropS c e).1,(dropS c e).2.2)∧(dropS c e).2.1=0
      unfold dropS
      rw [h1]
      exact ⟨rfl,rfl⟩
  · rw [h2]
    obtain ⟨_,_,_,_,_,_,_,b8,b9⟩:=ok.be y h4
    have hp:=place_lt (key:=fun x:Blob=>x.Digest) ok.bs h2
    have em:w64 (y.Pins - 1)=y.Pins + -1:=by rw [w64_id (by omega) (by omega)]; omega
    have ep:w64 (y.Pins+1)=y.Pins+1:=w64_id (by omega) (by omega)
    have s1:=set_map (key:=fun y:Blob=>y.Digest) (f:=pinB (-1)) ok.bs h6
    have s2:=set_map (key:=fun y:Blob=>y.Digest) (f:=pinB 1) ok.bs h6
    simp only [h5] at s1 s2
    simp only [cond_true]
    rw [neg_lt]
    simp only [cond_false,h3,Option.bind_some,Int.toNat_natCast,em,ep]
    rw [use_lease_at hp y hq]
    unfold doK
    rcases hk with k | k | k | k
    · rw [k]
      simp only [Option.bind_some]
      show some _=some ((⟨c.Blobs.any (fun x=>sEq x.Digest e.Digest),[],[]⟩:CacheAnswer),(⟨c.Room,c.Lease,touchL e.At c.Lease true true [e.Digest] c.Blobs,c.Entries⟩:Cache))∧_
      rw [h2,touch_one,← touch_set ok.bs h6 h5]
      exact ⟨rfl,rfl⟩
    · have hn:=hx k y h1
      rw [k]
      show some _=some ((pinS c e).1,(pinS c e).2.2)∧(pinS c e).2.1=0
      unfold pinS
      rw [h1,k]
      simp only
      rw [decide_eq_false (by omega)]
      refine ⟨?_,rfl⟩
      show some _=some (yesA,(⟨c.Room,c.Lease,pinL e.Digest 1 c.Blobs,c.Entries⟩:Cache))
      unfold pinL
      rw [← s2]
      rfl
    · rw [k]
      show _=some ((pinS c e).1,(pinS c e).2.2)∧(pinS c e).2.1=0
      unfold pinS
      rw [h1,k]
      simp only
      cases hz:y.Pins == 0
      · refine ⟨?_,rfl⟩
        show some _=some (yesA,(⟨c.Room,c.Lease,pinL e.Digest (-1) c.Blobs,c.Entries⟩:Cache))
        unfold pinL
        rw [← s1]
        rfl
      · exact ⟨rfl,rfl⟩
    · rw [k]
      show _=some ((dropS c e).1,(dropS c e).2.2)∧(dropS c e).2.1=0
      unfold dropS
      rw [h1]
      simp only [heldR,Option.bind_some]
      cases hh:heldB y e.At
      · have e4:smithyardref7_drop_3.f (⟨c.Room,c.Lease,c.Blobs,c.Entries⟩:Cache) e.Digest=some ⟨c.Room,c.Lease,c.Blobs.filter (fun x=>!sEq x.Digest e.Digest),c.Entries⟩:=by
          have:=drop_ref (c:=c) hbl ok.bs h4
          rw [h5] at this
          exact this
        have e5:c.Blobs.filter (fun b=>!memB [e.Digest] b.Digest)=c.Blobs.filter (fun x=>!sEq x.Digest e.Digest):=by
          congr 1
          funext b
          congr 1
          unfold memB
          simp only [List.any_cons,List.any_nil,Bool.or_false]
          by_cases hb:e.Digest=b.Digest
          · rw [← hb,sEq_self]
            simp
          · rw [decide_eq_false hb]
            cases he:sEq b.Digest e.Digest
            · rfl
            · exact absurd (sEq_iff.1 he).symm hb
        rw [e5]
        show ((smithyardref7_drop_3.f (⟨c.Room,c.Lease,c.Blobs,c.Entries⟩:Cache) e.Digest).bind _)=_∧_
        rw [e4]
        exact ⟨rfl,rfl⟩
      · exact ⟨rfl,rfl⟩
theorem doR {c:Cache} (ok:OkCache c) {e:CacheEvent} (hsd:smallStrs e.Digests) (hd:e.Digest.size≤4611686018427387904) (hk:e.Key.size≤4611686018427387904) :
    ∃ a c',smithyardref7_do.f c e=some (a,(dE c e).2.1,c')∧((dE c e).2.1=0→a=(dE c e).1∧c'=(dE c e).2.2):=by
  unfold smithyardref7_do.f dE
  have e0:smithyardref7_checkEvent.f (⟨c.Room,c.Lease,c.Blobs,c.Entries⟩:Cache) e=_:=checkEv_ref (c:=c) ok hsd hd hk
  obtain ⟨y,hy⟩:=eventS_some e
  rw [e0,hy]
  simp only [Option.bind_some,Option.getD_some]
  cases h1:y != 0
  · have:y=0:=by simpa using h1
    subst this
    obtain ⟨hdl,⟨hs0,hs1⟩,⟨ht0,ht1⟩,_,_,hkind⟩:=eventS_zero hy
    cases h2:decide (e.At<newestS c)
    · simp only [cond_false]
      have hkd:e.Kind=1∨e.Kind=3∨e.Kind=6∨e.Kind=7∨(e.Kind=2∨e.Kind=4∨e.Kind=5∨e.Kind=8):=by
        simp [inR] at hkind
        omega
      rcases hkd with k | k | k | k | k
      · cases hz:(e.Kind == 1&&clashB c e)
        · have hx0:extraS c e=0:=by
            unfold extraS
            rw [hz,k]
            rfl
          rw [hx0]
          have hp:=putR ok hs0 hs1 ht0 ht1 (fun y hy=>by
            unfold clashB at hz
            rw [k,hy] at hz
            simpa using hz)
          have hp':smithyardref7_putBlob_2.f (⟨c.Room,c.Lease,c.Blobs,c.Entries⟩:Cache) e=_:=hp
          rw [hp']
          unfold doK
          rw [k]
          exact ⟨_,_,rfl,fun _=>⟨rfl,rfl⟩⟩
        · have hx0:extraS c e=12:=by
            unfold extraS
            rw [hz]
            rfl
          rw [hx0]
          have hd12:(doK c e).2.1=12:=by
            unfold doK
            rw [k]
            show (putS c e.Digest e.Size e.At).2.1=12
            unfold putS
            unfold clashB at hz
            rcases getB_cases ok.bs e.Digest with ⟨g1,g2'⟩ | ⟨z,g1,g2',g3,g4,g5,g6⟩
            · rw [g1] at hz
              simp at hz
            · rw [g1] at hz
              have hzz:(z.Size != e.Size)=true:=by
                rw [k] at hz
                exact hz
              rw [g2',g6]
              simp only [cond_true,hzz]
          rw [hd12]
          exact ⟨_,_,rfl,fun h=>by cases h⟩
      · have hx0:extraS c e=0:=by unfold extraS; rw [k]; rfl
        rw [hx0,k]
        have hp':smithyardref7_ask.f (⟨c.Room,c.Lease,c.Blobs,c.Entries⟩:Cache) e=_:=askR (c:=c) ok hdl ht0 ht1
        rw [hp']
        unfold doK
        rw [k]
        exact ⟨_,_,rfl,fun _=>⟨rfl,rfl⟩⟩
      · have hx0:extraS c e=0:=by unfold extraS; rw [k]; rfl
        rw [hx0,k]
        have hp':smithyardref7_store.f (⟨c.Room,c.Lease,c.Blobs,c.Entries⟩:Cache) e=_:=storeR (c:=c) ok hdl
        rw [hp']
        unfold doK
        rw [k]
        exact ⟨_,_,rfl,fun _=>⟨rfl,rfl⟩⟩
      · have hx0:extraS c e=0:=by unfold extraS; rw [k]; rfl
        rw [hx0,k]
        have hp':smithyardref7_find.f (⟨c.Room,c.Lease,c.Blobs,c.Entries⟩:Cache) e=_:=findR (c:=c) ok ht0 ht1
        rw [hp']
        unfold doK
        rw [k]
        exact ⟨_,_,rfl,fun _=>⟨rfl,rfl⟩⟩
      · have hn1:(e.Kind == 1)=false:=by rw [beq_eq_false_iff_ne]; omega
        have hn3:(e.Kind == 3)=false:=by rw [beq_eq_false_iff_ne]; omega
        have hn6:(e.Kind == 6)=false:=by rw [beq_eq_false_iff_ne]; omega
        have hn7:(e.Kind == 7)=false:=by rw [beq_eq_false_iff_ne]; omega
        cases hz:(e.Kind == 4&&fullB c e)
        · have hx0:extraS c e=0:=by
            unfold extraS
            rw [hz,hn1]
            rfl
          have hp':smithyardref7_one.f (⟨c.Room,c.Lease,c.Blobs,c.Entries⟩:Cache) e=some ((doK c e).1,(doK c e).2.2)∧(doK c e).2.1=0:=oneR (c:=c) ok ht0 ht1 k (fun k4 z hz' hq=>by
            unfold fullB at hz
            rw [k4,hz'] at hz
            simp only [hq] at hz
            cases hz)
          rw [hx0,hn1,hn3,hn6,hn7,hp'.1,hp'.2]
          exact ⟨_,_,rfl,fun _=>⟨rfl,rfl⟩⟩
        · have hx0:extraS c e=16:=by
            unfold extraS
            rw [hz,hn1]
            rfl
          rw [Bool.and_eq_true] at hz
          have k4:e.Kind=4:=by simpa using hz.1
          have hd16:(doK c e).2.1=16:=by
            unfold doK
            rw [k4]
            show (pinS c e).2.1=16
            unfold pinS
            unfold fullB at hz
            rcases getB_cases ok.bs e.Digest with ⟨g1,g2'⟩ | ⟨z,g1,g2',g3,g4,g5,g6⟩
            · rw [g1] at hz
              simp at hz
            · rw [g1] at hz
              have hzz:z.Pins=3000:=by simpa using hz.2
              rw [g1,k4]
              simp only
              rw [hzz]
              rfl
          rw [hx0,hd16]
          exact ⟨_,_,rfl,fun h=>by cases h⟩
    · exact ⟨_,_,rfl,fun h=>by cases h⟩
  · simp only [cond_true,h1]
    exact ⟨_,_,rfl,fun h=>by rw [h] at h1; simp at h1⟩
end Go.Proofs.YtjdnnkdhajhdkaaGreatDoor

namespace Go.Proofs.YtjdnnkdhajhdkaaGreatDoor
open Go Go.Proofs.YtjdnnkdhajhdkaaGreatDoor.Kit
theorem copyEv_id {l:List CacheEvent} (he:l.length*80≤140737490452480) (hr:∀ x∈l,x.Digests.length*16≤140737490452480):smithyardref7_CopyEvents.f l=some l:=by
  unfold smithyardref7_CopyEvents.f
  rw [rangeS_all (xs:=l) (L:=fun k s v=>smithyardref7_CopyEvents.l2 smithyardref7_CopyEvents.e1 k l s v) (body:=fun _ x s f=>bif (fun _=>true) x then guard? (room s.length 1 80) (f (s++[id x])) else f s) (e:=fun s=>some s) (by omega) (fun k s v=>by
    simp only [smithyardref7_CopyEvents.l2]
    congr 1
    refine bind_at (fun x hx=>?_)
    rw [slices_Clone_string_id (hr x hx)]
    rfl) []]
  rw [filterLoop l 0 [] (by simp; omega)]
  have:∀ l:List CacheEvent,l.filter (fun _=>true)=l:=fun l=>by simp
  simp [this]
theorem sameEv_self {l:List CacheEvent} (hl:l.length≤4611686018427387904) (h:∀ e∈l,smallStrs e.Digests):smithyardref7_SameEvents.f l l=some true:=by
  unfold smithyardref7_SameEvents.f
  rw [bne_self_eq_false]
  refine selfLoop (L:=fun k v=>smithyardref7_SameEvents.l2 smithyardref7_SameEvents.e1 k l l v) hl (fun k v h0 h1=>?_) (fun k=>?_)
  · obtain ⟨hn,hat⟩:=at?_get (xs:=l) h0 h1
    have hr:=(h _ (List.getElem_mem hn)).1
    simp only [smithyardref7_SameEvents.l2,decide_eq_true h1,cond_true,hat,Option.bind_some,bne_self_eq_false,sEq_self,Bool.not_true,cond_false,sameList_self (show _≤4611686018427387904 from Nat.le_trans hr (by omega))]
    rw [w64_id (by omega) (by omega)]
  · simp only [smithyardref7_SameEvents.l2,decide_eq_false (Int.lt_irrefl _),cond_false]
    rfl
theorem doS_dE {c:Cache} (ok:OkCache c) (e:CacheEvent):doS c e=some (bif (dE c e).2.1 != 0 then ((⟨0,0,[],[]⟩:Cache),noA,(dE c e).2.1) else ((dE c e).2.2,(dE c e).1,0)):=by
  unfold doS dE
  rw [ok.check]
  obtain ⟨y,hy⟩:=eventS_some e
  rw [hy]
  simp only [Option.bind_some,Option.getD_some,bne_self_eq_false,cond_false]
  cases h1:y != 0
  · cases decide (e.At<newestS c)
    · simp only [cond_false]
      cases (doK c e).2.1 != 0 <;> rfl
    · rfl
  · simp only [cond_true,h1]
theorem DoR {c:Cache} (hf:Fit c) {e:CacheEvent} (hsd:smallStrs e.Digests) (hd:e.Digest.size≤4611686018427387904) (hk:e.Key.size≤4611686018427387904):smithyardref7_Do.f c e=doS c e:=by
  unfold smithyardref7_Do.f
  rw [check_ref hf.small]
  obtain ⟨f,e1⟩:=cacheS_some c
  rw [e1]
  simp only [Option.bind_some]
  cases h0:f != 0
  · have hz:f=0:=by simpa using h0
    subst hz
    have ok:=cacheS_ok e1
    rw [copied_ref hf,doS_dE ok]
    obtain ⟨a,c',e2,e3⟩:=doR ok hsd hd hk
    have e2':smithyardref7_do.f (⟨c.Room,c.Lease,c.Blobs,c.Entries⟩:Cache) e=_:=e2
    simp only [cond_false,Option.bind_some,e2']
    cases h1:(dE c e).2.1 != 0
    · obtain ⟨rfl,rfl⟩:=e3 (by simpa using h1)
      rfl
    · rfl
  · unfold doS
    rw [e1]
    simp only [Option.bind_some,h0,cond_true]
    rfl
theorem small_zero:smallCache ⟨0,0,[],[]⟩:=⟨⟨by simp,fun x hx=>by cases hx⟩,⟨by simp,fun x hx=>by cases hx⟩⟩
theorem doS_small (c:Cache) {e:CacheEvent}:∃ r,doS c e=some r∧smallCache r.1∧smallA r.2.1:=by
  rcases doS_cases c e with ⟨f,hf0,q⟩ | ⟨ok,hev,hn,h0,q⟩
  · exact ⟨_,q,small_zero,⟨Nat.zero_le _,Nat.zero_le _⟩⟩
  · obtain ⟨ok',_⟩:=doK_ok ok hev hn h0
    exact ⟨_,q,ok'.fit.small,doK_ans ok (eventS_zero hev).1⟩
end Go.Proofs.YtjdnnkdhajhdkaaGreatDoor
