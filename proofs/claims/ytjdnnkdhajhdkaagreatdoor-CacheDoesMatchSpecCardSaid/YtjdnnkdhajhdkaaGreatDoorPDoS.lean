/- Merged of PDoA, PDoB, PDoC, PDoD, PKeep, PDoS. -/
import Derived.Test.YtjdnnkdhajhdkaaGreatDoorPLaw7
set_option linter.unusedVariables false
set_option linter.unusedSimpArgs false
namespace Go.Proofs.YtjdnnkdhajhdkaaGreatDoor
open Go Go.Proofs.YtjdnnkdhajhdkaaGreatDoor.Kit
def fieldsS (k:Int):Bool × Bool × Bool × Bool:=bif k == 1 then (true,false,false,true) else bif k == 3 then (false,true,false,false) else bif k == 6 then (false,true,true,false) else bif k == 7 then (false,false,true,false) else (true,false,false,false)
theorem fields_prog (k:Int):cache_fields.f k=some (fieldsS k):=by
  unfold cache_fields.f fieldsS
  cases k == 1 <;> cases k == 3 <;> cases k == 6 <;> cases k == 7 <;> rfl
def strayS (e:CacheEvent):Bool:=(!(fieldsS e.Kind).1&&!sEq e.Digest ({ data:=#[] }:ByteArray))||((!(fieldsS e.Kind).2.1&&decide (0<(e.Digests.length:Int)))||((!(fieldsS e.Kind).2.2.1&&!sEq e.Key ({ data:=#[] }:ByteArray))||(!(fieldsS e.Kind).2.2.2&&e.Size != 0)))
def badS (e:CacheEvent):Bool:=((fieldsS e.Kind).1&&!isDigB e.Digest)||((fieldsS e.Kind).2.2.1&&!isDigB e.Key)
def eventS (e:CacheEvent):Option Int :=
  bif !inR 1 8 e.Kind then some 4 else bif strayS e then some 3 else bif badS e then some 3 else
  (digestsS e.Digests 200).bind fun y=>bif y != 0 then some y else bif (!inR 0 100000000 e.Size||!inR 0 1000000000 e.At) then some 1 else some 0
theorem event_prog {e:CacheEvent} (h:smallStrs e.Digests):cache_checkEvent.f e=eventS e:=by
  have h2:∀ b:Bool,cache_checkEvent.j2 e b=bif b then some 3 else (digestsS e.Digests 200).bind fun y=>bif y != 0 then some y else bif (!inR 0 100000000 e.Size||!inR 0 1000000000 e.At) then some 1 else some 0:=by
    intro b
    unfold cache_checkEvent.j2
    rw [digests_prog h]
    congr 1
    congr 1
    funext y
    simp only [within7,Option.bind_some,cache_isMoment.f]
    cases inR 0 100000000 e.Size <;> cases inR 0 1000000000 e.At <;> rfl
  have h1:∀ b:Bool,cache_checkEvent.j1 e (fieldsS e.Kind) b=bif b then some 3 else bif badS e then some 3 else (digestsS e.Digests 200).bind fun y=>bif y != 0 then some y else bif (!inR 0 100000000 e.Size||!inR 0 1000000000 e.At) then some 1 else some 0:=by
    intro b
    unfold cache_checkEvent.j1 badS
    simp only [isDig_prog,Option.bind_some,h2]
    cases b
    · cases (fieldsS e.Kind).1 <;> cases (fieldsS e.Kind).2.2.1 <;> cases isDigB e.Digest <;> cases isDigB e.Key <;> rfl
    · rfl
  unfold cache_checkEvent.f eventS
  simp only [within7,Option.bind_some,fields_prog,h1]
  unfold strayS
  cases inR 1 8 e.Kind
  · rfl
  · cases (fieldsS e.Kind).1 <;> cases (fieldsS e.Kind).2.1 <;> cases (fieldsS e.Kind).2.2.1 <;> cases (fieldsS e.Kind).2.2.2 <;> cases sEq e.Digest ({ data:=#[] }:ByteArray) <;> cases decide (0<(e.Digests.length:Int)) <;> cases sEq e.Key ({ data:=#[] }:ByteArray) <;> cases e.Size != 0 <;> rfl
theorem eventS_some (e:CacheEvent):∃ r,eventS e=some r:=by
  unfold eventS
  cases inR 1 8 e.Kind
  · exact ⟨_,rfl⟩
  · cases strayS e
    · cases badS e
      · have hd:∃ g,digestsS e.Digests 200=some g:=by
          unfold digestsS
          cases decide ((200:Int)<(e.Digests.length:Int))
          · exact refsS_some e.Digests
          · exact ⟨_,rfl⟩
        obtain ⟨g,hg⟩:=hd
        rw [hg]
        simp only [Bool.not_true,cond_false,Option.bind_some]
        cases g != 0
        · cases (!inR 0 100000000 e.Size||!inR 0 1000000000 e.At)
          · exact ⟨_,rfl⟩
          · exact ⟨_,rfl⟩
        · exact ⟨_,rfl⟩
      · exact ⟨_,rfl⟩
    · exact ⟨_,rfl⟩
end Go.Proofs.YtjdnnkdhajhdkaaGreatDoor

namespace Go.Proofs.YtjdnnkdhajhdkaaGreatDoor
open Go Go.Proofs.YtjdnnkdhajhdkaaGreatDoor.Kit
def yesA:CacheAnswer:=⟨true,[],[]⟩
def getB (c:Cache) (d:ByteArray):Option Blob:=bif c.Blobs.any (fun x=>sEq x.Digest d) then c.Blobs[placeOf (fun x:Blob=>x.Digest) c.Blobs d]? else none
def getE (c:Cache) (k:ByteArray):Option Entry:=bif c.Entries.any (fun x=>sEq x.Key k) then c.Entries[placeOf (fun x:Entry=>x.Key) c.Entries k]? else none
theorem getB_cases {c:Cache} (hs:c.Blobs.Pairwise (fun a b=>sLt a.Digest b.Digest=true)) (d:ByteArray):(getB c d=none∧c.Blobs.any (fun x=>sEq x.Digest d)=false)∨∃ y,getB c d=some y∧c.Blobs.any (fun x=>sEq x.Digest d)=true∧at? c.Blobs ((placeOf (fun x:Blob=>x.Digest) c.Blobs d:Nat):Int)=some y∧y∈c.Blobs∧y.Digest=d∧c.Blobs[placeOf (fun x:Blob=>x.Digest) c.Blobs d]? = some y:=by
  unfold getB
  cases ha:c.Blobs.any (fun x=>sEq x.Digest d)
  · exact .inl ⟨rfl,rfl⟩
  · obtain ⟨y,hy,hym,hye,hyg⟩:=placeOf_get (key:=fun y:Blob=>y.Digest) hs ha
    exact .inr ⟨y,hyg,rfl,hy,hym,sEq_iff.1 hye,hyg⟩
theorem getE_cases {c:Cache} (hs:c.Entries.Pairwise (fun a b=>sLt a.Key b.Key=true)) (d:ByteArray):(getE c d=none∧c.Entries.any (fun x=>sEq x.Key d)=false)∨∃ y,getE c d=some y∧c.Entries.any (fun x=>sEq x.Key d)=true∧at? c.Entries ((placeOf (fun x:Entry=>x.Key) c.Entries d:Nat):Int)=some y∧y∈c.Entries∧y.Key=d∧c.Entries[placeOf (fun x:Entry=>x.Key) c.Entries d]? = some y:=by
  unfold getE
  cases ha:c.Entries.any (fun x=>sEq x.Key d)
  · exact .inl ⟨rfl,rfl⟩
  · obtain ⟨y,hy,hym,hye,hyg⟩:=placeOf_get (key:=fun y:Entry=>y.Key) hs ha
    exact .inr ⟨y,hyg,rfl,hy,hym,sEq_iff.1 hye,hyg⟩
def pinB (k:Int) (y:Blob):Blob:=⟨y.Digest,y.Size,y.Used,y.Until,y.Pins+k⟩
def pinL (d:ByteArray) (k:Int) (bl:List Blob):List Blob:=bl.map (fun y=>bif sEq y.Digest d then pinB k y else y)
def pinS (c:Cache) (e:CacheEvent):CacheAnswer × Int × Cache :=
  match getB c e.Digest with
  | none=>(noA,0,c)
  | some y=>bif e.Kind == 5 then bif y.Pins == 0 then (noA,0,c) else (yesA,0,⟨c.Room,c.Lease,pinL e.Digest (-1) c.Blobs,c.Entries⟩)
    else bif decide (3000≤y.Pins) then (noA,16,c) else (yesA,0,⟨c.Room,c.Lease,pinL e.Digest 1 c.Blobs,c.Entries⟩)
theorem pin_prog {c:Cache} (ok:OkCache c) (e:CacheEvent):cache_pin.f c e=some (pinS c e):=by
  unfold cache_pin.f pinS
  have e1:cache_find.f (⟨c.Room,c.Lease,c.Blobs,c.Entries⟩:Cache) e.Digest=_:=find_prog (c:=c) ok.fit.small ok.bs e.Digest
  rw [e1]
  simp only [Option.bind_some]
  rcases getB_cases ok.bs e.Digest with ⟨h1,h2⟩ | ⟨y,h1,h2,h3,h4,h5,h6⟩
  · rw [h1,h2]
    rfl
  · rw [h1,h2]
    obtain ⟨_,_,_,_,_,_,_,b8,b9⟩:=ok.be y h4
    have em:w64 (y.Pins - 1)=y.Pins + -1:=by rw [w64_id (by omega) (by omega)]; omega
    have ep:w64 (y.Pins+1)=y.Pins+1:=w64_id (by omega) (by omega)
    have s1:=set_map (key:=fun y:Blob=>y.Digest) (f:=pinB (-1)) ok.bs h6
    have s2:=set_map (key:=fun y:Blob=>y.Digest) (f:=pinB 1) ok.bs h6
    simp only [h5] at s1 s2
    simp only [h3,Option.bind_some,Bool.not_true,cond_false,Int.toNat_natCast,em,ep,cache_pin.j1]
    cases e.Kind == 5
    · simp only [cond_false,Option.bind_some]
      cases hq:decide (3000≤y.Pins)
      · simp only [cond_false,pinL,← s2]
        rfl
      · rfl
    · simp only [cond_true,Option.bind_some]
      cases hq:y.Pins == 0
      · simp only [cond_false,cond_true,pinL,← s1]
        rfl
      · rfl
def cutAt {α:Type} (l:List α) (p:Nat):List α:=l.take p++l.drop (p+1)
def searchS (c:Cache) (e:CacheEvent):CacheAnswer × Cache :=
  match getE c e.Key with
  | none=>(noA,c)
  | some x=>bif decide (0<((missingS c x.Refs).length:Int)) then (⟨false,missingS c x.Refs,[]⟩,⟨c.Room,c.Lease,c.Blobs,cutAt c.Entries (placeOf (fun x:Entry=>x.Key) c.Entries e.Key)⟩)
    else (yesA,⟨c.Room,c.Lease,touchL e.At c.Lease true true x.Refs c.Blobs,c.Entries.set (placeOf (fun x:Entry=>x.Key) c.Entries e.Key) ⟨x.Key,x.Refs,e.At⟩⟩)
theorem search_prog {c:Cache} (ok:OkCache c) {e:CacheEvent} (ht0:0≤e.At) (ht1:e.At≤1000000000):cache_search.f c e=some (searchS c e):=by
  have hel:=ok.el
  have hf:=ok.fit
  unfold cache_search.f searchS
  have e1:cache_entryAt.f (⟨c.Room,c.Lease,c.Blobs,c.Entries⟩:Cache) e.Key=_:=entryAt_prog (c:=c) ok.fit.small ok.es e.Key
  rw [e1]
  simp only [Option.bind_some]
  rcases getE_cases ok.es e.Key with ⟨h1,h2⟩ | ⟨x,h1,h2,h3,h4,h5,h6⟩
  · rw [h1,h2]
    rfl
  · rw [h1,h2]
    have hrl:=(ok.ee x h4).2.1
    have e2:cache_missing.f (⟨c.Room,c.Lease,c.Blobs,c.Entries⟩:Cache) x.Refs=some (missingS c x.Refs):=missing_prog (c:=c) hf.small ok.bs (hf.fr x h4)
    simp only [Bool.not_true,cond_false,h3,Option.bind_some,e2]
    have hlt:placeOf (fun x:Entry=>x.Key) c.Entries e.Key<c.Entries.length:=by
      rcases Nat.lt_or_ge (placeOf (fun x:Entry=>x.Key) c.Entries e.Key) c.Entries.length with h | h
      · exact h
      · rw [List.getElem?_eq_none h] at h6; cases h6
    cases hm:decide (0<((missingS c x.Refs).length:Int))
    · have hsm:smallCache ⟨c.Room,c.Lease,c.Blobs,c.Entries.set (placeOf (fun x:Entry=>x.Key) c.Entries e.Key) ⟨x.Key,x.Refs,e.At⟩⟩:=by
        refine ⟨hf.small.1,by simp only [List.length_set]; exact hf.small.2.1,fun z hz=>?_⟩
        rcases mem_set_or hz with rfl | hz
        · exact hf.small.2.2 x h4
        · exact hf.small.2.2 z hz
      have e3:=touch_prog (c:=⟨c.Room,c.Lease,c.Blobs,c.Entries.set (placeOf (fun x:Entry=>x.Key) c.Entries e.Key) ⟨x.Key,x.Refs,e.At⟩⟩) hsm ok.bs ht0 ht1 ok.lease0 ok.lease1 (ds:=x.Refs) (by omega) true true
      simp only [cond_false,Int.toNat_natCast]
      rw [e3]
      rfl
    · simp only [cond_true]
      have hw:w64 (((placeOf (fun x:Entry=>x.Key) c.Entries e.Key:Nat):Int)+1)=((placeOf (fun x:Entry=>x.Key) c.Entries e.Key+1:Nat):Int):=by rw [w64_id (by omega) (by omega)]; omega
      rw [hw]
      unfold slices_Delete_Entry.f
      rw [guard?_true (by
        simp only [Bool.and_eq_true,decide_eq_true_eq]
        exact ⟨by omega,by omega,by omega,room_of (by omega)⟩)]
      rfl
end Go.Proofs.YtjdnnkdhajhdkaaGreatDoor

namespace Go.Proofs.YtjdnnkdhajhdkaaGreatDoor
open Go Go.Proofs.YtjdnnkdhajhdkaaGreatDoor.Kit
theorem cut_sub {α:Type} (l:List α) (p:Nat):(cutAt l p).Sublist l:=by
  have h:(l.take p++l.drop (p+1)).Sublist (l.take p++l.drop p):=List.Sublist.append (List.Sublist.refl _) (by rw [← List.drop_drop]; exact List.drop_sublist _ _)
  rw [List.take_append_drop] at h
  exact h
def leastG (es:List Entry):List Entry→Nat→Nat→Nat
  | [],_,b=>b
  | x::l,v,b=>leastG es l (v+1) (match es[b]? with | some y=>bif decide (x.Used<y.Used) then v else b | none=>b)
def leastS (es:List Entry):Nat:=leastG es es 0 0
theorem least_loop {c:Cache} {e:CacheEvent} {ds:List ByteArray} {j1:CacheEvent→Cache→(List ByteArray)→(List Entry)→Int→Option (CacheAnswer × Cache)} (hel:c.Entries.length≤1000):∀ (l:List Entry) (k v b:Nat),c.Entries.drop v=l→v≤c.Entries.length→b<c.Entries.length→l.length<k →
    leastG c.Entries l v b<c.Entries.length∧cache_store.l3 (cache_store.e2 j1) k e c ds (b:Int) (v:Int)=cache_store.e2 j1 e c ds ((leastG c.Entries l v b:Nat):Int):=by
  intro l
  induction l with
  | nil =>
    intro k v b h1 h2 h3 h5
    obtain ⟨k,rfl⟩:∃ m,k=m+1:=⟨k - 1,by omega⟩
    have hv:c.Entries.length≤v:=List.drop_eq_nil_iff.1 h1
    rw [cache_store.l3,decide_eq_false (by omega),cond_false]
    exact ⟨h3,rfl⟩
  | cons x l ih =>
    intro k v b h1 h2 h3 h5
    simp only [List.length_cons] at h5
    obtain ⟨k,rfl⟩:∃ m,k=m+1:=⟨k - 1,by omega⟩
    have hv:v<c.Entries.length:=by
      rcases Nat.lt_or_ge v c.Entries.length with h | h
      · exact h
      · rw [List.drop_eq_nil_of_le h] at h1; cases h1
    rw [List.drop_eq_getElem_cons hv] at h1
    injection h1 with g1 g2
    have hw:w64 ((v:Int)+1)=((v+1:Nat):Int):=by rw [w64_id (by omega) (by omega)]; omega
    rw [cache_store.l3,decide_eq_true (by omega),at_nat hv,g1,at_nat h3]
    simp only [cond_true,Option.bind_some,cache_store.j4,hw,leastG,List.getElem?_eq_getElem h3]
    cases hc:decide (x.Used<c.Entries[b].Used)
    · exact ih k (v+1) b g2 (by omega) h3 (by omega)
    · exact ih k (v+1) v g2 (by omega) hv (by omega)
def roomE1 (es:List Entry):List Entry:=bif decide (1000≤(es.length:Int)) then cutAt es (leastS es) else es
def storeS (c:Cache) (e:CacheEvent):CacheAnswer × Cache :=
  bif decide (0<((missingS c e.Digests).length:Int)) then (⟨false,missingS c e.Digests,[]⟩,c) else
  bif c.Entries.any (fun x=>sEq x.Key e.Key) then (yesA,⟨c.Room,c.Lease,touchL e.At c.Lease true false e.Digests c.Blobs,c.Entries.set (placeOf (fun x:Entry=>x.Key) c.Entries e.Key) ⟨e.Key,e.Digests,e.At⟩⟩)
  else (yesA,⟨c.Room,c.Lease,touchL e.At c.Lease true false e.Digests c.Blobs,insAt (roomE1 c.Entries) (placeOf (fun x:Entry=>x.Key) (roomE1 c.Entries) e.Key) ⟨e.Key,e.Digests,e.At⟩⟩)
theorem store_prog {c:Cache} (ok:OkCache c) {e:CacheEvent} (hd:e.Digests.length≤200) (ht0:0≤e.At) (ht1:e.At≤1000000000):cache_store.f c e=some (storeS c e):=by
  have hel:=ok.el
  have hf:=ok.fit
  have hsm:=hf.small
  unfold cache_store.f storeS
  have e2:cache_missing.f (⟨c.Room,c.Lease,c.Blobs,c.Entries⟩:Cache) e.Digests=some (missingS c e.Digests):=missing_prog (c:=c) hf.small ok.bs (by omega)
  have e3:cache_touch_3.f (⟨c.Room,c.Lease,c.Blobs,c.Entries⟩:Cache) e.Digests e.At true false=_:=touch_prog (c:=c) hsm ok.bs ht0 ht1 ok.lease0 ok.lease1 (ds:=e.Digests) (by omega) true false
  rw [e2]
  simp only [Option.bind_some]
  cases hm:decide (0<((missingS c e.Digests).length:Int))
  · simp only [cond_false,e3,Option.bind_some,slices_Clone_string_id (show e.Digests.length*16≤140737490452480 by omega)]
    have hsm2:smallCache ⟨c.Room,c.Lease,touchL e.At c.Lease true false e.Digests c.Blobs,c.Entries⟩:=map_small (fun y=>by cases memB e.Digests y.Digest <;> rfl) hsm
    have e4:=entryAt_prog (c:=(⟨c.Room,c.Lease,touchL e.At c.Lease true false e.Digests c.Blobs,c.Entries⟩:Cache)) hsm2 ok.es e.Key
    rw [e4]
    simp only [Option.bind_some]
    generalize touchL e.At c.Lease true false e.Digests c.Blobs=bl at *
    cases ha:c.Entries.any (fun x=>sEq x.Key e.Key)
    · simp only [cond_false]
      cases hq:decide (1000≤(c.Entries.length:Int))
      · have hr:roomE1 c.Entries=c.Entries:=by unfold roomE1; rw [hq]; rfl
        have hp:=placeOf_le (key:=fun y:Entry=>y.Key) c.Entries e.Key
        simp only [cond_false,cache_store.j1,hr]
        unfold slices_Insert_Entry.f
        rw [decide_eq_true (by omega),decide_eq_true (by omega)]
        rw [guard?_true (by
          simp only [Bool.true_and,List.length_singleton,Bool.and_eq_true]
          exact ⟨by simp,room_of (by omega)⟩)]
        rfl
      · have hr:roomE1 c.Entries=cutAt c.Entries (leastS c.Entries):=by unfold roomE1; rw [hq]; rfl
        have hge:=of_decide_eq_true hq
        obtain ⟨q1,q2⟩:=least_loop (c:=(⟨c.Room,c.Lease,bl,c.Entries⟩:Cache)) (e:=e) (ds:=e.Digests) (j1:=cache_store.j1) hel c.Entries big 0 0 rfl (by omega) (by show 0<c.Entries.length; omega) (by unfold big; omega)
        simp only [cond_true]
        rw [show ((0:Nat):Int)=0 from rfl] at q2
        rw [q2]
        have hls:leastG c.Entries c.Entries 0 0=leastS c.Entries:=rfl
        simp only [hls] at q1 ⊢
        unfold cache_store.e2
        have hw:w64 (((leastS c.Entries:Nat):Int)+1)=((leastS c.Entries+1:Nat):Int):=by rw [w64_id (by omega) (by omega)]; omega
        simp only [hw]
        unfold slices_Delete_Entry.f
        rw [guard?_true (by
          simp only [Bool.and_eq_true,decide_eq_true_eq]
          exact ⟨by omega,by omega,by omega,room_of (by omega)⟩)]
        simp only [Option.bind_some,Int.toNat_natCast]
        have hcut:c.Entries.take (leastS c.Entries)++c.Entries.drop (leastS c.Entries+1)=roomE1 c.Entries:=hr.symm
        rw [hcut]
        have hsub:(roomE1 c.Entries).Sublist c.Entries:=by rw [hr]; exact cut_sub _ _
        have hlen:=hsub.length_le
        have hsm3:smallCache ⟨c.Room,c.Lease,bl,roomE1 c.Entries⟩:=⟨hsm2.1,Nat.le_trans hlen hsm.2.1,fun x hx=>hsm.2.2 x (hsub.subset hx)⟩
        have e5:=entryAt_prog (c:=(⟨c.Room,c.Lease,bl,roomE1 c.Entries⟩:Cache)) hsm3 (ok.es.sublist hsub) e.Key
        rw [e5]
        have hp:=placeOf_le (key:=fun y:Entry=>y.Key) (roomE1 c.Entries) e.Key
        simp only [Option.bind_some,cache_store.j1]
        unfold slices_Insert_Entry.f
        rw [decide_eq_true (by omega),decide_eq_true (by omega)]
        rw [guard?_true (by
          simp only [Bool.true_and,List.length_singleton,Bool.and_eq_true]
          exact ⟨by simp,room_of (by omega)⟩)]
        rfl
    · obtain ⟨y,hy,hym,hye,hyg⟩:=placeOf_get (key:=fun y:Entry=>y.Key) ok.es ha
      simp only [cond_true,hy,Option.bind_some,Int.toNat_natCast,yesA]
  · rfl
end Go.Proofs.YtjdnnkdhajhdkaaGreatDoor

namespace Go.Proofs.YtjdnnkdhajhdkaaGreatDoor
open Go Go.Proofs.YtjdnnkdhajhdkaaGreatDoor.Kit
theorem put_gen {c:Cache} (ok:OkCache c) (e:CacheEvent) (hs0:0≤e.Size) (hs1:e.Size≤100000000) (ht0:0≤e.At) (ht1:e.At≤1000000000):cache_put_2.f c e=some (putS c e.Digest e.Size e.At) :=
  (show cache_put_2.f c e=cache_put_2.f c (⟨1,e.At,e.Digest,[],ByteArray.empty,e.Size⟩:CacheEvent) from rfl).trans (put_prog ok hs0 hs1 ht0 ht1)
def dropS (c:Cache) (e:CacheEvent):CacheAnswer × Int × Cache :=
  match getB c e.Digest with
  | none=>(noA,0,c)
  | some y=>bif heldB y e.At then (noA,0,c) else (⟨true,[],[e.Digest]⟩,0,⟨c.Room,c.Lease,c.Blobs.filter (fun b=>!memB [e.Digest] b.Digest),c.Entries⟩)
def doK (c:Cache) (e:CacheEvent):CacheAnswer × Int × Cache :=
  bif e.Kind == 1 then putS c e.Digest e.Size e.At else
  bif e.Kind == 2 then (⟨c.Blobs.any (fun x=>sEq x.Digest e.Digest),[],[]⟩,0,⟨c.Room,c.Lease,touchL e.At c.Lease true true [e.Digest] c.Blobs,c.Entries⟩) else
  bif e.Kind == 3 then (⟨((missingS c e.Digests).length:Int) == 0,missingS c e.Digests,[]⟩,0,⟨c.Room,c.Lease,touchL e.At c.Lease false true e.Digests c.Blobs,c.Entries⟩) else
  bif (e.Kind == 4||e.Kind == 5) then pinS c e else
  bif e.Kind == 6 then ((storeS c e).1,0,(storeS c e).2) else
  bif e.Kind == 7 then ((searchS c e).1,0,(searchS c e).2) else dropS c e
theorem missing_touch (c:Cache) (t l:Int) (a3 a4:Bool) (ds:List ByteArray) (es:List Entry) (r le:Int) (xs:List ByteArray):missingS ⟨r,le,touchL t l a3 a4 ds c.Blobs,es⟩ xs=missingS c xs:=by
  unfold missingS
  congr 1
  funext d
  show (!(touchL t l a3 a4 ds c.Blobs).any (fun x=>sEq x.Digest d))=!c.Blobs.any (fun x=>sEq x.Digest d)
  rw [touch_has]
theorem doK_prog {c:Cache} (ok:OkCache c) {e:CacheEvent} (hd:e.Digests.length≤200) (hs0:0≤e.Size) (hs1:e.Size≤100000000) (ht0:0≤e.At) (ht1:e.At≤1000000000) (hsd:smallStrs e.Digests) :
    cache_do.f c e=(eventS e).bind fun y=>bif y != 0 then some (noA,y,c) else bif decide (e.At<newestS c) then some (noA,11,c) else some (doK c e):=by
  have hf:=ok.fit
  have hsm:=hf.small
  have hbl:=ok.bl
  have hel:=ok.el
  unfold cache_do.f
  rw [event_prog hsd]
  congr 1
  funext y
  cases y != 0
  · have e2:cache_newest.f (⟨c.Room,c.Lease,c.Blobs,c.Entries⟩:Cache)=some (newestS c):=newest_prog (c:=c) (by omega) (by omega)
    have e3:cache_find.f (⟨c.Room,c.Lease,c.Blobs,c.Entries⟩:Cache) e.Digest=_:=find_prog (c:=c) hsm ok.bs e.Digest
    have e4:cache_put_2.f (⟨c.Room,c.Lease,c.Blobs,c.Entries⟩:Cache) e=_:=put_gen (c:=c) ok e hs0 hs1 ht0 ht1
    have e5:cache_touch_3.f (⟨c.Room,c.Lease,c.Blobs,c.Entries⟩:Cache) [e.Digest] e.At true true=_:=touch_prog (c:=c) hsm ok.bs ht0 ht1 ok.lease0 ok.lease1 (ds:=[e.Digest]) (by simp) true true
    have e6:cache_touch_3.f (⟨c.Room,c.Lease,c.Blobs,c.Entries⟩:Cache) e.Digests e.At false true=_:=touch_prog (c:=c) hsm ok.bs ht0 ht1 ok.lease0 ok.lease1 (ds:=e.Digests) (by omega) false true
    have hsm2:smallCache ⟨c.Room,c.Lease,touchL e.At c.Lease false true e.Digests c.Blobs,c.Entries⟩:=map_small (fun y=>by cases memB e.Digests y.Digest <;> rfl) hsm
    have hso2:(touchL e.At c.Lease false true e.Digests c.Blobs).Pairwise (fun a b=>sLt a.Digest b.Digest=true):=map_srt (fun y=>by cases memB e.Digests y.Digest <;> rfl) ok.bs
    have e7:=missing_prog (c:=(⟨c.Room,c.Lease,touchL e.At c.Lease false true e.Digests c.Blobs,c.Entries⟩:Cache)) hsm2 hso2 (l:=e.Digests) (by omega)
    rw [missing_touch] at e7
    have e8:cache_pin.f (⟨c.Room,c.Lease,c.Blobs,c.Entries⟩:Cache) e=_:=pin_prog (c:=c) ok e
    have e9:cache_store.f (⟨c.Room,c.Lease,c.Blobs,c.Entries⟩:Cache) e=_:=store_prog (c:=c) ok hd ht0 ht1
    have e10:cache_search.f (⟨c.Room,c.Lease,c.Blobs,c.Entries⟩:Cache) e=_:=search_prog (c:=c) ok ht0 ht1
    have e11:cache_drop_3.f (⟨c.Room,c.Lease,c.Blobs,c.Entries⟩:Cache) [e.Digest]=_:=drop_prog (c:=c) (l:=[e.Digest]) (by simp) (by omega)
    simp only [cond_false,e2,Option.bind_some]
    cases decide (e.At<newestS c)
    · simp only [cond_false,e3,Option.bind_some,e4,e5,e6,e7]
      unfold doK
      cases e.Kind == 1
      · cases e.Kind == 2
        · cases e.Kind == 3
          · have hj:∀ b:Bool,cache_do.j1 c e (((placeOf (fun x:Blob=>x.Digest) c.Blobs e.Digest:Nat):Int),c.Blobs.any (fun x=>sEq x.Digest e.Digest)) b=some (bif b then pinS c e else bif e.Kind == 6 then ((storeS c e).1,0,(storeS c e).2) else bif e.Kind == 7 then ((searchS c e).1,0,(searchS c e).2) else dropS c e):=by
              intro b
              unfold cache_do.j1
              simp only [e8,e9,e10,e11,Option.bind_some,held_prog]
              cases b
              · cases e.Kind == 6
                · cases e.Kind == 7
                  · simp only [cond_false]
                    unfold dropS
                    rcases getB_cases ok.bs e.Digest with ⟨h1,h2⟩ | ⟨y,h1,h2,h3,h4,h5,h6⟩
                    · rw [h1,h2]
                      rfl
                    · rw [h1,h2]
                      simp only [h3,Option.bind_some,Bool.not_true,cond_false]
                      cases heldB y e.At <;> rfl
                  · rfl
                · rfl
              · rfl
            simp only [cond_false,hj]
            cases e.Kind == 4 <;> cases e.Kind == 5 <;> rfl
          · rfl
        · rfl
      · rfl
    · rfl
  · rfl
end Go.Proofs.YtjdnnkdhajhdkaaGreatDoor

namespace Go.Proofs.YtjdnnkdhajhdkaaGreatDoor
open Go Go.Proofs.YtjdnnkdhajhdkaaGreatDoor.Kit
structure Keeps (c c':Cache) (gone:List ByteArray) (t:Int):Prop where
  size:∀ x∈c.Blobs,∀ y∈c'.Blobs,y.Digest=x.Digest→y.Size=x.Size
  found:∀ x∈c.Blobs,hasK (fun x:Blob=>x.Digest) c'.Blobs x.Digest=!memB gone x.Digest
  held:∀ x∈c.Blobs,heldB x t=true→memB gone x.Digest=false
  len:c.Blobs.length≤c'.Blobs.length+gone.length
end Go.Proofs.YtjdnnkdhajhdkaaGreatDoor

namespace Go.Proofs.YtjdnnkdhajhdkaaGreatDoor
open Go Go.Proofs.YtjdnnkdhajhdkaaGreatDoor.Kit
theorem eventS_zero {e:CacheEvent} (h:eventS e=some 0):e.Digests.length≤200∧(0≤e.Size∧e.Size≤100000000)∧(0≤e.At∧e.At≤1000000000)∧okRefs e.Digests∧badS e=false∧inR 1 8 e.Kind=true:=by
  unfold eventS at h
  cases h1:inR 1 8 e.Kind
  · rw [h1] at h; simp at h
  · cases h2:strayS e
    · cases h3:badS e
      · rw [h1,h2,h3] at h
        simp only [Bool.not_true,cond_false] at h
        cases hg:digestsS e.Digests 200 with
        | none=>rw [hg] at h; cases h
        | some g =>
          rw [hg] at h
          simp only [Option.bind_some] at h
          cases hz:g != 0
          · have:g=0:=by simpa using hz
            subst this
            rw [hz] at h
            simp only [cond_false] at h
            unfold digestsS at hg
            cases hl:decide ((200:Int)<(e.Digests.length:Int))
            · rw [hl] at hg
              have:=of_decide_eq_false hl
              cases h4:inR 0 100000000 e.Size
              · rw [h4] at h; simp at h
              · cases h5:inR 0 1000000000 e.At
                · rw [h4,h5] at h; simp at h
                · simp [inR] at h4 h5
                  exact ⟨by omega,h4,h5,refsS_ok hg,rfl,rfl⟩
            · rw [hl] at hg
              simp at hg
          · rw [hz] at h
            simp only [cond_true] at h
            injection h with h
            subst h
            simp at hz
      · rw [h1,h2,h3] at h; simp at h
    · rw [h1,h2] at h; simp at h
def doS (c:Cache) (e:CacheEvent):Option (Cache × CacheAnswer × Int) :=
  (cacheS c).bind fun f=>bif f != 0 then some ((⟨0,0,[],[]⟩:Cache),noA,f) else (eventS e).bind fun y=>bif y != 0 then some ((⟨0,0,[],[]⟩:Cache),noA,y) else
  bif decide (e.At<newestS c) then some ((⟨0,0,[],[]⟩:Cache),noA,11) else bif (doK c e).2.1 != 0 then some ((⟨0,0,[],[]⟩:Cache),noA,(doK c e).2.1) else some ((doK c e).2.2,(doK c e).1,0)
theorem do_prog {c:Cache} (ok:OkCache c) {e:CacheEvent} (hsd:smallStrs e.Digests) :
    cache_do.f c e=(eventS e).bind fun y=>bif y != 0 then some (noA,y,c) else bif decide (e.At<newestS c) then some (noA,11,c) else some (doK c e):=by
  obtain ⟨y,hy⟩:=eventS_some e
  by_cases h:y=0
  · subst h
    obtain ⟨h1,h2,h3,_⟩:=eventS_zero hy
    exact doK_prog ok h1 h2.1 h2.2 h3.1 h3.2 hsd
  · have hn:(y != 0)=true:=by simpa using h
    unfold cache_do.f
    rw [event_prog hsd,hy]
    simp only [Option.bind_some,hn,cond_true]
    rfl
theorem doS_prog {c:Cache} (hf:Fit c) {e:CacheEvent} (hsd:smallStrs e.Digests):cache_Do.f c e=doS c e:=by
  unfold cache_Do.f doS
  rw [check_prog hf.small]
  obtain ⟨f,e1⟩:=cacheS_some c
  rw [e1]
  simp only [Option.bind_some]
  cases h0:f != 0
  · have:f=0:=by simpa using h0
    subst this
    have ok:=cacheS_ok e1
    simp only [cond_false,own_id hf.fb hf.fe hf.fr,Option.bind_some]
    have e2:cache_do.f (⟨c.Room,c.Lease,c.Blobs,c.Entries⟩:Cache) e=_:=do_prog (c:=c) ok hsd
    rw [e2]
    obtain ⟨y,hy⟩:=eventS_some e
    rw [hy]
    simp only [Option.bind_some]
    cases h1:y != 0
    · simp only [cond_false]
      cases h2:decide (e.At<newestS c)
      · simp only [cond_false,Option.bind_some]
        cases h3:(doK c e).2.1 != 0 <;> rfl
      · rfl
    · simp only [cond_true,Option.bind_some,h1]
      rfl
  · rfl
theorem doS_cases (c:Cache) (e:CacheEvent):(∃ f,f≠0∧doS c e=some ((⟨0,0,[],[]⟩:Cache),noA,f))∨(OkCache c∧eventS e=some 0∧newestS c≤e.At∧(doK c e).2.1=0∧doS c e=some ((doK c e).2.2,(doK c e).1,0)):=by
  unfold doS
  obtain ⟨f,e1⟩:=cacheS_some c
  obtain ⟨y,hy⟩:=eventS_some e
  rw [e1,hy]
  simp only [Option.bind_some]
  cases h0:f != 0
  · have:f=0:=by simpa using h0
    subst this
    cases h1:y != 0
    · have:y=0:=by simpa using h1
      subst this
      cases h2:decide (e.At<newestS c)
      · cases h3:(doK c e).2.1 != 0
        · exact .inr ⟨cacheS_ok e1,rfl,by have:=of_decide_eq_false h2; omega,by simpa using h3,rfl⟩
        · exact .inl ⟨_,by simpa using h3,rfl⟩
      · exact .inl ⟨11,by decide,rfl⟩
    · exact .inl ⟨y,by simpa using h1,rfl⟩
  · exact .inl ⟨f,by simpa using h0,rfl⟩
theorem gone_len (c:Cache) (most t:Int):(goneD c most t).length≤c.Blobs.length:=by
  obtain ⟨r,hr2⟩:=goN_prefix (leavingS c t) (sumI c.Blobs - most)
  have h4:(goneL c most t).length+r.length=(leavingS c t).length:=by rw [hr2,List.length_append]; rfl
  have:=leaving_len c t
  unfold goneD
  rw [List.length_map]
  omega
theorem put_small (c:Cache) (dig:ByteArray) (size t:Int):(putS c dig size t).2.2.Blobs.length≤c.Blobs.length+1∧(putS c dig size t).1.Gone.length≤c.Blobs.length:=by
  have hcl:(clearS c (c.Room - size) t).1.length≤c.Blobs.length∧(clearS c (c.Room - size) t).2.2.Blobs.length≤c.Blobs.length:=by
    refine ⟨?_,(clear_more c _ t).2.2.2.1⟩
    unfold clearS
    cases decide (sumI (leavingS c t)<sumI c.Blobs - (c.Room - size))
    · exact gone_len c _ t
    · exact Nat.zero_le _
  unfold putS
  cases c.Blobs.any (fun x=>sEq x.Digest dig)
  · cases (clearS c (c.Room - size) t).2.1
    · exact ⟨by simp only [Bool.not_false,cond_true,cond_false]; omega,Nat.zero_le _⟩
    · cases decide (3000≤((clearS c (c.Room - size) t).2.2.Blobs.length:Int))
      · exact ⟨by simp only [Bool.not_true,cond_false,ins_len]; omega,hcl.1⟩
      · exact ⟨by simp only [Bool.not_true,cond_true,cond_false]; omega,Nat.zero_le _⟩
  · simp only [cond_true]
    cases c.Blobs[placeOf (fun x:Blob=>x.Digest) c.Blobs dig]? with
    | none=>exact ⟨by simp,Nat.zero_le _⟩
    | some x =>
      simp only
      cases x.Size != size
      · exact ⟨by simp [touchL],Nat.zero_le _⟩
      · exact ⟨by simp,Nat.zero_le _⟩
theorem doK_small {c:Cache} (ok:OkCache c) (e:CacheEvent):(doK c e).2.2.Blobs.length≤4611686018427387904∧(doK c e).1.Gone.length≤4611686018427387904:=by
  have hbl:=ok.bl
  have hp:=put_small c e.Digest e.Size e.At
  have same:c.Blobs.length≤4611686018427387904∧([]:List ByteArray).length≤4611686018427387904:=⟨by omega,Nat.zero_le _⟩
  have tm:∀ (t l:Int) (a3 a4:Bool) (ds:List ByteArray),(touchL t l a3 a4 ds c.Blobs).length≤4611686018427387904∧([]:List ByteArray).length≤4611686018427387904:=fun _ _ _ _ _=>⟨by simp only [touchL,List.length_map]; omega,Nat.zero_le _⟩
  have pm:∀ (d:ByteArray) (k:Int),(pinL d k c.Blobs).length≤4611686018427387904∧([]:List ByteArray).length≤4611686018427387904:=fun _ _=>⟨by simp only [pinL,List.length_map]; omega,Nat.zero_le _⟩
  unfold doK
  cases k1:e.Kind == 1
  · cases k2:e.Kind == 2
    · cases k3:e.Kind == 3
      · cases k4:(e.Kind == 4||e.Kind == 5)
        · cases k6:e.Kind == 6
          · cases k7:e.Kind == 7
            · simp only [cond_false]
              unfold dropS
              cases getB c e.Digest with
              | none=>exact same
              | some y =>
                simp only
                cases heldB y e.At
                · exact ⟨Nat.le_trans (List.length_filter_le _ _) (by omega),by simp⟩
                · exact same
            · simp only [cond_false,cond_true]
              unfold searchS
              cases getE c e.Key with
              | none=>exact same
              | some x =>
                simp only
                cases decide (0<((missingS c x.Refs).length:Int))
                · exact tm _ _ _ _ _
                · exact same
          · simp only [cond_false,cond_true]
            unfold storeS
            cases decide (0<((missingS c e.Digests).length:Int))
            · cases c.Entries.any (fun x=>sEq x.Key e.Key)
              · exact tm _ _ _ _ _
              · exact tm _ _ _ _ _
            · exact same
        · simp only [cond_false,cond_true]
          unfold pinS
          cases getB c e.Digest with
          | none=>exact same
          | some y =>
            simp only
            cases e.Kind == 5
            · cases decide (3000≤y.Pins)
              · exact pm _ _
              · exact same
            · cases y.Pins == 0
              · exact pm _ _
              · exact same
      · exact tm _ _ _ _ _
    · exact tm _ _ _ _ _
  · simp only [cond_true]
    exact ⟨by omega,by omega⟩
end Go.Proofs.YtjdnnkdhajhdkaaGreatDoor
