/- Caches: what an event does, the program's side: touched blobs, the newest moment, putting. -/
import Derived.Test.YtjdnnkdhajhdkaaGreatDoorPMgd
set_option linter.unusedVariables false
set_option linter.unusedSimpArgs false
namespace Go.Proofs.YtjdnnkdhajhdkaaGreatDoor
open Go Go.Proofs.YtjdnnkdhajhdkaaGreatDoor.Kit
def touchB (t lease:Int) (a3 a4:Bool) (y:Blob):Blob:=⟨y.Digest,y.Size,bif a3 then t else y.Used,bif a4 then max2 y.Until (t+lease) else y.Until,y.Pins⟩
def touchL (t lease:Int) (a3 a4:Bool) (ds:List ByteArray) (bl:List Blob):List Blob:=bl.map (fun y=>bif memB ds y.Digest then touchB t lease a3 a4 y else y)
theorem set_map {α:Type} {key:α→ByteArray} {l:List α} {p:Nat} {y:α} {f:α→α} (hs:l.Pairwise (fun a b=>sLt (key a) (key b)=true)) (hp:l[p]? = some y) :
    l.set p (f y)=l.map (fun x=>bif sEq (key x) (key y) then f x else x):=by
  have hl:p<l.length:=by
    rcases Nat.lt_or_ge p l.length with h | h
    · exact h
    · rw [List.getElem?_eq_none h] at hp; cases hp
  have hy:l[p]=y:=by
    rw [List.getElem?_eq_getElem hl] at hp
    injection hp
  apply List.ext_getElem?
  intro n
  rw [List.getElem?_set,List.getElem?_map]
  by_cases h:p=n
  · subst h
    rw [if_pos rfl,if_pos hl,hp]
    simp only [Option.map_some,sEq_self,cond_true]
  · rw [if_neg h]
    rcases Nat.lt_or_ge n l.length with hn | hn
    · rw [List.getElem?_eq_getElem hn]
      have hne:sEq (key l[n]) (key y)=false:=by
        have hpw:=List.pairwise_iff_getElem.1 hs
        rcases Nat.lt_or_ge n p with g | g
        · have:=hpw n p hn hl g
          rw [hy] at this
          exact sLt_ne this
        · have:=hpw p n hl hn (by omega)
          rw [hy] at this
          cases hc:sEq (key l[n]) (key y)
          · rfl
          · rw [sEq_iff.1 hc,sLt_irrefl] at this
            cases this
      simp only [Option.map_some,hne,cond_false]
    · rw [List.getElem?_eq_none hn]
      rfl
theorem touchB_two (t lease:Int) (a3 a4:Bool) (y:Blob):touchB t lease a3 a4 (touchB t lease a3 a4 y)=touchB t lease a3 a4 y:=by
  unfold touchB
  cases a3 <;> cases a4 <;> simp only [cond_true,cond_false]
  all_goals
    congr 1
    unfold max2
    by_cases h:t+lease > y.Until
    · rw [if_pos h,if_neg (by omega)]
    · rw [if_neg h,if_neg h]
theorem touch_cons (t lease:Int) (a3 a4:Bool) (d:ByteArray) (l:List ByteArray) (bl:List Blob) :
    touchL t lease a3 a4 l (bl.map (fun x=>bif sEq x.Digest d then touchB t lease a3 a4 x else x))=touchL t lease a3 a4 (d::l) bl:=by
  unfold touchL
  rw [List.map_map]
  apply List.map_congr_left
  intro y _
  simp only [Function.comp]
  have e:memB (d::l) y.Digest=(sEq y.Digest d||memB l y.Digest):=by
    unfold memB
    rw [List.any_cons]
    congr 1
    by_cases hx:d=y.Digest
    · rw [← hx,sEq_self]; simp
    · rw [decide_eq_false hx]
      cases he:sEq y.Digest d
      · rfl
      · exact absurd (sEq_iff.1 he).symm hx
  rw [e]
  cases h:sEq y.Digest d
  · simp only [cond_false,Bool.false_or]
  · simp only [cond_true,Bool.true_or]
    rw [touchB_two]
    cases memB l (touchB t lease a3 a4 y).Digest <;> rfl
theorem map_srt {f:Blob→Blob} (hf:∀ x,(f x).Digest=x.Digest) {l:List Blob} (hs:l.Pairwise (fun a b=>sLt a.Digest b.Digest=true)):(l.map f).Pairwise (fun a b=>sLt a.Digest b.Digest=true):=by
  rw [List.pairwise_map]
  exact hs.imp (fun h=>by rw [hf,hf]; exact h)
theorem map_small {c:Cache} {f:Blob→Blob} (hf:∀ x,(f x).Digest=x.Digest) {bl:List Blob} (h:smallCache ⟨c.Room,c.Lease,bl,c.Entries⟩):smallCache ⟨c.Room,c.Lease,bl.map f,c.Entries⟩:=by
  refine ⟨⟨by have:=h.1.1; simpa using this,fun x hx=>?_⟩,h.2⟩
  obtain ⟨y,hy,rfl⟩:=List.mem_map.1 hx
  rw [hf]
  exact h.1.2 y hy
theorem touch_dig (t lease:Int) (a3 a4:Bool) (d:ByteArray) (x:Blob):(bif sEq x.Digest d then touchB t lease a3 a4 x else x).Digest=x.Digest:=by
  cases sEq x.Digest d <;> rfl
theorem touch_prog {c:Cache} (hs:smallCache c) (hp:c.Blobs.Pairwise (fun a b=>sLt a.Digest b.Digest=true)) {t:Int} (ht0:0≤t) (ht1:t≤1000000000) (hl0:0≤c.Lease) (hl1:c.Lease≤1000000)
    {ds:List ByteArray} (hd:ds.length≤4611686018427387904) (a3 a4:Bool):cache_touch_3.f c ds t a3 a4=some ⟨c.Room,c.Lease,touchL t c.Lease a3 a4 ds c.Blobs,c.Entries⟩:=by
  have main:∀ (l:List ByteArray) (k v:Nat) (bl:List Blob),ds.drop v=l→v≤ds.length→smallCache ⟨c.Room,c.Lease,bl,c.Entries⟩→bl.Pairwise (fun a b=>sLt a.Digest b.Digest=true)→l.length<k →
      cache_touch_3.l1 k c ds t a3 a4 bl (v:Int)=some ⟨c.Room,c.Lease,touchL t c.Lease a3 a4 l bl,c.Entries⟩:=by
    intro l
    induction l with
    | nil =>
      intro k v bl h1 h2 h3 h4 h5
      obtain ⟨k,rfl⟩:∃ m,k=m+1:=⟨k - 1,by omega⟩
      have hv:ds.length≤v:=List.drop_eq_nil_iff.1 h1
      rw [cache_touch_3.l1,decide_eq_false (by omega),cond_false]
      simp [touchL,memB]
    | cons x l ih =>
      intro k v bl h1 h2 h3 h4 h5
      simp only [List.length_cons] at h5
      obtain ⟨k,rfl⟩:∃ m,k=m+1:=⟨k - 1,by omega⟩
      have hv:v<ds.length:=by
        rcases Nat.lt_or_ge v ds.length with h | h
        · exact h
        · rw [List.drop_eq_nil_of_le h] at h1; cases h1
      rw [List.drop_eq_getElem_cons hv] at h1
      injection h1 with g1 g2
      have hw:w64 ((v:Int)+1)=((v+1:Nat):Int):=by rw [w64_id (by omega) (by omega)]; omega
      have hq:w64 (t+c.Lease)=t+c.Lease:=w64_id (by omega) (by omega)
      rw [cache_touch_3.l1,decide_eq_true (by omega),at_nat hv,g1]
      simp only [cond_true,Option.bind_some]
      rw [find_prog h3 h4]
      simp only [Option.bind_some,cache_touch_3.j2,cache_touch_3.j3,hw,hq]
      rw [← touch_cons,← ih k (v+1) _ g2 (by omega) (map_small (fun y=>touch_dig t c.Lease a3 a4 x y) h3) (map_srt (fun y=>touch_dig t c.Lease a3 a4 x y) h4) (by omega)]
      cases ha:bl.any (fun y=>sEq y.Digest x)
      · have e:bl.map (fun y=>bif sEq y.Digest x then touchB t c.Lease a3 a4 y else y)=bl:=by
          have:∀ y∈bl,(fun y:Blob=>bif sEq y.Digest x then touchB t c.Lease a3 a4 y else y) y=id y:=fun y hy=>by
            have:sEq y.Digest x=false:=by
              cases hc:sEq y.Digest x
              · rfl
              · rw [List.any_eq_true.2 ⟨y,hy,hc⟩] at ha; cases ha
            simp only [this,cond_false,id]
          rw [List.map_congr_left this,List.map_id]
        rw [e]
        rfl
      · obtain ⟨y,hy,hym,hye,hyg⟩:=placeOf_get (key:=fun y:Blob=>y.Digest) h4 ha
        have hyx:y.Digest=x:=sEq_iff.1 hye
        have hlt:placeOf (fun y:Blob=>y.Digest) bl x<bl.length:=by
          rcases Nat.lt_or_ge (placeOf (fun y:Blob=>y.Digest) bl x) bl.length with h | h
          · exact h
          · rw [List.getElem?_eq_none h] at hyg; cases hyg
        have hset:∀ z:Blob,at? (bl.set (placeOf (fun y:Blob=>y.Digest) bl x) z) ((placeOf (fun y:Blob=>y.Digest) bl x:Nat):Int)=some z:=fun z=>by
          rw [at_nat (by rw [List.length_set]; exact hlt)]
          simp
        have e:=set_map (key:=fun y:Blob=>y.Digest) (f:=touchB t c.Lease a3 a4) h4 hyg
        simp only [hyx] at e
        rw [← e]
        cases a3 <;> cases a4 <;> simp only [cond_true,cond_false,Option.bind_some,hy,hset,Int.toNat_natCast,List.set_set,touchB]
        rw [show (⟨y.Digest,y.Size,y.Used,y.Until,y.Pins⟩:Blob)=y from rfl]
        congr 1
        symm
        apply List.ext_getElem?
        intro n
        rw [List.getElem?_set]
        by_cases hn:placeOf (fun y:Blob=>y.Digest) bl x=n
        · subst hn
          simp [hlt]
          rw [List.getElem?_eq_getElem hlt] at hyg
          injection hyg with hyg
          exact hyg.symm
        · simp [hn]
  exact main ds big 0 c.Blobs rfl (by omega) hs hp (by unfold big; omega)
def newestS (c:Cache):Int:=c.Entries.foldl (fun n x=>max2 n x.Used) (c.Blobs.foldl (fun n x=>max2 n x.Used) 0)
theorem newest_prog {c:Cache} (hb:c.Blobs.length≤4611686018427387904) (he:c.Entries.length≤4611686018427387904):cache_newest.f c=some (newestS c):=by
  unfold cache_newest.f
  rw [rangeS_all (xs:=c.Blobs) (S:=Int) (L:=fun k s v=>cache_newest.l4 cache_newest.e1 k c s v) (body:=fun _ x s f=>f ((fun n (x:Blob)=>max2 n x.Used) s x)) (e:=fun s=>cache_newest.e1 c s) hb (fun k s v=>rfl) 0]
  rw [foldLoop (g:=fun n (x:Blob)=>max2 n x.Used)]
  unfold cache_newest.e1
  rw [rangeS_all (xs:=c.Entries) (S:=Int) (L:=fun k s v=>cache_newest.l3 cache_newest.e2 k c s v) (body:=fun _ x s f=>f ((fun n (x:Entry)=>max2 n x.Used) s x)) (e:=fun s=>cache_newest.e2 s) he (fun k s v=>rfl)]
  rw [foldLoop (g:=fun n (x:Entry)=>max2 n x.Used)]
  rfl
def noA:CacheAnswer:=⟨false,[],[]⟩
def putS (c:Cache) (dig:ByteArray) (size t:Int):CacheAnswer × Int × Cache :=
  bif c.Blobs.any (fun x=>sEq x.Digest dig) then
    (match c.Blobs[placeOf (fun x:Blob=>x.Digest) c.Blobs dig]? with
    | some x=>bif x.Size != size then (noA,12,c) else (⟨true,[],[]⟩,0,⟨c.Room,c.Lease,touchL t c.Lease true true [dig] c.Blobs,c.Entries⟩)
    | none=>(noA,12,c))
  else bif !(clearS c (c.Room - size) t).2.1 then (noA,0,(clearS c (c.Room - size) t).2.2) else
  bif decide (3000≤((clearS c (c.Room - size) t).2.2.Blobs.length:Int)) then (noA,16,(clearS c (c.Room - size) t).2.2) else
  (⟨true,[],(clearS c (c.Room - size) t).1⟩,0,⟨c.Room,c.Lease,insAt (clearS c (c.Room - size) t).2.2.Blobs (placeOf (fun x:Blob=>x.Digest) (clearS c (c.Room - size) t).2.2.Blobs dig) ⟨dig,size,t,t+c.Lease,0⟩,c.Entries⟩)
theorem clear_more (c:Cache) (most t:Int):(clearS c most t).2.2.Room=c.Room∧(clearS c most t).2.2.Lease=c.Lease∧(clearS c most t).2.2.Entries=c.Entries∧(clearS c most t).2.2.Blobs.length≤c.Blobs.length∧(∀ x∈(clearS c most t).2.2.Blobs,x∈c.Blobs)∧(c.Blobs.Pairwise (fun a b=>sLt a.Digest b.Digest=true)→(clearS c most t).2.2.Blobs.Pairwise (fun a b=>sLt a.Digest b.Digest=true)):=by
  unfold clearS
  cases decide (sumI (leavingS c t)<sumI c.Blobs - most)
  · exact ⟨rfl,rfl,rfl,List.length_filter_le _ _,fun x hx=>(List.mem_filter.1 hx).1,fun h=>h.filter _⟩
  · exact ⟨rfl,rfl,rfl,Nat.le_refl _,fun x hx=>hx,fun h=>h⟩
theorem put_prog {c:Cache} (ok:OkCache c) {dig:ByteArray} {size t:Int} (hs0:0≤size) (hs1:size≤100000000) (ht0:0≤t) (ht1:t≤1000000000):cache_put_2.f c (⟨1,t,dig,[],ByteArray.empty,size⟩:CacheEvent)=some (putS c dig size t):=by
  have hr0:=ok.room0
  have hr1:=ok.room1
  have hl0:=ok.lease0
  have hl1:=ok.lease1
  have hsm:=ok.fit.small
  unfold cache_put_2.f putS
  have e1:cache_find.f (⟨c.Room,c.Lease,c.Blobs,c.Entries⟩:Cache) dig=_:=find_prog (c:=c) hsm ok.bs dig
  simp only [e1,Option.bind_some]
  cases ha:c.Blobs.any (fun x=>sEq x.Digest dig)
  · simp only [cond_false]
    have e2:cache_clear_2.f (⟨c.Room,c.Lease,c.Blobs,c.Entries⟩:Cache) (c.Room - size) t=some (clearS c (c.Room - size) t):=clear_prog (c:=c) ok.bl ok.sz (by omega) (by omega)
    rw [w64_id (by omega) (by omega),e2]
    simp only [Option.bind_some]
    obtain ⟨m1,m2,m3,m4,m5,m6⟩:=clear_more c (c.Room - size) t
    have hbl:=ok.bl
    have hsm2:smallCache (⟨(clearS c (c.Room - size) t).2.2.Room,(clearS c (c.Room - size) t).2.2.Lease,(clearS c (c.Room - size) t).2.2.Blobs,(clearS c (c.Room - size) t).2.2.Entries⟩:Cache):=by
      refine ⟨⟨Nat.le_trans m4 hsm.1.1,fun x hx=>hsm.1.2 x (m5 x hx)⟩,?_⟩
      show (clearS c (c.Room - size) t).2.2.Entries.length≤_∧∀ x∈(clearS c (c.Room - size) t).2.2.Entries,_
      rw [m3]
      exact hsm.2
    have e3:=find_prog hsm2 (m6 ok.bs) dig
    cases hc:(clearS c (c.Room - size) t).2.1
    · rfl
    · simp only [Bool.not_true,cond_false]
      cases hq:decide (3000≤((clearS c (c.Room - size) t).2.2.Blobs.length:Int))
      · simp only [cond_false,e3,Option.bind_some]
        have hp:=placeOf_le (key:=fun y:Blob=>y.Digest) (clearS c (c.Room - size) t).2.2.Blobs dig
        unfold slices_Insert_Blob.f
        rw [decide_eq_true (by omega),decide_eq_true (by omega)]
        rw [guard?_true (by
          simp only [Bool.true_and,List.length_singleton,Bool.and_eq_true]
          exact ⟨by simp,room_of (by omega)⟩)]
        simp only [Option.bind_some,m1,m2,m3,Int.toNat_natCast,insAt]
        rw [w64_id (by omega) (by omega)]
      · rfl
  · obtain ⟨y,hy,hym,hye,hyg⟩:=placeOf_get (key:=fun y:Blob=>y.Digest) ok.bs ha
    simp only [cond_true,hy,hyg,Option.bind_some]
    cases hz:y.Size != size
    · simp only [cond_false]
      have e4:cache_touch_3.f (⟨c.Room,c.Lease,c.Blobs,c.Entries⟩:Cache) [dig] t true true=_:=touch_prog (c:=c) hsm ok.bs ht0 ht1 hl0 hl1 (by simp) true true
      rw [e4]
      rfl
    · rfl
end Go.Proofs.YtjdnnkdhajhdkaaGreatDoor
