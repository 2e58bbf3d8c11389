/- Caches: what an event leaves is a right cache, and its newest moment is the event's at most. -/
import Derived.Test.YtjdnnkdhajhdkaaGreatDoorPDoS
set_option linter.unusedVariables false
set_option linter.unusedSimpArgs false
namespace Go.Proofs.YtjdnnkdhajhdkaaGreatDoor
open Go Go.Proofs.YtjdnnkdhajhdkaaGreatDoor.Kit
theorem ok_with {c:Cache} {bl:List Blob} {es:List Entry} (h:OkCache ⟨c.Room,c.Lease,bl,c.Entries⟩) (h1:es.length≤1000) (h2:∀ x∈es,okEntry x) (h3:es.Pairwise (fun a b=>sLt a.Key b.Key=true)):OkCache ⟨c.Room,c.Lease,bl,es⟩ :=
  ⟨h.room0,h.room1,h.lease0,h.lease1,h.bl,h.be,h.bs,h.sum,h1,h2,h3⟩
theorem touch_newest' {c:Cache} {t:Int} (h:newestS c≤t) (a3 a4:Bool) (ds:List ByteArray) {es:List Entry} (hes:∀ x∈es,x.Used≤t):newestS ⟨c.Room,c.Lease,touchL t c.Lease a3 a4 ds c.Blobs,es⟩≤t:=by
  obtain ⟨⟨h0,h1⟩,h2⟩:=newest_le.1 h
  refine newest_le.2 ⟨⟨h0,fun x hx=>?_⟩,hes⟩
  obtain ⟨y,hy,rfl⟩:=List.mem_map.1 hx
  have:=h1 y hy
  cases memB ds y.Digest
  · exact this
  · cases a3
    · exact this
    · exact Int.le_refl t
theorem pin_size (d:ByteArray) (k:Int):∀ (l:List Blob) (s:Int),sumW s (pinL d k l)=sumW s l
  | [],s=>rfl
  | x::l,s=>by
    have e:(bif sEq x.Digest d then pinB k x else x).Size=x.Size:=by cases sEq x.Digest d <;> rfl
    show sumW (w64 (s+(bif sEq x.Digest d then pinB k x else x).Size)) (pinL d k l)=sumW (w64 (s+x.Size)) l
    rw [e]
    exact pin_size d k l _
theorem ok_pin {c:Cache} (ok:OkCache c) {d:ByteArray} {k:Int} (hk:∀ y∈c.Blobs,y.Digest=d→0≤y.Pins+k∧y.Pins+k≤3000):OkCache ⟨c.Room,c.Lease,pinL d k c.Blobs,c.Entries⟩:=by
  refine ⟨ok.room0,ok.room1,ok.lease0,ok.lease1,by simp only [pinL,List.length_map]; exact ok.bl,fun x hx=>?_,?_,?_,ok.el,ok.ee,ok.es⟩
  · obtain ⟨y,hy,rfl⟩:=List.mem_map.1 hx
    obtain ⟨b1,b2,b3,b4,b5,b6,b7,b8,b9⟩:=ok.be y hy
    cases hd:sEq y.Digest d
    · exact ⟨b1,b2,b3,b4,b5,b6,b7,b8,b9⟩
    · obtain ⟨k1,k2⟩:=hk y hy (sEq_iff.1 hd)
      exact ⟨b1,b2,b3,b4,b5,b6,b7,k1,k2⟩
  · exact map_srt (fun y=>by cases sEq y.Digest d <;> rfl) ok.bs
  · simp only
    rw [pin_size]
    exact ok.sum
theorem pin_newest {c:Cache} {t:Int} (h:newestS c≤t) (d:ByteArray) (k:Int):newestS ⟨c.Room,c.Lease,pinL d k c.Blobs,c.Entries⟩≤t:=by
  obtain ⟨⟨h0,h1⟩,h2⟩:=newest_le.1 h
  refine newest_le.2 ⟨⟨h0,fun x hx=>?_⟩,h2⟩
  obtain ⟨y,hy,rfl⟩:=List.mem_map.1 hx
  have:=h1 y hy
  cases sEq y.Digest d <;> exact this
theorem room_len {c:Cache} (ok:OkCache c):(roomE1 c.Entries).length≤999∧(roomE1 c.Entries).Sublist c.Entries:=by
  have hel:=ok.el
  unfold roomE1
  cases hq:decide (1000≤(c.Entries.length:Int))
  · have:=of_decide_eq_false hq
    exact ⟨by simp only [cond_false]; omega,List.Sublist.refl _⟩
  · have hge:=of_decide_eq_true hq
    obtain ⟨q1,_⟩:=least_loop (c:=c) (e:=⟨0,0,ByteArray.empty,[],ByteArray.empty,0⟩) (ds:=[]) (j1:=cache_store.j1) hel c.Entries big 0 0 rfl (by omega) (by omega) (by unfold big; omega)
    refine ⟨?_,cut_sub _ _⟩
    simp only [cond_true,cutAt,List.length_append,List.length_take,List.length_drop]
    have:leastS c.Entries<c.Entries.length:=q1
    omega
theorem doK_ok {c:Cache} (ok:OkCache c) {e:CacheEvent} (hev:eventS e=some 0) (hn:newestS c≤e.At) (h0:(doK c e).2.1=0):OkCache (doK c e).2.2∧newestS (doK c e).2.2≤e.At:=by
  obtain ⟨hdl,⟨hs0,hs1⟩,⟨ht0,ht1⟩,hrefs,hbad,_⟩:=eventS_zero hev
  obtain ⟨⟨n0,n1⟩,n2⟩:=newest_le.1 hn
  have same:OkCache c∧newestS c≤e.At:=⟨ok,hn⟩
  unfold badS at hbad
  rw [Bool.or_eq_false_iff] at hbad
  obtain ⟨hb1,hb2⟩:=hbad
  unfold doK at h0 ⊢
  cases k1:e.Kind == 1
  · cases k2:e.Kind == 2
    · cases k3:e.Kind == 3
      · cases k4:(e.Kind == 4||e.Kind == 5)
        · cases k6:e.Kind == 6
          · cases k7:e.Kind == 7
            · simp only [cond_false]
              unfold dropS
              cases getB c e.Digest with
              | none=>exact same
              | some y =>
                simp only
                cases heldB y e.At
                · have hok:=ok_filter ok (fun b=>!memB [e.Digest] b.Digest) (fun _=>true)
                  rw [show c.Entries.filter (fun _=>true)=c.Entries by simp] at hok
                  exact ⟨hok,newest_le.2 ⟨⟨n0,fun x hx=>n1 x (List.mem_filter.1 hx).1⟩,n2⟩⟩
                · exact same
            · simp only [cond_false,cond_true]
              unfold searchS
              rcases getE_cases ok.es e.Key with ⟨g1,g2⟩ | ⟨x,g1,g2,g3,g4,g5,g6⟩
              · rw [g1]
                exact same
              · rw [g1]
                simp only
                cases decide (0<((missingS c x.Refs).length:Int))
                · simp only [cond_false]
                  obtain ⟨x1,x2,x3,x4,x5⟩:=ok.ee x g4
                  refine ⟨ok_with (ok_touch ok ht0 ht1 true true x.Refs) (by rw [List.length_set]; exact ok.el) (fun z hz=>?_) (set_srt (key:=fun y:Entry=>y.Key) ok.es g6 rfl),touch_newest' hn true true x.Refs (fun z hz=>?_)⟩
                  · rcases mem_set_or hz with rfl | hz
                    · exact ⟨x1,x2,x3,ht0,ht1⟩
                    · exact ok.ee z hz
                  · rcases mem_set_or hz with rfl | hz
                    · exact Int.le_refl _
                    · exact n2 z hz
                · have hsub:=cut_sub c.Entries (placeOf (fun x:Entry=>x.Key) c.Entries e.Key)
                  exact ⟨ok_with ok (Nat.le_trans hsub.length_le ok.el) (fun z hz=>ok.ee z (hsub.subset hz)) (ok.es.sublist hsub),newest_le.2 ⟨⟨n0,n1⟩,fun z hz=>n2 z (hsub.subset hz)⟩⟩
          · have hk6:e.Kind=6:=by simpa using k6
            have hkey:isDigB e.Key=true:=by
              rw [hk6] at hb2
              simpa [fieldsS] using hb2
            simp only [cond_false,cond_true]
            unfold storeS
            cases decide (0<((missingS c e.Digests).length:Int))
            · cases ha:c.Entries.any (fun x=>sEq x.Key e.Key)
              · simp only [cond_false]
                obtain ⟨r1,r2⟩:=room_len ok
                have hno:(roomE1 c.Entries).any (fun y=>sEq y.Key e.Key)=false:=by
                  rw [List.any_eq_false]
                  intro x hx hc
                  rw [List.any_eq_true.2 ⟨x,r2.subset hx,hc⟩] at ha
                  cases ha
                refine ⟨ok_with (ok_touch ok ht0 ht1 true false e.Digests) (by rw [ins_len]; omega) (fun z hz=>?_) (ins_srt (key:=fun y:Entry=>y.Key) (x:=(⟨e.Key,e.Digests,e.At⟩:Entry)) (ok.es.sublist r2) hno),touch_newest' hn true false e.Digests (fun z hz=>?_)⟩
                · rcases ins_mem hz with rfl | hz
                  · exact ⟨hkey,hdl,hrefs,ht0,ht1⟩
                  · exact ok.ee z (r2.subset hz)
                · rcases ins_mem hz with rfl | hz
                  · exact Int.le_refl _
                  · exact n2 z (r2.subset hz)
              · obtain ⟨y,hy,hym,hye,hyg⟩:=placeOf_get (key:=fun y:Entry=>y.Key) ok.es ha
                simp only [cond_false,cond_true]
                refine ⟨ok_with (ok_touch ok ht0 ht1 true false e.Digests) (by rw [List.length_set]; exact ok.el) (fun z hz=>?_) (set_srt (key:=fun y:Entry=>y.Key) ok.es hyg (sEq_iff.1 hye).symm),touch_newest' hn true false e.Digests (fun z hz=>?_)⟩
                · rcases mem_set_or hz with rfl | hz
                  · exact ⟨hkey,hdl,hrefs,ht0,ht1⟩
                  · exact ok.ee z hz
                · rcases mem_set_or hz with rfl | hz
                  · exact Int.le_refl _
                  · exact n2 z hz
            · exact same
        · simp only [cond_false,cond_true]
          unfold pinS
          rcases getB_cases ok.bs e.Digest with ⟨g1,g2⟩ | ⟨y,g1,g2,g3,g4,g5,g6⟩
          · rw [g1]
            exact same
          · rw [g1]
            simp only
            obtain ⟨_,_,_,_,_,_,_,b8,b9⟩:=ok.be y g4
            have only:∀ z∈c.Blobs,z.Digest=e.Digest→z=y:=fun z hz hd=>key_inj (key:=fun x:Blob=>x.Digest) ok.bs z hz y g4 (hd.trans g5.symm)
            cases e.Kind == 5
            · cases hq:decide (3000≤y.Pins)
              · have:=of_decide_eq_false hq
                exact ⟨ok_pin ok (fun z hz hd=>by rw [only z hz hd]; omega),pin_newest hn _ _⟩
              · exact same
            · cases hq:y.Pins == 0
              · have:y.Pins≠0:=by simpa using hq
                exact ⟨ok_pin ok (fun z hz hd=>by rw [only z hz hd]; omega),pin_newest hn _ _⟩
              · exact same
      · exact ⟨ok_touch ok ht0 ht1 false true e.Digests,touch_newest' hn false true e.Digests n2⟩
    · exact ⟨ok_touch ok ht0 ht1 true true [e.Digest],touch_newest' hn true true [e.Digest] n2⟩
  · rw [k1] at h0
    have hk1:e.Kind=1:=by simpa using k1
    have hdig:isDigB e.Digest=true:=by
      rw [hk1] at hb1
      simpa [fieldsS] using hb1
    obtain ⟨p1,p2,_⟩:=put_ok ok hdig hs0 hs1 ht0 ht1 hn h0
    exact ⟨p1,p2⟩
end Go.Proofs.YtjdnnkdhajhdkaaGreatDoor
