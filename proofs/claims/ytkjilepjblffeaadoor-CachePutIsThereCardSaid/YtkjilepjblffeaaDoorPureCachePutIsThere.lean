/- CachePutIsThere over plain data: what was put is there, and what was not put left the cache as it was. -/
import Derived.Test.YtkjilepjblffeaaDoorPPut
import Derived.Test.YtkjilepjblffeaaDoorPureSCachePutIsThere
set_option linter.unusedVariables false
set_option linter.unusedSimpArgs false
namespace Go.Proofs.YtkjilepjblffeaaDoor
open Go Go.Proofs.YtkjilepjblffeaaDoor.Kit
theorem fit_of {c:Cache} (h:fitCache c):Fit c:=by
  obtain ⟨-,-,⟨h3,h3'⟩,⟨h4,h4'⟩⟩:=h
  exact fit_raw h3 (fun x hx=>(h3' x hx).1) h4 (fun x hx=>⟨(h4' x hx).1,(h4' x hx).2.1.1,(h4' x hx).2.1.2⟩)
theorem event2_prog (dig:ByteArray) (t:Int):cache_checkEvent.f (⟨2,t,dig,[],ByteArray.empty,0⟩:CacheEvent)=some (eventS1 dig 0 t):=by
  have h0:sEq ByteArray.empty ({ data:=#[] }:ByteArray)=true:=sEq_iff.2 rfl
  have h1:cache_fields.f 2=some (true,false,false,false):=rfl
  have h2:inR 1 8 2=true:=by decide
  have h3:cache_checkDigests.f [] 200=some 0:=by
    rw [digests_prog ⟨by simp,fun x hx=>by cases hx⟩]
    rfl
  unfold cache_checkEvent.f eventS1
  simp only [within7,h2,Option.bind_some,Bool.not_true,cond_false,h1,Bool.not_false,cond_true,h0,List.length_nil,cache_checkEvent.j1,isDig_prog,bne_self_eq_false]
  cases hd:isDigB dig
  · simp only [Bool.not_false,cond_true,cache_checkEvent.j2]
    rfl
  · simp only [Bool.not_true,cond_false,cache_checkEvent.j2,h3,bne_self_eq_false,Option.bind_some,within7,cache_isMoment.f]
    cases inR 0 100000000 0 <;> cases inR 0 1000000000 t <;> rfl
theorem do2_prog {c:Cache} (ok:OkCache c) {dig:ByteArray} {t:Int} (hd:isDigB dig=true) (ht0:0≤t) (ht1:t≤1000000000) (hn:newestS c≤t) :
    cache_Do.f c (⟨2,t,dig,[],ByteArray.empty,0⟩:CacheEvent)=some (⟨c.Room,c.Lease,touchL t c.Lease true true [dig] c.Blobs,c.Entries⟩,⟨c.Blobs.any (fun x=>sEq x.Digest dig),[],[]⟩,0):=by
  have hf:=ok.fit
  have hbl:=ok.bl
  have hel:=ok.el
  have hev:eventS1 dig 0 t=0:=by
    unfold eventS1
    rw [hd,show inR 0 100000000 0=true by decide,show inR 0 1000000000 t=true by simp [inR]; omega]
    rfl
  unfold cache_Do.f
  rw [check_prog hf.small,ok.check,own_id hf.fb hf.fe hf.fr]
  simp only [Option.bind_some,bne_self_eq_false,cond_false]
  unfold cache_do.f
  have e2:cache_newest.f (⟨c.Room,c.Lease,c.Blobs,c.Entries⟩:Cache)=some (newestS c):=newest_prog (c:=c) (by omega) (by omega)
  have e3:cache_find.f (⟨c.Room,c.Lease,c.Blobs,c.Entries⟩:Cache) dig=_:=find_prog (c:=c) hf.small ok.bs dig
  have e4:cache_touch_3.f (⟨c.Room,c.Lease,c.Blobs,c.Entries⟩:Cache) [dig] t true true=_:=touch_prog (c:=c) hf.small ok.bs ht0 ht1 ok.lease0 ok.lease1 (by simp) true true
  rw [event2_prog,hev]
  simp only [Option.bind_some,bne_self_eq_false,cond_false,e2]
  rw [decide_eq_false (by omega)]
  simp only [cond_false,e3,Option.bind_some,e4]
  rfl
theorem CachePutIsThere_pure:CachePutIsThere_Pure:=by
  intro c dig size t hc hdig hsize ht
  have hf:=fit_of hc
  unfold smithyardlaw7_CachePutIsThere.f
  rw [do1_prog hf]
  unfold doS1
  obtain ⟨f,e1⟩:=cacheS_some c
  rw [e1]
  simp only [Option.bind_some]
  cases h0:f != 0
  · have hz:f=0:=by simpa using h0
    subst hz
    have ok:=cacheS_ok e1
    simp only [cond_false]
    cases h1:eventS1 dig size t != 0
    · obtain ⟨g1,g2,g3,g4,g5⟩:=eventS1_zero (by simpa using h1)
      simp only [cond_false]
      cases h2:decide (t<newestS c)
      · have hn:newestS c≤t:=by have:=of_decide_eq_false h2; omega
        simp only [cond_false]
        cases h3:(putS c dig size t).2.1 != 0
        · obtain ⟨p1,p2,p3,p4⟩:=put_ok ok g1 g2 g3 g4 g5 hn (by simpa using h3)
          simp only [cond_false,Option.bind_some,bne_self_eq_false]
          have e5:=do2_prog p1 g1 g4 g5 p2
          have e6:cache_Do.f (⟨(putS c dig size t).2.2.Room,(putS c dig size t).2.2.Lease,(putS c dig size t).2.2.Blobs,(putS c dig size t).2.2.Entries⟩:Cache) (⟨2,t,dig,[],ByteArray.empty,0⟩:CacheEvent)=_:=e5
          rw [e6]
          simp only [Option.bind_some,bne_self_eq_false,cond_false,p3,beq_self_eq_true,Bool.not_true]
          cases hdn:(putS c dig size t).1.Done
          · obtain ⟨p5,p6⟩:=p4 hdn
            have e7:smithyardref7_Same.f (⟨(putS c dig size t).2.2.Room,(putS c dig size t).2.2.Lease,(putS c dig size t).2.2.Blobs,(putS c dig size t).2.2.Entries⟩:Cache) c=some true:=by
              rw [p5]
              exact same_self hf.small
            simp only [cond_false,e7,Option.bind_some,cond_true,p6,List.length_nil,awake7]
            rfl
          · simp only [cond_true,awake7,Option.bind_some]
        · simp only [cond_true,Option.bind_some,h3,noA,Bool.not_false,awake7]
      · simp only [cond_true,Option.bind_some,noA,Bool.not_false,awake7]
        rfl
    · simp only [cond_true,Option.bind_some,h1,noA,Bool.not_false,awake7]
  · simp only [cond_true,Option.bind_some,h0,noA,Bool.not_false,awake7]
end Go.Proofs.YtkjilepjblffeaaDoor
