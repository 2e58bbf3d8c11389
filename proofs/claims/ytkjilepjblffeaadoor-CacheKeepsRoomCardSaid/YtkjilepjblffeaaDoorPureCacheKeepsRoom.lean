/- CacheKeepsRoom over plain data: whatever events are followed, the cache stays within its room. -/
import Derived.Test.YtkjilepjblffeaaDoorPFol2
import Derived.Test.YtkjilepjblffeaaDoorPureSCacheKeepsRoom
set_option linter.unusedVariables false
set_option linter.unusedSimpArgs false
namespace Go.Proofs.YtkjilepjblffeaaDoor
open Go Go.Proofs.YtkjilepjblffeaaDoor.Kit
theorem fit_of {c:Cache} (h:fitCache c):Fit c:=by
  obtain ⟨-,-,⟨h3,h3'⟩,⟨h4,h4'⟩⟩:=h
  exact fit_raw h3 (fun x hx=>(h3' x hx).1) h4 (fun x hx=>⟨(h4' x hx).1,(h4' x hx).2.1.1,(h4' x hx).2.1.2⟩)
theorem CacheKeepsRoom_pure:CacheKeepsRoom_Pure:=by
  intro c es hc hes
  have hf:=fit_of hc
  have hsd:∀ e∈es,smallStrs e.Digests:=fun e he=>(strs_raw (hes.2 e he).2.2.2.1.1 (hes.2 e he).2.2.2.1.2).1
  unfold smithyardlaw7_CacheKeepsRoom.f cache_Follow.f cache_follow.f
  rw [check_prog hf.small]
  obtain ⟨f,e1⟩:=cacheS_some c
  rw [e1]
  simp only [Option.bind_some]
  cases h0:f != 0
  · have hz:f=0:=by simpa using h0
    subst hz
    have ok:=cacheS_ok e1
    simp only [cond_false]
    cases hl:decide (3000<(es.length:Int))
    · have hlen:es.length≤3000:=by have:=of_decide_eq_false hl; omega
      simp only [cond_false,own_id hf.fb hf.fe hf.fr,Option.bind_some]
      have e2:=follow_loop hlen hsd es big 0 c [] rfl (by omega) ok (by simp) (by unfold big; omega)
      rw [show ((0:Nat):Int)=0 from rfl] at e2
      rw [e2]
      simp only [Option.bind_some]
      have hsum:sumI c.Blobs≤c.Room:=by rw [← ok.sumI]; exact ok.sum
      obtain ⟨p1,p2,p3⟩:=follow_peak es c [] (sumI c.Blobs) ok
      cases hq:(followS es c []).2.1 != 0
      · have hq0:(followS es c []).2.1=0:=by simpa using hq
        obtain ⟨j1,j2,j3,j4,j5⟩:=p3 hq0
        simp only [cond_false,Option.bind_some,bne_self_eq_false]
        have e3:cache_Used.f (⟨(followS es c []).1.Room,(followS es c []).1.Lease,(followS es c []).1.Blobs,(followS es c []).1.Entries⟩:Cache)=some (sumI (followS es c []).1.Blobs,0):=by
          refine (usedC_prog j1.fit).trans ?_
          unfold usedS7
          rw [j1.check]
          rfl
        have e4:cache_CheckCache.f (⟨(followS es c []).1.Room,(followS es c []).1.Lease,(followS es c []).1.Blobs,(followS es c []).1.Entries⟩:Cache)=some 0:=(check_prog j1.fit.small).trans j1.check
        have e5:cache_Peak.f c es=some ((peakS es c (sumI c.Blobs)).2.2,0):=by
          unfold cache_Peak.f cache_follow_2.f
          rw [used_eq (c:=c) rfl ok.bl ok.sz]
          simp only [Option.bind_some]
          rw [check_prog hf.small,e1]
          simp only [Option.bind_some,bne_self_eq_false,cond_false,hl,own_id hf.fb hf.fe hf.fr]
          have e6:=peak_loop hlen hsd es big 0 c (sumI c.Blobs) rfl (by omega) ok (by unfold big; omega)
          rw [show ((0:Nat):Int)=0 from rfl] at e6
          rw [e6]
          simp only [Option.bind_some]
          rw [← p1,hq0]
          rfl
        rw [e3,e5]
        simp only [Option.bind_some]
        rw [e4]
        have hr:sumI (followS es c []).1.Blobs≤(followS es c []).1.Room:=by rw [← j1.sumI]; exact j1.sum
        simp only [Option.bind_some,beq_self_eq_true,cond_true]
        rw [decide_eq_true hr,j2,decide_eq_true (j3 hsum),decide_eq_true (j5 (Int.le_refl _))]
        simp only [beq_self_eq_true,cond_true,awake7,Option.bind_some]
      · simp only [cond_true,Option.bind_some,hq,awake7]
        rfl
    · simp only [cond_true,Option.bind_some,awake7]
      rfl
  · simp only [cond_true,Option.bind_some,h0,awake7]
    rfl
end Go.Proofs.YtkjilepjblffeaaDoor
