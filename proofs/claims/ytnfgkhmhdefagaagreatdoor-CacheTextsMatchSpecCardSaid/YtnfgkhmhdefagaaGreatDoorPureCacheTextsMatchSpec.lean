/- CacheTextsMatchSpec over plain data: both sides write and read alike. -/
import Derived.Test.YtnfgkhmhdefagaaGreatDoorPCtR7
import Derived.Test.YtnfgkhmhdefagaaGreatDoorPureSCacheTextsMatchSpec
set_option linter.unusedVariables false
set_option linter.unusedSimpArgs false
namespace Go.Proofs.YtnfgkhmhdefagaaGreatDoor
open Go Go.Proofs.YtnfgkhmhdefagaaGreatDoor.Kit
theorem fit_small {c:Cache} (h:fitCache c):smallCache c∧c.Blobs.length*48≤140737490452480∧c.Entries.length*48≤140737490452480∧∀ x∈c.Entries,x.Refs.length*16≤140737490452480:=by
  obtain ⟨_,_,⟨h3,h4⟩,h5,h6⟩:=h
  simp only [reachBytes] at h3 h5
  refine ⟨⟨⟨by omega,fun x hx=>?_⟩,⟨by omega,fun x hx=>?_⟩⟩,by omega,by omega,fun x hx=>?_⟩
  · have:=(h4 x hx).1
    simp only [reachBytes] at this
    omega
  · obtain ⟨k1,⟨k2,k3⟩,_⟩:=h6 x hx
    simp only [reachBytes] at k1 k2
    refine ⟨by omega,by omega,fun y hy=>?_⟩
    have:=k3 y hy
    simp only [reachBytes] at this
    omega
  · obtain ⟨k1,⟨k2,k3⟩,_⟩:=h6 x hx
    simp only [reachBytes] at k2
    omega
theorem small_read {c:Cache} (h:cacheS c=some 0):smallCache c:=by
  have ho:=cacheS_ok h
  have h1:=ho.bl
  have h2:=ho.el
  refine ⟨⟨by omega,fun x hx=>?_⟩,⟨by omega,fun x hx=>?_⟩⟩
  · have:=(clean_dig (ho.be x hx).1).2
    omega
  · obtain ⟨k1,k2,k3,_⟩:=ho.ee x hx
    have:=(clean_dig k1).2
    exact ⟨by omega,by omega,fun y hy=>by have:=(clean_dig (k3.1 y hy)).2; omega⟩
theorem read_same (t:ByteArray):∃ c n f,cache_Read.f t=some (c,n,f)∧smithyardref7_Read.f t=some (c,n,f)∧smallCache c:=by
  have hn:smallCache noC:=⟨⟨by simp [noC],fun x hx=>by simp [noC] at hx⟩,⟨by simp [noC],fun x hx=>by simp [noC] at hx⟩⟩
  by_cases ht:t.size≤2000000
  · rw [read_prog ht,read_ref ht]
    rcases readV_spec big t noC 0 (by omega) (fun _=>⟨rfl,rfl⟩) (by simp only [beq_self_eq_true,cond_true]; unfold big; omega) (by omega) with ⟨n,f,h,hf⟩ | ⟨c,h,hc,hT⟩
    · exact ⟨_,_,_,h,h,hn⟩
    · exact ⟨_,_,_,h,h,small_read hc⟩
  · refine ⟨noC,0,2,?_,?_,hn⟩
    · unfold cache_Read.f
      rw [decide_eq_true (by omega)]
      rfl
    · unfold smithyardref7_Read.f
      rw [decide_eq_true (by omega)]
      rfl
theorem CacheTextsMatchSpec_pure:CacheTextsMatchSpec_Pure:=by
  intro c t hc ht
  obtain ⟨hs,hb,he,hr⟩:=fit_small hc
  unfold smithyardlaw7_CacheTextsMatchSpec.f
  rw [copy_id hb he hr,text_prog hs]
  simp only [Option.bind_some]
  have e:(⟨c.Room,c.Lease,c.Blobs,c.Entries⟩:Cache)=c:=rfl
  rw [e,text_ref hs]
  obtain ⟨s,f,hT⟩:∃ s f,textR c=some (s,f):=by
    obtain ⟨r,hr⟩:=cacheS_some c
    unfold textR
    rw [hr]
    simp only [Option.bind_some]
    cases r != 0 <;> exact ⟨_,_,rfl⟩
  rw [hT]
  obtain ⟨x,n,g,h1,h2,h3⟩:=read_same t
  rw [h1,h2]
  simp only [Option.bind_some,sEq_self,cond_true,BEq.rfl]
  rw [same_self (c:=x) h3]
  simp only [Option.bind_some,cond_true,BEq.rfl]
  rw [same_self hs,awake7]
  rfl
end Go.Proofs.YtnfgkhmhdefagaaGreatDoor
