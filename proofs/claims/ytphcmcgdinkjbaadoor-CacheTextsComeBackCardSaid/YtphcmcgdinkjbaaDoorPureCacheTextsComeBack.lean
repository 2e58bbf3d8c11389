/- CacheTextsComeBack over plain data: Read and Text are each other's inverse. -/
import Derived.Test.YtphcmcgdinkjbaaDoorPCv7
import Derived.Test.YtphcmcgdinkjbaaDoorPureSCacheTextsComeBack
set_option linter.unusedVariables false
set_option linter.unusedSimpArgs false
namespace Go.Proofs.YtphcmcgdinkjbaaDoor
open Go Go.Proofs.YtphcmcgdinkjbaaDoor.Kit
theorem small_raw {c:Cache} (h:fitCache c):smallCache c:=by
  obtain ⟨_,_,⟨h3,h4⟩,h5,h6⟩:=h
  simp only [reachBytes] at h3 h5
  refine ⟨⟨by omega,fun x hx=>?_⟩,⟨by omega,fun x hx=>?_⟩⟩
  · have:=(h4 x hx).1
    simp only [reachBytes] at this
    omega
  · obtain ⟨k1,⟨k2,k3⟩,_⟩:=h6 x hx
    simp only [reachBytes] at k1 k2
    refine ⟨by omega,by omega,fun y hy=>?_⟩
    have:=k3 y hy
    simp only [reachBytes] at this
    omega
theorem small_read {c:Cache} (h:cacheS c=some 0):smallCache c:=by
  have ho:=cacheS_ok h
  have h1:=ho.bl
  have h2:=ho.el
  refine ⟨⟨by omega,fun x hx=>?_⟩,⟨by omega,fun x hx=>?_⟩⟩
  · have:=(clean_dig (ho.be x hx).1).2
    omega
  · obtain ⟨k1,k2,k3,_⟩:=ho.ee x hx
    have:=(clean_dig k1).2
    exact ⟨by omega,by omega,fun y hy=>by have:=(clean_dig (k3.1 y hy)).2; omega⟩
theorem back_text (t:ByteArray):smithyardlaw7_CacheTextsComeBack.j1 t=some true:=by
  unfold smithyardlaw7_CacheTextsComeBack.j1
  by_cases ht:t.size≤2000000
  · rw [read_prog ht]
    rcases readV_spec big t noC 0 (by omega) (fun _=>⟨rfl,rfl⟩) (by simp only [beq_self_eq_true,cond_true]; unfold big; omega) (by omega) with ⟨n,f,h,hf⟩ | ⟨c,h,hc,hT⟩
    · rw [h]
      have:(f != 0)=true:=by simpa using hf
      simp only [Option.bind_some,this,cond_true]
      rw [awake7]
      rfl
    · rw [h]
      simp only [Option.bind_some,bne_self_eq_false,cond_false]
      have e:textS c=t:=ba_ext (by rw [show (textS c).data.toList=textL c from rfl,hT]; rfl)
      rw [text_prog (small_read hc)]
      unfold textR
      rw [hc]
      simp only [Option.bind_some,bne_self_eq_false,cond_false]
      rw [e,decide_eq_false (by omega),awake7]
      simp only [cond_false,beq_self_eq_true,cond_true,sEq_self]
      rfl
  · unfold cache_Read.f
    rw [decide_eq_true (by omega),awake7]
    rfl
theorem CacheTextsComeBack_pure:CacheTextsComeBack_Pure:=by
  intro c t hc ht
  have hs:=small_raw hc
  unfold smithyardlaw7_CacheTextsComeBack.f
  rw [back_text,text_prog hs]
  unfold textR
  obtain ⟨r,hr⟩:=cacheS_some c
  rw [hr]
  simp only [Option.bind_some]
  by_cases h0:r=0
  · subst h0
    simp only [bne_self_eq_false,cond_false,Option.bind_some]
    by_cases hz:(textS c).size≤2000000
    · rw [decide_eq_false (by omega)]
      simp only [cond_false,beq_self_eq_true,cond_true]
      rw [read_prog hz,read_text hr hz]
      simp only [Option.bind_some,bne_self_eq_false,cond_false]
      rw [same_self hs]
      rfl
    · rw [decide_eq_true (by omega)]
      rfl
  · have:(r != 0)=true:=by simpa using h0
    rw [this]
    have h2:(r == 0)=false:=by simpa using h0
    simp only [cond_true,Option.bind_some,h2,cond_false]
end Go.Proofs.YtphcmcgdinkjbaaDoor
