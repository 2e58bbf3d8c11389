/- Caches: looking up blobs and entries as the laws do; the put event. -/
import Derived.Test.YtkjilepjblffeaaDoorPDo
set_option linter.unusedVariables false
set_option linter.unusedSimpArgs false
namespace Go.Proofs.YtkjilepjblffeaaDoor
open Go Go.Proofs.YtkjilepjblffeaaDoor.Kit
def doS1 (c:Cache) (dig:ByteArray) (size t:Int):Option (Cache × CacheAnswer × Int) :=
  (cacheS c).bind fun f=>bif f != 0 then some ((⟨0,0,[],[]⟩:Cache),noA,f) else bif eventS1 dig size t != 0 then some ((⟨0,0,[],[]⟩:Cache),noA,eventS1 dig size t) else
  bif decide (t<newestS c) then some ((⟨0,0,[],[]⟩:Cache),noA,11) else bif (putS c dig size t).2.1 != 0 then some ((⟨0,0,[],[]⟩:Cache),noA,(putS c dig size t).2.1) else some ((putS c dig size t).2.2,(putS c dig size t).1,0)
theorem eventS1_zero {dig:ByteArray} {size t:Int} (h:eventS1 dig size t=0):isDigB dig=true∧0≤size∧size≤100000000∧0≤t∧t≤1000000000:=by
  unfold eventS1 at h
  cases h1:isDigB dig
  · rw [h1] at h; simp at h
  · rw [h1] at h
    simp only [Bool.not_true,cond_false] at h
    cases h2:inR 0 100000000 size
    · rw [h2] at h; simp at h
    · cases h3:inR 0 1000000000 t
      · rw [h2,h3] at h; simp at h
      · simp [inR] at h2 h3
        exact ⟨rfl,h2.1,h2.2,h3.1,h3.2⟩
theorem do1_prog {c:Cache} (hf:Fit c) (dig:ByteArray) (size t:Int):cache_Do.f c (⟨1,t,dig,[],ByteArray.empty,size⟩:CacheEvent)=doS1 c dig size t:=by
  unfold cache_Do.f doS1
  rw [check_prog hf.small]
  obtain ⟨f,e1⟩:=cacheS_some c
  rw [e1]
  simp only [Option.bind_some]
  cases h0:f != 0
  · have:f=0:=by simpa using h0
    subst this
    have ok:=cacheS_ok e1
    have hbl:=ok.bl
    have hel:=ok.el
    simp only [cond_false,own_id hf.fb hf.fe hf.fr,Option.bind_some]
    unfold cache_do.f
    rw [event1_prog]
    simp only [Option.bind_some]
    cases h1:eventS1 dig size t != 0
    · obtain ⟨g1,g2,g3,g4,g5⟩:=eventS1_zero (by simpa using h1)
      have e2:cache_newest.f (⟨c.Room,c.Lease,c.Blobs,c.Entries⟩:Cache)=some (newestS c):=newest_prog (c:=c) (by omega) (by omega)
      have e3:cache_find.f (⟨c.Room,c.Lease,c.Blobs,c.Entries⟩:Cache) dig=_:=find_prog (c:=c) hf.small ok.bs dig
      have e4:cache_put_2.f (⟨c.Room,c.Lease,c.Blobs,c.Entries⟩:Cache) (⟨1,t,dig,[],ByteArray.empty,size⟩:CacheEvent)=some (putS c dig size t):=put_prog (c:=c) ok g2 g3 g4 g5
      simp only [cond_false,e2,Option.bind_some]
      cases h2:decide (t<newestS c)
      · simp only [cond_false,e3,Option.bind_some,beq_self_eq_true,cond_true,e4]
        cases h3:(putS c dig size t).2.1 != 0 <;> rfl
      · rfl
    · simp only [cond_true,Option.bind_some,h1]
      rfl
  · rfl
end Go.Proofs.YtkjilepjblffeaaDoor
