/- Caches: the program's two ways through a list of events. -/
import Derived.Test.YtkjilepjblffeaaDoorPFol
set_option linter.unusedVariables false
set_option linter.unusedSimpArgs false
namespace Go.Proofs.YtkjilepjblffeaaDoor
open Go Go.Proofs.YtkjilepjblffeaaDoor.Kit
theorem follow_loop {es:List CacheEvent} (hes:es.length≤3000) (hsd:∀ e∈es,smallStrs e.Digests):∀ (l:List CacheEvent) (k v:Nat) (c:Cache) (s:List CacheAnswer),es.drop v=l→v≤es.length→OkCache c→s.length≤v→l.length<k →
    cache_follow.l2 cache_follow.e1 k es s c.Room c.Lease c.Blobs c.Entries (v:Int)=some (followS l c s):=by
  intro l
  induction l with
  | nil =>
    intro k v c s h1 h2 ok h4 h5
    obtain ⟨k,rfl⟩:∃ m,k=m+1:=⟨k - 1,by omega⟩
    have hv:es.length≤v:=List.drop_eq_nil_iff.1 h1
    rw [cache_follow.l2,decide_eq_false (by omega)]
    rfl
  | cons e l ih =>
    intro k v c s h1 h2 ok h4 h5
    simp only [List.length_cons] at h5
    obtain ⟨k,rfl⟩:∃ m,k=m+1:=⟨k - 1,by omega⟩
    have hv:v<es.length:=by
      rcases Nat.lt_or_ge v es.length with h | h
      · exact h
      · rw [List.drop_eq_nil_of_le h] at h1; cases h1
    rw [List.drop_eq_getElem_cons hv] at h1
    injection h1 with g1 g2
    have hm:=List.getElem_mem hv
    rw [g1] at hm
    have hw:w64 ((v:Int)+1)=((v+1:Nat):Int):=by rw [w64_id (by omega) (by omega)]; omega
    have e1:cache_do.f (⟨c.Room,c.Lease,c.Blobs,c.Entries⟩:Cache) e=_:=dE_prog (c:=c) ok (hsd e hm)
    rw [cache_follow.l2,decide_eq_true (by omega),at_nat hv,g1]
    simp only [cond_true,Option.bind_some,e1,hw]
    unfold followS
    cases hz:(dE c e).2.1 != 0
    · obtain ⟨k1,_⟩:=dE_ok ok (by simpa using hz)
      simp only [cond_false]
      unfold cache_Follow_1_2.f
      rw [guard?_true (room_of (by omega))]
      simp only [Option.bind_some]
      exact ih k (v+1) _ _ g2 (by omega) k1 (by simp; omega) (by omega)
    · rfl
theorem peak_loop {es:List CacheEvent} (hes:es.length≤3000) (hsd:∀ e∈es,smallStrs e.Digests):∀ (l:List CacheEvent) (k v:Nat) (c:Cache) (s:Int),es.drop v=l→v≤es.length→OkCache c→l.length<k →
    cache_follow_2.l2 cache_follow_2.e1 k es s c.Room c.Lease c.Blobs c.Entries (v:Int)=some (peakS l c s):=by
  intro l
  induction l with
  | nil =>
    intro k v c s h1 h2 ok h5
    obtain ⟨k,rfl⟩:∃ m,k=m+1:=⟨k - 1,by omega⟩
    have hv:es.length≤v:=List.drop_eq_nil_iff.1 h1
    rw [cache_follow_2.l2,decide_eq_false (by omega)]
    rfl
  | cons e l ih =>
    intro k v c s h1 h2 ok h5
    simp only [List.length_cons] at h5
    obtain ⟨k,rfl⟩:∃ m,k=m+1:=⟨k - 1,by omega⟩
    have hv:v<es.length:=by
      rcases Nat.lt_or_ge v es.length with h | h
      · exact h
      · rw [List.drop_eq_nil_of_le h] at h1; cases h1
    rw [List.drop_eq_getElem_cons hv] at h1
    injection h1 with g1 g2
    have hm:=List.getElem_mem hv
    rw [g1] at hm
    have hw:w64 ((v:Int)+1)=((v+1:Nat):Int):=by rw [w64_id (by omega) (by omega)]; omega
    have e1:cache_do.f (⟨c.Room,c.Lease,c.Blobs,c.Entries⟩:Cache) e=_:=dE_prog (c:=c) ok (hsd e hm)
    rw [cache_follow_2.l2,decide_eq_true (by omega),at_nat hv,g1]
    simp only [cond_true,Option.bind_some,e1,hw]
    unfold peakS
    cases hz:(dE c e).2.1 != 0
    · obtain ⟨k1,_⟩:=dE_ok ok (by simpa using hz)
      simp only [cond_false]
      unfold cache_Peak_1.f
      have e2:cache_used.f (⟨(dE c e).2.2.Room,(dE c e).2.2.Lease,(dE c e).2.2.Blobs,(dE c e).2.2.Entries⟩:Cache)=some (sumI (dE c e).2.2.Blobs):=used_eq (c:=(dE c e).2.2) rfl k1.bl k1.sz
      rw [e2]
      simp only [Option.bind_some]
      exact ih k (v+1) _ _ g2 (by omega) k1 (by omega)
    · rfl
end Go.Proofs.YtkjilepjblffeaaDoor
