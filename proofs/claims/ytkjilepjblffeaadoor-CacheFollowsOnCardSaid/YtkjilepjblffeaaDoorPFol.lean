/- Caches: following a list of events; Follow as a whole. -/
import Derived.Test.YtkjilepjblffeaaDoorPDoK
set_option linter.unusedVariables false
set_option linter.unusedSimpArgs false
namespace Go.Proofs.YtkjilepjblffeaaDoor
open Go Go.Proofs.YtkjilepjblffeaaDoor.Kit
def dE (c:Cache) (e:CacheEvent):CacheAnswer × Int × Cache :=
  bif (eventS e).getD 0 != 0 then (noA,(eventS e).getD 0,c) else bif decide (e.At<newestS c) then (noA,11,c) else doK c e
theorem dE_prog {c:Cache} (ok:OkCache c) {e:CacheEvent} (hsd:smallStrs e.Digests):cache_do.f c e=some (dE c e):=by
  rw [do_prog ok hsd]
  obtain ⟨y,hy⟩:=eventS_some e
  unfold dE
  rw [hy]
  simp only [Option.bind_some,Option.getD_some]
  cases y != 0
  · cases decide (e.At<newestS c) <;> rfl
  · rfl
theorem dE_ok {c:Cache} (ok:OkCache c) {e:CacheEvent} (h0:(dE c e).2.1=0):OkCache (dE c e).2.2∧eventS e=some 0∧newestS c≤e.At∧dE c e=doK c e∧newestS (dE c e).2.2≤e.At:=by
  obtain ⟨y,hy⟩:=eventS_some e
  unfold dE at h0 ⊢
  rw [hy] at h0 ⊢
  simp only [Option.getD_some] at h0 ⊢
  cases h1:y != 0
  · have:y=0:=by simpa using h1
    subst this
    rw [h1] at h0
    cases h2:decide (e.At<newestS c)
    · rw [h2] at h0
      simp only [cond_false] at h0 ⊢
      have hn:newestS c≤e.At:=by have:=of_decide_eq_false h2; omega
      obtain ⟨k1,k2⟩:=doK_ok ok hy hn h0
      exact ⟨k1,by simp,hn,by simp,k2⟩
    · rw [h2] at h0
      exact absurd h0 (by simp)
  · rw [h1] at h0
    simp only [cond_true] at h0
    subst h0
    simp at h1
theorem doK_room (c:Cache) (e:CacheEvent):(doK c e).2.2.Room=c.Room∧(doK c e).2.2.Lease=c.Lease:=by
  unfold doK
  cases e.Kind == 1
  · cases e.Kind == 2
    · cases e.Kind == 3
      · cases (e.Kind == 4||e.Kind == 5)
        · cases e.Kind == 6
          · cases e.Kind == 7
            · simp only [cond_false]
              unfold dropS
              cases getB c e.Digest with
              | none=>exact ⟨rfl,rfl⟩
              | some y=>simp only; cases heldB y e.At <;> exact ⟨rfl,rfl⟩
            · simp only [cond_false,cond_true]
              unfold searchS
              cases getE c e.Key with
              | none=>exact ⟨rfl,rfl⟩
              | some x=>simp only; cases decide (0<((missingS c x.Refs).length:Int)) <;> exact ⟨rfl,rfl⟩
          · simp only [cond_false,cond_true]
            unfold storeS
            cases decide (0<((missingS c e.Digests).length:Int)) <;> cases c.Entries.any (fun x=>sEq x.Key e.Key) <;> exact ⟨rfl,rfl⟩
        · simp only [cond_false,cond_true]
          unfold pinS
          cases getB c e.Digest with
          | none=>exact ⟨rfl,rfl⟩
          | some y=>simp only; cases e.Kind == 5 <;> cases decide (3000≤y.Pins) <;> cases y.Pins == 0 <;> exact ⟨rfl,rfl⟩
      · exact ⟨rfl,rfl⟩
    · exact ⟨rfl,rfl⟩
  · simp only [cond_true]
    obtain ⟨m1,m2,_⟩:=clear_more c (c.Room - e.Size) e.At
    unfold putS
    cases c.Blobs.any (fun x=>sEq x.Digest e.Digest)
    · cases (clearS c (c.Room - e.Size) e.At).2.1
      · exact ⟨m1,m2⟩
      · cases decide (3000≤((clearS c (c.Room - e.Size) e.At).2.2.Blobs.length:Int))
        · exact ⟨rfl,rfl⟩
        · exact ⟨m1,m2⟩
    · simp only [cond_true]
      cases c.Blobs[placeOf (fun x:Blob=>x.Digest) c.Blobs e.Digest]? with
      | none=>exact ⟨rfl,rfl⟩
      | some x=>simp only; cases x.Size != e.Size <;> exact ⟨rfl,rfl⟩
def followS:List CacheEvent→Cache→List CacheAnswer→Cache × Int × List CacheAnswer
  | [],c,s=>(c,0,s)
  | e::l,c,s=>bif (dE c e).2.1 != 0 then (⟨0,0,[],[]⟩,(dE c e).2.1,s) else followS l (dE c e).2.2 (s++[(dE c e).1])
def peakS:List CacheEvent→Cache→Int→Cache × Int × Int
  | [],c,s=>(c,0,s)
  | e::l,c,s=>bif (dE c e).2.1 != 0 then (⟨0,0,[],[]⟩,(dE c e).2.1,s) else peakS l (dE c e).2.2 (max2 s (sumI (dE c e).2.2.Blobs))
theorem follow_peak:∀ (l:List CacheEvent) (c:Cache) (s:List CacheAnswer) (p:Int),OkCache c→(followS l c s).2.1=(peakS l c p).2.1∧((followS l c s).2.1≠0→(followS l c s).1=⟨0,0,[],[]⟩)∧((followS l c s).2.1=0→OkCache (followS l c s).1∧(followS l c s).1.Room=c.Room∧(p≤c.Room→(peakS l c p).2.2≤c.Room)∧p≤(peakS l c p).2.2∧(sumI c.Blobs≤p→sumI (followS l c s).1.Blobs≤(peakS l c p).2.2))
  | [],c,s,p,ok=>⟨rfl,fun h=>absurd rfl h,fun _=>⟨ok,rfl,fun h=>h,Int.le_refl p,fun h=>h⟩⟩
  | e::l,c,s,p,ok=>by
    unfold followS peakS
    cases hz:(dE c e).2.1 != 0
    · simp only [cond_false]
      have h0:(dE c e).2.1=0:=by simpa using hz
      obtain ⟨k1,k2,k3,k4,_⟩:=dE_ok ok h0
      have hr:(dE c e).2.2.Room=c.Room:=by rw [k4]; exact (doK_room c e).1
      have ih:=follow_peak l (dE c e).2.2 (s++[(dE c e).1]) (max2 p (sumI (dE c e).2.2.Blobs)) k1
      have hsum:sumI (dE c e).2.2.Blobs≤c.Room:=by rw [← k1.sumI,← hr]; exact k1.sum
      have hm1:p≤max2 p (sumI (dE c e).2.2.Blobs):=by unfold max2; split <;> omega
      have hm2:sumI (dE c e).2.2.Blobs≤max2 p (sumI (dE c e).2.2.Blobs):=by unfold max2; split <;> omega
      have hm3:p≤c.Room→max2 p (sumI (dE c e).2.2.Blobs)≤c.Room:=by unfold max2; split <;> omega
      refine ⟨ih.1,ih.2.1,fun h=>?_⟩
      obtain ⟨j1,j2,j3,j4,j5⟩:=ih.2.2 h
      exact ⟨j1,j2.trans hr,fun hp=>by have:=j3 (by rw [hr]; exact hm3 hp); rw [hr] at this; exact this,Int.le_trans hm1 j4,fun _=>j5 hm2⟩
    · have hne:(dE c e).2.1≠0:=by simpa using hz
      simp only [cond_true]
      exact ⟨by simp,fun _=>by simp,fun h=>absurd h hne⟩
end Go.Proofs.YtkjilepjblffeaaDoor

namespace Go.Proofs.YtkjilepjblffeaaDoor
open Go Go.Proofs.YtkjilepjblffeaaDoor.Kit
theorem follow_loop {es:List CacheEvent} (hes:es.length≤3000) (hsd:∀ e∈es,smallStrs e.Digests):∀ (l:List CacheEvent) (k v:Nat) (c:Cache) (s:List CacheAnswer),es.drop v=l→v≤es.length→OkCache c→s.length≤v→l.length<k →
    cache_follow.l2 cache_follow.e1 k es s c.Room c.Lease c.Blobs c.Entries (v:Int)=some (followS l c s):=by
  intro l
  induction l with
  | nil =>
    intro k v c s h1 h2 ok h4 h5
    obtain ⟨k,rfl⟩:∃ m,k=m+1:=⟨k - 1,by omega⟩
    have hv:es.length≤v:=List.drop_eq_nil_iff.1 h1
    rw [cache_follow.l2,decide_eq_false (by omega)]
    rfl
  | cons e l ih =>
    intro k v c s h1 h2 ok h4 h5
    simp only [List.length_cons] at h5
    obtain ⟨k,rfl⟩:∃ m,k=m+1:=⟨k - 1,by omega⟩
    have hv:v<es.length:=by
      rcases Nat.lt_or_ge v es.length with h | h
      · exact h
      · rw [List.drop_eq_nil_of_le h] at h1; cases h1
    rw [List.drop_eq_getElem_cons hv] at h1
    injection h1 with g1 g2
    have hm:=List.getElem_mem hv
    rw [g1] at hm
    have hw:w64 ((v:Int)+1)=((v+1:Nat):Int):=by rw [w64_id (by omega) (by omega)]; omega
    have e1:cache_do.f (⟨c.Room,c.Lease,c.Blobs,c.Entries⟩:Cache) e=_:=dE_prog (c:=c) ok (hsd e hm)
    rw [cache_follow.l2,decide_eq_true (by omega),at_nat hv,g1]
    simp only [cond_true,Option.bind_some,e1,hw]
    unfold followS
    cases hz:(dE c e).2.1 != 0
    · obtain ⟨k1,_⟩:=dE_ok ok (by simpa using hz)
      simp only [cond_false]
      unfold cache_Follow_1_2.f
      rw [guard?_true (room_of (by omega))]
      simp only [Option.bind_some]
      exact ih k (v+1) _ _ g2 (by omega) k1 (by simp; omega) (by omega)
    · rfl
end Go.Proofs.YtkjilepjblffeaaDoor

namespace Go.Proofs.YtkjilepjblffeaaDoor
open Go Go.Proofs.YtkjilepjblffeaaDoor.Kit
def followF (c:Cache) (es:List CacheEvent):Option (Cache × List CacheAnswer × Int) :=
  (cacheS c).bind fun f=>bif f != 0 then some ((⟨0,0,[],[]⟩:Cache),[],f) else bif decide (3000<(es.length:Int)) then some ((⟨0,0,[],[]⟩:Cache),[],2) else
  bif (followS es c []).2.1 != 0 then some ((⟨0,0,[],[]⟩:Cache),[],(followS es c []).2.1) else some ((followS es c []).1,(followS es c []).2.2,0)
theorem followF_prog {c:Cache} (hf:Fit c) {es:List CacheEvent} (hsd:∀ e∈es,smallStrs e.Digests):cache_Follow.f c es=followF c es:=by
  unfold cache_Follow.f cache_follow.f followF
  rw [check_prog hf.small]
  obtain ⟨f,e1⟩:=cacheS_some c
  rw [e1]
  simp only [Option.bind_some]
  cases h0:f != 0
  · have hz:f=0:=by simpa using h0
    subst hz
    have ok:=cacheS_ok e1
    simp only [cond_false]
    cases hl:decide (3000<(es.length:Int))
    · have hlen:es.length≤3000:=by have:=of_decide_eq_false hl; omega
      simp only [cond_false,own_id hf.fb hf.fe hf.fr,Option.bind_some]
      have e2:=follow_loop hlen hsd es big 0 c [] rfl (by omega) ok (by simp) (by unfold big; omega)
      rw [show ((0:Nat):Int)=0 from rfl] at e2
      rw [e2]
      simp only [Option.bind_some]
    · rfl
  · simp only [cond_true,Option.bind_some,h0]
theorem followF_cases (c:Cache) (es:List CacheEvent):(∃ f,f≠0∧followF c es=some ((⟨0,0,[],[]⟩:Cache),[],f))∨(OkCache c∧es.length≤3000∧(followS es c []).2.1=0∧OkCache (followS es c []).1∧followF c es=some ((followS es c []).1,(followS es c []).2.2,0)):=by
  unfold followF
  obtain ⟨f,e1⟩:=cacheS_some c
  rw [e1]
  simp only [Option.bind_some]
  cases h0:f != 0
  · have hz:f=0:=by simpa using h0
    subst hz
    have ok:=cacheS_ok e1
    cases hl:decide (3000<(es.length:Int))
    · have hlen:es.length≤3000:=by have:=of_decide_eq_false hl; omega
      cases hq:(followS es c []).2.1 != 0
      · have hq0:(followS es c []).2.1=0:=by simpa using hq
        exact .inr ⟨ok,hlen,hq0,((follow_peak es c [] 0 ok).2.2 hq0).1,rfl⟩
      · exact .inl ⟨_,by simpa using hq,rfl⟩
    · exact .inl ⟨2,by decide,rfl⟩
  · exact .inl ⟨f,by simpa using h0,rfl⟩
end Go.Proofs.YtkjilepjblffeaaDoor
