/- Caches: what two caches merged come to, the plain law of both sides. -/
import Derived.Test.YtiecpfnjmlidbaaGreatDoorPRef7
set_option linter.unusedVariables false
set_option linter.unusedSimpArgs false
namespace Go.Proofs.YtiecpfnjmlidbaaGreatDoor
open Go Go.Proofs.YtiecpfnjmlidbaaGreatDoor.Kit
def aq7 {α:Type} (l:List α) (p:Nat) (x:α):List α:=l.take p++[x]++l.drop p
theorem bF2 {α:Type} {l:List α} {p:Nat} {x:α}:(aq7 l p x).length=l.length+1:=by
  unfold aq7
  simp
  omega
theorem bF3 {α:Type} {l:List α} {p:Nat} {x y:α} (h:y∈aq7 l p x):y=x∨y∈l:=by
  unfold aq7 at h
  rcases List.mem_append.1 h with h | h
  · rcases List.mem_append.1 h with h | h
    · exact .inr (List.mem_of_mem_take h)
    · exact .inl (by simpa using h)
  · exact .inr (List.mem_of_mem_drop h)
theorem co0 {α:Type} {key:α→ByteArray} {l:List α} {x:α} (hs:l.Pairwise (fun a b=>x9 (key a) (key b)=true)) (hn:l.any (fun y=>p4 (key y) (key x))=false) :
    (aq7 l (placeOf key l (key x)) x).Pairwise (fun a b=>x9 (key a) (key b)=true):=by
  have hp:=aO7 (key:=key) l (key x)
  have hA:∀ y∈l.take (placeOf key l (key x)),x9 (key y) (key x)=true:=by
    intro y hy
    obtain ⟨n,hn,e⟩:=List.mem_iff_getElem.1 hy
    rw [List.getElem_take] at e
    rw [← e]
    have:n<placeOf key l (key x):=by simp at hn; omega
    exact bh3 l _ n (by omega) this
  have hB:∀ y∈l.drop (placeOf key l (key x)),x9 (key x) (key y)=true:=by
    intro y hy
    obtain ⟨n,hn',e⟩:=List.mem_iff_getElem.1 hy
    rw [List.getElem_drop] at e
    have hlt:placeOf key l (key x)+n<l.length:=by simp at hn'; omega
    have h1:=bp5 (key:=key) l (key x) hs (placeOf key l (key x)+n) hlt (by omega)
    rw [e] at h1
    have hm:y∈l:=by rw [← e]; exact List.getElem_mem hlt
    have h2:p4 (key y) (key x)=false:=by
      cases hc:p4 (key y) (key x)
      · rfl
      · rw [List.any_eq_true.2 ⟨y,hm,hc⟩] at hn; cases hn
    exact cp8 (by rw [h1,h2]; rfl)
  unfold aq7
  refine List.pairwise_append.2 ⟨List.pairwise_append.2 ⟨hs.sublist (List.take_sublist _ _),List.pairwise_singleton _ _,fun a ha b hb=>?_⟩,hs.sublist (List.drop_sublist _ _),fun a ha b hb=>?_⟩
  · simp only [List.mem_singleton] at hb
    subst hb
    exact hA a ha
  · rcases List.mem_append.1 ha with ha | ha
    · exact bD4 (hA a ha) (hB b hb)
    · simp only [List.mem_singleton] at ha
      subst ha
      exact hB b hb
theorem cn9 {α:Type} {key:α→ByteArray} {l:List α} {p:Nat} {y z:α} (hs:l.Pairwise (fun a b=>x9 (key a) (key b)=true)) (hy:l[p]? = some y) (hk:key z=key y) :
    (l.set p z).Pairwise (fun a b=>x9 (key a) (key b)=true):=by
  have e:(l.set p z).map key=l.map key:=by
    apply List.ext_getElem?
    intro n
    rw [List.getElem?_map,List.getElem?_map,List.getElem?_set]
    by_cases h:p=n
    · subst h
      have hl:p<l.length:=by
        rcases Nat.lt_or_ge p l.length with h | h
        · exact h
        · rw [List.getElem?_eq_none h] at hy; cases hy
      simp [hl,hy,hk]
      rw [List.getElem?_eq_getElem hl] at hy
      injection hy with hy
      rw [hy]
    · simp [h]
  have h1:(l.map key).Pairwise (fun a b=>x9 a b=true):=List.pairwise_map.2 hs
  rw [← e] at h1
  exact List.pairwise_map.1 h1
theorem scan {α β:Type} {xs:List α} {c:α→Bool} {L:Nat→Int→Option β} {E:Int→Option β} (hlen:xs.length≤4611686018427387904)
    (hL:∀ k v,L (k+1) v=((bif decide (v<(xs.length:Int)) then ((o7 xs v).bind fun x=>some (c x)) else some false).bind fun t=>bif t then L k (c5 (v+1)) else E v)) :
    ∀ (l:List α) (k v:Nat),xs.drop v=l→v≤xs.length→l.length<k→L k v=E (((v+(l.takeWhile c).length:Nat)):Int):=by
  intro l
  induction l with
  | nil =>
    intro k v h1 h2 h3
    obtain ⟨k,rfl⟩:∃ m,k=m+1:=⟨k - 1,by omega⟩
    have hv:xs.length≤v:=List.drop_eq_nil_iff.1 h1
    rw [hL,decide_eq_false (by omega)]
    simp
  | cons x l ih =>
    intro k v h1 h2 h3
    simp only [List.length_cons] at h3
    obtain ⟨k,rfl⟩:∃ m,k=m+1:=⟨k - 1,by omega⟩
    have hv:v<xs.length:=by
      rcases Nat.lt_or_ge v xs.length with h | h
      · exact h
      · rw [List.drop_eq_nil_of_le h] at h1; cases h1
    rw [List.drop_eq_getElem_cons hv] at h1
    injection h1 with g1 g2
    have hw:c5 ((v:Int)+1)=((v+1:Nat):Int):=by rw [B7 (by omega) (by omega)]; omega
    rw [hL,decide_eq_true (by omega),Z6 hv,g1]
    simp only [cond_true,Option.bind_some,hw]
    rw [List.takeWhile_cons]
    cases hc:c x
    · simp
    · simp only [cond_true,if_true,List.length_cons]
      rw [ih k (v+1) g2 (by omega) (by omega)]
      congr 1
      omega
theorem cp9 {α β:Type} {xs:List α} {key:α→ByteArray} {d:ByteArray} {L:Nat→Int→Option β} {E:Int→Option β} (hlen:xs.length≤4611686018427387904)
    (hL:∀ k v,L (k+1) v=((bif decide (v<(xs.length:Int)) then ((o7 xs v).bind fun x=>some (x9 (key x) d)) else some false).bind fun t=>bif t then L k (c5 (v+1)) else E v)) :
    L n8 0=E ((placeOf key xs d:Nat):Int):=by
  have h:=scan (c:=fun x=>x9 (key x) d) hlen hL xs n8 0 rfl (by omega) (by unfold n8; omega)
  simpa [placeOf] using h
theorem bq2 {α:Type} {l:List α} {p:Nat} {y z:α} (h:y∈l.set p z):y=z∨y∈l:=by
  rcases List.mem_or_eq_of_mem_set h with h | h
  · exact .inr h
  · exact .inl h
end Go.Proofs.YtiecpfnjmlidbaaGreatDoor
