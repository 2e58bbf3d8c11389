/- Caches: what two caches merged come to, the plain law of both sides. -/
import Derived.Test.YtjdnnkdhajhdkaaGreatDoorPRef7
set_option linter.unusedVariables false
set_option linter.unusedSimpArgs false
namespace Go.Proofs.YtjdnnkdhajhdkaaGreatDoor
open Go Go.Proofs.YtjdnnkdhajhdkaaGreatDoor.Kit
def insAt {α:Type} (l:List α) (p:Nat) (x:α):List α:=l.take p++[x]++l.drop p
theorem ins_len {α:Type} {l:List α} {p:Nat} {x:α}:(insAt l p x).length=l.length+1:=by
  unfold insAt
  simp
  omega
theorem ins_mem {α:Type} {l:List α} {p:Nat} {x y:α} (h:y∈insAt l p x):y=x∨y∈l:=by
  unfold insAt at h
  rcases List.mem_append.1 h with h | h
  · rcases List.mem_append.1 h with h | h
    · exact .inr (List.mem_of_mem_take h)
    · exact .inl (by simpa using h)
  · exact .inr (List.mem_of_mem_drop h)
theorem ins_srt {α:Type} {key:α→ByteArray} {l:List α} {x:α} (hs:l.Pairwise (fun a b=>sLt (key a) (key b)=true)) (hn:l.any (fun y=>sEq (key y) (key x))=false) :
    (insAt l (placeOf key l (key x)) x).Pairwise (fun a b=>sLt (key a) (key b)=true):=by
  have hp:=placeOf_le (key:=key) l (key x)
  have hA:∀ y∈l.take (placeOf key l (key x)),sLt (key y) (key x)=true:=by
    intro y hy
    obtain ⟨n,hn,e⟩:=List.mem_iff_getElem.1 hy
    rw [List.getElem_take] at e
    rw [← e]
    have:n<placeOf key l (key x):=by simp at hn; omega
    exact placeOf_lt l _ n (by omega) this
  have hB:∀ y∈l.drop (placeOf key l (key x)),sLt (key x) (key y)=true:=by
    intro y hy
    obtain ⟨n,hn',e⟩:=List.mem_iff_getElem.1 hy
    rw [List.getElem_drop] at e
    have hlt:placeOf key l (key x)+n<l.length:=by simp at hn'; omega
    have h1:=placeOf_ge (key:=key) l (key x) hs (placeOf key l (key x)+n) hlt (by omega)
    rw [e] at h1
    have hm:y∈l:=by rw [← e]; exact List.getElem_mem hlt
    have h2:sEq (key y) (key x)=false:=by
      cases hc:sEq (key y) (key x)
      · rfl
      · rw [List.any_eq_true.2 ⟨y,hm,hc⟩] at hn; cases hn
    exact sLt_total (by rw [h1,h2]; rfl)
  unfold insAt
  refine List.pairwise_append.2 ⟨List.pairwise_append.2 ⟨hs.sublist (List.take_sublist _ _),List.pairwise_singleton _ _,fun a ha b hb=>?_⟩,hs.sublist (List.drop_sublist _ _),fun a ha b hb=>?_⟩
  · simp only [List.mem_singleton] at hb
    subst hb
    exact hA a ha
  · rcases List.mem_append.1 ha with ha | ha
    · exact sLt_trans (hA a ha) (hB b hb)
    · simp only [List.mem_singleton] at ha
      subst ha
      exact hB b hb
theorem set_srt {α:Type} {key:α→ByteArray} {l:List α} {p:Nat} {y z:α} (hs:l.Pairwise (fun a b=>sLt (key a) (key b)=true)) (hy:l[p]? = some y) (hk:key z=key y) :
    (l.set p z).Pairwise (fun a b=>sLt (key a) (key b)=true):=by
  have e:(l.set p z).map key=l.map key:=by
    apply List.ext_getElem?
    intro n
    rw [List.getElem?_map,List.getElem?_map,List.getElem?_set]
    by_cases h:p=n
    · subst h
      have hl:p<l.length:=by
        rcases Nat.lt_or_ge p l.length with h | h
        · exact h
        · rw [List.getElem?_eq_none h] at hy; cases hy
      simp [hl,hy,hk]
      rw [List.getElem?_eq_getElem hl] at hy
      injection hy with hy
      rw [hy]
    · simp [h]
  have h1:(l.map key).Pairwise (fun a b=>sLt a b=true):=List.pairwise_map.2 hs
  rw [← e] at h1
  exact List.pairwise_map.1 h1
theorem scan {α β:Type} {xs:List α} {c:α→Bool} {L:Nat→Int→Option β} {E:Int→Option β} (hlen:xs.length≤4611686018427387904)
    (hL:∀ k v,L (k+1) v=((bif decide (v<(xs.length:Int)) then ((at? xs v).bind fun x=>some (c x)) else some false).bind fun t=>bif t then L k (w64 (v+1)) else E v)) :
    ∀ (l:List α) (k v:Nat),xs.drop v=l→v≤xs.length→l.length<k→L k v=E (((v+(l.takeWhile c).length:Nat)):Int):=by
  intro l
  induction l with
  | nil =>
    intro k v h1 h2 h3
    obtain ⟨k,rfl⟩:∃ m,k=m+1:=⟨k - 1,by omega⟩
    have hv:xs.length≤v:=List.drop_eq_nil_iff.1 h1
    rw [hL,decide_eq_false (by omega)]
    simp
  | cons x l ih =>
    intro k v h1 h2 h3
    simp only [List.length_cons] at h3
    obtain ⟨k,rfl⟩:∃ m,k=m+1:=⟨k - 1,by omega⟩
    have hv:v<xs.length:=by
      rcases Nat.lt_or_ge v xs.length with h | h
      · exact h
      · rw [List.drop_eq_nil_of_le h] at h1; cases h1
    rw [List.drop_eq_getElem_cons hv] at h1
    injection h1 with g1 g2
    have hw:w64 ((v:Int)+1)=((v+1:Nat):Int):=by rw [w64_id (by omega) (by omega)]; omega
    rw [hL,decide_eq_true (by omega),at_nat hv,g1]
    simp only [cond_true,Option.bind_some,hw]
    rw [List.takeWhile_cons]
    cases hc:c x
    · simp
    · simp only [cond_true,if_true,List.length_cons]
      rw [ih k (v+1) g2 (by omega) (by omega)]
      congr 1
      omega
theorem scan0 {α β:Type} {xs:List α} {key:α→ByteArray} {d:ByteArray} {L:Nat→Int→Option β} {E:Int→Option β} (hlen:xs.length≤4611686018427387904)
    (hL:∀ k v,L (k+1) v=((bif decide (v<(xs.length:Int)) then ((at? xs v).bind fun x=>some (sLt (key x) d)) else some false).bind fun t=>bif t then L k (w64 (v+1)) else E v)) :
    L big 0=E ((placeOf key xs d:Nat):Int):=by
  have h:=scan (c:=fun x=>sLt (key x) d) hlen hL xs big 0 rfl (by omega) (by unfold big; omega)
  simpa [placeOf] using h
theorem mem_set_or {α:Type} {l:List α} {p:Nat} {y z:α} (h:y∈l.set p z):y=z∨y∈l:=by
  rcases List.mem_or_eq_of_mem_set h with h | h
  · exact .inr h
  · exact .inl h
end Go.Proofs.YtjdnnkdhajhdkaaGreatDoor
