/- Caches: what two caches merged come to, by the reference; and what both sides say alike. -/
import Derived.Test.YtkjilepjblffeaaDoorPMgd
set_option linter.unusedVariables false
set_option linter.unusedSimpArgs false
namespace Go.Proofs.YtkjilepjblffeaaDoor
open Go Go.Proofs.YtkjilepjblffeaaDoor.Kit
theorem guard2 {a b : Bool} {α : Type} {x : Option α} (ha : a = true) (hb : b = true) : guard? (a && b) x = x := by rw [ha, hb]; rfl
theorem ents_rf {c d : Cache} {bl : List Blob} {n : Nat} (hb : IB bl n) (hn : n ≤ 3000) (hd : OkCache d) : ∀ (l : List Entry) (k v : Nat) (es : List Entry), d.Entries.drop v = l → v ≤ d.Entries.length → IE es v → l.length < k →
    smithyardref7_Merged.l3 smithyardref7_Merged.e2 k c d bl es (v : Int) = finM c bl (mE l es) := by
  intro l
  induction l with
  | nil =>
    intro k v es h1 h2 h3 h5
    have hel := hd.el
    obtain ⟨k, rfl⟩ : ∃ m, k = m + 1 := ⟨k - 1, by omega⟩
    have hv : d.Entries.length ≤ v := List.drop_eq_nil_iff.1 h1
    rw [smithyardref7_Merged.l3, decide_eq_false (by omega), cond_false, smithyardref7_Merged.e2, check_ref (small_of hb h3 hn (by omega))]
    rfl
  | cons x l ih =>
    intro k v es h1 h2 h3 h5
    have hel := hd.el
    simp only [List.length_cons] at h5
    obtain ⟨k, rfl⟩ : ∃ m, k = m + 1 := ⟨k - 1, by omega⟩
    have hv : v < d.Entries.length := by
      rcases Nat.lt_or_ge v d.Entries.length with h | h
      · exact h
      · rw [List.drop_eq_nil_of_le h] at h1; cases h1
    rw [List.drop_eq_getElem_cons hv] at h1
    injection h1 with g1 g2
    have hm := List.getElem_mem hv
    rw [g1] at hm
    obtain ⟨x1, x2, x3, _⟩ := hd.ee x hm
    have hx : x.Key.size = 16 ∧ x.Refs.length ≤ 200 ∧ ∀ y ∈ x.Refs, y.size = 16 := ⟨dig_size x1, x2, fun y hy => dig_size (x3.1 y hy)⟩
    have hw : w64 ((v : Int) + 1) = ((v + 1 : Nat) : Int) := by rw [w64_id (by omega) (by omega)]; omega
    have hinv := stepE_inv h3 hx
    have hl := h3.1
    have hp := placeOf_le (key := fun y : Entry => y.Key) es x.Key
    rw [smithyardref7_Merged.l3, decide_eq_true (by omega), at_nat hv, g1]
    simp only [cond_true, Option.bind_some]
    rw [scan0 (xs := es) (key := fun y : Entry => y.Key) (d := x.Key) (L := fun k' v' => smithyardref7_Merged.l6 (smithyardref7_Merged.e4 (smithyardref7_Merged.l3 smithyardref7_Merged.e2 k)) k' c d bl es (v : Int) x v') (E := smithyardref7_Merged.e4 (smithyardref7_Merged.l3 smithyardref7_Merged.e2 k) c d bl es (v : Int) x) (by omega) (fun k v' => by rw [smithyardref7_Merged.l6])]
    rw [smithyardref7_Merged.e4, at_here (key := fun y : Entry => y.Key) h3.2.1]
    simp only [Option.bind_some, smithyardref7_Merged.j5, hw]
    show _ = finM c bl (mE l (stepE es x))
    rw [← ih k (v + 1) (stepE es x) g2 (by omega) hinv (by omega)]
    cases ha : es.any (fun y => sEq y.Key x.Key)
    · simp only [cond_false, stepE, ha, Int.toNat_natCast, List.nil_append]
      rw [guard2 (decide_eq_true (by omega)) (decide_eq_true (by omega)), guard?_true (room_of (by omega)), guard?_true (room_of (by simp; omega)), guard2 (decide_eq_true (by omega)) (decide_eq_true (by omega)), guard?_true (room_of (by simp; omega))]
      rfl
    · obtain ⟨y, hy, hym, hye, hyg⟩ := placeOf_get (key := fun y : Entry => y.Key) h3.2.1 ha
      simp only [cond_true, stepE, ha, hy, Option.bind_some, hyg, Int.toNat_natCast, mergeE]
theorem blobs_rf {c d : Cache} (hc : OkCache c) (hd : OkCache d) : ∀ (l : List Blob) (k v : Nat) (bl : List Blob), d.Blobs.drop v = l → v ≤ d.Blobs.length → IB bl v → l.length < k →
    smithyardref7_Merged.l7 smithyardref7_Merged.e1 k c d bl (v : Int) = match mB l bl with | none => some ((⟨0, 0, [], []⟩ : Cache), 12) | some b => finM c b (mE d.Entries c.Entries) := by
  have hIE : IE c.Entries 0 := ⟨hc.el, hc.es, fun x hx => by obtain ⟨x1, x2, x3, _⟩ := hc.ee x hx; exact ⟨dig_size x1, x2, fun y hy => dig_size (x3.1 y hy)⟩⟩
  intro l
  induction l with
  | nil =>
    intro k v bl h1 h2 h3 h5
    have hbl := hd.bl
    obtain ⟨k, rfl⟩ : ∃ m, k = m + 1 := ⟨k - 1, by omega⟩
    have hv : d.Blobs.length ≤ v := List.drop_eq_nil_iff.1 h1
    rw [smithyardref7_Merged.l7, decide_eq_false (by omega), cond_false, smithyardref7_Merged.e1]
    exact ents_rf h3 (by omega) hd d.Entries big 0 c.Entries rfl (by omega) hIE (by have := hd.el; unfold big; omega)
  | cons x l ih =>
    intro k v bl h1 h2 h3 h5
    have hbl := hd.bl
    simp only [List.length_cons] at h5
    obtain ⟨k, rfl⟩ : ∃ m, k = m + 1 := ⟨k - 1, by omega⟩
    have hv : v < d.Blobs.length := by
      rcases Nat.lt_or_ge v d.Blobs.length with h | h
      · exact h
      · rw [List.drop_eq_nil_of_le h] at h1; cases h1
    rw [List.drop_eq_getElem_cons hv] at h1
    injection h1 with g1 g2
    have hm := List.getElem_mem hv
    rw [g1] at hm
    have hx := dig_size (hd.be x hm).1
    have hw : w64 ((v : Int) + 1) = ((v + 1 : Nat) : Int) := by rw [w64_id (by omega) (by omega)]; omega
    have hinv := fun b e => stepB_inv (b := b) h3 hx e
    have hl := h3.1
    have hp := placeOf_le (key := fun y : Blob => y.Digest) bl x.Digest
    rw [smithyardref7_Merged.l7, decide_eq_true (by omega), at_nat hv, g1]
    simp only [cond_true, Option.bind_some]
    rw [scan0 (xs := bl) (key := fun y : Blob => y.Digest) (d := x.Digest) (L := fun k' v' => smithyardref7_Merged.l10 (smithyardref7_Merged.e8 (smithyardref7_Merged.l7 smithyardref7_Merged.e1 k)) k' c d bl (v : Int) x v') (E := smithyardref7_Merged.e8 (smithyardref7_Merged.l7 smithyardref7_Merged.e1 k) c d bl (v : Int) x) (by omega) (fun k v' => by rw [smithyardref7_Merged.l10])]
    rw [smithyardref7_Merged.e8, at_here (key := fun y : Blob => y.Digest) h3.2.1]
    simp only [Option.bind_some, smithyardref7_Merged.j9, hw, mB]
    cases ha : bl.any (fun y => sEq y.Digest x.Digest)
    · have e : stepB bl x = some (insAt bl (placeOf (fun y : Blob => y.Digest) bl x.Digest) x) := by unfold stepB; rw [ha]; rfl
      rw [e]
      simp only [cond_false, Option.bind_some, Int.toNat_natCast, List.nil_append]
      rw [← ih k (v + 1) _ g2 (by omega) (hinv _ e) (by omega)]
      rw [guard2 (decide_eq_true (by omega)) (decide_eq_true (by omega)), guard?_true (room_of (by omega)), guard?_true (room_of (by simp; omega)), guard2 (decide_eq_true (by omega)) (decide_eq_true (by omega)), guard?_true (room_of (by simp; omega))]
      rfl
    · obtain ⟨y, hy, hym, hye, hyg⟩ := placeOf_get (key := fun y : Blob => y.Digest) h3.2.1 ha
      simp only [cond_true, hy, Option.bind_some, Int.toNat_natCast]
      have hlt : placeOf (fun y : Blob => y.Digest) bl x.Digest < bl.length := by
        rcases Nat.lt_or_ge (placeOf (fun y : Blob => y.Digest) bl x.Digest) bl.length with h | h
        · exact h
        · rw [List.getElem?_eq_none h] at hyg; cases hyg
      have hset : ∀ z : Blob, at? (bl.set (placeOf (fun y : Blob => y.Digest) bl x.Digest) z) ((placeOf (fun y : Blob => y.Digest) bl x.Digest : Nat) : Int) = some z := fun z => by
        rw [at_nat (by rw [List.length_set]; exact hlt)]
        simp
      cases hz : y.Size != x.Size
      · have e : stepB bl x = some (bl.set (placeOf (fun y : Blob => y.Digest) bl x.Digest) (mergeB y x)) := by unfold stepB; rw [ha, cond_true, hyg]; simp only [hz, cond_false]
        rw [e]
        simp only [cond_false, Option.bind_some, hset, List.set_set]
        rw [← ih k (v + 1) _ g2 (by omega) (hinv _ e) (by omega)]
        rfl
      · have e : stepB bl x = none := by unfold stepB; rw [ha, cond_true, hyg]; simp only [hz, cond_true]
        rw [e]
        rfl
theorem mergedR {c d : Cache} (hf : Fit c) (hg : Fit d) : smithyardref7_Merged.f c d = mergedS c d := by
  unfold smithyardref7_Merged.f mergedS
  rw [check_ref hf.small, check_ref hg.small, copied_ref hf, copied_ref hg]
  obtain ⟨f1, e1⟩ := cacheS_some c
  obtain ⟨f2, e2⟩ := cacheS_some d
  rw [e1, e2]
  simp only [Option.bind_some]
  by_cases z1 : f1 = 0
  · by_cases z2 : f2 = 0
    · subst z1
      subst z2
      have hc := cacheS_ok e1
      have hd := cacheS_ok e2
      exact blobs_rf hc hd d.Blobs big 0 c.Blobs rfl (by omega) ⟨hc.bl, hc.bs, fun x hx => dig_size (hc.be x hx).1⟩ (by have := hd.bl; unfold big; omega)
    · have : (f2 != 0) = true := by simp [z2]
      rw [this]
      cases f1 != 0 <;> rfl
  · have : (f1 != 0) = true := by simp [z1]
    rw [this]
    rfl
/-- A merge has an answer, and it is a sound cache or the empty one. -/
theorem mergedS_some (c d : Cache) : ∃ r, mergedS c d = some r ∧ (r.2 = 0 → OkCache r.1) ∧ (r.1 = ⟨0, 0, [], []⟩ ∨ OkCache r.1) := by
  unfold mergedS
  obtain ⟨f1, e1⟩ := cacheS_some c
  obtain ⟨f2, e2⟩ := cacheS_some d
  rw [e1, e2]
  simp only [Option.bind_some]
  cases z1 : f1 != 0
  · cases z2 : f2 != 0
    · simp only [cond_false]
      cases mB d.Blobs c.Blobs with
      | none => exact ⟨_, rfl, fun h => absurd h (by decide), .inl rfl⟩
      | some bl =>
        simp only [finM]
        obtain ⟨f, e⟩ := cacheS_some ⟨c.Room, c.Lease, bl, mE d.Entries c.Entries⟩
        rw [e]
        simp only [Option.bind_some]
        cases z : f != 0
        · have : f = 0 := by simpa using z
          subst this
          exact ⟨_, rfl, fun _ => cacheS_ok e, .inr (cacheS_ok e)⟩
        · exact ⟨_, rfl, fun h => absurd h (by simpa using z), .inl rfl⟩
    · exact ⟨_, rfl, fun h => absurd h (by simpa using z2), .inl rfl⟩
  · exact ⟨_, rfl, fun h => absurd h (by simpa using z1), .inl rfl⟩
theorem small_empty : smallCache ⟨0, 0, [], []⟩ := ⟨⟨by simp, fun x hx => by cases hx⟩, ⟨by simp, fun x hx => by cases hx⟩⟩
end Go.Proofs.YtkjilepjblffeaaDoor
