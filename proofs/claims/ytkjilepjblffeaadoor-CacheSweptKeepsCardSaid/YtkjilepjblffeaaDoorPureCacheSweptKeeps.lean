/- CacheSweptKeeps over plain data: what is swept is a right cache, swept once more it is the same, and entries of roots that were whole are. -/
import Derived.Test.YtkjilepjblffeaaDoorPFit
import Derived.Test.YtkjilepjblffeaaDoorPureSCacheSweptKeeps
set_option linter.unusedVariables false
set_option linter.unusedSimpArgs false
namespace Go.Proofs.YtkjilepjblffeaaDoor
open Go Go.Proofs.YtkjilepjblffeaaDoor.Kit
theorem fit_of {c : Cache} (h : fitCache c) : Fit c := by
  obtain ⟨-, -, ⟨h3, h3'⟩, ⟨h4, h4'⟩⟩ := h
  exact fit_raw h3 (fun x hx => (h3' x hx).1) h4 (fun x hx => ⟨(h4' x hx).1, (h4' x hx).2.1.1, (h4' x hx).2.1.2⟩)
theorem CacheSweptKeeps_pure : CacheSweptKeeps_Pure := by
  intro c roots t hc hroots ht
  have hf := fit_of hc
  obtain ⟨hrs, hrl⟩ := strs_raw hroots.1 hroots.2
  unfold smithyardlaw7_CacheSweptKeeps.f
  rw [swept_prog hf hrs]
  unfold sweptS
  obtain ⟨f0, hf0⟩ := cacheS_some c
  have hck : ∃ f, checkAtS c t = some f ∧ (f = 0 → cacheS c = some 0 ∧ inR 0 1000000000 t = true) := by
    unfold checkAtS
    rw [hf0]
    simp only [Option.bind_some]
    cases h : f0 != 0
    · have : f0 = 0 := by simpa using h
      subst this
      cases hi : inR 0 1000000000 t
      · exact ⟨1, rfl, fun h => by cases h⟩
      · exact ⟨0, rfl, fun _ => ⟨rfl, rfl⟩⟩
    · exact ⟨f0, rfl, fun h2 => by subst h2; simp at h⟩
  obtain ⟨f, hf1, hf2⟩ := hck
  have hdg : ∃ g, digestsS roots 3000 = some g ∧ (g = 0 → okRefs roots) := by
    unfold digestsS
    cases hd : decide ((3000 : Int) < (roots.length : Int))
    · obtain ⟨g, hg⟩ := refsS_some roots
      exact ⟨g, by simp [hg], fun h => refsS_ok (by rw [hg, h])⟩
    · exact ⟨2, rfl, fun h => by cases h⟩
  obtain ⟨g, hg1, hg2⟩ := hdg
  rw [hf1, hg1]
  simp only [Option.bind_some]
  cases h0 : f != 0
  · have hz : f = 0 := by simpa using h0
    subst hz
    obtain ⟨hcs, hin⟩ := hf2 rfl
    have ok := cacheS_ok hcs
    simp only [cond_false]
    cases h1 : g != 0
    · have hz : g = 0 := by simpa using h1
      subst hz
      have okr := hg2 rfl
      simp only [cond_false, Option.bind_some, bne_self_eq_false]
      have ok2 : OkCache (sweptC c roots t) := ok_filter ok _ _
      have hf2 := ok2.fit
      obtain ⟨a1, a2⟩ := swept_again c roots t
      have e2 : cache_Swept.f (⟨(sweptC c roots t).Room, (sweptC c roots t).Lease, (sweptC c roots t).Blobs, (sweptC c roots t).Entries⟩ : Cache) roots t = some (sweptC c roots t, [], 0) := by
        show cache_Swept.f (sweptC c roots t) roots t = _
        rw [swept_prog hf2 hrs]
        unfold sweptS checkAtS
        rw [ok2.check, hg1, hin, a1, a2]
        rfl
      have e3 : smithyardref7_Same.f (⟨(sweptC c roots t).Room, (sweptC c roots t).Lease, (sweptC c roots t).Blobs, (sweptC c roots t).Entries⟩ : Cache) (⟨(sweptC c roots t).Room, (sweptC c roots t).Lease, (sweptC c roots t).Blobs, (sweptC c roots t).Entries⟩ : Cache) = some true := same_self (c := sweptC c roots t) hf2.small
      rw [e2]
      simp only [Option.bind_some, bne_self_eq_false, cond_false, e3, Bool.not_true]
      have hlen : (sweptC c roots t).Blobs.length + (goneS c roots t).length = c.Blobs.length := by
        unfold goneS sweptC
        rw [List.length_map]
        exact filter_two (keepB c roots t) c.Blobs
      have hbl := ok.bl
      have e4 : ((w64 (((sweptC c roots t).Blobs.length : Int) + ((goneS c roots t).length : Int))) != (c.Blobs.length : Int)) = false := by
        rw [w64_id (by omega) (by omega), ← hlen]
        simp
      rw [e4]
      simp only [List.length_nil]
      rw [decide_eq_false (by omega)]
      simp only [cond_false, Option.bind_some]
      refine selfLoop (L := fun k v => smithyardlaw7_CacheSweptKeeps.l2 smithyardlaw7_CacheSweptKeeps.e1 k c roots (sweptC c roots t, goneS c roots t, 0) v) (n := roots.length) (by omega) (fun k v v0 v1 => ?_) (fun k => ?_)
      · obtain ⟨hn, hat⟩ := at?_get (xs := roots) v0 v1
        have hm := List.getElem_mem hn
        have e5 : cache_Whole.f (⟨(sweptC c roots t).Room, (sweptC c roots t).Lease, (sweptC c roots t).Blobs, (sweptC c roots t).Entries⟩ : Cache) roots[v.toNat] = some (wholeB c roots[v.toNat], 0) := by
          have := whole_prog hf2 ok2 roots[v.toNat]
          rw [okr.1 _ hm, swept_whole hm] at this
          exact this
        have e6 : cache_Whole.f c roots[v.toNat] = some (wholeB c roots[v.toNat], 0) := by
          have := whole_prog hf ok roots[v.toNat]
          rw [okr.1 _ hm] at this
          exact this
        simp only [smithyardlaw7_CacheSweptKeeps.l2, decide_eq_true v1, cond_true, hat, Option.bind_some, e5, e6, bne_self_eq_false, cond_false, beq_self_eq_true, Bool.not_true]
        rw [w64_id (by omega) (by omega)]
      · simp only [smithyardlaw7_CacheSweptKeeps.l2, decide_eq_false (Int.lt_irrefl _), cond_false, smithyardlaw7_CacheSweptKeeps.e1, awake7, Option.bind_some]
    · simp only [cond_true, Option.bind_some, h1, zeroC, awake7]
      rfl
  · simp only [cond_true, Option.bind_some, h0, zeroC, awake7]
    rfl
end Go.Proofs.YtkjilepjblffeaaDoor
