/- CacheShrunkKeeps over plain data: in the room that is used nothing goes; in any room at most that is used, and all that is held stays. -/
import Derived.Test.YtkjilepjblffeaaDoorPLea
import Derived.Test.YtkjilepjblffeaaDoorPureSCacheShrunkKeeps
set_option linter.unusedVariables false
set_option linter.unusedSimpArgs false
namespace Go.Proofs.YtkjilepjblffeaaDoor
open Go Go.Proofs.YtkjilepjblffeaaDoor.Kit
theorem fit_of {c : Cache} (h : fitCache c) : Fit c := by
  obtain ⟨-, -, ⟨h3, h3'⟩, ⟨h4, h4'⟩⟩ := h
  exact fit_raw h3 (fun x hx => (h3' x hx).1) h4 (fun x hx => ⟨(h4' x hx).1, (h4' x hx).2.1.1, (h4' x hx).2.1.2⟩)
theorem CacheShrunkKeeps_pure : CacheShrunkKeeps_Pure := by
  intro c room t hc hroom ht
  have hf := fit_of hc
  unfold smithyardlaw7_CacheShrunkKeeps.f
  rw [usedC_prog hf]
  unfold usedS7
  obtain ⟨f, e1⟩ := cacheS_some c
  rw [e1]
  simp only [Option.bind_some]
  cases h0 : f != 0
  · have hz : f = 0 := by simpa using h0
    subst hz
    have ok := cacheS_ok e1
    have hs0 := sumI_nn c.Blobs (fun x hx => (ok.sz x hx).1)
    have hs1 : sumI c.Blobs ≤ 1000000000 := by have := ok.sumI; have := ok.sum; have := ok.room1; omega
    have hlea0 := sumI_nn (leavingS c t) (fun x hx => (leaving_sz ok.sz t x hx).1)
    simp only [cond_false, bne_self_eq_false, shrunk_prog hf, Option.bind_some, next_prog hf]
    unfold shrunkS nextS
    obtain ⟨g, k1, k2, k3⟩ := checkAtS_cases c t
    rw [k1]
    simp only [Option.bind_some]
    cases hg : g != 0
    · have hz : g = 0 := by simpa using hg
      subst hz
      have hin : inR 0 1000000000 (sumI c.Blobs) = true := by simp [inR]; omega
      have hcl1 : clearS c (sumI c.Blobs) t = ([], true, dropC c []) := by
        unfold clearS goneD goneL
        rw [decide_eq_false (by omega), goN_zero _ _ (by omega)]
        rfl
      simp only [cond_false, hin, Bool.not_true, hcl1, Option.bind_some, beq_self_eq_true, cond_true, List.length_nil]
      rw [decide_eq_false (by omega)]
      simp only [cond_false]
      cases hr : inR 0 1000000000 room
      · simp only [Bool.not_false, cond_true, Option.bind_some]
        rfl
      · simp [inR] at hr
        simp only [Bool.not_true, cond_false]
        cases hcv : decide (sumI (leavingS c t) < sumI c.Blobs - room)
        · have hcl2 : clearS c room t = (goneD c room t, true, dropC c (goneD c room t)) := by unfold clearS; rw [hcv]; rfl
          simp only [hcl2, Bool.not_true, cond_false, Option.bind_some, bne_self_eq_false]
          have hle : sumI c.Blobs - room ≤ sumI (leavingS c t) := by have := of_decide_eq_false hcv; omega
          have hgs := goN_sum (leavingS c t) (sumI c.Blobs - room) hle (fun x hx => (leaving_sz ok.sz t x hx).1)
          have hds := drop_sum ok.bs room t
          have ok2 : OkCache (⟨room, c.Lease, (dropC c (goneD c room t)).Blobs, c.Entries⟩ : Cache) := ok_filterR ok _ hr.1 hr.2 (by
            show sumI (dropC c (goneD c room t)).Blobs ≤ room
            unfold goneL at hds
            omega)
          have hu2 : cache_Used.f (⟨room, c.Lease, (dropC c (goneD c room t)).Blobs, c.Entries⟩ : Cache) = some (sumI (dropC c (goneD c room t)).Blobs, 0) := by
            rw [usedC_prog ok2.fit]
            unfold usedS7
            rw [ok2.check]
            rfl
          rw [hu2]
          simp only [Option.bind_some, beq_self_eq_true, cond_true]
          rw [decide_eq_true (show sumI (dropC c (goneD c room t)).Blobs ≤ room by unfold goneL at hds; omega)]
          simp only [cond_true]
          obtain ⟨r, hr2⟩ := goN_prefix (leavingS c t) (sumI c.Blobs - room)
          have hpre : (leavingS c t).map (fun b => b.Digest) = goneD c room t ++ r.map (fun b => b.Digest) := by
            unfold goneD goneL
            rw [← List.map_append, ← hr2]
          have hlen : (goneD c room t).length ≤ ((leavingS c t).map (fun b => b.Digest)).length := by rw [hpre, List.length_append]; omega
          have htk : ((leavingS c t).map (fun b => b.Digest)).take (goneD c room t).length = goneD c room t := by rw [hpre, List.take_left]
          have hll := leaving_len c t
          have hbl := ok.bl
          rw [List.length_map] at hlen
          have hcnd : (decide ((0 : Int) ≤ ((goneD c room t).length : Int)) && decide (((goneD c room t).length : Int) ≤ ((((leavingS c t).map (fun b => b.Digest)).length : Nat) : Int))) = true := by
            rw [List.length_map]
            simp
            omega
          rw [decide_eq_true (show ((goneD c room t).length : Int) ≤ (((leavingS c t).map (fun b => b.Digest)).length : Int) by rw [List.length_map]; omega)]
          simp only [cond_true, guard?_true hcnd, Int.toNat_natCast, htk]
          rw [slices_Equal_string_self (by omega)]
          simp only [Option.bind_some, cond_true, awake7]
          rw [decide_eq_true (show (0 : Int) ≤ ((goneD c room t).length : Int) by omega)]
          rfl
        · have hcl2 : clearS c room t = ([], false, c) := by unfold clearS; rw [hcv]; rfl
          simp only [hcl2, Bool.not_false, cond_true, Option.bind_some]
          rfl
    · have hg0 : (g == 0) = false := by simpa using hg
      simp only [cond_true, Option.bind_some, hg0, cond_false, hg, zeroC, List.length_nil]
      rfl
  · simp only [cond_true, Option.bind_some, h0]
    rfl
end Go.Proofs.YtkjilepjblffeaaDoor
