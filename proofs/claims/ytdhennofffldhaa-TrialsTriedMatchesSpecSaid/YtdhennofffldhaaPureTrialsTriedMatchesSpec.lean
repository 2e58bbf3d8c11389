/- TrialsTriedMatchesSpec over numbers and lists alone. -/
import Derived.Test.YtdhennofffldhaaPureTried
import Derived.Test.YtdhennofffldhaaPureSTrialsTriedMatchesSpec
set_option linter.unusedVariables false
set_option linter.unusedSimpArgs false
namespace Go.Proofs.Ytdhennofffldhaa
open Go Go.Proofs.Ytdhennofffldhaa.Kit
theorem TrialsTriedMatchesSpec_pure : TrialsTriedMatchesSpec_Pure := by
  intro a0 a1 a2 _ _ h2
  have hl : a2.length ≤ 140737488351232 := by have := h2.1; unfold reachBytes at this; omega
  obtain ⟨x, y, z, q1, q2, -, -⟩ := tried_same a0 a1 a2
  have hc : slices_Clone_bool.f a2 = some a2 := guard?_true (room_of (by omega))
  unfold smithyardlaw10_TrialsTriedMatchesSpec.f
  simp only [hc, q1, q2, Option.bind_some, beq_self_eq_true, cond_true, equal_self a2 (by omega), awake_true]
end Go.Proofs.Ytdhennofffldhaa
