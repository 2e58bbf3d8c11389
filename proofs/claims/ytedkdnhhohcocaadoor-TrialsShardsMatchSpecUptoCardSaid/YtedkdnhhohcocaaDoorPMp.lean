/- Maps, as lists of pairs. -/
import Derived.Test.YtedkdnhhohcocaaDoorPW
set_option linter.unusedVariables false
namespace Go.Proofs.YtedkdnhhohcocaaDoor
open Go Go.Proofs.YtedkdnhhohcocaaDoor.Kit
theorem mget_put {κ ν:Type} [DecidableEq κ]:∀ (m:List (κ × ν)) (k:κ) (v:ν) (k':κ),mget (mput m k v) k'=if k=k' then some v else mget m k'
  | [],k,v,k'=>by simp [mget,mput]
  | q::m,k,v,k'=>by
    have ih:=mget_put m k v k'
    unfold mput
    by_cases h:q.1=k
    · subst h
      rw [if_pos rfl]
      simp only [mget]
      by_cases h2:q.1=k' <;> simp [h2]
    · rw [if_neg h]
      simp only [mget]
      by_cases h2:q.1=k'
      · rw [if_pos h2,if_pos h2]
        have:¬ k=k':=fun h3=>h (by rw [h2,h3])
        rw [if_neg this]
      · rw [if_neg h2,if_neg h2,ih]
end Go.Proofs.YtedkdnhhohcocaaDoor
