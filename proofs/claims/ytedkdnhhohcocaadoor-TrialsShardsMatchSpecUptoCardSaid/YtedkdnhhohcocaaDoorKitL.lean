/- Plain aids: numbers that fit, elements of lists, the loops that compare lists. -/
import Derived.Test.YtedkdnhhohcocaaDoorKitP
import GoSem.ClaimJoined
set_option linter.unusedVariables false
set_option linter.unusedSimpArgs false
namespace Go.Proofs.YtedkdnhhohcocaaDoor.Kit
open Go
theorem w64_id {n:Int} (h1 : -9223372036854775808≤n) (h2:n≤9223372036854775807):w64 n=n:=by
  have e:w64 n=if 9223372036854775808≤n % 18446744073709551616 then n % 18446744073709551616 - 18446744073709551616 else n % 18446744073709551616:=by
    unfold w64 IntKind.wrap
    simp [IntKind.bits,IntKind.signed]
  rw [e]
  by_cases h:(9223372036854775808:Int)≤n % 18446744073709551616
  · rw [if_pos h]
    omega
  · rw [if_neg h]
    omega
theorem room_of {n m bytes:Nat} (h:(n+m)*bytes≤140737490452480):room n m bytes=true:=by simpa [room] using h
theorem guard?_true {c:Bool} {α:Type} {x:Option α} (h:c=true):guard? c x=x:=by rw [h]; rfl
end Go.Proofs.YtedkdnhhohcocaaDoor.Kit
