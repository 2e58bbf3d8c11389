/- Plain aids: numbers that fit, elements of lists, the loops that compare lists. -/
import Derived.Test.YtiecpfnjmlidbaaGreatDoorKitP
import GoSem.ClaimJoined
set_option linter.unusedVariables false
set_option linter.unusedSimpArgs false
namespace Go.Proofs.YtiecpfnjmlidbaaGreatDoor.Kit
open Go
theorem B7 {n:Int} (h1 : -9223372036854775808≤n) (h2:n≤9223372036854775807):c5 n=n:=by
  have e:c5 n=if 9223372036854775808≤n % 18446744073709551616 then n % 18446744073709551616 - 18446744073709551616 else n % 18446744073709551616:=by
    unfold c5 IntKind.wrap
    simp [IntKind.bits,IntKind.signed]
  rw [e]
  by_cases h:(9223372036854775808:Int)≤n % 18446744073709551616
  · rw [if_pos h]
    omega
  · rw [if_neg h]
    omega
theorem ab6 {n m bytes:Nat} (h:(n+m)*bytes≤140737490452480):room n m bytes=true:=by simpa [room] using h
theorem Y3 {c:Bool} {α:Type} {x:Option α} (h:c=true):G5 c x=x:=by rw [h]; rfl
end Go.Proofs.YtiecpfnjmlidbaaGreatDoor.Kit
