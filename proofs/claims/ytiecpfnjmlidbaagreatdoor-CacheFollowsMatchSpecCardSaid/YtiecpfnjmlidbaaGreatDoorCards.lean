/-
  DERIVED. GIVEN WITH THE SEED: THE CARDS: each row of YtiecpfnjmlidbaaGreatDoorRows.lean that lists a variable, with what it lists TIED to the program's text (the seventh form; the later family's looks); each row that meets fmt, with fmt's text TOLD by the authors' own Lean function (tested against real Go, not proved from fmt's source: count such statements apart). THE CARD IS WHAT COUNTS. Prove the row's statement (the work); the ties are given (YtiecpfnjmlidbaaGreatDoorTie.lean); close each card by the builder's one call (the guide's Derived/Test/ToyasCard.lean, 'card_holds'). Laid BY PROGRAM, IN A SANDBOX (cutbox-door.mjs). By AI agents, Wed Nov 11 2026. No macro, syntax, notation, axiom, sorry.
-/
import Derived.Test.YtiecpfnjmlidbaaGreatDoorRows
import GoSem.ClaimSeven
namespace Go.Proofs.YtiecpfnjmlidbaaGreatDoor
namespace Rows

/-- THE TIED CARD OF 'smithyardlaw7.CacheFollowsMatchSpec'. -/
def cacheFollowsMatchSpecCard : Claim7 := { stood := { row := cacheFollowsMatchSpecRow, standIns := [], harness := (true, "bb469e3607d496ffbe5e985d12412e3f9eebc11a6e5ba853c2ca7cd01625506e"), looks := false }, kinds := [], alts := [], laidByText := true, laidKinds := [.data, .pinned], laidTests := true, laidLooks := .later }
def CacheFollowsMatchSpecCardSaid : Prop := Claim7.holds Tryz.pinned (.plain (OpenSpec.ofChange cacheFollowsMatchSpecSpec)) cacheFollowsMatchSpecCard

/-- THE SECOND FORM's CARD OF 'smithyardlaw7.CacheFollowsMatchSpec'. -/
def cacheFollowsMatchSpecUptoCard : Claim7 := { stood := { row := cacheFollowsMatchSpecUptoRow, standIns := [], harness := (true, "bb469e3607d496ffbe5e985d12412e3f9eebc11a6e5ba853c2ca7cd01625506e"), looks := false }, kinds := [], alts := [], laidByText := true, laidKinds := [.data, .pinned], laidTests := true, laidLooks := .later }
def CacheFollowsMatchSpecUptoCardSaid : Prop := Claim7.holds Tryz.pinned (.plain (OpenSpec.upto cacheFollowsMatchSpecSpec)) cacheFollowsMatchSpecUptoCard
end Rows
end Go.Proofs.YtiecpfnjmlidbaaGreatDoor
