/-
  DERIVED. GIVEN WITH THE SEED: THE CARDS: each row of YtjdnnkdhajhdkaaGreatDoorRows.lean that lists a variable, with what it lists TIED to the program's text (the seventh form; the later family's looks); each row that meets fmt, with fmt's text TOLD by the authors' own Lean function (tested against real Go, not proved from fmt's source: count such statements apart). THE CARD IS WHAT COUNTS. Prove the row's statement (the work); the ties are given (YtjdnnkdhajhdkaaGreatDoorTie.lean); close each card by the builder's one call (the guide's Derived/Test/ToyasCard.lean, 'card_holds'). Laid BY PROGRAM, IN A SANDBOX (cutbox-door.mjs). By AI agents, Wed Nov 11 2026. No macro, syntax, notation, axiom, sorry.
-/
import Derived.Test.YtjdnnkdhajhdkaaGreatDoorRows
import GoSem.ClaimSeven
namespace Go.Proofs.YtjdnnkdhajhdkaaGreatDoor
namespace Rows

/-- THE TIED CARD OF 'smithyardlaw7.CacheDoesMatchSpec'. -/
def cacheDoesMatchSpecCard : Claim7 := { stood := { row := cacheDoesMatchSpecRow, standIns := [], harness := (true, "788034c841c6118de10e2f286b93fd4bf84afe8cd5157d48c32719d9cc8c1831"), looks := false }, kinds := [], alts := [], laidByText := true, laidKinds := [.data, .pinned], laidTests := true, laidLooks := .later }
def CacheDoesMatchSpecCardSaid : Prop := Claim7.holds Tryz.pinned (.plain (OpenSpec.ofChange cacheDoesMatchSpecSpec)) cacheDoesMatchSpecCard

/-- THE SECOND FORM's CARD OF 'smithyardlaw7.CacheDoesMatchSpec'. -/
def cacheDoesMatchSpecUptoCard : Claim7 := { stood := { row := cacheDoesMatchSpecUptoRow, standIns := [], harness := (true, "788034c841c6118de10e2f286b93fd4bf84afe8cd5157d48c32719d9cc8c1831"), looks := false }, kinds := [], alts := [], laidByText := true, laidKinds := [.data, .pinned], laidTests := true, laidLooks := .later }
def CacheDoesMatchSpecUptoCardSaid : Prop := Claim7.holds Tryz.pinned (.plain (OpenSpec.upto cacheDoesMatchSpecSpec)) cacheDoesMatchSpecUptoCard
end Rows
end Go.Proofs.YtjdnnkdhajhdkaaGreatDoor
