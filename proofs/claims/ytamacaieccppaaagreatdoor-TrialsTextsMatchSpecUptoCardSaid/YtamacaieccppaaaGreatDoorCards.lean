/-
  DERIVED. GIVEN WITH THE SEED: THE CARDS: each row of YtamacaieccppaaaGreatDoorRows.lean that lists a variable, with what it lists TIED to the program's text (the seventh form; the later family's looks); each row that meets fmt, with fmt's text TOLD by the authors' own Lean function (tested against real Go, not proved from fmt's source: count such statements apart). THE CARD IS WHAT COUNTS. Prove the row's statement (the work); the ties are given (YtamacaieccppaaaGreatDoorTie.lean); close each card by the builder's one call (the guide's Derived/Test/ToyasCard.lean, 'card_holds'). Laid BY PROGRAM, IN A SANDBOX (cutbox-door.mjs). By AI agents, Wed Nov 11 2026. No macro, syntax, notation, axiom, sorry.
-/
import Derived.Test.YtamacaieccppaaaGreatDoorRows
import GoSem.ClaimSeven
namespace Go.Proofs.YtamacaieccppaaaGreatDoor
namespace Rows

/-- THE TIED CARD OF 'smithyardlaw10.TrialsTextsMatchSpec'. -/
def trialsTextsMatchSpecCard : Claim7 := { stood := { row := trialsTextsMatchSpecRow, standIns := [], harness := (true, "d6317d01759e37790c64621de52d04db152646ea6d54c200718188cd729dac4d"), looks := true }, kinds := [], alts := [], laidByText := true, laidKinds := [.data, .data, .data, .data, .sentinel, .sentinel, .pinned], laidTests := true, laidLooks := .later }
def TrialsTextsMatchSpecCardSaid : Prop := Claim7.holds Tryz.pinned (.plain (OpenSpec.ofChange trialsTextsMatchSpecSpec)) trialsTextsMatchSpecCard

/-- THE SECOND FORM's CARD OF 'smithyardlaw10.TrialsTextsMatchSpec'. -/
def trialsTextsMatchSpecUptoCard : Claim7 := { stood := { row := trialsTextsMatchSpecUptoRow, standIns := [], harness := (true, "d6317d01759e37790c64621de52d04db152646ea6d54c200718188cd729dac4d"), looks := true }, kinds := [], alts := [], laidByText := true, laidKinds := [.data, .data, .data, .data, .sentinel, .sentinel, .pinned], laidTests := true, laidLooks := .later }
def TrialsTextsMatchSpecUptoCardSaid : Prop := Claim7.holds Tryz.pinned (.plain (OpenSpec.upto trialsTextsMatchSpecSpec)) trialsTextsMatchSpecUptoCard
end Rows
end Go.Proofs.YtamacaieccppaaaGreatDoor
