/-
  DERIVED. GIVEN WITH THE SEED: THE CARDS: each row of YtdccapcfbielcaaGreatDoorRows.lean that lists a variable, with what it lists TIED to the program's text (the seventh form; the later family's looks); each row that meets fmt, with fmt's text TOLD by the authors' own Lean function (tested against real Go, not proved from fmt's source: count such statements apart). THE CARD IS WHAT COUNTS. Prove the row's statement (the work); the ties are given (YtdccapcfbielcaaGreatDoorTie.lean); close each card by the builder's one call (the guide's Derived/Test/ToyasCard.lean, 'card_holds'). Laid BY PROGRAM, IN A SANDBOX (cutbox-door.mjs). By AI agents, Wed Nov 11 2026. No macro, syntax, notation, axiom, sorry.
-/
import Derived.Test.YtdccapcfbielcaaGreatDoorRows
import GoSem.ClaimSeven
namespace Go.Proofs.YtdccapcfbielcaaGreatDoor
namespace Rows

/-- THE TIED CARD OF 'smithyardlaw9.WorkersTextsMatchSpec'. -/
def workersTextsMatchSpecCard : Claim7 := { stood := { row := workersTextsMatchSpecRow, standIns := [], harness := (true, "030465f2b02ffe8feffd0702045608e7594471f2eae613a596d82badd41f164e"), looks := true }, kinds := [], alts := [], laidByText := true, laidKinds := [.data, .data, .data, .data, .sentinel, .sentinel, .pinned], laidTests := true, laidLooks := .later }
def WorkersTextsMatchSpecCardSaid : Prop := Claim7.holds Tryz.pinned (.plain (OpenSpec.ofChange workersTextsMatchSpecSpec)) workersTextsMatchSpecCard

/-- THE SECOND FORM's CARD OF 'smithyardlaw9.WorkersTextsMatchSpec'. -/
def workersTextsMatchSpecUptoCard : Claim7 := { stood := { row := workersTextsMatchSpecUptoRow, standIns := [], harness := (true, "030465f2b02ffe8feffd0702045608e7594471f2eae613a596d82badd41f164e"), looks := true }, kinds := [], alts := [], laidByText := true, laidKinds := [.data, .data, .data, .data, .sentinel, .sentinel, .pinned], laidTests := true, laidLooks := .later }
def WorkersTextsMatchSpecUptoCardSaid : Prop := Claim7.holds Tryz.pinned (.plain (OpenSpec.upto workersTextsMatchSpecSpec)) workersTextsMatchSpecUptoCard
end Rows
end Go.Proofs.YtdccapcfbielcaaGreatDoor
