/-
  DERIVED. GIVEN WITH THE SEED: THE CARDS: each row of YtkgbgapheigjcaaDoorRows.lean that lists a variable, with what it lists TIED to the program's text (the seventh form; the later family's looks); each row that meets fmt, with fmt's text TOLD by the authors' own Lean function (tested against real Go, not proved from fmt's source: count such statements apart). THE CARD IS WHAT COUNTS. Prove the row's statement (the work); the ties are given (YtkgbgapheigjcaaDoorTie.lean); close each card by the builder's one call (the guide's Derived/Test/ToyasCard.lean, 'card_holds'). Laid BY PROGRAM, IN A SANDBOX (cutbox-door.mjs). By AI agents, Wed Nov 11 2026. No macro, syntax, notation, axiom, sorry.
-/
import Derived.Test.YtkgbgapheigjcaaDoorRows
import GoSem.ClaimSeven
namespace Go.Proofs.YtkgbgapheigjcaaDoor
namespace Rows

/-- THE TIED CARD OF 'smithyardlaw10.TrialsAffectedByParts'. -/
def trialsAffectedByPartsCard : Claim7 := { stood := { row := trialsAffectedByPartsRow, standIns := [], harness := (true, "e4e77cbf342147087e373b4000ae5e918a9166c93357fcf16e5e4dc8531e2112"), looks := false }, kinds := [], alts := [], laidByText := true, laidKinds := [.data, .pinned], laidTests := true, laidLooks := .later }
def TrialsAffectedByPartsCardSaid : Prop := Claim7.holds Tryd.pinned (.plain (OpenSpec.ofChange trialsAffectedByPartsSpec)) trialsAffectedByPartsCard

/-- THE SECOND FORM's CARD OF 'smithyardlaw10.TrialsAffectedByParts'. -/
def trialsAffectedByPartsUptoCard : Claim7 := { stood := { row := trialsAffectedByPartsUptoRow, standIns := [], harness := (true, "e4e77cbf342147087e373b4000ae5e918a9166c93357fcf16e5e4dc8531e2112"), looks := false }, kinds := [], alts := [], laidByText := true, laidKinds := [.data, .pinned], laidTests := true, laidLooks := .later }
def TrialsAffectedByPartsUptoCardSaid : Prop := Claim7.holds Tryd.pinned (.plain (OpenSpec.upto trialsAffectedByPartsSpec)) trialsAffectedByPartsUptoCard
end Rows
end Go.Proofs.YtkgbgapheigjcaaDoor
