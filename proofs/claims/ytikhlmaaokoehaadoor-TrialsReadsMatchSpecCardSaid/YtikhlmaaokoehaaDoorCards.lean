/-
  DERIVED. GIVEN WITH THE SEED: THE CARDS: each row of YtikhlmaaokoehaaDoorRows.lean that lists a variable, with what it lists TIED to the program's text (the seventh form; the later family's looks); each row that meets fmt, with fmt's text TOLD by the authors' own Lean function (tested against real Go, not proved from fmt's source: count such statements apart). THE CARD IS WHAT COUNTS. Prove the row's statement (the work); the ties are given (YtikhlmaaokoehaaDoorTie.lean); close each card by the builder's one call (the guide's Derived/Test/ToyasCard.lean, 'card_holds'). Laid BY PROGRAM, IN A SANDBOX (cutbox-door.mjs). By AI agents, Wed Nov 11 2026. No macro, syntax, notation, axiom, sorry.
-/
import Derived.Test.YtikhlmaaokoehaaDoorRows
import GoSem.ClaimSeven
namespace Go.Proofs.YtikhlmaaokoehaaDoor
namespace Rows

/-- THE TIED CARD OF 'smithyardlaw10.TrialsReadsMatchSpec'. -/
def trialsReadsMatchSpecCard : Claim7 := { stood := { row := trialsReadsMatchSpecRow, standIns := [], harness := (true, "bfe8d7f220c3e6eb3bfb6b9d8d41fec778c7dc18125cd7cfe107c6e7e9d20147"), looks := true }, kinds := [], alts := [], laidByText := true, laidKinds := [.data, .data, .data, .data, .sentinel, .sentinel, .pinned], laidTests := true, laidLooks := .later }
def TrialsReadsMatchSpecCardSaid : Prop := Claim7.holds Tryd.pinned (.plain (OpenSpec.ofChange trialsReadsMatchSpecSpec)) trialsReadsMatchSpecCard

/-- THE SECOND FORM's CARD OF 'smithyardlaw10.TrialsReadsMatchSpec'. -/
def trialsReadsMatchSpecUptoCard : Claim7 := { stood := { row := trialsReadsMatchSpecUptoRow, standIns := [], harness := (true, "bfe8d7f220c3e6eb3bfb6b9d8d41fec778c7dc18125cd7cfe107c6e7e9d20147"), looks := true }, kinds := [], alts := [], laidByText := true, laidKinds := [.data, .data, .data, .data, .sentinel, .sentinel, .pinned], laidTests := true, laidLooks := .later }
def TrialsReadsMatchSpecUptoCardSaid : Prop := Claim7.holds Tryd.pinned (.plain (OpenSpec.upto trialsReadsMatchSpecSpec)) trialsReadsMatchSpecUptoCard
end Rows
end Go.Proofs.YtikhlmaaokoehaaDoor
