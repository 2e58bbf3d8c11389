/-
  DERIVED. GIVEN WITH THE SEED: THE CARDS: each row of YteljhhgffmpgnaaDoorRows.lean that lists a variable, with what it lists TIED to the program's text (the seventh form; the later family's looks); each row that meets fmt, with fmt's text TOLD by the authors' own Lean function (tested against real Go, not proved from fmt's source: count such statements apart). THE CARD IS WHAT COUNTS. Prove the row's statement (the work); the ties are given (YteljhhgffmpgnaaDoorTie.lean); close each card by the builder's one call (the guide's Derived/Test/ToyasCard.lean, 'card_holds'). Laid BY PROGRAM, IN A SANDBOX (cutbox-door.mjs). By AI agents, Wed Nov 11 2026. No macro, syntax, notation, axiom, sorry.
-/
import Derived.Test.YteljhhgffmpgnaaDoorRows
import GoSem.ClaimSeven
namespace Go.Proofs.YteljhhgffmpgnaaDoor
namespace Rows

/-- THE TIED CARD OF 'smithyardlaw9.WorkersChecksMatchSpec'. -/
def workersChecksMatchSpecCard : Claim7 := { stood := { row := workersChecksMatchSpecRow, standIns := [], harness := (true, "9c7d0e9196dfa4c7cee86bbdd43e921047bb2993dd030704d17cf2e5cffd9884"), looks := false }, kinds := [], alts := [], laidByText := true, laidKinds := [.data, .pinned], laidTests := true, laidLooks := .later }
def WorkersChecksMatchSpecCardSaid : Prop := Claim7.holds Tryd.pinned (.plain (OpenSpec.ofChange workersChecksMatchSpecSpec)) workersChecksMatchSpecCard

/-- THE SECOND FORM's CARD OF 'smithyardlaw9.WorkersChecksMatchSpec'. -/
def workersChecksMatchSpecUptoCard : Claim7 := { stood := { row := workersChecksMatchSpecUptoRow, standIns := [], harness := (true, "9c7d0e9196dfa4c7cee86bbdd43e921047bb2993dd030704d17cf2e5cffd9884"), looks := false }, kinds := [], alts := [], laidByText := true, laidKinds := [.data, .pinned], laidTests := true, laidLooks := .later }
def WorkersChecksMatchSpecUptoCardSaid : Prop := Claim7.holds Tryd.pinned (.plain (OpenSpec.upto workersChecksMatchSpecSpec)) workersChecksMatchSpecUptoCard
end Rows
end Go.Proofs.YteljhhgffmpgnaaDoor
