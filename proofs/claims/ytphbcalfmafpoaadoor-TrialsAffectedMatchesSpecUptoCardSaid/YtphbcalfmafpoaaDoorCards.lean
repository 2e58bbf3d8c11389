/-
  DERIVED. GIVEN WITH THE SEED: THE CARDS: each row of YtphbcalfmafpoaaDoorRows.lean that lists a variable, with what it lists TIED to the program's text (the seventh form; the later family's looks); each row that meets fmt, with fmt's text TOLD by the authors' own Lean function (tested against real Go, not proved from fmt's source: count such statements apart). THE CARD IS WHAT COUNTS. Prove the row's statement (the work); the ties are given (YtphbcalfmafpoaaDoorTie.lean); close each card by the builder's one call (the guide's Derived/Test/ToyasCard.lean, 'card_holds'). Laid BY PROGRAM, IN A SANDBOX (cutbox-door.mjs). By AI agents, Wed Nov 11 2026. No macro, syntax, notation, axiom, sorry.
-/
import Derived.Test.YtphbcalfmafpoaaDoorRows
import GoSem.ClaimSeven
namespace Go.Proofs.YtphbcalfmafpoaaDoor
namespace Rows

/-- THE TIED CARD OF 'smithyardlaw10.TrialsAffectedMatchesSpec'. -/
def trialsAffectedMatchesSpecCard : Claim7 := { stood := { row := trialsAffectedMatchesSpecRow, standIns := [], harness := (true, "0937baa7e16d456cb59928662a805d447693a0be59e47b0ba146f0e3d7e3647b"), looks := false }, kinds := [], alts := [], laidByText := true, laidKinds := [.data, .pinned], laidTests := true, laidLooks := .later }
def TrialsAffectedMatchesSpecCardSaid : Prop := Claim7.holds Tryd.pinned (.plain (OpenSpec.ofChange trialsAffectedMatchesSpecSpec)) trialsAffectedMatchesSpecCard

/-- THE SECOND FORM's CARD OF 'smithyardlaw10.TrialsAffectedMatchesSpec'. -/
def trialsAffectedMatchesSpecUptoCard : Claim7 := { stood := { row := trialsAffectedMatchesSpecUptoRow, standIns := [], harness := (true, "0937baa7e16d456cb59928662a805d447693a0be59e47b0ba146f0e3d7e3647b"), looks := false }, kinds := [], alts := [], laidByText := true, laidKinds := [.data, .pinned], laidTests := true, laidLooks := .later }
def TrialsAffectedMatchesSpecUptoCardSaid : Prop := Claim7.holds Tryd.pinned (.plain (OpenSpec.upto trialsAffectedMatchesSpecSpec)) trialsAffectedMatchesSpecUptoCard
end Rows
end Go.Proofs.YtphbcalfmafpoaaDoor
