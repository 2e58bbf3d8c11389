/-
  DERIVED. GIVEN WITH THE SEED: THE CARDS: each row of YtdmdimhbcdocdaaDoorRows.lean that lists a variable, with what it lists TIED to the program's text (the seventh form; the later family's looks); each row that meets fmt, with fmt's text TOLD by the authors' own Lean function (tested against real Go, not proved from fmt's source: count such statements apart). THE CARD IS WHAT COUNTS. Prove the row's statement (the work); the ties are given (YtdmdimhbcdocdaaDoorTie.lean); close each card by the builder's one call (the guide's Derived/Test/ToyasCard.lean, 'card_holds'). Laid BY PROGRAM, IN A SANDBOX (cutbox-door.mjs). By AI agents, Wed Nov 11 2026. No macro, syntax, notation, axiom, sorry.
-/
import Derived.Test.YtdmdimhbcdocdaaDoorRows
import GoSem.ClaimSeven
namespace Go.Proofs.YtdmdimhbcdocdaaDoor
namespace Rows

/-- THE TIED CARD OF 'smithyardlaw10.TrialsShardsAreEven'. -/
def trialsShardsAreEvenCard : Claim7 := { stood := { row := trialsShardsAreEvenRow, standIns := [], harness := (true, "02a5047b998362d45e672728c9494a3a565c3daf0d33d9f3e07a630eef77d5ca"), looks := false }, kinds := [], alts := [], laidByText := true, laidKinds := [.data, .pinned], laidTests := true, laidLooks := .later }
def TrialsShardsAreEvenCardSaid : Prop := Claim7.holds Tryd.pinned (.plain (OpenSpec.ofChange trialsShardsAreEvenSpec)) trialsShardsAreEvenCard

/-- THE SECOND FORM's CARD OF 'smithyardlaw10.TrialsShardsAreEven'. -/
def trialsShardsAreEvenUptoCard : Claim7 := { stood := { row := trialsShardsAreEvenUptoRow, standIns := [], harness := (true, "02a5047b998362d45e672728c9494a3a565c3daf0d33d9f3e07a630eef77d5ca"), looks := false }, kinds := [], alts := [], laidByText := true, laidKinds := [.data, .pinned], laidTests := true, laidLooks := .later }
def TrialsShardsAreEvenUptoCardSaid : Prop := Claim7.holds Tryd.pinned (.plain (OpenSpec.upto trialsShardsAreEvenSpec)) trialsShardsAreEvenUptoCard
end Rows
end Go.Proofs.YtdmdimhbcdocdaaDoor
