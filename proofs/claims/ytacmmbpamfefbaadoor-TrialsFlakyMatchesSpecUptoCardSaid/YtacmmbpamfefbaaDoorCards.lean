/-
  DERIVED. GIVEN WITH THE SEED: THE CARDS: each row of YtacmmbpamfefbaaDoorRows.lean that lists a variable, with what it lists TIED to the program's text (the seventh form; the later family's looks); each row that meets fmt, with fmt's text TOLD by the authors' own Lean function (tested against real Go, not proved from fmt's source: count such statements apart). THE CARD IS WHAT COUNTS. Prove the row's statement (the work); the ties are given (YtacmmbpamfefbaaDoorTie.lean); close each card by the builder's one call (the guide's Derived/Test/ToyasCard.lean, 'card_holds'). Laid BY PROGRAM, IN A SANDBOX (cutbox-door.mjs). By AI agents, Wed Nov 11 2026. No macro, syntax, notation, axiom, sorry.
-/
import Derived.Test.YtacmmbpamfefbaaDoorRows
import GoSem.ClaimSeven
namespace Go.Proofs.YtacmmbpamfefbaaDoor
namespace Rows

/-- THE TIED CARD OF 'smithyardlaw10.TrialsFlakyMatchesSpec'. -/
def trialsFlakyMatchesSpecCard : Claim7 := { stood := { row := trialsFlakyMatchesSpecRow, standIns := [], harness := (true, "ad694124bab5c0dfb993fb982078f4c5926003a36eda828433b17dd6a2e544ab"), looks := false }, kinds := [], alts := [], laidByText := true, laidKinds := [.data, .pinned], laidTests := true, laidLooks := .later }
def TrialsFlakyMatchesSpecCardSaid : Prop := Claim7.holds Tryd.pinned (.plain (OpenSpec.ofChange trialsFlakyMatchesSpecSpec)) trialsFlakyMatchesSpecCard

/-- THE SECOND FORM's CARD OF 'smithyardlaw10.TrialsFlakyMatchesSpec'. -/
def trialsFlakyMatchesSpecUptoCard : Claim7 := { stood := { row := trialsFlakyMatchesSpecUptoRow, standIns := [], harness := (true, "ad694124bab5c0dfb993fb982078f4c5926003a36eda828433b17dd6a2e544ab"), looks := false }, kinds := [], alts := [], laidByText := true, laidKinds := [.data, .pinned], laidTests := true, laidLooks := .later }
def TrialsFlakyMatchesSpecUptoCardSaid : Prop := Claim7.holds Tryd.pinned (.plain (OpenSpec.upto trialsFlakyMatchesSpecSpec)) trialsFlakyMatchesSpecUptoCard
end Rows
end Go.Proofs.YtacmmbpamfefbaaDoor
