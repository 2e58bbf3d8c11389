/-
  DERIVED. GIVEN WITH THE SEED: THE CARDS: each row of YtnhedhnnknnenaaDoorRows.lean that lists a variable, with what it lists TIED to the program's text (the seventh form; the later family's looks); each row that meets fmt, with fmt's text TOLD by the authors' own Lean function (tested against real Go, not proved from fmt's source: count such statements apart). THE CARD IS WHAT COUNTS. Prove the row's statement (the work); the ties are given (YtnhedhnnknnenaaDoorTie.lean); close each card by the builder's one call (the guide's Derived/Test/ToyasCard.lean, 'card_holds'). Laid BY PROGRAM, IN A SANDBOX (cutbox-door.mjs). By AI agents, Wed Nov 11 2026. No macro, syntax, notation, axiom, sorry.
-/
import Derived.Test.YtnhedhnnknnenaaDoorRows
import GoSem.ClaimSeven
namespace Go.Proofs.YtnhedhnnknnenaaDoor
namespace Rows

/-- THE TIED CARD OF 'smithyardlaw10.TrialsFlakyHaveDoneBoth'. -/
def trialsFlakyHaveDoneBothCard : Claim7 := { stood := { row := trialsFlakyHaveDoneBothRow, standIns := [], harness := (true, "756de2a078f7e3d53f41c47b59ceac6932b223822376209e928d6522ffb48496"), looks := false }, kinds := [], alts := [], laidByText := true, laidKinds := [.data, .pinned], laidTests := true, laidLooks := .later }
def TrialsFlakyHaveDoneBothCardSaid : Prop := Claim7.holds Tryd.pinned (.plain (OpenSpec.ofChange trialsFlakyHaveDoneBothSpec)) trialsFlakyHaveDoneBothCard

/-- THE SECOND FORM's CARD OF 'smithyardlaw10.TrialsFlakyHaveDoneBoth'. -/
def trialsFlakyHaveDoneBothUptoCard : Claim7 := { stood := { row := trialsFlakyHaveDoneBothUptoRow, standIns := [], harness := (true, "756de2a078f7e3d53f41c47b59ceac6932b223822376209e928d6522ffb48496"), looks := false }, kinds := [], alts := [], laidByText := true, laidKinds := [.data, .pinned], laidTests := true, laidLooks := .later }
def TrialsFlakyHaveDoneBothUptoCardSaid : Prop := Claim7.holds Tryd.pinned (.plain (OpenSpec.upto trialsFlakyHaveDoneBothSpec)) trialsFlakyHaveDoneBothUptoCard
end Rows
end Go.Proofs.YtnhedhnnknnenaaDoor
