/-
  DERIVED. GIVEN WITH THE SEED: THE CARDS: each row of YtedkdnhhohcocaaDoorRows.lean that lists a variable, with what it lists TIED to the program's text (the seventh form; the later family's looks); each row that meets fmt, with fmt's text TOLD by the authors' own Lean function (tested against real Go, not proved from fmt's source: count such statements apart). THE CARD IS WHAT COUNTS. Prove the row's statement (the work); the ties are given (YtedkdnhhohcocaaDoorTie.lean); close each card by the builder's one call (the guide's Derived/Test/ToyasCard.lean, 'card_holds'). Laid BY PROGRAM, IN A SANDBOX (cutbox-door.mjs). By AI agents, Wed Nov 11 2026. No macro, syntax, notation, axiom, sorry.
-/
import Derived.Test.YtedkdnhhohcocaaDoorRows
import GoSem.ClaimSeven
namespace Go.Proofs.YtedkdnhhohcocaaDoor
namespace Rows

/-- THE TIED CARD OF 'smithyardlaw10.TrialsShardsMatchSpec'. -/
def trialsShardsMatchSpecCard : Claim7 := { stood := { row := trialsShardsMatchSpecRow, standIns := [], harness := (true, "b53db07084250e6d4bcc4386469565aeedaa0d6ec36a6e96f430db2d5b2c72e6"), looks := false }, kinds := [], alts := [], laidByText := true, laidKinds := [.data, .pinned], laidTests := true, laidLooks := .later }
def TrialsShardsMatchSpecCardSaid : Prop := Claim7.holds Tryd.pinned (.plain (OpenSpec.ofChange trialsShardsMatchSpecSpec)) trialsShardsMatchSpecCard

/-- THE SECOND FORM's CARD OF 'smithyardlaw10.TrialsShardsMatchSpec'. -/
def trialsShardsMatchSpecUptoCard : Claim7 := { stood := { row := trialsShardsMatchSpecUptoRow, standIns := [], harness := (true, "b53db07084250e6d4bcc4386469565aeedaa0d6ec36a6e96f430db2d5b2c72e6"), looks := false }, kinds := [], alts := [], laidByText := true, laidKinds := [.data, .pinned], laidTests := true, laidLooks := .later }
def TrialsShardsMatchSpecUptoCardSaid : Prop := Claim7.holds Tryd.pinned (.plain (OpenSpec.upto trialsShardsMatchSpecSpec)) trialsShardsMatchSpecUptoCard
end Rows
end Go.Proofs.YtedkdnhhohcocaaDoor
