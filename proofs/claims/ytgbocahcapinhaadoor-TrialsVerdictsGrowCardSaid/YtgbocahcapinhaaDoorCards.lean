/-
  DERIVED. GIVEN WITH THE SEED: THE CARDS: each row of YtgbocahcapinhaaDoorRows.lean that lists a variable, with what it lists TIED to the program's text (the seventh form; the later family's looks); each row that meets fmt, with fmt's text TOLD by the authors' own Lean function (tested against real Go, not proved from fmt's source: count such statements apart). THE CARD IS WHAT COUNTS. Prove the row's statement (the work); the ties are given (YtgbocahcapinhaaDoorTie.lean); close each card by the builder's one call (the guide's Derived/Test/ToyasCard.lean, 'card_holds'). Laid BY PROGRAM, IN A SANDBOX (cutbox-door.mjs). By AI agents, Wed Nov 11 2026. No macro, syntax, notation, axiom, sorry.
-/
import Derived.Test.YtgbocahcapinhaaDoorRows
import GoSem.ClaimSeven
namespace Go.Proofs.YtgbocahcapinhaaDoor
namespace Rows

/-- THE TIED CARD OF 'smithyardlaw10.TrialsVerdictsGrow'. -/
def trialsVerdictsGrowCard : Claim7 := { stood := { row := trialsVerdictsGrowRow, standIns := [], harness := (true, "da412a9845ee2a8cddb21c0a66691ee3d31756468e3d865bc3f68e698218b51d"), looks := false }, kinds := [], alts := [], laidByText := true, laidKinds := [.data, .pinned], laidTests := true, laidLooks := .later }
def TrialsVerdictsGrowCardSaid : Prop := Claim7.holds Tryd.pinned (.plain (OpenSpec.ofChange trialsVerdictsGrowSpec)) trialsVerdictsGrowCard

/-- THE TIED CARD OF 'smithyardlaw10.TrialsVerdictsMatchSpec'. -/
def trialsVerdictsMatchSpecCard : Claim7 := { stood := { row := trialsVerdictsMatchSpecRow, standIns := [], harness := (true, "da412a9845ee2a8cddb21c0a66691ee3d31756468e3d865bc3f68e698218b51d"), looks := false }, kinds := [], alts := [], laidByText := true, laidKinds := [.data, .pinned], laidTests := true, laidLooks := .later }
def TrialsVerdictsMatchSpecCardSaid : Prop := Claim7.holds Tryd.pinned (.plain (OpenSpec.ofChange trialsVerdictsMatchSpecSpec)) trialsVerdictsMatchSpecCard

/-- THE SECOND FORM's CARD OF 'smithyardlaw10.TrialsVerdictsGrow'. -/
def trialsVerdictsGrowUptoCard : Claim7 := { stood := { row := trialsVerdictsGrowUptoRow, standIns := [], harness := (true, "da412a9845ee2a8cddb21c0a66691ee3d31756468e3d865bc3f68e698218b51d"), looks := false }, kinds := [], alts := [], laidByText := true, laidKinds := [.data, .pinned], laidTests := true, laidLooks := .later }
def TrialsVerdictsGrowUptoCardSaid : Prop := Claim7.holds Tryd.pinned (.plain (OpenSpec.upto trialsVerdictsGrowSpec)) trialsVerdictsGrowUptoCard

/-- THE SECOND FORM's CARD OF 'smithyardlaw10.TrialsVerdictsMatchSpec'. -/
def trialsVerdictsMatchSpecUptoCard : Claim7 := { stood := { row := trialsVerdictsMatchSpecUptoRow, standIns := [], harness := (true, "da412a9845ee2a8cddb21c0a66691ee3d31756468e3d865bc3f68e698218b51d"), looks := false }, kinds := [], alts := [], laidByText := true, laidKinds := [.data, .pinned], laidTests := true, laidLooks := .later }
def TrialsVerdictsMatchSpecUptoCardSaid : Prop := Claim7.holds Tryd.pinned (.plain (OpenSpec.upto trialsVerdictsMatchSpecSpec)) trialsVerdictsMatchSpecUptoCard
end Rows
end Go.Proofs.YtgbocahcapinhaaDoor
