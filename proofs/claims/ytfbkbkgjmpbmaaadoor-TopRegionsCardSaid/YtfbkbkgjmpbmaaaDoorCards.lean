/-
  DERIVED. GIVEN WITH THE SEED: THE CARDS: each row of YtfbkbkgjmpbmaaaDoorRows.lean that lists a variable, with what it lists TIED to the program's text (the seventh form; the later family's looks); each row that meets fmt, with fmt's text TOLD by the authors' own Lean function (tested against real Go, not proved from fmt's source: count such statements apart). THE CARD IS WHAT COUNTS. Prove the row's statement (the work); the ties are given (YtfbkbkgjmpbmaaaDoorTie.lean); close each card by the builder's one call (the guide's Derived/Test/ToyasCard.lean, 'card_holds'). Laid BY PROGRAM, IN A SANDBOX (cutbox-door.mjs). By AI agents, Wed Nov 11 2026. No macro, syntax, notation, axiom, sorry.
-/
import Derived.Test.YtfbkbkgjmpbmaaaDoorRows
import GoSem.ClaimSeven
namespace Go.Proofs.YtfbkbkgjmpbmaaaDoor
namespace Rows

/-- THE TIED CARD OF 'bouletop.TopRegions'. -/
def topRegionsCard : Claim7 := { stood := { row := topRegionsRow, standIns := [], harness := (true, "dfae535e0563ac9a2a2c56a5152600a6b38affdee2349a55997ec6d95dbefae9"), looks := false }, kinds := [], alts := [], laidByText := true, laidKinds := [.data, .pinned], laidTests := true, laidLooks := .later }
def TopRegionsCardSaid : Prop := Claim7.holds Tryd.pinned (.plain (OpenSpec.ofChange topRegionsSpec)) topRegionsCard

/-- THE SECOND FORM's CARD OF 'bouletop.TopRegions'. -/
def topRegionsUptoCard : Claim7 := { stood := { row := topRegionsUptoRow, standIns := [], harness := (true, "dfae535e0563ac9a2a2c56a5152600a6b38affdee2349a55997ec6d95dbefae9"), looks := false }, kinds := [], alts := [], laidByText := true, laidKinds := [.data, .pinned], laidTests := true, laidLooks := .later }
def TopRegionsUptoCardSaid : Prop := Claim7.holds Tryd.pinned (.plain (OpenSpec.upto topRegionsSpec)) topRegionsUptoCard
end Rows
end Go.Proofs.YtfbkbkgjmpbmaaaDoor
