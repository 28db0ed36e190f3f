/-
  DERIVED. GIVEN WITH THE SEED: THE CARDS: each row of YtjfgbdmdnejhdaaDoorRows.lean that lists a variable, with what it lists TIED to the program's text (the seventh form; the later family's looks); each row that meets fmt, with fmt's text TOLD by the authors' own Lean function (tested against real Go, not proved from fmt's source: count such statements apart). THE CARD IS WHAT COUNTS. Prove the row's statement (the work); the ties are given (YtjfgbdmdnejhdaaDoorTie.lean); close each card by the builder's one call (the guide's Derived/Test/ToyasCard.lean, 'card_holds'). Laid BY PROGRAM, IN A SANDBOX (cutbox-door.mjs). By AI agents, Wed Nov 11 2026. No macro, syntax, notation, axiom, sorry.
-/
import Derived.Test.YtjfgbdmdnejhdaaDoorRows
import GoSem.ClaimSeven
namespace Go.Proofs.YtjfgbdmdnejhdaaDoor
namespace Rows

/-- THE TIED CARD OF 'bouletop.TopFits'. -/
def topFitsCard : Claim7 := { stood := { row := topFitsRow, standIns := [], harness := (true, "8760f3983bfe2e241ff4c6005b6806c8b9479fa09f7937c38ad514690aa2578c"), looks := false }, kinds := [], alts := [], laidByText := true, laidKinds := [.data, .pinned], laidTests := true, laidLooks := .later }
def TopFitsCardSaid : Prop := Claim7.holds Tryd.pinned (.plain (OpenSpec.ofChange topFitsSpec)) topFitsCard

/-- THE SECOND FORM's CARD OF 'bouletop.TopFits'. -/
def topFitsUptoCard : Claim7 := { stood := { row := topFitsUptoRow, standIns := [], harness := (true, "8760f3983bfe2e241ff4c6005b6806c8b9479fa09f7937c38ad514690aa2578c"), looks := false }, kinds := [], alts := [], laidByText := true, laidKinds := [.data, .pinned], laidTests := true, laidLooks := .later }
def TopFitsUptoCardSaid : Prop := Claim7.holds Tryd.pinned (.plain (OpenSpec.upto topFitsSpec)) topFitsUptoCard
end Rows
end Go.Proofs.YtjfgbdmdnejhdaaDoor
