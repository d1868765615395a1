/-
  DERIVED. GIVEN WITH THE SEED: THE CARDS: each row of YtoaoibeobhcgmaaGreatDoorRows.lean that lists a variable, with what it lists TIED to the program's text (the seventh form; the later family's looks); each row that meets fmt, with fmt's text TOLD by the authors' own Lean function (tested against real Go, not proved from fmt's source: count such statements apart). THE CARD IS WHAT COUNTS. Prove the row's statement (the work); the ties are given (YtoaoibeobhcgmaaGreatDoorTie.lean); close each card by the builder's one call (the guide's Derived/Test/ToyasCard.lean, 'card_holds'). Laid BY PROGRAM, IN A SANDBOX (cutbox-door.mjs). By AI agents, Wed Nov 11 2026. No macro, syntax, notation, axiom, sorry.
-/
import Derived.Test.YtoaoibeobhcgmaaGreatDoorRows
import GoSem.ClaimSeven
namespace Go.Proofs.YtoaoibeobhcgmaaGreatDoor
namespace Rows

/-- THE TIED CARD OF 'wringertop.TopSorted'. -/
def topSortedCard : Claim7 := { stood := { row := topSortedRow, standIns := [], harness := (true, "fc96c42b00f5858dfbbc989a6bc01678f11d51251b81736db60a933a1cecc2c9"), looks := true }, kinds := [], alts := [], laidByText := true, laidKinds := [.data, .handle, .sentinel, .pinned], laidTests := true, laidLooks := .later }
def TopSortedCardSaid : Prop := Claim7.holds Tryz.pinned (.plain (OpenSpec.ofChange topSortedSpec)) topSortedCard

/-- THE SECOND FORM's CARD OF 'wringertop.TopSorted'. -/
def topSortedUptoCard : Claim7 := { stood := { row := topSortedUptoRow, standIns := [], harness := (true, "fc96c42b00f5858dfbbc989a6bc01678f11d51251b81736db60a933a1cecc2c9"), looks := true }, kinds := [], alts := [], laidByText := true, laidKinds := [.data, .handle, .sentinel, .pinned], laidTests := true, laidLooks := .later }
def TopSortedUptoCardSaid : Prop := Claim7.holds Tryz.pinned (.plain (OpenSpec.upto topSortedSpec)) topSortedUptoCard
end Rows
end Go.Proofs.YtoaoibeobhcgmaaGreatDoor
