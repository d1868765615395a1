/-
  DERIVED. GIVEN WITH THE SEED: THE CARDS: each row of YtcpiknecmjbknaaGreatDoorRows.lean that lists a variable, with what it lists TIED to the program's text (the seventh form; the later family's looks); each row that meets fmt, with fmt's text TOLD by the authors' own Lean function (tested against real Go, not proved from fmt's source: count such statements apart). THE CARD IS WHAT COUNTS. Prove the row's statement (the work); the ties are given (YtcpiknecmjbknaaGreatDoorTie.lean); close each card by the builder's one call (the guide's Derived/Test/ToyasCard.lean, 'card_holds'). Laid BY PROGRAM, IN A SANDBOX (cutbox-door.mjs). By AI agents, Wed Nov 11 2026. No macro, syntax, notation, axiom, sorry.
-/
import Derived.Test.YtcpiknecmjbknaaGreatDoorRows
import GoSem.ClaimSeven
namespace Go.Proofs.YtcpiknecmjbknaaGreatDoor
namespace Rows

/-- THE TIED CARD OF 'wringertop.TopMerged'. -/
def topMergedCard : Claim7 := { stood := { row := topMergedRow, standIns := [], harness := (true, "71030bb4290001ba886cb9a04defc6d85d1f3e8dd0fa4cc1f8195e2b0b3e6600"), looks := true }, kinds := [], alts := [], laidByText := true, laidKinds := [.data, .handle, .sentinel, .pinned], laidTests := true, laidLooks := .later }
def TopMergedCardSaid : Prop := Claim7.holds Tryz.pinned (.plain (OpenSpec.ofChange topMergedSpec)) topMergedCard

/-- THE SECOND FORM's CARD OF 'wringertop.TopMerged'. -/
def topMergedUptoCard : Claim7 := { stood := { row := topMergedUptoRow, standIns := [], harness := (true, "71030bb4290001ba886cb9a04defc6d85d1f3e8dd0fa4cc1f8195e2b0b3e6600"), looks := true }, kinds := [], alts := [], laidByText := true, laidKinds := [.data, .handle, .sentinel, .pinned], laidTests := true, laidLooks := .later }
def TopMergedUptoCardSaid : Prop := Claim7.holds Tryz.pinned (.plain (OpenSpec.upto topMergedSpec)) topMergedUptoCard
end Rows
end Go.Proofs.YtcpiknecmjbknaaGreatDoor
