/-
  DERIVED. GIVEN WITH THE SEED: THE CARDS: each row of YtckloanlkpchoaaGreatDoorRows.lean that lists a variable, with what it lists TIED to the program's text (the seventh form; the later family's looks); each row that meets fmt, with fmt's text TOLD by the authors' own Lean function (tested against real Go, not proved from fmt's source: count such statements apart). THE CARD IS WHAT COUNTS. Prove the row's statement (the work); the ties are given (YtckloanlkpchoaaGreatDoorTie.lean); close each card by the builder's one call (the guide's Derived/Test/ToyasCard.lean, 'card_holds'). Laid BY PROGRAM, IN A SANDBOX (cutbox-door.mjs). By AI agents, Wed Nov 11 2026. No macro, syntax, notation, axiom, sorry.
-/
import Derived.Test.YtckloanlkpchoaaGreatDoorRows
import GoSem.ClaimSeven
namespace Go.Proofs.YtckloanlkpchoaaGreatDoor
namespace Rows

/-- THE TIED CARD OF 'wringertop.TopBoxed'. -/
def topBoxedCard : Claim7 := { stood := { row := topBoxedRow, standIns := [], harness := (true, "7b96afe11d36fde786fb361a16306212c26e2ca941e74c398ab67fd6309fed50"), looks := true }, kinds := [], alts := [], laidByText := true, laidKinds := [.handle, .sentinel, .sentinel], laidTests := true, laidLooks := .later }
def TopBoxedCardSaid : Prop := Claim7.holds Tryz.pinned (.plain (OpenSpec.ofChange topBoxedSpec)) topBoxedCard

/-- THE SECOND FORM's CARD OF 'wringertop.TopBoxed'. -/
def topBoxedUptoCard : Claim7 := { stood := { row := topBoxedUptoRow, standIns := [], harness := (true, "7b96afe11d36fde786fb361a16306212c26e2ca941e74c398ab67fd6309fed50"), looks := true }, kinds := [], alts := [], laidByText := true, laidKinds := [.handle, .sentinel, .sentinel], laidTests := true, laidLooks := .later }
def TopBoxedUptoCardSaid : Prop := Claim7.holds Tryz.pinned (.plain (OpenSpec.upto topBoxedSpec)) topBoxedUptoCard
end Rows
end Go.Proofs.YtckloanlkpchoaaGreatDoor
