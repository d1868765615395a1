/-
  DERIVED. GIVEN WITH THE SEED: THE CARDS: each row of YtopiogkolaelnaaGreatDoorRows.lean that lists a variable, with what it lists TIED to the program's text (the seventh form; the later family's looks); each row that meets fmt, with fmt's text TOLD by the authors' own Lean function (tested against real Go, not proved from fmt's source: count such statements apart). THE CARD IS WHAT COUNTS. Prove the row's statement (the work); the ties are given (YtopiogkolaelnaaGreatDoorTie.lean); close each card by the builder's one call (the guide's Derived/Test/ToyasCard.lean, 'card_holds'). Laid BY PROGRAM, IN A SANDBOX (cutbox-door.mjs). By AI agents, Wed Nov 11 2026. No macro, syntax, notation, axiom, sorry.
-/
import Derived.Test.YtopiogkolaelnaaGreatDoorRows
import GoSem.ClaimSeven
namespace Go.Proofs.YtopiogkolaelnaaGreatDoor
namespace Rows

/-- THE TIED CARD OF 'wringertop.TopSkewed'. -/
def topSkewedCard : Claim7 := { stood := { row := topSkewedRow, standIns := [], harness := (true, "f6cf4a1b4b638283fe0218aaabdbf111a3be10f9f524faa11e2aba3c3ac20354"), looks := true }, kinds := [], alts := [], laidByText := true, laidKinds := [.data, .handle, .sentinel, .pinned], laidTests := true, laidLooks := .later }
def TopSkewedCardSaid : Prop := Claim7.holds Tryz.pinned (.plain (OpenSpec.ofChange topSkewedSpec)) topSkewedCard

/-- THE SECOND FORM's CARD OF 'wringertop.TopSkewed'. -/
def topSkewedUptoCard : Claim7 := { stood := { row := topSkewedUptoRow, standIns := [], harness := (true, "f6cf4a1b4b638283fe0218aaabdbf111a3be10f9f524faa11e2aba3c3ac20354"), looks := true }, kinds := [], alts := [], laidByText := true, laidKinds := [.data, .handle, .sentinel, .pinned], laidTests := true, laidLooks := .later }
def TopSkewedUptoCardSaid : Prop := Claim7.holds Tryz.pinned (.plain (OpenSpec.upto topSkewedSpec)) topSkewedUptoCard
end Rows
end Go.Proofs.YtopiogkolaelnaaGreatDoor
