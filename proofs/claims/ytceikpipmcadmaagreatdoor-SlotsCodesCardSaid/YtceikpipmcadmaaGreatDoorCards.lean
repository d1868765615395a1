/-
  DERIVED. GIVEN WITH THE SEED: THE CARDS: each row of YtceikpipmcadmaaGreatDoorRows.lean that lists a variable, with what it lists TIED to the program's text (the seventh form; the later family's looks); each row that meets fmt, with fmt's text TOLD by the authors' own Lean function (tested against real Go, not proved from fmt's source: count such statements apart). THE CARD IS WHAT COUNTS. Prove the row's statement (the work); the ties are given (YtceikpipmcadmaaGreatDoorTie.lean); close each card by the builder's one call (the guide's Derived/Test/ToyasCard.lean, 'card_holds'). Laid BY PROGRAM, IN A SANDBOX (cutbox-door.mjs). By AI agents, Wed Nov 11 2026. No macro, syntax, notation, axiom, sorry.
-/
import Derived.Test.YtceikpipmcadmaaGreatDoorRows
import GoSem.ClaimSeven
namespace Go.Proofs.YtceikpipmcadmaaGreatDoor
namespace Rows

/-- THE TIED CARD OF 'wringerlaw06.RecsWrites'. -/
def recsWritesCard : Claim7 := { stood := { row := recsWritesRow, standIns := [], harness := (true, "7b7353895110c235e967086556809f0876ba9d959eafac6214384ff2df4bb903"), looks := true }, kinds := [], alts := [], laidByText := true, laidKinds := [.data, .pinned], laidTests := true, laidLooks := .later }
def RecsWritesCardSaid : Prop := Claim7.holds Tryz.pinned (.plain (OpenSpec.ofChange recsWritesSpec)) recsWritesCard

/-- THE TIED CARD OF 'wringerlaw06.RecsReads'. -/
def recsReadsCard : Claim7 := { stood := { row := recsReadsRow, standIns := [], harness := (true, "7b7353895110c235e967086556809f0876ba9d959eafac6214384ff2df4bb903"), looks := true }, kinds := [], alts := [], laidByText := true, laidKinds := [.data, .pinned], laidTests := true, laidLooks := .later }
def RecsReadsCardSaid : Prop := Claim7.holds Tryz.pinned (.plain (OpenSpec.ofChange recsReadsSpec)) recsReadsCard

/-- THE TIED CARD OF 'wringerlaw06.RecsBack'. -/
def recsBackCard : Claim7 := { stood := { row := recsBackRow, standIns := [], harness := (true, "7b7353895110c235e967086556809f0876ba9d959eafac6214384ff2df4bb903"), looks := true }, kinds := [], alts := [], laidByText := true, laidKinds := [.data, .pinned], laidTests := true, laidLooks := .later }
def RecsBackCardSaid : Prop := Claim7.holds Tryz.pinned (.plain (OpenSpec.ofChange recsBackSpec)) recsBackCard

/-- THE TIED CARD OF 'wringerlaw06.RecsWhole'. -/
def recsWholeCard : Claim7 := { stood := { row := recsWholeRow, standIns := [], harness := (true, "7b7353895110c235e967086556809f0876ba9d959eafac6214384ff2df4bb903"), looks := true }, kinds := [], alts := [], laidByText := true, laidKinds := [.data, .pinned], laidTests := true, laidLooks := .later }
def RecsWholeCardSaid : Prop := Claim7.holds Tryz.pinned (.plain (OpenSpec.ofChange recsWholeSpec)) recsWholeCard

/-- THE TIED CARD OF 'wringerlaw25.SlotsCodes'. -/
def slotsCodesCard : Claim7 := { stood := { row := slotsCodesRow, standIns := [], harness := (true, "7b7353895110c235e967086556809f0876ba9d959eafac6214384ff2df4bb903"), looks := true }, kinds := [], alts := [], laidByText := true, laidKinds := [.data, .handle, .pinned], laidTests := true, laidLooks := .later }
def SlotsCodesCardSaid : Prop := Claim7.holds Tryz.pinned (.plain (OpenSpec.ofChange slotsCodesSpec)) slotsCodesCard

/-- THE TIED CARD OF 'wringerlaw25.SlotsBack'. -/
def slotsBackCard : Claim7 := { stood := { row := slotsBackRow, standIns := [], harness := (true, "7b7353895110c235e967086556809f0876ba9d959eafac6214384ff2df4bb903"), looks := true }, kinds := [], alts := [], laidByText := true, laidKinds := [.data, .handle, .pinned], laidTests := true, laidLooks := .later }
def SlotsBackCardSaid : Prop := Claim7.holds Tryz.pinned (.plain (OpenSpec.ofChange slotsBackSpec)) slotsBackCard

/-- THE TIED CARD OF 'wringerlaw25.SlotsSafe'. -/
def slotsSafeCard : Claim7 := { stood := { row := slotsSafeRow, standIns := [], harness := (true, "7b7353895110c235e967086556809f0876ba9d959eafac6214384ff2df4bb903"), looks := true }, kinds := [], alts := [], laidByText := true, laidKinds := [.data, .handle, .pinned], laidTests := true, laidLooks := .later }
def SlotsSafeCardSaid : Prop := Claim7.holds Tryz.pinned (.plain (OpenSpec.ofChange slotsSafeSpec)) slotsSafeCard

/-- THE SECOND FORM's CARD OF 'wringerlaw06.RecsWrites'. -/
def recsWritesUptoCard : Claim7 := { stood := { row := recsWritesUptoRow, standIns := [], harness := (true, "7b7353895110c235e967086556809f0876ba9d959eafac6214384ff2df4bb903"), looks := true }, kinds := [], alts := [], laidByText := true, laidKinds := [.data, .pinned], laidTests := true, laidLooks := .later }
def RecsWritesUptoCardSaid : Prop := Claim7.holds Tryz.pinned (.plain (OpenSpec.upto recsWritesSpec)) recsWritesUptoCard

/-- THE SECOND FORM's CARD OF 'wringerlaw06.RecsReads'. -/
def recsReadsUptoCard : Claim7 := { stood := { row := recsReadsUptoRow, standIns := [], harness := (true, "7b7353895110c235e967086556809f0876ba9d959eafac6214384ff2df4bb903"), looks := true }, kinds := [], alts := [], laidByText := true, laidKinds := [.data, .pinned], laidTests := true, laidLooks := .later }
def RecsReadsUptoCardSaid : Prop := Claim7.holds Tryz.pinned (.plain (OpenSpec.upto recsReadsSpec)) recsReadsUptoCard

/-- THE SECOND FORM's CARD OF 'wringerlaw06.RecsBack'. -/
def recsBackUptoCard : Claim7 := { stood := { row := recsBackUptoRow, standIns := [], harness := (true, "7b7353895110c235e967086556809f0876ba9d959eafac6214384ff2df4bb903"), looks := true }, kinds := [], alts := [], laidByText := true, laidKinds := [.data, .pinned], laidTests := true, laidLooks := .later }
def RecsBackUptoCardSaid : Prop := Claim7.holds Tryz.pinned (.plain (OpenSpec.upto recsBackSpec)) recsBackUptoCard

/-- THE SECOND FORM's CARD OF 'wringerlaw06.RecsWhole'. -/
def recsWholeUptoCard : Claim7 := { stood := { row := recsWholeUptoRow, standIns := [], harness := (true, "7b7353895110c235e967086556809f0876ba9d959eafac6214384ff2df4bb903"), looks := true }, kinds := [], alts := [], laidByText := true, laidKinds := [.data, .pinned], laidTests := true, laidLooks := .later }
def RecsWholeUptoCardSaid : Prop := Claim7.holds Tryz.pinned (.plain (OpenSpec.upto recsWholeSpec)) recsWholeUptoCard

/-- THE SECOND FORM's CARD OF 'wringerlaw25.SlotsCodes'. -/
def slotsCodesUptoCard : Claim7 := { stood := { row := slotsCodesUptoRow, standIns := [], harness := (true, "7b7353895110c235e967086556809f0876ba9d959eafac6214384ff2df4bb903"), looks := true }, kinds := [], alts := [], laidByText := true, laidKinds := [.data, .handle, .pinned], laidTests := true, laidLooks := .later }
def SlotsCodesUptoCardSaid : Prop := Claim7.holds Tryz.pinned (.plain (OpenSpec.upto slotsCodesSpec)) slotsCodesUptoCard

/-- THE SECOND FORM's CARD OF 'wringerlaw25.SlotsBack'. -/
def slotsBackUptoCard : Claim7 := { stood := { row := slotsBackUptoRow, standIns := [], harness := (true, "7b7353895110c235e967086556809f0876ba9d959eafac6214384ff2df4bb903"), looks := true }, kinds := [], alts := [], laidByText := true, laidKinds := [.data, .handle, .pinned], laidTests := true, laidLooks := .later }
def SlotsBackUptoCardSaid : Prop := Claim7.holds Tryz.pinned (.plain (OpenSpec.upto slotsBackSpec)) slotsBackUptoCard

/-- THE SECOND FORM's CARD OF 'wringerlaw25.SlotsSafe'. -/
def slotsSafeUptoCard : Claim7 := { stood := { row := slotsSafeUptoRow, standIns := [], harness := (true, "7b7353895110c235e967086556809f0876ba9d959eafac6214384ff2df4bb903"), looks := true }, kinds := [], alts := [], laidByText := true, laidKinds := [.data, .handle, .pinned], laidTests := true, laidLooks := .later }
def SlotsSafeUptoCardSaid : Prop := Claim7.holds Tryz.pinned (.plain (OpenSpec.upto slotsSafeSpec)) slotsSafeUptoCard
end Rows
end Go.Proofs.YtceikpipmcadmaaGreatDoor
