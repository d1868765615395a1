/-
  NARROWER THAN 'FOR EVERY INPUT', by the rows' own cells (each row's printed sentence says how): RecsWrites: laid · RecsReads: laid · RecsBack: laid · RecsWhole: laid · SlotsCodes: laid · SlotsBack: laid · SlotsSafe: laid.
  DERIVED. THE GIVEN ROWS OF THIS SEAT. 7 by the template 'for every input the law returns true; each argument reads behind the call as it read before'; 0 by the template 'total and deterministic' (their statements: YtceikpipmcadmaaGreatDoorTotals.lean).
  GIVEN WITH THE SEED: the statements are not yours to turn. If you find one false, say at which input.
  Laid BY PROGRAM, IN A SANDBOX (cutbox-rows.mjs): the forced cells as the released guide's own fill.sh prints them over the translation 528efb7d893bb165… (all of the seat's roots in one cut). By AI agents, Wed Nov 11 2026. No macro, syntax, notation, axiom, sorry.
-/
import Derived.Test.YtceikpipmcadmaaGreatDoorChecked
import GoSem.PinnedTables
import GoSem.Claim
import GoSem.ClaimJoined
import GoSem.ClaimMapViews
import Derived.JoinedTies
import Derived.KernelRfl
namespace Go.Proofs.YtceikpipmcadmaaGreatDoor
/- THE CELL 'sum', in the pinned program and in every row, IS THE sha256 OF THE DUMP (.gsa) THAT YtceikpipmcadmaaGreatDoorProg.lean LOADS. Nothing in Lean hashes anything: it is a label: what it is worth is what the hold of that sum in a sandbox is worth. -/
noncomputable def Tryz.pinned : Pinned := { name := "ytceikpipmcadmaagreatdoor", sum := "528efb7d893bb165becb1fc65475041406951187424b51e96c1dde5dd7e10095", checked := Tryz.checked }
namespace Rows
def none {H : Type} : Left H := { results := [], args := [] }

/- WHAT THE LISTED PACKAGE-LEVEL VARIABLES READ AS WHEN THE CALL BEGINS. Each datum BY PROGRAM (the guide's laid-datum.mjs) off the statement by which the dump's own 'gosem.cut.vars' lays the variable. In a bare row this is a premise. The card (YtceikpipmcadmaaGreatDoorCards.lean) ties it to the program's text. -/
def laid_unicode_utf8_acceptRanges {H : Type} : DataW H := .agg [.agg [.lit (.int .u8 128), .lit (.int .u8 191)], .agg [.lit (.int .u8 160), .lit (.int .u8 191)], .agg [.lit (.int .u8 128), .lit (.int .u8 159)], .agg [.lit (.int .u8 144), .lit (.int .u8 191)], .agg [.lit (.int .u8 128), .lit (.int .u8 143)], .agg [.lit (.int .u8 0), .lit (.int .u8 0)], .agg [.lit (.int .u8 0), .lit (.int .u8 0)], .agg [.lit (.int .u8 0), .lit (.int .u8 0)], .agg [.lit (.int .u8 0), .lit (.int .u8 0)], .agg [.lit (.int .u8 0), .lit (.int .u8 0)], .agg [.lit (.int .u8 0), .lit (.int .u8 0)], .agg [.lit (.int .u8 0), .lit (.int .u8 0)], .agg [.lit (.int .u8 0), .lit (.int .u8 0)], .agg [.lit (.int .u8 0), .lit (.int .u8 0)], .agg [.lit (.int .u8 0), .lit (.int .u8 0)], .agg [.lit (.int .u8 0), .lit (.int .u8 0)]]
/-- One of Go's own tables, pinned by name: the form's constant. -/
def laid_unicode_utf8_first : DataW Unit := Go.Pinned.utf8First
def laid_errors_errorType {H : Type} : DataW H := .iface "internal/reflectlite.rtype" (.agg [.ptr (.lit (.string [101, 114, 114, 111, 114]))])

/-- 'wringerlaw06.RecsWrites': WHATEVER THE INPUT: true; the input reads as it did. -/
def recsWritesSpec : ChangeSpec := { name := "recsWrites", fn := fun _ => fun
  | [d1, d2, d3, d4, d5, d6] => { results := [.lit (.bool true)], args := [d1, d2, d3, d4, d5, d6] }
  | _ => none }
def recsWritesRow : OpenClaim := { program := "ytceikpipmcadmaagreatdoor", sum := "528efb7d893bb165becb1fc65475041406951187424b51e96c1dde5dd7e10095", func := "wringer/wringerlaw06.RecsWrites", spec := "recsWrites", inPlace := ["internal/abi.NoEscape", "internal/bytealg.MakeNoZero", "slices.overlaps[wringer/api.Extent]", "internal/bytealg.IndexByteString", "internal/bytealg.IndexString"], unfollowed := true, recurses := true, named := ["unicode/utf8.first", "unicode/utf8.acceptRanges", "internal/bytealg.MaxLen"], apart := false, laid := [("unicode/utf8.acceptRanges", laid_unicode_utf8_acceptRanges), ("unicode/utf8.first", laid_unicode_utf8_first)] }
def RecsWritesSaid : Prop := recsWritesRow.holds Tryz.pinned (OpenSpec.ofChange recsWritesSpec)

/-- ITS FALSE NEIGHBOUR: 'it returns false'. Refute it at one input. -/
def recsWritesWrong : ChangeSpec := { name := "recsWrites", fn := fun _ => fun
  | [d1, d2, d3, d4, d5, d6] => { results := [.lit (.bool false)], args := [d1, d2, d3, d4, d5, d6] }
  | _ => none }
def RecsWritesWrongFalsely : Prop := recsWritesRow.holds Tryz.pinned (OpenSpec.ofChange recsWritesWrong)

/-- 'wringerlaw06.RecsReads': WHATEVER THE INPUT: true; the input reads as it did. -/
def recsReadsSpec : ChangeSpec := { name := "recsReads", fn := fun _ => fun
  | [d1, d2] => { results := [.lit (.bool true)], args := [d1, d2] }
  | _ => none }
def recsReadsRow : OpenClaim := { program := "ytceikpipmcadmaagreatdoor", sum := "528efb7d893bb165becb1fc65475041406951187424b51e96c1dde5dd7e10095", func := "wringer/wringerlaw06.RecsReads", spec := "recsReads", inPlace := ["internal/bytealg.IndexByteString", "internal/bytealg.IndexString", "internal/abi.NoEscape", "internal/bytealg.MakeNoZero", "slices.overlaps[wringer/api.Extent]"], unfollowed := true, recurses := true, named := ["unicode/utf8.first", "unicode/utf8.acceptRanges", "internal/bytealg.MaxLen"], apart := false, laid := [("unicode/utf8.acceptRanges", laid_unicode_utf8_acceptRanges), ("unicode/utf8.first", laid_unicode_utf8_first)] }
def RecsReadsSaid : Prop := recsReadsRow.holds Tryz.pinned (OpenSpec.ofChange recsReadsSpec)

/-- ITS FALSE NEIGHBOUR: 'it returns false'. Refute it at one input. -/
def recsReadsWrong : ChangeSpec := { name := "recsReads", fn := fun _ => fun
  | [d1, d2] => { results := [.lit (.bool false)], args := [d1, d2] }
  | _ => none }
def RecsReadsWrongFalsely : Prop := recsReadsRow.holds Tryz.pinned (OpenSpec.ofChange recsReadsWrong)

/-- 'wringerlaw06.RecsBack': WHATEVER THE INPUT: true; the input reads as it did. -/
def recsBackSpec : ChangeSpec := { name := "recsBack", fn := fun _ => fun
  | [d1, d2, d3, d4, d5, d6, d7] => { results := [.lit (.bool true)], args := [d1, d2, d3, d4, d5, d6, d7] }
  | _ => none }
def recsBackRow : OpenClaim := { program := "ytceikpipmcadmaagreatdoor", sum := "528efb7d893bb165becb1fc65475041406951187424b51e96c1dde5dd7e10095", func := "wringer/wringerlaw06.RecsBack", spec := "recsBack", inPlace := ["internal/abi.NoEscape", "internal/bytealg.MakeNoZero", "slices.overlaps[wringer/api.Extent]", "internal/bytealg.IndexByteString", "internal/bytealg.IndexString"], unfollowed := true, recurses := true, named := ["unicode/utf8.first", "unicode/utf8.acceptRanges", "internal/bytealg.MaxLen"], apart := false, laid := [("unicode/utf8.acceptRanges", laid_unicode_utf8_acceptRanges), ("unicode/utf8.first", laid_unicode_utf8_first)] }
def RecsBackSaid : Prop := recsBackRow.holds Tryz.pinned (OpenSpec.ofChange recsBackSpec)

/-- ITS FALSE NEIGHBOUR: 'it returns false'. Refute it at one input. -/
def recsBackWrong : ChangeSpec := { name := "recsBack", fn := fun _ => fun
  | [d1, d2, d3, d4, d5, d6, d7] => { results := [.lit (.bool false)], args := [d1, d2, d3, d4, d5, d6, d7] }
  | _ => none }
def RecsBackWrongFalsely : Prop := recsBackRow.holds Tryz.pinned (OpenSpec.ofChange recsBackWrong)

/-- 'wringerlaw06.RecsWhole': WHATEVER THE INPUT: true; the input reads as it did. -/
def recsWholeSpec : ChangeSpec := { name := "recsWhole", fn := fun _ => fun
  | [d1, d2, d3, d4, d5, d6] => { results := [.lit (.bool true)], args := [d1, d2, d3, d4, d5, d6] }
  | _ => none }
def recsWholeRow : OpenClaim := { program := "ytceikpipmcadmaagreatdoor", sum := "528efb7d893bb165becb1fc65475041406951187424b51e96c1dde5dd7e10095", func := "wringer/wringerlaw06.RecsWhole", spec := "recsWhole", inPlace := ["internal/abi.NoEscape", "internal/bytealg.MakeNoZero", "slices.overlaps[wringer/api.Extent]", "internal/bytealg.IndexByteString", "internal/bytealg.IndexString"], unfollowed := true, recurses := true, named := ["unicode/utf8.first", "unicode/utf8.acceptRanges", "internal/bytealg.MaxLen"], apart := false, laid := [("unicode/utf8.acceptRanges", laid_unicode_utf8_acceptRanges), ("unicode/utf8.first", laid_unicode_utf8_first)] }
def RecsWholeSaid : Prop := recsWholeRow.holds Tryz.pinned (OpenSpec.ofChange recsWholeSpec)

/-- ITS FALSE NEIGHBOUR: 'it returns false'. Refute it at one input. -/
def recsWholeWrong : ChangeSpec := { name := "recsWhole", fn := fun _ => fun
  | [d1, d2, d3, d4, d5, d6] => { results := [.lit (.bool false)], args := [d1, d2, d3, d4, d5, d6] }
  | _ => none }
def RecsWholeWrongFalsely : Prop := recsWholeRow.holds Tryz.pinned (OpenSpec.ofChange recsWholeWrong)

/-- 'wringerlaw25.SlotsCodes': WHATEVER THE INPUT: true; the input reads as it did. -/
def slotsCodesSpec : ChangeSpec := { name := "slotsCodes", fn := fun _ => fun
  | [d1, d2] => { results := [.lit (.bool true)], args := [d1, d2] }
  | _ => none }
def slotsCodesRow : OpenClaim := { program := "ytceikpipmcadmaagreatdoor", sum := "528efb7d893bb165becb1fc65475041406951187424b51e96c1dde5dd7e10095", func := "wringer/wringerlaw25.SlotsCodes", spec := "slotsCodes", inPlace := ["internal/abi.NoEscape", "internal/bytealg.MakeNoZero", "internal/bytealg.IndexByteString", "internal/bytealg.IndexString", "internal/reflectlite.ValueOf", "(internal/reflectlite.Value).Type", "(internal/reflectlite.Value).IsNil", "internal/reflectlite.TypeOf", "(internal/reflectlite.Value).Elem", "(internal/reflectlite.Value).Set", "slices.overlaps[wringer/api.Extent]"], unfollowed := true, recurses := true, named := ["unicode/utf8.first", "unicode/utf8.acceptRanges", "errors.errorType", "internal/bytealg.MaxLen"], apart := false, laid := [("unicode/utf8.acceptRanges", laid_unicode_utf8_acceptRanges), ("errors.errorType", laid_errors_errorType), ("unicode/utf8.first", laid_unicode_utf8_first)] }
def SlotsCodesSaid : Prop := slotsCodesRow.holds Tryz.pinned (OpenSpec.ofChange slotsCodesSpec)

/-- ITS FALSE NEIGHBOUR: 'it returns false'. Refute it at one input. -/
def slotsCodesWrong : ChangeSpec := { name := "slotsCodes", fn := fun _ => fun
  | [d1, d2] => { results := [.lit (.bool false)], args := [d1, d2] }
  | _ => none }
def SlotsCodesWrongFalsely : Prop := slotsCodesRow.holds Tryz.pinned (OpenSpec.ofChange slotsCodesWrong)

/-- 'wringerlaw25.SlotsBack': WHATEVER THE INPUT: true; the input reads as it did. -/
def slotsBackSpec : ChangeSpec := { name := "slotsBack", fn := fun _ => fun
  | [d1, d2, d3, d4] => { results := [.lit (.bool true)], args := [d1, d2, d3, d4] }
  | _ => none }
def slotsBackRow : OpenClaim := { program := "ytceikpipmcadmaagreatdoor", sum := "528efb7d893bb165becb1fc65475041406951187424b51e96c1dde5dd7e10095", func := "wringer/wringerlaw25.SlotsBack", spec := "slotsBack", inPlace := ["internal/abi.NoEscape", "internal/bytealg.MakeNoZero", "internal/bytealg.IndexByteString", "internal/bytealg.IndexString", "internal/reflectlite.ValueOf", "(internal/reflectlite.Value).Type", "(internal/reflectlite.Value).IsNil", "internal/reflectlite.TypeOf", "(internal/reflectlite.Value).Elem", "(internal/reflectlite.Value).Set", "slices.overlaps[wringer/api.Extent]"], unfollowed := true, recurses := true, named := ["unicode/utf8.first", "unicode/utf8.acceptRanges", "errors.errorType", "internal/bytealg.MaxLen"], apart := false, laid := [("unicode/utf8.acceptRanges", laid_unicode_utf8_acceptRanges), ("errors.errorType", laid_errors_errorType), ("unicode/utf8.first", laid_unicode_utf8_first)] }
def SlotsBackSaid : Prop := slotsBackRow.holds Tryz.pinned (OpenSpec.ofChange slotsBackSpec)

/-- ITS FALSE NEIGHBOUR: 'it returns false'. Refute it at one input. -/
def slotsBackWrong : ChangeSpec := { name := "slotsBack", fn := fun _ => fun
  | [d1, d2, d3, d4] => { results := [.lit (.bool false)], args := [d1, d2, d3, d4] }
  | _ => none }
def SlotsBackWrongFalsely : Prop := slotsBackRow.holds Tryz.pinned (OpenSpec.ofChange slotsBackWrong)

/-- 'wringerlaw25.SlotsSafe': WHATEVER THE INPUT: true; the input reads as it did. -/
def slotsSafeSpec : ChangeSpec := { name := "slotsSafe", fn := fun _ => fun
  | [d1, d2, d3, d4, d5] => { results := [.lit (.bool true)], args := [d1, d2, d3, d4, d5] }
  | _ => none }
def slotsSafeRow : OpenClaim := { program := "ytceikpipmcadmaagreatdoor", sum := "528efb7d893bb165becb1fc65475041406951187424b51e96c1dde5dd7e10095", func := "wringer/wringerlaw25.SlotsSafe", spec := "slotsSafe", inPlace := ["internal/abi.NoEscape", "internal/bytealg.MakeNoZero", "internal/bytealg.IndexByteString", "internal/bytealg.IndexString", "internal/reflectlite.ValueOf", "(internal/reflectlite.Value).Type", "(internal/reflectlite.Value).IsNil", "internal/reflectlite.TypeOf", "(internal/reflectlite.Value).Elem", "(internal/reflectlite.Value).Set", "slices.overlaps[wringer/api.Extent]"], unfollowed := true, recurses := true, named := ["unicode/utf8.first", "unicode/utf8.acceptRanges", "errors.errorType", "internal/bytealg.MaxLen"], apart := false, laid := [("unicode/utf8.acceptRanges", laid_unicode_utf8_acceptRanges), ("errors.errorType", laid_errors_errorType), ("unicode/utf8.first", laid_unicode_utf8_first)] }
def SlotsSafeSaid : Prop := slotsSafeRow.holds Tryz.pinned (OpenSpec.ofChange slotsSafeSpec)

/-- ITS FALSE NEIGHBOUR: 'it returns false'. Refute it at one input. -/
def slotsSafeWrong : ChangeSpec := { name := "slotsSafe", fn := fun _ => fun
  | [d1, d2, d3, d4, d5] => { results := [.lit (.bool false)], args := [d1, d2, d3, d4, d5] }
  | _ => none }
def SlotsSafeWrongFalsely : Prop := slotsSafeRow.holds Tryz.pinned (OpenSpec.ofChange slotsSafeWrong)

/- THE SECOND FORM. 'bulk': how many values and letters a reading holds, each counted each time it is reached (what is shared counts as often as it is met; a slice's spare places count too). A statement '..UptoSaid' is the law's where the arguments, and the package variables that the reading takes, are together of bulk at most 1048576: NARROWER than '..Said'. Prove '..Said' where nothing that the law and all that it calls make is longer than what came in: it says more and counts as full. Else prove '..UptoSaid'. A law counts once. -/
mutual
def uptoBulk {H : Type} : DataW H → Nat
  | .lit (.string bytes) => bytes.length + 1
  | .lit _ => 1
  | .nil => 1
  | .ptr d => uptoBulk d + 1
  | .slice elems spare => uptoBulkAll elems + uptoBulkAll spare + 1
  | .agg parts => uptoBulkAll parts + 1
  | .iface _ d => uptoBulk d + 1
  | .map entries => uptoBulkEntries entries + 1
  | .held _ => 1
def uptoBulkAll {H : Type} : List (DataW H) → Nat
  | [] => 0
  | d :: r => uptoBulk d + uptoBulkAll r
def uptoBulkEntries {H : Type} : List (Lit × DataW H) → Nat
  | [] => 0
  | x :: r => uptoBulkEntry x + uptoBulkEntries r
def uptoBulkEntry {H : Type} : Lit × DataW H → Nat
  | (.string bytes, d) => bytes.length + uptoBulk d + 1
  | (_, d) => uptoBulk d + 1
 end
def uptoSmall : (H : Type) → List (DataW H) → Bool := fun _ ds => decide (uptoBulkAll ds ≤ 1048576)
def OpenSpec.upto (s : _root_.Go.ChangeSpec) : _root_.Go.OpenSpec := { _root_.Go.OpenSpec.ofChange s with cond := some uptoSmall }

/-- 'wringerlaw06.RecsWrites', WHERE WHAT IT READS IS OF BULK AT MOST 1048576: true; the input reads as it did. -/
def recsWritesUptoRow : OpenClaim := { program := "ytceikpipmcadmaagreatdoor", sum := "528efb7d893bb165becb1fc65475041406951187424b51e96c1dde5dd7e10095", func := "wringer/wringerlaw06.RecsWrites", spec := "recsWrites", inPlace := ["internal/abi.NoEscape", "internal/bytealg.MakeNoZero", "slices.overlaps[wringer/api.Extent]", "internal/bytealg.IndexByteString", "internal/bytealg.IndexString"], unfollowed := true, recurses := true, named := ["unicode/utf8.first", "unicode/utf8.acceptRanges", "internal/bytealg.MaxLen"], apart := false, laid := [("unicode/utf8.acceptRanges", laid_unicode_utf8_acceptRanges), ("unicode/utf8.first", laid_unicode_utf8_first)], narrowed := true }
def RecsWritesUptoSaid : Prop := recsWritesUptoRow.holds Tryz.pinned (OpenSpec.upto recsWritesSpec)

/-- 'wringerlaw06.RecsReads', WHERE WHAT IT READS IS OF BULK AT MOST 1048576: true; the input reads as it did. -/
def recsReadsUptoRow : OpenClaim := { program := "ytceikpipmcadmaagreatdoor", sum := "528efb7d893bb165becb1fc65475041406951187424b51e96c1dde5dd7e10095", func := "wringer/wringerlaw06.RecsReads", spec := "recsReads", inPlace := ["internal/bytealg.IndexByteString", "internal/bytealg.IndexString", "internal/abi.NoEscape", "internal/bytealg.MakeNoZero", "slices.overlaps[wringer/api.Extent]"], unfollowed := true, recurses := true, named := ["unicode/utf8.first", "unicode/utf8.acceptRanges", "internal/bytealg.MaxLen"], apart := false, laid := [("unicode/utf8.acceptRanges", laid_unicode_utf8_acceptRanges), ("unicode/utf8.first", laid_unicode_utf8_first)], narrowed := true }
def RecsReadsUptoSaid : Prop := recsReadsUptoRow.holds Tryz.pinned (OpenSpec.upto recsReadsSpec)

/-- 'wringerlaw06.RecsBack', WHERE WHAT IT READS IS OF BULK AT MOST 1048576: true; the input reads as it did. -/
def recsBackUptoRow : OpenClaim := { program := "ytceikpipmcadmaagreatdoor", sum := "528efb7d893bb165becb1fc65475041406951187424b51e96c1dde5dd7e10095", func := "wringer/wringerlaw06.RecsBack", spec := "recsBack", inPlace := ["internal/abi.NoEscape", "internal/bytealg.MakeNoZero", "slices.overlaps[wringer/api.Extent]", "internal/bytealg.IndexByteString", "internal/bytealg.IndexString"], unfollowed := true, recurses := true, named := ["unicode/utf8.first", "unicode/utf8.acceptRanges", "internal/bytealg.MaxLen"], apart := false, laid := [("unicode/utf8.acceptRanges", laid_unicode_utf8_acceptRanges), ("unicode/utf8.first", laid_unicode_utf8_first)], narrowed := true }
def RecsBackUptoSaid : Prop := recsBackUptoRow.holds Tryz.pinned (OpenSpec.upto recsBackSpec)

/-- 'wringerlaw06.RecsWhole', WHERE WHAT IT READS IS OF BULK AT MOST 1048576: true; the input reads as it did. -/
def recsWholeUptoRow : OpenClaim := { program := "ytceikpipmcadmaagreatdoor", sum := "528efb7d893bb165becb1fc65475041406951187424b51e96c1dde5dd7e10095", func := "wringer/wringerlaw06.RecsWhole", spec := "recsWhole", inPlace := ["internal/abi.NoEscape", "internal/bytealg.MakeNoZero", "slices.overlaps[wringer/api.Extent]", "internal/bytealg.IndexByteString", "internal/bytealg.IndexString"], unfollowed := true, recurses := true, named := ["unicode/utf8.first", "unicode/utf8.acceptRanges", "internal/bytealg.MaxLen"], apart := false, laid := [("unicode/utf8.acceptRanges", laid_unicode_utf8_acceptRanges), ("unicode/utf8.first", laid_unicode_utf8_first)], narrowed := true }
def RecsWholeUptoSaid : Prop := recsWholeUptoRow.holds Tryz.pinned (OpenSpec.upto recsWholeSpec)

/-- 'wringerlaw25.SlotsCodes', WHERE WHAT IT READS IS OF BULK AT MOST 1048576: true; the input reads as it did. -/
def slotsCodesUptoRow : OpenClaim := { program := "ytceikpipmcadmaagreatdoor", sum := "528efb7d893bb165becb1fc65475041406951187424b51e96c1dde5dd7e10095", func := "wringer/wringerlaw25.SlotsCodes", spec := "slotsCodes", inPlace := ["internal/abi.NoEscape", "internal/bytealg.MakeNoZero", "internal/bytealg.IndexByteString", "internal/bytealg.IndexString", "internal/reflectlite.ValueOf", "(internal/reflectlite.Value).Type", "(internal/reflectlite.Value).IsNil", "internal/reflectlite.TypeOf", "(internal/reflectlite.Value).Elem", "(internal/reflectlite.Value).Set", "slices.overlaps[wringer/api.Extent]"], unfollowed := true, recurses := true, named := ["unicode/utf8.first", "unicode/utf8.acceptRanges", "errors.errorType", "internal/bytealg.MaxLen"], apart := false, laid := [("unicode/utf8.acceptRanges", laid_unicode_utf8_acceptRanges), ("errors.errorType", laid_errors_errorType), ("unicode/utf8.first", laid_unicode_utf8_first)], narrowed := true }
def SlotsCodesUptoSaid : Prop := slotsCodesUptoRow.holds Tryz.pinned (OpenSpec.upto slotsCodesSpec)

/-- 'wringerlaw25.SlotsBack', WHERE WHAT IT READS IS OF BULK AT MOST 1048576: true; the input reads as it did. -/
def slotsBackUptoRow : OpenClaim := { program := "ytceikpipmcadmaagreatdoor", sum := "528efb7d893bb165becb1fc65475041406951187424b51e96c1dde5dd7e10095", func := "wringer/wringerlaw25.SlotsBack", spec := "slotsBack", inPlace := ["internal/abi.NoEscape", "internal/bytealg.MakeNoZero", "internal/bytealg.IndexByteString", "internal/bytealg.IndexString", "internal/reflectlite.ValueOf", "(internal/reflectlite.Value).Type", "(internal/reflectlite.Value).IsNil", "internal/reflectlite.TypeOf", "(internal/reflectlite.Value).Elem", "(internal/reflectlite.Value).Set", "slices.overlaps[wringer/api.Extent]"], unfollowed := true, recurses := true, named := ["unicode/utf8.first", "unicode/utf8.acceptRanges", "errors.errorType", "internal/bytealg.MaxLen"], apart := false, laid := [("unicode/utf8.acceptRanges", laid_unicode_utf8_acceptRanges), ("errors.errorType", laid_errors_errorType), ("unicode/utf8.first", laid_unicode_utf8_first)], narrowed := true }
def SlotsBackUptoSaid : Prop := slotsBackUptoRow.holds Tryz.pinned (OpenSpec.upto slotsBackSpec)

/-- 'wringerlaw25.SlotsSafe', WHERE WHAT IT READS IS OF BULK AT MOST 1048576: true; the input reads as it did. -/
def slotsSafeUptoRow : OpenClaim := { program := "ytceikpipmcadmaagreatdoor", sum := "528efb7d893bb165becb1fc65475041406951187424b51e96c1dde5dd7e10095", func := "wringer/wringerlaw25.SlotsSafe", spec := "slotsSafe", inPlace := ["internal/abi.NoEscape", "internal/bytealg.MakeNoZero", "internal/bytealg.IndexByteString", "internal/bytealg.IndexString", "internal/reflectlite.ValueOf", "(internal/reflectlite.Value).Type", "(internal/reflectlite.Value).IsNil", "internal/reflectlite.TypeOf", "(internal/reflectlite.Value).Elem", "(internal/reflectlite.Value).Set", "slices.overlaps[wringer/api.Extent]"], unfollowed := true, recurses := true, named := ["unicode/utf8.first", "unicode/utf8.acceptRanges", "errors.errorType", "internal/bytealg.MaxLen"], apart := false, laid := [("unicode/utf8.acceptRanges", laid_unicode_utf8_acceptRanges), ("errors.errorType", laid_errors_errorType), ("unicode/utf8.first", laid_unicode_utf8_first)], narrowed := true }
def SlotsSafeUptoSaid : Prop := slotsSafeUptoRow.holds Tryz.pinned (OpenSpec.upto slotsSafeSpec)

end Rows
end Go.Proofs.YtceikpipmcadmaaGreatDoor
