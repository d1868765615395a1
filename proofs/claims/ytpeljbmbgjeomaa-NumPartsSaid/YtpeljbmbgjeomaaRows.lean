/-
  No cell of these rows narrows 'for every input' (looked for: loops, veiled, ifaces, maps, wideKeys, modest, calm, conditions, laid).
  DERIVED. THE GIVEN ROWS OF THIS SEAT. 12 by the template 'for every input the law returns true; each argument reads behind the call as it read before'; 0 by the template 'total and deterministic' (their statements: YtpeljbmbgjeomaaTotals.lean).
  GIVEN WITH THE SEED: the statements are not yours to turn. If you find one false, say at which input.
  Laid BY PROGRAM, IN A SANDBOX (cutbox-rows.mjs): the forced cells as the released guide's own fill.sh prints them over the translation d1b58ea6acf49483… (all of the seat's roots in one cut). By AI agents, Wed Nov 11 2026. No macro, syntax, notation, axiom, sorry.
-/
import Derived.Test.YtpeljbmbgjeomaaChecked
import GoSem.Claim
import GoSem.ClaimJoined
import GoSem.ClaimMapViews
import Derived.JoinedTies
import Derived.KernelRfl
namespace Go.Proofs.Ytpeljbmbgjeomaa
/- THE CELL 'sum', in the pinned program and in every row, IS THE sha256 OF THE DUMP (.gsa) THAT YtpeljbmbgjeomaaProg.lean LOADS. Nothing in Lean hashes anything: it is a label: what it is worth is what the hold of that sum in a sandbox is worth. -/
noncomputable def Try.pinned : Pinned := { name := "ytpeljbmbgjeomaa", sum := "d1b58ea6acf49483cbf969338d2ee18e06a520227083f047d26c925dcb448a24", checked := Try.checked }
namespace Rows
def none {H : Type} : Left H := { results := [], args := [] }

/-- 'wringerlaw01.BitsPuts': WHATEVER THE INPUT: true; the input reads as it did. -/
def bitsPutsSpec : ChangeSpec := { name := "bitsPuts", fn := fun _ => fun
  | [d1, d2, d3, d4] => { results := [.lit (.bool true)], args := [d1, d2, d3, d4] }
  | _ => none }
def bitsPutsRow : OpenClaim := { program := "ytpeljbmbgjeomaa", sum := "d1b58ea6acf49483cbf969338d2ee18e06a520227083f047d26c925dcb448a24", func := "wringer/wringerlaw01.BitsPuts", spec := "bitsPuts", apart := false }
def BitsPutsSaid : Prop := bitsPutsRow.holds Try.pinned (OpenSpec.ofChange bitsPutsSpec)

/-- ITS FALSE NEIGHBOUR: 'it returns false'. Refute it at one input. -/
def bitsPutsWrong : ChangeSpec := { name := "bitsPuts", fn := fun _ => fun
  | [d1, d2, d3, d4] => { results := [.lit (.bool false)], args := [d1, d2, d3, d4] }
  | _ => none }
def BitsPutsWrongFalsely : Prop := bitsPutsRow.holds Try.pinned (OpenSpec.ofChange bitsPutsWrong)

/-- 'wringerlaw01.BitsBack': WHATEVER THE INPUT: true; the input reads as it did. -/
def bitsBackSpec : ChangeSpec := { name := "bitsBack", fn := fun _ => fun
  | [d1, d2, d3, d4, d5] => { results := [.lit (.bool true)], args := [d1, d2, d3, d4, d5] }
  | _ => none }
def bitsBackRow : OpenClaim := { program := "ytpeljbmbgjeomaa", sum := "d1b58ea6acf49483cbf969338d2ee18e06a520227083f047d26c925dcb448a24", func := "wringer/wringerlaw01.BitsBack", spec := "bitsBack", apart := false }
def BitsBackSaid : Prop := bitsBackRow.holds Try.pinned (OpenSpec.ofChange bitsBackSpec)

/-- ITS FALSE NEIGHBOUR: 'it returns false'. Refute it at one input. -/
def bitsBackWrong : ChangeSpec := { name := "bitsBack", fn := fun _ => fun
  | [d1, d2, d3, d4, d5] => { results := [.lit (.bool false)], args := [d1, d2, d3, d4, d5] }
  | _ => none }
def BitsBackWrongFalsely : Prop := bitsBackRow.holds Try.pinned (OpenSpec.ofChange bitsBackWrong)

/-- 'wringerlaw01.BitsLong': WHATEVER THE INPUT: true; the input reads as it did. -/
def bitsLongSpec : ChangeSpec := { name := "bitsLong", fn := fun _ => fun
  | [d1, d2, d3, d4] => { results := [.lit (.bool true)], args := [d1, d2, d3, d4] }
  | _ => none }
def bitsLongRow : OpenClaim := { program := "ytpeljbmbgjeomaa", sum := "d1b58ea6acf49483cbf969338d2ee18e06a520227083f047d26c925dcb448a24", func := "wringer/wringerlaw01.BitsLong", spec := "bitsLong", apart := false }
def BitsLongSaid : Prop := bitsLongRow.holds Try.pinned (OpenSpec.ofChange bitsLongSpec)

/-- ITS FALSE NEIGHBOUR: 'it returns false'. Refute it at one input. -/
def bitsLongWrong : ChangeSpec := { name := "bitsLong", fn := fun _ => fun
  | [d1, d2, d3, d4] => { results := [.lit (.bool false)], args := [d1, d2, d3, d4] }
  | _ => none }
def BitsLongWrongFalsely : Prop := bitsLongRow.holds Try.pinned (OpenSpec.ofChange bitsLongWrong)

/-- 'wringerlaw01.BitsCuts': WHATEVER THE INPUT: true; the input reads as it did. -/
def bitsCutsSpec : ChangeSpec := { name := "bitsCuts", fn := fun _ => fun
  | [d1, d2, d3, d4] => { results := [.lit (.bool true)], args := [d1, d2, d3, d4] }
  | _ => none }
def bitsCutsRow : OpenClaim := { program := "ytpeljbmbgjeomaa", sum := "d1b58ea6acf49483cbf969338d2ee18e06a520227083f047d26c925dcb448a24", func := "wringer/wringerlaw01.BitsCuts", spec := "bitsCuts", apart := false }
def BitsCutsSaid : Prop := bitsCutsRow.holds Try.pinned (OpenSpec.ofChange bitsCutsSpec)

/-- ITS FALSE NEIGHBOUR: 'it returns false'. Refute it at one input. -/
def bitsCutsWrong : ChangeSpec := { name := "bitsCuts", fn := fun _ => fun
  | [d1, d2, d3, d4] => { results := [.lit (.bool false)], args := [d1, d2, d3, d4] }
  | _ => none }
def BitsCutsWrongFalsely : Prop := bitsCutsRow.holds Try.pinned (OpenSpec.ofChange bitsCutsWrong)

/-- 'wringerlaw03.NumFives': WHATEVER THE INPUT: true; the input reads as it did. -/
def numFivesSpec : ChangeSpec := { name := "numFives", fn := fun _ => fun
  | [d1, d2] => { results := [.lit (.bool true)], args := [d1, d2] }
  | _ => none }
def numFivesRow : OpenClaim := { program := "ytpeljbmbgjeomaa", sum := "d1b58ea6acf49483cbf969338d2ee18e06a520227083f047d26c925dcb448a24", func := "wringer/wringerlaw03.NumFives", spec := "numFives", unfollowed := true, recurses := true, apart := false }
def NumFivesSaid : Prop := numFivesRow.holds Try.pinned (OpenSpec.ofChange numFivesSpec)

/-- ITS FALSE NEIGHBOUR: 'it returns false'. Refute it at one input. -/
def numFivesWrong : ChangeSpec := { name := "numFives", fn := fun _ => fun
  | [d1, d2] => { results := [.lit (.bool false)], args := [d1, d2] }
  | _ => none }
def NumFivesWrongFalsely : Prop := numFivesRow.holds Try.pinned (OpenSpec.ofChange numFivesWrong)

/-- 'wringerlaw03.NumShorts': WHATEVER THE INPUT: true; the input reads as it did. -/
def numShortsSpec : ChangeSpec := { name := "numShorts", fn := fun _ => fun
  | [d1, d2] => { results := [.lit (.bool true)], args := [d1, d2] }
  | _ => none }
def numShortsRow : OpenClaim := { program := "ytpeljbmbgjeomaa", sum := "d1b58ea6acf49483cbf969338d2ee18e06a520227083f047d26c925dcb448a24", func := "wringer/wringerlaw03.NumShorts", spec := "numShorts", unfollowed := true, recurses := true, apart := false }
def NumShortsSaid : Prop := numShortsRow.holds Try.pinned (OpenSpec.ofChange numShortsSpec)

/-- ITS FALSE NEIGHBOUR: 'it returns false'. Refute it at one input. -/
def numShortsWrong : ChangeSpec := { name := "numShorts", fn := fun _ => fun
  | [d1, d2] => { results := [.lit (.bool false)], args := [d1, d2] }
  | _ => none }
def NumShortsWrongFalsely : Prop := numShortsRow.holds Try.pinned (OpenSpec.ofChange numShortsWrong)

/-- 'wringerlaw03.NumRecords': WHATEVER THE INPUT: true; the input reads as it did. -/
def numRecordsSpec : ChangeSpec := { name := "numRecords", fn := fun _ => fun
  | [d1, d2, d3, d4] => { results := [.lit (.bool true)], args := [d1, d2, d3, d4] }
  | _ => none }
def numRecordsRow : OpenClaim := { program := "ytpeljbmbgjeomaa", sum := "d1b58ea6acf49483cbf969338d2ee18e06a520227083f047d26c925dcb448a24", func := "wringer/wringerlaw03.NumRecords", spec := "numRecords", unfollowed := true, recurses := true, apart := false }
def NumRecordsSaid : Prop := numRecordsRow.holds Try.pinned (OpenSpec.ofChange numRecordsSpec)

/-- ITS FALSE NEIGHBOUR: 'it returns false'. Refute it at one input. -/
def numRecordsWrong : ChangeSpec := { name := "numRecords", fn := fun _ => fun
  | [d1, d2, d3, d4] => { results := [.lit (.bool false)], args := [d1, d2, d3, d4] }
  | _ => none }
def NumRecordsWrongFalsely : Prop := numRecordsRow.holds Try.pinned (OpenSpec.ofChange numRecordsWrong)

/-- 'wringerlaw03.NumBack': WHATEVER THE INPUT: true; the input reads as it did. -/
def numBackSpec : ChangeSpec := { name := "numBack", fn := fun _ => fun
  | [d1, d2] => { results := [.lit (.bool true)], args := [d1, d2] }
  | _ => none }
def numBackRow : OpenClaim := { program := "ytpeljbmbgjeomaa", sum := "d1b58ea6acf49483cbf969338d2ee18e06a520227083f047d26c925dcb448a24", func := "wringer/wringerlaw03.NumBack", spec := "numBack", unfollowed := true, recurses := true, apart := false }
def NumBackSaid : Prop := numBackRow.holds Try.pinned (OpenSpec.ofChange numBackSpec)

/-- ITS FALSE NEIGHBOUR: 'it returns false'. Refute it at one input. -/
def numBackWrong : ChangeSpec := { name := "numBack", fn := fun _ => fun
  | [d1, d2] => { results := [.lit (.bool false)], args := [d1, d2] }
  | _ => none }
def NumBackWrongFalsely : Prop := numBackRow.holds Try.pinned (OpenSpec.ofChange numBackWrong)

/-- 'wringerlaw03.NumOrder': WHATEVER THE INPUT: true; the input reads as it did. -/
def numOrderSpec : ChangeSpec := { name := "numOrder", fn := fun _ => fun
  | [d1, d2, d3, d4] => { results := [.lit (.bool true)], args := [d1, d2, d3, d4] }
  | _ => none }
def numOrderRow : OpenClaim := { program := "ytpeljbmbgjeomaa", sum := "d1b58ea6acf49483cbf969338d2ee18e06a520227083f047d26c925dcb448a24", func := "wringer/wringerlaw03.NumOrder", spec := "numOrder", unfollowed := true, recurses := true, apart := false }
def NumOrderSaid : Prop := numOrderRow.holds Try.pinned (OpenSpec.ofChange numOrderSpec)

/-- ITS FALSE NEIGHBOUR: 'it returns false'. Refute it at one input. -/
def numOrderWrong : ChangeSpec := { name := "numOrder", fn := fun _ => fun
  | [d1, d2, d3, d4] => { results := [.lit (.bool false)], args := [d1, d2, d3, d4] }
  | _ => none }
def NumOrderWrongFalsely : Prop := numOrderRow.holds Try.pinned (OpenSpec.ofChange numOrderWrong)

/-- 'wringerlaw03.NumParts': WHATEVER THE INPUT: true; the input reads as it did. -/
def numPartsSpec : ChangeSpec := { name := "numParts", fn := fun _ => fun
  | [d1, d2] => { results := [.lit (.bool true)], args := [d1, d2] }
  | _ => none }
def numPartsRow : OpenClaim := { program := "ytpeljbmbgjeomaa", sum := "d1b58ea6acf49483cbf969338d2ee18e06a520227083f047d26c925dcb448a24", func := "wringer/wringerlaw03.NumParts", spec := "numParts", unfollowed := true, recurses := true, apart := false }
def NumPartsSaid : Prop := numPartsRow.holds Try.pinned (OpenSpec.ofChange numPartsSpec)

/-- ITS FALSE NEIGHBOUR: 'it returns false'. Refute it at one input. -/
def numPartsWrong : ChangeSpec := { name := "numParts", fn := fun _ => fun
  | [d1, d2] => { results := [.lit (.bool false)], args := [d1, d2] }
  | _ => none }
def NumPartsWrongFalsely : Prop := numPartsRow.holds Try.pinned (OpenSpec.ofChange numPartsWrong)

/-- 'wringerlaw01.BitsParts': WHATEVER THE INPUT: true; the input reads as it did. -/
def bitsPartsSpec : ChangeSpec := { name := "bitsParts", fn := fun _ => fun
  | [d1, d2] => { results := [.lit (.bool true)], args := [d1, d2] }
  | _ => none }
def bitsPartsRow : OpenClaim := { program := "ytpeljbmbgjeomaa", sum := "d1b58ea6acf49483cbf969338d2ee18e06a520227083f047d26c925dcb448a24", func := "wringer/wringerlaw01.BitsParts", spec := "bitsParts", apart := false }
def BitsPartsSaid : Prop := bitsPartsRow.holds Try.pinned (OpenSpec.ofChange bitsPartsSpec)

/-- ITS FALSE NEIGHBOUR: 'it returns false'. Refute it at one input. -/
def bitsPartsWrong : ChangeSpec := { name := "bitsParts", fn := fun _ => fun
  | [d1, d2] => { results := [.lit (.bool false)], args := [d1, d2] }
  | _ => none }
def BitsPartsWrongFalsely : Prop := bitsPartsRow.holds Try.pinned (OpenSpec.ofChange bitsPartsWrong)

/-- 'wringerlaw01.BitsTurned': WHATEVER THE INPUT: true; the input reads as it did. -/
def bitsTurnedSpec : ChangeSpec := { name := "bitsTurned", fn := fun _ => fun
  | [d1, d2] => { results := [.lit (.bool true)], args := [d1, d2] }
  | _ => none }
def bitsTurnedRow : OpenClaim := { program := "ytpeljbmbgjeomaa", sum := "d1b58ea6acf49483cbf969338d2ee18e06a520227083f047d26c925dcb448a24", func := "wringer/wringerlaw01.BitsTurned", spec := "bitsTurned", apart := false }
def BitsTurnedSaid : Prop := bitsTurnedRow.holds Try.pinned (OpenSpec.ofChange bitsTurnedSpec)

/-- ITS FALSE NEIGHBOUR: 'it returns false'. Refute it at one input. -/
def bitsTurnedWrong : ChangeSpec := { name := "bitsTurned", fn := fun _ => fun
  | [d1, d2] => { results := [.lit (.bool false)], args := [d1, d2] }
  | _ => none }
def BitsTurnedWrongFalsely : Prop := bitsTurnedRow.holds Try.pinned (OpenSpec.ofChange bitsTurnedWrong)

/- THE SECOND FORM. 'bulk': how many values and letters a reading holds, each counted each time it is reached (what is shared counts as often as it is met; a slice's spare places count too). A statement '..UptoSaid' is the law's where the arguments, and the package variables that the reading takes, are together of bulk at most 1048576: NARROWER than '..Said'. Prove '..Said' where nothing that the law and all that it calls make is longer than what came in: it says more and counts as full. Else prove '..UptoSaid'. A law counts once. -/
mutual
def uptoBulk {H : Type} : DataW H → Nat
  | .lit (.string bytes) => bytes.length + 1
  | .lit _ => 1
  | .nil => 1
  | .ptr d => uptoBulk d + 1
  | .slice elems spare => uptoBulkAll elems + uptoBulkAll spare + 1
  | .agg parts => uptoBulkAll parts + 1
  | .iface _ d => uptoBulk d + 1
  | .map entries => uptoBulkEntries entries + 1
  | .held _ => 1
def uptoBulkAll {H : Type} : List (DataW H) → Nat
  | [] => 0
  | d :: r => uptoBulk d + uptoBulkAll r
def uptoBulkEntries {H : Type} : List (Lit × DataW H) → Nat
  | [] => 0
  | x :: r => uptoBulkEntry x + uptoBulkEntries r
def uptoBulkEntry {H : Type} : Lit × DataW H → Nat
  | (.string bytes, d) => bytes.length + uptoBulk d + 1
  | (_, d) => uptoBulk d + 1
 end
def uptoSmall : (H : Type) → List (DataW H) → Bool := fun _ ds => decide (uptoBulkAll ds ≤ 1048576)
def OpenSpec.upto (s : _root_.Go.ChangeSpec) : _root_.Go.OpenSpec := { _root_.Go.OpenSpec.ofChange s with cond := some uptoSmall }

/-- 'wringerlaw01.BitsPuts', WHERE WHAT IT READS IS OF BULK AT MOST 1048576: true; the input reads as it did. -/
def bitsPutsUptoRow : OpenClaim := { program := "ytpeljbmbgjeomaa", sum := "d1b58ea6acf49483cbf969338d2ee18e06a520227083f047d26c925dcb448a24", func := "wringer/wringerlaw01.BitsPuts", spec := "bitsPuts", apart := false, narrowed := true }
def BitsPutsUptoSaid : Prop := bitsPutsUptoRow.holds Try.pinned (OpenSpec.upto bitsPutsSpec)

/-- 'wringerlaw01.BitsBack', WHERE WHAT IT READS IS OF BULK AT MOST 1048576: true; the input reads as it did. -/
def bitsBackUptoRow : OpenClaim := { program := "ytpeljbmbgjeomaa", sum := "d1b58ea6acf49483cbf969338d2ee18e06a520227083f047d26c925dcb448a24", func := "wringer/wringerlaw01.BitsBack", spec := "bitsBack", apart := false, narrowed := true }
def BitsBackUptoSaid : Prop := bitsBackUptoRow.holds Try.pinned (OpenSpec.upto bitsBackSpec)

/-- 'wringerlaw01.BitsLong', WHERE WHAT IT READS IS OF BULK AT MOST 1048576: true; the input reads as it did. -/
def bitsLongUptoRow : OpenClaim := { program := "ytpeljbmbgjeomaa", sum := "d1b58ea6acf49483cbf969338d2ee18e06a520227083f047d26c925dcb448a24", func := "wringer/wringerlaw01.BitsLong", spec := "bitsLong", apart := false, narrowed := true }
def BitsLongUptoSaid : Prop := bitsLongUptoRow.holds Try.pinned (OpenSpec.upto bitsLongSpec)

/-- 'wringerlaw01.BitsCuts', WHERE WHAT IT READS IS OF BULK AT MOST 1048576: true; the input reads as it did. -/
def bitsCutsUptoRow : OpenClaim := { program := "ytpeljbmbgjeomaa", sum := "d1b58ea6acf49483cbf969338d2ee18e06a520227083f047d26c925dcb448a24", func := "wringer/wringerlaw01.BitsCuts", spec := "bitsCuts", apart := false, narrowed := true }
def BitsCutsUptoSaid : Prop := bitsCutsUptoRow.holds Try.pinned (OpenSpec.upto bitsCutsSpec)

/-- 'wringerlaw03.NumFives', WHERE WHAT IT READS IS OF BULK AT MOST 1048576: true; the input reads as it did. -/
def numFivesUptoRow : OpenClaim := { program := "ytpeljbmbgjeomaa", sum := "d1b58ea6acf49483cbf969338d2ee18e06a520227083f047d26c925dcb448a24", func := "wringer/wringerlaw03.NumFives", spec := "numFives", unfollowed := true, recurses := true, apart := false, narrowed := true }
def NumFivesUptoSaid : Prop := numFivesUptoRow.holds Try.pinned (OpenSpec.upto numFivesSpec)

/-- 'wringerlaw03.NumShorts', WHERE WHAT IT READS IS OF BULK AT MOST 1048576: true; the input reads as it did. -/
def numShortsUptoRow : OpenClaim := { program := "ytpeljbmbgjeomaa", sum := "d1b58ea6acf49483cbf969338d2ee18e06a520227083f047d26c925dcb448a24", func := "wringer/wringerlaw03.NumShorts", spec := "numShorts", unfollowed := true, recurses := true, apart := false, narrowed := true }
def NumShortsUptoSaid : Prop := numShortsUptoRow.holds Try.pinned (OpenSpec.upto numShortsSpec)

/-- 'wringerlaw03.NumRecords', WHERE WHAT IT READS IS OF BULK AT MOST 1048576: true; the input reads as it did. -/
def numRecordsUptoRow : OpenClaim := { program := "ytpeljbmbgjeomaa", sum := "d1b58ea6acf49483cbf969338d2ee18e06a520227083f047d26c925dcb448a24", func := "wringer/wringerlaw03.NumRecords", spec := "numRecords", unfollowed := true, recurses := true, apart := false, narrowed := true }
def NumRecordsUptoSaid : Prop := numRecordsUptoRow.holds Try.pinned (OpenSpec.upto numRecordsSpec)

/-- 'wringerlaw03.NumBack', WHERE WHAT IT READS IS OF BULK AT MOST 1048576: true; the input reads as it did. -/
def numBackUptoRow : OpenClaim := { program := "ytpeljbmbgjeomaa", sum := "d1b58ea6acf49483cbf969338d2ee18e06a520227083f047d26c925dcb448a24", func := "wringer/wringerlaw03.NumBack", spec := "numBack", unfollowed := true, recurses := true, apart := false, narrowed := true }
def NumBackUptoSaid : Prop := numBackUptoRow.holds Try.pinned (OpenSpec.upto numBackSpec)

/-- 'wringerlaw03.NumOrder', WHERE WHAT IT READS IS OF BULK AT MOST 1048576: true; the input reads as it did. -/
def numOrderUptoRow : OpenClaim := { program := "ytpeljbmbgjeomaa", sum := "d1b58ea6acf49483cbf969338d2ee18e06a520227083f047d26c925dcb448a24", func := "wringer/wringerlaw03.NumOrder", spec := "numOrder", unfollowed := true, recurses := true, apart := false, narrowed := true }
def NumOrderUptoSaid : Prop := numOrderUptoRow.holds Try.pinned (OpenSpec.upto numOrderSpec)

/-- 'wringerlaw03.NumParts', WHERE WHAT IT READS IS OF BULK AT MOST 1048576: true; the input reads as it did. -/
def numPartsUptoRow : OpenClaim := { program := "ytpeljbmbgjeomaa", sum := "d1b58ea6acf49483cbf969338d2ee18e06a520227083f047d26c925dcb448a24", func := "wringer/wringerlaw03.NumParts", spec := "numParts", unfollowed := true, recurses := true, apart := false, narrowed := true }
def NumPartsUptoSaid : Prop := numPartsUptoRow.holds Try.pinned (OpenSpec.upto numPartsSpec)

/-- 'wringerlaw01.BitsParts', WHERE WHAT IT READS IS OF BULK AT MOST 1048576: true; the input reads as it did. -/
def bitsPartsUptoRow : OpenClaim := { program := "ytpeljbmbgjeomaa", sum := "d1b58ea6acf49483cbf969338d2ee18e06a520227083f047d26c925dcb448a24", func := "wringer/wringerlaw01.BitsParts", spec := "bitsParts", apart := false, narrowed := true }
def BitsPartsUptoSaid : Prop := bitsPartsUptoRow.holds Try.pinned (OpenSpec.upto bitsPartsSpec)

/-- 'wringerlaw01.BitsTurned', WHERE WHAT IT READS IS OF BULK AT MOST 1048576: true; the input reads as it did. -/
def bitsTurnedUptoRow : OpenClaim := { program := "ytpeljbmbgjeomaa", sum := "d1b58ea6acf49483cbf969338d2ee18e06a520227083f047d26c925dcb448a24", func := "wringer/wringerlaw01.BitsTurned", spec := "bitsTurned", apart := false, narrowed := true }
def BitsTurnedUptoSaid : Prop := bitsTurnedUptoRow.holds Try.pinned (OpenSpec.upto bitsTurnedSpec)

end Rows
end Go.Proofs.Ytpeljbmbgjeomaa
