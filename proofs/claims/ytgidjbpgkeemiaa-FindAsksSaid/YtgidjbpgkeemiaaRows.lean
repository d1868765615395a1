/-
  No cell of these rows narrows 'for every input' (looked for: loops, veiled, ifaces, maps, wideKeys, modest, calm, conditions, laid).
  DERIVED. THE GIVEN ROWS OF THIS SEAT. 11 by the template 'for every input the law returns true; each argument reads behind the call as it read before'; 0 by the template 'total and deterministic' (their statements: YtgidjbpgkeemiaaTotals.lean).
  GIVEN WITH THE SEED: the statements are not yours to turn. If you find one false, say at which input.
  Laid BY PROGRAM, IN A SANDBOX (cutbox-rows.mjs): the forced cells as the released guide's own fill.sh prints them over the translation 9ec813af393f766d… (all of the seat's roots in one cut). By AI agents, Wed Nov 11 2026. No macro, syntax, notation, axiom, sorry.
-/
import Derived.Test.YtgidjbpgkeemiaaChecked
import GoSem.Claim
import GoSem.ClaimJoined
import GoSem.ClaimMapViews
import Derived.JoinedTies
import Derived.KernelRfl
namespace Go.Proofs.Ytgidjbpgkeemiaa
/- THE CELL 'sum', in the pinned program and in every row, IS THE sha256 OF THE DUMP (.gsa) THAT YtgidjbpgkeemiaaProg.lean LOADS. Nothing in Lean hashes anything: it is a label: what it is worth is what the hold of that sum in a sandbox is worth. -/
noncomputable def Try.pinned : Pinned := { name := "ytgidjbpgkeemiaa", sum := "9ec813af393f766d185c0830bcf5fcdbe3e65bbb3246f2400d4dbb63ce9785a9", checked := Try.checked }
namespace Rows
def none {H : Type} : Left H := { results := [], args := [] }

/-- 'wringerlaw13.SkewParts': WHATEVER THE INPUT: true; the input reads as it did. -/
def skewPartsSpec : ChangeSpec := { name := "skewParts", fn := fun _ => fun
  | [d] => { results := [.lit (.bool true)], args := [d] }
  | _ => none }
def skewPartsRow : OpenClaim := { program := "ytgidjbpgkeemiaa", sum := "9ec813af393f766d185c0830bcf5fcdbe3e65bbb3246f2400d4dbb63ce9785a9", func := "wringer/wringerlaw13.SkewParts", spec := "skewParts", unfollowed := true, recurses := true, apart := false }
def SkewPartsSaid : Prop := skewPartsRow.holds Try.pinned (OpenSpec.ofChange skewPartsSpec)

/-- ITS FALSE NEIGHBOUR: 'it returns false'. Refute it at one input. -/
def skewPartsWrong : ChangeSpec := { name := "skewParts", fn := fun _ => fun
  | [d] => { results := [.lit (.bool false)], args := [d] }
  | _ => none }
def SkewPartsWrongFalsely : Prop := skewPartsRow.holds Try.pinned (OpenSpec.ofChange skewPartsWrong)

/-- 'wringerlaw13.SkewEnds': WHATEVER THE INPUT: true; the input reads as it did. -/
def skewEndsSpec : ChangeSpec := { name := "skewEnds", fn := fun _ => fun
  | [d1, d2] => { results := [.lit (.bool true)], args := [d1, d2] }
  | _ => none }
def skewEndsRow : OpenClaim := { program := "ytgidjbpgkeemiaa", sum := "9ec813af393f766d185c0830bcf5fcdbe3e65bbb3246f2400d4dbb63ce9785a9", func := "wringer/wringerlaw13.SkewEnds", spec := "skewEnds", unfollowed := true, recurses := true, apart := false }
def SkewEndsSaid : Prop := skewEndsRow.holds Try.pinned (OpenSpec.ofChange skewEndsSpec)

/-- ITS FALSE NEIGHBOUR: 'it returns false'. Refute it at one input. -/
def skewEndsWrong : ChangeSpec := { name := "skewEnds", fn := fun _ => fun
  | [d1, d2] => { results := [.lit (.bool false)], args := [d1, d2] }
  | _ => none }
def SkewEndsWrongFalsely : Prop := skewEndsRow.holds Try.pinned (OpenSpec.ofChange skewEndsWrong)

/-- 'wringerlaw13.SkewFewer': WHATEVER THE INPUT: true; the input reads as it did. -/
def skewFewerSpec : ChangeSpec := { name := "skewFewer", fn := fun _ => fun
  | [d] => { results := [.lit (.bool true)], args := [d] }
  | _ => none }
def skewFewerRow : OpenClaim := { program := "ytgidjbpgkeemiaa", sum := "9ec813af393f766d185c0830bcf5fcdbe3e65bbb3246f2400d4dbb63ce9785a9", func := "wringer/wringerlaw13.SkewFewer", spec := "skewFewer", unfollowed := true, recurses := true, apart := false }
def SkewFewerSaid : Prop := skewFewerRow.holds Try.pinned (OpenSpec.ofChange skewFewerSpec)

/-- ITS FALSE NEIGHBOUR: 'it returns false'. Refute it at one input. -/
def skewFewerWrong : ChangeSpec := { name := "skewFewer", fn := fun _ => fun
  | [d] => { results := [.lit (.bool false)], args := [d] }
  | _ => none }
def SkewFewerWrongFalsely : Prop := skewFewerRow.holds Try.pinned (OpenSpec.ofChange skewFewerWrong)

/-- 'wringerlaw34.FindMakes': WHATEVER THE INPUT: true; the input reads as it did. -/
def findMakesSpec : ChangeSpec := { name := "findMakes", fn := fun _ => fun
  | [d1, d2, d3] => { results := [.lit (.bool true)], args := [d1, d2, d3] }
  | _ => none }
def findMakesRow : OpenClaim := { program := "ytgidjbpgkeemiaa", sum := "9ec813af393f766d185c0830bcf5fcdbe3e65bbb3246f2400d4dbb63ce9785a9", func := "wringer/wringerlaw34.FindMakes", spec := "findMakes", unfollowed := true, recurses := true, apart := false }
def FindMakesSaid : Prop := findMakesRow.holds Try.pinned (OpenSpec.ofChange findMakesSpec)

/-- ITS FALSE NEIGHBOUR: 'it returns false'. Refute it at one input. -/
def findMakesWrong : ChangeSpec := { name := "findMakes", fn := fun _ => fun
  | [d1, d2, d3] => { results := [.lit (.bool false)], args := [d1, d2, d3] }
  | _ => none }
def FindMakesWrongFalsely : Prop := findMakesRow.holds Try.pinned (OpenSpec.ofChange findMakesWrong)

/-- 'wringerlaw34.FindAsks': WHATEVER THE INPUT: true; the input reads as it did. -/
def findAsksSpec : ChangeSpec := { name := "findAsks", fn := fun _ => fun
  | [d1, d2, d3, d4] => { results := [.lit (.bool true)], args := [d1, d2, d3, d4] }
  | _ => none }
def findAsksRow : OpenClaim := { program := "ytgidjbpgkeemiaa", sum := "9ec813af393f766d185c0830bcf5fcdbe3e65bbb3246f2400d4dbb63ce9785a9", func := "wringer/wringerlaw34.FindAsks", spec := "findAsks", unfollowed := true, recurses := true, apart := false }
def FindAsksSaid : Prop := findAsksRow.holds Try.pinned (OpenSpec.ofChange findAsksSpec)

/-- ITS FALSE NEIGHBOUR: 'it returns false'. Refute it at one input. -/
def findAsksWrong : ChangeSpec := { name := "findAsks", fn := fun _ => fun
  | [d1, d2, d3, d4] => { results := [.lit (.bool false)], args := [d1, d2, d3, d4] }
  | _ => none }
def FindAsksWrongFalsely : Prop := findAsksRow.holds Try.pinned (OpenSpec.ofChange findAsksWrong)

/-- 'wringerlaw12.OrderEnds': WHATEVER THE INPUT: true; the input reads as it did. -/
def orderEndsSpec : ChangeSpec := { name := "orderEnds", fn := fun _ => fun
  | [d1, d2] => { results := [.lit (.bool true)], args := [d1, d2] }
  | _ => none }
def orderEndsRow : OpenClaim := { program := "ytgidjbpgkeemiaa", sum := "9ec813af393f766d185c0830bcf5fcdbe3e65bbb3246f2400d4dbb63ce9785a9", func := "wringer/wringerlaw12.OrderEnds", spec := "orderEnds", unfollowed := true, recurses := true, apart := false }
def OrderEndsSaid : Prop := orderEndsRow.holds Try.pinned (OpenSpec.ofChange orderEndsSpec)

/-- ITS FALSE NEIGHBOUR: 'it returns false'. Refute it at one input. -/
def orderEndsWrong : ChangeSpec := { name := "orderEnds", fn := fun _ => fun
  | [d1, d2] => { results := [.lit (.bool false)], args := [d1, d2] }
  | _ => none }
def OrderEndsWrongFalsely : Prop := orderEndsRow.holds Try.pinned (OpenSpec.ofChange orderEndsWrong)

/-- 'wringerlaw12.OrderColumns': WHATEVER THE INPUT: true; the input reads as it did. -/
def orderColumnsSpec : ChangeSpec := { name := "orderColumns", fn := fun _ => fun
  | [d1, d2, d3] => { results := [.lit (.bool true)], args := [d1, d2, d3] }
  | _ => none }
def orderColumnsRow : OpenClaim := { program := "ytgidjbpgkeemiaa", sum := "9ec813af393f766d185c0830bcf5fcdbe3e65bbb3246f2400d4dbb63ce9785a9", func := "wringer/wringerlaw12.OrderColumns", spec := "orderColumns", unfollowed := true, recurses := true, apart := false }
def OrderColumnsSaid : Prop := orderColumnsRow.holds Try.pinned (OpenSpec.ofChange orderColumnsSpec)

/-- ITS FALSE NEIGHBOUR: 'it returns false'. Refute it at one input. -/
def orderColumnsWrong : ChangeSpec := { name := "orderColumns", fn := fun _ => fun
  | [d1, d2, d3] => { results := [.lit (.bool false)], args := [d1, d2, d3] }
  | _ => none }
def OrderColumnsWrongFalsely : Prop := orderColumnsRow.holds Try.pinned (OpenSpec.ofChange orderColumnsWrong)

/-- 'wringerlaw12.OrderBack': WHATEVER THE INPUT: true; the input reads as it did. -/
def orderBackSpec : ChangeSpec := { name := "orderBack", fn := fun _ => fun
  | [d1, d2] => { results := [.lit (.bool true)], args := [d1, d2] }
  | _ => none }
def orderBackRow : OpenClaim := { program := "ytgidjbpgkeemiaa", sum := "9ec813af393f766d185c0830bcf5fcdbe3e65bbb3246f2400d4dbb63ce9785a9", func := "wringer/wringerlaw12.OrderBack", spec := "orderBack", unfollowed := true, recurses := true, apart := false }
def OrderBackSaid : Prop := orderBackRow.holds Try.pinned (OpenSpec.ofChange orderBackSpec)

/-- ITS FALSE NEIGHBOUR: 'it returns false'. Refute it at one input. -/
def orderBackWrong : ChangeSpec := { name := "orderBack", fn := fun _ => fun
  | [d1, d2] => { results := [.lit (.bool false)], args := [d1, d2] }
  | _ => none }
def OrderBackWrongFalsely : Prop := orderBackRow.holds Try.pinned (OpenSpec.ofChange orderBackWrong)

/-- 'wringerlaw12.OrderRight': WHATEVER THE INPUT: true; the input reads as it did. -/
def orderRightSpec : ChangeSpec := { name := "orderRight", fn := fun _ => fun
  | [d1, d2, d3] => { results := [.lit (.bool true)], args := [d1, d2, d3] }
  | _ => none }
def orderRightRow : OpenClaim := { program := "ytgidjbpgkeemiaa", sum := "9ec813af393f766d185c0830bcf5fcdbe3e65bbb3246f2400d4dbb63ce9785a9", func := "wringer/wringerlaw12.OrderRight", spec := "orderRight", unfollowed := true, recurses := true, apart := false }
def OrderRightSaid : Prop := orderRightRow.holds Try.pinned (OpenSpec.ofChange orderRightSpec)

/-- ITS FALSE NEIGHBOUR: 'it returns false'. Refute it at one input. -/
def orderRightWrong : ChangeSpec := { name := "orderRight", fn := fun _ => fun
  | [d1, d2, d3] => { results := [.lit (.bool false)], args := [d1, d2, d3] }
  | _ => none }
def OrderRightWrongFalsely : Prop := orderRightRow.holds Try.pinned (OpenSpec.ofChange orderRightWrong)

/-- 'wringerlaw12.OrderLess': WHATEVER THE INPUT: true; the input reads as it did. -/
def orderLessSpec : ChangeSpec := { name := "orderLess", fn := fun _ => fun
  | [d] => { results := [.lit (.bool true)], args := [d] }
  | _ => none }
def orderLessRow : OpenClaim := { program := "ytgidjbpgkeemiaa", sum := "9ec813af393f766d185c0830bcf5fcdbe3e65bbb3246f2400d4dbb63ce9785a9", func := "wringer/wringerlaw12.OrderLess", spec := "orderLess", unfollowed := true, recurses := true, apart := false }
def OrderLessSaid : Prop := orderLessRow.holds Try.pinned (OpenSpec.ofChange orderLessSpec)

/-- ITS FALSE NEIGHBOUR: 'it returns false'. Refute it at one input. -/
def orderLessWrong : ChangeSpec := { name := "orderLess", fn := fun _ => fun
  | [d] => { results := [.lit (.bool false)], args := [d] }
  | _ => none }
def OrderLessWrongFalsely : Prop := orderLessRow.holds Try.pinned (OpenSpec.ofChange orderLessWrong)

/-- 'wringerlaw13.SkewSamples': WHATEVER THE INPUT: true; the input reads as it did. -/
def skewSamplesSpec : ChangeSpec := { name := "skewSamples", fn := fun _ => fun
  | [d] => { results := [.lit (.bool true)], args := [d] }
  | _ => none }
def skewSamplesRow : OpenClaim := { program := "ytgidjbpgkeemiaa", sum := "9ec813af393f766d185c0830bcf5fcdbe3e65bbb3246f2400d4dbb63ce9785a9", func := "wringer/wringerlaw13.SkewSamples", spec := "skewSamples", unfollowed := true, recurses := true, apart := false }
def SkewSamplesSaid : Prop := skewSamplesRow.holds Try.pinned (OpenSpec.ofChange skewSamplesSpec)

/-- ITS FALSE NEIGHBOUR: 'it returns false'. Refute it at one input. -/
def skewSamplesWrong : ChangeSpec := { name := "skewSamples", fn := fun _ => fun
  | [d] => { results := [.lit (.bool false)], args := [d] }
  | _ => none }
def SkewSamplesWrongFalsely : Prop := skewSamplesRow.holds Try.pinned (OpenSpec.ofChange skewSamplesWrong)

/- THE SECOND FORM. 'bulk': how many values and letters a reading holds, each counted each time it is reached (what is shared counts as often as it is met; a slice's spare places count too). A statement '..UptoSaid' is the law's where the arguments, and the package variables that the reading takes, are together of bulk at most 1048576: NARROWER than '..Said'. Prove '..Said' where nothing that the law and all that it calls make is longer than what came in: it says more and counts as full. Else prove '..UptoSaid'. A law counts once. -/
mutual
def uptoBulk {H : Type} : DataW H → Nat
  | .lit (.string bytes) => bytes.length + 1
  | .lit _ => 1
  | .nil => 1
  | .ptr d => uptoBulk d + 1
  | .slice elems spare => uptoBulkAll elems + uptoBulkAll spare + 1
  | .agg parts => uptoBulkAll parts + 1
  | .iface _ d => uptoBulk d + 1
  | .map entries => uptoBulkEntries entries + 1
  | .held _ => 1
def uptoBulkAll {H : Type} : List (DataW H) → Nat
  | [] => 0
  | d :: r => uptoBulk d + uptoBulkAll r
def uptoBulkEntries {H : Type} : List (Lit × DataW H) → Nat
  | [] => 0
  | x :: r => uptoBulkEntry x + uptoBulkEntries r
def uptoBulkEntry {H : Type} : Lit × DataW H → Nat
  | (.string bytes, d) => bytes.length + uptoBulk d + 1
  | (_, d) => uptoBulk d + 1
 end
def uptoSmall : (H : Type) → List (DataW H) → Bool := fun _ ds => decide (uptoBulkAll ds ≤ 1048576)
def OpenSpec.upto (s : _root_.Go.ChangeSpec) : _root_.Go.OpenSpec := { _root_.Go.OpenSpec.ofChange s with cond := some uptoSmall }

/-- 'wringerlaw13.SkewParts', WHERE WHAT IT READS IS OF BULK AT MOST 1048576: true; the input reads as it did. -/
def skewPartsUptoRow : OpenClaim := { program := "ytgidjbpgkeemiaa", sum := "9ec813af393f766d185c0830bcf5fcdbe3e65bbb3246f2400d4dbb63ce9785a9", func := "wringer/wringerlaw13.SkewParts", spec := "skewParts", unfollowed := true, recurses := true, apart := false, narrowed := true }
def SkewPartsUptoSaid : Prop := skewPartsUptoRow.holds Try.pinned (OpenSpec.upto skewPartsSpec)

/-- 'wringerlaw13.SkewEnds', WHERE WHAT IT READS IS OF BULK AT MOST 1048576: true; the input reads as it did. -/
def skewEndsUptoRow : OpenClaim := { program := "ytgidjbpgkeemiaa", sum := "9ec813af393f766d185c0830bcf5fcdbe3e65bbb3246f2400d4dbb63ce9785a9", func := "wringer/wringerlaw13.SkewEnds", spec := "skewEnds", unfollowed := true, recurses := true, apart := false, narrowed := true }
def SkewEndsUptoSaid : Prop := skewEndsUptoRow.holds Try.pinned (OpenSpec.upto skewEndsSpec)

/-- 'wringerlaw13.SkewFewer', WHERE WHAT IT READS IS OF BULK AT MOST 1048576: true; the input reads as it did. -/
def skewFewerUptoRow : OpenClaim := { program := "ytgidjbpgkeemiaa", sum := "9ec813af393f766d185c0830bcf5fcdbe3e65bbb3246f2400d4dbb63ce9785a9", func := "wringer/wringerlaw13.SkewFewer", spec := "skewFewer", unfollowed := true, recurses := true, apart := false, narrowed := true }
def SkewFewerUptoSaid : Prop := skewFewerUptoRow.holds Try.pinned (OpenSpec.upto skewFewerSpec)

/-- 'wringerlaw34.FindMakes', WHERE WHAT IT READS IS OF BULK AT MOST 1048576: true; the input reads as it did. -/
def findMakesUptoRow : OpenClaim := { program := "ytgidjbpgkeemiaa", sum := "9ec813af393f766d185c0830bcf5fcdbe3e65bbb3246f2400d4dbb63ce9785a9", func := "wringer/wringerlaw34.FindMakes", spec := "findMakes", unfollowed := true, recurses := true, apart := false, narrowed := true }
def FindMakesUptoSaid : Prop := findMakesUptoRow.holds Try.pinned (OpenSpec.upto findMakesSpec)

/-- 'wringerlaw34.FindAsks', WHERE WHAT IT READS IS OF BULK AT MOST 1048576: true; the input reads as it did. -/
def findAsksUptoRow : OpenClaim := { program := "ytgidjbpgkeemiaa", sum := "9ec813af393f766d185c0830bcf5fcdbe3e65bbb3246f2400d4dbb63ce9785a9", func := "wringer/wringerlaw34.FindAsks", spec := "findAsks", unfollowed := true, recurses := true, apart := false, narrowed := true }
def FindAsksUptoSaid : Prop := findAsksUptoRow.holds Try.pinned (OpenSpec.upto findAsksSpec)

/-- 'wringerlaw12.OrderEnds', WHERE WHAT IT READS IS OF BULK AT MOST 1048576: true; the input reads as it did. -/
def orderEndsUptoRow : OpenClaim := { program := "ytgidjbpgkeemiaa", sum := "9ec813af393f766d185c0830bcf5fcdbe3e65bbb3246f2400d4dbb63ce9785a9", func := "wringer/wringerlaw12.OrderEnds", spec := "orderEnds", unfollowed := true, recurses := true, apart := false, narrowed := true }
def OrderEndsUptoSaid : Prop := orderEndsUptoRow.holds Try.pinned (OpenSpec.upto orderEndsSpec)

/-- 'wringerlaw12.OrderColumns', WHERE WHAT IT READS IS OF BULK AT MOST 1048576: true; the input reads as it did. -/
def orderColumnsUptoRow : OpenClaim := { program := "ytgidjbpgkeemiaa", sum := "9ec813af393f766d185c0830bcf5fcdbe3e65bbb3246f2400d4dbb63ce9785a9", func := "wringer/wringerlaw12.OrderColumns", spec := "orderColumns", unfollowed := true, recurses := true, apart := false, narrowed := true }
def OrderColumnsUptoSaid : Prop := orderColumnsUptoRow.holds Try.pinned (OpenSpec.upto orderColumnsSpec)

/-- 'wringerlaw12.OrderBack', WHERE WHAT IT READS IS OF BULK AT MOST 1048576: true; the input reads as it did. -/
def orderBackUptoRow : OpenClaim := { program := "ytgidjbpgkeemiaa", sum := "9ec813af393f766d185c0830bcf5fcdbe3e65bbb3246f2400d4dbb63ce9785a9", func := "wringer/wringerlaw12.OrderBack", spec := "orderBack", unfollowed := true, recurses := true, apart := false, narrowed := true }
def OrderBackUptoSaid : Prop := orderBackUptoRow.holds Try.pinned (OpenSpec.upto orderBackSpec)

/-- 'wringerlaw12.OrderRight', WHERE WHAT IT READS IS OF BULK AT MOST 1048576: true; the input reads as it did. -/
def orderRightUptoRow : OpenClaim := { program := "ytgidjbpgkeemiaa", sum := "9ec813af393f766d185c0830bcf5fcdbe3e65bbb3246f2400d4dbb63ce9785a9", func := "wringer/wringerlaw12.OrderRight", spec := "orderRight", unfollowed := true, recurses := true, apart := false, narrowed := true }
def OrderRightUptoSaid : Prop := orderRightUptoRow.holds Try.pinned (OpenSpec.upto orderRightSpec)

/-- 'wringerlaw12.OrderLess', WHERE WHAT IT READS IS OF BULK AT MOST 1048576: true; the input reads as it did. -/
def orderLessUptoRow : OpenClaim := { program := "ytgidjbpgkeemiaa", sum := "9ec813af393f766d185c0830bcf5fcdbe3e65bbb3246f2400d4dbb63ce9785a9", func := "wringer/wringerlaw12.OrderLess", spec := "orderLess", unfollowed := true, recurses := true, apart := false, narrowed := true }
def OrderLessUptoSaid : Prop := orderLessUptoRow.holds Try.pinned (OpenSpec.upto orderLessSpec)

/-- 'wringerlaw13.SkewSamples', WHERE WHAT IT READS IS OF BULK AT MOST 1048576: true; the input reads as it did. -/
def skewSamplesUptoRow : OpenClaim := { program := "ytgidjbpgkeemiaa", sum := "9ec813af393f766d185c0830bcf5fcdbe3e65bbb3246f2400d4dbb63ce9785a9", func := "wringer/wringerlaw13.SkewSamples", spec := "skewSamples", unfollowed := true, recurses := true, apart := false, narrowed := true }
def SkewSamplesUptoSaid : Prop := skewSamplesUptoRow.holds Try.pinned (OpenSpec.upto skewSamplesSpec)

end Rows
end Go.Proofs.Ytgidjbpgkeemiaa
