/-
  No cell of these rows narrows 'for every input' (looked for: loops, veiled, ifaces, maps, wideKeys, modest, calm, conditions, laid).
  DERIVED. THE GIVEN ROWS OF THIS SEAT. 3 by the template 'for every input the law returns true; each argument reads behind the call as it read before'; 0 by the template 'total and deterministic' (their statements: YtgidjbpgkeemiaaGreatTotals.lean).
  GIVEN WITH THE SEED: the statements are not yours to turn. If you find one false, say at which input.
  Laid BY PROGRAM, IN A SANDBOX (cutbox-rows.mjs): the forced cells as the released guide's own fill.sh prints them over the translation 10a3b88b2f2f2dde… (all of the seat's roots in one cut). By AI agents, Wed Nov 11 2026. No macro, syntax, notation, axiom, sorry.
-/
import Derived.Test.YtgidjbpgkeemiaaGreatChecked
import GoSem.Claim
import GoSem.ClaimJoined
import GoSem.ClaimMapViews
import Derived.JoinedTies
import Derived.KernelRfl
namespace Go.Proofs.YtgidjbpgkeemiaaGreat
/- THE CELL 'sum', in the pinned program and in every row, IS THE sha256 OF THE DUMP (.gsa) THAT YtgidjbpgkeemiaaGreatProg.lean LOADS. Nothing in Lean hashes anything: it is a label: what it is worth is what the hold of that sum in a sandbox is worth. -/
noncomputable def Tryz.pinned : Pinned := { name := "ytgidjbpgkeemiaagreat", sum := "10a3b88b2f2f2ddee853127f65e7e828986d3dceb1073bd648deb11c21ba2015", checked := Tryz.checked }
namespace Rows
def none {H : Type} : Left H := { results := [], args := [] }

/-- 'wringerlaw34.FindFound': WHATEVER THE INPUT: true; the input reads as it did. -/
def findFoundSpec : ChangeSpec := { name := "findFound", fn := fun _ => fun
  | [d1, d2] => { results := [.lit (.bool true)], args := [d1, d2] }
  | _ => none }
def findFoundRow : OpenClaim := { program := "ytgidjbpgkeemiaagreat", sum := "10a3b88b2f2f2ddee853127f65e7e828986d3dceb1073bd648deb11c21ba2015", func := "wringer/wringerlaw34.FindFound", spec := "findFound", unfollowed := true, recurses := true, apart := false }
def FindFoundSaid : Prop := findFoundRow.holds Tryz.pinned (OpenSpec.ofChange findFoundSpec)

/-- ITS FALSE NEIGHBOUR: 'it returns false'. Refute it at one input. -/
def findFoundWrong : ChangeSpec := { name := "findFound", fn := fun _ => fun
  | [d1, d2] => { results := [.lit (.bool false)], args := [d1, d2] }
  | _ => none }
def FindFoundWrongFalsely : Prop := findFoundRow.holds Tryz.pinned (OpenSpec.ofChange findFoundWrong)

/-- 'wringerlaw34.FindParts': WHATEVER THE INPUT: true; the input reads as it did. -/
def findPartsSpec : ChangeSpec := { name := "findParts", fn := fun _ => fun
  | [d1, d2, d3] => { results := [.lit (.bool true)], args := [d1, d2, d3] }
  | _ => none }
def findPartsRow : OpenClaim := { program := "ytgidjbpgkeemiaagreat", sum := "10a3b88b2f2f2ddee853127f65e7e828986d3dceb1073bd648deb11c21ba2015", func := "wringer/wringerlaw34.FindParts", spec := "findParts", unfollowed := true, recurses := true, apart := false }
def FindPartsSaid : Prop := findPartsRow.holds Tryz.pinned (OpenSpec.ofChange findPartsSpec)

/-- ITS FALSE NEIGHBOUR: 'it returns false'. Refute it at one input. -/
def findPartsWrong : ChangeSpec := { name := "findParts", fn := fun _ => fun
  | [d1, d2, d3] => { results := [.lit (.bool false)], args := [d1, d2, d3] }
  | _ => none }
def FindPartsWrongFalsely : Prop := findPartsRow.holds Tryz.pinned (OpenSpec.ofChange findPartsWrong)

/-- 'wringerlaw34.FindExtracts': WHATEVER THE INPUT: true; the input reads as it did. -/
def findExtractsSpec : ChangeSpec := { name := "findExtracts", fn := fun _ => fun
  | [d1, d2, d3, d4] => { results := [.lit (.bool true)], args := [d1, d2, d3, d4] }
  | _ => none }
def findExtractsRow : OpenClaim := { program := "ytgidjbpgkeemiaagreat", sum := "10a3b88b2f2f2ddee853127f65e7e828986d3dceb1073bd648deb11c21ba2015", func := "wringer/wringerlaw34.FindExtracts", spec := "findExtracts", unfollowed := true, recurses := true, apart := false }
def FindExtractsSaid : Prop := findExtractsRow.holds Tryz.pinned (OpenSpec.ofChange findExtractsSpec)

/-- ITS FALSE NEIGHBOUR: 'it returns false'. Refute it at one input. -/
def findExtractsWrong : ChangeSpec := { name := "findExtracts", fn := fun _ => fun
  | [d1, d2, d3, d4] => { results := [.lit (.bool false)], args := [d1, d2, d3, d4] }
  | _ => none }
def FindExtractsWrongFalsely : Prop := findExtractsRow.holds Tryz.pinned (OpenSpec.ofChange findExtractsWrong)

/- THE SECOND FORM. 'bulk': how many values and letters a reading holds, each counted each time it is reached (what is shared counts as often as it is met; a slice's spare places count too). A statement '..UptoSaid' is the law's where the arguments, and the package variables that the reading takes, are together of bulk at most 1048576: NARROWER than '..Said'. Prove '..Said' where nothing that the law and all that it calls make is longer than what came in: it says more and counts as full. Else prove '..UptoSaid'. A law counts once. -/
mutual
def uptoBulk {H : Type} : DataW H → Nat
  | .lit (.string bytes) => bytes.length + 1
  | .lit _ => 1
  | .nil => 1
  | .ptr d => uptoBulk d + 1
  | .slice elems spare => uptoBulkAll elems + uptoBulkAll spare + 1
  | .agg parts => uptoBulkAll parts + 1
  | .iface _ d => uptoBulk d + 1
  | .map entries => uptoBulkEntries entries + 1
  | .held _ => 1
def uptoBulkAll {H : Type} : List (DataW H) → Nat
  | [] => 0
  | d :: r => uptoBulk d + uptoBulkAll r
def uptoBulkEntries {H : Type} : List (Lit × DataW H) → Nat
  | [] => 0
  | x :: r => uptoBulkEntry x + uptoBulkEntries r
def uptoBulkEntry {H : Type} : Lit × DataW H → Nat
  | (.string bytes, d) => bytes.length + uptoBulk d + 1
  | (_, d) => uptoBulk d + 1
 end
def uptoSmall : (H : Type) → List (DataW H) → Bool := fun _ ds => decide (uptoBulkAll ds ≤ 1048576)
def OpenSpec.upto (s : _root_.Go.ChangeSpec) : _root_.Go.OpenSpec := { _root_.Go.OpenSpec.ofChange s with cond := some uptoSmall }

/-- 'wringerlaw34.FindFound', WHERE WHAT IT READS IS OF BULK AT MOST 1048576: true; the input reads as it did. -/
def findFoundUptoRow : OpenClaim := { program := "ytgidjbpgkeemiaagreat", sum := "10a3b88b2f2f2ddee853127f65e7e828986d3dceb1073bd648deb11c21ba2015", func := "wringer/wringerlaw34.FindFound", spec := "findFound", unfollowed := true, recurses := true, apart := false, narrowed := true }
def FindFoundUptoSaid : Prop := findFoundUptoRow.holds Tryz.pinned (OpenSpec.upto findFoundSpec)

/-- 'wringerlaw34.FindParts', WHERE WHAT IT READS IS OF BULK AT MOST 1048576: true; the input reads as it did. -/
def findPartsUptoRow : OpenClaim := { program := "ytgidjbpgkeemiaagreat", sum := "10a3b88b2f2f2ddee853127f65e7e828986d3dceb1073bd648deb11c21ba2015", func := "wringer/wringerlaw34.FindParts", spec := "findParts", unfollowed := true, recurses := true, apart := false, narrowed := true }
def FindPartsUptoSaid : Prop := findPartsUptoRow.holds Tryz.pinned (OpenSpec.upto findPartsSpec)

/-- 'wringerlaw34.FindExtracts', WHERE WHAT IT READS IS OF BULK AT MOST 1048576: true; the input reads as it did. -/
def findExtractsUptoRow : OpenClaim := { program := "ytgidjbpgkeemiaagreat", sum := "10a3b88b2f2f2ddee853127f65e7e828986d3dceb1073bd648deb11c21ba2015", func := "wringer/wringerlaw34.FindExtracts", spec := "findExtracts", unfollowed := true, recurses := true, apart := false, narrowed := true }
def FindExtractsUptoSaid : Prop := findExtractsUptoRow.holds Tryz.pinned (OpenSpec.upto findExtractsSpec)

end Rows
end Go.Proofs.YtgidjbpgkeemiaaGreat
