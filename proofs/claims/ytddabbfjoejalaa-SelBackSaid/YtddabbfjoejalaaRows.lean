/-
  No cell of these rows narrows 'for every input' (looked for: loops, veiled, ifaces, maps, wideKeys, modest, calm, conditions, laid).
  DERIVED. THE GIVEN ROWS OF THIS SEAT. 10 by the template 'for every input the law returns true; each argument reads behind the call as it read before'; 0 by the template 'total and deterministic' (their statements: YtddabbfjoejalaaTotals.lean).
  GIVEN WITH THE SEED: the statements are not yours to turn. If you find one false, say at which input.
  Laid BY PROGRAM, IN A SANDBOX (cutbox-rows.mjs): the forced cells as the released guide's own fill.sh prints them over the translation faf109e9dece03ce… (all of the seat's roots in one cut). By AI agents, Wed Nov 11 2026. No macro, syntax, notation, axiom, sorry.
-/
import Derived.Test.YtddabbfjoejalaaChecked
import GoSem.Claim
import GoSem.ClaimJoined
import GoSem.ClaimMapViews
import Derived.JoinedTies
import Derived.KernelRfl
namespace Go.Proofs.Ytddabbfjoejalaa
/- THE CELL 'sum', in the pinned program and in every row, IS THE sha256 OF THE DUMP (.gsa) THAT YtddabbfjoejalaaProg.lean LOADS. Nothing in Lean hashes anything: it is a label: what it is worth is what the hold of that sum in a sandbox is worth. -/
noncomputable def Try.pinned : Pinned := { name := "ytddabbfjoejalaa", sum := "faf109e9dece03ce195b896972280da883f13292093c31b8024bb756e1b686e2", checked := Try.checked }
namespace Rows
def none {H : Type} : Left H := { results := [], args := [] }

/-- 'wringerlaw08.LoserMakes': WHATEVER THE INPUT: true; the input reads as it did. -/
def loserMakesSpec : ChangeSpec := { name := "loserMakes", fn := fun _ => fun
  | [d] => { results := [.lit (.bool true)], args := [d] }
  | _ => none }
def loserMakesRow : OpenClaim := { program := "ytddabbfjoejalaa", sum := "faf109e9dece03ce195b896972280da883f13292093c31b8024bb756e1b686e2", func := "wringer/wringerlaw08.LoserMakes", spec := "loserMakes", apart := false }
def LoserMakesSaid : Prop := loserMakesRow.holds Try.pinned (OpenSpec.ofChange loserMakesSpec)

/-- ITS FALSE NEIGHBOUR: 'it returns false'. Refute it at one input. -/
def loserMakesWrong : ChangeSpec := { name := "loserMakes", fn := fun _ => fun
  | [d] => { results := [.lit (.bool false)], args := [d] }
  | _ => none }
def LoserMakesWrongFalsely : Prop := loserMakesRow.holds Try.pinned (OpenSpec.ofChange loserMakesWrong)

/-- 'wringerlaw08.LoserPuts': WHATEVER THE INPUT: true; the input reads as it did. -/
def loserPutsSpec : ChangeSpec := { name := "loserPuts", fn := fun _ => fun
  | [d1, d2, d3] => { results := [.lit (.bool true)], args := [d1, d2, d3] }
  | _ => none }
def loserPutsRow : OpenClaim := { program := "ytddabbfjoejalaa", sum := "faf109e9dece03ce195b896972280da883f13292093c31b8024bb756e1b686e2", func := "wringer/wringerlaw08.LoserPuts", spec := "loserPuts", apart := false }
def LoserPutsSaid : Prop := loserPutsRow.holds Try.pinned (OpenSpec.ofChange loserPutsSpec)

/-- ITS FALSE NEIGHBOUR: 'it returns false'. Refute it at one input. -/
def loserPutsWrong : ChangeSpec := { name := "loserPuts", fn := fun _ => fun
  | [d1, d2, d3] => { results := [.lit (.bool false)], args := [d1, d2, d3] }
  | _ => none }
def LoserPutsWrongFalsely : Prop := loserPutsRow.holds Try.pinned (OpenSpec.ofChange loserPutsWrong)

/-- 'wringerlaw08.LoserSorted': WHATEVER THE INPUT: true; the input reads as it did. -/
def loserSortedSpec : ChangeSpec := { name := "loserSorted", fn := fun _ => fun
  | [d] => { results := [.lit (.bool true)], args := [d] }
  | _ => none }
def loserSortedRow : OpenClaim := { program := "ytddabbfjoejalaa", sum := "faf109e9dece03ce195b896972280da883f13292093c31b8024bb756e1b686e2", func := "wringer/wringerlaw08.LoserSorted", spec := "loserSorted", apart := false }
def LoserSortedSaid : Prop := loserSortedRow.holds Try.pinned (OpenSpec.ofChange loserSortedSpec)

/-- ITS FALSE NEIGHBOUR: 'it returns false'. Refute it at one input. -/
def loserSortedWrong : ChangeSpec := { name := "loserSorted", fn := fun _ => fun
  | [d] => { results := [.lit (.bool false)], args := [d] }
  | _ => none }
def LoserSortedWrongFalsely : Prop := loserSortedRow.holds Try.pinned (OpenSpec.ofChange loserSortedWrong)

/-- 'wringerlaw08.LoserLeast': WHATEVER THE INPUT: true; the input reads as it did. -/
def loserLeastSpec : ChangeSpec := { name := "loserLeast", fn := fun _ => fun
  | [d] => { results := [.lit (.bool true)], args := [d] }
  | _ => none }
def loserLeastRow : OpenClaim := { program := "ytddabbfjoejalaa", sum := "faf109e9dece03ce195b896972280da883f13292093c31b8024bb756e1b686e2", func := "wringer/wringerlaw08.LoserLeast", spec := "loserLeast", apart := false }
def LoserLeastSaid : Prop := loserLeastRow.holds Try.pinned (OpenSpec.ofChange loserLeastSpec)

/-- ITS FALSE NEIGHBOUR: 'it returns false'. Refute it at one input. -/
def loserLeastWrong : ChangeSpec := { name := "loserLeast", fn := fun _ => fun
  | [d] => { results := [.lit (.bool false)], args := [d] }
  | _ => none }
def LoserLeastWrongFalsely : Prop := loserLeastRow.holds Try.pinned (OpenSpec.ofChange loserLeastWrong)

/-- 'wringerlaw08.LoserShort': WHATEVER THE INPUT: true; the input reads as it did. -/
def loserShortSpec : ChangeSpec := { name := "loserShort", fn := fun _ => fun
  | [d1, d2] => { results := [.lit (.bool true)], args := [d1, d2] }
  | _ => none }
def loserShortRow : OpenClaim := { program := "ytddabbfjoejalaa", sum := "faf109e9dece03ce195b896972280da883f13292093c31b8024bb756e1b686e2", func := "wringer/wringerlaw08.LoserShort", spec := "loserShort", apart := false }
def LoserShortSaid : Prop := loserShortRow.holds Try.pinned (OpenSpec.ofChange loserShortSpec)

/-- ITS FALSE NEIGHBOUR: 'it returns false'. Refute it at one input. -/
def loserShortWrong : ChangeSpec := { name := "loserShort", fn := fun _ => fun
  | [d1, d2] => { results := [.lit (.bool false)], args := [d1, d2] }
  | _ => none }
def LoserShortWrongFalsely : Prop := loserShortRow.holds Try.pinned (OpenSpec.ofChange loserShortWrong)

/-- 'wringerlaw33.SelMakes': WHATEVER THE INPUT: true; the input reads as it did. -/
def selMakesSpec : ChangeSpec := { name := "selMakes", fn := fun _ => fun
  | [d1, d2, d3] => { results := [.lit (.bool true)], args := [d1, d2, d3] }
  | _ => none }
def selMakesRow : OpenClaim := { program := "ytddabbfjoejalaa", sum := "faf109e9dece03ce195b896972280da883f13292093c31b8024bb756e1b686e2", func := "wringer/wringerlaw33.SelMakes", spec := "selMakes", unfollowed := true, recurses := true, apart := false }
def SelMakesSaid : Prop := selMakesRow.holds Try.pinned (OpenSpec.ofChange selMakesSpec)

/-- ITS FALSE NEIGHBOUR: 'it returns false'. Refute it at one input. -/
def selMakesWrong : ChangeSpec := { name := "selMakes", fn := fun _ => fun
  | [d1, d2, d3] => { results := [.lit (.bool false)], args := [d1, d2, d3] }
  | _ => none }
def SelMakesWrongFalsely : Prop := selMakesRow.holds Try.pinned (OpenSpec.ofChange selMakesWrong)

/-- 'wringerlaw33.SelAsks': WHATEVER THE INPUT: true; the input reads as it did. -/
def selAsksSpec : ChangeSpec := { name := "selAsks", fn := fun _ => fun
  | [d1, d2] => { results := [.lit (.bool true)], args := [d1, d2] }
  | _ => none }
def selAsksRow : OpenClaim := { program := "ytddabbfjoejalaa", sum := "faf109e9dece03ce195b896972280da883f13292093c31b8024bb756e1b686e2", func := "wringer/wringerlaw33.SelAsks", spec := "selAsks", unfollowed := true, recurses := true, apart := false }
def SelAsksSaid : Prop := selAsksRow.holds Try.pinned (OpenSpec.ofChange selAsksSpec)

/-- ITS FALSE NEIGHBOUR: 'it returns false'. Refute it at one input. -/
def selAsksWrong : ChangeSpec := { name := "selAsks", fn := fun _ => fun
  | [d1, d2] => { results := [.lit (.bool false)], args := [d1, d2] }
  | _ => none }
def SelAsksWrongFalsely : Prop := selAsksRow.holds Try.pinned (OpenSpec.ofChange selAsksWrong)

/-- 'wringerlaw33.SelNext': WHATEVER THE INPUT: true; the input reads as it did. -/
def selNextSpec : ChangeSpec := { name := "selNext", fn := fun _ => fun
  | [d1, d2] => { results := [.lit (.bool true)], args := [d1, d2] }
  | _ => none }
def selNextRow : OpenClaim := { program := "ytddabbfjoejalaa", sum := "faf109e9dece03ce195b896972280da883f13292093c31b8024bb756e1b686e2", func := "wringer/wringerlaw33.SelNext", spec := "selNext", unfollowed := true, recurses := true, apart := false }
def SelNextSaid : Prop := selNextRow.holds Try.pinned (OpenSpec.ofChange selNextSpec)

/-- ITS FALSE NEIGHBOUR: 'it returns false'. Refute it at one input. -/
def selNextWrong : ChangeSpec := { name := "selNext", fn := fun _ => fun
  | [d1, d2] => { results := [.lit (.bool false)], args := [d1, d2] }
  | _ => none }
def SelNextWrongFalsely : Prop := selNextRow.holds Try.pinned (OpenSpec.ofChange selNextWrong)

/-- 'wringerlaw33.SelBack': WHATEVER THE INPUT: true; the input reads as it did. -/
def selBackSpec : ChangeSpec := { name := "selBack", fn := fun _ => fun
  | [d1, d2] => { results := [.lit (.bool true)], args := [d1, d2] }
  | _ => none }
def selBackRow : OpenClaim := { program := "ytddabbfjoejalaa", sum := "faf109e9dece03ce195b896972280da883f13292093c31b8024bb756e1b686e2", func := "wringer/wringerlaw33.SelBack", spec := "selBack", unfollowed := true, recurses := true, apart := false }
def SelBackSaid : Prop := selBackRow.holds Try.pinned (OpenSpec.ofChange selBackSpec)

/-- ITS FALSE NEIGHBOUR: 'it returns false'. Refute it at one input. -/
def selBackWrong : ChangeSpec := { name := "selBack", fn := fun _ => fun
  | [d1, d2] => { results := [.lit (.bool false)], args := [d1, d2] }
  | _ => none }
def SelBackWrongFalsely : Prop := selBackRow.holds Try.pinned (OpenSpec.ofChange selBackWrong)

/-- 'wringerlaw33.SelRise': WHATEVER THE INPUT: true; the input reads as it did. -/
def selRiseSpec : ChangeSpec := { name := "selRise", fn := fun _ => fun
  | [d1, d2] => { results := [.lit (.bool true)], args := [d1, d2] }
  | _ => none }
def selRiseRow : OpenClaim := { program := "ytddabbfjoejalaa", sum := "faf109e9dece03ce195b896972280da883f13292093c31b8024bb756e1b686e2", func := "wringer/wringerlaw33.SelRise", spec := "selRise", unfollowed := true, recurses := true, apart := false }
def SelRiseSaid : Prop := selRiseRow.holds Try.pinned (OpenSpec.ofChange selRiseSpec)

/-- ITS FALSE NEIGHBOUR: 'it returns false'. Refute it at one input. -/
def selRiseWrong : ChangeSpec := { name := "selRise", fn := fun _ => fun
  | [d1, d2] => { results := [.lit (.bool false)], args := [d1, d2] }
  | _ => none }
def SelRiseWrongFalsely : Prop := selRiseRow.holds Try.pinned (OpenSpec.ofChange selRiseWrong)

/- THE SECOND FORM. 'bulk': how many values and letters a reading holds, each counted each time it is reached (what is shared counts as often as it is met; a slice's spare places count too). A statement '..UptoSaid' is the law's where the arguments, and the package variables that the reading takes, are together of bulk at most 1048576: NARROWER than '..Said'. Prove '..Said' where nothing that the law and all that it calls make is longer than what came in: it says more and counts as full. Else prove '..UptoSaid'. A law counts once. -/
mutual
def uptoBulk {H : Type} : DataW H → Nat
  | .lit (.string bytes) => bytes.length + 1
  | .lit _ => 1
  | .nil => 1
  | .ptr d => uptoBulk d + 1
  | .slice elems spare => uptoBulkAll elems + uptoBulkAll spare + 1
  | .agg parts => uptoBulkAll parts + 1
  | .iface _ d => uptoBulk d + 1
  | .map entries => uptoBulkEntries entries + 1
  | .held _ => 1
def uptoBulkAll {H : Type} : List (DataW H) → Nat
  | [] => 0
  | d :: r => uptoBulk d + uptoBulkAll r
def uptoBulkEntries {H : Type} : List (Lit × DataW H) → Nat
  | [] => 0
  | x :: r => uptoBulkEntry x + uptoBulkEntries r
def uptoBulkEntry {H : Type} : Lit × DataW H → Nat
  | (.string bytes, d) => bytes.length + uptoBulk d + 1
  | (_, d) => uptoBulk d + 1
 end
def uptoSmall : (H : Type) → List (DataW H) → Bool := fun _ ds => decide (uptoBulkAll ds ≤ 1048576)
def OpenSpec.upto (s : _root_.Go.ChangeSpec) : _root_.Go.OpenSpec := { _root_.Go.OpenSpec.ofChange s with cond := some uptoSmall }

/-- 'wringerlaw08.LoserMakes', WHERE WHAT IT READS IS OF BULK AT MOST 1048576: true; the input reads as it did. -/
def loserMakesUptoRow : OpenClaim := { program := "ytddabbfjoejalaa", sum := "faf109e9dece03ce195b896972280da883f13292093c31b8024bb756e1b686e2", func := "wringer/wringerlaw08.LoserMakes", spec := "loserMakes", apart := false, narrowed := true }
def LoserMakesUptoSaid : Prop := loserMakesUptoRow.holds Try.pinned (OpenSpec.upto loserMakesSpec)

/-- 'wringerlaw08.LoserPuts', WHERE WHAT IT READS IS OF BULK AT MOST 1048576: true; the input reads as it did. -/
def loserPutsUptoRow : OpenClaim := { program := "ytddabbfjoejalaa", sum := "faf109e9dece03ce195b896972280da883f13292093c31b8024bb756e1b686e2", func := "wringer/wringerlaw08.LoserPuts", spec := "loserPuts", apart := false, narrowed := true }
def LoserPutsUptoSaid : Prop := loserPutsUptoRow.holds Try.pinned (OpenSpec.upto loserPutsSpec)

/-- 'wringerlaw08.LoserSorted', WHERE WHAT IT READS IS OF BULK AT MOST 1048576: true; the input reads as it did. -/
def loserSortedUptoRow : OpenClaim := { program := "ytddabbfjoejalaa", sum := "faf109e9dece03ce195b896972280da883f13292093c31b8024bb756e1b686e2", func := "wringer/wringerlaw08.LoserSorted", spec := "loserSorted", apart := false, narrowed := true }
def LoserSortedUptoSaid : Prop := loserSortedUptoRow.holds Try.pinned (OpenSpec.upto loserSortedSpec)

/-- 'wringerlaw08.LoserLeast', WHERE WHAT IT READS IS OF BULK AT MOST 1048576: true; the input reads as it did. -/
def loserLeastUptoRow : OpenClaim := { program := "ytddabbfjoejalaa", sum := "faf109e9dece03ce195b896972280da883f13292093c31b8024bb756e1b686e2", func := "wringer/wringerlaw08.LoserLeast", spec := "loserLeast", apart := false, narrowed := true }
def LoserLeastUptoSaid : Prop := loserLeastUptoRow.holds Try.pinned (OpenSpec.upto loserLeastSpec)

/-- 'wringerlaw08.LoserShort', WHERE WHAT IT READS IS OF BULK AT MOST 1048576: true; the input reads as it did. -/
def loserShortUptoRow : OpenClaim := { program := "ytddabbfjoejalaa", sum := "faf109e9dece03ce195b896972280da883f13292093c31b8024bb756e1b686e2", func := "wringer/wringerlaw08.LoserShort", spec := "loserShort", apart := false, narrowed := true }
def LoserShortUptoSaid : Prop := loserShortUptoRow.holds Try.pinned (OpenSpec.upto loserShortSpec)

/-- 'wringerlaw33.SelMakes', WHERE WHAT IT READS IS OF BULK AT MOST 1048576: true; the input reads as it did. -/
def selMakesUptoRow : OpenClaim := { program := "ytddabbfjoejalaa", sum := "faf109e9dece03ce195b896972280da883f13292093c31b8024bb756e1b686e2", func := "wringer/wringerlaw33.SelMakes", spec := "selMakes", unfollowed := true, recurses := true, apart := false, narrowed := true }
def SelMakesUptoSaid : Prop := selMakesUptoRow.holds Try.pinned (OpenSpec.upto selMakesSpec)

/-- 'wringerlaw33.SelAsks', WHERE WHAT IT READS IS OF BULK AT MOST 1048576: true; the input reads as it did. -/
def selAsksUptoRow : OpenClaim := { program := "ytddabbfjoejalaa", sum := "faf109e9dece03ce195b896972280da883f13292093c31b8024bb756e1b686e2", func := "wringer/wringerlaw33.SelAsks", spec := "selAsks", unfollowed := true, recurses := true, apart := false, narrowed := true }
def SelAsksUptoSaid : Prop := selAsksUptoRow.holds Try.pinned (OpenSpec.upto selAsksSpec)

/-- 'wringerlaw33.SelNext', WHERE WHAT IT READS IS OF BULK AT MOST 1048576: true; the input reads as it did. -/
def selNextUptoRow : OpenClaim := { program := "ytddabbfjoejalaa", sum := "faf109e9dece03ce195b896972280da883f13292093c31b8024bb756e1b686e2", func := "wringer/wringerlaw33.SelNext", spec := "selNext", unfollowed := true, recurses := true, apart := false, narrowed := true }
def SelNextUptoSaid : Prop := selNextUptoRow.holds Try.pinned (OpenSpec.upto selNextSpec)

/-- 'wringerlaw33.SelBack', WHERE WHAT IT READS IS OF BULK AT MOST 1048576: true; the input reads as it did. -/
def selBackUptoRow : OpenClaim := { program := "ytddabbfjoejalaa", sum := "faf109e9dece03ce195b896972280da883f13292093c31b8024bb756e1b686e2", func := "wringer/wringerlaw33.SelBack", spec := "selBack", unfollowed := true, recurses := true, apart := false, narrowed := true }
def SelBackUptoSaid : Prop := selBackUptoRow.holds Try.pinned (OpenSpec.upto selBackSpec)

/-- 'wringerlaw33.SelRise', WHERE WHAT IT READS IS OF BULK AT MOST 1048576: true; the input reads as it did. -/
def selRiseUptoRow : OpenClaim := { program := "ytddabbfjoejalaa", sum := "faf109e9dece03ce195b896972280da883f13292093c31b8024bb756e1b686e2", func := "wringer/wringerlaw33.SelRise", spec := "selRise", unfollowed := true, recurses := true, apart := false, narrowed := true }
def SelRiseUptoSaid : Prop := selRiseUptoRow.holds Try.pinned (OpenSpec.upto selRiseSpec)

end Rows
end Go.Proofs.Ytddabbfjoejalaa
