/-
  No cell of these rows narrows 'for every input' (looked for: loops, veiled, ifaces, maps, wideKeys, modest, calm, conditions, laid).
  DERIVED. THE GIVEN ROWS OF THIS SEAT. 9 by the template 'for every input the law returns true; each argument reads behind the call as it read before'; 0 by the template 'total and deterministic' (their statements: YtkeiphkccnfhoaaTotals.lean).
  GIVEN WITH THE SEED: the statements are not yours to turn. If you find one false, say at which input.
  Laid BY PROGRAM, IN A SANDBOX (cutbox-rows.mjs): the forced cells as the released guide's own fill.sh prints them over the translation c706144c632a545e… (all of the seat's roots in one cut). By AI agents, Wed Nov 11 2026. No macro, syntax, notation, axiom, sorry.
-/
import Derived.Test.YtkeiphkccnfhoaaChecked
import GoSem.Claim
import GoSem.ClaimJoined
import GoSem.ClaimMapViews
import Derived.JoinedTies
import Derived.KernelRfl
namespace Go.Proofs.Ytkeiphkccnfhoaa
/- THE CELL 'sum', in the pinned program and in every row, IS THE sha256 OF THE DUMP (.gsa) THAT YtkeiphkccnfhoaaProg.lean LOADS. Nothing in Lean hashes anything: it is a label: what it is worth is what the hold of that sum in a sandbox is worth. -/
noncomputable def Try.pinned : Pinned := { name := "ytkeiphkccnfhoaa", sum := "c706144c632a545eb1c7da870585a36f0486d434ae63e3ebebe8687b6ee20453", checked := Try.checked }
namespace Rows
def none {H : Type} : Left H := { results := [], args := [] }

/-- 'wringerlaw04.DiskExtents': WHATEVER THE INPUT: true; the input reads as it did. -/
def diskExtentsSpec : ChangeSpec := { name := "diskExtents", fn := fun _ => fun
  | [d1, d2, d3, d4, d5] => { results := [.lit (.bool true)], args := [d1, d2, d3, d4, d5] }
  | _ => none }
def diskExtentsRow : OpenClaim := { program := "ytkeiphkccnfhoaa", sum := "c706144c632a545eb1c7da870585a36f0486d434ae63e3ebebe8687b6ee20453", func := "wringer/wringerlaw04.DiskExtents", spec := "diskExtents", inPlace := ["internal/abi.NoEscape", "internal/bytealg.MakeNoZero", "slices.overlaps[wringer/api.Extent]"], unfollowed := true, recurses := true, apart := false }
def DiskExtentsSaid : Prop := diskExtentsRow.holds Try.pinned (OpenSpec.ofChange diskExtentsSpec)

/-- ITS FALSE NEIGHBOUR: 'it returns false'. Refute it at one input. -/
def diskExtentsWrong : ChangeSpec := { name := "diskExtents", fn := fun _ => fun
  | [d1, d2, d3, d4, d5] => { results := [.lit (.bool false)], args := [d1, d2, d3, d4, d5] }
  | _ => none }
def DiskExtentsWrongFalsely : Prop := diskExtentsRow.holds Try.pinned (OpenSpec.ofChange diskExtentsWrong)

/-- 'wringerlaw04.DiskSectors': WHATEVER THE INPUT: true; the input reads as it did. -/
def diskSectorsSpec : ChangeSpec := { name := "diskSectors", fn := fun _ => fun
  | [d1, d2, d3, d4, d5] => { results := [.lit (.bool true)], args := [d1, d2, d3, d4, d5] }
  | _ => none }
def diskSectorsRow : OpenClaim := { program := "ytkeiphkccnfhoaa", sum := "c706144c632a545eb1c7da870585a36f0486d434ae63e3ebebe8687b6ee20453", func := "wringer/wringerlaw04.DiskSectors", spec := "diskSectors", inPlace := ["internal/abi.NoEscape", "internal/bytealg.MakeNoZero", "slices.overlaps[wringer/api.Extent]"], unfollowed := true, recurses := true, apart := false }
def DiskSectorsSaid : Prop := diskSectorsRow.holds Try.pinned (OpenSpec.ofChange diskSectorsSpec)

/-- ITS FALSE NEIGHBOUR: 'it returns false'. Refute it at one input. -/
def diskSectorsWrong : ChangeSpec := { name := "diskSectors", fn := fun _ => fun
  | [d1, d2, d3, d4, d5] => { results := [.lit (.bool false)], args := [d1, d2, d3, d4, d5] }
  | _ => none }
def DiskSectorsWrongFalsely : Prop := diskSectorsRow.holds Try.pinned (OpenSpec.ofChange diskSectorsWrong)

/-- 'wringerlaw04.DiskMakes': WHATEVER THE INPUT: true; the input reads as it did. -/
def diskMakesSpec : ChangeSpec := { name := "diskMakes", fn := fun _ => fun
  | [d] => { results := [.lit (.bool true)], args := [d] }
  | _ => none }
def diskMakesRow : OpenClaim := { program := "ytkeiphkccnfhoaa", sum := "c706144c632a545eb1c7da870585a36f0486d434ae63e3ebebe8687b6ee20453", func := "wringer/wringerlaw04.DiskMakes", spec := "diskMakes", inPlace := ["internal/abi.NoEscape", "internal/bytealg.MakeNoZero", "slices.overlaps[wringer/api.Extent]"], unfollowed := true, recurses := true, apart := false }
def DiskMakesSaid : Prop := diskMakesRow.holds Try.pinned (OpenSpec.ofChange diskMakesSpec)

/-- ITS FALSE NEIGHBOUR: 'it returns false'. Refute it at one input. -/
def diskMakesWrong : ChangeSpec := { name := "diskMakes", fn := fun _ => fun
  | [d] => { results := [.lit (.bool false)], args := [d] }
  | _ => none }
def DiskMakesWrongFalsely : Prop := diskMakesRow.holds Try.pinned (OpenSpec.ofChange diskMakesWrong)

/-- 'wringerlaw04.DiskSeen': WHATEVER THE INPUT: true; the input reads as it did. -/
def diskSeenSpec : ChangeSpec := { name := "diskSeen", fn := fun _ => fun
  | [d1, d2, d3, d4, d5, d6] => { results := [.lit (.bool true)], args := [d1, d2, d3, d4, d5, d6] }
  | _ => none }
def diskSeenRow : OpenClaim := { program := "ytkeiphkccnfhoaa", sum := "c706144c632a545eb1c7da870585a36f0486d434ae63e3ebebe8687b6ee20453", func := "wringer/wringerlaw04.DiskSeen", spec := "diskSeen", inPlace := ["internal/abi.NoEscape", "internal/bytealg.MakeNoZero", "slices.overlaps[wringer/api.Extent]"], unfollowed := true, recurses := true, apart := false }
def DiskSeenSaid : Prop := diskSeenRow.holds Try.pinned (OpenSpec.ofChange diskSeenSpec)

/-- ITS FALSE NEIGHBOUR: 'it returns false'. Refute it at one input. -/
def diskSeenWrong : ChangeSpec := { name := "diskSeen", fn := fun _ => fun
  | [d1, d2, d3, d4, d5, d6] => { results := [.lit (.bool false)], args := [d1, d2, d3, d4, d5, d6] }
  | _ => none }
def DiskSeenWrongFalsely : Prop := diskSeenRow.holds Try.pinned (OpenSpec.ofChange diskSeenWrong)

/-- 'wringerlaw04.DiskSafe': WHATEVER THE INPUT: true; the input reads as it did. -/
def diskSafeSpec : ChangeSpec := { name := "diskSafe", fn := fun _ => fun
  | [d1, d2, d3, d4, d5] => { results := [.lit (.bool true)], args := [d1, d2, d3, d4, d5] }
  | _ => none }
def diskSafeRow : OpenClaim := { program := "ytkeiphkccnfhoaa", sum := "c706144c632a545eb1c7da870585a36f0486d434ae63e3ebebe8687b6ee20453", func := "wringer/wringerlaw04.DiskSafe", spec := "diskSafe", inPlace := ["internal/abi.NoEscape", "internal/bytealg.MakeNoZero", "slices.overlaps[wringer/api.Extent]"], unfollowed := true, recurses := true, apart := false }
def DiskSafeSaid : Prop := diskSafeRow.holds Try.pinned (OpenSpec.ofChange diskSafeSpec)

/-- ITS FALSE NEIGHBOUR: 'it returns false'. Refute it at one input. -/
def diskSafeWrong : ChangeSpec := { name := "diskSafe", fn := fun _ => fun
  | [d1, d2, d3, d4, d5] => { results := [.lit (.bool false)], args := [d1, d2, d3, d4, d5] }
  | _ => none }
def DiskSafeWrongFalsely : Prop := diskSafeRow.holds Try.pinned (OpenSpec.ofChange diskSafeWrong)

/-- 'wringerlaw04.DiskRoom': WHATEVER THE INPUT: true; the input reads as it did. -/
def diskRoomSpec : ChangeSpec := { name := "diskRoom", fn := fun _ => fun
  | [d1, d2, d3] => { results := [.lit (.bool true)], args := [d1, d2, d3] }
  | _ => none }
def diskRoomRow : OpenClaim := { program := "ytkeiphkccnfhoaa", sum := "c706144c632a545eb1c7da870585a36f0486d434ae63e3ebebe8687b6ee20453", func := "wringer/wringerlaw04.DiskRoom", spec := "diskRoom", inPlace := ["internal/abi.NoEscape", "internal/bytealg.MakeNoZero", "slices.overlaps[wringer/api.Extent]"], unfollowed := true, recurses := true, apart := false }
def DiskRoomSaid : Prop := diskRoomRow.holds Try.pinned (OpenSpec.ofChange diskRoomSpec)

/-- ITS FALSE NEIGHBOUR: 'it returns false'. Refute it at one input. -/
def diskRoomWrong : ChangeSpec := { name := "diskRoom", fn := fun _ => fun
  | [d1, d2, d3] => { results := [.lit (.bool false)], args := [d1, d2, d3] }
  | _ => none }
def DiskRoomWrongFalsely : Prop := diskRoomRow.holds Try.pinned (OpenSpec.ofChange diskRoomWrong)

/-- 'wringerlaw04.DiskMoved': WHATEVER THE INPUT: true; the input reads as it did. -/
def diskMovedSpec : ChangeSpec := { name := "diskMoved", fn := fun _ => fun
  | [d1, d2, d3, d4] => { results := [.lit (.bool true)], args := [d1, d2, d3, d4] }
  | _ => none }
def diskMovedRow : OpenClaim := { program := "ytkeiphkccnfhoaa", sum := "c706144c632a545eb1c7da870585a36f0486d434ae63e3ebebe8687b6ee20453", func := "wringer/wringerlaw04.DiskMoved", spec := "diskMoved", inPlace := ["internal/abi.NoEscape", "internal/bytealg.MakeNoZero", "slices.overlaps[wringer/api.Extent]"], unfollowed := true, recurses := true, apart := false }
def DiskMovedSaid : Prop := diskMovedRow.holds Try.pinned (OpenSpec.ofChange diskMovedSpec)

/-- ITS FALSE NEIGHBOUR: 'it returns false'. Refute it at one input. -/
def diskMovedWrong : ChangeSpec := { name := "diskMoved", fn := fun _ => fun
  | [d1, d2, d3, d4] => { results := [.lit (.bool false)], args := [d1, d2, d3, d4] }
  | _ => none }
def DiskMovedWrongFalsely : Prop := diskMovedRow.holds Try.pinned (OpenSpec.ofChange diskMovedWrong)

/-- 'wringerlaw05.PoolMakes': WHATEVER THE INPUT: true; the input reads as it did. -/
def poolMakesSpec : ChangeSpec := { name := "poolMakes", fn := fun _ => fun
  | [d1, d2] => { results := [.lit (.bool true)], args := [d1, d2] }
  | _ => none }
def poolMakesRow : OpenClaim := { program := "ytkeiphkccnfhoaa", sum := "c706144c632a545eb1c7da870585a36f0486d434ae63e3ebebe8687b6ee20453", func := "wringer/wringerlaw05.PoolMakes", spec := "poolMakes", inPlace := ["internal/abi.NoEscape", "internal/bytealg.MakeNoZero", "slices.overlaps[wringer/api.Extent]"], unfollowed := true, recurses := true, apart := false }
def PoolMakesSaid : Prop := poolMakesRow.holds Try.pinned (OpenSpec.ofChange poolMakesSpec)

/-- ITS FALSE NEIGHBOUR: 'it returns false'. Refute it at one input. -/
def poolMakesWrong : ChangeSpec := { name := "poolMakes", fn := fun _ => fun
  | [d1, d2] => { results := [.lit (.bool false)], args := [d1, d2] }
  | _ => none }
def PoolMakesWrongFalsely : Prop := poolMakesRow.holds Try.pinned (OpenSpec.ofChange poolMakesWrong)

/-- 'wringerlaw05.PoolLeased': WHATEVER THE INPUT: true; the input reads as it did. -/
def poolLeasedSpec : ChangeSpec := { name := "poolLeased", fn := fun _ => fun
  | [d1, d2] => { results := [.lit (.bool true)], args := [d1, d2] }
  | _ => none }
def poolLeasedRow : OpenClaim := { program := "ytkeiphkccnfhoaa", sum := "c706144c632a545eb1c7da870585a36f0486d434ae63e3ebebe8687b6ee20453", func := "wringer/wringerlaw05.PoolLeased", spec := "poolLeased", inPlace := ["internal/abi.NoEscape", "internal/bytealg.MakeNoZero", "slices.overlaps[wringer/api.Extent]"], unfollowed := true, recurses := true, apart := false }
def PoolLeasedSaid : Prop := poolLeasedRow.holds Try.pinned (OpenSpec.ofChange poolLeasedSpec)

/-- ITS FALSE NEIGHBOUR: 'it returns false'. Refute it at one input. -/
def poolLeasedWrong : ChangeSpec := { name := "poolLeased", fn := fun _ => fun
  | [d1, d2] => { results := [.lit (.bool false)], args := [d1, d2] }
  | _ => none }
def PoolLeasedWrongFalsely : Prop := poolLeasedRow.holds Try.pinned (OpenSpec.ofChange poolLeasedWrong)

/- THE SECOND FORM. 'bulk': how many values and letters a reading holds, each counted each time it is reached (what is shared counts as often as it is met; a slice's spare places count too). A statement '..UptoSaid' is the law's where the arguments, and the package variables that the reading takes, are together of bulk at most 1048576: NARROWER than '..Said'. Prove '..Said' where nothing that the law and all that it calls make is longer than what came in: it says more and counts as full. Else prove '..UptoSaid'. A law counts once. -/
mutual
def uptoBulk {H : Type} : DataW H → Nat
  | .lit (.string bytes) => bytes.length + 1
  | .lit _ => 1
  | .nil => 1
  | .ptr d => uptoBulk d + 1
  | .slice elems spare => uptoBulkAll elems + uptoBulkAll spare + 1
  | .agg parts => uptoBulkAll parts + 1
  | .iface _ d => uptoBulk d + 1
  | .map entries => uptoBulkEntries entries + 1
  | .held _ => 1
def uptoBulkAll {H : Type} : List (DataW H) → Nat
  | [] => 0
  | d :: r => uptoBulk d + uptoBulkAll r
def uptoBulkEntries {H : Type} : List (Lit × DataW H) → Nat
  | [] => 0
  | x :: r => uptoBulkEntry x + uptoBulkEntries r
def uptoBulkEntry {H : Type} : Lit × DataW H → Nat
  | (.string bytes, d) => bytes.length + uptoBulk d + 1
  | (_, d) => uptoBulk d + 1
 end
def uptoSmall : (H : Type) → List (DataW H) → Bool := fun _ ds => decide (uptoBulkAll ds ≤ 1048576)
def OpenSpec.upto (s : _root_.Go.ChangeSpec) : _root_.Go.OpenSpec := { _root_.Go.OpenSpec.ofChange s with cond := some uptoSmall }

/-- 'wringerlaw04.DiskExtents', WHERE WHAT IT READS IS OF BULK AT MOST 1048576: true; the input reads as it did. -/
def diskExtentsUptoRow : OpenClaim := { program := "ytkeiphkccnfhoaa", sum := "c706144c632a545eb1c7da870585a36f0486d434ae63e3ebebe8687b6ee20453", func := "wringer/wringerlaw04.DiskExtents", spec := "diskExtents", inPlace := ["internal/abi.NoEscape", "internal/bytealg.MakeNoZero", "slices.overlaps[wringer/api.Extent]"], unfollowed := true, recurses := true, apart := false, narrowed := true }
def DiskExtentsUptoSaid : Prop := diskExtentsUptoRow.holds Try.pinned (OpenSpec.upto diskExtentsSpec)

/-- 'wringerlaw04.DiskSectors', WHERE WHAT IT READS IS OF BULK AT MOST 1048576: true; the input reads as it did. -/
def diskSectorsUptoRow : OpenClaim := { program := "ytkeiphkccnfhoaa", sum := "c706144c632a545eb1c7da870585a36f0486d434ae63e3ebebe8687b6ee20453", func := "wringer/wringerlaw04.DiskSectors", spec := "diskSectors", inPlace := ["internal/abi.NoEscape", "internal/bytealg.MakeNoZero", "slices.overlaps[wringer/api.Extent]"], unfollowed := true, recurses := true, apart := false, narrowed := true }
def DiskSectorsUptoSaid : Prop := diskSectorsUptoRow.holds Try.pinned (OpenSpec.upto diskSectorsSpec)

/-- 'wringerlaw04.DiskMakes', WHERE WHAT IT READS IS OF BULK AT MOST 1048576: true; the input reads as it did. -/
def diskMakesUptoRow : OpenClaim := { program := "ytkeiphkccnfhoaa", sum := "c706144c632a545eb1c7da870585a36f0486d434ae63e3ebebe8687b6ee20453", func := "wringer/wringerlaw04.DiskMakes", spec := "diskMakes", inPlace := ["internal/abi.NoEscape", "internal/bytealg.MakeNoZero", "slices.overlaps[wringer/api.Extent]"], unfollowed := true, recurses := true, apart := false, narrowed := true }
def DiskMakesUptoSaid : Prop := diskMakesUptoRow.holds Try.pinned (OpenSpec.upto diskMakesSpec)

/-- 'wringerlaw04.DiskSeen', WHERE WHAT IT READS IS OF BULK AT MOST 1048576: true; the input reads as it did. -/
def diskSeenUptoRow : OpenClaim := { program := "ytkeiphkccnfhoaa", sum := "c706144c632a545eb1c7da870585a36f0486d434ae63e3ebebe8687b6ee20453", func := "wringer/wringerlaw04.DiskSeen", spec := "diskSeen", inPlace := ["internal/abi.NoEscape", "internal/bytealg.MakeNoZero", "slices.overlaps[wringer/api.Extent]"], unfollowed := true, recurses := true, apart := false, narrowed := true }
def DiskSeenUptoSaid : Prop := diskSeenUptoRow.holds Try.pinned (OpenSpec.upto diskSeenSpec)

/-- 'wringerlaw04.DiskSafe', WHERE WHAT IT READS IS OF BULK AT MOST 1048576: true; the input reads as it did. -/
def diskSafeUptoRow : OpenClaim := { program := "ytkeiphkccnfhoaa", sum := "c706144c632a545eb1c7da870585a36f0486d434ae63e3ebebe8687b6ee20453", func := "wringer/wringerlaw04.DiskSafe", spec := "diskSafe", inPlace := ["internal/abi.NoEscape", "internal/bytealg.MakeNoZero", "slices.overlaps[wringer/api.Extent]"], unfollowed := true, recurses := true, apart := false, narrowed := true }
def DiskSafeUptoSaid : Prop := diskSafeUptoRow.holds Try.pinned (OpenSpec.upto diskSafeSpec)

/-- 'wringerlaw04.DiskRoom', WHERE WHAT IT READS IS OF BULK AT MOST 1048576: true; the input reads as it did. -/
def diskRoomUptoRow : OpenClaim := { program := "ytkeiphkccnfhoaa", sum := "c706144c632a545eb1c7da870585a36f0486d434ae63e3ebebe8687b6ee20453", func := "wringer/wringerlaw04.DiskRoom", spec := "diskRoom", inPlace := ["internal/abi.NoEscape", "internal/bytealg.MakeNoZero", "slices.overlaps[wringer/api.Extent]"], unfollowed := true, recurses := true, apart := false, narrowed := true }
def DiskRoomUptoSaid : Prop := diskRoomUptoRow.holds Try.pinned (OpenSpec.upto diskRoomSpec)

/-- 'wringerlaw04.DiskMoved', WHERE WHAT IT READS IS OF BULK AT MOST 1048576: true; the input reads as it did. -/
def diskMovedUptoRow : OpenClaim := { program := "ytkeiphkccnfhoaa", sum := "c706144c632a545eb1c7da870585a36f0486d434ae63e3ebebe8687b6ee20453", func := "wringer/wringerlaw04.DiskMoved", spec := "diskMoved", inPlace := ["internal/abi.NoEscape", "internal/bytealg.MakeNoZero", "slices.overlaps[wringer/api.Extent]"], unfollowed := true, recurses := true, apart := false, narrowed := true }
def DiskMovedUptoSaid : Prop := diskMovedUptoRow.holds Try.pinned (OpenSpec.upto diskMovedSpec)

/-- 'wringerlaw05.PoolMakes', WHERE WHAT IT READS IS OF BULK AT MOST 1048576: true; the input reads as it did. -/
def poolMakesUptoRow : OpenClaim := { program := "ytkeiphkccnfhoaa", sum := "c706144c632a545eb1c7da870585a36f0486d434ae63e3ebebe8687b6ee20453", func := "wringer/wringerlaw05.PoolMakes", spec := "poolMakes", inPlace := ["internal/abi.NoEscape", "internal/bytealg.MakeNoZero", "slices.overlaps[wringer/api.Extent]"], unfollowed := true, recurses := true, apart := false, narrowed := true }
def PoolMakesUptoSaid : Prop := poolMakesUptoRow.holds Try.pinned (OpenSpec.upto poolMakesSpec)

/-- 'wringerlaw05.PoolLeased', WHERE WHAT IT READS IS OF BULK AT MOST 1048576: true; the input reads as it did. -/
def poolLeasedUptoRow : OpenClaim := { program := "ytkeiphkccnfhoaa", sum := "c706144c632a545eb1c7da870585a36f0486d434ae63e3ebebe8687b6ee20453", func := "wringer/wringerlaw05.PoolLeased", spec := "poolLeased", inPlace := ["internal/abi.NoEscape", "internal/bytealg.MakeNoZero", "slices.overlaps[wringer/api.Extent]"], unfollowed := true, recurses := true, apart := false, narrowed := true }
def PoolLeasedUptoSaid : Prop := poolLeasedUptoRow.holds Try.pinned (OpenSpec.upto poolLeasedSpec)

end Rows
end Go.Proofs.Ytkeiphkccnfhoaa
