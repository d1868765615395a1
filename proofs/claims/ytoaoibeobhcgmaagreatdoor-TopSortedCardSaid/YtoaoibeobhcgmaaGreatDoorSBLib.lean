/-
  Of the library: Len64,OnesCount8,Clone: what the layer of bits calls. (Lines of the kit's worked walks,turned to this program.)
-/
import Derived.Test.YtoaoibeobhcgmaaGreatDoorBitsWrite
import Derived.Lib.BitFns
import Derived.Lib.BufferWrite
import Derived.Lib.UnsafeStr
import Derived.Laws.MakeOwn
namespace Go.Proofs.YtoaoibeobhcgmaaGreatDoor
open Go.RowKit
open Bits
set_option maxRecDepth 8000
set_option linter.unusedVariables false

end Go.Proofs.YtoaoibeobhcgmaaGreatDoor
