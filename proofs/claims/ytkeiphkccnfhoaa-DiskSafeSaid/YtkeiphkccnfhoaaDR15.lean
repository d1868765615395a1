/-
  Disk, the document's side: Move.
-/
import Derived.Test.YtkeiphkccnfhoaaDR14
namespace Go.Proofs.Ytkeiphkccnfhoaa
open Go.RowKit
open Mv Disk
set_option linter.unusedVariables false
set_option linter.unusedSimpArgs false
set_option maxRecDepth 4000

theorem some_val {a b : Value} (h : a = b) : some a = some b := by rw [h]
end Go.Proofs.Ytkeiphkccnfhoaa
