/-
  Disk, the document's side: two that are one are told so.
-/
import Derived.Test.YtkeiphkccnfhoaaDR13
namespace Go.Proofs.Ytkeiphkccnfhoaa
open Go.RowKit
open Mv Disk
set_option linter.unusedVariables false
set_option linter.unusedSimpArgs false
set_option maxRecDepth 20000
end Go.Proofs.Ytkeiphkccnfhoaa
