/-
  Disk, the document's side: Copy.
-/
import Derived.Test.YtkeiphkccnfhoaaDR1
namespace Go.Proofs.Ytkeiphkccnfhoaa
open Go.RowKit
open Mv Disk
set_option linter.unusedVariables false
set_option linter.unusedSimpArgs false
set_option maxRecDepth 4000
end Go.Proofs.Ytkeiphkccnfhoaa
