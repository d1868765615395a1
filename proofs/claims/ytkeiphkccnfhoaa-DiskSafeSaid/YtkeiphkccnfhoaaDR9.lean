/-
  Disk, the document's side: New.
-/
import Derived.Test.YtkeiphkccnfhoaaDR6
namespace Go.Proofs.Ytkeiphkccnfhoaa
open Go.RowKit
open Mv Disk
set_option linter.unusedVariables false
set_option linter.unusedSimpArgs false
set_option maxRecDepth 4000

end Go.Proofs.Ytkeiphkccnfhoaa
