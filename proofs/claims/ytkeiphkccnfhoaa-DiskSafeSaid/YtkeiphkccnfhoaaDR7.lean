/-
  Disk, the document's side: Room, Sectors, place, Read.
-/
import Derived.Test.YtkeiphkccnfhoaaDR4
import Derived.Test.YtkeiphkccnfhoaaDisk22
namespace Go.Proofs.Ytkeiphkccnfhoaa
open Go.RowKit
open Mv Disk
set_option linter.unusedVariables false
set_option linter.unusedSimpArgs false
set_option maxRecDepth 4000
/-- Why there is no such sector. -/
noncomputable def placeO (d : D) (s : ByteArray) (k : Int) : Int := if (openD d).2 ≠ 0 then (openD d).2 else (placeD d s k).2
end Go.Proofs.Ytkeiphkccnfhoaa
