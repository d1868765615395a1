/-
  Disk, the document's side: Free.
-/
import Derived.Test.YtkeiphkccnfhoaaDR9
namespace Go.Proofs.Ytkeiphkccnfhoaa
open Go.RowKit
open Mv Disk
set_option linter.unusedVariables false
set_option linter.unusedSimpArgs false
set_option maxRecDepth 4000

theorem frees_cons (d0 d : D) (s : ByteArray) (l : List ByteArray) : freesD d0 d (s :: l) = if has d.ext s = true then freesD d0 (forgetD (eraseD d s) s) l else (d0, 3) := by
  rw [freesD]
  unfold freeD
  by_cases q : has d.ext s = true
  · rw [if_pos q, if_pos q]; rfl
  · rw [if_neg q, if_neg q]; rfl
end Go.Proofs.Ytkeiphkccnfhoaa
