/-
  Disk, the document's side: Read.
-/
import Derived.Test.YtkeiphkccnfhoaaDR7
namespace Go.Proofs.Ytkeiphkccnfhoaa
open Go.RowKit
open Mv Disk
set_option linter.unusedVariables false
set_option linter.unusedSimpArgs false
set_option maxRecDepth 4000
theorem readO_see (d : D) (s : ByteArray) (k : Int) : readO d s k = if placeO d s k ≠ 0 then (ByteArray.empty, placeO d s k) else (seen d s k, 0) := by
  unfold readO placeO
  by_cases q : (openD d).2 = 0
  · have h1 : ¬ ((openD d).2 ≠ 0) := by simpa using q
    simp only [if_neg h1]; exact readD_see d s k
  · rw [if_pos q, if_pos q, if_pos q]
end Go.Proofs.Ytkeiphkccnfhoaa
