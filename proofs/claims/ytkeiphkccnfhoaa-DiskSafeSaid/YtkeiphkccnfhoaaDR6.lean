/-
  Disk, the document's side: a disk without an extent.
-/
import Derived.Test.YtkeiphkccnfhoaaDR5
namespace Go.Proofs.Ytkeiphkccnfhoaa
open Go.RowKit
open Mv Disk
set_option linter.unusedVariables false
set_option linter.unusedSimpArgs false
set_option maxRecDepth 4000
theorem Mv.OkO.lessL {S T : Mem} {o : Option (Nat × Nat)} {n : Nat} (h : OkO T o n) (hl : S.Less T) : OkO S o n :=
  ⟨h.nil, fun q c e => ⟨⟨(by
    have h1 := (h.own q c e).1.1
    cases hs : S.own q with
    | none => rfl
    | some r => rw [hl.1 q r hs] at h1; cases h1), fun a v ha => (h.own q c e).1.2 a v (by rw [← hl.2]; exact ha)⟩, (h.own q c e).2⟩⟩
def boxD (d : D) (a b : Value) : Blk := ⟨25, [.int .i64 d.size, a, b, .int .i64 d.fuse, .bool d.down], 5⟩
end Go.Proofs.Ytkeiphkccnfhoaa
