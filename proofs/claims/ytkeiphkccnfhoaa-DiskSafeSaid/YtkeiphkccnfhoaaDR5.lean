/-
  Disk, the document's side: a list with an extent more.
-/
import Derived.Test.YtkeiphkccnfhoaaDR4
import Derived.Test.YtkeiphkccnfhoaaDraw
namespace Go.Proofs.Ytkeiphkccnfhoaa
open Go.RowKit
open Mv Disk
set_option linter.unusedVariables false
set_option linter.unusedSimpArgs false
set_option maxRecDepth 4000
section
variable {P : Program} {N : Nat} {E : Env} {S : Mem} {dst : Option Nat} {ty : TypeId} {pos : String} {aft : Array Edge} {gd : Option (Nat × Bool)}
end
theorem Mem.set_comm' (S : Mem) {b c : Nat} (r r' : Blk) (h : b ≠ c) : (S.set b r).set c r' = (S.set c r').set b r := by
  unfold Mem.set
  congr 1
  funext k
  by_cases e : k = c
  · subst e; simp [Ne.symm h]
  · simp [e]
theorem Mv.AppN.lessL {n : Nat} {M S S' : Mem} {o : Option (Nat × Nat)} {e : TypeId} {cs : List Value} (h : AppN n M S o e cs) (hl : S'.Less S) : AppN n M S' o e cs :=
  ⟨fun ho => ⟨(h.nil ho).1, hl.trans (h.nil ho).2⟩, fun b c ho => ⟨(h.own b c ho).1, hl.trans (h.own b c ho).2⟩⟩
end Go.Proofs.Ytkeiphkccnfhoaa
