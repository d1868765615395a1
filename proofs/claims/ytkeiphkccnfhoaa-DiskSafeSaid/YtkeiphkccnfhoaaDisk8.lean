/-
  Disk: a disk at work seen as one of its slices over the rest.
-/
import Derived.Test.YtkeiphkccnfhoaaDisk7
namespace Go.Proofs.Ytkeiphkccnfhoaa
open Go.RowKit
open Mv Disk
set_option linter.unusedVariables false
set_option linter.unusedSimpArgs false
set_option maxRecDepth 4000
theorem outN_set {n : Nat} {S : Mem} {o : Option (Nat × Nat)} {e : TypeId} {cs : List Value} {b : Nat} {r : Blk} (h : ∀ q c, o = some (q, c) → q ≠ b) : outN n (S.set b r) o e cs = (outN n S o e cs).set b r := by
  cases o with
  | none => rfl
  | some q => exact Mem.set_comm _ _ _ (Ne.symm (h _ _ rfl))
theorem outN_comm {n m : Nat} {S : Mem} {o o' : Option (Nat × Nat)} {e e' : TypeId} {cs cs' : List Value} (h : ∀ q c q' c', o = some (q, c) → o' = some (q', c') → q ≠ q') : outN n (outN m S o' e' cs') o e cs = outN m (outN n S o e cs) o' e' cs' := by
  cases o with
  | none => rfl
  | some q =>
    cases o' with
    | none => rfl
    | some q' => exact Mem.set_comm _ _ _ (Ne.symm (h _ _ _ _ rfl rfl))
theorem own_outN' {n : Nat} {S : Mem} {o : Option (Nat × Nat)} {e : TypeId} {cs : List Value} {b : Nat} {r : Blk} (hb : S.own b = some r) (h : ∀ q c, o = some (q, c) → q ≠ b) : (outN n S o e cs).own b = some r := by
  cases o with
  | none => exact hb
  | some q => exact (Mem.own_set_other _ _ (Ne.symm (h _ _ rfl))).trans hb
theorem fresh_outN_mk {n : Nat} {S : Mem} {o : Option (Nat × Nat)} {e : TypeId} {cs : List Value} {b : Nat} (hb : Fresh S b) (h : ∀ q c, o = some (q, c) → q ≠ b) : Fresh (outN n S o e cs) b := by
  cases o with
  | none => exact hb
  | some q => exact fresh_more hb (Ne.symm (h _ _ rfl))
/-- The block of a disk at work. -/
def devB (d : D) (oE oW : Option (Nat × Nat)) : Blk := ⟨90, [.int .i64 d.size, outV oE d.ext.length, outV oW d.waits.length, .int .i64 d.fuse, .bool d.down], 5⟩
theorem devM_eq (S : Mem) (p : Nat) (d : D) (oE oW : Option (Nat × Nat)) : devM S p d oE oW = (outN 3 (outN 2 S oE extT (d.ext.flatMap extF)) oW wrT (d.waits.flatMap wrF)).set p (devB d oE oW) := rfl
/-- What is apart. -/
structure Apart (S : Mem) (p : Nat) (oE oW : Option (Nat × Nat)) : Prop where
  e : ∀ b c, oE = some (b, c) → Fresh S b ∧ b ≠ p
  w : ∀ b c, oW = some (b, c) → Fresh S b ∧ b ≠ p
  ew : ∀ b c b' c', oE = some (b, c) → oW = some (b', c') → b ≠ b'
  p : Fresh S p
structure Fits (d : D) (oE oW : Option (Nat × Nat)) : Prop where
  e0 : oE = none → d.ext.length = 0
  w0 : oW = none → d.waits.length = 0
  e : ∀ b c, oE = some (b, c) → d.ext.length ≤ c
  w : ∀ b c, oW = some (b, c) → d.waits.length ≤ c
theorem OkV.apart {S : Mem} {p : Nat} {d : D} {oE oW : Option (Nat × Nat)} (h : OkV S p d oE oW) : Apart S p oE oW := by
  obtain ⟨h1, h2⟩ := fresh_outN h.fr
  obtain ⟨h3, h4⟩ := fresh_outN h1
  exact ⟨fun b c e => ⟨(h.dk.e.own b c e).1, Ne.symm (h4 b c e)⟩, fun b c e => ⟨(fresh_outN (h.dk.w.own b c e).1).1, Ne.symm (h2 b c e)⟩, fun b c b' c' e e' => Ne.symm ((fresh_outN (h.dk.w.own b' c' e').1).2 b c e), h3⟩
theorem OkV.fits {S : Mem} {p : Nat} {d : D} {oE oW : Option (Nat × Nat)} (h : OkV S p d oE oW) : Fits d oE oW := ⟨h.dk.e.nil, h.dk.w.nil, fun b c e => (h.dk.e.own b c e).2, fun b c e => (h.dk.w.own b c e).2⟩
theorem okV_mk {S : Mem} {p : Nat} {d : D} {oE oW : Option (Nat × Nat)} (h : Apart S p oE oW) (f : Fits d oE oW) : OkV S p d oE oW :=
  ⟨⟨⟨f.e0, fun b c e => ⟨(h.e b c e).1, f.e b c e⟩⟩, ⟨f.w0, fun b c e => ⟨fresh_outN_mk (h.w b c e).1 (fun q c' e' => h.ew q c' b c e' e), f.w b c e⟩⟩⟩, fresh_outN_mk (fresh_outN_mk h.p (fun q c e => (h.e q c e).2)) (fun q c e => (h.w q c e).2)⟩
/-- All but the extents. -/
def baseE (S : Mem) (p : Nat) (d : D) (oW : Option (Nat × Nat)) (r : Blk) : Mem := (outN 3 S oW wrT (d.waits.flatMap wrF)).set p r
theorem devM_E {S : Mem} {p : Nat} {d : D} {oE oW : Option (Nat × Nat)} (h : Apart S p oE oW) (r : Blk) : outN 2 (baseE S p d oW r) oE extT (d.ext.flatMap extF) = (outN 3 (outN 2 S oE extT (d.ext.flatMap extF)) oW wrT (d.waits.flatMap wrF)).set p r := by
  unfold baseE
  rw [outN_set (fun q c e => (h.e q c e).2), outN_comm (fun q c q' c' e e' => h.ew q c q' c' e e')]
theorem okO_baseE {S : Mem} {p : Nat} {d : D} {oE oW : Option (Nat × Nat)} (h : Apart S p oE oW) (f : Fits d oE oW) (r : Blk) : OkO (baseE S p d oW r) oE d.ext.length :=
  ⟨f.e0, fun b c e => ⟨fresh_more (fresh_outN_mk (h.e b c e).1 (fun q c' e' => Ne.symm (h.ew b c q c' e e'))) (h.e b c e).2, f.e b c e⟩⟩
theorem apart_E {S : Mem} {p : Nat} {d : D} {oE oE' oW : Option (Nat × Nat)} {r : Blk} {k : Nat} (h : Apart S p oE oW) (h' : OkO (baseE S p d oW r) oE' k) : Apart S p oE' oW :=
  ⟨fun b c e => by
    obtain ⟨h1, h2⟩ := fresh_set (h'.own b c e).1
    exact ⟨(fresh_outN h1).1, h2⟩, h.w, fun b c b' c' e e' => by
    obtain ⟨h1, h2⟩ := fresh_set (h'.own b c e).1
    exact (fresh_outN h1).2 b' c' e', h.p⟩
theorem fits_E {S : Mem} {p : Nat} {d d' : D} {oE oE' oW : Option (Nat × Nat)} {r : Blk} {k : Nat} (f : Fits d oE oW) (h' : OkO (baseE S p d oW r) oE' k) (hk : d'.ext.length = k) (hw : d'.waits = d.waits) : Fits d' oE' oW :=
  ⟨fun e => by rw [hk]; exact h'.nil e, fun e => by rw [hw]; exact f.w0 e, fun b c e => by rw [hk]; exact (h'.own b c e).2, fun b c e => by rw [hw]; exact f.w b c e⟩
/-- The extents have turned: the block is written anew. -/
theorem devM_E' {S : Mem} {p : Nat} {d d' : D} {oE oE' oW : Option (Nat × Nat)} {r : Blk} {k : Nat} (h : Apart S p oE oW) (h' : OkO (baseE S p d oW r) oE' k) (hw : d'.waits = d.waits) : (outN 2 (baseE S p d oW r) oE' extT (d'.ext.flatMap extF)).set p (devB d' oE' oW) = devM S p d' oE' oW := by
  have ha := apart_E h h'
  rw [devM_eq]
  unfold baseE
  rw [outN_set (fun q c e => (ha.e q c e).2), Mem.set_set, outN_comm (fun q c q' c' e e' => ha.ew q c q' c' e e'), hw]
/-- All but what waits. -/
def baseW (S : Mem) (p : Nat) (d : D) (oE : Option (Nat × Nat)) (r : Blk) : Mem := (outN 2 S oE extT (d.ext.flatMap extF)).set p r
theorem devM_W {S : Mem} {p : Nat} {d : D} {oE oW : Option (Nat × Nat)} (h : Apart S p oE oW) (r : Blk) : outN 3 (baseW S p d oE r) oW wrT (d.waits.flatMap wrF) = (outN 3 (outN 2 S oE extT (d.ext.flatMap extF)) oW wrT (d.waits.flatMap wrF)).set p r := by
  unfold baseW
  rw [outN_set (fun q c e => (h.w q c e).2)]
theorem okO_baseW {S : Mem} {p : Nat} {d : D} {oE oW : Option (Nat × Nat)} (h : Apart S p oE oW) (f : Fits d oE oW) (r : Blk) : OkO (baseW S p d oE r) oW d.waits.length :=
  ⟨f.w0, fun b c e => ⟨fresh_more (fresh_outN_mk (h.w b c e).1 (fun q c' e' => h.ew q c' b c e' e)) (h.w b c e).2, f.w b c e⟩⟩
theorem apart_W {S : Mem} {p : Nat} {d : D} {oE oW oW' : Option (Nat × Nat)} {r : Blk} {k : Nat} (h : Apart S p oE oW) (h' : OkO (baseW S p d oE r) oW' k) : Apart S p oE oW' :=
  ⟨h.e, fun b c e => by
    obtain ⟨h1, h2⟩ := fresh_set (h'.own b c e).1
    exact ⟨(fresh_outN h1).1, h2⟩, fun b c b' c' e e' => by
    obtain ⟨h1, h2⟩ := fresh_set (h'.own b' c' e').1
    exact Ne.symm ((fresh_outN h1).2 b c e), h.p⟩
theorem fits_W {S : Mem} {p : Nat} {d d' : D} {oE oW oW' : Option (Nat × Nat)} {r : Blk} {k : Nat} (f : Fits d oE oW) (h' : OkO (baseW S p d oE r) oW' k) (hk : d'.waits.length = k) (he : d'.ext = d.ext) : Fits d' oE oW' :=
  ⟨fun e => by rw [he]; exact f.e0 e, fun e => by rw [hk]; exact h'.nil e, fun b c e => by rw [he]; exact f.e b c e, fun b c e => by rw [hk]; exact (h'.own b c e).2⟩
theorem devM_W' {S : Mem} {p : Nat} {d d' : D} {oE oW oW' : Option (Nat × Nat)} {r : Blk} {k : Nat} (h : Apart S p oE oW) (h' : OkO (baseW S p d oE r) oW' k) (he : d'.ext = d.ext) : (outN 3 (baseW S p d oE r) oW' wrT (d'.waits.flatMap wrF)).set p (devB d' oE oW') = devM S p d' oE oW' := by
  have ha := apart_W h h'
  rw [devM_eq]
  unfold baseW
  rw [outN_set (fun q c e => (ha.w q c e).2), Mem.set_set, he]
theorem outV_cells (o : Option (Nat × Nat)) (n : Nat) : (outV o n).cells = #[outV o n] := by cases o <;> rfl
theorem outV_one (o : Option (Nat × Nat)) (n : Nat) : (outV o n).oneCell' = true := by cases o <;> rfl
end Go.Proofs.Ytkeiphkccnfhoaa
