/-
  Disk: what waits is done, by the program.
-/
import Derived.Test.YtkeiphkccnfhoaaDisk17
import Derived.Test.YtkeiphkccnfhoaaDiskMath3
namespace Go.Proofs.Ytkeiphkccnfhoaa
open Go.RowKit
open Mv Disk
set_option linter.unusedVariables false
set_option linter.unusedSimpArgs false
set_option maxRecDepth 4000
section
variable {P : Program} {N : Nat} {ops : Array Oper} {E : Env} {S : Mem} {K : Env → Mem → Prop}
variable {ty : TypeId} {pos : String} {aft : Array Edge} {gd : Option (Nat × Bool)}
/-- copy of a text into bytes of one's own. -/
theorem Mv.ARun.copyStr {os : List Oper} {T T2 e : TypeId} {y : Nat} {z : List Value} {x1 x2 : Operand} {b o k c d : Nat} {r : Blk} {t : ByteArray} (hn : d < N) (hT : slT P T = some (e, 1, y, z))
    (hx : ev E x1 = some (.slice (some ⟨b, o, none⟩) k c)) (hb : S.own b = some r) (hy : ev E x2 = some (.string t)) (hle : t.size ≤ k) (ho : o + t.size ≤ r.cells.length)
    (h : ARun P N ops os K ((d, .int .i64 (t.size : Int)) :: E) (S.set b ⟨r.elem, spl r.cells o (cellsB t.data.toList), r.room⟩)) :
    ARun P N ops (⟨some d, .call ⟨.builtin .copy, #[x1, x2], #[T, T2]⟩, ty, pos, aft, none⟩ :: os) K E S := fun a w g hv => by
  rw [if_pos (by simp [Region.wanted])]
  obtain ⟨hu, i, v, e1, e2, e3, e4, e5⟩ := slT_spec hT
  have hex : (execOp a.eval ⟨some d, .call ⟨.builtin .copy, #[x1, x2], #[T, T2]⟩, ty, pos, aft, none⟩).run P w = ((Builtin.copy_ #[T, T2] ty #[.slice (some ⟨b, o, none⟩) k c, .string t]).run P w).andThen fun v w' => .ok (.value v) w' := by
    simp [execOp, resolve, invoke, builtin, g.ev hx, g.ev hy]
  unfold Oper.wp
  rw [hex]
  obtain ⟨cur, fz, k1, k2, k3, k4⟩ := hv.own b r hb
  have hcur : r.cells.length ≤ cur.size := by have := k2.length_le; simpa using this
  have hl : (cellsB t.data.toList).length = t.size := by rw [cellsB_length, size_data]
  obtain ⟨q1, q2⟩ := store_cells (P := P) hv hb (vs := cellsB t.data.toList) (o := o) (by omega) (.inl (by rw [hl]; exact ho)) (fun v hv => by
    obtain ⟨x, _, rfl⟩ := List.mem_map.1 hv
    rfl)
  have hr := run_copy_string (P := P) w T T2 ty e b o k c t hu (fun w => by simp [Go.sizeOf, typeInfo, e1, e3]) hle
    (fun j hj => by simp [World.cell?, k1]; omega) (fun j hj => by have := k4 (o + j) (.inl (by omega)); simpa [World.frozen?, k1] using this)
  rw [hr]
  exact ⟨_, _, h, g.put hn _, q2⟩
end
theorem spl_cells {l t : List UInt8} {k : Nat} (h : k + t.length ≤ l.length) : spl (cellsB l) k (cellsB t) = cellsB (l.take k ++ t ++ l.drop (k + t.length)) := by
  unfold spl cellsB
  simp only [List.map_append, List.map_take, List.map_drop, List.length_map]
theorem putS_cells {x : ByteArray} {w : Wr} (h : 64 * w.2.1.toNat + 64 ≤ x.size) (h2 : w.2.2.size = 64) : spl (cellsB x.data.toList) (0 + 64 * w.2.1.toNat * 1) (cellsB w.2.2.data.toList) = cellsB (putS x w).data.toList := by
  rw [show 0 + 64 * w.2.1.toNat * 1 = 64 * w.2.1.toNat from by omega, spl_cells (by rw [size_data, size_data, h2]; exact h), size_data, h2]
  unfold putS; rfl
end Go.Proofs.Ytkeiphkccnfhoaa
