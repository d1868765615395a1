/-
  Disk, the document's side: power, as, Zeros.
-/
import Derived.Test.YtkeiphkccnfhoaaDR3
namespace Go.Proofs.Ytkeiphkccnfhoaa
open Go.RowKit
open Mv Disk
set_option linter.unusedVariables false
set_option linter.unusedSimpArgs false
set_option maxRecDepth 4000
theorem rds_ownE {S : Mem} {b : Nat} {r : Blk} {cs : List Value} (h : S.own b = some r) (e : r.cells = cs) : S.rds ⟨b, 0, none⟩ cs := by rw [← e]; exact rds_own h
theorem zero_cells (n : Nat) : madeL [.int .u8 0] ((64 * (n : Int)).toNat * 1) = cellsB (List.replicate (64 * n) 0) := by
  rw [madeL_one, show (64 * (n : Int)).toNat * 1 = 64 * n from by omega]
  simp [cellsB, nb]
theorem rd_Zeros (n : Nat) (S : Mem) (hn : n ≤ 16384) : ACall Try.prog 53 #[.int .i64 (n : Int)] S fun r S' => r = .string (zeros n) ∧ S' = S := by
  refine ACall.enter (args := [.int .i64 (n : Int)]) (rs := [.tmp 2]) 7 [(0, .int .i64 (n : Int))] Try.func53 rfl rfl (Nat.le_of_ble_eq_true rfl) rfl ⟨rfl, trivial⟩ ?_
  refine AWP.seq ?_
  refine AWP.region ?_
  refine rC (Calm.assign rfl) ?_
  refine arun_nil ?_
  refine athen_n ?_
  refine AWP.seq ?_
  refine AWP.region ?_
  refine rC (Calm.move rfl) ?_
  refine rC (Calm.bin rfl rfl b_mul_i64) ?_
  refine ARun.makeSlice (lit_lt rfl) ty_sl_92 rfl rfl (by omega) (by omega) (by omega) (by omega) ?_
  intro b5 f5
  have g5 := f5
  repeat ((with_reducible replace g5 := fresh_set g5); obtain ⟨g5, _⟩ := g5)
  refine rC (Calm.toStr ty_bytes_92 ty_str_9 rfl (l := List.replicate (64 * n) 0) (by rw [List.length_replicate]; omega) (rds_ownE (Mem.own_set_same S b5 _) (zero_cells n))) ?_
  refine rC (Calm.assign rfl) ?_
  refine arun_nil ?_
  refine athen_n ?_
  refine AWP.sub [(0, _), (2, _)] ⟨rfl, rfl, trivial⟩ ?_
  refine AWP.ret ?_
  refine ⟨_, S, ⟨_, _, rfl, rfl, rfl⟩, less_, ?_⟩
  exact ⟨rfl, rfl⟩
end Go.Proofs.Ytkeiphkccnfhoaa
