/-
  Num: the order of numbers one behind the other; records that are held against each other.
-/
import Derived.Test.YtgidjbpgkeemiaaTypes
import Derived.Test.YtgidjbpgkeemiaaNumBase
namespace Go.Proofs.Ytgidjbpgkeemiaa
open Go.RowKit
open Mv Num
set_option linter.unusedVariables false
set_option linter.unusedSimpArgs false
set_option maxRecDepth 4000
theorem numV_isNaN (x : Nat) (S : Mem) : ACall Try.prog 130 #[.int .u64 x] S fun r S' => r = .bool false ∧ S' = S := by
  refine ACall.enter (args := [.int .u64 x]) (rs := [.tmp 2]) 6 [(0, .int .u64 x)] Try.func130 rfl rfl (Nat.le_of_ble_eq_true rfl) rfl ⟨rfl, trivial⟩ ?_
  refine AWP.seq ?_
  refine AWP.region ?_
  refine rC (Calm.assign rfl) ?_
  refine arun_nil ?_
  refine athen_n ?_
  refine AWP.seq ?_
  refine AWP.region ?_
  refine rC (Calm.move rfl) ?_
  refine rC (Calm.move rfl) ?_
  refine rC (Calm.bin rfl rfl b_neq) ?_
  refine rC (Calm.assign rfl) ?_
  refine arun_nil ?_
  refine athen_n ?_
  refine AWP.sub [(0, _), (2, _)] ⟨rfl, rfl, trivial⟩ ?_
  refine AWP.ret ?_
  refine ⟨_, S, ⟨_, _, rfl, rfl, rfl⟩, less_, ?_⟩
  exact ⟨rfl, rfl⟩
theorem numV_cmp (x y : Nat) (S : Mem) : ACall Try.prog 94 #[.int .u64 x, .int .u64 y] S fun r S' => r = .int .i64 (if x < y then -1 else if y < x then 1 else 0) ∧ S' = S := by
  refine ACall.enter (args := [.int .u64 x, .int .u64 y]) (rs := [.tmp 4]) 20 [(0, .int .u64 x), (1, .int .u64 y)] Try.func94 rfl rfl (Nat.le_of_ble_eq_true rfl) rfl ⟨rfl, rfl, trivial⟩ ?_
  refine AWP.seq ?_
  refine AWP.region ?_
  refine rC (Calm.assign rfl) ?_
  refine arun_nil ?_
  refine athen_n ?_
  refine AWP.seq ?_
  refine AWP.region ?_
  refine rC (Calm.move rfl) ?_
  refine ARun.call (lit_lt rfl) go_130 rfl (numV_isNaN x S) ?_
  rintro _ S1 ⟨rfl, h1⟩
  rw [h1]; clear h1 S1
  refine rC (Calm.assign rfl) ?_
  refine arun_nil ?_
  refine athen_n ?_
  refine AWP.sub [(0, _), (1, _), (4, _), (5, _)] ⟨rfl, rfl, rfl, rfl, trivial⟩ ?_
  refine AWP.seq ?_
  refine AWP.region ?_
  refine rC (Calm.move rfl) ?_
  refine ARun.call (lit_lt rfl) go_130 rfl (numV_isNaN y S) ?_
  rintro _ S1 ⟨rfl, h1⟩
  rw [h1]; clear h1 S1
  refine rC (Calm.assign rfl) ?_
  refine arun_nil ?_
  refine athen_n ?_
  refine AWP.sub [(0, _), (1, _), (4, _), (5, _), (6, _)] ⟨rfl, rfl, rfl, rfl, rfl, trivial⟩ ?_
  refine AWP.seq ?_
  refine AWP.seq ?_
  refine AWP.region ?_
  refine rC (Calm.move rfl) ?_
  refine arun_nil ?_
  refine athen_n ?_
  refine AWP.condF rfl (by first | rfl | (simp; done) | (simp; omega)) ?_
  refine AWP.skip ?_
  refine athen_n ?_
  refine AWP.seq ?_
  refine AWP.seq ?_
  refine AWP.region ?_
  refine rC (Calm.move rfl) ?_
  refine arun_nil ?_
  refine athen_n ?_
  refine AWP.condF rfl (by first | rfl | (simp; done) | (simp; omega)) ?_
  by_cases c1 : x < y
  · refine AWP.skip ?_
    refine athen_n ?_
    refine AWP.seq ?_
    refine AWP.seq ?_
    refine AWP.region ?_
    refine rC (Calm.move rfl) ?_
    refine rC (Calm.move rfl) ?_
    refine rC (Calm.bin rfl rfl b_lss) ?_
    refine arun_nil ?_
    refine athen_n ?_
    refine AWP.sub [(0, _), (1, _), (4, _), (5, _), (6, _), (11, _), (13, _), (16, _)] ⟨rfl, rfl, rfl, rfl, rfl, rfl, rfl, rfl, trivial⟩ ?_
    refine AWP.condT rfl (by first | rfl | (simp; done) | (simp; omega)) ?_
    refine AWP.seq ?_
    refine AWP.region ?_
    refine rC (Calm.assign rfl) ?_
    refine arun_nil ?_
    refine athen_n ?_
    refine AWP.ret ?_
    refine athen_ret ?_
    refine ⟨_, S, ⟨_, _, rfl, rfl, rfl⟩, less_, ?_⟩
    exact ⟨by rw [if_pos c1]; rfl, rfl⟩
  · refine AWP.skip ?_
    refine athen_n ?_
    refine AWP.seq ?_
    refine AWP.seq ?_
    refine AWP.region ?_
    refine rC (Calm.move rfl) ?_
    refine rC (Calm.move rfl) ?_
    refine rC (Calm.bin rfl rfl b_lss) ?_
    refine arun_nil ?_
    refine athen_n ?_
    refine AWP.sub [(0, _), (1, _), (4, _), (5, _), (6, _), (11, _), (13, _), (16, _)] ⟨rfl, rfl, rfl, rfl, rfl, rfl, rfl, rfl, trivial⟩ ?_
    refine AWP.condF rfl (by first | rfl | (simp; done) | (simp; omega)) ?_
    by_cases c2 : y < x
    · refine AWP.skip ?_
      refine athen_n ?_
      refine AWP.seq ?_
      refine AWP.seq ?_
      refine AWP.region ?_
      refine rC (Calm.move rfl) ?_
      refine rC (Calm.move rfl) ?_
      refine rC (Calm.bin rfl rfl b_gtr) ?_
      refine arun_nil ?_
      refine athen_n ?_
      refine AWP.sub [(0, _), (1, _), (4, _), (5, _), (6, _), (11, _), (13, _), (16, _), (19, _)] ⟨rfl, rfl, rfl, rfl, rfl, rfl, rfl, rfl, rfl, trivial⟩ ?_
      refine AWP.condT rfl (by first | rfl | (simp; done) | (simp; omega)) ?_
      refine AWP.seq ?_
      refine AWP.region ?_
      refine rC (Calm.assign rfl) ?_
      refine arun_nil ?_
      refine athen_n ?_
      refine AWP.ret ?_
      refine athen_ret ?_
      refine ⟨_, S, ⟨_, _, rfl, rfl, rfl⟩, less_, ?_⟩
      exact ⟨by rw [if_neg c1, if_pos c2]; rfl, rfl⟩
    · refine AWP.skip ?_
      refine athen_n ?_
      refine AWP.seq ?_
      refine AWP.seq ?_
      refine AWP.region ?_
      refine rC (Calm.move rfl) ?_
      refine rC (Calm.move rfl) ?_
      refine rC (Calm.bin rfl rfl b_gtr) ?_
      refine arun_nil ?_
      refine athen_n ?_
      refine AWP.sub [(0, _), (1, _), (4, _), (5, _), (6, _), (11, _), (13, _), (16, _), (19, _)] ⟨rfl, rfl, rfl, rfl, rfl, rfl, rfl, rfl, rfl, trivial⟩ ?_
      refine AWP.condF rfl (by first | rfl | (simp; done) | (simp; omega)) ?_
      refine AWP.skip ?_
      refine athen_n ?_
      refine AWP.seq ?_
      refine AWP.region ?_
      refine rC (Calm.assign rfl) ?_
      refine arun_nil ?_
      refine athen_n ?_
      refine AWP.ret ?_
      refine ⟨_, S, ⟨_, _, rfl, rfl, rfl⟩, less_, ?_⟩
      exact ⟨by rw [if_neg c1, if_neg c2]; rfl, rfl⟩
set_option maxHeartbeats 1000000 in
theorem numV_Compare (a b : List Nat) (va vb : Value) (S : Mem) (ha : Sl 1 u64s S va a) (hb : Sl 1 u64s S vb b) :
    ACall Try.prog 69 #[va, vb] S fun r S' => r = .int .i64 (cmpB a b) ∧ S' = S := by
  obtain ⟨pa, ca, rfl, ha1, ha2, ha3⟩ := ha
  obtain ⟨pb, cb, rfl, hb1, hb2, hb3⟩ := hb
  refine ACall.enter (args := [.slice pa a.length ca, .slice pb b.length cb]) (rs := [.tmp 4]) 36 [(0, .slice pa a.length ca), (1, .slice pb b.length cb)] Try.func69 rfl rfl (Nat.le_of_ble_eq_true rfl) rfl ⟨rfl, rfl, trivial⟩ ?_
  refine AWP.seq ?_
  refine AWP.region ?_
  refine rC (Calm.assign rfl) ?_
  refine arun_nil ?_
  refine athen_n ?_
  refine AWP.seq ?_
  refine AWP.seq ?_
  refine AWP.region ?_
  refine rC (Calm.move rfl) ?_
  refine rC (Calm.lenSl Try.underlying22 rfl) ?_
  refine rC (Calm.move rfl) ?_
  refine arun_nil ?_
  refine athen_n ?_
  refine AWP.block ?_
  refine AWP.loop (X := Nat) (fun x => [(0, .slice pa a.length ca), (1, .slice pb b.length cb), (9, .slice pa a.length ca), (10, .int .i64 a.length), (11, .int .i64 x)]) (fun x => S) (fun x => x ≤ a.length ∧ x ≤ b.length ∧ cmpB (a.drop x) (b.drop x) = cmpB a b) (fun x => a.length - x) (0) ⟨rfl, rfl, rfl, rfl, rfl, trivial⟩ (Mem.Less.refl _) (⟨Nat.zero_le _, Nat.zero_le _, rfl⟩) ?_
  rintro i ⟨hi1, hi2, hq⟩
  (try dsimp only at *)
  refine AWP.seq ?_
  refine AWP.region ?_
  refine rC (Calm.bin rfl rfl b_lss) ?_
  refine arun_nil ?_
  refine athen_n ?_
  refine AWP.seq ?_
  refine AWP.condB rfl (fun hl => ?_) (fun hl => ?_)
  · have hl : i < a.length := by have := of_decide_eq_true hl; omega
    rw [List.drop_eq_getElem_cons hl] at hq
    obtain ⟨b0, off, rfl, hkn⟩ := ha3.resolve_left (by intro h; rw [h] at hl; exact absurd hl (Nat.not_lt_zero _))
    have hkk := hkn i hl
    by_cases hlb : i < b.length
    · refine AWP.skip ?_
      refine athen_n ?_
      refine AWP.seq ?_
      refine AWP.block ?_
      refine AWP.seq ?_
      refine AWP.region ?_
      refine rC (Calm.move rfl) ?_
      refine rC (Calm.indexS Try.underlying22 ty_size_41 rfl rfl (by omega) (by omega)) ?_
      refine rC (ld_ ty_plain_41 rfl) ?_
      refine rC (Calm.assign rfl) ?_
      refine rC (Calm.assign rfl) ?_
      refine arun_nil ?_
      refine athen_n ?_
      refine AWP.sub [(0, _), (1, _), (9, _), (10, _), (11, _), (12, _), (5, _), (6, _)] ⟨rfl, rfl, rfl, rfl, rfl, rfl, rfl, rfl, trivial⟩ ?_
      refine AWP.seq ?_
      refine AWP.seq ?_
      refine AWP.region ?_
      refine rC (Calm.move rfl) ?_
      refine rC (Calm.move rfl) ?_
      refine rC (Calm.lenSl Try.underlying22 rfl) ?_
      refine rC (Calm.bin rfl rfl b_geq) ?_
      refine arun_nil ?_
      refine athen_n ?_
      refine AWP.sub [(0, _), (1, _), (9, _), (10, _), (11, _), (12, _), (5, _), (6, _), (19, _)] ⟨rfl, rfl, rfl, rfl, rfl, rfl, rfl, rfl, rfl, trivial⟩ ?_
      refine AWP.condF rfl (by first | rfl | (simp; done) | (simp; omega)) ?_
      rw [List.drop_eq_getElem_cons hlb, cmpB] at hq
      obtain ⟨b1, off1, rfl, hkn1⟩ := hb3.resolve_left (by intro h; rw [h] at hlb; exact absurd hlb (Nat.not_lt_zero _))
      have hkk1 := hkn1 i hlb
      refine AWP.skip ?_
      refine athen_n ?_
      refine AWP.seq ?_
      refine AWP.region ?_
      refine rC (Calm.move rfl) ?_
      refine rC (Calm.move rfl) ?_
      refine rC (Calm.indexS Try.underlying22 ty_size_41 rfl rfl (by omega) (by omega)) ?_
      refine rC (ld_ ty_plain_41 rfl) ?_
      refine rC (Calm.assign rfl) ?_
      refine arun_nil ?_
      refine athen_n ?_
      refine AWP.sub [(0, _), (1, _), (9, _), (10, _), (11, _), (12, _), (5, _), (6, _), (19, _), (7, _)] ⟨rfl, rfl, rfl, rfl, rfl, rfl, rfl, rfl, rfl, rfl, trivial⟩ ?_
      refine AWP.seq ?_
      refine AWP.region ?_
      refine rC (Calm.move rfl) ?_
      refine rC (Calm.move rfl) ?_
      refine ARun.call (lit_lt rfl) go_94 rfl (numV_cmp a[i] b[i] S) ?_
      rintro _ S1 ⟨rfl, h1⟩
      rw [h1]; clear h1 S1
      refine rC (Calm.assign rfl) ?_
      refine arun_nil ?_
      refine athen_n ?_
      refine AWP.sub [(0, _), (1, _), (9, _), (10, _), (11, _), (12, _), (5, _), (6, _), (19, _), (7, _), (8, _)] ⟨rfl, rfl, rfl, rfl, rfl, rfl, rfl, rfl, rfl, rfl, rfl, trivial⟩ ?_
      by_cases c1 : a[i] < b[i]
      · rw [if_pos c1] at hq ⊢
        refine AWP.seq ?_
        refine AWP.region ?_
        refine rC (Calm.move rfl) ?_
        refine rC (Calm.bin rfl rfl b_neq) ?_
        refine arun_nil ?_
        refine athen_n ?_
        refine AWP.sub [(0, _), (1, _), (9, _), (10, _), (11, _), (12, _), (5, _), (6, _), (19, _), (7, _), (8, _), (28, _)] ⟨rfl, rfl, rfl, rfl, rfl, rfl, rfl, rfl, rfl, rfl, rfl, rfl, trivial⟩ ?_
        refine AWP.condT rfl (by first | rfl | (simp; done) | (simp; omega)) ?_
        refine AWP.seq ?_
        refine AWP.region ?_
        refine rC (Calm.move rfl) ?_
        refine rC (Calm.assign rfl) ?_
        refine arun_nil ?_
        refine athen_n ?_
        refine AWP.sub [(0, _), (1, _), (9, _), (10, _), (11, _), (12, _), (5, _), (6, _), (19, _), (7, _), (8, _), (28, _), (4, _)] ⟨rfl, rfl, rfl, rfl, rfl, rfl, rfl, rfl, rfl, rfl, rfl, rfl, rfl, trivial⟩ ?_
        refine AWP.ret ?_
        refine ain_ret ?_
        refine athen_ret ?_
        refine athen_ret ?_
        refine ain_ret ?_
        refine athen_ret ?_
        refine ⟨_, S, ⟨_, _, rfl, rfl, rfl⟩, less_, ?_⟩
        exact ⟨by rw [← hq]; rfl, rfl⟩
      · rw [if_neg c1] at hq ⊢
        by_cases c2 : b[i] < a[i]
        · rw [if_pos c2] at hq ⊢
          refine AWP.seq ?_
          refine AWP.region ?_
          refine rC (Calm.move rfl) ?_
          refine rC (Calm.bin rfl rfl b_neq) ?_
          refine arun_nil ?_
          refine athen_n ?_
          refine AWP.sub [(0, _), (1, _), (9, _), (10, _), (11, _), (12, _), (5, _), (6, _), (19, _), (7, _), (8, _), (28, _)] ⟨rfl, rfl, rfl, rfl, rfl, rfl, rfl, rfl, rfl, rfl, rfl, rfl, trivial⟩ ?_
          refine AWP.condT rfl (by first | rfl | (simp; done) | (simp; omega)) ?_
          refine AWP.seq ?_
          refine AWP.region ?_
          refine rC (Calm.move rfl) ?_
          refine rC (Calm.assign rfl) ?_
          refine arun_nil ?_
          refine athen_n ?_
          refine AWP.sub [(0, _), (1, _), (9, _), (10, _), (11, _), (12, _), (5, _), (6, _), (19, _), (7, _), (8, _), (28, _), (4, _)] ⟨rfl, rfl, rfl, rfl, rfl, rfl, rfl, rfl, rfl, rfl, rfl, rfl, rfl, trivial⟩ ?_
          refine AWP.ret ?_
          refine ain_ret ?_
          refine athen_ret ?_
          refine athen_ret ?_
          refine ain_ret ?_
          refine athen_ret ?_
          refine ⟨_, S, ⟨_, _, rfl, rfl, rfl⟩, less_, ?_⟩
          exact ⟨by rw [← hq]; rfl, rfl⟩
        · rw [if_neg c2] at hq ⊢
          refine AWP.seq ?_
          refine AWP.region ?_
          refine rC (Calm.move rfl) ?_
          refine rC (Calm.bin rfl rfl b_neq) ?_
          refine arun_nil ?_
          refine athen_n ?_
          refine AWP.sub [(0, _), (1, _), (9, _), (10, _), (11, _), (12, _), (5, _), (6, _), (19, _), (7, _), (8, _), (28, _)] ⟨rfl, rfl, rfl, rfl, rfl, rfl, rfl, rfl, rfl, rfl, rfl, rfl, trivial⟩ ?_
          refine AWP.condF rfl (by first | rfl | (simp; done) | (simp; omega)) ?_
          refine AWP.skip ?_
          refine ain_n ?_
          refine athen_n ?_
          refine AWP.region ?_
          refine rC (Calm.bin rfl rfl b_add_i64) ?_
          refine rC (Calm.move rfl) ?_
          refine arun_nil ?_
          refine athen_n ?_
          refine ⟨i + 1, ?_, ?_, ?_, ?_⟩
          all_goals (try dsimp only)
          · exact ⟨rfl, rfl, rfl, rfl, rfl, trivial⟩
          · exact Mem.Less.refl _
          · exact ⟨hl, hlb, hq⟩
          · omega
    · refine AWP.skip ?_
      refine athen_n ?_
      refine AWP.seq ?_
      refine AWP.block ?_
      refine AWP.seq ?_
      refine AWP.region ?_
      refine rC (Calm.move rfl) ?_
      refine rC (Calm.indexS Try.underlying22 ty_size_41 rfl rfl (by omega) (by omega)) ?_
      refine rC (ld_ ty_plain_41 rfl) ?_
      refine rC (Calm.assign rfl) ?_
      refine rC (Calm.assign rfl) ?_
      refine arun_nil ?_
      refine athen_n ?_
      refine AWP.sub [(0, _), (1, _), (9, _), (10, _), (11, _), (12, _), (5, _), (6, _)] ⟨rfl, rfl, rfl, rfl, rfl, rfl, rfl, rfl, trivial⟩ ?_
      refine AWP.seq ?_
      refine AWP.seq ?_
      refine AWP.region ?_
      refine rC (Calm.move rfl) ?_
      refine rC (Calm.move rfl) ?_
      refine rC (Calm.lenSl Try.underlying22 rfl) ?_
      refine rC (Calm.bin rfl rfl b_geq) ?_
      refine arun_nil ?_
      refine athen_n ?_
      refine AWP.sub [(0, _), (1, _), (9, _), (10, _), (11, _), (12, _), (5, _), (6, _), (19, _)] ⟨rfl, rfl, rfl, rfl, rfl, rfl, rfl, rfl, rfl, trivial⟩ ?_
      refine AWP.condT rfl (by first | rfl | (simp; done) | (simp; omega)) ?_
      rw [List.drop_of_length_le (show b.length ≤ i by omega)] at hq
      refine AWP.seq ?_
      refine AWP.region ?_
      refine rC (Calm.assign rfl) ?_
      refine arun_nil ?_
      refine athen_n ?_
      refine AWP.ret ?_
      refine athen_ret ?_
      refine ain_ret ?_
      refine athen_ret ?_
      refine athen_ret ?_
      refine ain_ret ?_
      refine athen_ret ?_
      refine ⟨_, S, ⟨_, _, rfl, rfl, rfl⟩, less_, ?_⟩
      exact ⟨by rw [← hq]; rfl, rfl⟩
  · have hl : i = a.length := by have := of_decide_eq_false hl; omega
    rw [List.drop_of_length_le (show a.length ≤ i by omega)] at hq
    by_cases hlb : i < b.length
    · rw [List.drop_eq_getElem_cons hlb] at hq
      refine AWP.exit ?_
      refine athen_exit ?_
      refine athen_exit ?_
      refine ain_same ?_
      refine athen_n ?_
      refine AWP.seq ?_
      refine AWP.seq ?_
      refine AWP.region ?_
      refine rC (Calm.move rfl) ?_
      refine rC (Calm.lenSl Try.underlying22 rfl) ?_
      refine rC (Calm.move rfl) ?_
      refine rC (Calm.lenSl Try.underlying22 rfl) ?_
      refine rC (Calm.bin rfl rfl b_lss) ?_
      refine arun_nil ?_
      refine athen_n ?_
      refine AWP.sub [(0, _), (1, _), (9, _), (10, _), (11, _), (12, _), (35, _)] ⟨rfl, rfl, rfl, rfl, rfl, rfl, rfl, trivial⟩ ?_
      refine AWP.condT rfl (by first | rfl | (simp; done) | (simp; omega)) ?_
      refine AWP.seq ?_
      refine AWP.region ?_
      refine rC (Calm.assign rfl) ?_
      refine arun_nil ?_
      refine athen_n ?_
      refine AWP.ret ?_
      refine athen_ret ?_
      refine ⟨_, S, ⟨_, _, rfl, rfl, rfl⟩, less_, ?_⟩
      exact ⟨by rw [← hq]; rfl, rfl⟩
    · rw [List.drop_of_length_le (show b.length ≤ i by omega)] at hq
      refine AWP.exit ?_
      refine athen_exit ?_
      refine athen_exit ?_
      refine ain_same ?_
      refine athen_n ?_
      refine AWP.seq ?_
      refine AWP.seq ?_
      refine AWP.region ?_
      refine rC (Calm.move rfl) ?_
      refine rC (Calm.lenSl Try.underlying22 rfl) ?_
      refine rC (Calm.move rfl) ?_
      refine rC (Calm.lenSl Try.underlying22 rfl) ?_
      refine rC (Calm.bin rfl rfl b_lss) ?_
      refine arun_nil ?_
      refine athen_n ?_
      refine AWP.sub [(0, _), (1, _), (9, _), (10, _), (11, _), (12, _), (35, _)] ⟨rfl, rfl, rfl, rfl, rfl, rfl, rfl, trivial⟩ ?_
      refine AWP.condF rfl (by first | rfl | (simp; done) | (simp; omega)) ?_
      refine AWP.skip ?_
      refine athen_n ?_
      refine AWP.seq ?_
      refine AWP.region ?_
      refine rC (Calm.assign rfl) ?_
      refine arun_nil ?_
      refine athen_n ?_
      refine AWP.ret ?_
      refine ⟨_, S, ⟨_, _, rfl, rfl, rfl⟩, less_, ?_⟩
      exact ⟨by rw [← hq]; rfl, rfl⟩
theorem numV_Less (a b : List Nat) (va vb : Value) (S : Mem) (ha : Sl 1 u64s S va a) (hb : Sl 1 u64s S vb b) :
    ACall Try.prog 30 #[va, vb] S fun r S' => r = .bool (lessB a b) ∧ S' = S := by
  have hq := cmpB_lt a b
  refine ACall.enter (args := [va, vb]) (rs := [.tmp 4]) 9 [(0, va), (1, vb)] Try.func30 rfl rfl (Nat.le_of_ble_eq_true rfl) rfl ⟨rfl, rfl, trivial⟩ ?_
  refine AWP.seq ?_
  refine AWP.region ?_
  refine rC (Calm.assign rfl) ?_
  refine arun_nil ?_
  refine athen_n ?_
  refine AWP.seq ?_
  refine AWP.region ?_
  refine rC (Calm.move rfl) ?_
  refine rC (Calm.move rfl) ?_
  refine ARun.call (lit_lt rfl) go_69 rfl (numV_Compare a b va vb S ha hb) ?_
  rintro _ S1 ⟨rfl, h1⟩
  rw [h1]; clear h1 S1
  refine rC (Calm.bin rfl rfl (bin_bool (bin_lss _ _) hq)) ?_
  refine rC (Calm.assign rfl) ?_
  refine arun_nil ?_
  refine athen_n ?_
  refine AWP.sub [(0, _), (1, _), (4, _)] ⟨rfl, rfl, rfl, trivial⟩ ?_
  refine AWP.ret ?_
  refine ⟨_, S, ⟨_, _, rfl, rfl, rfl⟩, less_, ?_⟩
  exact ⟨rfl, rfl⟩
set_option maxHeartbeats 1000000 in
theorem rnumV_Less (a b : List Nat) (va vb : Value) (S : Mem) (ha : Sl 1 u64s S va a) (hb : Sl 1 u64s S vb b) :
    ACall Try.prog 64 #[va, vb] S fun r S' => r = .bool (lessB a b) ∧ S' = S := by
  obtain ⟨pa, ca, rfl, ha1, ha2, ha3⟩ := ha
  obtain ⟨pb, cb, rfl, hb1, hb2, hb3⟩ := hb
  refine ACall.enter (args := [.slice pa a.length ca, .slice pb b.length cb]) (rs := [.tmp 4]) 41 [(0, .slice pa a.length ca), (1, .slice pb b.length cb)] Try.func64 rfl rfl (Nat.le_of_ble_eq_true rfl) rfl ⟨rfl, rfl, trivial⟩ ?_
  refine AWP.seq ?_
  refine AWP.region ?_
  refine rC (Calm.assign rfl) ?_
  refine arun_nil ?_
  refine athen_n ?_
  refine AWP.seq ?_
  refine AWP.seq ?_
  refine AWP.region ?_
  refine rC (Calm.assign rfl) ?_
  refine arun_nil ?_
  refine athen_n ?_
  refine AWP.block ?_
  refine AWP.loop (X := Nat) (fun x => [(0, .slice pa a.length ca), (1, .slice pb b.length cb), (5, .int .i64 x)]) (fun x => S) (fun x => x ≤ a.length ∧ x ≤ b.length ∧ lessB (a.drop x) (b.drop x) = lessB a b) (fun x => a.length - x) (0) ⟨rfl, rfl, rfl, trivial⟩ (Mem.Less.refl _) (⟨Nat.zero_le _, Nat.zero_le _, rfl⟩) ?_
  rintro i ⟨hi1, hi2, hq⟩
  (try dsimp only at *)
  by_cases hl : i < a.length
  · by_cases hlb : i < b.length
    · refine AWP.seq ?_
      refine AWP.seq ?_
      refine AWP.region ?_
      refine rC (Calm.move rfl) ?_
      refine rC (Calm.move rfl) ?_
      refine rC (Calm.lenSl Try.underlying22 rfl) ?_
      refine rC (Calm.bin rfl rfl b_lss) ?_
      refine rC (Calm.move rfl) ?_
      first | refine rS 10 ?_ | refine rU 10 ?_ | refine rG 10 (Calm.move rfl) ?_
      first | refine rS 10 ?_ | refine rU 10 ?_ | refine rG 10 (Calm.move rfl) ?_
      first | refine rS 10 ?_ | refine rU 10 ?_ | refine rG 10 (Calm.lenSl Try.underlying22 rfl) ?_
      first | refine rS 10 ?_ | refine rU 10 ?_ | refine rG 10 (Calm.bin rfl rfl b_lss) ?_
      refine rC ((by first | exact Calm.pickT rfl rfl | exact Calm.pickF rfl rfl)) ?_
      refine arun_nil ?_
      refine athen_n ?_
      refine AWP.sub [(0, _), (1, _), (5, _), (15, _)] ⟨rfl, rfl, rfl, rfl, trivial⟩ ?_
      refine AWP.condT rfl (by first | rfl | (simp; done) | (simp; omega)) ?_
      rw [List.drop_eq_getElem_cons hl, List.drop_eq_getElem_cons hlb, lessB] at hq
      obtain ⟨b0, off, rfl, hkn⟩ := ha3.resolve_left (by intro h; rw [h] at hl; exact absurd hl (Nat.not_lt_zero _))
      obtain ⟨b1, off1, rfl, hkn1⟩ := hb3.resolve_left (by intro h; rw [h] at hlb; exact absurd hlb (Nat.not_lt_zero _))
      have hkk := hkn i hl
      have hkk1 := hkn1 i hlb
      by_cases c1 : a[i] = b[i]
      · refine AWP.skip ?_
        refine athen_n ?_
        refine AWP.seq ?_
        refine AWP.block ?_
        refine AWP.seq ?_
        refine AWP.draw [(0, true), (1, true), (2, true), (3, true), (4, true), (5, true), (6, true), (7, true), (8, true)] [] mixed (by kernel_rfl) ?_
        refine dP (hc := fun _ => Calm.move rfl) (h := ?_)
        refine dP (hc := fun _ => Calm.move rfl) (h := ?_)
        refine dP (hc := fun _ => Calm.indexS Try.underlying22 ty_size_41 rfl rfl (by omega) (by omega)) (h := ?_)
        refine dC (hc := ld_ ty_plain_41 rfl) (h := ?_)
        refine dP (hc := fun _ => Calm.move rfl) (h := ?_)
        refine dP (hc := fun _ => Calm.move rfl) (h := ?_)
        refine dP (hc := fun _ => Calm.indexS Try.underlying22 ty_size_41 rfl rfl (by omega) (by omega)) (h := ?_)
        refine dC (hc := ld_ ty_plain_41 rfl) (h := ?_)
        refine dP (hc := fun _ => Calm.bin rfl rfl b_neq) (h := ?_)
        refine draw_nil ?_
        refine athen_n ?_
        refine AWP.sub [(0, _), (1, _), (5, _), (15, _), (26, _)] ⟨rfl, rfl, rfl, rfl, rfl, trivial⟩ ?_
        refine AWP.condF rfl (by first | rfl | (simp; done) | (simp; omega)) ?_
        refine AWP.skip ?_
        refine ain_n ?_
        refine athen_n ?_
        refine AWP.region ?_
        refine rC (Calm.move rfl) ?_
        refine rC (Calm.bin rfl rfl b_add_i64) ?_
        refine rC (Calm.assign rfl) ?_
        refine arun_nil ?_
        refine athen_n ?_
        refine ⟨i + 1, ?_, ?_, ?_, ?_⟩
        all_goals (try dsimp only)
        · exact ⟨rfl, rfl, rfl, trivial⟩
        · exact Mem.Less.refl _
        · exact ⟨hl, hlb, by rw [← hq]; simp [c1]⟩
        · omega
      · refine AWP.skip ?_
        refine athen_n ?_
        refine AWP.seq ?_
        refine AWP.block ?_
        refine AWP.seq ?_
        refine AWP.draw [(0, true), (1, true), (2, true), (3, true), (4, true), (5, true), (6, true), (7, true), (8, true)] [] mixed (by kernel_rfl) ?_
        refine dP (hc := fun _ => Calm.move rfl) (h := ?_)
        refine dP (hc := fun _ => Calm.move rfl) (h := ?_)
        refine dP (hc := fun _ => Calm.indexS Try.underlying22 ty_size_41 rfl rfl (by omega) (by omega)) (h := ?_)
        refine dC (hc := ld_ ty_plain_41 rfl) (h := ?_)
        refine dP (hc := fun _ => Calm.move rfl) (h := ?_)
        refine dP (hc := fun _ => Calm.move rfl) (h := ?_)
        refine dP (hc := fun _ => Calm.indexS Try.underlying22 ty_size_41 rfl rfl (by omega) (by omega)) (h := ?_)
        refine dC (hc := ld_ ty_plain_41 rfl) (h := ?_)
        refine dP (hc := fun _ => Calm.bin rfl rfl b_neq) (h := ?_)
        refine draw_nil ?_
        refine athen_n ?_
        refine AWP.sub [(0, _), (1, _), (5, _), (15, _), (26, _)] ⟨rfl, rfl, rfl, rfl, rfl, trivial⟩ ?_
        refine AWP.condT rfl (by first | rfl | (simp; done) | (simp; omega)) ?_
        refine AWP.seq ?_
        refine AWP.draw [(0, true), (1, true), (2, true), (3, true), (4, true), (5, true), (6, true), (7, true), (8, true), (9, true)] [] mixed (by kernel_rfl) ?_
        refine dP (hc := fun _ => Calm.move rfl) (h := ?_)
        refine dP (hc := fun _ => Calm.move rfl) (h := ?_)
        refine dP (hc := fun _ => Calm.indexS Try.underlying22 ty_size_41 rfl rfl (by omega) (by omega)) (h := ?_)
        refine dC (hc := ld_ ty_plain_41 rfl) (h := ?_)
        refine dP (hc := fun _ => Calm.move rfl) (h := ?_)
        refine dP (hc := fun _ => Calm.move rfl) (h := ?_)
        refine dP (hc := fun _ => Calm.indexS Try.underlying22 ty_size_41 rfl rfl (by omega) (by omega)) (h := ?_)
        refine dC (hc := ld_ ty_plain_41 rfl) (h := ?_)
        refine dP (hc := fun _ => Calm.bin rfl rfl b_lss) (h := ?_)
        refine dP (hc := fun _ => Calm.assign rfl) (h := ?_)
        refine draw_nil ?_
        refine athen_n ?_
        refine AWP.sub [(0, _), (1, _), (5, _), (15, _), (26, _), (4, _)] ⟨rfl, rfl, rfl, rfl, rfl, rfl, trivial⟩ ?_
        refine AWP.ret ?_
        refine ain_ret ?_
        refine athen_ret ?_
        refine athen_ret ?_
        refine ain_ret ?_
        refine athen_ret ?_
        refine ⟨_, S, ⟨_, _, rfl, rfl, rfl⟩, less_, ?_⟩
        exact ⟨by rw [← hq]; simp [c1, one], rfl⟩
    · refine AWP.seq ?_
      refine AWP.seq ?_
      refine AWP.region ?_
      refine rC (Calm.move rfl) ?_
      refine rC (Calm.move rfl) ?_
      refine rC (Calm.lenSl Try.underlying22 rfl) ?_
      refine rC (Calm.bin rfl rfl b_lss) ?_
      refine rC (Calm.move rfl) ?_
      first | refine rS 10 ?_ | refine rU 10 ?_ | refine rG 10 (Calm.move rfl) ?_
      first | refine rS 10 ?_ | refine rU 10 ?_ | refine rG 10 (Calm.move rfl) ?_
      first | refine rS 10 ?_ | refine rU 10 ?_ | refine rG 10 (Calm.lenSl Try.underlying22 rfl) ?_
      first | refine rS 10 ?_ | refine rU 10 ?_ | refine rG 10 (Calm.bin rfl rfl b_lss) ?_
      refine rC ((by first | exact Calm.pickT rfl rfl | exact Calm.pickF rfl rfl)) ?_
      refine arun_nil ?_
      refine athen_n ?_
      refine AWP.sub [(0, _), (1, _), (5, _), (15, _)] ⟨rfl, rfl, rfl, rfl, trivial⟩ ?_
      refine AWP.condF rfl (by first | rfl | (simp; done) | (simp; omega)) ?_
      rw [List.drop_of_length_le (show b.length ≤ i by omega)] at hq
      obtain ⟨x, y, hxy⟩ : ∃ x y, a.drop i = x :: y := ⟨_, _, List.drop_eq_getElem_cons hl⟩
      rw [hxy] at hq
      refine AWP.exit ?_
      refine athen_exit ?_
      refine athen_exit ?_
      refine ain_same ?_
      refine athen_n ?_
      refine AWP.seq ?_
      refine AWP.region ?_
      refine rC (Calm.move rfl) ?_
      refine rC (Calm.lenSl Try.underlying22 rfl) ?_
      refine rC (Calm.move rfl) ?_
      refine rC (Calm.lenSl Try.underlying22 rfl) ?_
      refine rC (Calm.bin rfl rfl b_lss) ?_
      refine rC (Calm.assign rfl) ?_
      refine arun_nil ?_
      refine athen_n ?_
      refine AWP.sub [(0, _), (1, _), (5, _), (15, _), (4, _)] ⟨rfl, rfl, rfl, rfl, rfl, trivial⟩ ?_
      refine AWP.ret ?_
      refine ⟨_, S, ⟨_, _, rfl, rfl, rfl⟩, less_, ?_⟩
      exact ⟨by rw [← hq]; show Value.bool _ = Value.bool _; congr 1 <;> (first | (simp [lessB]; done) | (simp [lessB]; omega)), rfl⟩
  · refine AWP.seq ?_
    refine AWP.seq ?_
    refine AWP.region ?_
    refine rC (Calm.move rfl) ?_
    refine rC (Calm.move rfl) ?_
    refine rC (Calm.lenSl Try.underlying22 rfl) ?_
    refine rC (Calm.bin rfl rfl b_lss) ?_
    refine rC (Calm.move rfl) ?_
    first | refine rS 10 ?_ | refine rU 10 ?_ | refine rG 10 (Calm.move rfl) ?_
    first | refine rS 10 ?_ | refine rU 10 ?_ | refine rG 10 (Calm.move rfl) ?_
    first | refine rS 10 ?_ | refine rU 10 ?_ | refine rG 10 (Calm.lenSl Try.underlying22 rfl) ?_
    first | refine rS 10 ?_ | refine rU 10 ?_ | refine rG 10 (Calm.bin rfl rfl b_lss) ?_
    refine rC ((by first | exact Calm.pickT rfl rfl | exact Calm.pickF rfl rfl)) ?_
    refine arun_nil ?_
    refine athen_n ?_
    refine AWP.sub [(0, _), (1, _), (5, _), (15, _)] ⟨rfl, rfl, rfl, rfl, trivial⟩ ?_
    refine AWP.condF rfl (by first | rfl | (simp; done) | (simp; omega)) ?_
    rw [List.drop_of_length_le (show a.length ≤ i by omega)] at hq
    by_cases hlb : i < b.length
    · rw [List.drop_eq_getElem_cons hlb] at hq
      refine AWP.exit ?_
      refine athen_exit ?_
      refine athen_exit ?_
      refine ain_same ?_
      refine athen_n ?_
      refine AWP.seq ?_
      refine AWP.region ?_
      refine rC (Calm.move rfl) ?_
      refine rC (Calm.lenSl Try.underlying22 rfl) ?_
      refine rC (Calm.move rfl) ?_
      refine rC (Calm.lenSl Try.underlying22 rfl) ?_
      refine rC (Calm.bin rfl rfl b_lss) ?_
      refine rC (Calm.assign rfl) ?_
      refine arun_nil ?_
      refine athen_n ?_
      refine AWP.sub [(0, _), (1, _), (5, _), (15, _), (4, _)] ⟨rfl, rfl, rfl, rfl, rfl, trivial⟩ ?_
      refine AWP.ret ?_
      refine ⟨_, S, ⟨_, _, rfl, rfl, rfl⟩, less_, ?_⟩
      exact ⟨by rw [← hq]; show Value.bool _ = Value.bool _; congr 1 <;> (first | (simp [lessB]; done) | (simp [lessB]; omega)), rfl⟩
    · rw [List.drop_of_length_le (show b.length ≤ i by omega)] at hq
      refine AWP.exit ?_
      refine athen_exit ?_
      refine athen_exit ?_
      refine ain_same ?_
      refine athen_n ?_
      refine AWP.seq ?_
      refine AWP.region ?_
      refine rC (Calm.move rfl) ?_
      refine rC (Calm.lenSl Try.underlying22 rfl) ?_
      refine rC (Calm.move rfl) ?_
      refine rC (Calm.lenSl Try.underlying22 rfl) ?_
      refine rC (Calm.bin rfl rfl b_lss) ?_
      refine rC (Calm.assign rfl) ?_
      refine arun_nil ?_
      refine athen_n ?_
      refine AWP.sub [(0, _), (1, _), (5, _), (15, _), (4, _)] ⟨rfl, rfl, rfl, rfl, rfl, trivial⟩ ?_
      refine AWP.ret ?_
      refine ⟨_, S, ⟨_, _, rfl, rfl, rfl⟩, less_, ?_⟩
      exact ⟨by rw [← hq]; show Value.bool _ = Value.bool _; congr 1 <;> (first | (simp [lessB]; done) | (simp [lessB]; omega)), rfl⟩
theorem rnumV_SameOne (a b : List Nat) (va vb : Value) (S : Mem) (ha : Sl 1 u64s S va a) (hb : Sl 1 u64s S vb b) :
    ACall Try.prog 23 #[va, vb] S fun r S' => r = .bool (decide (a = b)) ∧ S' = S := by
  cases h1 : lessB a b with
  | true =>
    have e : decide (a = b) = false := decide_eq_false fun e => by rw [e, lessB_irrefl] at h1; cases h1
    rw [e]
    refine ACall.enter (args := [va, vb]) (rs := [.tmp 4]) 15 [(0, va), (1, vb)] Try.func23 rfl rfl (Nat.le_of_ble_eq_true rfl) rfl ⟨rfl, rfl, trivial⟩ ?_
    refine AWP.seq ?_
    refine AWP.region ?_
    refine rC (Calm.assign rfl) ?_
    refine arun_nil ?_
    refine athen_n ?_
    refine AWP.seq ?_
    refine AWP.region ?_
    refine rC (Calm.move rfl) ?_
    refine rC (Calm.move rfl) ?_
    refine ARun.call (lit_lt rfl) go_64 rfl (rnumV_Less a b va vb S ha hb) ?_
    rintro _ S1 ⟨rfl, hS1⟩
    rw [hS1, h1]; clear hS1 S1
    refine rC (Calm.un rfl (una_not _)) ?_
    refine rC (Calm.move rfl) ?_
    first | refine rS 9 ?_ | refine rU 9 ?_ | refine rG 9 (Calm.move rfl) ?_
    first | refine rS 9 ?_ | refine rU 9 ?_ | refine rG 9 (Calm.move rfl) ?_
    first | refine rS 9 ?_ | refine rU 9 ?_
    first | refine rS 9 ?_ | refine rU 9 ?_ | refine rG 9 (Calm.un rfl (una_not _)) ?_
    refine rC ((by first | exact Calm.pickT rfl rfl | exact Calm.pickF rfl rfl)) ?_
    refine rC (Calm.assign rfl) ?_
    refine arun_nil ?_
    refine athen_n ?_
    refine AWP.sub [(0, _), (1, _), (4, _)] ⟨rfl, rfl, rfl, trivial⟩ ?_
    refine AWP.ret ?_
    refine ⟨_, S, ⟨_, _, rfl, rfl, rfl⟩, less_, ?_⟩
    exact ⟨rfl, rfl⟩
  | false =>
    have e : decide (a = b) = !lessB b a := by
      cases h2 : lessB b a with
      | true => exact decide_eq_false fun e => by rw [e, lessB_irrefl] at h2; cases h2
      | false => exact decide_eq_true (lessB_total a b h1 h2)
    rw [e]
    refine ACall.enter (args := [va, vb]) (rs := [.tmp 4]) 15 [(0, va), (1, vb)] Try.func23 rfl rfl (Nat.le_of_ble_eq_true rfl) rfl ⟨rfl, rfl, trivial⟩ ?_
    refine AWP.seq ?_
    refine AWP.region ?_
    refine rC (Calm.assign rfl) ?_
    refine arun_nil ?_
    refine athen_n ?_
    refine AWP.seq ?_
    refine AWP.region ?_
    refine rC (Calm.move rfl) ?_
    refine rC (Calm.move rfl) ?_
    refine ARun.call (lit_lt rfl) go_64 rfl (rnumV_Less a b va vb S ha hb) ?_
    rintro _ S1 ⟨rfl, hS1⟩
    rw [hS1, h1]; clear hS1 S1
    refine rC (Calm.un rfl (una_not _)) ?_
    refine rC (Calm.move rfl) ?_
    first | refine rS 9 ?_ | refine rU 9 ?_ | refine rG 9 (Calm.move rfl) ?_
    first | refine rS 9 ?_ | refine rU 9 ?_ | refine rG 9 (Calm.move rfl) ?_
    refine ARun.callG 4 true 9 rfl (lit_lt rfl) rfl (lit_lt rfl) go_64 rfl (rnumV_Less b a vb va S hb ha) ?_
    rintro _ S1 ⟨rfl, hS1⟩
    rw [hS1]; clear hS1 S1
    first | refine rS 9 ?_ | refine rU 9 ?_ | refine rG 9 (Calm.un rfl (una_not _)) ?_
    refine rC ((by first | exact Calm.pickT rfl rfl | exact Calm.pickF rfl rfl)) ?_
    refine rC (Calm.assign rfl) ?_
    refine arun_nil ?_
    refine athen_n ?_
    refine AWP.sub [(0, _), (1, _), (4, _)] ⟨rfl, rfl, rfl, trivial⟩ ?_
    refine AWP.ret ?_
    refine ⟨_, S, ⟨_, _, rfl, rfl, rfl⟩, less_, ?_⟩
    exact ⟨rfl, rfl⟩
set_option maxHeartbeats 1000000 in
theorem rnumV_Same (a b : List (List Nat)) (va vb : Value) (S : Mem) (ha : SlOf RowR S va a) (hb : SlOf RowR S vb b) :
    ACall Try.prog 22 #[va, vb] S fun r S' => r = .bool (decide (a = b)) ∧ S' = S := by
  obtain ⟨ga, hal, ⟨pa, ca, rfl, ha1, ha2, ha3⟩, hae⟩ := ha
  obtain ⟨gb, hbl, ⟨pb, cb, rfl, hb1, hb2, hb3⟩, hbe⟩ := hb
  by_cases hlen : a.length = b.length
  · have hlen0 := hlen
    refine ACall.enter (args := [.slice pa ga.length ca, .slice pb gb.length cb]) (rs := [.tmp 4]) 27 [(0, .slice pa ga.length ca), (1, .slice pb gb.length cb)] Try.func22 rfl rfl (Nat.le_of_ble_eq_true rfl) rfl ⟨rfl, rfl, trivial⟩ ?_
    refine AWP.seq ?_
    refine AWP.region ?_
    refine rC (Calm.assign rfl) ?_
    refine arun_nil ?_
    refine athen_n ?_
    refine AWP.seq ?_
    refine AWP.seq ?_
    refine AWP.region ?_
    refine rC (Calm.move rfl) ?_
    refine rC (Calm.lenSl Try.underlying28 rfl) ?_
    refine rC (Calm.move rfl) ?_
    refine rC (Calm.lenSl Try.underlying28 rfl) ?_
    refine rC (Calm.bin rfl rfl b_neq) ?_
    refine arun_nil ?_
    refine athen_n ?_
    refine AWP.sub [(0, _), (1, _), (4, _), (10, _)] ⟨rfl, rfl, rfl, rfl, trivial⟩ ?_
    refine AWP.condF rfl (by first | rfl | (simp; done) | (simp; omega)) ?_
    refine AWP.skip ?_
    refine athen_n ?_
    refine AWP.seq ?_
    refine AWP.seq ?_
    refine AWP.region ?_
    refine rC (Calm.move rfl) ?_
    refine rC (Calm.lenSl Try.underlying28 rfl) ?_
    refine rC (Calm.move rfl) ?_
    refine arun_nil ?_
    refine athen_n ?_
    refine AWP.sub [(0, _), (1, _), (4, _), (10, _), (12, _), (13, _)] ⟨rfl, rfl, rfl, rfl, rfl, rfl, trivial⟩ ?_
    refine AWP.block ?_
    refine AWP.loop (X := Nat) (fun x => [(0, .slice pa ga.length ca), (1, .slice pb gb.length cb), (12, .int .i64 ga.length), (13, .int .i64 x)]) (fun x => S) (fun x => x ≤ a.length ∧ ∀ j (hj : j < a.length) (hj2 : j < b.length), j < x → a[j] = b[j]) (fun x => a.length - x) (0) ⟨rfl, rfl, rfl, rfl, trivial⟩ (Mem.Less.refl _) (⟨Nat.zero_le _, fun _ _ _ h => absurd h (Nat.not_lt_zero _)⟩) ?_
    rintro i ⟨hi1, hq⟩
    (try dsimp only at *)
    refine AWP.seq ?_
    refine AWP.region ?_
    refine rC (Calm.bin rfl rfl b_lss) ?_
    refine arun_nil ?_
    refine athen_n ?_
    refine AWP.seq ?_
    refine AWP.condB rfl (fun hl => ?_) (fun hl => ?_)
    · have hl : i < a.length := by have := of_decide_eq_true hl; omega
      have hia : i < ga.length := by omega
      have hib : i < gb.length := by omega
      obtain ⟨b0, off, rfl, hkn⟩ := ha3.resolve_left (by intro h; rw [h] at hia; exact absurd hia (Nat.not_lt_zero _))
      obtain ⟨b1, off1, rfl, hkn1⟩ := hb3.resolve_left (by intro h; rw [h] at hib; exact absurd hib (Nat.not_lt_zero _))
      have hkk := hkn i hia
      have hkk1 := hkn1 i hib
      refine AWP.skip ?_
      refine athen_n ?_
      refine AWP.seq ?_
      refine AWP.block ?_
      refine AWP.seq ?_
      refine AWP.region ?_
      refine rC (Calm.move rfl) ?_
      refine rC (Calm.assign rfl) ?_
      refine arun_nil ?_
      refine athen_n ?_
      refine AWP.sub [(0, _), (1, _), (12, _), (13, _), (14, _), (5, _)] ⟨rfl, rfl, rfl, rfl, rfl, rfl, trivial⟩ ?_
      refine AWP.seq ?_
      refine AWP.draw [(0, true), (1, true), (2, true), (3, true), (4, true), (5, true), (6, true), (7, true), (8, false), (9, true)] [] mixed (by kernel_rfl) ?_
      refine dP (hc := fun _ => Calm.move rfl) (h := ?_)
      refine dP (hc := fun _ => Calm.move rfl) (h := ?_)
      refine dP (hc := fun _ => Calm.indexS Try.underlying28 ty_size_22 rfl rfl (by omega) (by omega)) (h := ?_)
      refine dC (hc := ld_ ty_plain_22 rfl) (h := ?_)
      refine dP (hc := fun _ => Calm.move rfl) (h := ?_)
      refine dP (hc := fun _ => Calm.move rfl) (h := ?_)
      refine dP (hc := fun _ => Calm.indexS Try.underlying28 ty_size_22 rfl rfl (by omega) (by omega)) (h := ?_)
      refine dC (hc := ld_ ty_plain_22 rfl) (h := ?_)
      refine draw_only rfl ?_
      refine ARun.call (lit_lt rfl) go_23 rfl (rnumV_SameOne a[i] b[i] ga[i] gb[i] S (hae i hl hia) (hbe i (by omega) hib)) ?_
      rintro _ S1 ⟨rfl, h1⟩
      rw [h1]; clear h1 S1
      refine arun_nil ⟨fun _ => less_, ?_⟩
      refine dP (hc := fun _ => Calm.un rfl (una_not _)) (h := ?_)
      refine draw_nil ?_
      refine athen_n ?_
      refine AWP.sub [(0, _), (1, _), (12, _), (13, _), (14, _), (5, _), (25, _)] ⟨rfl, rfl, rfl, rfl, rfl, rfl, rfl, trivial⟩ ?_
      by_cases c1 : a[i] = b[i]
      · refine AWP.condF rfl (by first | rfl | (simp; done) | (simp; omega)) ?_
        refine AWP.skip ?_
        refine ain_n ?_
        refine athen_n ?_
        refine AWP.region ?_
        refine rC (Calm.bin rfl rfl b_add_i64) ?_
        refine rC (Calm.move rfl) ?_
        refine arun_nil ?_
        refine athen_n ?_
        refine ⟨i + 1, ?_, ?_, ?_, ?_⟩
        all_goals (try dsimp only)
        · exact ⟨rfl, rfl, rfl, rfl, trivial⟩
        · exact Mem.Less.refl _
        · exact ⟨hl, fun j hj hj2 hji => by rcases Nat.lt_or_ge j i with h | h; exact hq j hj hj2 h; obtain rfl : j = i := (by omega); exact c1⟩
        · omega
      · refine AWP.condT rfl (by first | rfl | (simp; done) | (simp; omega)) ?_
        refine AWP.seq ?_
        refine AWP.region ?_
        refine rC (Calm.assign rfl) ?_
        refine arun_nil ?_
        refine athen_n ?_
        refine AWP.ret ?_
        refine ain_ret ?_
        refine athen_ret ?_
        refine athen_ret ?_
        refine ain_ret ?_
        refine athen_ret ?_
        refine ⟨_, S, ⟨_, _, rfl, rfl, rfl⟩, less_, ?_⟩
        exact ⟨by rw [decide_eq_false (fun e => c1 (by subst e; rfl))]; rfl, rfl⟩
    · have hl : i = a.length := by have := of_decide_eq_false hl; omega
      refine AWP.exit ?_
      refine athen_exit ?_
      refine athen_exit ?_
      refine ain_same ?_
      refine athen_n ?_
      refine AWP.seq ?_
      refine AWP.region ?_
      refine rC (Calm.assign rfl) ?_
      refine arun_nil ?_
      refine athen_n ?_
      refine AWP.ret ?_
      refine ⟨_, S, ⟨_, _, rfl, rfl, rfl⟩, less_, ?_⟩
      exact ⟨by rw [decide_eq_true (List.ext_getElem hlen fun j h1 h2 => hq j h1 h2 (by omega))]; rfl, rfl⟩
  · have hlen0 := hlen
    refine ACall.enter (args := [.slice pa ga.length ca, .slice pb gb.length cb]) (rs := [.tmp 4]) 27 [(0, .slice pa ga.length ca), (1, .slice pb gb.length cb)] Try.func22 rfl rfl (Nat.le_of_ble_eq_true rfl) rfl ⟨rfl, rfl, trivial⟩ ?_
    refine AWP.seq ?_
    refine AWP.region ?_
    refine rC (Calm.assign rfl) ?_
    refine arun_nil ?_
    refine athen_n ?_
    refine AWP.seq ?_
    refine AWP.seq ?_
    refine AWP.region ?_
    refine rC (Calm.move rfl) ?_
    refine rC (Calm.lenSl Try.underlying28 rfl) ?_
    refine rC (Calm.move rfl) ?_
    refine rC (Calm.lenSl Try.underlying28 rfl) ?_
    refine rC (Calm.bin rfl rfl b_neq) ?_
    refine arun_nil ?_
    refine athen_n ?_
    refine AWP.sub [(0, _), (1, _), (4, _), (10, _)] ⟨rfl, rfl, rfl, rfl, trivial⟩ ?_
    refine AWP.condT rfl (by first | rfl | (simp; done) | (simp; omega)) ?_
    refine AWP.seq ?_
    refine AWP.region ?_
    refine rC (Calm.assign rfl) ?_
    refine arun_nil ?_
    refine athen_n ?_
    refine AWP.ret ?_
    refine athen_ret ?_
    refine ⟨_, S, ⟨_, _, rfl, rfl, rfl⟩, less_, ?_⟩
    exact ⟨by rw [decide_eq_false (fun e => hlen (by rw [e]))]; rfl, rfl⟩
end Go.Proofs.Ytgidjbpgkeemiaa
