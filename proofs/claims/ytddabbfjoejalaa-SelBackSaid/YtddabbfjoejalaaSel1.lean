/-
  Sel: ones of a part of a text, by the program.
-/
import Derived.Test.YtddabbfjoejalaaSBR2
import Derived.Test.YtddabbfjoejalaaSelMath
import Derived.Test.YtddabbfjoejalaaVLos2
namespace Go.Proofs.Ytddabbfjoejalaa
open Go.RowKit
open Mv Bits Sel
set_option linter.unusedVariables false
set_option linter.unusedSimpArgs false
set_option maxRecDepth 20000
theorem ones_part (c : UInt8) (r : Nat) (hr : r ≤ 8) : Lib.onesCount (c.toNat / 2 ^ (8 - r)) = (numB (c.toNat / 2 ^ (8 - r)) r).count true := by
  have hc := c.toNat_lt
  have hv : c.toNat / 2 ^ (8 - r) < 2 ^ r := by
    rw [Nat.div_lt_iff_lt_mul (Nat.pow_pos (by decide)), ← Nat.pow_add, show r + (8 - r) = 8 from by omega]; omega
  have hv8 : c.toNat / 2 ^ (8 - r) < 256 := Nat.lt_of_le_of_lt (Nat.div_le_self _ _) (by omega)
  rw [← numB_pad _ r hr hv]
  have := ones_byte (UInt8.ofNat (c.toNat / 2 ^ (8 - r)))
  rwa [UInt8.toNat_ofNat_of_lt' hv8] at this
theorem cnt_eight (B : List UInt8) (k : Nat) : cnt B (8 * (k + 1)) = cnt B (8 * k) + Lib.onesCount (at8 B k).toNat := by
  unfold cnt; rw [upto_eight, List.count_append, ones_byte]
theorem nb_shift (B : List UInt8) (b : Nat) : 0 ≤ nb (at8 B ((b : Int) / 8).toNat) / 2 ^ (8 - (b : Int) % 8).toNat ∧ nb (at8 B ((b : Int) / 8).toNat) / 2 ^ (8 - (b : Int) % 8).toNat ≤ 255 ∧ (nb (at8 B ((b : Int) / 8).toNat) / 2 ^ (8 - (b : Int) % 8).toNat).toNat = (at8 B (b / 8)).toNat / 2 ^ (8 - b % 8) := by
  have e1 : ((b : Int) / 8).toNat = b / 8 := by omega
  have e2 : (8 - (b : Int) % 8).toNat = 8 - b % 8 := by omega
  rw [e1, e2]
  have e3 : nb (at8 B (b / 8)) / 2 ^ (8 - b % 8) = (((at8 B (b / 8)).toNat / 2 ^ (8 - b % 8) : Nat) : Int) := by rw [nb_byte]; simp
  have h1 : (at8 B (b / 8)).toNat / 2 ^ (8 - b % 8) ≤ (at8 B (b / 8)).toNat := Nat.div_le_self _ _
  have h2 := (at8 B (b / 8)).toNat_lt
  rw [e3]
  exact ⟨Int.natCast_nonneg _, by omega, Int.toNat_natCast _⟩
set_option maxHeartbeats 1000000 in
theorem selV_ones (s : ByteArray) (a b : Nat) (S : Mem) (hs : s.size ≤ 281474976710656) (ha : a % 8 = 0) (hab : a ≤ b) (hb : b ≤ 8 * s.size) :
    ACall Try.prog 77 #[.string s, .int .i64 a, .int .i64 b] S fun r S' => r = .int .i64 (cnt s.data.toList b - cnt s.data.toList a : Nat) ∧ S' = S := by
  have hcb := cnt_le s.data.toList b
  have hca := cnt_mono s.data.toList hab
  refine ACall.enter (args := [.string s, .int .i64 (a : Int), .int .i64 (b : Int)]) (rs := [.tmp 6]) 39 [(0, .string s), (1, .int .i64 (a : Int)), (2, .int .i64 (b : Int))] Try.func77 rfl rfl (Nat.le_of_ble_eq_true rfl) rfl ⟨rfl, rfl, rfl, trivial⟩ ?_
  refine AWP.seq ?_
  refine AWP.region ?_
  refine rC (Calm.assign rfl) ?_
  refine arun_nil ?_
  refine athen_n ?_
  refine AWP.seq ?_
  refine AWP.region ?_
  refine rC (Calm.assign rfl) ?_
  refine arun_nil ?_
  refine athen_n ?_
  refine AWP.seq ?_
  refine AWP.seq ?_
  refine AWP.region ?_
  refine rC (Calm.move rfl) ?_
  refine rC (Calm.bin rfl rfl b_quo_i64) ?_
  refine rC (Calm.assign rfl) ?_
  refine arun_nil ?_
  refine athen_n ?_
  refine AWP.sub [(0, _), (1, _), (2, _), (6, _), (7, _), (8, _)] ⟨rfl, rfl, rfl, rfl, rfl, rfl, trivial⟩ ?_
  refine AWP.block ?_
  refine AWP.loop (X := Nat) (fun x => [(0, .string s), (2, .int .i64 b), (7, .int .i64 (cnt s.data.toList (8 * x) - cnt s.data.toList a : Nat)), (8, .int .i64 x)]) (fun x => S) (fun x => a / 8 ≤ x ∧ x ≤ b / 8) (fun x => b / 8 - x) (a / 8) ⟨rfl, rfl, some_int (by rw [show 8 * (a / 8) = a from by omega]; omega), some_int (by omega), trivial⟩ (Mem.Less.refl _) (⟨Nat.le_refl _, by omega⟩) ?_
  rintro k ⟨hk0, hk1⟩
  (try dsimp only at *)
  have hm1 := cnt_mono s.data.toList (a := a) (b := 8 * k) (by omega)
  have hm2 := cnt_le s.data.toList (8 * k)
  by_cases hl : k < b / 8
  · refine AWP.seq ?_
    refine AWP.seq ?_
    refine AWP.region ?_
    refine rC (Calm.move rfl) ?_
    refine rC (Calm.move rfl) ?_
    refine rC (Calm.bin rfl rfl b_quo_i64) ?_
    refine rC (Calm.bin rfl rfl b_lss) ?_
    refine arun_nil ?_
    refine athen_n ?_
    refine AWP.sub [(0, _), (2, _), (7, _), (8, _), (15, _)] ⟨rfl, rfl, rfl, rfl, rfl, trivial⟩ ?_
    refine AWP.condT rfl (by first | rfl | (simp; done) | (simp; omega)) ?_
    have h8 := cnt_eight s.data.toList k
    have hm3 := cnt_le s.data.toList (8 * (k + 1))
    refine AWP.skip ?_
    refine athen_n ?_
    refine AWP.seq ?_
    refine AWP.block ?_
    refine AWP.region ?_
    refine rC (Calm.move rfl) ?_
    refine rC (Calm.move rfl) ?_
    refine rC (Calm.move rfl) ?_
    refine rC ((by first | exact Calm.indexStrN (strT_spec ty_str_9) rfl rfl (by omega) | exact Calm.indexStr (strT_spec ty_str_9) rfl rfl (by omega) (by omega))) ?_
    refine ARun.call (lit_lt rfl) go_72 rfl (bits_Ones8 _ _ (nb_nonneg _) (nb_le _)) ?_
    rintro _ S1 ⟨rfl, h1⟩
    rw [h1]; clear h1 S1
    have e3 : (nb (at8 s.data.toList k)).toNat = (at8 s.data.toList k).toNat := by unfold nb; omega
    rw [e3]
    refine rC (Calm.bin rfl rfl b_add_i64) ?_
    refine rC (Calm.assign rfl) ?_
    refine arun_nil ?_
    refine ain_n ?_
    refine athen_n ?_
    refine AWP.sub [(0, _), (2, _), (7, _), (8, _), (15, _)] ⟨rfl, rfl, rfl, rfl, rfl, trivial⟩ ?_
    refine AWP.region ?_
    refine rC (Calm.move rfl) ?_
    refine rC (Calm.bin rfl rfl b_add_i64) ?_
    refine rC (Calm.assign rfl) ?_
    refine arun_nil ?_
    refine athen_n ?_
    refine ⟨k + 1, ?_, ?_, ?_, ?_⟩
    all_goals (try dsimp only)
    · exact ⟨rfl, rfl, some_int (by omega), some_int (by omega), trivial⟩
    · exact Mem.Less.refl _
    · exact ⟨by omega, hl⟩
    · omega
  · refine AWP.seq ?_
    refine AWP.seq ?_
    refine AWP.region ?_
    refine rC (Calm.move rfl) ?_
    refine rC (Calm.move rfl) ?_
    refine rC (Calm.bin rfl rfl b_quo_i64) ?_
    refine rC (Calm.bin rfl rfl b_lss) ?_
    refine arun_nil ?_
    refine athen_n ?_
    refine AWP.sub [(0, _), (2, _), (7, _), (8, _), (15, _)] ⟨rfl, rfl, rfl, rfl, rfl, trivial⟩ ?_
    refine AWP.condF rfl (by first | rfl | (simp; done) | (simp; omega)) ?_
    obtain rfl : k = b / 8 := by omega
    by_cases hr : 0 < b % 8
    · refine AWP.exit ?_
      refine athen_exit ?_
      refine athen_exit ?_
      refine ain_same ?_
      refine athen_n ?_
      refine AWP.seq ?_
      refine AWP.seq ?_
      refine AWP.region ?_
      refine rC (Calm.move rfl) ?_
      refine rC (Calm.bin rfl rfl b_rem) ?_
      refine rC (Calm.assign rfl) ?_
      refine arun_nil ?_
      refine athen_n ?_
      refine AWP.sub [(0, _), (2, _), (7, _), (8, _), (15, _), (9, _)] ⟨rfl, rfl, rfl, rfl, rfl, rfl, trivial⟩ ?_
      refine AWP.seq ?_
      refine AWP.region ?_
      refine rC (Calm.move rfl) ?_
      refine rC (Calm.bin rfl rfl b_gtr) ?_
      refine arun_nil ?_
      refine athen_n ?_
      refine AWP.sub [(0, _), (2, _), (7, _), (8, _), (15, _), (9, _), (27, _)] ⟨rfl, rfl, rfl, rfl, rfl, rfl, rfl, trivial⟩ ?_
      refine AWP.condT rfl (by first | rfl | (simp; done) | (simp; omega)) ?_
      have hp := cnt_part s.data.toList (b / 8) (b % 8) (by omega)
      rw [show 8 * (b / 8) + b % 8 = b from by omega, ← ones_part _ _ (by omega)] at hp
      obtain ⟨hx0, hx1, hx2⟩ := nb_shift s.data.toList b
      refine AWP.region ?_
      refine rC (Calm.move rfl) ?_
      refine rC (Calm.move rfl) ?_
      refine rC (Calm.move rfl) ?_
      refine rC (Calm.bin rfl rfl b_quo_i64) ?_
      refine rC ((by first | exact Calm.indexStrN (strT_spec ty_str_9) rfl rfl (by omega) | exact Calm.indexStr (strT_spec ty_str_9) rfl rfl (by omega) (by omega))) ?_
      refine rC (Calm.move rfl) ?_
      refine rC (Calm.bin rfl rfl b_sub_i64) ?_
      refine rC (Calm.bin rfl rfl b_shr) ?_
      refine ARun.call (lit_lt rfl) go_72 rfl (bits_Ones8 _ _ hx0 hx1) ?_
      rintro _ S1 ⟨rfl, h1⟩
      rw [h1]; clear h1 S1
      rw [hx2]
      refine rC (Calm.bin rfl rfl b_add_i64) ?_
      refine rC (Calm.assign rfl) ?_
      refine arun_nil ?_
      refine athen_n ?_
      refine AWP.sub [(0, _), (2, _), (7, _), (8, _), (15, _), (9, _), (27, _)] ⟨rfl, rfl, rfl, rfl, rfl, rfl, rfl, trivial⟩ ?_
      rw [show ((cnt s.data.toList (8 * (b / 8)) - cnt s.data.toList a : Nat) : Int) + (Lib.onesCount ((at8 s.data.toList (b / 8)).toNat / 2 ^ (8 - b % 8)) : Int) = (cnt s.data.toList b - cnt s.data.toList a : Nat) from by omega]
      refine AWP.seq ?_
      refine AWP.region ?_
      refine rC (Calm.move rfl) ?_
      refine rC (Calm.assign rfl) ?_
      refine arun_nil ?_
      refine athen_n ?_
      refine AWP.sub [(0, _), (2, _), (7, _), (8, _), (15, _), (9, _), (27, _), (6, _)] ⟨rfl, rfl, rfl, rfl, rfl, rfl, rfl, rfl, trivial⟩ ?_
      refine AWP.ret ?_
      refine ⟨_, S, ⟨_, _, rfl, rfl, rfl⟩, less_, ?_⟩
      exact ⟨rfl, rfl⟩
    · refine AWP.exit ?_
      refine athen_exit ?_
      refine athen_exit ?_
      refine ain_same ?_
      refine athen_n ?_
      refine AWP.seq ?_
      refine AWP.seq ?_
      refine AWP.region ?_
      refine rC (Calm.move rfl) ?_
      refine rC (Calm.bin rfl rfl b_rem) ?_
      refine rC (Calm.assign rfl) ?_
      refine arun_nil ?_
      refine athen_n ?_
      refine AWP.sub [(0, _), (2, _), (7, _), (8, _), (15, _), (9, _)] ⟨rfl, rfl, rfl, rfl, rfl, rfl, trivial⟩ ?_
      refine AWP.seq ?_
      refine AWP.region ?_
      refine rC (Calm.move rfl) ?_
      refine rC (Calm.bin rfl rfl b_gtr) ?_
      refine arun_nil ?_
      refine athen_n ?_
      refine AWP.sub [(0, _), (2, _), (7, _), (8, _), (15, _), (9, _), (27, _)] ⟨rfl, rfl, rfl, rfl, rfl, rfl, rfl, trivial⟩ ?_
      refine AWP.condF rfl (by first | rfl | (simp; done) | (simp; omega)) ?_
      rw [show 8 * (b / 8) = b from by omega]
      refine AWP.skip ?_
      refine athen_n ?_
      refine AWP.seq ?_
      refine AWP.region ?_
      refine rC (Calm.move rfl) ?_
      refine rC (Calm.assign rfl) ?_
      refine arun_nil ?_
      refine athen_n ?_
      refine AWP.sub [(0, _), (2, _), (7, _), (8, _), (15, _), (9, _), (27, _), (6, _)] ⟨rfl, rfl, rfl, rfl, rfl, rfl, rfl, rfl, trivial⟩ ?_
      refine AWP.ret ?_
      refine ⟨_, S, ⟨_, _, rfl, rfl, rfl⟩, less_, ?_⟩
      exact ⟨rfl, rfl⟩
end Go.Proofs.Ytddabbfjoejalaa
