/-
  The walks of the check sum's functions, the program's and the reference's.
-/
import Derived.Test.YtlkaamednhpdcaaBase
import Derived.Test.YtlkaamednhpdcaaCrcMath
namespace Go.Proofs.Ytlkaamednhpdcaa
open Go.RowKit
open Crc (un v32 Tn)
set_option linter.unusedVariables false


namespace Crc
theorem step_num (r : BitVec 32) : bits .xor .u32 (un r / 2) (bits .and .u32 3988292384 (-bits .and .u32 (un r) 1 % 4294967296)) = un (T r) := by
  rw [un_half, bits_and (un r) 1, v32_un, bits_and, v32_mod, v32_neg, v32_un, bits_xor, v32_un, v32_un]
  congr 1
  unfold T
  congr 1
  have e1 : v32 1 = 1#32 := rfl
  have e2 : v32 3988292384 = poly := rfl
  rw [e1, e2]
  have h : r &&& 1#32 = if r.getLsbD 0 then 1#32 else 0#32 := by
    apply BitVec.eq_of_getLsbD_eq
    intro i hi
    rw [BitVec.getLsbD_and]
    cases i with
    | zero => cases r.getLsbD 0 <;> simp
    | succ i =>
      have : (1#32).getLsbD (i + 1) = false := by simp [BitVec.getLsbD_one]
      rw [this]
      cases r.getLsbD 0 <;> simp
  rw [h]
  cases r.getLsbD 0 <;> decide
end Crc

set_option maxHeartbeats 400000 in
theorem crc_step (r : Int) (h0 : 0 ≤ r) (h1 : r ≤ 4294967295) (w : World) :
    Calls Try.prog 20 #[.int .u32 r] w fun e w' => e = .returned (.int .u32 (un (Tn 8 (v32 r)))) ∧ w = w' := by
  go_enter Try.func20, Try.ntmps20
  go_wp2
  go_loop [0, 3] (fun v0 v3 => ∃ (k : Int) (j : Nat), 0 ≤ k ∧ k ≤ 4294967295 ∧ j ≤ 8 ∧ v0 = .int .u32 k ∧ v3 = .int .i64 j ∧ Hid (k = un (Tn j (v32 r)))) (fun _ v3 => 8 - (intOf v3).toNat)
  case atStart => exact ⟨r, 0, h0, h1, by omega, rfl, rfl, (Crc.un_v32 h0 h1).symm⟩
  case round =>
    obtain ⟨k, j, hk0, hk1, hj, rfl, rfl, hk⟩ := hrel
    by_cases hlt : j < 8
    · go_wp2
      go_round
      case rel =>
        have hk' := hk.out
        refine ⟨un (Tn (j + 1) (v32 r)), j + 1, Crc.un_nonneg _, Crc.un_le _, by omega, ?_, by go_num, rfl⟩
        rw [hk']
        exact val_int (Crc.step_num _)
      case measure => simp [intOf]; omega
    · go_wp2
      go_ret
      have e : j = 8 := by omega
      subst e
      exact ⟨ret_int hk.out, rfl⟩

namespace Crc
theorem feeds_take (r : BitVec 32) (s : ByteArray) (k : Nat) (h : k < s.size) : feeds r (s.data.toList.take (k + 1)) = feed (feeds r (s.data.toList.take k)) s[k] := by
  rw [take_snoc s k h, feeds_snoc]
theorem more_num (r : BitVec 32) (b : UInt8) : bits .xor .u32 (un r / 256) (un (Tn 8 (v32 (bits .and .u32 (bits .xor .u32 (un r) ((b.toNat : Int) % 4294967296)) 255)))) = un (feed r b) := by
  rw [un_256, bits_xor (un r), v32_un, v32_mod, v32_byte, bits_and, v32_un, v32_un, bits_xor, v32_un, v32_un]
  congr 1
  exact feed_eq r b
theorem not_num (r : Int) : bits .xor .u32 IntKind.u32.max r = un (~~~ v32 r) := by
  rw [bits_xor, show v32 IntKind.u32.max = BitVec.allOnes 32 from by decide, BitVec.allOnes_xor]
end Crc

set_option maxHeartbeats 400000 in
theorem crc_More (r : Int) (s : ByteArray) (hs : s.size ≤ maxLen) (h0 : 0 ≤ r) (h1 : r ≤ 4294967295) (w : World) :
    Calls Try.prog 12 #[.int .u32 r, .string s] w fun e w' => e = .returned (.int .u32 (un (Crc.more (v32 r) s.data.toList))) ∧ w = w' := by
  unfold maxLen at hs
  go_enter Try.func12, Try.ntmps12
  go_wp2
  go_loop [5, 11] (fun v5 v11 => ∃ (k : Int) (j : Nat), 0 ≤ k ∧ k ≤ 4294967295 ∧ j ≤ s.size ∧ v5 = .int .u32 k ∧ v11 = .int .i64 j ∧ Hid (k = un (Crc.feeds (~~~ v32 r) (s.data.toList.take j)))) (fun _ v11 => s.size - (intOf v11).toNat)
  case atStart => exact ⟨_, 0, Crc.un_nonneg _, Crc.un_le _, by omega, val_int (Crc.not_num r), rfl, rfl⟩
  case round =>
    obtain ⟨k, j, hk0, hk1, hj, rfl, rfl, hk⟩ := hrel
    by_cases hlt : j < s.size
    · go_wp2_with (go_at_call 20; refine (crc_step _ (by rw [Crc.bits_and]; exact Crc.un_nonneg _) (by rw [Crc.bits_and]; exact Crc.un_le _) _).mono ?_; rintro e w' ⟨rfl, rfl⟩)
      go_round
      case rel =>
        have hk' := hk.out
        refine ⟨_, j + 1, Crc.un_nonneg _, Crc.un_le _, by omega, ?_, by go_num, Lib.hid (by rw [Crc.feeds_take _ s j hlt])⟩
        rw [hk']
        exact val_int (Crc.more_num _ _)
      case measure => simp [intOf]; omega
    · go_wp2
      go_ret
      have e : j = s.size := by omega
      subst e
      refine ⟨ret_int ?_, rfl⟩
      rw [hk.out, take_all, Crc.not_num, Crc.v32_un]; rfl

namespace Crc
theorem ref_bit (r : BitVec 32) (b : UInt8) (k : Nat) : bits .xor .u32 (un r) ((b.toNat : Int) / 2 ^ k) % 2 = if (r ^^^ (b32 b >>> k)).getLsbD 0 then 1 else 0 := by
  have e : ((b.toNat : Int) / 2 ^ k) = un (b32 b >>> k) := by
    have := b.toNat_lt
    simp only [un, b32, BitVec.toNat_ushiftRight, Nat.shiftRight_eq_div_pow, BitVec.toNat_ofNat]
    rw [Nat.mod_eq_of_lt (by omega)]
    simp
  rw [e, bits_xor, v32_un, v32_un, un_mod2]
end Crc

namespace Crc
theorem ref_bit' (r : BitVec 32) (b : UInt8) (k : Nat) : (bits .xor .u32 (un r) ((b.toNat : Int) / 2 ^ k % 4294967296)).tmod 2 = if (r ^^^ (b32 b >>> k)).getLsbD 0 then 1 else 0 := by
  have e : ((b.toNat : Int) / 2 ^ k % 4294967296) = ((b.toNat : Int) / 2 ^ k) := by
    have h := b.toNat_lt
    have h2 : b.toNat / 2 ^ k ≤ b.toNat := Nat.div_le_self _ _
    rw [show (b.toNat : Int) / 2 ^ k = ((b.toNat / 2 ^ k : Nat) : Int) from by simp]
    generalize b.toNat / 2 ^ k = m at h2
    omega
  rw [e, Int.tmod_eq_emod_of_nonneg (by rw [bits_xor]; exact un_nonneg _), ref_bit]
theorem ref_odd (r : BitVec 32) (b : UInt8) (k : Nat) (h : ((bits .xor .u32 (un (refBit r b k)) ((b.toNat : Int) / 2 ^ k % 4294967296)).tmod 2 == 1) = true) :
    bits .xor .u32 (un (refBit r b k) / 2) 3988292384 = un (refBit r b (k + 1)) := by
  rw [ref_bit'] at h
  rw [un_half, bits_xor, v32_un, show v32 3988292384 = poly from rfl, ← refBit_succ]
  split at h <;> rename_i hb
  · rw [if_pos hb]
  · simp at h
theorem ref_even (r : BitVec 32) (b : UInt8) (k : Nat) (h : ((bits .xor .u32 (un (refBit r b k)) ((b.toNat : Int) / 2 ^ k % 4294967296)).tmod 2 == 1) = false) :
    un (refBit r b k) / (2 : Int) = un (refBit r b (k + 1)) := by
  rw [ref_bit'] at h
  rw [un_half, ← refBit_succ]
  split at h <;> rename_i hb
  · simp at h
  · rw [if_neg hb, BitVec.xor_zero]
theorem ref_start (r : Int) (h0 : 0 ≤ r) (h1 : r ≤ 4294967295) : 4294967295 - r = un (~~~ v32 r) := by
  rw [← un_compl, un_v32 h0 h1]
end Crc

set_option maxHeartbeats 400000 in
theorem ref_More (r : Int) (s : ByteArray) (hs : s.size ≤ maxLen) (h0 : 0 ≤ r) (h1 : r ≤ 4294967295) (w : World) :
    Calls Try.prog 13 #[.int .u32 r, .string s] w fun e w' => e = .returned (.int .u32 (un (Crc.more (v32 r) s.data.toList))) ∧ w = w' := by
  unfold maxLen at hs
  go_enter Try.func13, Try.ntmps13
  go_wp2
  go_loop [5, 6] (fun v5 v6 => ∃ (k : Int) (j : Nat), 0 ≤ k ∧ k ≤ 4294967295 ∧ j ≤ s.size ∧ v5 = .int .u32 k ∧ v6 = .int .i64 j ∧ Hid (k = un (Crc.feeds (~~~ v32 r) (s.data.toList.take j)))) (fun _ v6 => s.size - (intOf v6).toNat)
  case atStart => exact ⟨4294967295 - r, 0, by omega, by omega, by omega, rfl, rfl, Crc.ref_start r h0 h1⟩
  case round =>
    obtain ⟨k, j, hk0, hk1, hj, rfl, rfl, hk⟩ := hrel
    by_cases hlt : j < s.size
    · go_wp2
      go_loop [5, 7] (fun v5 v7 => ∃ (q : Int) (i : Nat), 0 ≤ q ∧ q ≤ 4294967295 ∧ i ≤ 8 ∧ v5 = .int .u32 q ∧ v7 = .int .i64 i ∧ Hid (q = un (Crc.refBit (v32 k) s[j] i))) (fun _ v7 => 8 - (intOf v7).toNat)
      case atStart => exact ⟨k, 0, hk0, hk1, by omega, rfl, rfl, by rw [Crc.refBit_zero, Crc.un_v32 hk0 hk1]; exact rfl⟩
      case round =>
        obtain ⟨q, i, hq0, hq1, hi, rfl, rfl, hq⟩ := hrel
        by_cases hl : i < 8
        · go_wp2
          all_goals
            go_round
            case rel =>
              have hq' := hq.out
              refine ⟨un (Crc.refBit (v32 k) s[j] (i + 1)), i + 1, Crc.un_nonneg _, Crc.un_le _, by omega, ?_, by go_num, rfl⟩
              subst hq'
              first | exact val_int (Crc.ref_odd _ _ _ ‹_›) | exact val_int (Crc.ref_even _ _ _ ‹_›)
            case measure => simp [intOf]; omega
        · go_wp2
          go_round
          case rel =>
            have e : i = 8 := by omega
            have hq' := hq.out
            have hk' := hk.out
            subst e
            refine ⟨q, j + 1, hq0, hq1, by omega, rfl, by go_num, Lib.hid ?_⟩
            rw [hq', hk', Crc.refBit_eight, Crc.feeds_take _ s j hlt, Crc.v32_un]
          case measure => simp [intOf]; omega
    · go_wp2
      go_ret
      have e : j = s.size := by omega
      subst e
      refine ⟨ret_int ?_, rfl⟩
      rw [hk.out, take_all, Crc.un_compl]; rfl

end Go.Proofs.Ytlkaamednhpdcaa
