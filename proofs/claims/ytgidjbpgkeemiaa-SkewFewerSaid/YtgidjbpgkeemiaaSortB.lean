/-
  Sorting: how many bits a length has, the power above it, and the numbers that break patterns.
-/
import Derived.Test.YtgidjbpgkeemiaaTypes
import Derived.Test.YtgidjbpgkeemiaaShelf
import Derived.Test.YtgidjbpgkeemiaaSortX
namespace Go.Proofs.Ytgidjbpgkeemiaa
open Go.RowKit
open Mv Srt
set_option linter.unusedVariables false
set_option linter.unusedSimpArgs false
set_option maxRecDepth 4000
theorem bitLen_bits (x : Nat) (h : x < 2 ^ 64) : Lib.bitLen x = Go.Sort.bitsLen x := by
  induction x using Nat.strongRecOn with
  | _ x ih =>
    by_cases h0 : x = 0
    · subst h0; rfl
    · rw [Lib.bitLen_half x h0 h, ih (x / 2) (by omega) (by omega)]
      unfold Go.Sort.bitsLen
      rw [if_neg h0, Nat.log2_def x]
      by_cases h2 : 2 ≤ x
      · rw [if_pos h2, if_neg (by omega)]; omega
      · obtain rfl : x = 1 := by omega
        simp
theorem so_Len (x : Nat) (hx : x < 9223372036854775808) (S : Mem) : ACall Try.prog 122 #[.int .u64 (x : Int)] S fun r S' => r = .int .i64 (Go.Sort.bitsLen x : Nat) ∧ S' = S := by
  refine ACall.of_same fun w => ?_
  have h := Try.bits_Len (x : Int) w (by omega) (by omega)
  rw [Int.toNat_natCast, bitLen_bits x (by omega)] at h
  exact h
theorem bitsLen_small (L : Nat) (h : L ≤ 1048576) : Go.Sort.bitsLen L ≤ 21 := (Go.Sort.bitsLen_le_iff L 21).2 (by omega)
set_option maxHeartbeats 1000000 in
theorem so_pow (iL : Int) (L : Nat) (eL : iL = L) (hL : L ≤ 1048576) (S : Mem) : ACall Try.prog 179 #[.int .i64 iL] S fun r S' => r = .int .u64 ((1 <<< Go.Sort.bitsLen L : Nat) : Int) ∧ S' = S := by
  subst eL
  have hb := bitsLen_small L hL
  have hp : IntKind.u64.wrap (1 * 2 ^ ((Go.Sort.bitsLen L : Nat) : Int).toNat) = ((1 <<< Go.Sort.bitsLen L : Nat) : Int) := by
    rw [Int.toNat_natCast, Nat.one_shiftLeft, Int.one_mul]
    have h1 : (2 : Nat) ^ Go.Sort.bitsLen L ≤ 2 ^ 21 := Nat.pow_le_pow_right (by omega) hb
    have h2 : ((2 : Int) ^ Go.Sort.bitsLen L) = ((2 ^ Go.Sort.bitsLen L : Nat) : Int) := by simp
    rw [h2]
    generalize 2 ^ Go.Sort.bitsLen L = M at *
    exact IntWalk.u64_in _ (by omega)
  generalize hK : Go.Sort.bitsLen L = K at *
  refine ACall.enter (args := [.int .i64 L]) (rs := [.tmp 2]) 7 [(0, .int .i64 L)] Try.func179 rfl rfl (Nat.le_of_ble_eq_true rfl) rfl ⟨rfl, trivial⟩ ?_
  refine AWP.seq ?_
  refine AWP.region ?_
  refine rC (Calm.assign rfl) ?_
  refine arun_nil ?_
  refine athen_n ?_
  refine AWP.seq ?_
  refine AWP.region ?_
  refine rC (Calm.move rfl) ?_
  refine rC (Calm.conv rfl (by first | exact conv_intW Try.underlying3 Try.underlying139 (IntWalk.u64_in _ (by omega)) | exact conv_int Try.underlying3 Try.underlying139)) ?_
  refine ARun.call (lit_lt rfl) go_122 rfl ((hK ▸ so_Len L (by omega) S)) ?_
  rintro _ S1 ⟨rfl, h1⟩
  rw [h1]; clear h1 S1
  refine rC (Calm.as (congrArg (Value.int .u64) hp) (Calm.bin rfl rfl (bin_shl (by omega) (by show ((K : Nat) : Int) ≤ 64; omega)))) ?_
  refine rC (Calm.assign rfl) ?_
  refine arun_nil ?_
  refine athen_n ?_
  refine AWP.sub [(0, _), (2, _)] ⟨rfl, rfl, trivial⟩ ?_
  refine AWP.ret ?_
  refine ⟨_, S, ⟨_, _, rfl, rfl, rfl⟩, less_, ?_⟩
  exact ⟨rfl, rfl⟩
theorem xor_nat64 (a b : Nat) (ha : a < 18446744073709551616) (hb : b < 18446744073709551616) : bits .xor .u64 (a : Int) (b : Int) = ((a ^^^ b : Nat) : Int) := by
  have h : a ^^^ b < 2 ^ 64 := Nat.xor_lt_two_pow (by omega) (by omega)
  show IntKind.u64.wrap (((BitVec.ofInt 64 (a : Int)) ^^^ (BitVec.ofInt 64 (b : Int))).toNat : Int) = _
  rw [BitVec.ofInt_natCast, BitVec.ofInt_natCast, BitVec.toNat_xor, BitVec.toNat_ofNat, BitVec.toNat_ofNat, Nat.mod_eq_of_lt (by omega), Nat.mod_eq_of_lt (by omega)]
  exact IntWalk.u64_in _ (by omega)
theorem wrap_u64 (n : Nat) : IntKind.u64.wrap (n : Int) = ((n % 18446744073709551616 : Nat) : Int) := by
  simp [IntKind.wrap, IntKind.bits, IntKind.signed]
def xorB (x : Nat) : Blk := ⟨188, [.int .u64 (x : Int)], 1⟩
set_option maxHeartbeats 1000000 in
theorem so_next (c : Nat) (r : UInt64) (S : Mem) (hc : Fresh S c) :
    ACall Try.prog 180 #[.pointer (some ⟨c, 0, none⟩)] (S.set c (xorB r.toNat)) fun v S' => v = .int .u64 (((Go.Sort.xorNext r).toNat : Nat) : Int) ∧ S' = S.set c (xorB (Go.Sort.xorNext r).toNat) := by
  have hx : r.toNat < 18446744073709551616 := r.toNat_lt
  rw [Go.Sort.xorNext_toNat]
  unfold Go.Sort.xorNextN
  generalize r.toNat = x at *
  have p : (18446744073709551616 : Nat) = 2 ^ 64 := by decide
  obtain ⟨y, hy⟩ : ∃ y, y = x ^^^ (x * 8192 % 18446744073709551616) := ⟨_, rfl⟩
  have y1 : y < 18446744073709551616 := by rw [hy, p]; exact Nat.xor_lt_two_pow (by omega) (by omega)
  obtain ⟨z, hz⟩ : ∃ z, z = y ^^^ (y / 128) := ⟨_, rfl⟩
  have z1 : z < 18446744073709551616 := by rw [hz, p]; exact Nat.xor_lt_two_pow (by omega) (by omega)
  have e1 : ∀ (t : TypeId) (a b : Operand), Bin Try.prog .shl t a b (.int .u64 (x : Int)) (.int .u64 13) (.int .u64 ((x * 8192 % 18446744073709551616 : Nat) : Int)) := fun t a b => by
    have h := bin_shl (P := Try.prog) (t := t) (x := a) (y := b) (k := .u64) (k' := .u64) (a := (x : Int)) (b := 13) (by decide) (by decide)
    have e : IntKind.u64.wrap ((x : Int) * 2 ^ (13 : Int).toNat) = ((x * 8192 % 18446744073709551616 : Nat) : Int) := wrap_u64 (x * 8192)
    rw [e] at h; exact h
  have e2 : ∀ (t : TypeId) (a b : Operand), Bin Try.prog .shr t a b (.int .u64 (y : Int)) (.int .u64 7) (.int .u64 ((y / 128 : Nat) : Int)) := fun t a b =>
    bin_shr (P := Try.prog) (t := t) (x := a) (y := b) (k := .u64) (k' := .u64) (a := (y : Int)) (b := 7) (by decide) (by decide)
  have e3 : ∀ (t : TypeId) (a b : Operand), Bin Try.prog .shl t a b (.int .u64 (z : Int)) (.int .u64 17) (.int .u64 ((z * 131072 % 18446744073709551616 : Nat) : Int)) := fun t a b => by
    have h := bin_shl (P := Try.prog) (t := t) (x := a) (y := b) (k := .u64) (k' := .u64) (a := (z : Int)) (b := 17) (by decide) (by decide)
    have e : IntKind.u64.wrap ((z : Int) * 2 ^ (17 : Int).toNat) = ((z * 131072 % 18446744073709551616 : Nat) : Int) := wrap_u64 (z * 131072)
    rw [e] at h; exact h
  have x1 := xor_nat64 x (x * 8192 % 18446744073709551616) hx (Nat.mod_lt _ (by decide))
  have x2 := xor_nat64 y (y / 128) y1 (by omega)
  have x3 := xor_nat64 z (z * 131072 % 18446744073709551616) z1 (Nat.mod_lt _ (by decide))
  rw [← hy] at x1
  rw [← hz] at x2
  simp only [← hy, ← hz]
  clear hy hz
  unfold xorB
  refine ACall.enter (args := [.pointer (some ⟨c, 0, none⟩)]) (rs := [.tmp 2]) 33 [(0, .pointer (some ⟨c, 0, none⟩))] Try.func180 rfl rfl (Nat.le_of_ble_eq_true rfl) rfl ⟨rfl, trivial⟩ ?_
  refine AWP.seq ?_
  refine AWP.region ?_
  refine rC (Calm.assign rfl) ?_
  refine arun_nil ?_
  refine athen_n ?_
  refine AWP.seq ?_
  refine AWP.draw [(0, true), (1, true), (2, true), (3, true), (4, true), (5, true), (6, true), (7, true), (8, true), (9, false)] [9] mixed (by kernel_rfl) ?_
  refine dP (hc := fun _ => Calm.move rfl) (h := ?_)
  refine dP (hc := fun _ => Calm.nilCheck rfl) (h := ?_)
  refine dC (hc := ld_ ty_plain_188 rfl) (h := ?_)
  refine dP (hc := fun _ => Calm.move rfl) (h := ?_)
  refine dP (hc := fun _ => Calm.nilCheck rfl) (h := ?_)
  refine dC (hc := ld_ ty_plain_188 rfl) (h := ?_)
  refine dP (hc := fun _ => Calm.bin rfl rfl (e1 _ _ _)) (h := ?_)
  refine dP (hc := fun _ => Calm.bin rfl rfl (bin_xorE x1)) (h := ?_)
  refine dP (hc := fun _ => Calm.nilCheck rfl) (h := ?_)
  refine draw_only rfl ?_
  refine ARun.store1 rfl rfl ty_size_188 rfl own_ lens_ rfl ?_
  (try simp only [Mem.set_set, List.set_cons_zero, List.set_cons_succ, Nat.zero_add, Nat.reduceAdd])
  refine arun_nil ⟨fun h => absurd h (by decide), ?_⟩
  refine draw_nil ?_
  refine athen_n ?_
  refine AWP.sub [(0, _), (2, _)] ⟨rfl, rfl, trivial⟩ ?_
  refine AWP.seq ?_
  refine AWP.draw [(0, true), (1, true), (2, true), (3, true), (4, true), (5, true), (6, true), (7, true), (8, true), (9, false)] [9] mixed (by kernel_rfl) ?_
  refine dP (hc := fun _ => Calm.move rfl) (h := ?_)
  refine dP (hc := fun _ => Calm.nilCheck rfl) (h := ?_)
  refine dC (hc := ld_ ty_plain_188 rfl) (h := ?_)
  refine dP (hc := fun _ => Calm.move rfl) (h := ?_)
  refine dP (hc := fun _ => Calm.nilCheck rfl) (h := ?_)
  refine dC (hc := ld_ ty_plain_188 rfl) (h := ?_)
  refine dP (hc := fun _ => Calm.bin rfl rfl (e2 _ _ _)) (h := ?_)
  refine dP (hc := fun _ => Calm.bin rfl rfl (bin_xorE x2)) (h := ?_)
  refine dP (hc := fun _ => Calm.nilCheck rfl) (h := ?_)
  refine draw_only rfl ?_
  refine ARun.store1 rfl rfl ty_size_188 rfl own_ lens_ rfl ?_
  (try simp only [Mem.set_set, List.set_cons_zero, List.set_cons_succ, Nat.zero_add, Nat.reduceAdd])
  refine arun_nil ⟨fun h => absurd h (by decide), ?_⟩
  refine draw_nil ?_
  refine athen_n ?_
  refine AWP.sub [(0, _), (2, _)] ⟨rfl, rfl, trivial⟩ ?_
  refine AWP.seq ?_
  refine AWP.draw [(0, true), (1, true), (2, true), (3, true), (4, true), (5, true), (6, true), (7, true), (8, true), (9, false)] [9] mixed (by kernel_rfl) ?_
  refine dP (hc := fun _ => Calm.move rfl) (h := ?_)
  refine dP (hc := fun _ => Calm.nilCheck rfl) (h := ?_)
  refine dC (hc := ld_ ty_plain_188 rfl) (h := ?_)
  refine dP (hc := fun _ => Calm.move rfl) (h := ?_)
  refine dP (hc := fun _ => Calm.nilCheck rfl) (h := ?_)
  refine dC (hc := ld_ ty_plain_188 rfl) (h := ?_)
  refine dP (hc := fun _ => Calm.bin rfl rfl (e3 _ _ _)) (h := ?_)
  refine dP (hc := fun _ => Calm.bin rfl rfl (bin_xorE x3)) (h := ?_)
  refine dP (hc := fun _ => Calm.nilCheck rfl) (h := ?_)
  refine draw_only rfl ?_
  refine ARun.store1 rfl rfl ty_size_188 rfl own_ lens_ rfl ?_
  (try simp only [Mem.set_set, List.set_cons_zero, List.set_cons_succ, Nat.zero_add, Nat.reduceAdd])
  refine arun_nil ⟨fun h => absurd h (by decide), ?_⟩
  refine draw_nil ?_
  refine athen_n ?_
  refine AWP.sub [(0, _), (2, _)] ⟨rfl, rfl, trivial⟩ ?_
  refine AWP.seq ?_
  refine AWP.region ?_
  refine rC (Calm.move rfl) ?_
  refine rC (Calm.nilCheck rfl) ?_
  refine rC (ld_ ty_plain_188 rfl) ?_
  refine rC (Calm.assign rfl) ?_
  refine arun_nil ?_
  refine athen_n ?_
  refine AWP.sub [(0, _), (2, _)] ⟨rfl, rfl, trivial⟩ ?_
  refine AWP.ret ?_
  refine ⟨_, _, ⟨_, _, rfl, rfl, rfl⟩, Mem.Less.refl _, ?_⟩
  exact ⟨rfl, rfl⟩
end Go.Proofs.Ytgidjbpgkeemiaa
