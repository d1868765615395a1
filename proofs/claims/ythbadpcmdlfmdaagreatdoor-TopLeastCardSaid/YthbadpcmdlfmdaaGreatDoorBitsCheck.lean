import Derived.Test.YthbadpcmdlfmdaaGreatDoorBitsBits
namespace Go.Proofs.YthbadpcmdlfmdaaGreatDoor
open Go.RowKit
open Bits
set_option maxRecDepth 20000
set_option linter.unusedVariables false
namespace Bits
theorem low_zero (x r : Nat) : (∀ t, t < r → x / 2 ^ t % 2 = 0) ↔ x % 2 ^ r = 0 := by
  induction r with
  | zero => simp [Nat.mod_one]
  | succ r ih =>
    have e : x % 2 ^ (r + 1) = x % 2 ^ r + 2 ^ r * (x / 2 ^ r % 2) := by rw [Nat.pow_succ, Nat.mod_mul]
    have hp : 0 < 2 ^ r := Nat.two_pow_pos r
    constructor
    · intro h
      rw [e, ih.mp fun t ht => h t (by omega), h r (by omega)]; rfl
    · intro h t ht
      rw [e] at h
      have h1 : x % 2 ^ r = 0 := by omega
      have h2 : 2 ^ r * (x / 2 ^ r % 2) = 0 := by omega
      rcases Nat.lt_or_ge t r with h3 | h3
      · exact ih.mpr h1 t h3
      · have : t = r := by omega
        subst this
        rcases Nat.mul_eq_zero.mp h2 with h4 | h4
        · omega
        · exact h4
theorem right_last (B : List UInt8) (n : Nat) (hB : B.length = (n + 7) / 8) : Right B n ↔ (n % 8 = 0 ∨ (at8 B (n / 8)).toNat % 2 ^ (8 - n % 8) = 0) := by
  constructor
  · rintro ⟨_, h⟩
    by_cases h0 : n % 8 = 0
    · exact .inl h0
    · refine .inr ((low_zero _ _).mp fun t ht => ?_)
      have := h (8 * (n / 8) + (7 - t)) (by omega) (by omega)
      unfold isBit at this
      rw [show (8 * (n / 8) + (7 - t)) / 8 = n / 8 from by omega, show 7 - (8 * (n / 8) + (7 - t)) % 8 = t from by omega] at this
      simp only [beq_eq_false_iff_ne, ne_eq] at this
      omega
  · intro h
    refine ⟨hB, fun i h1 h2 => ?_⟩
    rcases h with h | h
    · omega
    · have := (low_zero _ _).mpr h (7 - i % 8) (by omega)
      unfold isBit
      rw [show i / 8 = n / 8 from by omega, this]; rfl

theorem shl_zero (c : UInt8) (m : Nat) (hm : m < 8) : (nb c * 2 ^ m % 256 = 0) ↔ c.toNat % 2 ^ (8 - m) = 0 := by
  have e : nb c = (c.toNat : Int) := nb_byte c
  rw [e]
  have hc := c.toNat_lt
  rcases (by omega : m = 0 ∨ m = 1 ∨ m = 2 ∨ m = 3 ∨ m = 4 ∨ m = 5 ∨ m = 6 ∨ m = 7) with h | h | h | h | h | h | h | h <;> subst h <;> simp only [Nat.reduceSub, Nat.reducePow, Int.reducePow] <;> omega
/-! The walk of Check. -/
def right (B : List UInt8) (N : Int) : Prop := 0 ≤ N ∧ N ≤ 1048576 ∧ Right B N.toNat
noncomputable def chk (B : List UInt8) (N : Int) : Int := open Classical in if right B N then 0 else 2
end Bits
set_option maxHeartbeats 1000000 in
theorem bits_Check (s : ByteArray) (hs : s.size < 4294967296) (N : Int) (w : World) :
    Calls Tryz.prog 30 #[.agg #[.string s, .int .i64 N]] w fun e w' => e = .returned (.int .i64 (chk s.data.toList N)) ∧ Below w.heap.size w w' := by
  by_cases h1 : N < 0
  · have hd : decide (N < 0) = true := by simp; omega
    have hres : chk s.data.toList N = 2 := if_neg fun h => by have := h.1; omega
    rw [hres]
    go_enter Tryz.func30, Tryz.ntmps30
    go_wp2_with fail
    go_ret
    exact ⟨rfl, by (repeat' (first | exact Below.refl _ _ | assumption | refine below_alloc' ?_ _ | refine Below.drew ?_ | refine below_drewN ?_ _ | refine below_then ?_ ‹_›))⟩
  by_cases h2 : 1048576 < N
  · have hd0 : decide (N < 0) = false := by simp; omega
    have hd : decide (N > 1048576) = true := by simp; omega
    have hres : chk s.data.toList N = 2 := if_neg fun h => by have := h.2.1; omega
    rw [hres]
    go_enter Tryz.func30, Tryz.ntmps30
    go_wp2_with fail
    go_ret
    exact ⟨rfl, by (repeat' (first | exact Below.refl _ _ | assumption | refine below_alloc' ?_ _ | refine Below.drew ?_ | refine below_drewN ?_ _ | refine below_then ?_ ‹_›))⟩
  obtain ⟨n, rfl⟩ : ∃ n : Nat, N = n := ⟨N.toNat, by omega⟩
  have hd0 : decide ((n : Int) < 0) = false := by simp
  have hd1 : decide ((n : Int) > 1048576) = false := by simp; omega
  have e1 : ((n : Int) + 8 - 1).tdiv 8 = (((n + 7) / 8 : Nat) : Int) := by rw [Int.tdiv_eq_ediv_of_nonneg (by omega)]; first | done | omega
  by_cases h3 : s.size = (n + 7) / 8
  · have hd3 : ((s.size : Int) == (((n + 7) / 8 : Nat) : Int)) = true := by simp only [beq_iff_eq]; omega
    have e2 : (n : Int).tmod 8 = ((n % 8 : Nat) : Int) := by rw [Int.tmod_eq_emod_of_nonneg (by omega)]; first | done | omega
    by_cases h4 : n % 8 = 0
    · have hd4 : decide (((n % 8 : Nat) : Int) > 0) = false := by simp; omega
      have hres : chk s.data.toList n = 0 := if_pos ⟨by omega, by omega, (right_last _ _ (by simp only [Int.toNat_natCast]; rw [← h3]; simp)).mpr (.inl (by simp only [Int.toNat_natCast]; exact h4))⟩
      rw [hres]
      go_enter Tryz.func30, Tryz.ntmps30
      go_wp2_with fail
      go_ret
      exact ⟨rfl, by (repeat' (first | exact Below.refl _ _ | assumption | refine below_alloc' ?_ _ | refine Below.drew ?_ | refine below_drewN ?_ _ | refine below_then ?_ ‹_›))⟩
    · have hd4 : decide (((n % 8 : Nat) : Int) > 0) = true := by simp only [decide_eq_true_eq]; omega
      have hlt : (n + 7) / 8 - 1 < s.size := by omega
      have gb := at8_str s ((n + 7) / 8 - 1) hlt
      have hq : (n + 7) / 8 - 1 = n / 8 := by omega
      have HQ := Lib.hid hq
      have hR := right_last s.data.toList n (by rw [← h3]; simp)
      have HR := Lib.hid hR
      have hm : n % 8 < 8 := by omega
      have HM := Lib.hid (shl_zero (at8 s.data.toList (n / 8)) (n % 8) hm)
      have HG := Lib.hid gb
      clear hR gb hq
      go_enter Tryz.func30, Tryz.ntmps30
      go_wp2_with fail
      all_goals
        rename_i hx
        go_ret
        refine ⟨ret_int ?_, by (repeat' (first | exact Below.refl _ _ | assumption | refine below_alloc' ?_ _ | refine Below.drew ?_ | refine below_drewN ?_ _ | refine below_then ?_ ‹_›))⟩
        have g2 := HG.out
        have h9 := HM.out
        rw [g2, HQ.out] at hx
        unfold chk right
        simp only [Int.toNat_natCast]
        first
        | (rw [if_neg]; rintro ⟨_, _, hr⟩; have h10 := HR.out.mp hr; simp_all)
        | (rw [if_pos]; exact ⟨h1, h2, HR.out.mpr (.inr (by simp_all))⟩)
  · have hd3 : ((s.size : Int) == (((n + 7) / 8 : Nat) : Int)) = false := by simp only [beq_eq_false_iff_ne, ne_eq]; omega
    have hres : chk s.data.toList n = 2 := if_neg fun h => h3 (by have := h.2.2.1; simp only [Int.toNat_natCast] at this; rw [← this]; simp)
    rw [hres]
    go_enter Tryz.func30, Tryz.ntmps30
    go_wp2_with fail
    go_ret
    exact ⟨rfl, by (repeat' (first | exact Below.refl _ _ | assumption | refine below_alloc' ?_ _ | refine Below.drew ?_ | refine below_drewN ?_ _ | refine below_then ?_ ‹_›))⟩
end Go.Proofs.YthbadpcmdlfmdaaGreatDoor
