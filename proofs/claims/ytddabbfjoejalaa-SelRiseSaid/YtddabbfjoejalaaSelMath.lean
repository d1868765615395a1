/-
  Plain mathematics of rows of counts: how many bits are ahead of a place; which one is the n-th. No program in sight.
-/
import Derived.Test.YtddabbfjoejalaaBitsMath
namespace Go.Proofs.Ytddabbfjoejalaa
open Bits
set_option linter.unusedVariables false
namespace Sel
/-- How many of the first n bits are 1. -/
def cnt (B : List UInt8) (n : Nat) : Nat := (upto B n).count true
theorem cnt_zero (B : List UInt8) : cnt B 0 = 0 := rfl
theorem upto_snoc (B : List UInt8) (n : Nat) : upto B (n + 1) = upto B n ++ [isBit B n] := by simp [upto, List.range_succ]
theorem cnt_succ (B : List UInt8) (n : Nat) : cnt B (n + 1) = cnt B n + (if isBit B n = true then 1 else 0) := by
  unfold cnt; rw [upto_snoc, List.count_append]; cases isBit B n <;> simp
theorem cnt_le (B : List UInt8) (n : Nat) : cnt B n ≤ n := by
  have := List.count_le_length (a := true) (l := upto B n)
  rw [upto_length] at this; exact this
theorem cnt_mono (B : List UInt8) {a b : Nat} (h : a ≤ b) : cnt B a ≤ cnt B b := by
  induction b with
  | zero => have : a = 0 := by omega
            subst this; exact Nat.le_refl _
  | succ b ih =>
    by_cases e : a = b + 1
    · rw [e]; exact Nat.le_refl _
    · have := ih (by omega); rw [cnt_succ]; omega
theorem cnt_step (B : List UInt8) {a b : Nat} (h : a ≤ b) : cnt B b ≤ cnt B a + (b - a) := by
  induction b with
  | zero => have : a = 0 := by omega
            subst this; simp
  | succ b ih =>
    by_cases e : a = b + 1
    · rw [← e]; omega
    · have := ih (by omega); rw [cnt_succ]; split <;> omega
/-- Rows of counts: ahead of each 32nd place. -/
def rows (B : List UInt8) (N : Nat) : List Int := (List.range (N / 32 + 1)).map fun j => (cnt B (32 * j) : Int)
theorem rows_length (B : List UInt8) (N : Nat) : (rows B N).length = N / 32 + 1 := by simp [rows]
theorem rows_get (B : List UInt8) (N j : Nat) (h : j < (rows B N).length) : (rows B N)[j] = (cnt B (32 * j) : Int) := by simp [rows]
def pre (B : List UInt8) (j : Nat) : List Int := (List.range j).map fun j => (cnt B (32 * j) : Int)
theorem pre_succ (B : List UInt8) (j : Nat) : pre B (j + 1) = pre B j ++ [(cnt B (32 * j) : Int)] := by simp [pre, List.range_succ]
theorem pre_length (B : List UInt8) (j : Nat) : (pre B j).length = j := by simp [pre]
theorem pre_all (B : List UInt8) (N : Nat) : pre B (N / 32 + 1) = rows B N := rfl
/-- The ones of a byte's first bits. -/
theorem numB_shift (v r : Nat) (hv : v < 256) (hr : r ≤ 8) : numB (v / 2 ^ (8 - r)) r = (numB v 8).take r := by
  apply List.ext_getElem?
  intro j
  by_cases hj : j < r
  · rw [numB_get _ _ _ hj, List.getElem?_take, if_pos hj, numB_get _ _ _ (by omega), Nat.div_div_eq_div_mul, ← Nat.pow_add]
    congr 5; omega
  · rw [List.getElem?_eq_none (by rw [numB_length]; omega), List.getElem?_eq_none (by rw [List.length_take]; omega)]
theorem slc_part (B : List UInt8) (k r : Nat) (hr : r ≤ 8) : slc B (8 * k) r = numB ((at8 B k).toNat / 2 ^ (8 - r)) r := by
  have := slc_byte B (8 * k) r (by omega)
  rw [this]
  have e1 : 8 * k / 8 = k := by omega
  have e2 : 8 - 8 * k % 8 - r = 8 - r := by omega
  rw [e1, e2]
theorem upto_add (B : List UInt8) (a b : Nat) : upto B (a + b) = upto B a ++ slc B a b := by
  have := slc_add B 0 a b
  rw [slc_upto, slc_upto, Nat.zero_add] at this; exact this
theorem cnt_part (B : List UInt8) (k r : Nat) (hr : r ≤ 8) : cnt B (8 * k + r) = cnt B (8 * k) + (numB ((at8 B k).toNat / 2 ^ (8 - r)) r).count true := by
  unfold cnt; rw [upto_add, List.count_append, slc_part B k r hr]
theorem numB_pad (v r : Nat) (hr : r ≤ 8) (hv : v < 2 ^ r) : (numB v 8).count true = (numB v r).count true := by
  obtain ⟨q, hq⟩ : ∃ q, 8 = q + r := ⟨8 - r, by omega⟩
  rw [hq, numB_split, List.count_append]
  have : v / 2 ^ r = 0 := Nat.div_eq_of_lt hv
  rw [this]
  have hz : (numB 0 q).count true = 0 := by
    rw [List.count_eq_zero]; intro h; obtain ⟨j, _, hj⟩ := List.mem_map.1 h; simp at hj
  omega
/-- The n-th place that is 1 among the first 'm' from 'a' on (in order), if there is one. -/
def nth (B : List UInt8) : Nat → Nat → Nat → Option Nat
  | 0, _, _ => none
  | m + 1, a, n => if isBit B a = true then (if n = 0 then some a else nth B m (a + 1) (n - 1)) else nth B m (a + 1) n
theorem nth_some (B : List UInt8) (m : Nat) : ∀ a n i, nth B m a n = some i → a ≤ i ∧ i < a + m ∧ isBit B i = true ∧ cnt B i = cnt B a + n := by
  induction m with
  | zero => intro a n i h; simp [nth] at h
  | succ m ih =>
    intro a n i h
    rw [nth] at h
    split at h
    · rename_i hb
      split at h
      · rename_i hn
        cases h; subst hn
        exact ⟨Nat.le_refl _, by omega, hb, by omega⟩
      · obtain ⟨h1, h2, h3, h4⟩ := ih _ _ _ h
        rw [cnt_succ, if_pos hb] at h4
        exact ⟨by omega, by omega, h3, by omega⟩
    · rename_i hb
      obtain ⟨h1, h2, h3, h4⟩ := ih _ _ _ h
      rw [cnt_succ, if_neg hb] at h4
      exact ⟨by omega, by omega, h3, by omega⟩
theorem nth_none (B : List UInt8) (m : Nat) : ∀ a n, nth B m a n = none → cnt B (a + m) ≤ cnt B a + n := by
  induction m with
  | zero => intro a n h; simp
  | succ m ih =>
    intro a n h
    rw [nth] at h
    rw [show a + (m + 1) = a + 1 + m from by omega]
    split at h
    · rename_i hb
      split at h
      · cases h
      · have := ih _ _ h
        rw [cnt_succ, if_pos hb] at this; omega
    · rename_i hb
      have := ih _ _ h
      rw [cnt_succ, if_neg hb] at this; omega
/-- It is the only place with that. -/
theorem nth_only (B : List UInt8) {i j : Nat} (hi : isBit B i = true) (hj : isBit B j = true) (h : cnt B i = cnt B j) : i = j := by
  rcases Nat.lt_trichotomy i j with h' | h' | h'
  · have := cnt_mono B (a := i + 1) (b := j) h'
    rw [cnt_succ, if_pos hi] at this; omega
  · exact h'
  · have := cnt_mono B (a := j + 1) (b := i) h'
    rw [cnt_succ, if_pos hj] at this; omega
theorem nth_of (B : List UInt8) {N n i : Nat} (h1 : i < N) (h2 : isBit B i = true) (h3 : cnt B i = n) : nth B N 0 n = some i := by
  cases h : nth B N 0 n with
  | none =>
    have := nth_none B N 0 n h
    have h4 := cnt_mono B (a := i + 1) (b := N) h1
    rw [cnt_succ, if_pos h2] at h4
    rw [Nat.zero_add, cnt_zero] at this; omega
  | some j =>
    obtain ⟨_, _, q3, q4⟩ := nth_some B N 0 n j h
    rw [cnt_zero] at q4
    rw [nth_only B q3 h2 (by omega)]
end Sel
end Go.Proofs.Ytddabbfjoejalaa
