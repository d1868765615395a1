/-
  Sorting: the plain sort's steps, the second part: pivots, patterns, partial insertion. No function of the program in sight.
-/
import Derived.Test.YtgidjbpgkeemiaaSortX
namespace Go.Proofs.Ytgidjbpgkeemiaa
open Go.RowKit
open Mv
set_option linter.unusedVariables false
namespace Srt
open Go.Sort (swp order2 median medianAdjacent choosePivot breakStep breakPatterns scanSorted shiftDown shiftUp partialIns partialInsertionSort bitsLen xorNext Hint)
theorem set_over (S : Mem) {b c : Nat} (r r' x : Blk) (h : b ≠ c) : ((S.set b r).set c x).set b r' = (S.set b r').set c x := by
  rw [Mem.set_comm _ _ _ (Ne.symm h), Mem.set_set]
def hintI : Hint → Int
  | .unknown => 0
  | .increasing => 1
  | .decreasing => 2
section
variable {α : Type} [Inhabited α] (lt : α → α → Bool)
theorem ord2_lt {d : Array α} {a e k n x y k' : Nat} (h : (x, y, k') = order2 lt d a e k) (ha : a < n) (he : e < n) : x < n ∧ y < n ∧ k' ≤ k + 1 := by
  unfold order2 at h
  split at h <;> (simp only [Prod.mk.injEq] at h; omega)
theorem median_lt {d : Array α} {a e o k p k' lo hi : Nat} (h : (p, k') = median lt d a e o k) (ha : lo ≤ a ∧ a < hi) (he : lo ≤ e ∧ e < hi) (ho : lo ≤ o ∧ o < hi) : (lo ≤ p ∧ p < hi) ∧ k' ≤ k + 3 := by
  have hm := Go.Sort.median_mem lt d a e o k
  rw [← h] at hm
  have hk : k' ≤ k + 3 := by
    unfold median at h
    simp only [Prod.mk.injEq] at h
    rw [h.2]
    have h1 : ∀ x y z, (order2 lt d x y z).2.2 ≤ z + 1 := fun x y z => by unfold order2; split <;> simp
    have := h1 (order2 lt d a e k).1 (order2 lt d (order2 lt d a e k).2.1 o (order2 lt d a e k).2.2).1 (order2 lt d (order2 lt d a e k).2.1 o (order2 lt d a e k).2.2).2.2
    have := h1 (order2 lt d a e k).2.1 o (order2 lt d a e k).2.2
    have := h1 a e k
    omega
  refine ⟨?_, hk⟩
  simp only at hm
  omega
theorem medadj_lt {d : Array α} {a k p k' lo hi : Nat} (h : (p, k') = medianAdjacent lt d a k) (ha : lo < a) (he : a + 1 < hi) : (lo ≤ p ∧ p < hi) ∧ k' ≤ k + 3 :=
  median_lt lt (h.trans rfl) (by omega) (by omega) (by omega)
end
theorem piv_hint {k : Nat} (h0 : ¬ k = 0) (h1 : ¬ k = 12) : (if k = 0 then Hint.increasing else if k = 12 then Hint.decreasing else Hint.unknown) = .unknown := by rw [if_neg h0, if_neg h1]
theorem piv_val {i j h : Int} (e : i = j) : one [.int .i64 i, .int .i64 h] = .tuple #[.int .i64 j, .int .i64 h] := by rw [e]; rfl
theorem and_n64 (a b : Nat) (ha : a < 18446744073709551616) (hb : b < 18446744073709551616) : bits .and .u64 (a : Int) (b : Int) = ((a &&& b : Nat) : Int) := by
  have h : a &&& b < 2 ^ 64 := Nat.and_lt_two_pow _ (by omega)
  show IntKind.u64.wrap (((BitVec.ofInt 64 (a : Int)) &&& (BitVec.ofInt 64 (b : Int))).toNat : Int) = _
  rw [BitVec.ofInt_natCast, BitVec.ofInt_natCast, BitVec.toNat_and, BitVec.toNat_ofNat, BitVec.toNat_ofNat, Nat.mod_eq_of_lt (by omega), Nat.mod_eq_of_lt (by omega)]
  exact IntWalk.u64_in _ (by omega)
theorem sub_u64 (m : Nat) (h0 : 1 ≤ m) (h1 : m < 18446744073709551616) : IntKind.u64.wrap ((m : Int) - 1) = ((m - 1 : Nat) : Int) := by
  rw [show ((m : Int) - 1) = ((m - 1 : Nat) : Int) by omega]; exact IntWalk.u64_in _ (by omega)
section
variable {α : Type} [Inhabited α]
/-- So many rounds of breaking patterns are left. -/
def bpR (a L mo ba : Nat) : Nat → UInt64 × Array α → UInt64 × Array α
  | 0, st => st
  | k + 1, st => bpR a L mo ba k (breakStep a L mo st (ba + (2 - k)))
theorem bpR_succ (a L mo ba k : Nat) (r : UInt64) (d : Array α) : bpR a L mo ba (k + 1) (r, d) = bpR a L mo ba k (xorNext r, swp d (ba + (2 - k)) (a + (if L ≤ (xorNext r).toNat &&& (mo - 1) then ((xorNext r).toNat &&& (mo - 1)) - L else (xorNext r).toNat &&& (mo - 1)))) := rfl
theorem bp_eq {d : Array α} {a L : Nat} (h8 : 8 ≤ L) : breakPatterns d a (a + L) = (bpR a L (1 <<< bitsLen L) (a + L / 4 * 2 - 1) 3 (UInt64.ofNat L, d)).2 := by
  unfold breakPatterns
  simp only [Nat.add_sub_cancel_left]
  rw [if_pos h8]
  rfl
end
theorem bp_mod (L : Nat) (h0 : 0 < L) (h : L ≤ 1048576) : 1 ≤ 1 <<< bitsLen L ∧ 1 <<< bitsLen L ≤ 2 * L := by
  rw [Nat.one_shiftLeft]
  exact ⟨Nat.one_le_two_pow, Go.Sort.two_pow_bitsLen_le h0⟩
section
variable {α : Type} [Inhabited α] (lt : α → α → Bool)
theorem pis_res {okP : α → Prop} {n a e s i : Nat} {d d1 : Array α} {M : Array α → Mem} {r : Value} {S' : Mem} (h3 : partialIns lt a e (s + 1) i d1 = partialInsertionSort lt d a e)
    (h : (scanSorted lt d1 e i = e ∧ r = .bool true ∧ S' = M d1) ∨ (¬ scanSorted lt d1 e i = e ∧ e - a < 50 ∧ r = .bool false ∧ S' = M d1)) (R : Rw okP n d1) :
    r = .bool (partialInsertionSort lt d a e).2 ∧ S' = M (partialInsertionSort lt d a e).1 ∧ Rw okP n (partialInsertionSort lt d a e).1 := by
  rw [← h3]
  unfold partialIns
  rcases h with ⟨h, rfl, rfl⟩ | ⟨h, h5, rfl, rfl⟩
  · simp only [if_pos h]; exact ⟨trivial, trivial, R⟩
  · simp only [if_neg h, if_pos h5]; exact ⟨trivial, trivial, R⟩
theorem pi_step {a e s i w : Nat} {d1 d2 d3 d4 : Array α} (hS : w + 1 = scanSorted lt d1 e i) (hne : ¬ w + 1 = e) (h50 : ¬ e - a < 50) (hd2 : d2 = swp d1 (w + 1) w) (hd3 : d3 = if w + 1 - a ≥ 2 then shiftDown lt w d2 else d2)
    (hd4 : d4 = if e - (w + 1) ≥ 2 then shiftUp lt e (w + 1 + 1) d3 else d3) : partialIns lt a e s (w + 1) d4 = partialIns lt a e (s + 1) i d1 := by
  rw [partialIns.eq_def lt a e (s + 1) i d1]
  simp only [← hS, if_neg hne, if_neg h50, Nat.add_sub_cancel, ← hd2, ← hd3, ← hd4]
end
/-! ### The recursion, stage by stage -/
section
open Go.Sort (pdq insertionSort heapSort reverseRange partition partitionEqual)
variable {α : Type} [Inhabited α] (lt : α → α → Bool)
def pdq3 (d3 : Array α) (a b l : Nat) (w1 w2 : Bool) (pv : Nat) : Array α :=
  if (decide (a > 0) && !lt d3[a - 1]! d3[pv]!) = true then
    (if a < (partitionEqual lt d3 a b pv).1 ∧ (partitionEqual lt d3 a b pv).1 ≤ b then pdq lt (partitionEqual lt d3 a b pv).2 (partitionEqual lt d3 a b pv).1 b l w1 w2 else (partitionEqual lt d3 a b pv).2)
  else
    (if a ≤ (partition lt d3 a b pv).1 ∧ (partition lt d3 a b pv).1 < b then
      (if (partition lt d3 a b pv).1 - a < b - (partition lt d3 a b pv).1 then
        pdq lt (pdq lt (partition lt d3 a b pv).2.2 a (partition lt d3 a b pv).1 l true true) ((partition lt d3 a b pv).1 + 1) b l (decide ((partition lt d3 a b pv).1 - a ≥ (b - a) / 8)) (partition lt d3 a b pv).2.1
      else
        pdq lt (pdq lt (partition lt d3 a b pv).2.2 ((partition lt d3 a b pv).1 + 1) b l true true) a (partition lt d3 a b pv).1 l (decide (b - (partition lt d3 a b pv).1 ≥ (b - a) / 8)) (partition lt d3 a b pv).2.1)
    else (partition lt d3 a b pv).2.2)
def pdq2 (d2 : Array α) (a b l : Nat) (w1 w2 : Bool) (pv : Nat) (hi : Hint) : Array α :=
  if (w1 && w2 && decide (hi = .increasing)) = true then (if (partialInsertionSort lt d2 a b).2 = true then (partialInsertionSort lt d2 a b).1 else pdq3 lt (partialInsertionSort lt d2 a b).1 a b l w1 w2 pv)
  else pdq3 lt d2 a b l w1 w2 pv
def pdq1 (d1 : Array α) (a b l : Nat) (w1 w2 : Bool) : Array α :=
  if (choosePivot lt d1 a b).2 = .decreasing then pdq2 lt (reverseRange d1 a b) a b l w1 w2 (b - 1 - ((choosePivot lt d1 a b).1 - a)) .increasing
  else pdq2 lt d1 a b l w1 w2 (choosePivot lt d1 a b).1 (choosePivot lt d1 a b).2
theorem pdq_ins {d : Array α} {a b l : Nat} {w1 w2 : Bool} (h : b - a ≤ 12) : pdq lt d a b l w1 w2 = insertionSort lt d a b := by rw [pdq, if_pos h]
theorem pdq_heap {d : Array α} {a b l : Nat} {w1 w2 : Bool} (h : ¬ b - a ≤ 12) (h0 : l = 0) : pdq lt d a b l w1 w2 = heapSort lt d a b := by rw [pdq, if_neg h, if_pos h0]
theorem pdq_1 {d : Array α} {a b l : Nat} {w1 w2 : Bool} (h : ¬ b - a ≤ 12) (h0 : ¬ l = 0) : pdq lt d a b l w1 w2 = pdq1 lt (if !w1 then breakPatterns d a b else d) a b (if !w1 then l - 1 else l) w1 w2 := by
  rw [pdq, if_neg h, if_neg h0]
  dsimp only
  unfold pdq1 pdq2 pdq3
  generalize (if (!w1) = true then breakPatterns d a b else d) = d1
  generalize (if (!w1) = true then l - 1 else l) = l2
  generalize choosePivot lt d1 a b = c
  obtain ⟨p0, hn⟩ := c
  dsimp only
  by_cases hd : hn = .decreasing
  · subst hd
    simp only [if_true]
    generalize partialInsertionSort lt (reverseRange d1 a b) a b = q
    obtain ⟨d3, pb⟩ := q
    cases w1 <;> cases w2 <;> cases pb <;> simp
  · simp only [if_neg hd]
    by_cases hx : (w1 && w2 && decide (hn = Hint.increasing)) = true
    · simp only [if_pos hx]
      generalize partialInsertionSort lt d1 a b = q
      obtain ⟨d3, pb⟩ := q
      cases pb <;> simp
    · simp only [if_neg hx]; simp
end
theorem hint_ne {h : Hint} (hd : ¬ h = .decreasing) : hintI h < 2 ∧ 0 ≤ hintI h := by cases h <;> simp_all [hintI]
theorem hint_1 (h : Hint) : decide (hintI h = 1) = decide (h = .increasing) := by cases h <;> rfl
theorem wbv_ {p q : Prop} [Decidable p] [Decidable q] (h : p ↔ q) : some (Value.bool (decide p)) = some (Value.bool (decide q)) := by
  congr 2; rw [decide_eq_decide]; exact h
end Srt
end Go.Proofs.Ytgidjbpgkeemiaa
