/-
  Skew: names are from 1 to as many as there are. No program in sight.
-/
import Derived.Test.YtgidjbpgkeemiaaSkewMath4
namespace Go.Proofs.Ytgidjbpgkeemiaa
open Go.RowKit
open Mv Num Loser Skew Srt
namespace Skew
theorem ups_mid (R : Nat → Nat → Bool) (e : List Nat) (y : Nat) : ∀ n, y ≤ Ord.ups R e n → ∃ i, i ≤ n ∧ Ord.ups R e i = y
  | 0, h => ⟨0, Nat.le_refl _, by have h0 : Ord.ups R e 0 = 0 := rfl; omega⟩
  | n + 1, h => by
    rcases Nat.lt_or_ge (Ord.ups R e n) y with h' | h'
    · refine ⟨n + 1, Nat.le_refl _, ?_⟩
      have hs : Ord.ups R e (n + 1) ≤ Ord.ups R e n + 1 := by rw [Ord.ups]; split <;> omega
      omega
    · obtain ⟨i, hi, h2⟩ := ups_mid R e y n h'
      exact ⟨i, by omega, h2⟩
theorem red_getD (l : List Nat) (k : Nat) (hk : k < numP l.length) : (red l).getD k 0 = nameOf (tkey l) (numP l.length) k := by
  rw [List.getD_eq_getElem?_getD, List.getElem?_eq_getElem (by rw [red_length]; exact hk), Option.getD_some, red_at]
theorem many_ge (l : List Nat) : ∀ y ∈ red l, y ≤ many l := ((foldl_max_le _ _ _).1 (Nat.le_refl _)).2
theorem name_onto (l : List Nat) (x : Nat) (h1 : 1 ≤ x) (h2 : x ≤ many l) : ∃ i, i < numP l.length ∧ (red l).getD i 0 = x := by
  obtain ⟨e, hp, hs⟩ := some_order l
  have hel : e.length = numP l.length := by rw [hp.length_eq, List.length_range]
  have h0 : 0 < e.length := by
    rcases Nat.eq_zero_or_pos e.length with h | h
    · have := many_zero l (by omega); omega
    · exact h
  have hn := ups_names (tkey l) _ e hp hs
  have hm := many_ups l e hp hs h0
  obtain ⟨i, hi, hu⟩ := ups_mid (fun a b => lessB (tkey l a) (tkey l b)) e (x - 1) (e.length - 1) (by omega)
  have hlt : e.getD i 0 < numP l.length := by
    rw [List.getD_eq_getElem?_getD, List.getElem?_eq_getElem (by omega)]; exact List.mem_range.1 (hp.mem_iff.1 (List.getElem_mem _))
  refine ⟨e.getD i 0, hlt, ?_⟩
  rw [red_getD l _ hlt]
  unfold nameOf
  rw [← hn i (by omega), hu]; omega
theorem few_more (n : Nat) : numP n ≤ 2 * n / 3 + 1 := by
  rw [numP_eq]; have := endP_or n; omega
end Skew
end Go.Proofs.Ytgidjbpgkeemiaa
