/-
  Skew: a list, reduced so many times; names that are unlike. No program in sight.
-/
import Derived.Test.YtgidjbpgkeemiaaSk5
namespace Go.Proofs.Ytgidjbpgkeemiaa
open Go.RowKit
open Mv Num Loser Skew Srt
namespace Skew
/-- The list of a level. -/
def Mi (l : List Nat) : Nat → List Nat
  | 0 => l
  | n + 1 => red (Mi l n)
theorem Mi_pos (l : List Nat) (h : ∀ x ∈ l, 1 ≤ x) : ∀ n, ∀ x ∈ Mi l n, 1 ≤ x
  | 0 => h
  | _ + 1 => red_pos _
/-- There is an order of the triples. -/
theorem some_order (l : List Nat) : ∃ e : List Nat, e.Perm (List.range (numP l.length)) ∧ ∀ i j, i < j → j < e.length → lessB (tkey l (e.getD j 0)) (tkey l (e.getD i 0)) = false :=
  ⟨_, sorted_keys l _ _ rfl⟩
theorem red_inj (l : List Nat) (hm : many l = numP l.length) (j k : Nat) (hj : j < numP l.length) (hk : k < numP l.length) (h : (red l).getD j 0 = (red l).getD k 0) : j = k := by
  obtain ⟨e, hp, hs⟩ := some_order l
  have hel : e.length = numP l.length := by rw [hp.length_eq, List.length_range]
  have hn := ups_names (tkey l) _ e hp hs
  have hname : ∀ i, i < e.length → nameOf (tkey l) (numP l.length) (e.getD i 0) = i + 1 := by
    intro i hi
    have hmu := many_ups l e hp hs (by omega)
    have := ups_all (fun a b => lessB (tkey l a) (tkey l b)) e (e.length - 1) (by omega) i (by omega)
    unfold nameOf; rw [← hn i hi, this]; omega
  have hall : ∀ a, a < numP l.length → ∃ i, i < e.length ∧ e.getD i 0 = a := by
    intro a ha
    obtain ⟨i, hi, rfl⟩ := List.getElem_of_mem (hp.mem_iff.2 (List.mem_range.2 ha))
    exact ⟨i, hi, by rw [List.getD_eq_getElem?_getD, List.getElem?_eq_getElem hi]; rfl⟩
  have hr : ∀ a, a < numP l.length → (red l).getD a 0 = nameOf (tkey l) (numP l.length) a := fun a ha => by
    rw [List.getD_eq_getElem?_getD, List.getElem?_eq_getElem (by rw [red_length]; exact ha), Option.getD_some, red_at]
  obtain ⟨i, hi, rfl⟩ := hall j hj
  obtain ⟨i', hi', rfl⟩ := hall k hk
  rw [hr _ hj, hr _ hk, hname i hi, hname i' hi'] at h
  have : i = i' := by omega
  rw [this]
/-- The order of the last level, as it is laid. -/
theorem lay_step (l o : List Nat) (m i x : Nat) (hm : many l = numP l.length) (hmm : numP l.length = m) (ho : o.length = m) (hi : i < m) (hx : x = (red l).getD i 0) (h : ∀ j, j < i → o.getD ((red l).getD j 0 - 1) 0 = j) : ∀ j, j < i + 1 → (o.set (x - 1) i).getD ((red l).getD j 0 - 1) 0 = j := by
  intro j hj
  have hb : ∀ k, k < m → 1 ≤ (red l).getD k 0 ∧ (red l).getD k 0 ≤ m := fun k hk => by
    have hk' : k < (red l).length := by rw [red_length]; omega
    rw [List.getD_eq_getElem?_getD, List.getElem?_eq_getElem hk', Option.getD_some]
    exact ⟨red_pos l _ (List.getElem_mem hk'), by rw [← hmm]; exact red_le l _ (List.getElem_mem hk')⟩
  have b1 := hb i hi
  have b2 := hb j (by omega)
  rcases Nat.lt_or_ge j i with h' | h'
  · have hne : x - 1 ≠ (red l).getD j 0 - 1 := fun e => by
      have := red_inj l hm i j (by omega) (by omega) (by omega)
      omega
    rw [List.getD_eq_getElem?_getD, List.getElem?_set_ne hne, ← List.getD_eq_getElem?_getD, h j h']
  · obtain rfl : j = i := by omega
    rw [← hx, List.getD_eq_getElem?_getD, List.getElem?_set_self (by omega)]; rfl
theorem lay_done (l o : List Nat) (hm : many l = numP l.length) (ho : o.length = numP l.length) (h : ∀ j, j < numP l.length → o.getD ((red l).getD j 0 - 1) 0 = j) : Ord.SortedE (red l) o := by
  obtain ⟨e, hp, hs⟩ := some_order l
  exact bottom l e o hp hs hm ho h
end Skew
end Go.Proofs.Ytgidjbpgkeemiaa
