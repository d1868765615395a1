/-
  Plain mathematics of samples, the second part: names, the reduced list's ends, ranks, the merge. No program in sight.
-/
import Derived.Test.YtgidjbpgkeemiaaSkewMath
namespace Go.Proofs.Ytgidjbpgkeemiaa
open Num Loser
set_option linter.unusedVariables false
namespace Skew
/-! ### The places, told -/
def numP (n : Nat) : Nat := (places n).length
def plc (n k : Nat) : Nat := (places n).getD k 0
theorem numP_eq (n : Nat) : numP n = (endP n + 1) / 3 + endP n / 3 := places_length n
theorem plc_eq (n k : Nat) (hk : k < numP n) : plc n k = if k < (endP n + 1) / 3 then 3 * k + 1 else 3 * (k - (endP n + 1) / 3) + 2 := by
  have h1 : (restP 1 (endP n)).length = (endP n + 1) / 3 := by rw [restP_length 1 (by omega)]; omega
  unfold plc numP at *
  rw [List.getD_eq_getElem?_getD, List.getElem?_eq_getElem hk, Option.getD_some]
  unfold places at hk ⊢
  rw [List.getElem_append]
  split
  · rename_i h; rw [if_pos (by omega), restP_at 1 (by omega)]
  · rename_i h; rw [if_neg (by omega), restP_at 2 (by omega), h1]
theorem endP_or (n : Nat) : endP n = n ∧ n % 3 ≠ 1 ∨ endP n = n + 1 ∧ n % 3 = 1 := by unfold endP; split <;> omega
theorem plc_lt (n k : Nat) (hk : k < numP n) : plc n k < endP n ∧ plc n k % 3 ≠ 0 ∧ plc n k ≤ n := by
  have h := plc_eq n k hk
  rw [numP_eq] at hk
  have hE := endP_or n
  generalize endP n = E at *
  split at h <;> omega
theorem plc_inj (n k k' : Nat) (hk : k < numP n) (hk' : k' < numP n) (h : plc n k = plc n k') : k = k' := by
  have h1 := plc_eq n k hk
  have h2 := plc_eq n k' hk'
  split at h1 <;> split at h2 <;> omega
theorem plc_next (n k : Nat) (hk : k < numP n) (h : plc n k + 2 < n) : (k + 1 < numP n ∧ plc n (k + 1) = plc n k + 3) ∨ (k + 1 = numP n ∧ plc n k + 3 = n) := by
  have h1 := plc_eq n k hk
  have hm := numP_eq n
  by_cases hk1 : k + 1 < numP n
  · refine .inl ⟨hk1, ?_⟩
    have h2 := plc_eq n (k + 1) hk1
    have hE := endP_or n
    generalize endP n = E at *
    split at h1 <;> split at h2 <;> omega
  · refine .inr ⟨by omega, ?_⟩
    have hE := endP_or n
    generalize endP n = E at *
    split at h1 <;> omega
theorem plc_onto (n i : Nat) (hi : i < endP n) (h3 : i % 3 ≠ 0) : ∃ k, k < numP n ∧ plc n k = i := by
  have hm := numP_eq n
  by_cases h : i % 3 = 1
  · have hk : i / 3 < numP n := by omega
    exact ⟨i / 3, hk, by rw [plc_eq n _ hk, if_pos (by omega)]; omega⟩
  · have hk : (endP n + 1) / 3 + i / 3 < numP n := by omega
    exact ⟨(endP n + 1) / 3 + i / 3, hk, by rw [plc_eq n _ hk, if_neg (by omega)]; omega⟩

/-! ### Names -/
def nameOf (K : Nat → List Nat) (m k : Nat) : Nat := 1 + (List.range m).countP (fun j => firstK K j && lessB (K j) (K k))
theorem first_ex (K : Nat → List Nat) (m a : Nat) (ha : a < m) : ∃ j, j < m ∧ firstK K j = true ∧ K j = K a := by
  have h := first_one K m a ha
  have h0 : 0 < (List.range m).countP (fun j => firstK K j && decide (K j = K a)) := by omega
  obtain ⟨j, hj, h1⟩ := List.countP_pos_iff.1 h0
  simp only [Bool.and_eq_true, decide_eq_true_eq] at h1
  exact ⟨j, List.mem_range.1 hj, h1.1, h1.2⟩
theorem name_up (K : Nat → List Nat) (m a b : Nat) (ha : a < m) (h : lessB (K a) (K b) = true) : nameOf K m a < nameOf K m b := by
  unfold nameOf
  have e := countP_two (p := fun j => firstK K j && lessB (K j) (K b)) (q := fun j => firstK K j && lessB (K j) (K a)) (r := fun j => firstK K j && (lessB (K j) (K b) && !lessB (K j) (K a))) (List.range m) (fun j _ => by
    refine ⟨?_, fun h' => ?_⟩
    · show (firstK K j && lessB (K j) (K b)) = _
      cases hf : firstK K j with
      | false => rfl
      | true =>
        cases hl : lessB (K j) (K a) with
        | true => rw [lessB_trans _ _ _ hl h]; rfl
        | false => simp
    · simp only [Bool.and_eq_true] at h'
      show (firstK K j && (lessB (K j) (K b) && !lessB (K j) (K a))) = false
      rw [h'.2]; simp)
  obtain ⟨j, hj, hf, hK⟩ := first_ex K m a ha
  have hp : 0 < (List.range m).countP (fun j => firstK K j && (lessB (K j) (K b) && !lessB (K j) (K a))) :=
    List.countP_pos_iff.2 ⟨j, List.mem_range.2 hj, by show (firstK K j && (lessB (K j) (K b) && !lessB (K j) (K a))) = true; rw [hf, hK, h, lessB_irrefl]; rfl⟩
  omega
theorem name_lt (K : Nat → List Nat) (m a b : Nat) (ha : a < m) (hb : b < m) : nameOf K m a < nameOf K m b ↔ lessB (K a) (K b) = true := by
  refine ⟨fun h => ?_, name_up K m a b ha⟩
  cases h1 : lessB (K a) (K b) with
  | true => rfl
  | false =>
    cases h2 : lessB (K b) (K a) with
    | true => have := name_up K m b a hb h2; omega
    | false =>
      have := lessB_total _ _ h1 h2
      unfold nameOf at h; rw [this] at h; omega
theorem name_eq (K : Nat → List Nat) (m a b : Nat) (ha : a < m) (hb : b < m) : nameOf K m a = nameOf K m b ↔ K a = K b := by
  constructor
  · intro h
    refine lessB_total _ _ ?_ ?_
    · cases hc : lessB (K a) (K b) with
      | false => rfl
      | true => have := name_up K m a b ha hc; omega
    · cases hc : lessB (K b) (K a) with
      | false => rfl
      | true => have := name_up K m b a hb hc; omega
  · intro h; unfold nameOf; rw [h]
/-- The reduced list. -/
def tkey (l : List Nat) (k : Nat) : List Nat := tri l (plc l.length k)
def red (l : List Nat) : List Nat := (List.range (numP l.length)).map (nameOf (tkey l) (numP l.length))
theorem red_length (l : List Nat) : (red l).length = numP l.length := by simp [red]
theorem red_at (l : List Nat) (k : Nat) (hk : k < (red l).length) : (red l)[k] = nameOf (tkey l) (numP l.length) k := by simp [red]
theorem red_pos (l : List Nat) : ∀ x ∈ red l, 1 ≤ x := by
  intro x hx
  simp only [red, List.mem_map] at hx
  obtain ⟨k, _, rfl⟩ := hx
  unfold nameOf; omega
theorem name_le (K : Nat → List Nat) (m k : Nat) (hk : k < m) : nameOf K m k ≤ m := by
  unfold nameOf
  have : (List.range m).countP (fun j => firstK K j && lessB (K j) (K k)) < m := by
    have h1 := List.countP_le_length (p := fun j => firstK K j && lessB (K j) (K k)) (l := List.range m)
    rw [List.length_range] at h1
    refine Nat.lt_of_le_of_ne h1 fun h2 => ?_
    have h3 := List.countP_eq_length.1 (h2.trans (List.length_range (n := m)).symm) k (List.mem_range.2 hk)
    rw [lessB_irrefl, Bool.and_false] at h3; cases h3
  omega
theorem red_le (l : List Nat) : ∀ x ∈ red l, x ≤ numP l.length := by
  intro x hx
  simp only [red, List.mem_map, List.mem_range] at hx
  obtain ⟨k, hk, rfl⟩ := hx
  exact name_le _ _ _ hk
/-- Triples that have a 0 are of one place. -/
theorem tri_zero (l : List Nat) (h1 : ∀ x ∈ l, 1 ≤ x) (a b : Nat) (ha : a ≤ l.length) (hb : b ≤ l.length) (hne : a ≠ b) (h : tri l a = tri l b) : a + 2 < l.length ∧ b + 2 < l.length := by
  have hin : ∀ i, i < l.length → 1 ≤ at0 l i := fun i h => by
    unfold at0; rw [List.getD_eq_getElem?_getD, List.getElem?_eq_getElem h]; exact h1 _ (List.getElem_mem h)
  have hout : ∀ i, l.length ≤ i → at0 l i = 0 := fun i h => by unfold at0; rw [List.getD_eq_getElem?_getD, List.getElem?_eq_none h]; rfl
  simp only [tri, List.cons.injEq, and_true] at h
  obtain ⟨e0, e1, e2⟩ := h
  have d : ∀ i j, at0 l i = at0 l j → (i < l.length ↔ j < l.length) := by
    intro i j e
    constructor
    · intro hi
      rcases Nat.lt_or_ge j l.length with h | h
      · exact h
      · have := hin i hi; have := hout j h; omega
    · intro hj
      rcases Nat.lt_or_ge i l.length with h | h
      · exact h
      · have := hin j hj; have := hout i h; omega
  have d0 := d _ _ e0
  have d1 := d _ _ e1
  have d2 := d _ _ e2
  omega
/-- The reduced list's ends stand as the samples' ends do. -/
theorem sl_red (l : List Nat) (h1 : ∀ x ∈ l, 1 ≤ x) : ∀ (d k k' : Nat), k < numP l.length → k' < numP l.length → l.length ≤ plc l.length k + d → Ord.sl (red l) k k' = Ord.sl l (plc l.length k) (plc l.length k')
  | d, k, k', hk, hk', hd => by
    have hl := red_length l
    rw [Ord.sl_step (red l) k k' (by omega) (by omega), sl_tri l h1, red_at, red_at]
    have e1 : decide (nameOf (tkey l) (numP l.length) k < nameOf (tkey l) (numP l.length) k') = lessB (tri l (plc l.length k)) (tri l (plc l.length k')) := by
      rw [Bool.eq_iff_iff, decide_eq_true_eq]; exact name_lt _ _ _ _ hk hk'
    have e2 : decide (nameOf (tkey l) (numP l.length) k = nameOf (tkey l) (numP l.length) k') = decide (tri l (plc l.length k) = tri l (plc l.length k')) := by
      rw [Bool.eq_iff_iff, decide_eq_true_eq, decide_eq_true_eq]; exact name_eq _ _ _ _ hk hk'
    rw [e1, e2]
    by_cases ht : tri l (plc l.length k) = tri l (plc l.length k')
    · congr 2
      by_cases hne : k = k'
      · subst hne; rw [Ord.sl_irrefl, Ord.sl_irrefl]
      · have hp := plc_lt l.length k hk
        have hp' := plc_lt l.length k' hk'
        have hpn : plc l.length k ≠ plc l.length k' := fun h => hne (plc_inj _ _ _ hk hk' h)
        obtain ⟨z1, z2⟩ := tri_zero l h1 _ _ hp.2.2 hp'.2.2 hpn ht
        rcases plc_next _ _ hk z1 with ⟨n1, n2⟩ | ⟨n1, n2⟩
        · rcases plc_next _ _ hk' z2 with ⟨m1, m2⟩ | ⟨m1, m2⟩
          · match d with
            | 0 => omega
            | d + 1 => rw [sl_red l h1 d (k + 1) (k' + 1) n1 m1 (by omega), n2, m2]
          · rw [m1, Ord.sl_no (red l) _ _ (by omega), m2, Ord.sl_no l _ _ (Nat.le_refl _)]
        · rcases plc_next _ _ hk' z2 with ⟨m1, m2⟩ | ⟨m1, m2⟩
          · rw [n1, n2, Ord.sl_end (red l) _ _ (by omega), Ord.sl_end l _ _ (Nat.le_refl _), decide_eq_true (by omega), decide_eq_true (by omega)]
          · omega
    · rw [decide_eq_false ht]; rfl
/-! ### How many names -/
def many (l : List Nat) : Nat := (red l).foldl max 0
theorem foldl_max_le (x : Nat) : ∀ (l : List Nat) (a : Nat), l.foldl max a ≤ x ↔ a ≤ x ∧ ∀ y ∈ l, y ≤ x
  | [], a => by simp
  | b :: l, a => by
    rw [List.foldl_cons, foldl_max_le x l]
    simp only [List.mem_cons, forall_eq_or_imp, Nat.max_le, and_assoc]
theorem many_of (l : List Nat) (x : Nat) (h : ∀ y ∈ red l, y ≤ x) (hx : x ∈ red l ∨ x = 0) : many l = x := by
  have h1 : many l ≤ x := (foldl_max_le x _ _).2 ⟨Nat.zero_le _, h⟩
  have h2 := (foldl_max_le (many l) (red l) 0).1 (Nat.le_refl _)
  rcases hx with hx | hx
  · have := h2.2 x hx; omega
  · omega
/-- What the program counts. -/
theorem many_ups (l e : List Nat) (hp : e.Perm (List.range (numP l.length))) (hs : ∀ i j, i < j → j < e.length → lessB (tkey l (e.getD j 0)) (tkey l (e.getD i 0)) = false) (h0 : 0 < e.length) :
    many l = 1 + Ord.ups (fun a b => lessB (tkey l a) (tkey l b)) e (e.length - 1) := by
  have hn := ups_names (tkey l) _ e hp hs
  have hall : ∀ a, a < numP l.length → ∃ i, i < e.length ∧ e.getD i 0 = a := by
    intro a ha
    obtain ⟨i, hi, rfl⟩ := List.getElem_of_mem (hp.mem_iff.2 (List.mem_range.2 ha))
    exact ⟨i, hi, by rw [List.getD_eq_getElem?_getD, List.getElem?_eq_getElem hi]; rfl⟩
  have hlt : ∀ i, i < e.length → e.getD i 0 < numP l.length := fun i hi => by
    rw [List.getD_eq_getElem?_getD, List.getElem?_eq_getElem hi]; exact List.mem_range.1 (hp.mem_iff.1 (List.getElem_mem hi))
  refine many_of l _ (fun y hy => ?_) (.inl ?_)
  · simp only [red, List.mem_map, List.mem_range] at hy
    obtain ⟨k, hk, rfl⟩ := hy
    obtain ⟨i, hi, rfl⟩ := hall k hk
    unfold nameOf
    rw [← hn i hi]
    have := Ord.ups_mono (fun a b => lessB (tkey l a) (tkey l b)) e i (e.length - 1) (by omega)
    omega
  · simp only [red, List.mem_map, List.mem_range]
    exact ⟨e.getD (e.length - 1) 0, hlt _ (by omega), by unfold nameOf; rw [← hn _ (by omega)]⟩
theorem ups_le (R : Nat → Nat → Bool) (e : List Nat) : ∀ i, Ord.ups R e i ≤ i
  | 0 => Nat.le_refl _
  | i + 1 => by rw [Ord.ups]; have := ups_le R e i; split <;> omega
theorem ups_all (R : Nat → Nat → Bool) (e : List Nat) : ∀ i, Ord.ups R e i = i → ∀ j, j ≤ i → Ord.ups R e j = j
  | 0, h, j, hj => by obtain rfl : j = 0 := by omega
                      rfl
  | i + 1, h, j, hj => by
    rw [Ord.ups] at h
    have hle := ups_le R e i
    rcases Nat.lt_or_ge j (i + 1) with h' | h'
    · refine ups_all R e i ?_ j (by omega)
      split at h <;> omega
    · obtain rfl : j = i + 1 := by omega
      rw [Ord.ups]; exact h
/-- All names are unlike: the names tell the order. -/
theorem bottom (l e o : List Nat) (hp : e.Perm (List.range (numP l.length))) (hs : ∀ i j, i < j → j < e.length → lessB (tkey l (e.getD j 0)) (tkey l (e.getD i 0)) = false) (hm : many l = numP l.length)
    (ho : o.length = numP l.length) (hat : ∀ k, k < numP l.length → o.getD ((red l).getD k 0 - 1) 0 = k) : Ord.SortedE (red l) o := by
  have hel : e.length = numP l.length := by rw [hp.length_eq, List.length_range]
  have hn := ups_names (tkey l) _ e hp hs
  have hlt : ∀ i, i < e.length → e.getD i 0 < numP l.length := fun i hi => by
    rw [List.getD_eq_getElem?_getD, List.getElem?_eq_getElem hi]; exact List.mem_range.1 (hp.mem_iff.1 (List.getElem_mem hi))
  have hname : ∀ i, i < e.length → nameOf (tkey l) (numP l.length) (e.getD i 0) = i + 1 := by
    intro i hi
    have hmu := many_ups l e hp hs (by omega)
    have := ups_all (fun a b => lessB (tkey l a) (tkey l b)) e (e.length - 1) (by omega) i (by omega)
    unfold nameOf; rw [← hn i hi, this]; omega
  have hoe : o = e := by
    refine List.ext_getElem (by omega) fun i h1 h2 => ?_
    have := hat (e.getD i 0) (hlt i h2)
    rw [List.getD_eq_getElem?_getD (l := red l), List.getElem?_eq_getElem (by rw [red_length]; exact hlt i h2), Option.getD_some, red_at, hname i h2, Nat.add_sub_cancel] at this
    rw [List.getD_eq_getElem?_getD, List.getElem?_eq_getElem h1, Option.getD_some, List.getD_eq_getElem?_getD, List.getElem?_eq_getElem h2, Option.getD_some] at this
    exact this
  subst hoe
  refine ⟨by rw [red_length]; exact hp, List.pairwise_iff_getElem.2 fun i j hi hj hij => ?_⟩
  have hi' : o[i] = o.getD i 0 := by rw [List.getD_eq_getElem?_getD, List.getElem?_eq_getElem hi]; rfl
  have hj' : o[j] = o.getD j 0 := by rw [List.getD_eq_getElem?_getD, List.getElem?_eq_getElem hj]; rfl
  rw [hi', hj', Ord.sl_step (red l) _ _ (by rw [red_length]; exact hlt i hi) (by rw [red_length]; exact hlt j hj), red_at, red_at, hname i hi, hname j hj, decide_eq_true (by omega)]
  rfl
end Skew
end Go.Proofs.Ytgidjbpgkeemiaa
