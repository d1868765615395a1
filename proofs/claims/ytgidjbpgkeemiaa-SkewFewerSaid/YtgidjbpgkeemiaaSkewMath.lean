/-
  Plain mathematics of samples. No program in sight.
-/
import Derived.Test.YtgidjbpgkeemiaaOrdMath
namespace Go.Proofs.Ytgidjbpgkeemiaa
open Num Loser
set_option linter.unusedVariables false
namespace Skew
/-! ### The samples' places -/
def endP (n : Nat) : Nat := if n % 3 = 1 then n + 1 else n
def restP (r m : Nat) : List Nat := (List.range m).filter (fun i => decide (i % 3 = r))
def places (n : Nat) : List Nat := restP 1 (endP n) ++ restP 2 (endP n)
theorem restP_succ (r m : Nat) : restP r (m + 1) = restP r m ++ (if m % 3 = r then [m] else []) := by
  unfold restP
  rw [List.range_succ, List.filter_append]
  congr 1
  by_cases h : m % 3 = r <;> simp [h]
theorem restP_length (r : Nat) (hr : r < 3) : ∀ m, (restP r m).length = (m + 2 - r) / 3
  | 0 => by
    have : restP r 0 = [] := rfl
    rw [this]; show 0 = _; omega
  | m + 1 => by
    rw [restP_succ, List.length_append, restP_length r hr m]
    by_cases h : m % 3 = r
    · rw [if_pos h]; show _ + 1 = _; omega
    · rw [if_neg h]; show _ + 0 = _; omega
theorem places_length (n : Nat) : (places n).length = (endP n + 1) / 3 + endP n / 3 := by
  unfold places
  rw [List.length_append, restP_length 1 (by omega), restP_length 2 (by omega)]
  omega
theorem places_few (n : Nat) : (places n).length ≤ 2 * n / 3 + 1 := by
  rw [places_length]; unfold endP; split <;> omega
/-- The k-th place that leaves a rest. -/
theorem restP_at (r : Nat) (hr : r < 3) (m k : Nat) (hk : k < (restP r m).length) : (restP r m)[k] = 3 * k + r := by
  induction m with
  | zero => exact absurd hk (Nat.not_lt_zero _)
  | succ m ih =>
    have hl := restP_length r hr m
    simp only [restP_succ] at hk ⊢
    rw [List.getElem_append]
    split
    · rename_i h; exact ih h
    · rename_i h
      by_cases he : m % 3 = r
      · simp only [he, if_true, List.length_append, List.length_singleton] at hk ⊢
        rw [List.getElem_singleton]; omega
      · simp only [he, if_false, List.append_nil] at hk; omega
theorem mem_places (n i : Nat) : i ∈ places n ↔ i < endP n ∧ i % 3 ≠ 0 := by
  unfold places restP
  simp only [List.mem_append, List.mem_filter, List.mem_range, decide_eq_true_eq]
  omega

/-! ### Names -/
def firstK (K : Nat → List Nat) (j : Nat) : Bool := (List.range j).all (fun z => decide (K z ≠ K j))
theorem first_one (K : Nat → List Nat) : ∀ (m a : Nat), a < m → (List.range m).countP (fun j => firstK K j && decide (K j = K a)) = 1
  | 0, _, h => absurd h (Nat.not_lt_zero _)
  | m + 1, a, ha => by
    rw [List.range_succ, List.countP_append]
    by_cases hx : ∃ b, b < m ∧ K b = K a
    · obtain ⟨b, hb, e⟩ := hx
      rw [← e, first_one K m b hb]
      have : (firstK K m && decide (K m = K b)) = false := by
        by_cases h : K m = K b
        · have : firstK K m = false := by
            unfold firstK
            rw [List.all_eq_false]
            exact ⟨b, List.mem_range.2 hb, by simp [h]⟩
          rw [this]; rfl
        · simp [h]
      simp [this]
    · have hno : ∀ b, b < m → K b ≠ K a := fun b hb e => hx ⟨b, hb, e⟩
      obtain rfl : a = m := by
        rcases Nat.lt_or_ge a m with h | h
        · exact absurd rfl (hno a h)
        · omega
      have h1 : (List.range a).countP (fun j => firstK K j && decide (K j = K a)) = 0 := by
        rw [List.countP_eq_zero]
        intro j hj
        simp [hno j (List.mem_range.1 hj)]
      have h2 : firstK K a = true := by
        unfold firstK
        rw [List.all_eq_true]
        intro z hz
        simp [hno z (List.mem_range.1 hz)]
      rw [h1]; simp [h2]
theorem countP_two {p q r : Nat → Bool} : ∀ (l : List Nat), (∀ j ∈ l, p j = (q j || r j) ∧ (q j = true → r j = false)) → l.countP p = l.countP q + l.countP r
  | [], _ => rfl
  | x :: l, h => by
    have ih := countP_two (p := p) (q := q) (r := r) l (fun j hj => h j (List.mem_cons_of_mem _ hj))
    obtain ⟨h1, h2⟩ := h x (List.mem_cons_self (a := x) (l := l))
    rw [List.countP_cons, List.countP_cons, List.countP_cons, ih, h1]
    cases hq : q x with
    | true => rw [h2 hq]; simp; omega
    | false => cases r x <;> simp <;> omega
/-- How many steps up there are in order: how many unlike ones are less. -/
theorem ups_names (K : Nat → List Nat) (m : Nat) (e : List Nat) (hp : e.Perm (List.range m)) (hs : ∀ i j, i < j → j < e.length → lessB (K (e.getD j 0)) (K (e.getD i 0)) = false) :
    ∀ i, i < e.length → Ord.ups (fun a b => lessB (K a) (K b)) e i = (List.range m).countP (fun j => firstK K j && lessB (K j) (K (e.getD i 0))) := by
  have hall : ∀ a, a < m → ∃ i, i < e.length ∧ e.getD i 0 = a := by
    intro a ha
    obtain ⟨i, hi, rfl⟩ := List.getElem_of_mem (hp.mem_iff.2 (List.mem_range.2 ha))
    exact ⟨i, hi, by rw [List.getD_eq_getElem?_getD, List.getElem?_eq_getElem hi]; rfl⟩
  have hlt : ∀ i, i < e.length → e.getD i 0 < m := fun i hi => by
    rw [List.getD_eq_getElem?_getD, List.getElem?_eq_getElem hi]; exact List.mem_range.1 (hp.mem_iff.1 (List.getElem_mem hi))
  intro i
  induction i with
  | zero =>
    intro h0
    symm; rw [Ord.ups, List.countP_eq_zero]
    intro j hj
    obtain ⟨q, hq, rfl⟩ := hall j (List.mem_range.1 hj)
    rcases Nat.eq_zero_or_pos q with rfl | h
    · simp [lessB_irrefl]
    · rw [hs 0 q h hq, Bool.and_false]; exact Bool.noConfusion
  | succ i ih =>
    intro hi
    have ih' := ih (by omega)
    have hr := hs i (i + 1) (by omega) hi
    rw [Ord.ups, ih']
    cases hc : lessB (K (e.getD i 0)) (K (e.getD (i + 1) 0)) with
    | false =>
      have he := lessB_total _ _ hc hr
      rw [he]; simp
    | true =>
      rw [if_pos rfl]
      refine Eq.symm ((countP_two (q := fun j => firstK K j && lessB (K j) (K (e.getD i 0))) (r := fun j => firstK K j && decide (K j = K (e.getD i 0))) _ fun j hj => ?_).trans (by rw [first_one K m _ (hlt i (by omega))]))
      obtain ⟨q, hq, rfl⟩ := hall j (List.mem_range.1 hj)
      have key : lessB (K (e.getD q 0)) (K (e.getD (i + 1) 0)) = (lessB (K (e.getD q 0)) (K (e.getD i 0)) || decide (K (e.getD q 0) = K (e.getD i 0))) := by
        rcases Nat.lt_trichotomy q i with h | h | h
        · have hq' := hs q i h (by omega)
          cases h1 : lessB (K (e.getD q 0)) (K (e.getD i 0)) with
          | true => rw [lessB_trans _ _ _ h1 hc]; rfl
          | false => rw [lessB_total _ _ h1 hq', hc]; simp
        · subst h; rw [hc]; simp
        · have h1 := hs i q h hq
          have h2 : lessB (K (e.getD q 0)) (K (e.getD (i + 1) 0)) = false := by
            rcases Nat.lt_or_ge (i + 1) q with h3 | h3
            · exact hs (i + 1) q h3 hq
            · obtain rfl : q = i + 1 := by omega
              exact lessB_irrefl _
          have h4 : K (e.getD q 0) ≠ K (e.getD i 0) := fun h => by rw [h, hc] at h2; cases h2
          rw [h1, h2, decide_eq_false h4]; rfl
      refine ⟨by rw [key, Bool.and_or_distrib_left], fun h => ?_⟩
      simp only [Bool.and_eq_true] at h
      have : K (e.getD q 0) ≠ K (e.getD i 0) := fun h' => by rw [h', lessB_irrefl] at h; exact Bool.noConfusion h.2
      show (_ && decide _) = false
      rw [decide_eq_false this, Bool.and_false]

/-! ### Numbers from 1 on: 0 behind the end -/
def at0 (l : List Nat) (i : Nat) : Nat := l.getD i 0
theorem sl_at0 (l : List Nat) (h1 : ∀ x ∈ l, 1 ≤ x) (a b : Nat) : Ord.sl l a b = (decide (at0 l a < at0 l b) || (decide (at0 l a = at0 l b) && Ord.sl l (a + 1) (b + 1))) := by
  have hin : ∀ i (h : i < l.length), at0 l i = l[i] ∧ 1 ≤ at0 l i := fun i h => by
    have e : at0 l i = l[i] := by unfold at0; rw [List.getD_eq_getElem?_getD, List.getElem?_eq_getElem h]; rfl
    exact ⟨e, by rw [e]; exact h1 _ (List.getElem_mem h)⟩
  have hout : ∀ i, l.length ≤ i → at0 l i = 0 := fun i h => by unfold at0; rw [List.getD_eq_getElem?_getD, List.getElem?_eq_none h]; rfl
  by_cases ha : a < l.length
  · obtain ⟨ea, ga⟩ := hin a ha
    by_cases hb : b < l.length
    · rw [Ord.sl_step l a b ha hb, ea, (hin b hb).1]
    · rw [Ord.sl_no l a b (by omega), hout b (by omega), decide_eq_false (by omega), decide_eq_false (by omega)]; rfl
  · rw [hout a (by omega), Ord.sl_end l a b (by omega)]
    by_cases hb : b < l.length
    · have := (hin b hb).2
      rw [decide_eq_true hb, decide_eq_true (by omega : 0 < at0 l b)]; rfl
    · rw [hout b (by omega), Ord.sl_no l (a + 1) (b + 1) (by omega), decide_eq_false hb]; simp
def tri (l : List Nat) (i : Nat) : List Nat := [at0 l i, at0 l (i + 1), at0 l (i + 2)]
theorem sl_tri (l : List Nat) (h1 : ∀ x ∈ l, 1 ≤ x) (a b : Nat) : Ord.sl l a b = (lessB (tri l a) (tri l b) || (decide (tri l a = tri l b) && Ord.sl l (a + 3) (b + 3))) := by
  rw [sl_at0 l h1 a b, sl_at0 l h1 (a + 1) (b + 1), sl_at0 l h1 (a + 2) (b + 2)]
  simp only [tri, lessB, List.cons.injEq, and_true, Bool.decide_and]
  cases Ord.sl l (a + 2 + 1) (b + 2 + 1) <;> simp [Bool.or_assoc, Bool.and_or_distrib_left]
end Skew
end Go.Proofs.Ytgidjbpgkeemiaa
