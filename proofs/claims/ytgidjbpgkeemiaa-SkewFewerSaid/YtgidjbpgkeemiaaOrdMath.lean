/-
  Plain mathematics of the order of a list's ends: sorted permutations are one, doubling, the place behind. No program in sight.
-/
import Derived.Test.YtgidjbpgkeemiaaLoserMath
namespace Go.Proofs.Ytgidjbpgkeemiaa
open Num Loser
set_option linter.unusedVariables false
namespace Ord
/-! ### A list's ends -/
/-- The end at a is less than that at b. -/
def sl (l : List Nat) (a b : Nat) : Bool := lessB (l.drop a) (l.drop b)
theorem sl_irrefl (l : List Nat) (a : Nat) : sl l a a = false := lessB_irrefl _
theorem sl_asymm (l : List Nat) (a b : Nat) (h : sl l a b = true) : sl l b a = false := lessB_asymm _ _ h
theorem sl_trans (l : List Nat) (a b c : Nat) (h1 : sl l a b = true) (h2 : sl l b c = true) : sl l a c = true := lessB_trans _ _ _ h1 h2
theorem sl_total (l : List Nat) (a b : Nat) (ha : a < l.length) (hb : b < l.length) (h1 : sl l a b = false) (h2 : sl l b a = false) : a = b := by
  have h := congrArg List.length (lessB_total _ _ h1 h2)
  simp only [List.length_drop] at h; omega
/-- Step by step: first the number, then what is behind it. -/
theorem sl_step (l : List Nat) (a b : Nat) (ha : a < l.length) (hb : b < l.length) : sl l a b = (decide (l[a] < l[b]) || (decide (l[a] = l[b]) && sl l (a + 1) (b + 1))) := by
  unfold sl
  rw [List.drop_eq_getElem_cons ha, List.drop_eq_getElem_cons hb, lessB]
theorem sl_end (l : List Nat) (a b : Nat) (ha : l.length ≤ a) : sl l a b = decide (b < l.length) := by
  unfold sl
  rw [List.drop_eq_nil_of_le ha]
  by_cases hb : b < l.length
  · rw [List.drop_eq_getElem_cons hb]; simp [lessB, hb]
  · rw [List.drop_eq_nil_of_le (by omega)]; simp [lessB, hb]
theorem sl_no (l : List Nat) (a b : Nat) (hb : l.length ≤ b) : sl l a b = false := by
  unfold sl
  rw [List.drop_eq_nil_of_le hb]
  cases l.drop a <;> rfl

/-! ### Sorted: there is one -/
/-- Two lists of the same things, each in order by a strict order, are one. -/
theorem sorted_one (R : Nat → Nat → Prop) (hi : ∀ a, ¬R a a) (ht : ∀ a b c, R a b → R b c → R a c) : ∀ (x y : List Nat), x.Perm y → x.Pairwise R → y.Pairwise R → x = y := by
  intro x
  induction x with
  | nil => intro y h _ _; exact (List.nil_perm.1 h).symm
  | cons a x ih =>
    intro y h hx hy
    cases y with
    | nil => exact absurd h.symm (List.not_perm_nil_cons _ _)
    | cons b y =>
      obtain ⟨hx1, hx2⟩ := List.pairwise_cons.1 hx
      obtain ⟨hy1, hy2⟩ := List.pairwise_cons.1 hy
      have e : a = b := by
        rcases List.mem_cons.1 (h.mem_iff.1 (List.mem_cons_self (a := a) (l := x))) with e | e
        · exact e
        · rcases List.mem_cons.1 (h.mem_iff.2 (List.mem_cons_self (a := b) (l := y))) with e' | e'
          · exact e'.symm
          · exact absurd (ht _ _ _ (hx1 b e') (hy1 a e)) (hi a)
      subst e
      rw [ih y ((List.perm_cons a).1 h) hx2 hy2]
/-- Ends in order. -/
def SortedE (l e : List Nat) : Prop := e.Perm (List.range l.length) ∧ e.Pairwise (fun a b => sl l a b = true)
theorem sortedE_one {l e e' : List Nat} (h : SortedE l e) (h' : SortedE l e') : e = e' :=
  sorted_one (fun a b => sl l a b = true) (fun a h => by rw [sl_irrefl] at h; cases h) (fun a b c => sl_trans l a b c) _ _ (h.1.trans h'.1.symm) h.2 h'.2
theorem SortedE.len {l e : List Nat} (h : SortedE l e) : e.length = l.length := by rw [h.1.length_eq, List.length_range]
theorem SortedE.lt {l e : List Nat} (h : SortedE l e) {a : Nat} (ha : a ∈ e) : a < l.length := List.mem_range.1 (h.1.mem_iff.1 ha)

/-! ### The document's: each end is put where it belongs -/
/-- The place that is reached from at on downwards. -/
def insAt (l out : List Nat) (i : Nat) : Nat → Nat
  | 0 => 0
  | at' + 1 => if sl l i (out.getD at' 0) then insAt l out i at' else at' + 1
def insE (l out : List Nat) (i : Nat) : List Nat := out.take (insAt l out i out.length) ++ i :: out.drop (insAt l out i out.length)
def endsR (l : List Nat) : Nat → List Nat
  | 0 => []
  | i + 1 => insE l (endsR l i) i
theorem insAt_le (l out : List Nat) (i : Nat) : ∀ n, insAt l out i n ≤ n
  | 0 => Nat.le_refl _
  | n + 1 => by
    rw [insAt]; split
    · exact Nat.le_succ_of_le (insAt_le l out i n)
    · exact Nat.le_refl _
theorem insAt_hi (l out : List Nat) (i : Nat) : ∀ n k, insAt l out i n ≤ k → k < n → sl l i (out.getD k 0) = true
  | 0, k, _, h => absurd h (Nat.not_lt_zero _)
  | n + 1, k, h1, h2 => by
    rw [insAt] at h1; split at h1
    · rename_i hs
      rcases Nat.lt_or_ge k n with h | h
      · exact insAt_hi l out i n k h1 h
      · obtain rfl : k = n := by omega
        exact hs
    · omega
theorem insAt_lo (l out : List Nat) (i : Nat) : ∀ n, 0 < insAt l out i n → sl l i (out.getD (insAt l out i n - 1) 0) = false
  | 0, h => absurd h (Nat.not_lt_zero _)
  | n + 1, h => by
    rw [insAt] at h ⊢; split at h
    · rename_i hs; rw [if_pos hs]; exact insAt_lo l out i n h
    · rename_i hs; rw [if_neg hs]; simpa using hs
theorem endsR_perm (l : List Nat) : ∀ i, (endsR l i).Perm (List.range i)
  | 0 => List.Perm.refl _
  | i + 1 => by
    rw [endsR, insE, List.range_succ]
    refine List.perm_middle.trans ?_
    rw [List.take_append_drop]
    exact ((endsR_perm l i).cons i).trans (List.perm_append_singleton i _).symm
theorem endsR_sorted (l : List Nat) : ∀ i, i ≤ l.length → (endsR l i).Pairwise (fun a b => sl l a b = true)
  | 0, _ => List.Pairwise.nil
  | i + 1, hi => by
    have ih := endsR_sorted l i (by omega)
    have hp := endsR_perm l i
    have hmem : ∀ a ∈ endsR l i, a < i := fun a ha => List.mem_range.1 (hp.mem_iff.1 ha)
    rw [endsR, insE]
    generalize endsR l i = out at *
    have hat := insAt_le l out i out.length
    have hhi := insAt_hi l out i out.length
    have hlo := insAt_lo l out i out.length
    generalize insAt l out i out.length = k at *
    have e := List.take_append_drop k out
    have hpw : (out.take k ++ out.drop k).Pairwise (fun a b => sl l a b = true) := by rw [e]; exact ih
    obtain ⟨p1, p2, p3⟩ := List.pairwise_append.1 hpw
    have hlow : ∀ a ∈ out.take k, sl l a i = true := by
      intro a ha
      have hm : a ∈ out := List.mem_of_mem_take ha
      obtain ⟨j, hj, rfl⟩ := List.getElem_of_mem ha
      have hk : j < k ∧ j < out.length := by rw [List.length_take] at hj; omega
      have h0 := hlo (by omega)
      have hlast : sl l out[k - 1] i = true := by
        have hn : out[k - 1] ≠ i := fun h => by have := hmem out[k - 1] (List.getElem_mem _); omega
        rw [List.getD_eq_getElem?_getD, List.getElem?_eq_getElem (by omega), Option.getD_some] at h0
        cases hc : sl l out[k - 1] i with
        | true => rfl
        | false => exact absurd (sl_total l _ _ (by have := hmem out[k - 1] (List.getElem_mem _); omega) (by omega) hc h0) hn
      simp only [List.getElem_take]
      rcases Nat.lt_or_ge j (k - 1) with h | h
      · exact sl_trans l _ _ _ (List.pairwise_iff_getElem.1 ih j (k - 1) hk.2 (by omega) h) hlast
      · obtain rfl : j = k - 1 := by omega
        exact hlast
    have hhigh : ∀ a ∈ out.drop k, sl l i a = true := by
      intro a ha
      obtain ⟨j, hj, rfl⟩ := List.getElem_of_mem ha
      have hk : j + k < out.length := by simp at hj; omega
      have := hhi (k + j) (by omega) (by omega)
      rw [List.getD_eq_getElem?_getD, List.getElem?_eq_getElem (by omega), Option.getD_some] at this
      simpa only [List.getElem_drop] using this
    refine List.pairwise_append.2 ⟨p1, List.pairwise_cons.2 ⟨hhigh, p2⟩, fun a ha b hb => ?_⟩
    rcases List.mem_cons.1 hb with rfl | hb
    · exact hlow a ha
    · exact p3 a ha b hb
theorem endsR_ok (l : List Nat) : SortedE l (endsR l l.length) := ⟨endsR_perm l _, endsR_sorted l _ (Nat.le_refl _)⟩

/-! ### Right: each is less than the next one by its first number, or by the place of what is behind that -/
/-- The place of what is behind, and one; 0: nothing is behind. -/
def behind (n : Nat) (at_ : Nat → Nat) (a : Nat) : Nat := if a + 1 < n then at_ (a + 1) + 1 else 0
def stepR (l : List Nat) (at_ : Nat → Nat) (a b : Nat) : Prop := l.getD a 0 < l.getD b 0 ∨ l.getD a 0 = l.getD b 0 ∧ behind l.length at_ a < behind l.length at_ b
theorem stepR_trans (l : List Nat) (at_ : Nat → Nat) (a b c : Nat) (h1 : stepR l at_ a b) (h2 : stepR l at_ b c) : stepR l at_ a c := by
  unfold stepR at *; omega
theorem chain_lt {R : Nat → Nat → Prop} (ht : ∀ a b c, R a b → R b c → R a c) (e : List Nat) (h : ∀ k (hk : k + 1 < e.length), R (e[k]'(by omega)) e[k + 1]) : ∀ (i j : Nat) (hj : j < e.length) (hij : i < j), R (e[i]'(by omega)) e[j] := by
  intro i j
  induction j with
  | zero => intro _ h; omega
  | succ j ih =>
    intro hj hij
    rcases Nat.lt_or_ge i j with h' | h'
    · exact ht _ _ _ (ih (by omega) h') (h j hj)
    · obtain rfl : i = j := by omega
      exact h i hj
/-- All steps hold: the ends are in order. -/
theorem right_sorted (l e : List Nat) (at_ : Nat → Nat) (hp : e.Perm (List.range l.length)) (hat : ∀ k (hk : k < e.length), at_ e[k] = k) (h : ∀ k (hk : k + 1 < e.length), stepR l at_ (e[k]'(by omega)) e[k + 1]) : SortedE l e := by
  have hlen : e.length = l.length := by rw [hp.length_eq, List.length_range]
  have hch := chain_lt (stepR_trans l at_) e h
  have hlt : ∀ k (hk : k < e.length), e[k] < l.length := fun k hk => List.mem_range.1 (hp.mem_iff.1 (List.getElem_mem hk))
  have hall : ∀ a, a < l.length → at_ a < e.length ∧ e.getD (at_ a) 0 = a := by
    intro a ha
    obtain ⟨k, hk, rfl⟩ := List.getElem_of_mem (hp.mem_iff.2 (List.mem_range.2 ha))
    rw [hat k hk]; exact ⟨hk, by rw [List.getD_eq_getElem?_getD, List.getElem?_eq_getElem hk]; rfl⟩
  have key : ∀ m a b, a < l.length → b < l.length → l.length - a ≤ m → at_ a < at_ b → sl l a b = true := by
    intro m
    induction m with
    | zero => intro a b ha _ hm; omega
    | succ m ih =>
      intro a b ha hb hm hab
      obtain ⟨ha1, ha2⟩ := hall a ha
      obtain ⟨hb1, hb2⟩ := hall b hb
      have hs := hch (at_ a) (at_ b) hb1 hab
      rw [List.getD_eq_getElem?_getD, List.getElem?_eq_getElem ha1, Option.getD_some] at ha2
      rw [List.getD_eq_getElem?_getD, List.getElem?_eq_getElem hb1, Option.getD_some] at hb2
      rw [ha2, hb2] at hs
      rw [sl_step l a b ha hb]
      unfold stepR at hs
      rw [List.getD_eq_getElem?_getD, List.getElem?_eq_getElem ha, Option.getD_some, List.getD_eq_getElem?_getD, List.getElem?_eq_getElem hb, Option.getD_some] at hs
      rcases hs with hs | ⟨hs, hs2⟩
      · simp [hs]
      · have : sl l (a + 1) (b + 1) = true := by
          unfold behind at hs2
          by_cases h1 : a + 1 < l.length
          · rw [if_pos h1] at hs2
            by_cases h2 : b + 1 < l.length
            · rw [if_pos h2] at hs2
              exact ih (a + 1) (b + 1) h1 h2 (by omega) (by omega)
            · rw [if_neg h2] at hs2; omega
          · rw [if_neg h1] at hs2
            rw [sl_end l _ _ (by omega)]
            by_cases h2 : b + 1 < l.length
            · simpa using h2
            · rw [if_neg h2] at hs2; omega
        simp [hs, this]
  refine ⟨hp, List.pairwise_iff_getElem.2 fun i j hi hj hij => ?_⟩
  exact key _ _ _ (hlt i hi) (hlt j hj) (Nat.le_refl _) (by rw [hat i hi, hat j hj]; exact hij)
/-- In order: all steps hold. -/
theorem sorted_right (l e : List Nat) (at_ : Nat → Nat) (hs : SortedE l e) (hat : ∀ k (hk : k < e.length), at_ e[k] = k) (k : Nat) (hk : k + 1 < e.length) : stepR l at_ (e[k]'(by omega)) e[k + 1] := by
  have hlt : ∀ k (hk : k < e.length), e[k] < l.length := fun k hk => hs.lt (List.getElem_mem hk)
  have hall : ∀ a, a < l.length → ∃ k, ∃ hk : k < e.length, e[k] = a ∧ at_ a = k := by
    intro a ha
    obtain ⟨k, hk, rfl⟩ := List.getElem_of_mem (hs.1.mem_iff.2 (List.mem_range.2 ha))
    exact ⟨k, hk, rfl, hat k hk⟩
  have hsl := List.pairwise_iff_getElem.1 hs.2 k (k + 1) (by omega) hk (by omega)
  have ha := hlt k (by omega)
  have hb := hlt (k + 1) hk
  generalize e[k] = a at *
  generalize e[k + 1] = b at *
  rw [sl_step l a b ha hb] at hsl
  unfold stepR
  rw [List.getD_eq_getElem?_getD, List.getElem?_eq_getElem ha, Option.getD_some, List.getD_eq_getElem?_getD, List.getElem?_eq_getElem hb, Option.getD_some]
  simp only [Bool.or_eq_true, decide_eq_true_eq, Bool.and_eq_true] at hsl
  rcases hsl with h | ⟨h, h2⟩
  · exact .inl h
  · refine .inr ⟨h, ?_⟩
    unfold behind
    by_cases h1 : b + 1 < l.length
    · rw [if_pos h1]
      by_cases h3 : a + 1 < l.length
      · rw [if_pos h3]
        obtain ⟨i, hi, ei, e1⟩ := hall (a + 1) h3
        obtain ⟨j, hj, ej, e2⟩ := hall (b + 1) h1
        rw [e1, e2]
        rcases Nat.lt_trichotomy i j with h4 | h4 | h4
        · omega
        · subst h4; rw [← ei, ← ej, sl_irrefl] at h2; cases h2
        · have := sl_asymm l _ _ (List.pairwise_iff_getElem.1 hs.2 j i hj hi h4)
          rw [ei, ej] at this; rw [this] at h2; cases h2
      · rw [if_neg h3]; omega
    · rw [sl_no l _ _ (by omega)] at h2; cases h2

/-! ### Doubling -/
/-- By the first k numbers. -/
def pl (l : List Nat) (k a b : Nat) : Bool := lessB ((l.drop a).take k) ((l.drop b).take k)
theorem lessB_append : ∀ (x y u v : List Nat), (x.length < y.length → u = []) → (y.length < x.length → v = []) → lessB (x ++ u) (y ++ v) = (lessB x y || (decide (x = y) && lessB u v))
  | [], [], u, v, _, _ => by simp [lessB]
  | [], y :: ys, u, v, h, _ => by rw [h (by simp)]; simp [lessB]
  | x :: xs, [], u, v, _, h => by rw [h (by simp)]; simp [lessB]
  | x :: xs, y :: ys, u, v, h1, h2 => by
    have ih := lessB_append xs ys u v (fun h => h1 (by simpa using h)) (fun h => h2 (by simpa using h))
    simp only [List.cons_append, lessB, ih, List.cons.injEq, Bool.decide_and]
    by_cases h : x = y <;> by_cases h' : x < y <;> simp [h, h'] <;> omega
def RK (l : List Nat) (k : Nat) (r : Nat → Nat) : Prop := ∀ a b, a < l.length → b < l.length → (r a < r b ↔ pl l k a b = true)
def beh (n : Nat) (r : Nat → Nat) (k a : Nat) : Nat := if a + k < n then r (a + k) + 1 else 0
theorem RK.eq {l : List Nat} {k : Nat} {r : Nat → Nat} (h : RK l k r) {a b : Nat} (ha : a < l.length) (hb : b < l.length) : r a = r b ↔ (l.drop a).take k = (l.drop b).take k := by
  have h1 := h a b ha hb
  have h2 := h b a hb ha
  unfold pl at h1 h2
  constructor
  · intro e
    refine lessB_total _ _ ?_ ?_
    · cases hc : lessB ((l.drop a).take k) ((l.drop b).take k) with
      | false => rfl
      | true => have := h1.2 hc; omega
    · cases hc : lessB ((l.drop b).take k) ((l.drop a).take k) with
      | false => rfl
      | true => have := h2.2 hc; omega
  · intro e
    rw [e, lessB_irrefl] at h1
    rw [e, lessB_irrefl] at h2
    have h3 : ¬ r a < r b := fun h => Bool.noConfusion (h1.1 h)
    have h4 : ¬ r b < r a := fun h => Bool.noConfusion (h2.1 h)
    omega
theorem pl_double (l : List Nat) (k : Nat) (hk : 0 < k) (r : Nat → Nat) (h : RK l k r) (a b : Nat) (ha : a < l.length) (hb : b < l.length) :
    pl l (k + k) a b = true ↔ r a < r b ∨ r a = r b ∧ beh l.length r k a < beh l.length r k b := by
  have e : ∀ c, (l.drop c).take (k + k) = (l.drop c).take k ++ (l.drop (c + k)).take k := fun c => by rw [List.take_add, List.drop_drop]
  have hu : ∀ c d, ((l.drop c).take k).length < ((l.drop d).take k).length → (l.drop (c + k)).take k = [] := fun c d hlt => by
    rw [List.drop_eq_nil_of_le (by simp only [List.length_take, List.length_drop] at hlt; omega), List.take_nil]
  have hpl : pl l (k + k) a b = (pl l k a b || (decide ((l.drop a).take k = (l.drop b).take k) && pl l k (a + k) (b + k))) := by
    unfold pl; rw [e, e, lessB_append _ _ _ _ (hu a b) (hu b a)]
  rw [hpl]
  simp only [Bool.or_eq_true, Bool.and_eq_true, decide_eq_true_eq]
  rw [← h a b ha hb, ← h.eq ha hb]
  have hbeh : pl l k (a + k) (b + k) = true ↔ beh l.length r k a < beh l.length r k b := by
    unfold beh
    by_cases h2 : b + k < l.length
    · rw [if_pos h2]
      by_cases h1 : a + k < l.length
      · rw [if_pos h1, ← h _ _ h1 h2]; omega
      · rw [if_neg h1]
        unfold pl
        obtain ⟨k', rfl⟩ : ∃ k', k = k' + 1 := ⟨k - 1, by omega⟩
        rw [List.drop_eq_nil_of_le (by omega), List.take_nil, List.drop_eq_getElem_cons h2, List.take_succ_cons]
        simp [lessB]
    · rw [if_neg h2]
      unfold pl
      rw [(show l.drop (b + k) = [] from List.drop_eq_nil_of_le (by omega)), List.take_nil]
      constructor
      · intro h'; cases hc : ((l.drop (a + k)).take k) <;> rw [hc] at h' <;> cases h'
      · intro h'; omega
  rw [hbeh]
/-- Beyond the list's end: the order of ends. -/
theorem pl_all (l : List Nat) (k a b : Nat) (hk : l.length ≤ k) : pl l k a b = sl l a b := by
  unfold pl sl
  rw [List.take_of_length_le (by simp; omega), List.take_of_length_le (by simp; omega)]

/-! ### The ranks that a sorted list gives -/
/-- How many steps up there are among the first i steps. -/
def ups (R : Nat → Nat → Bool) (e : List Nat) : Nat → Nat
  | 0 => 0
  | i + 1 => ups R e i + (if R (e.getD i 0) (e.getD (i + 1) 0) then 1 else 0)
theorem ups_mono (R : Nat → Nat → Bool) (e : List Nat) (i : Nat) : ∀ j, i ≤ j → ups R e i ≤ ups R e j
  | 0, h => by obtain rfl : i = 0 := by omega
               exact Nat.le_refl _
  | j + 1, h => by
    rcases Nat.lt_or_ge i (j + 1) with h' | h'
    · exact Nat.le_trans (ups_mono R e i j (by omega)) (Nat.le_add_right _ _)
    · obtain rfl : i = j + 1 := by omega
      exact Nat.le_refl _
/-- R: a weak order; e: in order by it. -/
theorem ups_lt (R : Nat → Nat → Bool) (hi : ∀ a, R a a = false) (ht : ∀ a b c, R a b = true → R b c = true → R a c = true) (hn : ∀ a b c, R a b = false → R b c = false → R a c = false)
    (e : List Nat) (hs : ∀ i j, i < j → j < e.length → R (e.getD j 0) (e.getD i 0) = false) : ∀ i j, i ≤ j → j < e.length → (ups R e i < ups R e j ↔ R (e.getD i 0) (e.getD j 0) = true) := by
  intro i j
  induction j with
  | zero =>
    intro h _; obtain rfl : i = 0 := by omega
    rw [hi]; simp
  | succ j ih =>
    intro h hj
    rcases Nat.lt_or_ge i (j + 1) with h' | h'
    · have ih' := ih (by omega) (by omega)
      have hm := ups_mono R e i j (by omega)
      have s1 : R (e.getD j 0) (e.getD i 0) = false := by
        rcases Nat.lt_or_ge i j with h2 | h2
        · exact hs i j h2 (by omega)
        · obtain rfl : i = j := by omega
          exact hi _
      have s2 := hs j (j + 1) (by omega) hj
      rw [ups]
      cases hc : R (e.getD j 0) (e.getD (j + 1) 0) with
      | true =>
        refine ⟨fun _ => ?_, fun _ => by simp; omega⟩
        cases hd : R (e.getD i 0) (e.getD (j + 1) 0) with
        | true => rfl
        | false => rw [hn _ _ _ s1 hd] at hc; cases hc
      | false =>
        simp only [Bool.false_eq_true, if_false, Nat.add_zero]
        rw [ih']
        constructor
        · intro hx
          cases hd : R (e.getD i 0) (e.getD (j + 1) 0) with
          | true => rfl
          | false => rw [hn _ _ _ hd s2] at hx; cases hx
        · intro hx
          cases hd : R (e.getD i 0) (e.getD j 0) with
          | true => rfl
          | false => rw [hn _ _ _ hd hc] at hx; cases hx
    · obtain rfl : i = j + 1 := by omega
      rw [hi]; simp

theorem lessB_neg (a b c : List Nat) (h1 : lessB a b = false) (h2 : lessB b c = false) : lessB a c = false := by
  cases h : lessB a c with
  | false => rfl
  | true =>
    cases h3 : lessB b a with
    | true => rw [lessB_trans _ _ _ h3 h] at h2; cases h2
    | false => rw [← lessB_total _ _ h1 h3, h] at h2; cases h2
theorem rk_new (l : List Nat) (k : Nat) (e : List Nat) (hp : e.Perm (List.range l.length)) (hs : ∀ i j, i < j → j < e.length → pl l k (e.getD j 0) (e.getD i 0) = false) (r : Nat → Nat)
    (hr : ∀ i, i < e.length → r (e.getD i 0) = ups (pl l k) e i) : RK l k r := by
  have hall : ∀ a, a < l.length → ∃ i, i < e.length ∧ e.getD i 0 = a := by
    intro a ha
    obtain ⟨i, hi, rfl⟩ := List.getElem_of_mem (hp.mem_iff.2 (List.mem_range.2 ha))
    exact ⟨i, hi, by rw [List.getD_eq_getElem?_getD, List.getElem?_eq_getElem hi]; rfl⟩
  have hlt := ups_lt (pl l k) (fun _ => lessB_irrefl _) (fun _ _ _ => lessB_trans _ _ _) (fun _ _ _ => lessB_neg _ _ _) e hs
  intro a b ha hb
  obtain ⟨i, hi, rfl⟩ := hall a ha
  obtain ⟨j, hj, rfl⟩ := hall b hb
  rw [hr i hi, hr j hj]
  rcases Nat.lt_or_ge j i with h | h
  · rw [hs j i h hi]
    have := ups_mono (pl l k) e j i (by omega)
    constructor
    · intro h'; omega
    · intro h'; cases h'
  · exact hlt i j h hj
theorem pl_sorted (l : List Nat) (k : Nat) (hk : l.length ≤ k) (e : List Nat) (hp : e.Perm (List.range l.length)) (hs : ∀ i j, i < j → j < e.length → pl l k (e.getD j 0) (e.getD i 0) = false) : SortedE l e := by
  refine ⟨hp, List.pairwise_iff_getElem.2 fun i j hi hj hij => ?_⟩
  have h := hs i j hij hj
  rw [pl_all l k _ _ hk, List.getD_eq_getElem?_getD, List.getElem?_eq_getElem hj, List.getD_eq_getElem?_getD, List.getElem?_eq_getElem hi, Option.getD_some, Option.getD_some] at h
  have hlt : ∀ k (hk : k < e.length), e[k] < l.length := fun k hk => List.mem_range.1 (hp.mem_iff.1 (List.getElem_mem hk))
  cases hc : sl l e[i] e[j] with
  | true => rfl
  | false =>
    have he := sl_total l _ _ (hlt j hj) (hlt i hi) h hc
    have hnd : e.Nodup := hp.nodup_iff.2 List.nodup_range
    exact absurd he.symm (List.pairwise_iff_getElem.1 hnd i j hi hj hij)
/-- Ranks by the number itself are ranks by the first one. -/
theorem rk_one (l : List Nat) (r : Nat → Nat) (h : ∀ a b (ha : a < l.length) (hb : b < l.length), r a < r b ↔ l[a] < l[b]) : RK l 1 r := by
  intro a b ha hb
  rw [h a b ha hb]
  unfold pl
  rw [List.drop_eq_getElem_cons ha, List.drop_eq_getElem_cons hb]
  show _ ↔ lessB [l[a]] [l[b]] = true
  simp [lessB]

/-! ### What two ends have in common -/
def lcp : List Nat → List Nat → Nat
  | x :: a, y :: b => if x = y then lcp a b + 1 else 0
  | _, _ => 0
theorem lcp_mono : ∀ a b c : List Nat, lessB a b = true → lessB b c = true ∨ b = c → lcp c a ≤ lcp c b
  | [], _, [], _, _ => Nat.zero_le _
  | [], _, _ :: _, _, _ => Nat.zero_le _
  | x :: a, [], _, h, _ => by cases h
  | x :: a, y :: b, [], _, h => by rcases h with h | h <;> cases h
  | x :: a, y :: b, z :: c, h1, h2 => by
    simp only [lessB, Bool.or_eq_true, decide_eq_true_eq, Bool.and_eq_true] at h1 h2
    simp only [lcp]
    by_cases hx : z = x
    · subst hx
      rw [if_pos rfl]
      rcases h1 with h1 | ⟨h1, h1'⟩
      · rcases h2 with (h2 | ⟨h2, _⟩) | h2
        · omega
        · omega
        · injection h2 with h2 _; omega
      · subst h1
        rw [if_pos rfl]
        refine Nat.succ_le_succ (lcp_mono a b c h1' ?_)
        rcases h2 with (h2 | ⟨_, h2⟩) | h2
        · omega
        · exact .inl h2
        · injection h2 with _ h2; exact .inr h2
    · rw [if_neg hx]; exact Nat.zero_le _
/-- What an end has in common with the one ahead of it: of the next end it is at most one less. -/
theorem kasai (l e : List Nat) (at_ : Nat → Nat) (hs : SortedE l e) (hat : ∀ k (hk : k < e.length), at_ e[k] = k) (i : Nat) (hi : i + 1 < l.length) (h0 : at_ i ≠ 0) (h1 : at_ (i + 1) ≠ 0) :
    lcp (l.drop i) (l.drop (e.getD (at_ i - 1) 0)) - 1 ≤ lcp (l.drop (i + 1)) (l.drop (e.getD (at_ (i + 1) - 1) 0)) := by
  have hall : ∀ a, a < l.length → ∃ k, ∃ hk : k < e.length, e[k] = a ∧ at_ a = k := by
    intro a ha
    obtain ⟨k, hk, rfl⟩ := List.getElem_of_mem (hs.1.mem_iff.2 (List.mem_range.2 ha))
    exact ⟨k, hk, rfl, hat k hk⟩
  have hlt : ∀ k (hk : k < e.length), e[k] < l.length := fun k hk => hs.lt (List.getElem_mem hk)
  obtain ⟨p, hp, ep, e1⟩ := hall i (by omega)
  obtain ⟨q, hq, eq, e2⟩ := hall (i + 1) hi
  rw [e1] at h0 ⊢
  rw [e2] at h1 ⊢
  rw [List.getD_eq_getElem?_getD, List.getElem?_eq_getElem (by omega : p - 1 < e.length), List.getD_eq_getElem?_getD, List.getElem?_eq_getElem (by omega : q - 1 < e.length), Option.getD_some, Option.getD_some]
  have hj := hlt (p - 1) (by omega)
  have hji := List.pairwise_iff_getElem.1 hs.2 (p - 1) p (by omega) hp (by omega)
  rw [ep] at hji
  have hqi := List.pairwise_iff_getElem.1 hs.2 (q - 1) q (by omega) hq (by omega)
  rw [eq] at hqi
  generalize hej : e[p - 1] = j at *
  rw [List.drop_eq_getElem_cons (by omega : i < l.length), List.drop_eq_getElem_cons hj, lcp]
  by_cases hx : l[i] = l[j]
  · rw [if_pos hx, Nat.add_sub_cancel]
    rw [sl_step l j i hj (by omega)] at hji
    simp only [hx, Nat.lt_irrefl, decide_false, decide_true, Bool.true_and, Bool.false_or] at hji
    by_cases hj1 : j + 1 < l.length
    · obtain ⟨m, hm, em, e3⟩ := hall (j + 1) hj1
      have hmq : m < q := by
        rcases Nat.lt_trichotomy m q with h | h | h
        · exact h
        · subst h; rw [← em, ← eq, sl_irrefl] at hji; cases hji
        · have := sl_asymm l _ _ (List.pairwise_iff_getElem.1 hs.2 q m hq hm h)
          rw [em, eq] at this; rw [this] at hji; cases hji
      rcases Nat.lt_or_ge m (q - 1) with h | h
      · have h3 := List.pairwise_iff_getElem.1 hs.2 m (q - 1) hm (by omega) h
        rw [em] at h3
        exact lcp_mono _ _ _ h3 (.inl hqi)
      · obtain rfl : m = q - 1 := by omega
        rw [em]; exact Nat.le_refl _
    · rw [List.drop_eq_nil_of_le (by omega : l.length ≤ j + 1)]
      have : ∀ c : List Nat, lcp c [] = 0 := fun c => by cases c <;> rfl
      rw [this]; exact Nat.zero_le _
  · rw [if_neg hx]; exact Nat.zero_le _
end Ord
end Go.Proofs.Ytgidjbpgkeemiaa
