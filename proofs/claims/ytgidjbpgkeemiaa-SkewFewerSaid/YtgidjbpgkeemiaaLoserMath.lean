/-
  Plain mathematics of a tree of losers: who beats whom, who wins at a node, what another key of the winner changes. No program in sight.
-/
import Derived.Test.YtgidjbpgkeemiaaNumMath
namespace Go.Proofs.Ytgidjbpgkeemiaa
set_option linter.unusedVariables false
namespace Loser
open Num
/-- A key is less than another one; the empty one is the last. -/
def kLess (x y : List Nat) : Bool := match x, y with
  | [], _ => false
  | _ :: _, [] => true
  | x, y => lessB x y
theorem lessB_trans (a b c : List Nat) (h1 : lessB a b = true) (h2 : lessB b c = true) : lessB a c = true := by
  induction a generalizing b c with
  | nil => cases b with
    | nil => simp [lessB] at h1
    | cons y b => cases c with
      | nil => simp [lessB] at h2
      | cons z c => rfl
  | cons x a ih =>
    cases b with
    | nil => simp [lessB] at h1
    | cons y b =>
      cases c with
      | nil => simp [lessB] at h2
      | cons z c =>
        simp only [lessB, Bool.or_eq_true, decide_eq_true_eq, Bool.and_eq_true] at h1 h2 ⊢
        rcases h1 with h1 | ⟨h1, h1'⟩ <;> rcases h2 with h2 | ⟨h2, h2'⟩
        · left; omega
        · left; omega
        · left; omega
        · right; exact ⟨by omega, ih b c h1' h2'⟩
theorem kLess_irrefl (x : List Nat) : kLess x x = false := by cases x with
  | nil => rfl
  | cons a x => exact lessB_irrefl _
theorem kLess_trans (x y z : List Nat) (h1 : kLess x y = true) (h2 : kLess y z = true) : kLess x z = true := by
  cases x with
  | nil => simp [kLess] at h1
  | cons a x => cases y with
    | nil => simp [kLess] at h2
    | cons b y => cases z with
      | nil => rfl
      | cons c z => exact lessB_trans _ _ _ h1 h2
theorem kLess_total (x y : List Nat) (h1 : kLess x y = false) (h2 : kLess y x = false) : x = y := by
  cases x with
  | nil => cases y with
    | nil => rfl
    | cons b y => simp [kLess] at h2
  | cons a x => cases y with
    | nil => simp [kLess] at h1
    | cons b y => exact lessB_total _ _ h1 h2
def key (ks : List (List Nat)) (a : Nat) : List Nat := ks.getD a []
/-- A leaf beats another one. -/
def beatsP (ks : List (List Nat)) (a b : Nat) : Bool := kLess (key ks a) (key ks b) || (decide (key ks a = key ks b) && decide (a < b))
theorem beats_irrefl (ks : List (List Nat)) (a : Nat) : beatsP ks a a = false := by simp [beatsP, kLess_irrefl]
theorem beats_trans (ks : List (List Nat)) (a b c : Nat) (h1 : beatsP ks a b = true) (h2 : beatsP ks b c = true) : beatsP ks a c = true := by
  simp only [beatsP, Bool.or_eq_true, Bool.and_eq_true, decide_eq_true_eq] at h1 h2 ⊢
  rcases h1 with h1 | ⟨h1, h1'⟩ <;> rcases h2 with h2 | ⟨h2, h2'⟩
  · exact .inl (kLess_trans _ _ _ h1 h2)
  · left; rw [← h2]; exact h1
  · left; rw [h1]; exact h2
  · right; exact ⟨h1.trans h2, by omega⟩
theorem beats_asymm (ks : List (List Nat)) (a b : Nat) (h1 : beatsP ks a b = true) : beatsP ks b a = false := by
  cases h : beatsP ks b a with
  | false => rfl
  | true => have := beats_trans ks a b a h1 h; rw [beats_irrefl] at this; cases this
theorem beats_total (ks : List (List Nat)) (a b : Nat) (hne : a ≠ b) : beatsP ks a b = true ∨ beatsP ks b a = true := by
  simp only [beatsP, Bool.or_eq_true, Bool.and_eq_true, decide_eq_true_eq]
  cases h1 : kLess (key ks a) (key ks b) with
  | true => simp
  | false =>
    cases h2 : kLess (key ks b) (key ks a) with
    | true => simp
    | false =>
      have := kLess_total _ _ h1 h2
      rw [this]; simp; omega
theorem beats_not (ks : List (List Nat)) (a b : Nat) (hne : a ≠ b) : beatsP ks a b = !beatsP ks b a := by
  rcases beats_total ks a b hne with h | h
  · rw [h, beats_asymm ks a b h]; rfl
  · rw [h, beats_asymm ks b a h]; rfl
/-- Who wins at a node; 'f': how deep to look. -/
def winF (ks : List (List Nat)) : Nat → Nat → Nat
  | 0, n => n - ks.length
  | f + 1, n => if ks.length ≤ n then n - ks.length else
    if beatsP ks (winF ks f (2 * n + 1)) (winF ks f (2 * n)) then winF ks f (2 * n + 1) else winF ks f (2 * n)
theorem winF_more (ks : List (List Nat)) (f g n : Nat) (hn : 1 ≤ n) (hf : ks.length ≤ f + n) (hg : ks.length ≤ g + n) : winF ks f n = winF ks g n := by
  induction f generalizing g n with
  | zero => cases g with
    | zero => rfl
    | succ g => rw [winF, winF, if_pos (by omega)]
  | succ f ih => cases g with
    | zero => rw [winF, winF, if_pos (by omega)]
    | succ g =>
      rw [winF, winF]
      split
      · rfl
      · rw [ih g (2 * n) (by omega) (by omega) (by omega), ih g (2 * n + 1) (by omega) (by omega) (by omega)]
def win (ks : List (List Nat)) (n : Nat) : Nat := winF ks ks.length n
def los (ks : List (List Nat)) (n : Nat) : Nat := if beatsP ks (win ks (2 * n + 1)) (win ks (2 * n)) then win ks (2 * n) else win ks (2 * n + 1)
theorem win_leaf (ks : List (List Nat)) (n : Nat) (h : ks.length ≤ n) : win ks n = n - ks.length := by
  have : ∀ f, winF ks f n = n - ks.length := fun f => by
    cases f with
    | zero => rfl
    | succ f => rw [winF, if_pos h]
  exact this _
theorem win_node (ks : List (List Nat)) (n : Nat) (hn : 1 ≤ n) (h : n < ks.length) : win ks n = if beatsP ks (win ks (2 * n + 1)) (win ks (2 * n)) then win ks (2 * n + 1) else win ks (2 * n) := by
  unfold win
  obtain ⟨f, hf⟩ : ∃ f, ks.length = f + 1 := ⟨ks.length - 1, by omega⟩
  conv => lhs; rw [hf, winF]
  rw [if_neg (by omega), winF_more ks f ks.length (2 * n) (by omega) (by omega) (by omega), winF_more ks f ks.length (2 * n + 1) (by omega) (by omega) (by omega)]
/-- Leaf i is under node n, in a tree of k leaves. -/
def under (k n i : Nat) : Prop := ∃ j, (k + i) / 2 ^ j = n
theorem div_pow_succ (x j : Nat) : x / 2 ^ (j + 1) = x / 2 ^ j / 2 := by rw [Nat.pow_succ, Nat.div_div_eq_div_mul]
theorem under_leaf {k n i : Nat} (hi : i < k) (hn : k ≤ n) : under k n i ↔ n = k + i := by
  constructor
  · rintro ⟨j, h⟩
    cases j with
    | zero => simpa using h.symm
    | succ j =>
      have h1 : (k + i) / 2 ^ (j + 1) ≤ (k + i) / 2 := by
        rw [Nat.pow_succ, Nat.mul_comm, ← Nat.div_div_eq_div_mul]; exact Nat.div_le_self _ _
      omega
  · rintro rfl; exact ⟨0, by simp⟩
theorem under_node {k n i : Nat} (hn : n < k) : under k n i ↔ under k (2 * n) i ∨ under k (2 * n + 1) i := by
  constructor
  · rintro ⟨j, h⟩
    cases j with
    | zero => simp at h; omega
    | succ j =>
      rw [div_pow_succ] at h
      have : (k + i) / 2 ^ j = 2 * n ∨ (k + i) / 2 ^ j = 2 * n + 1 := by omega
      rcases this with h | h
      · exact .inl ⟨j, h⟩
      · exact .inr ⟨j, h⟩
  · rintro (⟨j, h⟩ | ⟨j, h⟩) <;> exact ⟨j + 1, by rw [div_pow_succ, h]; omega⟩
theorem under_order {k a b i : Nat} (ha : under k a i) (hb : under k b i) (h : b < a) : b ≤ a / 2 := by
  obtain ⟨j, rfl⟩ := ha
  obtain ⟨j', rfl⟩ := hb
  have hlt : j < j' := by
    rcases Nat.lt_or_ge j j' with h' | h'
    · exact h'
    · exfalso
      have := Nat.div_le_div_left (Nat.pow_le_pow_right (by decide) h' : 2 ^ j' ≤ 2 ^ j) (Nat.pow_pos (by decide : 0 < 2)) (a := k + i)
      omega
  obtain ⟨d, rfl⟩ : ∃ d, j' = j + 1 + d := ⟨j' - j - 1, by omega⟩
  rw [Nat.pow_add, ← Nat.div_div_eq_div_mul, div_pow_succ]
  exact Nat.div_le_self _ _
theorem under_apart {k n i : Nat} (hn : 1 ≤ n) (h1 : under k (2 * n) i) (h2 : under k (2 * n + 1) i) : False := by
  have := under_order h2 h1 (by omega); omega
theorem under_top {k i : Nat} (hi : i < k) : under k 1 i := by
  have : ∀ x, 1 ≤ x → ∃ j, x / 2 ^ j = 1 := by
    intro x
    induction x using Nat.strongRecOn with
    | _ x ih =>
      intro hx
      by_cases h : x = 1
      · exact ⟨0, by simpa using h⟩
      · obtain ⟨j, hj⟩ := ih (x / 2) (by omega) (by omega)
        exact ⟨j + 1, by rw [Nat.pow_succ, Nat.mul_comm, ← Nat.div_div_eq_div_mul]; exact hj⟩
  exact this (k + i) (by omega)
/-- The winner at a node is a leaf under it that beats each other one. -/
theorem win_spec (ks : List (List Nat)) : ∀ (d n : Nat), 2 * ks.length ≤ d + n → 1 ≤ n → n < 2 * ks.length → win ks n < ks.length ∧ under ks.length n (win ks n) ∧ ∀ i, i < ks.length → under ks.length n i → i ≠ win ks n → beatsP ks (win ks n) i = true := by
  intro d
  induction d with
  | zero => intro n h _ h2; omega
  | succ d ih =>
    intro n hd hn h2
    by_cases hk : ks.length ≤ n
    · rw [win_leaf ks n hk]
      refine ⟨by omega, (under_leaf (by omega) hk).2 (by omega), fun i hi hu hne => ?_⟩
      have := (under_leaf hi hk).1 hu; omega
    · have hk' : n < ks.length := by omega
      obtain ⟨a1, a2, a3⟩ := ih (2 * n) (by omega) (by omega) (by omega)
      obtain ⟨b1, b2, b3⟩ := ih (2 * n + 1) (by omega) (by omega) (by omega)
      have hab : win ks (2 * n + 1) ≠ win ks (2 * n) := fun e => under_apart hn a2 (e ▸ b2)
      rw [win_node ks n hn hk']
      split
      · rename_i hb
        refine ⟨b1, (under_node hk').2 (.inr b2), fun i hi hu hne => ?_⟩
        rcases (under_node hk').1 hu with hu | hu
        · by_cases e : i = win ks (2 * n)
          · subst e; exact hb
          · exact beats_trans _ _ _ _ hb (a3 i hi hu e)
        · exact b3 i hi hu hne
      · rename_i hb
        have hb' : beatsP ks (win ks (2 * n)) (win ks (2 * n + 1)) = true := by rw [beats_not ks _ _ (Ne.symm hab)]; simpa using hb
        refine ⟨a1, (under_node hk').2 (.inl a2), fun i hi hu hne => ?_⟩
        rcases (under_node hk').1 hu with hu | hu
        · exact a3 i hi hu hne
        · by_cases e : i = win ks (2 * n + 1)
          · subst e; exact hb'
          · exact beats_trans _ _ _ _ hb' (b3 i hi hu e)
theorem win_lt {ks : List (List Nat)} {n : Nat} (hn : 1 ≤ n) (h : n < 2 * ks.length) : win ks n < ks.length := (win_spec ks (2 * ks.length) n (by omega) hn h).1
theorem win_under {ks : List (List Nat)} {n : Nat} (hn : 1 ≤ n) (h : n < 2 * ks.length) : under ks.length n (win ks n) := (win_spec ks (2 * ks.length) n (by omega) hn h).2.1
theorem win_beats {ks : List (List Nat)} {n i : Nat} (hn : 1 ≤ n) (h : n < 2 * ks.length) (hi : i < ks.length) (hu : under ks.length n i) (hne : i ≠ win ks n) : beatsP ks (win ks n) i = true := (win_spec ks (2 * ks.length) n (by omega) hn h).2.2 i hi hu hne
theorem win_ne {ks : List (List Nat)} {n : Nat} (hn : 1 ≤ n) (h : n < ks.length) : win ks (2 * n + 1) ≠ win ks (2 * n) := fun e => under_apart hn (win_under (by omega) (by omega)) (e ▸ win_under (n := 2 * n + 1) (by omega) (by omega))
/-- It is the only such leaf. -/
theorem win_only {ks : List (List Nat)} {n w : Nat} (hn : 1 ≤ n) (h : n < 2 * ks.length) (hw : w < ks.length) (hu : under ks.length n w) (hb : ∀ i, i < ks.length → under ks.length n i → i ≠ w → beatsP ks w i = true) : win ks n = w := by
  by_cases e : w = win ks n
  · exact e.symm
  · have h1 := win_beats hn h hw hu e
    have h2 := hb (win ks n) (win_lt hn h) (win_under hn h) (Ne.symm e)
    rw [beats_asymm _ _ _ h1] at h2; cases h2
/-- The tree of keys: the winner, and each node's loser. -/
def treeOf (ks : List (List Nat)) : List Int := (List.range ks.length).map fun n => if n = 0 then (win ks 1 : Int) else (los ks n : Int)
theorem treeOf_length (ks : List (List Nat)) : (treeOf ks).length = ks.length := by simp [treeOf]
end Loser
end Go.Proofs.Ytgidjbpgkeemiaa
