/-
  Plain mathematics of a tree of losers, the second part: what another key of the winner changes; a tree that is made node by node. No program in sight.
-/
import Derived.Test.YtddabbfjoejalaaLoserMath
namespace Go.Proofs.Ytddabbfjoejalaa
set_option linter.unusedVariables false
namespace Loser
open Num
theorem key_set_other (ks : List (List Nat)) (w i : Nat) (x : List Nat) (h : i ≠ w) : key (ks.set w x) i = key ks i := by simp [key, List.getD, Ne.symm h]
theorem key_set_same (ks : List (List Nat)) (w : Nat) (x : List Nat) (h : w < ks.length) : key (ks.set w x) w = x := by simp [key, List.getD, h]
theorem key_get (ks : List (List Nat)) (i : Nat) (h : i < ks.length) : key ks i = ks[i] := by simp [key, List.getD, h]
theorem beats_set (ks : List (List Nat)) (w a b : Nat) (x : List Nat) (ha : a ≠ w) (hb : b ≠ w) : beatsP (ks.set w x) a b = beatsP ks a b := by
  unfold beatsP; rw [key_set_other _ _ _ _ ha, key_set_other _ _ _ _ hb]
theorem win_off (ks : List (List Nat)) (w n : Nat) (x : List Nat) (hn : 1 ≤ n) (h : n < 2 * ks.length) (hu : ¬ under ks.length n w) : win (ks.set w x) n = win ks n := by
  have hl : (ks.set w x).length = ks.length := List.length_set
  have hne : ∀ i, under ks.length n i → i ≠ w := fun i hi e => hu (e ▸ hi)
  refine win_only hn (by rw [hl]; exact h) (by rw [hl]; exact win_lt hn h) (by rw [hl]; exact win_under hn h) fun i hi hui hni => ?_
  rw [hl] at hi hui
  rw [beats_set _ _ _ _ _ (hne _ (win_under hn h)) (hne i hui)]
  exact win_beats hn h hi hui hni
theorem los_off (ks : List (List Nat)) (w n : Nat) (x : List Nat) (hn : 1 ≤ n) (h : n < ks.length) (hu : ¬ under ks.length n w) : los (ks.set w x) n = los ks n := by
  have h1 : ¬ under ks.length (2 * n) w := fun e => hu ((under_node h).2 (.inl e))
  have h2 : ¬ under ks.length (2 * n + 1) w := fun e => hu ((under_node h).2 (.inr e))
  unfold los
  rw [win_off ks w (2 * n) x (by omega) (by omega) h1, win_off ks w (2 * n + 1) x (by omega) (by omega) h2]
  have ha := win_under (ks := ks) (n := 2 * n) (by omega) (by omega)
  have hb := win_under (ks := ks) (n := 2 * n + 1) (by omega) (by omega)
  have hb' : win ks (2 * n + 1) ≠ w := fun e => by rw [e] at hb; exact h2 hb
  have ha' : win ks (2 * n) ≠ w := fun e => by rw [e] at ha; exact h1 ha
  rw [beats_set _ _ _ _ _ hb' ha']
/-- The whole tree's winner wins at each node above it. -/
theorem win_path (ks : List (List Nat)) (n : Nat) (hn : 1 ≤ n) (h : n < 2 * ks.length) (hu : under ks.length n (win ks 1)) : win ks n = win ks 1 := by
  have h1 : 1 < 2 * ks.length := by omega
  exact win_only hn h (win_lt (by decide) h1) hu fun i hi _ hne => win_beats (by decide) h1 hi (under_top hi) hne
/-- What a node above the winner keeps is the winner beside it, whatever the winner's new key. -/
theorem los_on (ks : List (List Nat)) (n c s : Nat) (x : List Nat) (hn : 1 ≤ n) (h : n < ks.length) (hc : (c = 2 * n ∧ s = 2 * n + 1) ∨ (c = 2 * n + 1 ∧ s = 2 * n)) (hu : under ks.length c (win ks 1)) : los ks n = win (ks.set (win ks 1) x) s := by
  have hs : ¬ under ks.length s (win ks 1) := fun e => by
    rcases hc with ⟨rfl, rfl⟩ | ⟨rfl, rfl⟩
    · exact under_apart hn hu e
    · exact under_apart hn e hu
  rw [win_off ks _ s x (by omega) (by omega) hs]
  have hcw := win_path ks c (by omega) (by omega) hu
  have hsu := win_under (ks := ks) (n := s) (by omega) (by omega)
  have hne : win ks s ≠ win ks 1 := fun e => hs (e ▸ hsu)
  have hb : beatsP ks (win ks 1) (win ks s) = true := win_beats (by decide) (by omega) (win_lt (by omega) (by omega)) (under_top (win_lt (by omega) (by omega))) hne
  unfold los
  rcases hc with ⟨rfl, rfl⟩ | ⟨rfl, rfl⟩
  · rw [hcw, beats_asymm _ _ _ hb]; simp
  · rw [hcw, hb]; simp
/-- A game played again. -/
theorem game (ks : List (List Nat)) (n c s : Nat) (hn : 1 ≤ n) (h : n < ks.length) (hc : (c = 2 * n ∧ s = 2 * n + 1) ∨ (c = 2 * n + 1 ∧ s = 2 * n)) :
    (beatsP ks (win ks s) (win ks c) = true → win ks n = win ks s ∧ los ks n = win ks c) ∧ (beatsP ks (win ks s) (win ks c) = false → win ks n = win ks c ∧ los ks n = win ks s) := by
  have hne := win_ne hn h
  rw [win_node ks n hn h]; unfold los
  rcases hc with ⟨rfl, rfl⟩ | ⟨rfl, rfl⟩
  · constructor <;> intro hb <;> rw [hb] <;> simp
  · rw [beats_not ks _ _ (Ne.symm hne)]
    constructor <;> intro hb
    · have : beatsP ks (win ks (2 * n + 1)) (win ks (2 * n)) = false := by simpa using hb
      rw [this]; simp
    · have : beatsP ks (win ks (2 * n + 1)) (win ks (2 * n)) = true := by simpa using hb
      rw [this]; simp
/-- A tree in the middle of a replacement: games up to node c are played. -/
structure RepI (ks : List (List Nat)) (x : List Nat) (c : Nat) (tr : List Int) : Prop where
  len : tr.length = ks.length
  old : ∀ m, 1 ≤ m → m < ks.length → under ks.length m (win ks 1) → m < c → tr[m]? = some (los ks m : Int)
  new : ∀ m, 1 ≤ m → m < ks.length → ¬ (under ks.length m (win ks 1) ∧ m < c) → tr[m]? = some (los (ks.set (win ks 1) x) m : Int)
  at_ : 1 ≤ c ∧ c < 2 * ks.length ∧ under ks.length c (win ks 1)
theorem treeOf_get (ks : List (List Nat)) (m : Nat) (h1 : 1 ≤ m) (h : m < ks.length) : (treeOf ks)[m]? = some (los ks m : Int) := by
  simp [treeOf, h]; omega
theorem treeOf_zero (ks : List (List Nat)) (h : 1 ≤ ks.length) : (treeOf ks)[0]? = some (win ks 1 : Int) := by
  have : 0 < ks.length := by omega
  simp [treeOf, this]
theorem RepI.start (ks : List (List Nat)) (x : List Nat) (h : 1 ≤ ks.length) : RepI ks x (ks.length + win ks 1) (treeOf ks) := by
  have hw := win_lt (ks := ks) (n := 1) (by decide) (by omega)
  refine ⟨treeOf_length ks, fun m h1 h2 _ _ => treeOf_get ks m h1 h2, fun m h1 h2 hn => ?_, by omega, by omega, ⟨0, by simp⟩⟩
  rw [treeOf_get ks m h1 h2, los_off ks _ m x h1 h2 (fun e => hn ⟨e, by omega⟩)]
theorem RepI.sib {ks : List (List Nat)} {x : List Nat} {c : Nat} {tr : List Int} (h : RepI ks x c tr) (hn : 1 ≤ c / 2) :
    ∃ s, ((c = 2 * (c / 2) ∧ s = 2 * (c / 2) + 1) ∨ (c = 2 * (c / 2) + 1 ∧ s = 2 * (c / 2))) ∧ tr[c / 2]? = some (win (ks.set (win ks 1) x) s : Int) ∧ c / 2 < ks.length ∧ s < 2 * ks.length ∧ 1 ≤ s := by
  obtain ⟨h1, h2, h3⟩ := h.at_
  have hk : c / 2 < ks.length := by omega
  have hu : under ks.length (c / 2) (win ks 1) := by obtain ⟨j, hj⟩ := h3; exact ⟨j + 1, by rw [div_pow_succ, hj]⟩
  have hs : ∃ s, (c = 2 * (c / 2) ∧ s = 2 * (c / 2) + 1) ∨ (c = 2 * (c / 2) + 1 ∧ s = 2 * (c / 2)) := by
    rcases Nat.mod_two_eq_zero_or_one c with e | e
    · exact ⟨_, .inl ⟨by omega, rfl⟩⟩
    · exact ⟨_, .inr ⟨by omega, rfl⟩⟩
  obtain ⟨s, hs⟩ := hs
  refine ⟨s, hs, ?_, hk, by omega, by omega⟩
  rw [h.old (c / 2) hn hk hu (by omega), los_on ks (c / 2) c s x hn hk hs h3]
theorem RepI.step {ks : List (List Nat)} {x : List Nat} {c : Nat} {tr : List Int} (h : RepI ks x c tr) (hn : 1 ≤ c / 2) : RepI ks x (c / 2) (tr.set (c / 2) (los (ks.set (win ks 1) x) (c / 2) : Int)) := by
  obtain ⟨h1, h2, h3⟩ := h.at_
  have hk : c / 2 < ks.length := by omega
  have hu : under ks.length (c / 2) (win ks 1) := by obtain ⟨j, hj⟩ := h3; exact ⟨j + 1, by rw [div_pow_succ, hj]⟩
  refine ⟨by rw [List.length_set]; exact h.len, fun m q1 q2 q3 q4 => ?_, fun m q1 q2 q3 => ?_, hn, by omega, hu⟩
  · rw [List.getElem?_set_ne (by omega)]; exact h.old m q1 q2 q3 (by omega)
  · by_cases e : c / 2 = m
    · subst e; rw [List.getElem?_set_self (by rw [h.len]; exact hk)]
    · rw [List.getElem?_set_ne e]
      refine h.new m q1 q2 fun ⟨r1, r2⟩ => ?_
      have := under_order h3 r1 r2
      exact q3 ⟨r1, by omega⟩
theorem RepI.done {ks : List (List Nat)} {x : List Nat} {tr : List Int} (h : RepI ks x 1 tr) (hk : 1 ≤ ks.length) : tr.set 0 (win (ks.set (win ks 1) x) 1 : Int) = treeOf (ks.set (win ks 1) x) := by
  have hl : (ks.set (win ks 1) x).length = ks.length := List.length_set
  apply List.ext_getElem?
  intro m
  by_cases hm : m < ks.length
  · cases m with
    | zero => rw [List.getElem?_set_self (by rw [h.len]; omega), treeOf_zero _ (by rw [hl]; exact hk)]
    | succ m => rw [List.getElem?_set_ne (by omega), h.new (m + 1) (by omega) hm (fun e => by omega), treeOf_get _ _ (by omega) (by rw [hl]; exact hm)]
  · rw [List.getElem?_eq_none (by rw [List.length_set, h.len]; omega), List.getElem?_eq_none (by rw [treeOf_length, hl]; omega)]
/-- A tree in the middle of its making: the games above node n are played. -/
structure GroI (ks : List (List Nat)) (n : Nat) (ws tr : List Int) : Prop where
  wl : ws.length = 2 * ks.length
  tl : tr.length = ks.length
  win_ : ∀ m, n < m → m < 2 * ks.length → ws[m]? = some (win ks m : Int)
  los_ : ∀ m, n < m → 1 ≤ m → m < ks.length → tr[m]? = some (los ks m : Int)
  zero : tr[0]? = some 0 ∨ ks.length = 0
theorem GroI.step {ks : List (List Nat)} {n : Nat} {ws tr : List Int} (h : GroI ks n ws tr) (hn : 1 ≤ n) (hk : n < ks.length) : GroI ks (n - 1) (ws.set n (win ks n : Int)) (tr.set n (los ks n : Int)) := by
  refine ⟨by simp [h.wl], by simp [h.tl], fun m q1 q2 => ?_, fun m q1 q2 q3 => ?_, ?_⟩
  · by_cases e : n = m
    · subst e; rw [List.getElem?_set_self (by rw [h.wl]; omega)]
    · rw [List.getElem?_set_ne e]; exact h.win_ m (by omega) q2
  · by_cases e : n = m
    · subst e; rw [List.getElem?_set_self (by rw [h.tl]; omega)]
    · rw [List.getElem?_set_ne e]; exact h.los_ m (by omega) q2 q3
  · rw [List.getElem?_set_ne (by omega)]; exact h.zero
theorem GroI.done {ks : List (List Nat)} {ws tr : List Int} (h : GroI ks 0 ws tr) (hk : 1 < ks.length) : tr.set 0 (win ks 1 : Int) = treeOf ks := by
  apply List.ext_getElem?
  intro m
  by_cases hm : m < ks.length
  · cases m with
    | zero => rw [List.getElem?_set_self (by rw [h.tl]; omega), treeOf_zero _ (by omega)]
    | succ m => rw [List.getElem?_set_ne (by omega), h.los_ (m + 1) (by omega) (by omega) hm, treeOf_get _ _ (by omega) hm]
  · rw [List.getElem?_eq_none (by rw [List.length_set, h.tl]; omega), List.getElem?_eq_none (by rw [treeOf_length]; omega)]
theorem GroI.done1 {ks : List (List Nat)} {ws tr : List Int} (h : GroI ks 0 ws tr) (hk : ks.length ≤ 1) : tr = treeOf ks := by
  apply List.ext_getElem?
  intro m
  by_cases hm : m < ks.length
  · obtain rfl : m = 0 := by omega
    rw [treeOf_zero _ (by omega), win_leaf _ _ (by omega), show 1 - ks.length = 0 from by omega]
    rcases h.zero with q | q
    · exact q
    · omega
  · rw [List.getElem?_eq_none (by rw [h.tl]; omega), List.getElem?_eq_none (by rw [treeOf_length]; omega)]
end Loser
end Go.Proofs.Ytddabbfjoejalaa
