/-
  Plain mathematics of samples, the third part: ranks, the merge, the levels. No program in sight.
-/
import Derived.Test.YtgidjbpgkeemiaaSkewMath2
namespace Go.Proofs.Ytgidjbpgkeemiaa
open Num Loser
set_option linter.unusedVariables false
namespace Skew
/-! ### Ranks -/
/-- Of the first i ends of the reduced list's the places have their ranks, from 1 on; all else has 0. -/
structure RkI (n : Nat) (e : List Nat) (i : Nat) (r : List Int) : Prop where
  len : r.length = n + 3
  at_ : ∀ j, j < i → r.getD (plc n (e.getD j 0)) 0 = ((j + 1 : Nat) : Int)
  no : ∀ p, (∀ j, j < i → plc n (e.getD j 0) ≠ p) → r.getD p 0 = 0
theorem getD_set (r : List Int) (k p : Nat) (x : Int) (hk : k < r.length) : (r.set k x).getD p 0 = if p = k then x else r.getD p 0 := by
  rw [List.getD_eq_getElem?_getD, List.getD_eq_getElem?_getD, List.getElem?_set]
  by_cases h : p = k
  · subst h; rw [if_pos rfl, if_pos hk, if_pos rfl]; rfl
  · rw [if_neg (Ne.symm h), if_neg h]
theorem RkI.start (n : Nat) (e : List Nat) : RkI n e 0 (List.replicate (n + 3) 0) :=
  ⟨by simp, fun j h => absurd h (Nat.not_lt_zero _), fun p _ => by
    rw [List.getD_eq_getElem?_getD]
    by_cases h : p < n + 3
    · simp [h]
    · simp [h]⟩
theorem RkI.step {n : Nat} {e : List Nat} {i : Nat} {r : List Int} (h : RkI n e i r) (hp : e.Perm (List.range (numP n))) (hi : i < e.length) : RkI n e (i + 1) (r.set (plc n (e.getD i 0)) ((i + 1 : Nat) : Int)) := by
  have hlt : ∀ i, i < e.length → e.getD i 0 < numP n := fun i hi => by
    rw [List.getD_eq_getElem?_getD, List.getElem?_eq_getElem hi]; exact List.mem_range.1 (hp.mem_iff.1 (List.getElem_mem hi))
  have hb := (plc_lt n _ (hlt i hi)).2.2
  have hnd : e.Nodup := hp.nodup_iff.2 List.nodup_range
  have hne : ∀ j, j < i → plc n (e.getD j 0) ≠ plc n (e.getD i 0) := fun j hj heq => by
    have := plc_inj n _ _ (hlt j (by omega)) (hlt i hi) heq
    rw [List.getD_eq_getElem?_getD, List.getElem?_eq_getElem (by omega), List.getD_eq_getElem?_getD, List.getElem?_eq_getElem hi, Option.getD_some, Option.getD_some] at this
    exact absurd this (List.pairwise_iff_getElem.1 hnd j i (by omega) hi hj)
  refine ⟨by rw [List.length_set]; exact h.len, fun j hj => ?_, fun p hp' => ?_⟩
  · rw [getD_set _ _ _ _ (by rw [h.len]; omega)]
    rcases Nat.lt_or_ge j i with h' | h'
    · rw [if_neg (hne j h'), h.at_ j h']
    · obtain rfl : j = i := by omega
      rw [if_pos rfl]
  · rw [getD_set _ _ _ _ (by rw [h.len]; omega), if_neg (fun e => hp' i (by omega) e.symm), h.no p (fun j hj => hp' j (by omega))]
def Rk (l e : List Nat) (r : List Int) : Prop := RkI l.length e e.length r
/-- A place whose rank counts: a sample, or the end. -/
theorem rk_lt (l e : List Nat) (r : List Int) (h1 : ∀ x ∈ l, 1 ≤ x) (he : Ord.SortedE (red l) e) (hr : Rk l e r) (p q : Nat) (hp : p ≤ l.length) (hq : q ≤ l.length) (hp3 : p = l.length ∨ p % 3 ≠ 0) (hq3 : q = l.length ∨ q % 3 ≠ 0) (hne : p ≠ q) :
    r.getD p 0 < r.getD q 0 ↔ Ord.sl l p q = true := by
  have hel : e.length = numP l.length := by rw [he.len, red_length]
  have hlt : ∀ i, i < e.length → e.getD i 0 < numP l.length := fun i hi => by
    rw [List.getD_eq_getElem?_getD, List.getElem?_eq_getElem hi, ← red_length]; exact he.lt (List.getElem_mem hi)
  have hall : ∀ a, a < numP l.length → ∃ i, i < e.length ∧ e.getD i 0 = a := by
    intro a ha
    obtain ⟨i, hi, rfl⟩ := List.getElem_of_mem (he.1.mem_iff.2 (List.mem_range.2 (by rw [red_length]; exact ha)))
    exact ⟨i, hi, by rw [List.getD_eq_getElem?_getD, List.getElem?_eq_getElem hi]; rfl⟩
  have hs : ∀ p, p ≤ l.length → (p = l.length ∨ p % 3 ≠ 0) → (∃ j, j < e.length ∧ plc l.length (e.getD j 0) = p ∧ r.getD p 0 = ((j + 1 : Nat) : Int)) ∨ (p = l.length ∧ r.getD p 0 = 0) := by
    intro p hp hp3
    by_cases hx : p < endP l.length ∧ p % 3 ≠ 0
    · obtain ⟨k, hk, rfl⟩ := plc_onto _ _ hx.1 hx.2
      obtain ⟨j, hj, rfl⟩ := hall k hk
      exact .inl ⟨j, hj, rfl, hr.at_ j hj⟩
    · have hpn : p = l.length := by
        rcases hp3 with h | h
        · exact h
        · unfold endP at hx; split at hx <;> omega
      refine .inr ⟨hpn, hr.no p fun j hj he' => ?_⟩
      have := plc_lt l.length _ (hlt j hj)
      rw [he'] at this
      exact hx ⟨this.1, this.2.1⟩
  rcases hs p hp hp3 with ⟨i, hi, ep, ri⟩ | ⟨ep, ri⟩
  · rcases hs q hq hq3 with ⟨j, hj, eq, rj⟩ | ⟨eq, rj⟩
    · rw [ri, rj, ← ep, ← eq, ← sl_red l h1 l.length _ _ (hlt i hi) (hlt j hj) (by omega)]
      have hpw := List.pairwise_iff_getElem.1 he.2
      have gi : e.getD i 0 = e[i] := by rw [List.getD_eq_getElem?_getD, List.getElem?_eq_getElem hi]; rfl
      have gj : e.getD j 0 = e[j] := by rw [List.getD_eq_getElem?_getD, List.getElem?_eq_getElem hj]; rfl
      rw [gi, gj]
      rcases Nat.lt_trichotomy i j with h | h | h
      · rw [hpw i j hi hj h]; constructor
        · intro _; rfl
        · intro _; omega
      · subst h; exact absurd (ep.symm.trans eq) hne
      · rw [Ord.sl_asymm _ _ _ (hpw j i hj hi h)]; constructor
        · intro h'; omega
        · intro h'; cases h'
    · rw [ri, rj, eq, Ord.sl_no l _ _ (Nat.le_refl _)]; constructor
      · intro h'; omega
      · intro h'; cases h'
  · rcases hs q hq hq3 with ⟨j, hj, eq, rj⟩ | ⟨eq, rj⟩
    · rw [ri, rj, ep, Ord.sl_end l _ _ (Nat.le_refl _)]; constructor
      · intro _; rw [decide_eq_true_eq]; omega
      · intro _; omega
    · exact absurd (ep.trans eq.symm) hne
/-- By one number and a rank: ends that leave no rest, and one that leaves 1. -/
theorem sl_one (l e : List Nat) (r : List Int) (h1 : ∀ x ∈ l, 1 ≤ x) (he : Ord.SortedE (red l) e) (hr : Rk l e r) (a b : Nat) (ha : a < l.length) (hb : b < l.length) (ha3 : a % 3 ≠ 2) (hb3 : b % 3 ≠ 2) (hne : a ≠ b) :
    Ord.sl l a b = true ↔ at0 l a < at0 l b ∨ at0 l a = at0 l b ∧ r.getD (a + 1) 0 < r.getD (b + 1) 0 := by
  rw [rk_lt l e r h1 he hr (a + 1) (b + 1) (by omega) (by omega) (by omega) (by omega) (by omega), sl_at0 l h1 a b]
  simp
theorem sl_two (l e : List Nat) (r : List Int) (h1 : ∀ x ∈ l, 1 ≤ x) (he : Ord.SortedE (red l) e) (hr : Rk l e r) (a b : Nat) (ha : a < l.length) (hb : b < l.length) (ha3 : a % 3 ≠ 1) (hb3 : b % 3 ≠ 1) (hne : a ≠ b) :
    Ord.sl l a b = true ↔ at0 l a < at0 l b ∨ at0 l a = at0 l b ∧ (at0 l (a + 1) < at0 l (b + 1) ∨ at0 l (a + 1) = at0 l (b + 1) ∧ r.getD (a + 2) 0 < r.getD (b + 2) 0) := by
  have hin : ∀ i, i < l.length → 1 ≤ at0 l i := fun i h => by
    unfold at0; rw [List.getD_eq_getElem?_getD, List.getElem?_eq_getElem h]; exact h1 _ (List.getElem_mem h)
  have hout : ∀ i, l.length ≤ i → at0 l i = 0 := fun i h => by unfold at0; rw [List.getD_eq_getElem?_getD, List.getElem?_eq_none h]; rfl
  rw [sl_at0 l h1 a b, sl_at0 l h1 (a + 1) (b + 1)]
  have hlast : at0 l (a + 1) = at0 l (b + 1) → (Ord.sl l (a + 2) (b + 2) = true ↔ r.getD (a + 2) 0 < r.getD (b + 2) 0) := by
    intro heq
    have ha1 : a + 1 < l.length := by
      rcases Nat.lt_or_ge (a + 1) l.length with h | h
      · exact h
      · have := hout _ h
        rcases Nat.lt_or_ge (b + 1) l.length with h' | h'
        · have := hin _ h'; omega
        · omega
    have hb1 : b + 1 < l.length := by
      rcases Nat.lt_or_ge (b + 1) l.length with h | h
      · exact h
      · have := hout _ h; have := hin _ ha1; omega
    exact (rk_lt l e r h1 he hr (a + 2) (b + 2) (by omega) (by omega) (by omega) (by omega) (by omega)).symm
  simp only [Bool.or_eq_true, decide_eq_true_eq, Bool.and_eq_true]
  constructor
  · rintro (h | ⟨h, h2 | ⟨h2, h3⟩⟩)
    · exact .inl h
    · exact .inr ⟨h, .inl h2⟩
    · exact .inr ⟨h, .inr ⟨h2, (hlast h2).1 h3⟩⟩
  · rintro (h | ⟨h, h2 | ⟨h2, h3⟩⟩)
    · exact .inl h
    · exact .inr ⟨h, .inl h2⟩
    · exact .inr ⟨h, .inr ⟨h2, (hlast h2).2 h3⟩⟩

/-! ### The merge -/
def mg (l : List Nat) : List Nat → List Nat → List Nat
  | [], zs => zs
  | k :: ks, zs => if l.length ≤ plc l.length k then mg l ks zs else zs.takeWhile (fun z => !Ord.sl l (plc l.length k) z) ++ plc l.length k :: mg l ks (zs.dropWhile (fun z => !Ord.sl l (plc l.length k) z))
def smp (l : List Nat) (e : List Nat) : List Nat := (e.map (plc l.length)).filter (fun p => decide (p < l.length))
theorem smp_cons (l : List Nat) (k : Nat) (ks : List Nat) : smp l (k :: ks) = if l.length ≤ plc l.length k then smp l ks else plc l.length k :: smp l ks := by
  unfold smp
  rw [List.map_cons, List.filter_cons]
  by_cases h : l.length ≤ plc l.length k
  · rw [if_pos h, if_neg (by simp; omega)]
  · rw [if_neg h, if_pos (by simp; omega)]
theorem mg_perm (l : List Nat) : ∀ (ks zs : List Nat), (mg l ks zs).Perm (smp l ks ++ zs)
  | [], zs => List.Perm.refl _
  | k :: ks, zs => by
    rw [mg, smp_cons]
    split
    · exact mg_perm l ks zs
    · refine (List.perm_middle).trans ?_
      rw [List.cons_append]
      refine List.Perm.cons _ ?_
      refine ((mg_perm l ks _).append_left _).trans ?_
      refine (List.perm_append_comm_assoc _ _ _).trans ?_
      rw [List.takeWhile_append_dropWhile]
theorem mg_sorted (l : List Nat) : ∀ (ks zs : List Nat), (smp l ks).Pairwise (fun a b => Ord.sl l a b = true) → zs.Pairwise (fun a b => Ord.sl l a b = true) → (∀ a ∈ smp l ks, ∀ z ∈ zs, Ord.sl l a z = false → Ord.sl l z a = true) →
    (mg l ks zs).Pairwise (fun a b => Ord.sl l a b = true)
  | [], zs, _, h, _ => h
  | k :: ks, zs, ha, hz, hx => by
    rw [mg]
    rw [smp_cons] at ha hx
    split
    · rename_i hk; rw [if_pos hk] at ha hx
      exact mg_sorted l ks zs ha hz hx
    · rename_i hk; rw [if_neg hk] at ha hx
      obtain ⟨ha1, ha2⟩ := List.pairwise_cons.1 ha
      have hsplit := List.takeWhile_append_dropWhile (p := fun z => !Ord.sl l (plc l.length k) z) (l := zs)
      have hT : ∀ z ∈ zs.takeWhile (fun z => !Ord.sl l (plc l.length k) z), Ord.sl l z (plc l.length k) = true := by
        intro z hzm
        have hm : z ∈ zs := by rw [← hsplit]; exact List.mem_append_left _ hzm
        have hb := List.all_takeWhile (p := fun z => !Ord.sl l (plc l.length k) z) (l := zs)
        have := List.all_eq_true.1 hb z hzm
        refine hx _ (List.mem_cons_self ..) z hm ?_
        simpa using this
      have hpz := hz
      rw [← hsplit] at hpz
      obtain ⟨p1, p2, p3⟩ := List.pairwise_append.1 hpz
      have hD : ∀ z ∈ zs.dropWhile (fun z => !Ord.sl l (plc l.length k) z), Ord.sl l (plc l.length k) z = true := by
        intro z hzm
        cases hd : zs.dropWhile (fun z => !Ord.sl l (plc l.length k) z) with
        | nil => rw [hd] at hzm; cases hzm
        | cons d D =>
          have h0 : Ord.sl l (plc l.length k) d = true := by
            have := List.head?_dropWhile_not (fun z => !Ord.sl l (plc l.length k) z) zs
            rw [hd] at this
            simpa using this
          rw [hd] at hzm p2
          rcases List.mem_cons.1 hzm with rfl | hzm
          · exact h0
          · exact Ord.sl_trans l _ _ _ h0 ((List.pairwise_cons.1 p2).1 z hzm)
      have hmem : ∀ y ∈ mg l ks (zs.dropWhile (fun z => !Ord.sl l (plc l.length k) z)), y ∈ smp l ks ∨ y ∈ zs.dropWhile (fun z => !Ord.sl l (plc l.length k) z) := fun y hy => List.mem_append.1 ((mg_perm l ks _).mem_iff.1 hy)
      have hsub : ∀ z ∈ zs.dropWhile (fun z => !Ord.sl l (plc l.length k) z), z ∈ zs := fun z h => by rw [← hsplit]; exact List.mem_append_right _ h
      have ih := mg_sorted l ks (zs.dropWhile (fun z => !Ord.sl l (plc l.length k) z)) ha2 p2 (fun a h z hz' => hx a (List.mem_cons_of_mem _ h) z (hsub z hz'))
      have hk2 : ∀ y ∈ mg l ks (zs.dropWhile (fun z => !Ord.sl l (plc l.length k) z)), Ord.sl l (plc l.length k) y = true := fun y hy => by
        rcases hmem y hy with h | h
        · exact ha1 y h
        · exact hD y h
      refine List.pairwise_append.2 ⟨p1, List.pairwise_cons.2 ⟨hk2, ih⟩, fun z hzt y hy => ?_⟩
      rcases List.mem_cons.1 hy with rfl | hy
      · exact hT z hzt
      · exact Ord.sl_trans l _ _ _ (hT z hzt) (hk2 y hy)
theorem perm_of_mem {a b : List Nat} (ha : a.Nodup) (hb : b.Nodup) (h : ∀ x, x ∈ a ↔ x ∈ b) : a.Perm b := by
  rw [List.perm_iff_count]
  intro x
  have hc : ∀ c : List Nat, c.Nodup → c.count x = if x ∈ c then 1 else 0 := fun c hc => by
    split
    · rename_i hm
      have h1 := List.nodup_iff_count.1 hc x
      have h2 := List.count_pos_iff.2 hm
      omega
    · rename_i hm; exact List.count_eq_zero.2 hm
  rw [hc a ha, hc b hb]
  simp only [h x]
/-- Expanded: all ends in order. -/
theorem mg_ok (l e zs : List Nat) (h1 : ∀ x ∈ l, 1 ≤ x) (he : Ord.SortedE (red l) e) (hz : zs.Perm (restP 0 l.length)) (hzs : zs.Pairwise (fun a b => Ord.sl l a b = true)) : Ord.SortedE l (mg l e zs) := by
  have hlt : ∀ k ∈ e, k < numP l.length := fun k hk => by rw [← red_length]; exact he.lt hk
  have hmz : ∀ z, z ∈ zs ↔ z < l.length ∧ z % 3 = 0 := fun z => by
    rw [hz.mem_iff]; unfold restP; simp
  have hms : ∀ p, p ∈ smp l e ↔ p < l.length ∧ p % 3 ≠ 0 := fun p => by
    unfold smp
    simp only [List.mem_filter, List.mem_map, decide_eq_true_eq]
    constructor
    · rintro ⟨⟨k, hk, rfl⟩, h⟩; exact ⟨h, (plc_lt _ _ (hlt k hk)).2.1⟩
    · rintro ⟨h, h3⟩
      obtain ⟨k, hk, rfl⟩ := plc_onto l.length p (by unfold endP; split <;> omega) h3
      exact ⟨⟨k, he.1.mem_iff.2 (List.mem_range.2 (by rw [red_length]; exact hk)), rfl⟩, h⟩
  have hpe : (e.map (plc l.length)).Pairwise (fun a b => Ord.sl l a b = true) := by
    rw [List.pairwise_map]
    refine List.Pairwise.imp_of_mem ?_ he.2
    intro a b ha hb hab
    rw [← sl_red l h1 l.length a b (hlt a ha) (hlt b hb) (by omega)]; exact hab
  have hsm : (smp l e).Pairwise (fun a b => Ord.sl l a b = true) := hpe.filter _
  have hnd : ∀ c : List Nat, c.Pairwise (fun a b => Ord.sl l a b = true) → c.Nodup := fun c hc => by
    refine List.Pairwise.imp ?_ hc
    intro a b h heq; subst heq; rw [Ord.sl_irrefl] at h; cases h
  refine ⟨(mg_perm l e zs).trans (perm_of_mem (List.nodup_append.2 ⟨hnd _ hsm, hnd _ hzs, fun a ha b hb => by have := (hms a).1 ha; have := (hmz b).1 hb; omega⟩) List.nodup_range fun x => ?_), mg_sorted l e zs hsm hzs fun a ha z hz' h => ?_⟩
  · rw [List.mem_append, hms, hmz, List.mem_range]; omega
  · have h2 := (hms a).1 ha
    have h3 := (hmz z).1 hz'
    cases hc : Ord.sl l z a with
    | true => rfl
    | false => have := Ord.sl_total l a z h2.1 h3.1 h hc; omega
/-- The places that leave no rest, sorted. -/
theorem rest_sorted (l e : List Nat) (r : List Int) (h1 : ∀ x ∈ l, 1 ≤ x) (he : Ord.SortedE (red l) e) (hr : Rk l e r) (zs : List Nat) (hz : zs.Perm (restP 0 l.length))
    (hs : ∀ i j, i < j → j < zs.length → ¬ (at0 l (zs.getD j 0) < at0 l (zs.getD i 0) ∨ at0 l (zs.getD j 0) = at0 l (zs.getD i 0) ∧ r.getD (zs.getD j 0 + 1) 0 < r.getD (zs.getD i 0 + 1) 0)) : zs.Pairwise (fun a b => Ord.sl l a b = true) := by
  have hmz : ∀ z, z ∈ zs ↔ z < l.length ∧ z % 3 = 0 := fun z => by
    rw [hz.mem_iff]; unfold restP; simp
  have hnd : zs.Nodup := hz.nodup_iff.2 (by unfold restP; exact List.nodup_range.filter _)
  refine List.pairwise_iff_getElem.2 fun i j hi hj hij => ?_
  have h := hs i j hij hj
  have gi : zs.getD i 0 = zs[i] := by rw [List.getD_eq_getElem?_getD, List.getElem?_eq_getElem hi]; rfl
  have gj : zs.getD j 0 = zs[j] := by rw [List.getD_eq_getElem?_getD, List.getElem?_eq_getElem hj]; rfl
  rw [gi, gj] at h
  have mi := (hmz _).1 (List.getElem_mem hi)
  have mj := (hmz _).1 (List.getElem_mem hj)
  have hne : zs[i] ≠ zs[j] := List.pairwise_iff_getElem.1 hnd i j hi hj hij
  rw [← sl_one l e r h1 he hr _ _ mj.1 mi.1 (by omega) (by omega) (Ne.symm hne)] at h
  cases hc : Ord.sl l zs[i] zs[j] with
  | true => rfl
  | false =>
    cases hd : Ord.sl l zs[j] zs[i] with
    | true => exact absurd hd h
    | false => exact absurd (Ord.sl_total l _ _ mi.1 mj.1 hc hd) hne
/-! ### Levels -/
theorem few (n : Nat) (h : 4 ≤ n) : numP n < n := by
  have := places_few n
  unfold numP; omega
theorem many_le (l : List Nat) : many l ≤ numP l.length := (foldl_max_le _ _ _).2 ⟨Nat.zero_le _, red_le l⟩
theorem small_unlike (l : List Nat) (h1 : ∀ x ∈ l, 1 ≤ x) (h : l.length ≤ 3) : many l = numP l.length := by
  have hl := red_length l
  have hn := numP_eq l.length
  unfold endP at hn
  rcases Nat.lt_trichotomy l.length 3 with h3 | h3 | h3
  · rcases Nat.eq_zero_or_pos l.length with h0 | h0
    · have hm : numP l.length = 0 := by rw [hn]; split <;> omega
      exact many_of l _ (red_le l) (.inr hm)
    · have hm : numP l.length = 1 := by rw [hn]; split <;> omega
      refine many_of l _ (red_le l) (.inl ?_)
      have hx : (red l)[0]'(by omega) ∈ red l := List.getElem_mem _
      have h1 := red_le l _ hx
      have h2 := red_pos l _ hx
      rw [hm] at h1 ⊢
      have : (red l)[0]'(by omega) = 1 := by omega
      rw [this] at hx; exact hx
  · have hm : numP l.length = 2 := by rw [hn]; split <;> omega
    have hk : tkey l 0 ≠ tkey l 1 := by
      unfold tkey
      rw [plc_eq _ 0 (by omega), plc_eq _ 1 (by omega)]
      unfold endP
      rw [h3]
      intro e
      obtain ⟨x, y, z, rfl⟩ : ∃ x y z, l = [x, y, z] := by
        match l, h3 with
        | [x, y, z], _ => exact ⟨x, y, z, rfl⟩
      have hz : 1 ≤ z := h1 z (by simp)
      simp [tri, at0] at e
      omega
    have e := name_eq (tkey l) (numP l.length) 0 1 (by omega) (by omega)
    have hx0 : (red l)[0]'(by omega) ∈ red l := List.getElem_mem _
    have hx1 : (red l)[1]'(by omega) ∈ red l := List.getElem_mem _
    have a1 := red_le l _ hx0
    have a2 := red_pos l _ hx0
    have b1 := red_le l _ hx1
    have b2 := red_pos l _ hx1
    have hne : (red l)[0]'(by omega) ≠ (red l)[1]'(by omega) := by
      rw [red_at, red_at]; exact fun h => hk (e.1 h)
    refine many_of l _ (red_le l) (.inl ?_)
    rw [hm] at a1 b1 ⊢
    by_cases h : (red l)[0]'(by omega) = 2
    · rw [h] at hx0; exact hx0
    · have : (red l)[1]'(by omega) = 2 := by omega
      rw [this] at hx1; exact hx1
  · omega
theorem less_long (l : List Nat) (h1 : ∀ x ∈ l, 1 ≤ x) (h : many l ≠ numP l.length) : (red l).length < l.length := by
  rw [red_length]
  refine few _ ?_
  rcases Nat.lt_or_ge l.length 4 with h' | h'
  · exact absurd (small_unlike l h1 (by omega)) h
  · exact h'
end Skew
end Go.Proofs.Ytgidjbpgkeemiaa
