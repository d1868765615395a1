/-
  Plain mathematics of a disk, second part: extents that are right, one by one.
-/
import Derived.Test.YtkeiphkccnfhoaaDiskMath
namespace Go.Proofs.Ytkeiphkccnfhoaa
open Go.RowKit
set_option linter.unusedVariables false
set_option linter.unusedSimpArgs false
namespace Disk
theorem lt_empty {x : ByteArray} (h : x.size ≠ 0) : lt ByteArray.empty x = true := by
  unfold lt
  cases e : x.data.toList with
  | nil => have := Mv.size_data x; rw [e] at this; simp at this; omega
  | cons a l => rfl
theorem lt_empty_no (x : ByteArray) : lt x ByteArray.empty = false := by
  unfold lt
  show Op.bytesLess x.data.toList [] = false
  cases x.data.toList <;> rfl
theorem take_get {α : Type} {l : List α} {i : Nat} (h : i < l.length) : l.take (i + 1) = l.take i ++ [l[i]] := by
  rw [List.take_add_one, List.getElem?_eq_getElem h]; rfl
def lastN (l : List Ext) : Nat → ByteArray
  | 0 => ByteArray.empty
  | i + 1 => (l[i]?.map (·.1)).getD ByteArray.empty
theorem lastN_succ {l : List Ext} {i : Nat} (h : i < l.length) : lastN l (i + 1) = l[i].1 := by
  simp [lastN, List.getElem?_eq_getElem h]
/-- What is right so far. -/
structure Upto (l : List Ext) (size : Int) (i : Nat) : Prop where
  ok : ∀ x ∈ l.take i, eok x
  asc : Asc (l.take i)
  us : (used (l.take i) : Int) ≤ size
theorem upto_zero (l : List Ext) {size : Int} (h : 0 ≤ size) : Upto l size 0 := ⟨fun x h => by simp at h, by simp [Asc], by simpa [used] using h⟩
theorem upto_all {l : List Ext} {size : Int} (h : Upto l size l.length) : ERight l size := by
  obtain ⟨h1, h2, h3⟩ := h
  rw [List.take_length] at h1 h2 h3
  exact ⟨h1, h2, h3⟩
theorem upto_succ {l : List Ext} {size : Int} {i : Nat} (h : Upto l size i) (hi : i < l.length) (h1 : eok l[i]) (h2 : lt (lastN l i) l[i].1 = true) (h3 : (used (l.take i) : Int) + sec l[i] ≤ size) : Upto l size (i + 1) := by
  have e := take_get hi
  refine ⟨fun x hx => ?_, ?_, ?_⟩
  · rw [e, List.mem_append] at hx
    rcases hx with hx | hx
    · exact h.ok x hx
    · rw [List.mem_singleton.1 hx]; exact h1
  · rw [e]
    unfold Asc
    rw [List.pairwise_append]
    refine ⟨h.asc, by simp, fun a ha b hb => ?_⟩
    rw [List.mem_singleton.1 hb]
    obtain ⟨j, hj, rfl⟩ := List.getElem_of_mem ha
    have hj' : j < i := by simp at hj; omega
    cases i with
    | zero => omega
    | succ i =>
      rw [lastN_succ (by omega)] at h2
      by_cases hji : j = i
      · subst hji; simpa using h2
      · have := asc_get h.asc (i := j) (j := i) (by simp; omega) (by omega)
        simp only [List.getElem_take] at this ⊢
        exact lt_trans this h2
  · rw [e, used_append]; simp only [used]; omega
theorem right_at {l : List Ext} {size : Int} (h : ERight l size) {i : Nat} (hi : i < l.length) : eok l[i] ∧ lt (lastN l i) l[i].1 = true ∧ (used (l.take i) : Int) + sec l[i] ≤ size := by
  refine ⟨h.ok _ (List.getElem_mem hi), ?_, ?_⟩
  · cases i with
    | zero => exact lt_empty (h.ok _ (List.getElem_mem hi)).1.1
    | succ i => rw [lastN_succ (by omega)]; exact asc_get h.asc hi (by omega)
  · have h1 := h.us
    have e : l = l.take (i + 1) ++ l.drop (i + 1) := (List.take_append_drop _ _).symm
    rw [e, used_append, take_get hi, used_append] at h1
    simp only [used] at h1; omega
end Disk
end Go.Proofs.Ytkeiphkccnfhoaa
