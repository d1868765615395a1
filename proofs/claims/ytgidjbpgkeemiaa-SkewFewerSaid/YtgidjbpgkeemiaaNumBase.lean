/-
  Slices of numbers and of slices of numbers, small facts on numbers that come in. No program in sight.
-/
import Derived.Test.YtgidjbpgkeemiaaNumMath
import Derived.Test.YtgidjbpgkeemiaaMem
import Derived.Laws.BitsLemmas
namespace Go.Proofs.Ytgidjbpgkeemiaa
open Go.RowKit
open Mv
set_option linter.unusedVariables false
set_option linter.unusedSimpArgs false
theorem wf64 {n : Int} (h : (Lit.int .i64 n).wf = true) : -9223372036854775808 ≤ n ∧ n ≤ 9223372036854775807 := by
  simp [Lit.wf, IntKind.min, IntKind.max, IntKind.signed, IntKind.bits] at h; omega
theorem wfu64 {n : Int} (h : (Lit.int .u64 n).wf = true) : 0 ≤ n ∧ n ≤ 18446744073709551615 := by
  simp [Lit.wf, IntKind.min, IntKind.max, IntKind.signed, IntKind.bits] at h; omega
theorem u64_nat {a : Int} (h : (Lit.int .u64 a).wf = true) : ∃ n : Nat, a = n ∧ n < 18446744073709551616 := ⟨a.toNat, by have := wfu64 h; omega, by have := wfu64 h; omega⟩
namespace Num
def u64s (n : Nat) : List Value := [.int .u64 (n : Int)]
end Num
open Num
theorem sl_u64 {S : Mem} {b e : Nat} {l : List Nat} {len cap room : Nat} (hb : S.own b = some ⟨e, l.map (fun n : Nat => .int .u64 (n : Int)), room⟩) (hlen : l.length = len) (hc : len ≤ cap) (hm : len ≤ 9223372036854775807) : Sl 1 u64s S (.slice (some ⟨b, 0, none⟩) len cap) l :=
  Sl.own1 (g := fun n : Nat => .int .u64 (n : Int)) hb List.prefix_rfl hlen hc hm
abbrev RowR (S : Mem) (v : Value) (l : List Nat) : Prop := Sl 1 u64s S v l
theorem rowR_less (S S' : Mem) (v : Value) (l : List Nat) (h : RowR S v l) (hl : S.Less S') : RowR S' v l := h.less hl
/-- The place of the first element that a test takes; -1: there is none. -/
def idx {α : Type} (p : α → Bool) (l : List α) : Int := match l.findIdx? p with
  | some i => (i : Nat)
  | none => -1
theorem idx_at {α : Type} (p : α → Bool) (l : List α) (i : Nat) (h : i < l.length) (hb : ∀ j (hj : j < i), p l[j] = false) (hi : p l[i] = true) : idx p l = (i : Nat) := by
  have : l.findIdx? p = some i := List.findIdx?_eq_some_iff_getElem.2 ⟨h, hi, fun j hj => by simpa using hb j hj⟩
  simp [idx, this]
theorem idx_none {α : Type} (p : α → Bool) (l : List α) (hb : ∀ j (hj : j < l.length), p l[j] = false) : idx p l = -1 := by
  have : l.findIdx? p = none := List.findIdx?_eq_none_iff.2 fun x hx => by
    obtain ⟨j, hj, rfl⟩ := List.getElem_of_mem hx
    exact hb j hj
  simp [idx, this]
theorem idx_any {α : Type} (p : α → Bool) (l : List α) : decide (0 ≤ idx p l) = l.any p := by
  by_cases h : l.any p = true
  · rw [h]
    have h2 : (l.findIdx? p).isSome = true := by rw [List.findIdx?_isSome]; exact h
    obtain ⟨i, hi⟩ := Option.isSome_iff_exists.1 h2
    simp [idx, hi]
  · have h' : l.any p = false := by simpa using h
    rw [h']
    have h2 : (l.findIdx? p).isSome = false := by rw [List.findIdx?_isSome]; exact h'
    have : l.findIdx? p = none := by simpa using h2
    simp [idx, this]
theorem cellsB_append (l m : List UInt8) : cellsB (l ++ m) = cellsB l ++ cellsB m := by simp [cellsB]
theorem cellsB_one (l : List UInt8) : ∀ v ∈ cellsB l, v.oneCell' = true := fun v hv => by obtain ⟨c, _, rfl⟩ := List.mem_map.1 hv; rfl
theorem cellsB_snoc (l : List UInt8) (c : UInt8) : cellsB (l ++ [c]) = cellsB l ++ [.int .u8 (nb c)] := by rw [cellsB_append]; rfl
end Go.Proofs.Ytgidjbpgkeemiaa
