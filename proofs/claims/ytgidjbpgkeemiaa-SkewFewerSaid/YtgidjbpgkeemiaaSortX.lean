/-
  Sorting: what pdqsort's functions hand back. No function of the program in sight.
-/
import Derived.Test.YtgidjbpgkeemiaaSort0
namespace Go.Proofs.Ytgidjbpgkeemiaa
open Go.RowKit
open Mv
set_option linter.unusedVariables false
namespace Srt
open Go.Sort (swp scanUp scanDown partLoop partition partEqLoop partitionEqual)
theorem nt_ {p : Bool} (h : (!p) = true) : p = false := by cases p <;> simp_all
theorem nf_ {p : Bool} (h : (!p) = false) : p = true := by cases p <;> simp_all
def ltN (x y : Nat) : Bool := decide (x < y)
theorem lq_ {α : Type} {cf : α → α → Int} {x y : α} : lq cf x y = decide (cf x y < 0) := rfl
def PartR (α : Type) [Inhabited α] (M : Array α → Mem) (okP : α → Prop) (n : Nat) (q : Nat × Bool × Array α) (a e : Nat) (r : Value) (S' : Mem) : Prop :=
  r = .tuple #[.int .i64 (q.1 : Int), .bool q.2.1] ∧ S' = M q.2.2 ∧ Rw okP n q.2.2 ∧ a ≤ q.1 ∧ q.1 < e
def PartEqR (α : Type) [Inhabited α] (M : Array α → Mem) (okP : α → Prop) (n : Nat) (q : Nat × Array α) (a e : Nat) (r : Value) (S' : Mem) : Prop :=
  r = .int .i64 (q.1 : Int) ∧ S' = M q.2 ∧ Rw okP n q.2 ∧ a < q.1 ∧ q.1 ≤ e
section
variable {α : Type} [Inhabited α] (lt : α → α → Bool)
theorem part_res1 {M : Array α → Mem} {okP : α → Prop} {n a p J i j : Nat} {d d0 : Array α} (hd : d0 = swp d a p) (hU : i = scanUp (fun x => lt x d0[a]!) d0 J (a + 1)) (hD : j = scanDown (fun x => !lt x d0[a]!) d0 i J) (hx : j < i)
    (R : Rw okP n (swp d0 j a)) (h1 : a ≤ j) (h2 : j ≤ J) : PartR α M okP n (partition lt d a (J + 1) p) a (J + 1) (.tuple #[.int .i64 (j : Int), .bool true]) (M (swp d0 j a)) := by
  have e : partition lt d a (J + 1) p = (j, true, swp d0 j a) := by
    unfold partition
    simp only [Nat.add_sub_cancel, ← hd, ← hU, ← hD]
    rw [if_pos hx]
  rw [e]; exact ⟨rfl, rfl, R, h1, by show j < J + 1; omega⟩
theorem part_res2 {M : Array α → Mem} {okP : α → Prop} {n a p J i j j3 : Nat} {d d0 d3 : Array α} (hd : d0 = swp d a p) (hU : i = scanUp (fun x => lt x d0[a]!) d0 J (a + 1)) (hD : j = scanDown (fun x => !lt x d0[a]!) d0 i J) (hx : ¬ j < i)
    (h3 : (j3, d3) = partLoop lt a (i + 1) (j - 1) (swp d0 i j)) (R : Rw okP n (swp d3 j3 a)) (h1 : a ≤ j3) (h2 : j3 ≤ J) : PartR α M okP n (partition lt d a (J + 1) p) a (J + 1) (.tuple #[.int .i64 (j3 : Int), .bool false]) (M (swp d3 j3 a)) := by
  have e : partition lt d a (J + 1) p = (j3, false, swp d3 j3 a) := by
    unfold partition
    simp only [Nat.add_sub_cancel, ← hd, ← hU, ← hD]
    rw [if_neg hx, ← h3]
  rw [e]; exact ⟨rfl, rfl, R, h1, by show j3 < J + 1; omega⟩
theorem parteq_res {M : Array α → Mem} {okP : α → Prop} {n a p J i : Nat} {d d0 d3 : Array α} (hd : d0 = swp d a p) (h3 : (i, d3) = partEqLoop lt a (a + 1) J d0) (R : Rw okP n d3) (h1 : a + 1 ≤ i) (h2 : i ≤ J + 1) :
    PartEqR α M okP n (partitionEqual lt d a (J + 1) p) a (J + 1) (.int .i64 (i : Int)) (M d3) := by
  have e : partitionEqual lt d a (J + 1) p = (i, d3) := by
    unfold partitionEqual
    rw [Nat.add_sub_cancel, ← hd, ← h3]
  rw [e]; exact ⟨rfl, rfl, R, h1, h2⟩
end
end Srt
end Go.Proofs.Ytgidjbpgkeemiaa
