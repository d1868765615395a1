/-
  Sorting, over the view of memory: a row of cells that is a block's, what is less, the plain sort's steps. No function of the program in sight.
-/
import Derived.Test.YtgidjbpgkeemiaaMem
import Derived.Sort.AssemblyPlain
import Derived.Sort.LotD5
namespace Go.Proofs.Ytgidjbpgkeemiaa
open Go.RowKit
open Mv
set_option linter.unusedVariables false
namespace Srt
theorem rw_ {p : Prop} (h : p := by first | omega | (simp only [Array.size_setIfInBounds]; omega)) : p := h
theorem sb_ {p : Prop} (h : p := by first | rfl | (refine some_int ?_; first | omega | (dsimp only; omega))) : p := h
section
variable {P : Program} {N : Nat} {ops : Array Oper} {E : Env} {S : Mem} {K : Env → Mem → Prop} {ty : TypeId} {pos : String} {aft : Array Edge}
theorem ARun.storeRow {α : Type} {os : List Oper} {T e : TypeId} {x y : Operand} {b o room : Nat} (enc : α → Value) {d : Array α} {v : α} (k : Nat) (hx : ev E x = some (.pointer (some ⟨b, o, none⟩))) (hy : ev E y = some (enc v)) (hs : sizeT P T = some 1)
    (h1 : (enc v).cells = #[enc v] ∧ (enc v).oneCell' = true) (hb : S.own b = some ⟨e, d.toList.map enc, room⟩) (hk : k < d.size) (ho : o = k) (h : ARun P N ops os K E (S.set b ⟨e, (d.setIfInBounds k v).toList.map enc, room⟩)) :
    ARun P N ops (⟨none, .store T x y, ty, pos, aft, none⟩ :: os) K E S := by
  subst ho
  refine ARun.store1 hx hy hs h1.1 hb (by simpa using hk) h1.2 ?_
  have : (d.toList.map enc).set o (enc v) = (d.setIfInBounds o v).toList.map enc := by simp
  rw [this]; exact h
end
/-- A function that tells what is less, as a value. -/
structure CmpC {α : Type} (P : Program) (enc : α → Value) (cf : α → α → Int) (okP : α → Prop) (g : Nat) (cb : List Value) (S : Mem) : Prop where
  one : ∀ x, (enc x).cells = #[enc x] ∧ (enc x).oneCell' = true
  go : goFn P g = true
  cmp : ∀ x y, okP x → okP y → ACall P g ([] ++ [enc x, enc y] ++ cb).toArray S fun r S' => r = .int .i64 (cf x y) ∧ S' = S
theorem CmpC.call {α : Type} {P : Program} {enc : α → Value} {cf : α → α → Int} {okP : α → Prop} {g : Nat} {cb : List Value} {S S' : Mem} (C : CmpC P enc cf okP g cb S) (hl : S.Less S') {x y : α} (hx : okP x) (hy : okP y) :
    ACall P g ([] ++ [enc x, enc y] ++ cb).toArray S' fun r S'' => r = .int .i64 (cf x y) ∧ S'' = S' := ACall.pure_more hl (C.cmp x y hx hy)
def lq {α : Type} (cf : α → α → Int) (x y : α) : Bool := decide (cf x y < 0)

variable {α : Type} [Inhabited α]
theorem rd_row {S : Mem} {b : Nat} {T : TypeId} {enc : α → Value} {d : Array α} {room o k : Nat} (h : S.own b = some ⟨T, d.toList.map enc, room⟩) (hk : k < d.size) (ho : o = k) : S.rd ⟨b, o, none⟩ = some (enc d[k]!) := by
  rw [rd_own h, ho, getElem!_pos d k hk]; simp [hk]
/-- A row at work: its length, and what holds of each thing in it. -/
structure Rw (okP : α → Prop) (n : Nat) (d : Array α) : Prop where
  size : d.size = n
  ok : ∀ i, i < n → okP d[i]!
theorem Rw.swp {okP : α → Prop} {n : Nat} {d : Array α} (h : Rw okP n d) (i j : Nat) (hi : i < n) (hj : j < n) : Rw okP n (Go.Sort.swp d i j) := by
  refine ⟨by rw [Go.Sort.size_swp, h.size], fun k hk => ?_⟩
  have hs := h.size
  by_cases h1 : k = j
  · subst h1; rw [Go.Sort.swp_right d i k (by omega)]; exact h.ok i hi
  · by_cases h2 : k = i
    · subst h2; rw [Go.Sort.swp_left d k j (by omega) h1]; exact h.ok j hj
    · rw [Go.Sort.swp_other d i j k h2 h1]; exact h.ok k hk
/-! ### The plain sort's steps -/
section
variable (lt : α → α → Bool)
theorem ins_go {a j : Nat} {d : Array α} (h1 : a < j + 1) (h2 : lt d[j + 1]! d[j]! = true) : Go.Sort.insInner lt a j (Go.Sort.swp d (j + 1) j) = Go.Sort.insInner lt a (j + 1) d := by
  rw [Go.Sort.insInner.eq_def lt a (j + 1) d]; simp only []; rw [if_pos (by simp [h1, h2])]
theorem ins_no {a j : Nat} {d : Array α} (h2 : lt d[j + 1]! d[j]! = false) : d = Go.Sort.insInner lt a (j + 1) d := by
  rw [Go.Sort.insInner]; rw [if_neg (by simp [h2])]
theorem ins_end {a j : Nat} {d : Array α} (h1 : ¬ a < j) : d = Go.Sort.insInner lt a j d := by
  cases j with
  | zero => rfl
  | succ j => rw [Go.Sort.insInner]; rw [if_neg (by simp; omega)]
theorem outer_go {a b i : Nat} {d : Array α} (h : i < b) : Go.Sort.insOuter lt a b (i + 1) (Go.Sort.insInner lt a i d) = Go.Sort.insOuter lt a b i d := by
  rw [Go.Sort.insOuter.eq_def lt a b i d, if_pos h]
theorem outer_end {a b i : Nat} {d : Array α} (h : ¬ i < b) : d = Go.Sort.insOuter lt a b i d := by
  rw [Go.Sort.insOuter, if_neg h]
/-- The child that is looked at. -/
def child (hi first root : Nat) (d : Array α) : Nat := if 2 * root + 2 < hi ∧ lt d[first + (2 * root + 1)]! d[first + (2 * root + 2)]! = true then 2 * root + 2 else 2 * root + 1
theorem sift_leaf {hi first root : Nat} {d : Array α} (h : hi ≤ 2 * root + 1) : d = Go.Sort.siftDown lt hi first root d := by
  rw [Go.Sort.siftDown, dif_pos h]
theorem sift_stop {hi first root : Nat} {d : Array α} (h : ¬ hi ≤ 2 * root + 1) (h2 : lt d[first + root]! d[first + child lt hi first root d]! = false) : d = Go.Sort.siftDown lt hi first root d := by
  rw [Go.Sort.siftDown, dif_neg h]
  unfold child at h2
  by_cases hc : 2 * root + 2 < hi ∧ lt d[first + (2 * root + 1)]! d[first + (2 * root + 2)]! = true
  · rw [if_pos hc] at h2
    rw [if_pos (by simp; exact hc), if_pos (by simp [h2])]
  · rw [if_neg hc] at h2
    rw [if_neg (fun h => hc (by simp only [Bool.and_eq_true, decide_eq_true_eq] at h; exact h)), if_pos (by simp [h2])]
theorem sift_go {hi first root : Nat} {d : Array α} (h : ¬ hi ≤ 2 * root + 1) (h2 : lt d[first + root]! d[first + child lt hi first root d]! = true) :
    Go.Sort.siftDown lt hi first (child lt hi first root d) (Go.Sort.swp d (first + root) (first + child lt hi first root d)) = Go.Sort.siftDown lt hi first root d := by
  rw [Go.Sort.siftDown.eq_def lt hi first root d, dif_neg h]
  unfold child at *
  by_cases hc : 2 * root + 2 < hi ∧ lt d[first + (2 * root + 1)]! d[first + (2 * root + 2)]! = true
  · rw [if_pos hc] at h2 ⊢
    rw [if_pos (by simp; exact hc), if_neg (by simp [h2]), dif_pos hc.1]
  · rw [if_neg hc] at h2 ⊢
    rw [if_neg (fun h => hc (by simp only [Bool.and_eq_true, decide_eq_true_eq] at h; exact h)), if_neg (by simp [h2])]
theorem child_lt {hi first root : Nat} {d : Array α} (h : ¬ hi ≤ 2 * root + 1) : child lt hi first root d < hi ∧ root < child lt hi first root d := by
  unfold child; split <;> omega
theorem up_go {p : α → Bool} {d : Array α} {i j : Nat} (h : i ≤ j) (h2 : p d[i]! = true) : Go.Sort.scanUp p d j (i + 1) = Go.Sort.scanUp p d j i := by
  rw [Go.Sort.scanUp.eq_def p d j i, if_pos (by simp [h, h2])]
theorem up_end {p : α → Bool} {d : Array α} {i j : Nat} (h : ¬ i ≤ j) : i = Go.Sort.scanUp p d j i := by
  rw [Go.Sort.scanUp, if_neg (by simp; omega)]
theorem up_no {p : α → Bool} {d : Array α} {i j : Nat} (h : p d[i]! = false) : i = Go.Sort.scanUp p d j i := by
  rw [Go.Sort.scanUp, if_neg (by simp [h])]
theorem down_go {p : α → Bool} {d : Array α} {i j : Nat} (h : i ≤ j + 1) (h2 : p d[j + 1]! = true) : Go.Sort.scanDown p d i j = Go.Sort.scanDown p d i (j + 1) := by
  rw [Go.Sort.scanDown.eq_def p d i (j + 1)]; simp only []; rw [if_pos (by simp [h, h2])]
theorem down_end {p : α → Bool} {d : Array α} {i j : Nat} (h : ¬ i ≤ j) : j = Go.Sort.scanDown p d i j := by
  cases j with
  | zero => rfl
  | succ j => rw [Go.Sort.scanDown]; rw [if_neg (by simp; omega)]
theorem down_no {p : α → Bool} {d : Array α} {i j : Nat} (h0 : 0 < j) (h : p d[j]! = false) : j = Go.Sort.scanDown p d i j := by
  cases j with
  | zero => omega
  | succ j => rw [Go.Sort.scanDown]; rw [if_neg (by simp [h])]
theorem part_stop {a i j i2 j2 : Nat} {d : Array α} (h1 : i2 = Go.Sort.scanUp (fun x => lt x d[a]!) d j i) (h2 : j2 = Go.Sort.scanDown (fun x => !lt x d[a]!) d i2 j) (h : j2 < i2) : (j2, d) = Go.Sort.partLoop lt a i j d := by
  rw [Go.Sort.partLoop_eq, ← h1, ← h2, if_pos h]
theorem part_go {a i j i2 j2 : Nat} {d : Array α} (h1 : i2 = Go.Sort.scanUp (fun x => lt x d[a]!) d j i) (h2 : j2 = Go.Sort.scanDown (fun x => !lt x d[a]!) d i2 j) (h : ¬ j2 < i2) : Go.Sort.partLoop lt a (i2 + 1) (j2 - 1) (Go.Sort.swp d i2 j2) = Go.Sort.partLoop lt a i j d := by
  rw [Go.Sort.partLoop_eq lt a i j d, ← h1, ← h2, if_neg h]
theorem parteq_stop {a i j i2 j2 : Nat} {d : Array α} (h1 : i2 = Go.Sort.scanUp (fun x => !lt d[a]! x) d j i) (h2 : j2 = Go.Sort.scanDown (fun x => lt d[a]! x) d i2 j) (h : j2 < i2) : (i2, d) = Go.Sort.partEqLoop lt a i j d := by
  rw [Go.Sort.partEqLoop_eq, ← h1, ← h2, if_pos h]
theorem parteq_go {a i j i2 j2 : Nat} {d : Array α} (h1 : i2 = Go.Sort.scanUp (fun x => !lt d[a]! x) d j i) (h2 : j2 = Go.Sort.scanDown (fun x => lt d[a]! x) d i2 j) (h : ¬ j2 < i2) : Go.Sort.partEqLoop lt a (i2 + 1) (j2 - 1) (Go.Sort.swp d i2 j2) = Go.Sort.partEqLoop lt a i j d := by
  rw [Go.Sort.partEqLoop_eq lt a i j d, ← h1, ← h2, if_neg h]
theorem ss_go {d : Array α} {b i : Nat} (h : i < b) (h2 : lt d[i]! d[i - 1]! = false) : Go.Sort.scanSorted lt d b (i + 1) = Go.Sort.scanSorted lt d b i := by
  rw [Go.Sort.scanSorted.eq_def lt d b i, if_pos (by simp [h, h2])]
theorem ss_end {d : Array α} {b i : Nat} (h : ¬ i < b) : i = Go.Sort.scanSorted lt d b i := by
  rw [Go.Sort.scanSorted, if_neg (by simp; omega)]
theorem ss_no {d : Array α} {b i : Nat} (h2 : lt d[i]! d[i - 1]! = true) : i = Go.Sort.scanSorted lt d b i := by
  rw [Go.Sort.scanSorted, if_neg (by simp [h2])]
theorem sd_go {j : Nat} {d : Array α} (h2 : lt d[j + 1]! d[j]! = true) : Go.Sort.shiftDown lt j (Go.Sort.swp d (j + 1) j) = Go.Sort.shiftDown lt (j + 1) d := by
  rw [Go.Sort.shiftDown.eq_def lt (j + 1) d]; simp only []; rw [if_neg (by simp [h2])]
theorem sd_no {j : Nat} {d : Array α} (h2 : lt d[j + 1]! d[j]! = false) : d = Go.Sort.shiftDown lt (j + 1) d := by
  rw [Go.Sort.shiftDown]; rw [if_pos (by simp [h2])]
theorem su_go {b j : Nat} {d : Array α} (h : j < b) (h2 : lt d[j]! d[j - 1]! = true) : Go.Sort.shiftUp lt b (j + 1) (Go.Sort.swp d j (j - 1)) = Go.Sort.shiftUp lt b j d := by
  rw [Go.Sort.shiftUp.eq_def lt b j d, if_pos h, if_neg (by simp [h2])]
theorem su_no {b j : Nat} {d : Array α} (h2 : lt d[j]! d[j - 1]! = false) : d = Go.Sort.shiftUp lt b j d := by
  rw [Go.Sort.shiftUp]; split
  · rw [if_pos (by simp [h2])]
  · rfl
theorem su_end {b j : Nat} {d : Array α} (h : ¬ j < b) : d = Go.Sort.shiftUp lt b j d := by
  rw [Go.Sort.shiftUp, if_neg h]
theorem rev_go {i j : Nat} {d : Array α} (h : i < j) : Go.Sort.reverseLoop (i + 1) (j - 1) (Go.Sort.swp d i j) = Go.Sort.reverseLoop i j d := by
  rw [Go.Sort.reverseLoop.eq_def i j d, if_pos h]
theorem rev_end {i j : Nat} {d : Array α} (h : ¬ i < j) : d = Go.Sort.reverseLoop i j d := by
  rw [Go.Sort.reverseLoop, if_neg h]
end
end Srt
end Go.Proofs.Ytgidjbpgkeemiaa
