/-
  Disk: what is seen of a sector: the last write that waits for it, else what its extent has; the same behind a sync, or of what a crash leaves.
-/
import Derived.Test.YtkeiphkccnfhoaaDiskR0
import Derived.Test.YtkeiphkccnfhoaaDiskIter
namespace Go.Proofs.Ytkeiphkccnfhoaa
open Go.RowKit
open Mv Disk
set_option linter.unusedVariables false
set_option linter.unusedSimpArgs false
def hit (s : ByteArray) (k : Int) (y : Nat × Wr) : Bool := y.2.2.1 == k && (y.2.1.toList == s.toList)
def lastW (l : List Wr) (s : ByteArray) (k : Int) : Option (Nat × Wr) := (upto (backF l) l.length).find? (hit s k)
def readD (d : D) (s : ByteArray) (k : Int) : ByteArray × Int :=
  if (placeD d s k).2 ≠ 0 then (ByteArray.empty, (placeD d s k).2) else match lastW d.waits s k with
    | some y => (y.2.2.2, 0)
    | none => ((exOf d.ext s).2.extract (64 * k.toNat) (64 * k.toNat + 64), 0)
/-- What is seen when so many of the writes (of these) have been met. -/
def seeW (kp : Nat → Bool) (l : List Wr) (s : ByteArray) (k : Int) (b : ByteArray) : Nat → ByteArray
  | 0 => b
  | n + 1 => match l[n]? with
    | some w => if w.1 = s ∧ w.2.1 = k ∧ kp n = true then w.2.2 else seeW kp l s k b n
    | none => seeW kp l s k b n
theorem seeW_succ (kp : Nat → Bool) (l : List Wr) (s : ByteArray) (k : Int) (b : ByteArray) {n : Nat} (h : n < l.length) : seeW kp l s k b (n + 1) = if l[n].1 = s ∧ l[n].2.1 = k ∧ kp n = true then l[n].2.2 else seeW kp l s k b n := by
  rw [seeW, List.getElem?_eq_getElem h]
def allK : Nat → Bool := fun _ => true
def revN (l : List Wr) (n : Nat) : List (Nat × Wr) := (List.range n).reverse.map fun i => (i, l.getD i w0)
theorem upto_rev (l : List Wr) : upto (backF l) l.length = revN l l.length := by
  unfold upto revN
  refine List.ext_getElem (by simp) fun i h1 h2 => ?_
  simp only [List.length_map, List.length_range] at h1
  simp [backF, List.getElem_reverse]
theorem revN_succ (l : List Wr) (n : Nat) : revN l (n + 1) = (n, l.getD n w0) :: revN l n := by
  unfold revN; rw [List.range_succ, List.reverse_append]; rfl
theorem toList_inj' {a b : ByteArray} : (a.toList == b.toList) = decide (a = b) := by
  rw [Bool.eq_iff_iff, beq_iff_eq, decide_eq_true_eq]
  exact ⟨fun h => str_ext (by rw [← Lib.toList_data, ← Lib.toList_data]; exact h), fun h => by rw [h]⟩
theorem find_see (l : List Wr) (s : ByteArray) (k : Int) (b : ByteArray) : ∀ n, n ≤ l.length → (match (revN l n).find? (hit s k) with | some y => y.2.2.2 | none => b) = seeW allK l s k b n
  | 0, _ => rfl
  | n + 1, h => by
    rw [revN_succ, seeW_succ _ _ _ _ _ (by omega), List.find?_cons]
    have e : l.getD n w0 = l[n] := by simp [List.getD, List.getElem?_eq_getElem (show n < l.length by omega)]
    have eh : hit s k (n, l.getD n w0) = decide (l[n].1 = s ∧ l[n].2.1 = k ∧ allK n = true) := by
      rw [e]; unfold hit allK
      rw [toList_inj', Bool.eq_iff_iff]; simp [and_comm]
    rw [eh]
    by_cases q : l[n].1 = s ∧ l[n].2.1 = k ∧ allK n = true
    · rw [if_pos q, decide_eq_true q, e]
    · rw [if_neg q, decide_eq_false q]; exact find_see l s k b n (by omega)
/-- What is seen, in plain words. -/
def seen (d : D) (s : ByteArray) (k : Int) : ByteArray := seeW allK d.waits s k ((exOf d.ext s).2.extract (64 * k.toNat) (64 * k.toNat + 64)) d.waits.length
theorem readD_see (d : D) (s : ByteArray) (k : Int) : readD d s k = if (placeD d s k).2 ≠ 0 then (ByteArray.empty, (placeD d s k).2) else (seen d s k, 0) := by
  unfold readD seen
  by_cases q : (placeD d s k).2 ≠ 0
  · rw [if_pos q, if_pos q]
  · rw [if_neg q, if_neg q, ← find_see _ _ _ _ _ (Nat.le_refl _)]
    unfold lastW
    rw [upto_rev]
    cases (revN d.waits d.waits.length).find? (hit s k) <;> rfl
/-! ### A sector of what was done -/
theorem ba_extract_bs (x : ByteArray) (i j : Nat) : x.extract i j = bs ((x.data.toList.take j).drop i) := by
  apply str_ext
  rw [bs_data, ByteArray.data_extract, Array.toList_extract, List.extract_eq_take_drop, List.drop_take]
theorem cut_other {α : Type} (X W : List α) (m k : Nat) (hW : W.length = 64) (hm : 64 * m + 64 ≤ X.length) (hk : 64 * k + 64 ≤ X.length) : ((X.take (64 * m) ++ W ++ X.drop (64 * m + 64)).take (64 * k + 64)).drop (64 * k) = if m = k then W else (X.take (64 * k + 64)).drop (64 * k) := by
  apply List.ext_getElem?
  intro i
  by_cases e : m = k
  · subst e
    rw [if_pos rfl, List.getElem?_drop, List.getElem?_take]
    by_cases hi : i < 64
    · rw [if_pos (by omega), List.getElem?_append_left (by simp; omega), List.getElem?_append_right (by simp; omega)]
      congr 1; simp; omega
    · rw [if_neg (by omega), List.getElem?_eq_none (by omega)]
  · rw [if_neg e, List.getElem?_drop, List.getElem?_take, List.getElem?_drop, List.getElem?_take]
    by_cases hi : i < 64
    · rw [if_pos (by omega), if_pos (by omega)]
      rcases Nat.lt_or_ge k m with q | q
      · rw [List.getElem?_append_left (by simp; omega), List.getElem?_append_left (by simp; omega), List.getElem?_take, if_pos (by omega)]
      · rw [List.getElem?_append_right (by simp; omega), List.getElem?_drop]
        congr 1; simp; omega
    · rw [if_neg (by omega), if_neg (by omega)]
theorem putS_see {x : ByteArray} {w : Wr} {k : Nat} (h1 : 64 * w.2.1.toNat + 64 ≤ x.size) (h2 : w.2.2.size = 64) (hk : 64 * k + 64 ≤ x.size) : (putS x w).extract (64 * k) (64 * k + 64) = if w.2.1.toNat = k then w.2.2 else x.extract (64 * k) (64 * k + 64) := by
  rw [ba_extract_bs, ba_extract_bs]
  have hx : x.data.toList.length = x.size := size_data x
  have hw : w.2.2.data.toList.length = 64 := by rw [size_data, h2]
  have hp : (putS x w).data.toList = x.data.toList.take (64 * w.2.1.toNat) ++ w.2.2.data.toList ++ x.data.toList.drop (64 * w.2.1.toNat + 64) := by unfold putS; rw [bs_data]
  rw [hp, cut_other _ _ _ _ hw (by omega) (by omega)]
  split
  · exact bs_of _
  · rfl
theorem acc_see {kp : Nat → Bool} {x : Ext} {l : List Wr} {k : Nat} (hf : Fit x l) (hk : 64 * k + 64 ≤ x.2.size) : ∀ n, n ≤ l.length → ((accW kp x l n).getD x.2).extract (64 * k) (64 * k + 64) = seeW kp l x.1 (k : Int) (x.2.extract (64 * k) (64 * k + 64)) n
  | 0, _ => rfl
  | n + 1, h => by
    have ih := acc_see (kp := kp) hf hk n (by omega)
    have hs := acc_size (kp := kp) hf n (by omega)
    rw [accW_succ kp x l n (by omega), seeW_succ _ _ _ _ _ (by omega)]
    by_cases q : l[n].1 = x.1 ∧ kp n = true
    · obtain ⟨h0, h1, h2⟩ := hf _ (List.getElem_mem (by omega : n < l.length)) q.1
      rw [if_pos q, Option.getD_some, putS_see (by rw [hs]; exact h1) h2 (by rw [hs]; exact hk)]
      by_cases e : l[n].2.1 = (k : Int)
      · rw [if_pos (by omega), if_pos ⟨q.1, e, q.2⟩]
      · rw [if_neg (by omega), if_neg (fun z => e z.2.1)]; exact ih
    · rw [if_neg q, if_neg (fun z => q ⟨z.1, z.2.2⟩)]; exact ih
theorem seeW_mem (kp : Nat → Bool) (l : List Wr) (s : ByteArray) (k : Int) (b : ByteArray) : ∀ n, seeW kp l s k b n = b ∨ ∃ w ∈ l, w.1 = s ∧ w.2.1 = k ∧ seeW kp l s k b n = w.2.2
  | 0 => .inl rfl
  | n + 1 => by
    by_cases h : n < l.length
    · rw [seeW_succ _ _ _ _ _ h]
      by_cases q : l[n].1 = s ∧ l[n].2.1 = k ∧ kp n = true
      · rw [if_pos q]; exact .inr ⟨_, List.getElem_mem h, q.1, q.2.1, rfl⟩
      · rw [if_neg q]; exact seeW_mem kp l s k b n
    · rw [seeW, List.getElem?_eq_none (by omega)]; exact seeW_mem kp l s k b n
theorem seeW_front (kp : Nat → Bool) (l m : List Wr) (s : ByteArray) (k : Int) (b : ByteArray) : ∀ n, n ≤ l.length → seeW kp (l ++ m) s k b n = seeW kp l s k b n
  | 0, _ => rfl
  | n + 1, h => by
    rw [seeW_succ _ _ _ _ _ (show n < (l ++ m).length by simp; omega), seeW_succ _ _ _ _ _ (show n < l.length by omega), List.getElem_append_left (by omega), seeW_front kp l m s k b n (by omega)]
theorem seeW_snoc (kp : Nat → Bool) (l : List Wr) (w : Wr) (s : ByteArray) (k : Int) (b : ByteArray) : seeW kp (l ++ [w]) s k b (l ++ [w]).length = if w.1 = s ∧ w.2.1 = k ∧ kp l.length = true then w.2.2 else seeW kp l s k b l.length := by
  rw [show (l ++ [w]).length = l.length + 1 by simp, seeW_succ _ _ _ _ _ (by simp), seeW_front _ _ _ _ _ _ _ (Nat.le_refl _)]
  simp
/-! ### Behind what is done -/
theorem seen_add (d : D) (s' : ByteArray) (i : Int) (data s : ByteArray) (k : Int) : seen (addW d (s', i, data)) s k = if s' = s ∧ i = k then data else seen d s k := by
  unfold seen addW
  rw [seeW_snoc]
  simp only [allK, and_true]
theorem exOf_mem {l : List Ext} (ha : Asc l) {x : Ext} (hx : x ∈ l) : exOf l x.1 = x := by
  obtain ⟨i, hi, rfl⟩ := List.getElem_of_mem hx
  have e := pos_mem ha hi
  rw [exOf_eq (by rw [e]; exact hi)]
  simp only [e]
theorem exOf_has {l : List Ext} {s : ByteArray} (ha : Asc l) (h : has l s = true) : exOf l s ∈ l ∧ (exOf l s).1 = s := by
  obtain ⟨x, hx, rfl⟩ := has_iff.1 h
  rw [exOf_mem ha hx]; exact ⟨hx, rfl⟩
theorem exOf_map {f : Ext → Ext} (hf : ∀ x, (f x).1 = x.1) {l : List Ext} {s : ByteArray} (ha : Asc l) (h : has l s = true) : exOf (l.map f) s = f (exOf l s) := by
  obtain ⟨x, hx, rfl⟩ := has_iff.1 h
  have := exOf_mem (asc_map hf ha) (List.mem_map_of_mem hx)
  rw [hf] at this
  rw [this, exOf_mem ha hx]
theorem place0 {d : D} {s : ByteArray} {k : Int} (h : (placeD d s k).2 = 0) : has d.ext s = true ∧ 0 ≤ k ∧ k < sec (exOf d.ext s) := by
  unfold placeD at h
  by_cases q : has d.ext s = true
  · rw [if_pos q] at h
    by_cases q1 : k < 0 ∨ (sec (exOf d.ext s) : Int) ≤ k
    · rw [if_pos q1] at h; simp at h
    · exact ⟨q, by omega, by omega⟩
  · rw [if_neg q] at h; simp at h
theorem seen_settle {d : D} {s : ByteArray} {k : Int} (hR : Right d) (h : (placeD d s k).2 = 0) (kp : Nat → Bool) : seen (settleD d kp) s k = seeW kp d.waits s k ((exOf d.ext s).2.extract (64 * k.toNat) (64 * k.toNat + 64)) d.waits.length := by
  obtain ⟨hh, h0, h1⟩ := place0 h
  obtain ⟨hm, hn⟩ := exOf_has hR.ex.asc hh
  have hs := (eok_sec (hR.ex.ok _ hm)).2
  obtain ⟨m, rfl⟩ : ∃ m : Nat, k = m := ⟨k.toNat, by omega⟩
  unfold seen settleD
  simp only [List.length_nil, seeW]
  rw [exOf_map (f := doneX kp d.waits) (fun _ => rfl) hR.ex.asc hh]
  have := acc_see (kp := kp) (k := m) (right_fit hR hm) (by omega) d.waits.length (Nat.le_refl _)
  rw [hn] at this
  exact this
end Go.Proofs.Ytkeiphkccnfhoaa
