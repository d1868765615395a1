/-
  Plain mathematics of the order of bytes: five bytes stand in order as their numbers do, and so do records of one width. No program in sight.
-/
import Derived.Test.YtpeljbmbgjeomaaNumMath2
namespace Go.Proofs.Ytpeljbmbgjeomaa
set_option linter.unusedVariables false
namespace Num
theorem bytesLess_irrefl (a : List UInt8) : Op.bytesLess a a = false := by
  induction a with
  | nil => rfl
  | cons x a ih => simp [Op.bytesLess, ih]
theorem bytesLess_append (p a b : List UInt8) : Op.bytesLess (p ++ a) (p ++ b) = Op.bytesLess a b := by
  induction p with
  | nil => rfl
  | cons x p ih => simp [Op.bytesLess, ih]
/-- Of one length, the bytes ahead decide if they differ. -/
theorem bytesLess_diff (p q a b : List UInt8) (hl : p.length = q.length) (hne : p ≠ q) : Op.bytesLess (p ++ a) (q ++ b) = Op.bytesLess p q := by
  induction p generalizing q with
  | nil => cases q with
    | nil => exact absurd rfl hne
    | cons y q => simp at hl
  | cons x p ih =>
    cases q with
    | nil => simp at hl
    | cons y q =>
      simp only [List.cons_append, Op.bytesLess]
      by_cases h : x = y
      · subst h
        rw [ih q (by simpa using hl) (fun e => hne (by rw [e]))]
      · have : (x == y) = false := by simpa using h
        rw [this]; simp
theorem foldl_ofB (l : List UInt8) (a : Nat) : l.foldl (fun a b => 256 * a + b.toNat) a = a * 256 ^ l.length + ofB l := by
  induction l generalizing a with
  | nil => simp [ofB]
  | cons c l ih =>
    have h := ih (256 * a + c.toNat)
    have h0 := ih (256 * 0 + c.toNat)
    simp only [ofB, List.foldl_cons, List.length_cons] at h h0 ⊢
    rw [h, h0, Nat.pow_succ, Nat.add_mul, Nat.add_mul, Nat.mul_comm 256 a, Nat.mul_assoc a, Nat.mul_comm 256 (256 ^ _)]; omega
theorem ofB_cons (c : UInt8) (l : List UInt8) : ofB (c :: l) = c.toNat * 256 ^ l.length + ofB l := by
  have := foldl_ofB l (256 * 0 + c.toNat)
  simp only [ofB, List.foldl_cons] at this ⊢
  rw [this]; simp
theorem less_ofB (a b : List UInt8) (h : a.length = b.length) : Op.bytesLess a b = decide (ofB a < ofB b) := by
  induction a generalizing b with
  | nil => cases b with
    | nil => simp [Op.bytesLess]
    | cons y b => simp at h
  | cons x a ih =>
    cases b with
    | nil => simp at h
    | cons y b =>
      have hl : a.length = b.length := by simpa using h
      have ha := ofB_lt a; have hb := ofB_lt b
      rw [hl] at ha
      rw [Op.bytesLess, ih b hl, ofB_cons, ofB_cons, hl]
      generalize 256 ^ b.length = p at *
      have e : (decide (x < y) : Bool) = decide (x.toNat < y.toNat) := by rw [Bool.eq_iff_iff]; simp [UInt8.lt_iff_toNat_lt]
      have e2 : (x == y) = decide (x.toNat = y.toNat) := by rw [Bool.eq_iff_iff]; simp [← UInt8.toNat_inj]
      rw [e, e2]
      rcases Nat.lt_trichotomy x.toNat y.toNat with hxy | hxy | hxy
      · have : (x.toNat + 1) * p ≤ y.toNat * p := Nat.mul_le_mul_right _ hxy
        rw [Nat.add_mul] at this
        rw [decide_eq_true hxy, Bool.true_or]; exact (decide_eq_true (by omega)).symm
      · rw [hxy, Bool.eq_iff_iff]; simp
      · have : (y.toNat + 1) * p ≤ x.toNat * p := Nat.mul_le_mul_right _ hxy
        rw [Nat.add_mul] at this
        rw [decide_eq_false (by omega : ¬ x.toNat < y.toNat), decide_eq_false (by omega : ¬ x.toNat = y.toNat), Bool.false_and, Bool.false_or]
        exact (decide_eq_false (by omega)).symm
theorem less_five (n m : Nat) (hn : n < top) (hm : m < top) : Op.bytesLess (five n) (five m) = decide (n < m) := by
  rw [less_ofB (five n) (five m) rfl, ofB_five n hn, ofB_five m hm]
theorem five_inj (n m : Nat) (hn : n < top) (hm : m < top) (h : five n = five m) : n = m := by rw [← ofB_five n hn, ← ofB_five m hm, h]
theorem less_rec (a b : List Nat) (ha : ∀ x ∈ a, x < top) (hb : ∀ x ∈ b, x < top) (hl : a.length = b.length) : Op.bytesLess (recB a) (recB b) = lessB a b := by
  induction a generalizing b with
  | nil => cases b with
    | nil => rfl
    | cons y b => simp at hl
  | cons x a ih =>
    cases b with
    | nil => simp at hl
    | cons y b =>
      have hx := ha x (by simp); have hy := hb y (by simp)
      simp only [recB, List.flatMap_cons, lessB]
      by_cases h : x = y
      · subst h
        rw [bytesLess_append]
        have := ih b (fun z hz => ha z (by simp [hz])) (fun z hz => hb z (by simp [hz])) (by simpa using hl)
        simp only [recB] at this
        simp [this]
      · rw [bytesLess_diff _ _ _ _ (by rfl) (fun e => h (five_inj x y hx hy e)), less_five x y hx hy]
        simp [h]
theorem recOK_all {l : List Nat} (h : recOK l = true) : 1 ≤ l.length ∧ l.length ≤ 8 ∧ ∀ x ∈ l, x < top := by
  unfold recOK at h
  simp only [Bool.and_eq_true, decide_eq_true_eq, List.all_eq_true] at h
  exact ⟨h.1.1, h.1.2, h.2⟩
/-- A row of a record's bytes is the record. -/
theorem nrow_rec (p : List UInt8) (x : List Nat) (q : List UInt8) (hx : ∀ n ∈ x, n < top) : nrow (p ++ recB x ++ q) x.length p.length = x := by
  apply List.ext_getElem
  · simp [nrow]
  · intro i h1 h2
    simp only [nrow, List.getElem_map, List.getElem_range]
    have : (p ++ recB x ++ q).drop (p.length + 5 * i) = five x[i] ++ ((recB x).drop (5 * i + 5) ++ q) := by
      rw [List.append_assoc, List.drop_append, List.drop_of_length_le (by omega), List.nil_append, show p.length + 5 * i - p.length = 5 * i from by omega]
      have hd : ∀ (x : List Nat) (i : Nat) (h : i < x.length), (recB x).drop (5 * i) = five x[i] ++ (recB x).drop (5 * i + 5) := by
        intro x
        induction x with
        | nil => intro i h; simp at h
        | cons a x ih =>
          intro i h
          cases i with
          | zero => simp [recB, five]
          | succ i =>
            have hi := ih i (by simpa using h)
            simp only [recB, List.flatMap_cons] at hi ⊢
            rw [show 5 * (i + 1) = 5 + 5 * i from by omega, ← List.drop_drop, show 5 + 5 * i + 5 = 5 + (5 * i + 5) from by omega, ← List.drop_drop (i := 5 * i + 5) (j := 5)]
            simp only [List.getElem_cons_succ]
            have h5 : (five a ++ List.flatMap five x).drop 5 = List.flatMap five x := by rw [List.drop_append_of_le_length (by simp [five])]; simp [five]
            rw [h5]; exact hi
      rw [List.drop_append_of_le_length (by rw [recB_length]; omega), hd x i h2, List.append_assoc]
    rw [this, List.take_append_of_le_length (by simp [five]), List.take_of_length_le (by simp [five]), ofB_five _ (hx _ (List.getElem_mem _))]
/-- Records one behind the other. -/
def recsB (l : List (List Nat)) : List UInt8 := l.flatMap recB
theorem recsB_length (l : List (List Nat)) (w : Nat) (h : ∀ x ∈ l, x.length = w) : (recsB l).length = l.length * (5 * w) := by
  induction l with
  | nil => simp [recsB]
  | cons x l ih =>
    have hx := h x (by simp)
    simp only [recsB, List.flatMap_cons, List.length_append, recB_length, List.length_cons] at ih ⊢
    rw [ih (fun y hy => h y (by simp [hy])), hx, Nat.add_mul l.length 1]; omega
theorem rows_recs (l : List (List Nat)) (w : Nat) (hw : ∀ x ∈ l, x.length = w) (hx : ∀ x ∈ l, ∀ n ∈ x, n < top) : rowsTo (recsB l) w l.length = l := by
  apply List.ext_getElem
  · simp [rowsTo]
  · intro i h1 h2
    simp only [rowsTo, List.getElem_map, List.getElem_range]
    have hs : recsB l = recsB (l.take i) ++ recB l[i] ++ recsB (l.drop (i + 1)) := by
      simp only [recsB]
      rw [List.append_assoc, ← List.flatMap_cons, ← List.drop_eq_getElem_cons h2, ← List.flatMap_append, List.take_append_drop]
    have hp : (recsB (l.take i)).length = i * (5 * w) := by
      rw [recsB_length _ w (fun x hx => hw x (List.mem_of_mem_take hx)), List.length_take, Nat.min_eq_left (by omega)]
    have := nrow_rec (recsB (l.take i)) l[i] (recsB (l.drop (i + 1))) (hx _ (List.getElem_mem _))
    rw [hw _ (List.getElem_mem _), hp, ← hs] at this
    exact this
end Num
end Go.Proofs.Ytpeljbmbgjeomaa
