/-
  Plain mathematics of a disk: names in order, extents, what waits; what each operation answers. No program in sight.
-/
import Derived.Test.YtkeiphkccnfhoaaMem
namespace Go.Proofs.Ytkeiphkccnfhoaa
open Go.RowKit
set_option linter.unusedVariables false
set_option linter.unusedSimpArgs false
namespace Disk
/-! ### Texts in order -/
theorem bl_irrefl (a : List UInt8) : Op.bytesLess a a = false := by
  induction a with
  | nil => rfl
  | cons x a ih => simp [Op.bytesLess, ih]
theorem bl_trans : ∀ (a b c : List UInt8), Op.bytesLess a b = true → Op.bytesLess b c = true → Op.bytesLess a c = true
  | _, _, [], _, h => by simp [Op.bytesLess] at h
  | [], _, _ :: _, _, _ => rfl
  | x :: a, [], z :: c, h, _ => by simp [Op.bytesLess] at h
  | x :: a, y :: b, z :: c, h1, h2 => by
    simp only [Op.bytesLess, Bool.or_eq_true, Bool.and_eq_true, decide_eq_true_eq, beq_iff_eq] at h1 h2 ⊢
    rcases h1 with h1 | ⟨rfl, h1⟩
    · rcases h2 with h2 | ⟨rfl, h2⟩
      · left; exact UInt8.lt_trans h1 h2
      · left; exact h1
    · rcases h2 with h2 | ⟨rfl, h2⟩
      · left; exact h2
      · right; exact ⟨rfl, bl_trans a b c h1 h2⟩
theorem bl_tri : ∀ (a b : List UInt8), a ≠ b → Op.bytesLess a b = false → Op.bytesLess b a = true
  | [], [], h, _ => absurd rfl h
  | [], _ :: _, _, h => by simp [Op.bytesLess] at h
  | _ :: _, [], _, _ => rfl
  | x :: a, y :: b, hne, h => by
    simp only [Op.bytesLess, Bool.or_eq_false_iff, Bool.and_eq_false_iff, decide_eq_false_iff_not, Bool.or_eq_true, Bool.and_eq_true, decide_eq_true_eq, beq_iff_eq] at h ⊢
    by_cases e : x = y
    · subst e
      right
      refine ⟨rfl, bl_tri a b (fun e => hne (by rw [e])) ?_⟩
      rcases h.2 with h2 | h2
      · simp at h2
      · exact h2
    · left
      have h1 := h.1
      rcases Nat.lt_trichotomy x.toNat y.toNat with h' | h' | h'
      · exact absurd (UInt8.lt_iff_toNat_lt.2 h') h1
      · exact absurd (UInt8.toNat_inj.1 h') e
      · exact UInt8.lt_iff_toNat_lt.2 h'
def lt (a b : ByteArray) : Bool := Op.bytesLess a.data.toList b.data.toList
theorem lt_irrefl (a : ByteArray) : lt a a = false := bl_irrefl _
theorem lt_trans {a b c : ByteArray} (h : lt a b = true) (k : lt b c = true) : lt a c = true := bl_trans _ _ _ h k
theorem lt_tri {a b : ByteArray} (hne : a ≠ b) (h : lt a b = false) : lt b a = true := bl_tri _ _ (fun e => hne (Mv.str_ext e)) h
theorem lt_ne {a b : ByteArray} (h : lt a b = true) : a ≠ b := fun e => by subst e; rw [lt_irrefl] at h; cases h
theorem lt_asymm {a b : ByteArray} (h : lt a b = true) : lt b a = false := by
  cases h' : lt b a with
  | false => rfl
  | true => have := lt_trans h h'; rw [lt_irrefl] at this; cases this
/-! ### What a disk is -/
abbrev Ext := ByteArray × ByteArray
abbrev Wr := ByteArray × Int × ByteArray
def extF (x : Ext) : List Value := [.string x.1, .string x.2]
def wrF (x : Wr) : List Value := [.string x.1, .int .i64 x.2.1, .string x.2.2]
structure D where
  size : Int
  ext : List Ext
  waits : List Wr
  fuse : Int
  down : Bool
def D0 : D := ⟨0, [], [], 0, false⟩
def sec (x : Ext) : Nat := x.2.size / 64
def used : List Ext → Nat
  | [] => 0
  | x :: l => sec x + used l
theorem used_append (l m : List Ext) : used (l ++ m) = used l + used m := by
  induction l with
  | nil => simp [used]
  | cons x l ih => simp only [List.cons_append, used, ih]; omega
def nm (s : ByteArray) : Prop := s.size ≠ 0 ∧ s.size ≤ 16
instance (s : ByteArray) : Decidable (nm s) := by unfold nm; infer_instance
def eok (x : Ext) : Prop := nm x.1 ∧ x.2.size ≠ 0 ∧ x.2.size % 64 = 0
instance (x : Ext) : Decidable (eok x) := by unfold eok; infer_instance
def Asc (l : List Ext) : Prop := l.Pairwise fun x y => lt x.1 y.1 = true
def wok (l : List Ext) (w : Wr) : Prop := ∃ x ∈ l, x.1 = w.1 ∧ 0 ≤ w.2.1 ∧ w.2.1 < sec x ∧ w.2.2.size = 64
/-- Extents that are right for so many sectors. -/
structure ERight (l : List Ext) (size : Int) : Prop where
  ok : ∀ x ∈ l, eok x
  asc : Asc l
  us : (used l : Int) ≤ size
structure Right (d : D) : Prop where
  s0 : 0 ≤ d.size
  s1 : d.size ≤ 16384
  wl : d.waits.length ≤ 16384
  fu : -1 ≤ d.fuse
  ex : ERight d.ext d.size
  wr : ∀ w ∈ d.waits, wok d.ext w
theorem eok_sec {x : Ext} (h : eok x) : 1 ≤ sec x ∧ x.2.size = 64 * sec x := by
  obtain ⟨_, h1, h2⟩ := h; unfold sec; omega
theorem used_ge {l : List Ext} (h : ∀ x ∈ l, eok x) : l.length ≤ used l := by
  induction l with
  | nil => simp [used]
  | cons x l ih =>
    have h1 := (eok_sec (h x (by simp))).1
    have h2 := ih fun y hy => h y (by simp [hy])
    simp only [used, List.length_cons]; omega
theorem used_mem {l : List Ext} {x : Ext} (h : x ∈ l) : sec x ≤ used l := by
  induction l with
  | nil => cases h
  | cons y l ih =>
    simp only [used]
    rcases List.mem_cons.1 h with rfl | h
    · omega
    · have := ih h; omega
noncomputable def chkD (d : D) : Int := by
  classical exact if Right d then 0 else 2
theorem chkD_yes {d : D} (h : Right d) : chkD d = 0 := by unfold chkD; exact if_pos h
theorem chkD_no {d : D} (h : ¬ Right d) : chkD d = 2 := by unfold chkD; exact if_neg h
theorem chkD_or (d : D) : (chkD d = 0 ∧ Right d) ∨ (chkD d = 2 ∧ ¬ Right d) := by
  by_cases h : Right d
  · exact .inl ⟨chkD_yes h, h⟩
  · exact .inr ⟨chkD_no h, h⟩
/-! ### Where an extent is -/
/-- How many are ahead of a name. -/
def pos (l : List Ext) (s : ByteArray) : Nat := (l.takeWhile fun x => lt x.1 s).length
def has (l : List Ext) (s : ByteArray) : Bool := l.any fun x => decide (x.1 = s)
theorem has_iff {l : List Ext} {s : ByteArray} : has l s = true ↔ ∃ x ∈ l, x.1 = s := by simp [has]
theorem pos_le (l : List Ext) (s : ByteArray) : pos l s ≤ l.length := by
  unfold pos; exact (List.takeWhile_prefix _).length_le
theorem asc_tail {x : Ext} {l : List Ext} (h : Asc (x :: l)) : Asc l := (List.pairwise_cons.1 h).2
theorem asc_get {l : List Ext} (h : Asc l) {i j : Nat} (hj : j < l.length) (hij : i < j) : lt l[i].1 l[j].1 = true := List.pairwise_iff_getElem.1 h i j (by omega) hj hij
/-- It is the only place with: ahead all are less, behind none is. -/
theorem pos_iff {l : List Ext} {s : ByteArray} {k : Nat} (hk : k ≤ l.length) (h1 : ∀ i (h : i < l.length), i < k → lt l[i].1 s = true) (h2 : ∀ (h : k < l.length), lt l[k].1 s = false) : pos l s = k := by
  induction l generalizing k with
  | nil => simp at hk; subst hk; rfl
  | cons x l ih =>
    unfold pos
    cases k with
    | zero =>
      have := h2 (by simp)
      simp only [List.getElem_cons_zero] at this
      rw [List.takeWhile_cons, this]; rfl
    | succ k =>
      have h0 := h1 0 (by simp) (by omega)
      simp only [List.getElem_cons_zero] at h0
      rw [List.takeWhile_cons, h0]
      simp only [if_true, List.length_cons]
      have := ih (k := k) (by simpa using hk) (fun i h hi => by have := h1 (i + 1) (by simpa using h) (by omega); simpa using this) (fun h => by have := h2 (by simpa using h); simpa using this)
      unfold pos at this; omega
theorem pos_lt {l : List Ext} {s : ByteArray} {i : Nat} (hi : i < l.length) (h : i < pos l s) : lt l[i].1 s = true := by
  unfold pos at h
  have hp := List.takeWhile_prefix (l := l) (fun x => lt x.1 s)
  have h2 : (l.takeWhile fun x => lt x.1 s)[i] = l[i] := List.IsPrefix.getElem hp h
  have h3 := List.all_takeWhile (p := fun x : Ext => lt x.1 s) (l := l)
  have := List.all_eq_true.1 h3 _ (List.getElem_mem h)
  rw [h2] at this; exact this
theorem pos_at {l : List Ext} {s : ByteArray} (h : pos l s < l.length) : lt l[pos l s].1 s = false := by
  induction l with
  | nil => simp at h
  | cons x l ih =>
    by_cases hx : lt x.1 s = true
    · have e : pos (x :: l) s = pos l s + 1 := by unfold pos; rw [List.takeWhile_cons, hx]; rfl
      simp only [e, List.getElem_cons_succ]
      exact ih (by rw [e] at h; simpa using h)
    · have hx' : lt x.1 s = false := by simpa using hx
      have e : pos (x :: l) s = 0 := by unfold pos; rw [List.takeWhile_cons, hx']; rfl
      simp only [e, List.getElem_cons_zero]; exact hx'
/-- In a list that rises the name is there just if it is at its place. -/
theorem has_pos {l : List Ext} (ha : Asc l) (s : ByteArray) : has l s = true ↔ ∃ h : pos l s < l.length, l[pos l s].1 = s := by
  constructor
  · intro h
    obtain ⟨x, hx, rfl⟩ := has_iff.1 h
    obtain ⟨j, hj, rfl⟩ := List.getElem_of_mem hx
    have e : pos l l[j].1 = j := pos_iff (by omega) (fun i h hi => asc_get ha hj hi) (fun h => lt_irrefl _)
    exact ⟨by rw [e]; exact hj, by simp only [e]⟩
  · rintro ⟨h, e⟩
    exact has_iff.2 ⟨_, List.getElem_mem h, e⟩
theorem pos_mem {l : List Ext} (ha : Asc l) {j : Nat} (hj : j < l.length) : pos l l[j].1 = j := pos_iff (by omega) (fun i h hi => asc_get ha hj hi) (fun h => lt_irrefl _)
theorem asc_inj {l : List Ext} (ha : Asc l) {x y : Ext} (hx : x ∈ l) (hy : y ∈ l) (h : x.1 = y.1) : x = y := by
  obtain ⟨i, hi, rfl⟩ := List.getElem_of_mem hx
  obtain ⟨j, hj, rfl⟩ := List.getElem_of_mem hy
  have h1 := pos_mem ha hi
  have h2 := pos_mem ha hj
  rw [h] at h1
  have : i = j := by omega
  subst this; rfl
end Disk
end Go.Proofs.Ytkeiphkccnfhoaa
