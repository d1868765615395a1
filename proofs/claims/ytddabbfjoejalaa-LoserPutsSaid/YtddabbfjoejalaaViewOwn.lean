/-
  A view of memory, the eighth part: a slice that grows: nil, or a block of its own. No program in sight.
-/
import Derived.Test.YtddabbfjoejalaaViewMore
namespace Go.Proofs.Ytddabbfjoejalaa
open Go.RowKit
set_option linter.unusedVariables false
namespace Mv
theorem some_int {k : IntKind} {a b : Int} (h : a = b) : some (Value.int k a) = some (.int k b) := by rw [h]
theorem some_bool {a b : Bool} (h : a = b) : some (Value.bool a) = some (.bool b) := by rw [h]
theorem some_str {a b : ByteArray} (h : a = b) : some (Value.string a) = some (.string b) := by rw [h]
/-- A slice that grows: none, or a block of its own with so much room. -/
def outV (o : Option (Nat × Nat)) (n : Nat) : Value := match o with
  | none => .slice none 0 0
  | some (b, c) => .slice (some ⟨b, 0, none⟩) n c
def outM (S : Mem) (o : Option (Nat × Nat)) (e : TypeId) (cs : List Value) : Mem := match o with
  | none => S
  | some (b, c) => S.set b ⟨e, cs, c⟩
structure OkO (S : Mem) (o : Option (Nat × Nat)) (n : Nat) : Prop where
  nil : o = none → n = 0
  own : ∀ b c, o = some (b, c) → Fresh S b ∧ n ≤ c
theorem okO_nil (S : Mem) : OkO S none 0 := ⟨fun _ => rfl, fun b c e => by cases e⟩
theorem outM_over {S : Mem} {o : Option (Nat × Nat)} {n : Nat} {e : TypeId} {cs : List Value} (h : OkO S o n) : S.Less (outM S o e cs) := by
  cases o with
  | none => exact Mem.Less.refl _
  | some qc => obtain ⟨q, c⟩ := qc; exact Mem.less_set _ _ _ (h.own q c rfl).1.1
theorem own_outM {S : Mem} {o : Option (Nat × Nat)} {n : Nat} {e : TypeId} {cs : List Value} {b : Nat} {r : Blk} (h : OkO S o n) (hb : S.own b = some r) : (outM S o e cs).own b = some r := (outM_over h).1 b r hb
theorem fresh_outM {S : Mem} {o : Option (Nat × Nat)} {e : TypeId} {cs : List Value} {b : Nat} (h : Fresh (outM S o e cs) b) : Fresh S b ∧ ∀ q c, o = some (q, c) → b ≠ q := by
  cases o with
  | none => exact ⟨h, fun q c e => by cases e⟩
  | some qc =>
    obtain ⟨q, c⟩ := qc
    obtain ⟨h1, h2⟩ := fresh_set h
    exact ⟨h1, fun q' c' e => by cases e; exact h2⟩
theorem outM_more {S S' : Mem} (o : Option (Nat × Nat)) (e : TypeId) (cs : List Value) (h : S.Less S') : (outM S o e cs).Less (outM S' o e cs) := by
  cases o with
  | none => exact h
  | some qc => exact Less.set h _ _
theorem outM_set (S : Mem) (b : Nat) (o : Option (Nat × Nat)) (e : TypeId) (cs : List Value) (r : Blk) (ho : ∀ q c, o = some (q, c) → b ≠ q) : (outM S o e cs).set b r = outM (S.set b r) o e cs := by
  cases o with
  | none => rfl
  | some qc => exact Mem.set_comm _ _ _ (Ne.symm (ho _ _ rfl))
theorem fresh_more {S : Mem} {b q : Nat} {r : Blk} (h : Fresh S q) (hne : q ≠ b) : Fresh (S.set b r) q := ⟨by rw [Mem.own_set_other _ _ hne]; exact h.1, h.2⟩
theorem OkO.set {S : Mem} {b n : Nat} {o : Option (Nat × Nat)} {r : Blk} (h : OkO S o n) (ho : ∀ q c, o = some (q, c) → b ≠ q) : OkO (S.set b r) o n :=
  ⟨h.nil, fun q c e => ⟨fresh_more (h.own q c e).1 (Ne.symm (ho q c e)), (h.own q c e).2⟩⟩
theorem OkO.unset {S : Mem} {b n : Nat} {o : Option (Nat × Nat)} {r : Blk} (h : OkO (S.set b r) o n) : OkO S o n :=
  ⟨h.nil, fun q c e => ⟨(fresh_set (h.own q c e).1).1, (h.own q c e).2⟩⟩
/-- The memory M holds the slice, and S beside it. -/
structure AppO (M S : Mem) (o : Option (Nat × Nat)) (e : TypeId) (cs : List Value) : Prop where
  nil : o = none → cs = [] ∧ S.Less M
  own : ∀ b c, o = some (b, c) → M.own b = some ⟨e, cs, c⟩ ∧ S.Less (M.del b)
theorem appO_of {S : Mem} {o : Option (Nat × Nat)} {n t : Nat} {e : TypeId} {cs : List Value} {r : Blk} (h : OkO S o n) (hn : cs.length = n) (ht : Fresh (outM S o e cs) t) : AppO ((outM S o e cs).set t r) S o e cs := by
  obtain ⟨h1, h2⟩ := fresh_outM ht
  refine ⟨fun ho => ?_, fun b c ho => ?_⟩
  · subst ho
    exact ⟨List.eq_nil_of_length_eq_zero (by rw [hn]; exact h.nil rfl), Mem.less_set _ _ _ h1.1⟩
  · subst ho
    have hne := h2 b c rfl
    refine ⟨(Mem.own_set_other _ _ (Ne.symm hne)).trans (Mem.own_set_same _ _ _), ?_⟩
    have hb := (h.own b c rfl).1
    rw [show ((outM S (some (b, c)) e cs).set t r).del b = S.set t r from set_del_ne' hne (set_del_same' (del_base hb))]
    exact Mem.less_set _ _ _ h1.1
theorem appO_self {S : Mem} {o : Option (Nat × Nat)} {n : Nat} {e : TypeId} {cs : List Value} (h : OkO S o n) (hn : cs.length = n) : AppO (outM S o e cs) S o e cs := by
  refine ⟨fun ho => ?_, fun b c ho => ?_⟩
  · subst ho
    exact ⟨List.eq_nil_of_length_eq_zero (by rw [hn]; exact h.nil rfl), Mem.Less.refl _⟩
  · subst ho
    refine ⟨Mem.own_set_same _ _ _, ?_⟩
    rw [show (outM S (some (b, c)) e cs).del b = S from set_del_same' (del_base (h.own b c rfl).1)]
    exact Mem.Less.refl _
section
variable {P : Program} {N : Nat} {ops : Array Oper} {E : Env} {M S : Mem}
variable {ty : TypeId} {pos : String} {aft : Array Edge}
theorem AOp.toLess {o : Oper} {K : Env → Mem → Prop} (h : AOp P N ops o (fun E' S' => ∃ S0, S0.Less S' ∧ K E' S0) E M) : AOp P N ops o K E M := fun a w hg hv => by
  have h1 := h a w hg hv
  have next : ∀ a1 w1, Post N (fun E' S' => ∃ S0, S0.Less S' ∧ K E' S0) M w a1 w1 → Post N K M w a1 w1 := fun a1 w1 ⟨E1, S1, ⟨S0, hl, k⟩, g, s⟩ => ⟨E1, S0, k, g, s.less hl⟩
  split
  · rename_i hw; rw [if_pos hw] at h1; exact Oper.wp_mono next h1
  · rename_i hw; rw [if_neg hw] at h1; exact next _ _ h1
/-- append to a slice that grows. -/
theorem ARun.appendO {os : List Oper} {K : Env → Mem → Prop} {T e : TypeId} {y : Nat} {z : Value} {x1 x2 : Operand} {o : Option (Nat × Nat)} {n : Nat} {cs news : List Value} {a2 : Addr} {m c2 d : Nat} (hn : d < N) (hT : slT P T = some (e, 1, y, [z]))
    (hx : ev E x1 = some (outV o n)) (hcs : cs.length = n) (happ : AppO M S o e cs)
    (hy : ev E x2 = some (.slice (some a2) m c2)) (hnews : M.rds a2 news) (hnl : news.length = m) (hm : 0 < m) (h1 : ∀ v ∈ news, v.oneCell' = true) (hfit : (n + m) * y ≤ 140737488355328) (h63 : n + m ≤ 9223372036854775807)
    (h : ∀ b c, OkO S (some (b, c)) (n + m) → ARun P N ops os K ((d, outV (some (b, c)) (n + m)) :: E) (outM S (some (b, c)) e (cs ++ news))) :
    ARun P N ops (⟨some d, .call ⟨.builtin .append, #[x1, x2], #[T, T]⟩, ty, pos, aft, none⟩ :: os) K E M := by
  cases o with
  | none =>
    obtain ⟨q1, q2⟩ := happ.nil rfl
    subst q1
    simp only [List.length_nil] at hcs
    subst hcs
    refine AOp.toLess (K := fun E' S' => ARun P N ops os K E' S') ?_
    refine ARun.appendNil1 (os := []) hn hT hx hy hnews hnl hm (by simpa using hfit) (by omega) fun b c hb hc => ?_
    refine ⟨S.set b ⟨e, news, c⟩, Less.set q2 _ _, ?_⟩
    have := h b c ⟨(fun x => by cases x), fun b' c' x => by cases x; exact ⟨hb.less q2, by omega⟩⟩
    simpa [outM, outV] using this
  | some bc =>
    obtain ⟨b0, c0⟩ := bc
    obtain ⟨q1, q2⟩ := happ.own b0 c0 rfl
    refine AOp.toLess (K := fun E' S' => ARun P N ops os K E' S') ?_
    refine ARun.append1 (os := []) hn hT hx q1 hcs hy hnews hnl h1 hfit h63 rfl fun b c hb hc => ?_
    refine ⟨S.set b ⟨e, cs ++ news, c⟩, Less.set q2 _ _, ?_⟩
    exact h b c ⟨(fun x => by cases x), fun b' c' x => by cases x; exact ⟨hb.less q2, hc⟩⟩
/-- append of one slice that grows to another one; the second one is forgotten. -/
theorem ARun.appendOO {os : List Oper} {K : Env → Mem → Prop} {T e : TypeId} {y : Nat} {z : Value} {x1 x2 : Operand} {o o2 : Option (Nat × Nat)} {n m d : Nat} {cs cs2 : List Value} (hn : d < N) (hT : slT P T = some (e, 1, y, [z]))
    (hx : ev E x1 = some (outV o n)) (hcs : cs.length = n) (ho : OkO S o n) (hy : ev E x2 = some (outV o2 m)) (hcs2 : cs2.length = m) (ho2 : OkO (outM S o e cs) o2 m) (h1 : ∀ v ∈ cs2, v.oneCell' = true) (hfit : (n + m) * y ≤ 140737488355328) (h63 : n + m ≤ 9223372036854775807)
    (h : ∀ o', OkO S o' (n + m) → ARun P N ops os K ((d, outV o' (n + m)) :: E) (outM S o' e (cs ++ cs2))) :
    ARun P N ops (⟨some d, .call ⟨.builtin .append, #[x1, x2], #[T, T]⟩, ty, pos, aft, none⟩ :: os) K E (outM (outM S o e cs) o2 e cs2) := by
  by_cases hm : m = 0
  · subst hm
    obtain rfl : cs2 = [] := List.eq_nil_of_length_eq_zero hcs2
    have h2 := h o ho
    rw [Nat.add_zero, List.append_nil] at h2
    refine AOp.toLess (K := fun E' S' => ARun P N ops os K E' S') ?_
    have hless : (outM S o e cs).Less (outM (outM S o e cs) o2 e []) := outM_over ho2
    cases o with
    | none =>
      have := ho.nil rfl; subst this
      cases o2 with
      | none => exact ARun.appendNone (os := []) hn hT (Nat.le_refl 0) hx hy ⟨_, hless, h2⟩
      | some bc => exact ARun.appendNone (os := []) hn hT (Nat.le_refl 0) hx hy ⟨_, hless, h2⟩
    | some bc0 =>
      have hc := (ho.own bc0.1 bc0.2 rfl).2
      cases o2 with
      | none => exact ARun.appendNone (os := []) hn hT hc hx hy ⟨_, hless, h2⟩
      | some bc => exact ARun.appendNone (os := []) hn hT hc hx hy ⟨_, hless, h2⟩
  · cases o2 with
    | none => exact absurd (ho2.nil rfl) hm
    | some bc =>
      obtain ⟨b2, c2⟩ := bc
      have hf := (ho2.own b2 c2 rfl).1
      obtain ⟨q1, q2⟩ := fresh_outM hf
      have happ : AppO (outM (outM S o e cs) (some (b2, c2)) e cs2) S o e cs := by
        refine ⟨fun hz => ?_, fun b c hz => ?_⟩
        · subst hz
          exact ⟨List.eq_nil_of_length_eq_zero (by rw [hcs]; exact ho.nil rfl), outM_over ho2⟩
        · subst hz
          have hne := q2 b c rfl
          refine ⟨own_outM ho2 (Mem.own_set_same _ _ _), ?_⟩
          rw [show (outM (outM S (some (b, c)) e cs) (some (b2, c2)) e cs2).del b = S.set b2 ⟨e, cs2, c2⟩ from set_del_ne' hne (set_del_same' (del_base (ho.own b c rfl).1))]
          exact Mem.less_set _ _ _ q1.1
      refine ARun.appendO hn hT hx hcs happ hy (rds_own (r := ⟨e, cs2, c2⟩) (Mem.own_set_same _ _ _)) hcs2 (by omega) h1 hfit h63 fun b c hbc => h _ hbc
end
end Mv
end Go.Proofs.Ytddabbfjoejalaa
