/-
  A view of memory, the fifth part: a region that draws its order. What only looks is taken first, the rest comes up in one order. No program in sight.
-/
import Derived.Test.YtddabbfjoejalaaViewSlice
import Derived.OrdersHeld
namespace Go.Proofs.Ytddabbfjoejalaa
open Go.RowKit
set_option linter.unusedVariables false
namespace Mv
def Closed (ops : Array Oper) (listed : Array Bool) : Prop := ∀ k o, ops[k]? = some o → listed.getD k false = true → ∀ e ∈ o.after, Region.binds .any e = true → listed.getD e.on false = true
theorem closed_start (ops : Array Oper) (n : Nat) : Closed ops (Array.replicate n false) := fun k o _ h => by
  by_cases e : k < n <;> simp [e] at h
theorem closed_put {ops : Array Oper} {listed : Array Bool} (h : Closed ops listed) {i : Nat} (hi : i ∈ Region.ready .any ops listed) : Closed ops (listed.setIfInBounds i true) := fun k o hk hl e he hb => by
  refine getD_set_true ?_
  by_cases hki : i = k
  · subst hki
    obtain ⟨_, o', ho', hall⟩ := mem_ready.1 hi
    obtain rfl : o = o' := Option.some.inj (hk.symm.trans ho')
    exact hall e he hb
  · rw [getD_set_ne false hki] at hl
    exact h k o hk hl e he hb
/-- Ancestors of each operation, as masks. -/
def anc1 (acc : List Nat) (o : Oper) : Nat := o.after.toList.foldl (fun m e => if Region.binds .any e then m ||| (1 <<< e.on) ||| acc.getD e.on 0 else m) 0
def ancs (l : List Oper) : List Nat := l.foldl (fun acc o => acc ++ [anc1 acc o]) []
theorem testBit_one (i n : Nat) (h : Nat.testBit (1 <<< n) i = true) : i = n := by
  rw [Nat.one_shiftLeft, Nat.testBit_two_pow] at h
  have : n = i := by simpa using h
  exact this.symm
theorem anc1_spec (acc : List Nat) (es : List Edge) (m0 i : Nat) (h : Nat.testBit (es.foldl (fun m e => if Region.binds .any e then m ||| (1 <<< e.on) ||| acc.getD e.on 0 else m) m0) i = true) :
    Nat.testBit m0 i = true ∨ ∃ e ∈ es, Region.binds .any e = true ∧ (i = e.on ∨ Nat.testBit (acc.getD e.on 0) i = true) := by
  induction es generalizing m0 with
  | nil => exact .inl h
  | cons e es ih =>
    rw [List.foldl_cons] at h
    rcases ih _ h with h1 | ⟨e', he', hb, h2⟩
    · split at h1
      · rename_i hb
        simp only [Nat.testBit_or, Bool.or_eq_true] at h1
        rcases h1 with (h1 | h1) | h1
        · exact .inl h1
        · exact .inr ⟨e, by simp, hb, .inl (testBit_one _ _ h1)⟩
        · exact .inr ⟨e, by simp, hb, .inr h1⟩
      · exact .inl h1
    · exact .inr ⟨e', by simp [he'], hb, h2⟩
/-- Wherever j may come up, i has come up. -/
def Anc (ops : Array Oper) (i j : Nat) : Prop := ∀ listed, Closed ops listed → (∀ o, ops[j]? = some o → ∀ e ∈ o.after, Region.binds .any e = true → listed.getD e.on false = true) → listed.getD i false = true
theorem ancs_good (ops : Array Oper) : ∀ (l : List Oper) (pre acc : List Nat) (k : Nat), (∀ j, l[j]? = ops[k + j]?) → acc.length = k → (∀ j i, Nat.testBit (acc.getD j 0) i = true → ∃ o, ops[j]? = some o ∧ Anc ops i j) →
    ∀ j i, Nat.testBit ((l.foldl (fun acc o => acc ++ [anc1 acc o]) acc).getD j 0) i = true → ∃ o, ops[j]? = some o ∧ Anc ops i j := by
  intro l
  induction l with
  | nil => intro pre acc k _ _ h; exact h
  | cons o l ih =>
    intro pre acc k hl hk h
    rw [List.foldl_cons]
    have h0 : ops[k]? = some o := by simpa using (hl 0).symm
    refine ih [] (acc ++ [anc1 acc o]) (k + 1) (fun j => by have := hl (j + 1); simpa [Nat.add_assoc, Nat.add_comm 1 j] using this) (by simp [hk]) fun j i hb => ?_
    rcases Nat.lt_trichotomy j acc.length with hj | hj | hj
    · have e : (acc ++ [anc1 acc o]).getD j 0 = acc.getD j 0 := by simp [List.getD, List.getElem?_append_left hj]
      rw [e] at hb
      exact h j i hb
    · have e : (acc ++ [anc1 acc o]).getD j 0 = anc1 acc o := by subst hj; simp [List.getD]
      rw [e] at hb
      have hjk : j = k := by omega
      subst hjk
      refine ⟨o, h0, fun listed hc hall => ?_⟩
      rcases anc1_spec acc o.after.toList 0 i hb with h1 | ⟨e, he, hbi, h1⟩
      · simp at h1
      · have hel := hall o h0 e (by simpa using he) hbi
        rcases h1 with h1 | h1
        · rw [h1]; exact hel
        · obtain ⟨o', ho', ha⟩ := h e.on i h1
          exact ha listed hc fun o2 ho2 e2 he2 hb2 => hc e.on o2 ho2 hel e2 he2 hb2
    · have e : (acc ++ [anc1 acc o]).getD j 0 = 0 := by simp [List.getD]; rw [List.getElem?_eq_none (by simp; omega)]; rfl
      rw [e] at hb; simp at hb
def waitsFor (l : List Oper) (i j : Nat) : Bool := Nat.testBit ((ancs l).getD j 0) i
theorem waitsFor_spec {l : List Oper} {i j : Nat} (h : waitsFor l i j = true) : Anc l.toArray i j := by
  obtain ⟨_, _, h2⟩ := ancs_good l.toArray l [] [] 0 (by simp) rfl (fun j i hb => by simp at hb) j i h
  exact h2

section
variable {P : Program} {ops : Array Oper} {Q : Exit → Act → World → Prop} {W : Nat → Bool} {C : World → Prop}
/-- Whatever order is picked from here on; C holds behind each operation that is not of W. -/
def wpAnyG (P : Program) (ops : Array Oper) (Q : Exit → Act → World → Prop) (W : Nat → Bool) (C : World → Prop) : Nat → Array Bool → Act → World → Prop
  | 0, listed, a, w => Region.ready .any ops listed = [] ∧ Q .normal a w
  | fuel + 1, listed, a, w =>
    (Region.ready .any ops listed = [] → Q .normal a w) ∧
    ∀ i ∈ Region.ready .any ops listed, wpOp P ops Q i (fun a' w' => (W i = false → C w → C w') ∧ wpAnyG P ops Q W C fuel (listed.setIfInBounds i true) a' w') a w
theorem wpAny_of_G : ∀ (fuel : Nat) (listed : Array Bool) (a : Act) (w : World), wpAnyG P ops Q W C fuel listed a w → wpAny P .any ops Q fuel listed a w
  | 0, _, _, _, h => h
  | fuel + 1, _, _, _, h => ⟨h.1, fun i hi => wpOp_mono (fun a' w' h' => wpAny_of_G fuel _ a' w' h'.2) (h.2 i hi)⟩
theorem wpAnyG_first {D : World → Prop} {i : Nat} {oi : Oper} {v : Value} (hi : ops[i]? = some oi) (hsel : ∀ (j : Nat) (o : Oper) cs b, ops[j]? = some o → o.op ≠ .select cs b)
    (hQ : ∀ c a w, Q (.panic c) (a.put oi.dst v) w → Q (.panic c) a w)
    (hD : ∀ j w w' listed, Closed ops listed → listed.getD i true = false → j ∈ Region.ready .any ops listed → D w → (W j = false → C w → C w') → D w') :
    ∀ (fuel : Nat) (listed : Array Bool) (a : Act) (w : World), Closed ops listed →
      (∀ j oj, ops[j]? = some oj → j ≠ i → listed.getD j true = false → (∀ e ∈ oj.after, Region.binds .any e = true → e.on ≠ i) → oi.apart ops oj = true) →
      i ∈ Region.ready .any ops listed → YieldsIf P ops D oi v a → D w →
      wpAnyG P ops Q W C fuel (listed.setIfInBounds i true) (a.put oi.dst v) w → wpAnyG P ops Q W C (fuel + 1) listed a w := by
  intro fuel
  induction fuel with
  | zero =>
    intro listed a w hcl _ hr hy hS H
    refine ⟨fun h => (by rw [h] at hr; cases hr), fun j hj => ?_⟩
    by_cases hji : j = i
    · subst hji; exact hy.wpOp hi hS ⟨fun _ h => h, H⟩
    · have := ready_mono hj hji
      rw [H.1] at this
      cases this
  | succ fuel ih =>
    intro listed a w hcl hfree hr hy hS H
    refine ⟨fun h => (by rw [h] at hr; cases hr), fun j hj => ?_⟩
    by_cases hji : j = i
    · subst hji; exact hy.wpOp hi hS ⟨fun _ h => h, H⟩
    · have h1 := H.2 j (ready_mono hj hji)
      obtain ⟨hjun, oj, hoj, hall⟩ := mem_ready.1 hj
      have hun : listed.getD i true = false := (mem_ready.1 hr).1
      have hnot : ∀ e ∈ oj.after, Region.binds .any e = true → e.on ≠ i := fun e he hb heq => by
        have h1 := hall e he hb
        rw [heq] at h1
        rcases Nat.lt_or_ge i listed.size with h' | h'
        · simp [h'] at hun h1; rw [hun] at h1; cases h1
        · simp [Array.getElem?_eq_none h'] at h1
      have h2 := wpOp_putIf hoj (hfree j oj hoj hji hjun hnot) (fun cs b => hsel i oi cs b hi) (fun cs b => hsel j oj cs b hoj) hQ hy h1
      have hfree' : ∀ k ok, ops[k]? = some ok → k ≠ i → (listed.setIfInBounds j true).getD k true = false →
          (∀ e ∈ ok.after, Region.binds .any e = true → e.on ≠ i) → oi.apart ops ok = true := fun k ok hk hki hun hno => by
        refine hfree k ok hk hki ?_ hno
        by_cases hjk : j = k
        · subst hjk; exact hjun
        · rw [getD_set_ne true hjk] at hun; exact hun
      refine wpOp_mono (fun a' w' h3 => ?_) h2
      refine ⟨h3.2.1, ih (listed.setIfInBounds j true) a' w' (closed_put hcl hj) hfree' (ready_mono hr (Ne.symm hji)) h3.1 (hD j w w' listed hcl hun hj hS h3.2.1) ?_⟩
      rw [Array.setIfInBounds_comm _ _ hji]
      exact h3.2.2
end

/-! ### The walk of such a region -/
/-- Does the operation hang on no memory? -/
def pureOp (o : Oper) : Bool := match o.op with
  | .move _ | .assign _ | .pick .. | .binOp .. | .unOp .. | .nilCheck _ | .fieldAddr .. | .extract .. | .indexAddr .. | .slice .. | .build .. => true
  | _ => false
def noMem : Mem := ⟨fun _ => none, fun _ => none⟩
theorem view_noMem (w : World) : View noMem w := ⟨fun _ _ h => (by cases h), fun _ _ h => (by cases h)⟩
/-- May number i be taken first? -/
def mayFirst (l : List Oper) (W : List Nat) (listed : Array Bool) (i : Nat) : Bool :=
  (Region.ready .any l.toArray listed).contains i && Region.free .any l.toArray listed i && ((l[i]?).any pureOp || W.all fun j => waitsFor l i j)
/-- The steps: (i, true): number i is taken first; (i, false): number i alone may come up. -/
def stepsOK (l : List Oper) (W : List Nat) : List (Nat × Bool) → Array Bool → Bool
  | [], listed => (Region.ready .any l.toArray listed).isEmpty
  | (i, b) :: is, listed => (if b then mayFirst l W listed i else Region.ready .any l.toArray listed == [i]) && stepsOK l W is (listed.setIfInBounds i true)
def drawOK (l : List Oper) (st : List (Nat × Bool)) (W : List Nat) : Bool :=
  Region.noSelect l.toArray && (st.length == l.length) && stepsOK l W st (Array.replicate l.length false)
section
variable {P : Program} {N : Nat}
/-- An operation that only looks, or that its guard passes over. -/
def ACalmG (P : Program) (N : Nat) (ops : Array Oper) (o : Oper) (E : Env) (S : Mem) (v : Value) : Prop := ∀ a w, Good N E a → View S w →
  (Region.wanted o (yielded ops a.tmps) = true ∧ (execOp a.eval o).run P w = .ok (.value v) w) ∨ (Region.wanted o (yielded ops a.tmps) = false ∧ v = undef)
/-- The steps, one behind the other. -/
def DrawRun (P : Program) (N : Nat) (l : List Oper) (W : List Nat) (S0 : Mem) : List (Nat × Bool) → (Env → Mem → Prop) → Env → Mem → Prop
  | [], K, E, S => K E S
  | (i, true) :: is, K, E, S => ∃ o d v, l[i]? = some o ∧ o.dst = some d ∧ d < N ∧ (pureOp o = true ∨ S0.Less S) ∧ ACalmG P N l.toArray o E (if pureOp o then noMem else S0) v ∧ DrawRun P N l W S0 is K ((d, v) :: E) S
  | (i, false) :: is, K, E, S => ∃ o, l[i]? = some o ∧ AOp P N l.toArray o (fun E' S' => (W.contains i = false → S0.Less S') ∧ DrawRun P N l W S0 is K E' S') E S
def Q0 (N : Nat) (K : Env → Mem → Prop) (S : Mem) (w : World) : Exit → Act → World → Prop
  | .normal, a', w' => Post N K S w a' w'
  | _, _, _ => False
theorem draw_G {l : List Oper} {W : List Nat} {S0 : Mem} {w0 : World} {K : Env → Mem → Prop} (hsel : Region.noSelect l.toArray = true) : ∀ (st : List (Nat × Bool)) (listed : Array Bool) (E : Env) (S : Mem) (a : Act) (w : World),
    stepsOK l W st listed = true → Closed l.toArray listed → DrawRun P N l W S0 st K E S → Good N E a → View S w → Step S0 w0 S w → wpAnyG P l.toArray (Q0 N K S0 w0) (fun i => W.contains i) (View S0) st.length listed a w := by
  intro st
  induction st with
  | nil =>
    intro listed E S a w hr hcl h g hv hs
    exact ⟨by simpa [stepsOK] using hr, E, S, h, g, hs⟩
  | cons p is ih =>
    obtain ⟨i, b⟩ := p
    intro listed E S a w hr hcl h g hv hs
    cases b with
    | false =>
      simp only [stepsOK, Bool.and_eq_true, beq_iff_eq, Bool.false_eq_true, if_false] at hr
      obtain ⟨hr1, hr2⟩ := hr
      refine ⟨fun h0 => (by rw [hr1] at h0; cases h0), fun j hj => ?_⟩
      have hj' := hj
      rw [hr1] at hj
      obtain rfl : j = i := by simpa using hj
      obtain ⟨o, ho, hop⟩ := h
      have h1 := hop a w g hv
      unfold wpOp
      have ho' : l.toArray[j]? = some o := by simpa using ho
      simp only [ho']
      have next : ∀ a1 w1, Post N (fun E' S' => (W.contains j = false → S0.Less S') ∧ DrawRun P N l W S0 is K E' S') S w a1 w1 → (W.contains j = false → View S0 w → View S0 w1) ∧ wpAnyG P l.toArray (Q0 N K S0 w0) (fun i => W.contains i) (View S0) is.length (listed.setIfInBounds j true) a1 w1 := fun a1 w1 ⟨E1, S1, ⟨k1, k2⟩, g1, s1⟩ =>
        ⟨fun hw _ => s1.view.less (k1 hw), ih _ E1 S1 a1 w1 hr2 (closed_put hcl hj') k2 g1 s1.view (hs.trans s1)⟩
      split
      · rename_i hw; rw [if_pos hw] at h1
        exact .inl (upon_noQ (Oper.wp_mono next h1))
      · rename_i hw; rw [if_neg hw] at h1
        exact next _ _ h1
    | true =>
      simp only [stepsOK, Bool.and_eq_true, if_true] at hr
      obtain ⟨hc1, hc2⟩ := hr
      obtain ⟨o, d, v, ho, hd, hn, hless, hcalm, hrest⟩ := h
      simp only [mayFirst, Bool.and_eq_true, Bool.or_eq_true] at hc1
      obtain ⟨⟨hr, hf⟩, hp⟩ := hc1
      have ho' : l.toArray[i]? = some o := by simpa using ho
      have hri : i ∈ Region.ready .any l.toArray listed := by simpa using hr
      let D : World → Prop := fun w' => if pureOp o = true then True else View S0 w'
      have hDw : D w := by
        simp only [D]
        split
        · trivial
        · rename_i hx
          exact hv.less (hless.resolve_left hx)
      have hmem : ∀ w', D w' → View (if pureOp o then noMem else S0) w' := fun w' h => by
        simp only [D] at h
        split
        · exact view_noMem _
        · rename_i hx; rw [if_neg hx] at h; exact h
      refine wpAnyG_first (D := D) (v := v) ho' (Region.noSelect_spec hsel) (fun c a w h => h) ?_ is.length listed a w hcl (Region.free_spec ho' hf) hri ?_ hDw ?_
      · intro j w1 w2 listed' hcl' hun hj hD1 hpres
        simp only [D] at hD1 ⊢
        split
        · trivial
        · rename_i hx
          rw [if_neg hx] at hD1
          refine hpres ?_ hD1
          rcases hp with hp | hp
          · rw [ho] at hp; exact absurd (by simpa using hp) hx
          · cases hwc : W.contains j with
            | false => rfl
            | true =>
              have h1 := List.all_eq_true.1 hp j (by simpa using hwc)
              obtain ⟨hju, oj, hoj, hall⟩ := mem_ready.1 hj
              have h2 := waitsFor_spec h1 listed' hcl' fun o2 ho2 e he hb => by
                obtain rfl : oj = o2 := Option.some.inj (hoj.symm.trans ho2)
                exact hall e he hb
              rcases Nat.lt_or_ge i listed'.size with hlt | hge
              · simp [hlt] at hun h2; rw [hun] at h2; cases h2
              · simp [Array.getElem?_eq_none hge] at h2
      · by_cases hw : Region.wanted o (yielded l.toArray a.tmps) = true
        · refine .inl ⟨hw, fun w' hD' => ?_⟩
          rcases hcalm a w' g (hmem w' hD') with h1 | h1
          · exact h1.2
          · rw [hw] at h1; cases h1.1
        · rcases hcalm a w g (hmem w hDw) with h1 | h1
          · exact absurd h1.1 hw
          · exact .inr h1
      · rw [hd]
        exact ih (listed.setIfInBounds i true) _ S _ w hc2 (closed_put hcl hri) hrest (g.put hn v) hv hs
/-- A region that draws its order. -/
theorem AWP.draw {id : Nat} {l : List Oper} {Q : Exit → Env → Mem → Prop} {E : Env} {S : Mem} (st : List (Nat × Bool)) (W : List Nat) (hm : P.follows .mixedOrders = true) (hok : drawOK l st W = true)
    (h : DrawRun P N l W S st (Q .normal) E S) : AWP P N (.region id l.toArray true) Q E S := fun a w g hv => by
  simp only [drawOK, Bool.and_eq_true, beq_iff_eq] at hok
  obtain ⟨⟨h1, h2⟩, h3⟩ := hok
  refine wp_mono (Q := Q0 N (Q .normal) S w) ?_ (fun e a' w' x => by cases e <;> first | exact x | exact x.elim)
  refine wp_region_any hm ?_
  refine wpAny_of_G (W := fun i => W.contains i) (C := View S) _ _ _ _ ?_
  have hsz : l.toArray.size = st.length := by simp [h2]
  rw [hsz]
  have hst : Step S w S { w with drawn := w.drawn + 1 } := Step.drawn hv _
  exact draw_G h1 st _ E S a _ (by rw [h2]; exact h3) (closed_start _ _) h g hst.view hst
end
end Mv
end Go.Proofs.Ytddabbfjoejalaa
