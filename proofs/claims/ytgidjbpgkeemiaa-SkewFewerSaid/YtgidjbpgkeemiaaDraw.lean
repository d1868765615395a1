/-
  A region that draws its order, of which more than one operation may come up: told step by step, each of those that may come up.
-/
import Derived.Test.YtgidjbpgkeemiaaMem
namespace Go.Proofs.Ytgidjbpgkeemiaa
open Go.RowKit
set_option linter.unusedVariables false
namespace Mv
section
variable {P : Program} {N : Nat} {l : List Oper} {W : List Nat} {S0 : Mem} {K : Env → Mem → Prop}
/-- From here on, whatever comes up. -/
def DG (P : Program) (N : Nat) (l : List Oper) (W : List Nat) (S0 : Mem) (K : Env → Mem → Prop) (n : Nat) (listed : Array Bool) (E : Env) (S : Mem) : Prop :=
  ∀ w0 a w, Closed l.toArray listed → Good N E a → View S w → Step S0 w0 S w → wpAnyG P l.toArray (Q0 N K S0 w0) (fun i => W.contains i) (View S0) n listed a w
theorem DG.nil {listed : Array Bool} {E : Env} {S : Mem} (hr : Region.ready .any l.toArray listed = []) (h : K E S) : DG P N l W S0 K 0 listed E S :=
  fun w0 a w _ g hv hs => ⟨hr, E, S, h, g, hs⟩
/-- Each of those that may come up. -/
theorem DG.fork {n : Nat} {listed : Array Bool} {E : Env} {S : Mem} (is : List Nat) (hr : (Region.ready .any l.toArray listed == is) = true) (hne : is ≠ [])
    (h : ∀ i ∈ is, ∃ o, l[i]? = some o ∧ AOp P N l.toArray o (fun E' S' => (W.contains i = false → S0.Less S') ∧ DG P N l W S0 K n (listed.setIfInBounds i true) E' S') E S) : DG P N l W S0 K (n + 1) listed E S := fun w0 a w hcl g hv hs => by
  have hr := beq_iff_eq.1 hr
  refine ⟨fun h0 => absurd (hr.symm.trans h0) hne, fun j hj => ?_⟩
  have hj' := hj
  rw [hr] at hj
  obtain ⟨o, ho, hop⟩ := h j hj
  have h1 := hop a w g hv
  unfold wpOp
  have ho' : l.toArray[j]? = some o := by simpa using ho
  simp only [ho']
  have next : ∀ a1 w1, Post N (fun E' S' => (W.contains j = false → S0.Less S') ∧ DG P N l W S0 K n (listed.setIfInBounds j true) E' S') S w a1 w1 → (W.contains j = false → View S0 w → View S0 w1) ∧ wpAnyG P l.toArray (Q0 N K S0 w0) (fun i => W.contains i) (View S0) n (listed.setIfInBounds j true) a1 w1 := fun a1 w1 ⟨E1, S1, ⟨k1, k2⟩, g1, s1⟩ =>
    ⟨fun hw _ => s1.view.less (k1 hw), k2 w0 a1 w1 (closed_put hcl hj') g1 s1.view (hs.trans s1)⟩
  split
  · rename_i hw; rw [if_pos hw] at h1
    exact .inl (upon_noQ (Oper.wp_mono next h1))
  · rename_i hw; rw [if_neg hw] at h1
    exact next _ _ h1
theorem DG.fork1 {n : Nat} {listed : Array Bool} {E : Env} {S : Mem} (i : Nat) (hr : (Region.ready .any l.toArray listed == [i]) = true)
    (h : ∃ o, l[i]? = some o ∧ AOp P N l.toArray o (fun E' S' => (W.contains i = false → S0.Less S') ∧ DG P N l W S0 K n (listed.setIfInBounds i true) E' S') E S) : DG P N l W S0 K (n + 1) listed E S :=
  DG.fork [i] hr (by simp) fun j hj => by
    have e : j = i := by simpa using hj
    rw [e]; exact h
theorem DG.fork2 {n : Nat} {listed : Array Bool} {E : Env} {S : Mem} (i j : Nat) (hr : (Region.ready .any l.toArray listed == [i, j]) = true)
    (h : ∃ o, l[i]? = some o ∧ AOp P N l.toArray o (fun E' S' => (W.contains i = false → S0.Less S') ∧ DG P N l W S0 K n (listed.setIfInBounds i true) E' S') E S)
    (k : ∃ o, l[j]? = some o ∧ AOp P N l.toArray o (fun E' S' => (W.contains j = false → S0.Less S') ∧ DG P N l W S0 K n (listed.setIfInBounds j true) E' S') E S) : DG P N l W S0 K (n + 1) listed E S :=
  DG.fork [i, j] hr (by simp) fun q hq => by
    rcases List.mem_cons.1 hq with rfl | hq
    · exact h
    · obtain rfl : q = j := by simpa using hq
      exact k
/-- One that only looks is taken first. -/
theorem DG.first {n : Nat} {listed : Array Bool} {E : Env} {S : Mem} (i : Nat) (hsel : Region.noSelect l.toArray = true) (hc1 : mayFirst l W listed i = true)
    (h : ∃ o d v, l[i]? = some o ∧ o.dst = some d ∧ d < N ∧ (pureOp o = true ∨ S0.Less S) ∧ ACalmG P N l.toArray o E (if pureOp o then noMem else S0) v ∧ DG P N l W S0 K n (listed.setIfInBounds i true) ((d, v) :: E) S) : DG P N l W S0 K (n + 1) listed E S := fun w0 a w hcl g hv hs => by
  obtain ⟨o, d, v, ho, hd, hn, hless, hcalm, hrest⟩ := h
  simp only [mayFirst, Bool.and_eq_true, Bool.or_eq_true] at hc1
  obtain ⟨⟨hr, hf⟩, hp⟩ := hc1
  have ho' : l.toArray[i]? = some o := by simpa using ho
  have hri : i ∈ Region.ready .any l.toArray listed := by simpa using hr
  let D : World → Prop := fun w' => if pureOp o = true then True else View S0 w'
  have hDw : D w := by
    simp only [D]
    split
    · trivial
    · rename_i hx
      exact hv.less (hless.resolve_left hx)
  have hmem : ∀ w', D w' → View (if pureOp o then noMem else S0) w' := fun w' h => by
    simp only [D] at h
    split
    · exact view_noMem _
    · rename_i hx; rw [if_neg hx] at h; exact h
  refine wpAnyG_first (D := D) (v := v) ho' (Region.noSelect_spec hsel) (fun c a w h => h) ?_ n listed a w hcl (Region.free_spec ho' hf) hri ?_ hDw ?_
  · intro j w1 w2 listed' hcl' hun hj hD1 hpres
    simp only [D] at hD1 ⊢
    split
    · trivial
    · rename_i hx
      rw [if_neg hx] at hD1
      refine hpres ?_ hD1
      rcases hp with hp | hp
      · rw [ho] at hp; exact absurd (by simpa using hp) hx
      · cases hwc : W.contains j with
        | false => rfl
        | true =>
          have h1 := List.all_eq_true.1 hp j (by simpa using hwc)
          obtain ⟨hju, oj, hoj, hall⟩ := mem_ready.1 hj
          have h2 := waitsFor_spec h1 listed' hcl' fun o2 ho2 e he hb => by
            obtain rfl : oj = o2 := Option.some.inj (hoj.symm.trans ho2)
            exact hall e he hb
          rcases Nat.lt_or_ge i listed'.size with hlt | hge
          · simp [hlt] at hun h2; rw [hun] at h2; cases h2
          · simp [Array.getElem?_eq_none hge] at h2
  · by_cases hw : Region.wanted o (yielded l.toArray a.tmps) = true
    · refine .inl ⟨hw, fun w' hD' => ?_⟩
      rcases hcalm a w' g (hmem w' hD') with h1 | h1
      · exact h1.2
      · rw [hw] at h1; cases h1.1
    · rcases hcalm a w g (hmem w hDw) with h1 | h1
      · exact absurd h1.1 hw
      · exact .inr h1
  · rw [hd]
    exact hrest w0 _ w (closed_put hcl hri) (g.put hn v) hv hs
theorem DG.pure {n : Nat} {listed : Array Bool} {E : Env} {S : Mem} {o : Oper} {d : Nat} {v : Value} (i : Nat) (hsel : Region.noSelect l.toArray = true) (hc1 : mayFirst l W listed i = true) (ho : l[i]? = some o) (hp : pureOp o = true) (hg : o.guard = none) (hd : o.dst = some d) (hn : d < N)
    (hc : ∀ S', ACalm P N o E S' v) (h : DG P N l W S0 K n (listed.setIfInBounds i true) ((d, v) :: E) S) : DG P N l W S0 K (n + 1) listed E S :=
  DG.first i hsel hc1 ⟨o, d, v, ho, hd, hn, .inl hp, fun a w g hv => .inl ⟨by simp [Region.wanted, hg], hc _ a w g hv⟩, h⟩
theorem DG.look {n : Nat} {listed : Array Bool} {E : Env} {S : Mem} {o : Oper} {d : Nat} {v : Value} (i : Nat) (hsel : Region.noSelect l.toArray = true) (hc1 : mayFirst l W listed i = true) (ho : l[i]? = some o) (hp : pureOp o = false) (hg : o.guard = none) (hd : o.dst = some d) (hn : d < N) (hl : S0.Less S)
    (hc : ACalm P N o E S0 v) (h : DG P N l W S0 K n (listed.setIfInBounds i true) ((d, v) :: E) S) : DG P N l W S0 K (n + 1) listed E S :=
  DG.first i hsel hc1 ⟨o, d, v, ho, hd, hn, .inr hl, fun a w g hv => .inl ⟨by simp [Region.wanted, hg], by rw [hp] at hv; exact hc a w g hv⟩, h⟩
theorem DG.only {n : Nat} {listed : Array Bool} {E : Env} {S : Mem} {o : Oper} (i : Nat) (hr : (Region.ready .any l.toArray listed == [i]) = true) (ho : l[i]? = some o)
    (h : ARun P N l.toArray [o] (fun E' S' => (W.contains i = false → S0.Less S') ∧ DG P N l W S0 K n (listed.setIfInBounds i true) E' S') E S) : DG P N l W S0 K (n + 1) listed E S := DG.fork1 i hr ⟨o, ho, h⟩
theorem DG.two {n : Nat} {listed : Array Bool} {E : Env} {S : Mem} {o o' : Oper} (i j : Nat) (hr : (Region.ready .any l.toArray listed == [i, j]) = true) (ho : l[i]? = some o)
    (h : ARun P N l.toArray [o] (fun E' S' => (W.contains i = false → S0.Less S') ∧ DG P N l W S0 K n (listed.setIfInBounds i true) E' S') E S) (ho' : l[j]? = some o')
    (h' : ARun P N l.toArray [o'] (fun E' S' => (W.contains j = false → S0.Less S') ∧ DG P N l W S0 K n (listed.setIfInBounds j true) E' S') E S) : DG P N l W S0 K (n + 1) listed E S := DG.fork2 i j hr ⟨o, ho, h⟩ ⟨o', ho', h'⟩
theorem DG.end_ {listed : Array Bool} {E : Env} {S : Mem} (hr : (Region.ready .any l.toArray listed).isEmpty = true) (h : K E S) : DG P N l W S0 K 0 listed E S := DG.nil (by simpa using hr) h
theorem AWP.drawG {id : Nat} {Q : Exit → Env → Mem → Prop} {E : Env} {S : Mem} (W : List Nat) (hm : P.follows .mixedOrders = true)
    (h : DG P N l W S (Q .normal) l.length (Array.replicate l.length false) E S) : AWP P N (.region id l.toArray true) Q E S := fun a w g hv => by
  refine wp_mono (Q := Q0 N (Q .normal) S w) ?_ (fun e a' w' x => by cases e <;> first | exact x | exact x.elim)
  refine wp_region_any hm ?_
  refine wpAny_of_G (W := fun i => W.contains i) (C := View S) _ _ _ _ ?_
  have hst : Step S w S { w with drawn := w.drawn + 1 } := Step.drawn hv _
  have := h w a _ (closed_start _ _) g hst.view hst
  simpa using this
/-- A region of which we keep the slots E0, over the memory ahead of it. -/
theorem AWP.drawTo {id : Nat} {rest : Code} {Q : Exit → Env → Mem → Prop} {E : Env} {S : Mem} (E0 : Env) (W : List Nat) (hm : P.follows .mixedOrders = true)
    (hreg : DG P N l W S (fun E' S' => Exit.normal = Exit.normal ∧ Sub E0 E' ∧ S.Less S') l.length (Array.replicate l.length false) E S) (h : Athen (AWP P N rest Q) Q .normal E0 S) : AWP P N (.region id l.toArray true) (Athen (AWP P N rest Q) Q) E S :=
  (AWP.drawG (Q := fun e E' S' => e = .normal ∧ Sub E0 E' ∧ S.Less S') W hm hreg).mono fun e E' S' ⟨he, hs, hl⟩ => by subst he; exact AWP.less S hl (AWP.sub E0 hs h)
end
end Mv
end Go.Proofs.Ytgidjbpgkeemiaa
