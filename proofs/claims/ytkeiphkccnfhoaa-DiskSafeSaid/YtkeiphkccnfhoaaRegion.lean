/-
  A region that draws its order, met operation by operation: what each operation needs is what the operations ahead of it have left; no order is gone through.
-/
import Derived.Test.YtkeiphkccnfhoaaBase
import Derived.Orders
namespace Go.Proofs.Ytkeiphkccnfhoaa
open Go.RowKit
set_option linter.unusedVariables false
namespace Reg

/-- What one operation of a region comes to: a value, or a call that returns one. -/
def Yield (P : Program) (m : Sem Next) (w : World) (R : Value → World → Prop) : Prop :=
  match m.run P w with
  | .ok (.value v) w' => R v w'
  | .ok .skip w' => R undef w'
  | .ok (.enter f args) w' => Calls P f args w' fun e w'' => ∃ v, e = .returned v ∧ R v w''
  | _ => False

/-- The slot d is written by no operation that may have run ahead of operation i. -/
def before (ops : Array Oper) (i d : Nat) : Bool := ops.toList.all fun o => o.dst != some d || o.after.toList.any (fun e => Region.binds .any e && e.on == i)

/-- One done more. -/
def upd (s : Nat → Bool) (i : Nat) : Nat → Bool := fun k => k == i || s k
theorem upd_same (s : Nat → Bool) (i : Nat) : upd s i i = true := by simp [upd]
theorem upd_other (s : Nat → Bool) {i k : Nat} (h : k ≠ i) : upd s i k = s k := by simp [upd, h]
/-- Operation k waits for operation i. -/
def waits (ops : Array Oper) (i k : Nat) : Bool := ((ops[k]?).map fun o => o.after.toList.any fun e => Region.binds .any e && e.on == i).getD false

/-- One operation: what it needs, what it gives. 's': which are done. -/
def Step (P : Program) (ops : Array Oper) (T : Array Value) (D : Nat → Value → World → Prop) (I : (Nat → Bool) → World → Prop) (Ext : World → World → Prop) (i : Nat) (o : Oper) : Prop :=
  ∀ (a : Act) (w : World) (s : Nat → Bool), a.tmps.size = T.size → I s w →
    (∀ e ∈ o.after, Region.binds .any e = true → ∀ o' d, ops[e.on]? = some o' → o'.dst = some d → D e.on (a.eval (.tmp d)) w) →
    (∀ e ∈ o.after, Region.binds .any e = true → s e.on = true) → s i = false → (∀ k, waits ops i k = true → s k = false) →
    (∀ d, before ops i d = true → a.eval (.tmp d) = T.getD d undef) →
    match o.guard with
    | none => Yield P (execOp a.eval o) w fun v w' => D i v w' ∧ I (upd s i) w' ∧ Ext w w'
    | some (g, want) => ∃ b og dg, ops[g]? = some og ∧ og.dst = some dg ∧ a.eval (.tmp dg) = .bool b ∧
        if b = want then Yield P (execOp a.eval o) w fun v w' => D i v w' ∧ I (upd s i) w' ∧ Ext w w' else D i undef w ∧ I (upd s i) w ∧ Ext w w

/-- The region's text is in order: each slot written once, edges lead back. -/
def good (ops : Array Oper) (n : Nat) : Bool :=
  (ops.toList.filterMap (·.dst)).all (· < n) &&
  ((List.range ops.size).all fun i => (List.range ops.size).all fun j => i == j || ((ops[i]?).bind (·.dst)).isNone || ((ops[i]?).bind (·.dst)) != ((ops[j]?).bind (·.dst))) &&
  ((List.range ops.size).all fun i => ((ops[i]?).map fun o => o.after.all fun e => decide (e.on < i)).getD true)

structure Inv (ops : Array Oper) (T : Array Value) (df : List Deferred) (D : Nat → Value → World → Prop) (I : (Nat → Bool) → World → Prop) (listed : Array Bool) (a : Act) (w : World) : Prop where
  df : a.defers = df
  sz : a.tmps.size = T.size
  base : ∀ d, (∀ k o, ops[k]? = some o → o.dst = some d → listed.getD k false = false) → a.tmps.getD d undef = T.getD d undef
  done : ∀ k o d, ops[k]? = some o → o.dst = some d → listed.getD k false = true → D k (a.tmps.getD d undef) w
  closed : ∀ k o, ops[k]? = some o → listed.getD k false = true → ∀ e ∈ o.after, Region.binds .any e = true → listed.getD e.on false = true
  lsz : listed.size = ops.size
  inv : I (fun k => listed.getD k false) w

theorem good_dst {ops : Array Oper} {n : Nat} (h : good ops n = true) {i : Nat} {o : Oper} {d : Nat} (hi : ops[i]? = some o) (hd : o.dst = some d) : d < n := by
  simp only [good, Bool.and_eq_true, List.all_eq_true, decide_eq_true_eq] at h
  exact h.1.1 d (List.mem_filterMap.2 ⟨o, by simpa using Array.mem_of_getElem? hi, hd⟩)
theorem good_one {ops : Array Oper} {n : Nat} (h : good ops n = true) {i j : Nat} {o o' : Oper} {d : Nat} (hi : ops[i]? = some o) (hj : ops[j]? = some o') (hd : o.dst = some d) (hd' : o'.dst = some d) : i = j := by
  simp only [good, Bool.and_eq_true, List.all_eq_true] at h
  have hil := (Array.getElem?_eq_some_iff.1 hi).1
  have hjl := (Array.getElem?_eq_some_iff.1 hj).1
  have := h.1.2 i (List.mem_range.2 hil) j (List.mem_range.2 hjl)
  simpa [hi, hj, hd, hd'] using this
theorem good_back {ops : Array Oper} {n : Nat} (h : good ops n = true) {i : Nat} {o : Oper} (hi : ops[i]? = some o) {e : Edge} (he : e ∈ o.after) : e.on < i := by
  simp only [good, Bool.and_eq_true, List.all_eq_true] at h
  have hil := (Array.getElem?_eq_some_iff.1 hi).1
  have := h.2 i (List.mem_range.2 hil)
  simp only [hi, Option.map_some, Option.getD_some, Array.all_eq_true_iff_forall_mem, decide_eq_true_eq] at this
  exact this e he

theorem getD_put (T : Array Value) (d : Nat) (v : Value) (h : d < T.size) (k : Nat) : (T.setIfInBounds d v).getD k undef = if k = d then v else T.getD k undef := by
  simp only [Array.getD_eq_getD_getElem?, Array.getElem?_setIfInBounds]
  by_cases e : d = k
  · subst e; simp [h]
  · simp [e, Ne.symm e]

theorem getD_flag {listed : Array Bool} {i : Nat} (h : i < listed.size) (b : Bool) : listed.getD i b = listed.getD i (!b) := by simp [h]

section
variable {P : Program} {ops : Array Oper} {Q : Exit → Act → World → Prop} {T : Array Value} {df : List Deferred} {D : Nat → Value → World → Prop} {I : (Nat → Bool) → World → Prop} {Ext : World → World → Prop}

theorem ready_empty (hg : good ops T.size = true) {listed : Array Bool} (hl : listed.size = ops.size) (h : Region.ready .any ops listed = []) : ∀ k, k < ops.size → listed.getD k false = true := by
  intro k
  induction k using Nat.strongRecOn with
  | _ k ih =>
    intro hk
    cases hv : listed.getD k false with
    | true => rfl
    | false =>
      exfalso
      have hm : k ∈ Region.ready .any ops listed := by
        rw [mem_ready]
        refine ⟨by rw [getD_flag (by omega)]; exact hv, ops[k], Array.getElem?_eq_getElem hk, fun e he _ => ?_⟩
        have hlt := good_back hg (Array.getElem?_eq_getElem hk) he
        exact ih e.on hlt (by omega)
      rw [h] at hm
      cases hm

theorem inv_put (hg : good ops T.size = true) (mono : ∀ k v w w', Ext w w' → D k v w → D k v w')
    {listed : Array Bool} {a : Act} {w w' : World} (h : Inv ops T df D I listed a w) {i : Nat} {o : Oper} (hi : ops[i]? = some o) (hr : i ∈ Region.ready .any ops listed)
    {v : Value} (hD : D i v w') (hI : I (upd (fun k => listed.getD k false) i) w') (hb : Ext w w') : Inv ops T df D I (listed.setIfInBounds i true) (a.put o.dst v) w' := by
  have hil := (Array.getElem?_eq_some_iff.1 hi).1
  obtain ⟨hr0, o', ho', hall⟩ := mem_ready.1 hr
  obtain rfl : o = o' := Option.some.inj (hi.symm.trans ho')
  have hnot : listed.getD i false = false := by rw [getD_flag (by rw [h.lsz]; exact hil)]; exact hr0
  have hflag : ∀ k, (listed.setIfInBounds i true).getD k false = if k = i then true else listed.getD k false := fun k => by
    by_cases e : k = i
    · subst e; simp [h.lsz, hil]
    · rw [if_neg e, getD_set_ne false (Ne.symm e)]
  have hput : ∀ d, (a.put o.dst v).tmps.getD d undef = if o.dst = some d then v else a.tmps.getD d undef := fun d => by
    cases hd : o.dst with
    | none => simp [Act.put]
    | some d' =>
      have := good_dst hg hi hd
      simp only [Act.put]
      rw [getD_put _ _ _ (by rw [h.sz]; exact this)]
      by_cases e : d = d'
      · subst e; simp
      · rw [if_neg e, if_neg (by simpa using fun x => e x.symm)]
  constructor
  · cases hd : o.dst <;> simp [Act.put, h.df]
  · cases hd : o.dst <;> simp [Act.put, h.sz]
  · intro d hd
    rw [hput]
    by_cases e : o.dst = some d
    · have := hd i o hi e
      rw [hflag, if_pos rfl] at this
      cases this
    · rw [if_neg e]
      refine h.base d fun k ok hk hdk => ?_
      have := hd k ok hk hdk
      rw [hflag] at this
      by_cases ek : k = i
      · subst ek; exact hnot
      · rwa [if_neg ek] at this
  · intro k ok d hk hdk hlk
    rw [hput]
    rw [hflag] at hlk
    by_cases ek : k = i
    · subst ek
      obtain rfl : o = ok := Option.some.inj (hi.symm.trans hk)
      rw [if_pos hdk]; exact hD
    · rw [if_neg ek] at hlk
      rw [if_neg (fun e => ek (good_one hg hk hi hdk e))]
      exact mono _ _ _ _ hb (h.done k ok d hk hdk hlk)
  · intro k ok hk hlk e he hbe
    rw [hflag] at hlk
    rw [hflag]
    by_cases ee : e.on = i
    · rw [if_pos ee]
    · rw [if_neg ee]
      by_cases ek : k = i
      · subst ek
        obtain rfl : o = ok := Option.some.inj (hi.symm.trans hk)
        exact hall e he hbe
      · rw [if_neg ek] at hlk
        exact h.closed k ok hk hlk e he hbe
  · simp [h.lsz]
  · have e : (fun k => (listed.setIfInBounds i true).getD k false) = upd (fun k => listed.getD k false) i := by
      funext k
      rw [hflag]
      by_cases ek : k = i
      · subst ek; rw [if_pos rfl, upd_same]
      · rw [if_neg ek, upd_other _ ek]
    rw [e]; exact hI

theorem wp_of_yield {o : Oper} {a : Act} {w : World} {K : Act → World → Prop} {R : Value → World → Prop} (h : Yield P (execOp a.eval o) w R) (hK : ∀ v w', R v w' → K (a.put o.dst v) w') : o.wp P a w K Q := by
  unfold Yield at h
  unfold Oper.wp
  generalize (execOp a.eval o).run P w = r at *
  cases r with
  | ok n w' =>
    cases n <;> simp only [Oper.upon] at h ⊢ <;> first
      | exact hK _ _ h
      | exact h.elim
      | (refine Calls.mono h ?_; rintro e w'' ⟨v, rfl, hR⟩; exact hK _ _ hR)
  | halt x w' => exact h.elim

theorem any_of (hg : good ops T.size = true) (mono : ∀ k v w w', Ext w w' → D k v w → D k v w')
    (step : ∀ i o, ops[i]? = some o → Step P ops T D I Ext i o)
    (fin : ∀ tm w' s, tm.size = T.size → I s w' → (∀ k, k < ops.size → s k = true) → (∀ k o d, ops[k]? = some o → o.dst = some d → D k (tm.getD d undef) w') →
      (∀ d, (∀ (k : Nat) (o : Oper), ops[k]? = some o → o.dst ≠ some d) → tm.getD d undef = T.getD d undef) → Q .normal ⟨tm, df⟩ w') :
    ∀ (fuel : Nat) (listed : Array Bool) (a : Act) (w : World), ((List.range ops.size).countP fun k => !listed.getD k false) ≤ fuel → Inv ops T df D I listed a w → wpAny P .any ops Q fuel listed a w := by
  have hend : ∀ (listed : Array Bool) (a : Act) (w : World), Inv ops T df D I listed a w → (∀ k, k < ops.size → listed.getD k false = true) → Q .normal a w := by
    intro listed a w h hall
    obtain ⟨tm, dfs⟩ := a
    obtain rfl : dfs = df := h.df
    refine fin tm w _ h.sz h.inv hall (fun k o d hk hd => h.done k o d hk hd (hall k (Array.getElem?_eq_some_iff.1 hk).1)) fun d hd => h.base d fun k o hk hdk => (hd k o hk hdk).elim
  intro fuel
  induction fuel with
  | zero =>
    intro listed a w hc h
    have hall : ∀ k, k < ops.size → listed.getD k false = true := by
      intro k hk
      have := List.countP_eq_zero.1 (Nat.le_zero.1 hc) k (List.mem_range.2 hk)
      simpa using this
    have he : Region.ready .any ops listed = [] := by
      apply List.eq_nil_iff_forall_not_mem.2
      intro i hi
      obtain ⟨h0, o, ho, _⟩ := mem_ready.1 hi
      have hil := (Array.getElem?_eq_some_iff.1 ho).1
      have := hall i hil
      rw [getD_flag (by rw [h.lsz]; exact hil)] at h0
      simp only [Bool.not_true] at h0
      rw [h0] at this; cases this
    exact ⟨he, hend _ _ _ h hall⟩
  | succ fuel ih =>
    intro listed a w hc h
    refine ⟨fun he => hend _ _ _ h (ready_empty hg h.lsz he), fun i hi => ?_⟩
    obtain ⟨h0, o, ho, hall⟩ := mem_ready.1 hi
    have hil := (Array.getElem?_eq_some_iff.1 ho).1
    have hnot : listed.getD i false = false := by rw [getD_flag (by rw [h.lsz]; exact hil)]; exact h0
    have hcount : ((List.range ops.size).countP fun k => !(listed.setIfInBounds i true).getD k false) ≤ fuel := by
      have hlt : ((List.range ops.size).countP fun k => !(listed.setIfInBounds i true).getD k false) < ((List.range ops.size).countP fun k => !listed.getD k false) := by
        have hsplit : ∀ (l : List Nat), i ∈ l → (l.countP fun k => !(listed.setIfInBounds i true).getD k false) < (l.countP fun k => !listed.getD k false) := by
          have hle : ∀ (l : List Nat), (l.countP fun k => !(listed.setIfInBounds i true).getD k false) ≤ (l.countP fun k => !listed.getD k false) := by
            intro l
            refine List.countP_mono_left fun k _ hk => ?_
            by_cases ek : k = i
            · subst ek; simp [hnot]
            · rwa [getD_set_ne false (Ne.symm ek)] at hk
          intro l
          induction l with
          | nil => intro hm; cases hm
          | cons x l ihl =>
            intro hm
            by_cases ex : x = i
            · subst ex
              have h1 : (listed.setIfInBounds x true).getD x false = true := by simp [h.lsz, hil]
              rw [List.countP_cons, List.countP_cons, h1, hnot]
              have := hle l
              simp only [Bool.not_true, Bool.not_false, if_true, Bool.false_eq_true, if_false]
              omega
            · have hm' : i ∈ l := (List.mem_cons.1 hm).resolve_left (Ne.symm ex)
              rw [List.countP_cons, List.countP_cons, getD_set_ne false (Ne.symm ex)]
              have := ihl hm'
              omega
        exact hsplit _ (List.mem_range.2 hil)
      omega
    have hst := step i o ho a w (fun k => listed.getD k false) h.sz h.inv
      (fun e he hb o' d ho' hd => h.done e.on o' d ho' hd (hall e he hb)) (fun e he hb => hall e he hb) hnot
      (fun k hk => by
        unfold waits at hk
        cases hok : ops[k]? with
        | none => simp [hok] at hk
        | some ok =>
          simp only [hok, Option.map_some, Option.getD_some, List.any_eq_true, Bool.and_eq_true, beq_iff_eq] at hk
          obtain ⟨e, he, hbe, heq⟩ := hk
          cases hlk : listed.getD k false with
          | false => rfl
          | true =>
            have := h.closed k ok hok hlk e (Array.mem_toList_iff.1 he) hbe
            rw [heq, hnot] at this; cases this)
      (fun d hd => h.base d fun k ok hk hdk => by
        unfold before at hd
        rw [List.all_eq_true] at hd
        have := hd ok (by simpa using Array.mem_of_getElem? hk)
        simp only [hdk, bne_self_eq_false, Bool.false_or, List.any_eq_true, Bool.and_eq_true, beq_iff_eq] at this
        obtain ⟨e, he, hbe, heq⟩ := this
        have he := Array.mem_toList_iff.1 he
        cases hlk : listed.getD k false with
        | false => rfl
        | true =>
          have := h.closed k ok hk hlk e he hbe
          rw [heq, hnot] at this; cases this)
    have hput : ∀ v w', D i v w' ∧ I (upd (fun k => listed.getD k false) i) w' ∧ Ext w w' → wpAny P .any ops Q fuel (listed.setIfInBounds i true) (a.put o.dst v) w' := fun v w' ⟨hD, hI, hb⟩ =>
      ih _ _ _ hcount (inv_put hg mono h ho hi hD hI hb)
    unfold wpOp
    simp only [ho]
    cases hgd : o.guard with
    | none =>
      simp only [hgd] at hst
      rw [if_pos (by simp [Region.wanted, hgd])]
      exact .inl (wp_of_yield hst hput)
    | some gw =>
      obtain ⟨g, want⟩ := gw
      simp only [hgd] at hst
      obtain ⟨b, og, dg, hog, hdg, hρ, hst⟩ := hst
      have hdlt := good_dst hg hog hdg
      have hy : yielded ops a.tmps g = some b := by
        have : a.tmps[dg]? = some (.bool b) := by
          have h1 : a.tmps.getD dg undef = .bool b := hρ
          have h2 : dg < a.tmps.size := by rw [h.sz]; exact hdlt
          simpa [h2] using h1
        simp [yielded, hog, hdg, this]
      by_cases hbw : b = want
      · rw [if_pos hbw] at hst
        rw [if_pos (by simp [Region.wanted, hgd, hy, hbw])]
        exact .inl (wp_of_yield hst hput)
      · rw [if_neg hbw] at hst
        rw [if_neg (by simp [Region.wanted, hgd, hy, hbw])]
        exact hput undef w hst

/-- THE REGION: each operation steps; at the end each slot holds what its operation gives. -/
theorem wp_steps {id : Nat} {w : World} (hm : P.follows .mixedOrders = true) (hg : good ops T.size = true)
    (D : Nat → Value → World → Prop) (I : (Nat → Bool) → World → Prop) (Ext : World → World → Prop) (h0 : I (fun _ => false) w.drew) (mono : ∀ k v w w', Ext w w' → D k v w → D k v w')
    (step : ∀ i o, ops[i]? = some o → Step P ops T D I Ext i o)
    (fin : ∀ tm w' s, tm.size = T.size → I s w' → (∀ k, k < ops.size → s k = true) → (∀ k o d, ops[k]? = some o → o.dst = some d → D k (tm.getD d undef) w') →
      (∀ d, (∀ (k : Nat) (o : Oper), ops[k]? = some o → o.dst ≠ some d) → tm.getD d undef = T.getD d undef) → Q .normal ⟨tm, df⟩ w') :
    (Code.region id ops true).wp P Q ⟨T, df⟩ w := by
  refine wp_region_any hm (any_of (T := T) (df := df) hg mono step fin ops.size _ _ _ ?_ ?_)
  · exact Nat.le_trans List.countP_le_length (by simp)
  · have hf : ∀ k, (Array.replicate ops.size false).getD k false = false := fun k => by
      simp only [Array.getD_eq_getD_getElem?, Array.getElem?_replicate]; split <;> rfl
    exact ⟨rfl, rfl, fun _ _ => rfl, fun k o d _ _ h => (by rw [hf] at h; exact absurd h (by decide)), fun k o _ h => (by rw [hf] at h; exact absurd h (by decide)), by simp, (by simp only [hf]; exact h0)⟩
end

/-- Of each operation of a list. -/
def AllFrom (X : Nat → Oper → Prop) : Nat → List Oper → Prop
  | _, [] => True
  | k, o :: l => X k o ∧ AllFrom X (k + 1) l
theorem allFrom_get {X : Nat → Oper → Prop} : ∀ (l : List Oper) (k : Nat), AllFrom X k l → ∀ i o, l[i]? = some o → X (k + i) o
  | [], _, _, i, o, h => by simp at h
  | x :: l, k, ⟨h1, h2⟩, i, o, h => by
    cases i with
    | zero => simp at h; subst h; exact h1
    | succ i =>
      have := allFrom_get l (k + 1) h2 i o (by simpa using h)
      rwa [show k + 1 + i = k + (i + 1) from by omega] at this
theorem each {X : Nat → Oper → Prop} {l : List Oper} (h : AllFrom X 0 l) : ∀ i o, l.toArray[i]? = some o → X i o := fun i o hi => by
  have := allFrom_get l 0 h i o (by simpa using hi)
  rwa [Nat.zero_add] at this
end Reg
end Go.Proofs.Ytkeiphkccnfhoaa
