/-
  A view of memory: what a walk knows of the cells that are its own, and of those that it may read; rules for code over it. No program in sight.
-/
import Derived.Test.YtddabbfjoejalaaBase
import Derived.Orders
namespace Go.Proofs.Ytddabbfjoejalaa
open Go.RowKit
set_option linter.unusedVariables false
namespace Mv

/-! ### Memory that is known -/
/-- A block that is known: its first cells; it has at least 'room' of them. -/
structure Blk where
  elem : TypeId
  cells : List Value
  room : Nat
structure Mem where
  own : Nat → Option Blk
  ro : Addr → Option Value
def Mem.set (S : Mem) (b : Nat) (r : Blk) : Mem := ⟨fun k => if k = b then some r else S.own k, S.ro⟩
def Mem.del (S : Mem) (b : Nat) : Mem := ⟨fun k => if k = b then none else S.own k, S.ro⟩
theorem Mem.own_set_same (S : Mem) (b : Nat) (r : Blk) : (S.set b r).own b = some r := by simp [Mem.set]
theorem Mem.own_set_other (S : Mem) {b k : Nat} (r : Blk) (h : k ≠ b) : (S.set b r).own k = S.own k := by simp [Mem.set, h]
theorem Mem.own_del_other (S : Mem) {b k : Nat} (h : k ≠ b) : (S.del b).own k = S.own k := by simp [Mem.del, h]
theorem Mem.set_set (S : Mem) (b : Nat) (r r' : Blk) : (S.set b r).set b r' = S.set b r' := by
  unfold Mem.set; congr 1; funext k; by_cases h : k = b <;> simp [h]
theorem Mem.del_set (S : Mem) (b : Nat) (r : Blk) (h : S.own b = none) : (S.set b r).del b = S := by
  cases S; unfold Mem.set Mem.del; congr 1; funext k; by_cases e : k = b
  · subst e; simpa using h.symm
  · simp [e]
theorem Mem.set_comm (S : Mem) {b c : Nat} (r r' : Blk) (h : b ≠ c) : (S.set b r).set c r' = (S.set c r').set b r := by
  unfold Mem.set; congr 1; funext k; by_cases h1 : k = b <;> by_cases h2 : k = c <;> simp_all
theorem Mem.set_same (S : Mem) (b : Nat) (r : Blk) (h : S.own b = some r) : S.set b r = S := by
  cases S; unfold Mem.set; congr 1; funext k; by_cases e : k = b
  · subst e; simpa using h.symm
  · simp [e]
/-- The cell at an address. -/
def Mem.rd (S : Mem) (a : Addr) : Option Value :=
  match S.own a.block with
  | some r => if a.spot.isSome then none else r.cells[a.off]?
  | none => S.ro a

structure View (S : Mem) (w : World) : Prop where
  own : ∀ b r, S.own b = some r → ∃ cur fz, w.heap[b]? = some (.cells cur r.elem fz) ∧ r.cells <+: cur.toList ∧ r.room ≤ cur.size ∧ (∀ j, j < cur.size → ¬ (fz.1 ≤ j ∧ j < fz.2))
  ro : ∀ a v, S.ro a = some v → w.cell? a = some v ∧ S.own a.block = none

theorem View.lt {S : Mem} {w : World} (h : View S w) {b : Nat} {r : Blk} (hb : S.own b = some r) : b < w.heap.size := by
  obtain ⟨cur, fz, h1, _⟩ := h.own b r hb
  exact (Array.getElem?_eq_some_iff.1 h1).1
theorem View.fresh {S : Mem} {w : World} (h : View S w) : S.own w.heap.size = none := by
  cases e : S.own w.heap.size with
  | none => rfl
  | some r => exact absurd (h.lt e) (Nat.lt_irrefl _)
theorem prefix_get {α : Type} {l m : List α} (h : l <+: m) {j : Nat} {v : α} (hj : l[j]? = some v) : m[j]? = some v := by
  obtain ⟨t, rfl⟩ := h
  have : j < l.length := by
    rcases Nat.lt_or_ge j l.length with h | h
    · exact h
    · rw [List.getElem?_eq_none h] at hj; cases hj
  rw [List.getElem?_append_left this]; exact hj
theorem View.rd {S : Mem} {w : World} (h : View S w) {a : Addr} {v : Value} (ha : S.rd a = some v) : w.cell? a = some v := by
  unfold Mem.rd at ha
  cases e : S.own a.block with
  | none => simp only [e] at ha; exact (h.ro a v ha).1
  | some r =>
    simp only [e] at ha
    obtain ⟨cur, fz, h1, h2, _⟩ := h.own _ _ e
    split at ha
    · cases ha
    · rename_i hs
      have := prefix_get h2 ha
      simp only [World.cell?, h1, hs]
      simpa using this

/-- What a stretch of a walk does to the world. -/
structure Step (S : Mem) (w : World) (S' : Mem) (w' : World) : Prop where
  view : View S' w'
  os : w'.os = w.os
  tape : w'.tape = w.tape
  output : w'.output = w.output
  size : w.heap.size ≤ w'.heap.size
  block : ∀ k, k < w.heap.size → S.own k = none → w'.heap[k]? = w.heap[k]?
  dom : ∀ k, S'.own k ≠ none → S.own k ≠ none ∨ w.heap.size ≤ k
  ro : S'.ro = S.ro
theorem Step.refl {S : Mem} {w : World} (h : View S w) : Step S w S w := ⟨h, rfl, rfl, rfl, Nat.le_refl _, fun _ _ _ => rfl, fun _ h => .inl h, rfl⟩
theorem Step.trans {S S1 S2 : Mem} {w w1 w2 : World} (h : Step S w S1 w1) (k : Step S1 w1 S2 w2) : Step S w S2 w2 :=
  ⟨k.view, k.os.trans h.os, k.tape.trans h.tape, k.output.trans h.output, Nat.le_trans h.size k.size, fun b hb hn => by
    have h1 : S1.own b = none := by
      cases e : S1.own b with
      | none => rfl
      | some r => rcases h.dom b (by rw [e]; simp) with x | x
                  · exact absurd hn x
                  · omega
    exact (k.block b (Nat.lt_of_lt_of_le hb h.size) h1).trans (h.block b hb hn), fun b hb => by
      rcases k.dom b hb with x | x
      · exact h.dom b x
      · exact .inr (Nat.le_trans h.size x), k.ro.trans h.ro⟩
/-- Less is known. -/
def Mem.Less (S' S : Mem) : Prop := (∀ b r, S'.own b = some r → S.own b = some r) ∧ S'.ro = S.ro
theorem Mem.Less.refl (S : Mem) : S.Less S := ⟨fun _ _ h => h, rfl⟩
theorem Mem.Less.trans {S S' S'' : Mem} (h : S''.Less S') (k : S'.Less S) : S''.Less S := ⟨fun b r x => k.1 b r (h.1 b r x), h.2.trans k.2⟩
theorem Mem.less_set (S : Mem) (b : Nat) (r : Blk) (h : S.own b = none) : S.Less (S.set b r) :=
  ⟨fun k r' hk => by by_cases e : k = b
                     · subst e; rw [h] at hk; cases hk
                     · rw [Mem.own_set_other _ _ e]; exact hk, rfl⟩
theorem View.less {S S' : Mem} {w : World} (h : View S w) (hl : S'.Less S) : View S' w :=
  ⟨fun b r hb => h.own b r (hl.1 b r hb), fun a v ha => by
    rw [hl.2] at ha
    refine ⟨(h.ro a v ha).1, ?_⟩
    cases e : S'.own a.block with
    | none => rfl
    | some r => have := hl.1 _ _ e; rw [(h.ro a v ha).2] at this; cases this⟩
theorem Step.less {S S' S'' : Mem} {w w' : World} (h : Step S w S' w') (hl : S''.Less S') : Step S w S'' w' :=
  ⟨h.view.less hl, h.os, h.tape, h.output, h.size, h.block, fun k hk => h.dom k (by
    cases e : S''.own k with
    | none => exact absurd e hk
    | some r => rw [hl.1 _ _ e]; simp), hl.2.trans h.ro⟩
theorem Step.lessL {S S0 S' : Mem} {w w' : World} (h : Step S0 w S' w') (hl : S0.Less S) : Step S w S' w' :=
  ⟨h.view, h.os, h.tape, h.output, h.size, fun k hk hn => h.block k hk (by
    cases e : S0.own k with
    | none => rfl
    | some r => have := hl.1 _ _ e; rw [hn] at this; cases this), fun k hk => by
      rcases h.dom k hk with x | x
      · cases e : S0.own k with
        | none => exact absurd e x
        | some r => exact .inl (by rw [hl.1 _ _ e]; simp)
      · exact .inr x, h.ro.trans hl.2⟩
theorem View.drawn {S : Mem} {w : World} (h : View S w) (n : Nat) : View S { w with drawn := n } := ⟨h.own, h.ro⟩
theorem Step.drawn {S : Mem} {w : World} (h : View S w) (n : Nat) : Step S w S { w with drawn := n } := ⟨h.drawn n, rfl, rfl, rfl, Nat.le_refl _, fun _ _ _ => rfl, fun _ h => .inl h, rfl⟩
/-- A call that touches nothing that was there. -/
theorem View.below {S : Mem} {w w' : World} (h : View S w) (hb : Below w.heap.size w w') : View S w' :=
  ⟨fun b r hr => by rw [hb.block b (h.lt hr)]; exact h.own b r hr, fun a v ha => by
    obtain ⟨h1, h2⟩ := h.ro a v ha
    exact ⟨cell_later hb h1, h2⟩⟩
theorem Step.below {S : Mem} {w w' : World} (h : View S w) (hb : Below w.heap.size w w') : Step S w S w' :=
  ⟨h.below hb, hb.os, hb.tape, hb.output, hb.size, fun k hk _ => hb.block k hk, fun _ h => .inl h, rfl⟩
theorem Step.toBelow {S S' : Mem} {w w' : World} (h : Step S w S' w') (hn : ∀ k, S.own k = none) : Below w.heap.size w w' :=
  ⟨h.os, h.tape, h.output, h.size, fun k hk => h.block k hk (hn k)⟩

/-! ### What is known of the slots -/
abbrev Env := List (Nat × Value)
def lk : Env → Nat → Option Value
  | [], _ => none
  | (k, v) :: E, d => if k = d then some v else lk E d
def Sub : Env → Env → Prop
  | [], _ => True
  | (k, v) :: E', E => lk E k = some v ∧ Sub E' E
theorem Sub.lk {E' E : Env} (h : Sub E' E) {d : Nat} {v : Value} (hd : Mv.lk E' d = some v) : Mv.lk E d = some v := by
  induction E' with
  | nil => cases hd
  | cons p E' ih =>
    obtain ⟨k, u⟩ := p
    simp only [Mv.lk] at hd
    split at hd
    · rename_i e; subst e; cases hd; exact h.1
    · exact ih h.2 hd
def ev (E : Env) : Operand → Option Value
  | .tmp t => lk E t
  | .const v => some v
  | .global g => some (.pointer (some ⟨g, 0, none⟩))
  | .func f => some (.func (.func f) #[] #[])
def evs (E : Env) : List Operand → Option (List Value)
  | [] => some []
  | x :: xs => match ev E x, evs E xs with
    | some v, some vs => some (v :: vs)
    | _, _ => none
structure Good (N : Nat) (E : Env) (a : Act) : Prop where
  size : a.tmps.size = N
  defers : a.defers = []
  at_ : ∀ d v, lk E d = some v → a.tmps.getD d undef = v
theorem Good.ev {N : Nat} {E : Env} {a : Act} (h : Good N E a) {x : Operand} {v : Value} (hx : Mv.ev E x = some v) : a.eval x = v := by
  cases x with
  | tmp t => exact h.at_ t v hx
  | const u => cases hx; rfl
  | global g => cases hx; rfl
  | func f => cases hx; rfl
theorem Good.evs {N : Nat} {E : Env} {a : Act} (h : Good N E a) {xs : List Operand} {vs : List Value} (hx : Mv.evs E xs = some vs) : xs.map a.eval = vs := by
  induction xs generalizing vs with
  | nil => cases hx; rfl
  | cons x xs ih =>
    simp only [Mv.evs] at hx
    split at hx
    · rename_i v vs' h1 h2
      cases hx
      simp only [List.map_cons, h.ev h1, ih h2]
    · cases hx
theorem Good.sub {N : Nat} {E E' : Env} {a : Act} (h : Good N E a) (hs : Sub E' E) : Good N E' a := ⟨h.size, h.defers, fun d v hd => h.at_ d v (hs.lk hd)⟩
theorem getD_setB (T : Array Value) (d : Nat) (v : Value) (h : d < T.size) (k : Nat) : (T.setIfInBounds d v).getD k undef = if d = k then v else T.getD k undef := by
  simp only [Array.getD_eq_getD_getElem?, Array.getElem?_setIfInBounds]
  by_cases e : d = k
  · subst e; simp [h]
  · simp [e]
theorem Good.put {N : Nat} {E : Env} {a : Act} (h : Good N E a) {d : Nat} (hd : d < N) (v : Value) : Good N ((d, v) :: E) (a.put (some d) v) := by
  refine ⟨by simp [Act.put, h.size], h.defers, fun k u hk => ?_⟩
  simp only [Act.put, getD_setB _ _ _ (by rw [h.size]; exact hd)]
  simp only [lk] at hk
  split at hk
  · rename_i e; cases hk; rw [if_pos e]
  · rename_i e; rw [if_neg e]; exact h.at_ k u hk
theorem Good.put0 {N : Nat} {E : Env} {a : Act} (h : Good N E a) (v : Value) : Good N E (a.put none v) := ⟨h.size, h.defers, h.at_⟩

/-! ### Operations -/
section
variable {P : Program} {N : Nat} {ops : Array Oper}
def Post (N : Nat) (K : Env → Mem → Prop) (S : Mem) (w : World) (a' : Act) (w' : World) : Prop := ∃ E' S', K E' S' ∧ Good N E' a' ∧ Step S w S' w'
def noQ : Exit → Act → World → Prop := fun _ _ _ => False
/-- One operation. -/
def AOp (P : Program) (N : Nat) (ops : Array Oper) (o : Oper) (K : Env → Mem → Prop) (E : Env) (S : Mem) : Prop :=
  ∀ a w, Good N E a → View S w →
    if Region.wanted o (yielded ops a.tmps) then o.wp P a w (Post N K S w) noQ else Post N K S w (a.put o.dst undef) w
/-- Operations, one behind the other. -/
def ARun (P : Program) (N : Nat) (ops : Array Oper) : List Oper → (Env → Mem → Prop) → Env → Mem → Prop
  | [], K, E, S => K E S
  | o :: os, K, E, S => AOp P N ops o (fun E' S' => ARun P N ops os K E' S') E S
theorem upon_noQ {o : Oper} {a : Act} {K : Act → World → Prop} {Q : Exit → Act → World → Prop} {r : Result Next} (h : o.upon P a K noQ r) : o.upon P a K Q r := by
  cases r with
  | ok n w' =>
    cases n <;> simp only [Oper.upon] at h ⊢ <;> first | exact h | skip
    exact Calls.mono h fun e w'' he => by
      cases e with
      | returned u => exact he
      | panicked c => exact he.elim
      | outgrown => obtain ⟨_, _, x⟩ := he; exact x.elim
  | halt x w' => cases x <;> simp only [Oper.upon] at h ⊢ <;> first | exact h | exact (h : False).elim
theorem Post.mono {K K' : Env → Mem → Prop} {S : Mem} {w : World} {a' : Act} {w' : World} (h : ∀ E S, K E S → K' E S) (x : Post N K S w a' w') : Post N K' S w a' w' :=
  let ⟨E', S', k, g, s⟩ := x; ⟨E', S', h _ _ k, g, s⟩
theorem AOp.mono {o : Oper} {K K' : Env → Mem → Prop} {E : Env} {S : Mem} (h : ∀ E S, K E S → K' E S) (x : AOp P N ops o K E S) : AOp P N ops o K' E S := fun a w hg hv => by
  have := x a w hg hv
  split
  · rename_i hw; rw [if_pos hw] at this; exact Oper.wp_mono (fun _ _ => Post.mono h) this
  · rename_i hw; rw [if_neg hw] at this; exact this.mono h
theorem ARun.mono {l : List Oper} {K K' : Env → Mem → Prop} (h : ∀ E S, K E S → K' E S) : ∀ {E : Env} {S : Mem}, ARun P N ops l K E S → ARun P N ops l K' E S := by
  induction l with
  | nil => exact fun x => h _ _ x
  | cons o os ih => exact fun x => AOp.mono (fun _ _ y => ih y) x
theorem ARun.wp {l : List Oper} : ∀ {K : Env → Mem → Prop} {E : Env} {S : Mem}, ARun P N ops l K E S → ∀ {Q : Exit → Act → World → Prop} (a : Act) (w : World), Good N E a → View S w →
    (∀ a' w', Post N K S w a' w' → Q .normal a' w') → wpList P ops Q l a w := by
  induction l with
  | nil => exact fun {K E S} h Q a w hg hv hq => hq a w ⟨E, S, h, hg, Step.refl hv⟩
  | cons o os ih =>
    intro K E S h Q a w hg hv hq
    have h1 := h a w hg hv
    have next : ∀ a1 w1, Post N (fun E' S' => ARun P N ops os K E' S') S w a1 w1 → wpList P ops Q os a1 w1 := fun a1 w1 ⟨E1, S1, r, g1, s1⟩ =>
      ih r a1 w1 g1 s1.view fun a' w' ⟨E2, S2, k, g2, s2⟩ => hq a' w' ⟨E2, S2, k, g2, s1.trans s2⟩
    unfold wpList
    split
    · rename_i hw; rw [if_pos hw] at h1
      exact .inl (upon_noQ (Oper.wp_mono next h1))
    · rename_i hw; rw [if_neg hw] at h1
      exact next _ _ h1

/-! ### Code -/
def AWP (P : Program) (N : Nat) (c : Code) (Q : Exit → Env → Mem → Prop) (E : Env) (S : Mem) : Prop :=
  ∀ a w, Good N E a → View S w → c.wp P (fun e a' w' => Post N (Q e) S w a' w') a w
def Athen (next : Env → Mem → Prop) (Q : Exit → Env → Mem → Prop) : Exit → Env → Mem → Prop
  | .normal => next
  | e => Q e
variable {Q : Exit → Env → Mem → Prop} {E : Env} {S : Mem}
theorem AWP.mono {c : Code} {Q' : Exit → Env → Mem → Prop} (h : AWP P N c Q E S) (hq : ∀ e E S, Q e E S → Q' e E S) : AWP P N c Q' E S := fun a w hg hv =>
  wp_mono (h a w hg hv) fun e _ _ x => x.mono (hq e)
theorem AWP.sub {c : Code} (E' : Env) (hs : Sub E' E) (h : AWP P N c Q E' S) : AWP P N c Q E S := fun a w hg hv => h a w (hg.sub hs) hv
theorem AWP.less {c : Code} (S' : Mem) (hs : S'.Less S) (h : AWP P N c Q E S') : AWP P N c Q E S := fun a w hg hv =>
  wp_mono (h a w hg (hv.less hs)) fun _ _ _ ⟨E1, S1, k, g, s⟩ => ⟨E1, S1, k, g, s.lessL hs⟩
theorem AWP.seq {x y : Code} (h : AWP P N x (Athen (AWP P N y Q) Q) E S) : AWP P N (.seq x y) Q E S := fun a w hg hv => by
  refine wp_seq (wp_mono (h a w hg hv) fun e a1 w1 ⟨E1, S1, k, g, s⟩ => ?_)
  cases e with
  | normal => exact wp_mono (k a1 w1 g s.view) fun e a2 w2 ⟨E2, S2, k2, g2, s2⟩ => ⟨E2, S2, k2, g2, s.trans s2⟩
  | exit id => exact ⟨E1, S1, k, g, s⟩
  | goto l => exact ⟨E1, S1, k, g, s⟩
  | ret => exact ⟨E1, S1, k, g, s⟩
  | panic c => exact ⟨E1, S1, k, g, s⟩
  | outgrown => exact ⟨E1, S1, k, g, s⟩
theorem AWP.skip (h : Q .normal E S) : AWP P N .skip Q E S := fun a w hg hv => wp_skip ⟨E, S, h, hg, Step.refl hv⟩
theorem AWP.ret (h : Q .ret E S) : AWP P N .ret Q E S := fun a w hg hv => wp_ret ⟨E, S, h, hg, Step.refl hv⟩
theorem AWP.exit {id : Nat} (h : Q (.exit id) E S) : AWP P N (.exit id) Q E S := fun a w hg hv => wp_exit ⟨E, S, h, hg, Step.refl hv⟩
theorem AWP.cond {c : Operand} {x y : Code} (t : Bool) (hc : ev E c = some (.bool t)) (h : AWP P N (if t then x else y) Q E S) : AWP P N (.cond c x y) Q E S := fun a w hg hv =>
  wp_cond (hg.ev hc) (h a w hg hv)
theorem AWP.condT {c : Operand} {x y : Code} {t : Bool} (hc : ev E c = some (.bool t)) (ht : t = true) (h : AWP P N x Q E S) : AWP P N (.cond c x y) Q E S := AWP.cond t hc (by rw [ht]; exact h)
theorem AWP.condF {c : Operand} {x y : Code} {t : Bool} (hc : ev E c = some (.bool t)) (ht : t = false) (h : AWP P N y Q E S) : AWP P N (.cond c x y) Q E S := AWP.cond t hc (by rw [ht]; exact h)
theorem AWP.condB {c : Operand} {x y : Code} {t : Bool} (hc : ev E c = some (.bool t)) (h1 : t = true → AWP P N x Q E S) (h0 : t = false → AWP P N y Q E S) : AWP P N (.cond c x y) Q E S := AWP.cond t hc (by cases t; exact h0 rfl; exact h1 rfl)
def AinBlock (id : Nat) (Q : Exit → Env → Mem → Prop) : Exit → Env → Mem → Prop
  | .exit id' => if id' = id then Q .normal else Q (.exit id')
  | e => Q e
theorem AWP.block {id : Nat} {c : Code} (h : AWP P N c (AinBlock id Q) E S) : AWP P N (.block id c) Q E S := fun a w hg hv =>
  wp_block (wp_mono (h a w hg hv) fun e a1 w1 x => by
    cases e with
    | exit id' =>
      simp only [Exit.inBlock]
      obtain ⟨E1, S1, k, g, s⟩ := x
      simp only [AinBlock] at k
      split
      · rename_i e; rw [if_pos e] at k; exact ⟨E1, S1, k, g, s⟩
      · rename_i e; rw [if_neg e] at k; exact ⟨E1, S1, k, g, s⟩
    | normal => exact x
    | goto l => exact x
    | ret => exact x
    | panic c => exact x
    | outgrown => exact x)
theorem AWP.region {id : Nat} {l : List Oper} (h : ARun P N l.toArray l (Q .normal) E S) : AWP P N (.region id l.toArray false) Q E S := fun a w hg hv =>
  wp_region_lit (h.wp a w hg hv fun _ _ x => x)
/-- A loop whose measure hangs on a ghost. -/
theorem wp_loopX {P : Program} {c : Code} {Q : Exit → Act → World → Prop} {X : Type} (I : X → Act → World → Prop) (μ : X → Nat) (x0 : X) {a : Act} {w : World} (h0 : I x0 a w)
    (round : ∀ x a w, I x a w → c.wp P (Exit.then (fun a' w' => ∃ x', I x' a' w' ∧ μ x' < μ x) Q) a w) : (Code.loop c).wp P Q a w := by
  intro b k cs
  have key : ∀ n x a w, μ x = n → I x a w → ∃ e a' w', Q e a' w' ∧ Arrives P (lone (b.at a (.code c :: .inLoop c :: k)) cs w) b k cs e a' w' := by
    intro n
    induction n using Nat.strongRecOn with
    | _ n ih =>
      intro x a w hn hI
      obtain ⟨e, a1, w1, hq, harr⟩ := round x a w hI b (.inLoop c :: k) cs
      cases e with
      | normal =>
        obtain ⟨x', hI1, hlt⟩ := hq
        obtain ⟨e2, a2, w2, hq2, harr2⟩ := ih (μ x') (hn ▸ hlt) x' a1 w1 rfl hI1
        exact ⟨e2, a2, w2, hq2, .of_steps (Steps.trans harr (.one step_inLoop)) harr2⟩
      | exit id => exact ⟨_, a1, w1, hq, .pass (x := .inLoop c) rfl (fun _ _ => .inl (by simp)) harr⟩
      | goto l => exact ⟨_, a1, w1, hq, .pass (x := .inLoop c) rfl (fun _ _ => .inl (by simp)) harr⟩
      | ret => exact ⟨_, a1, w1, hq, .pass (x := .inLoop c) rfl (fun _ _ => .inl (by simp)) harr⟩
      | panic ch => exact ⟨_, a1, w1, hq, .pass (x := .inLoop c) rfl (fun _ _ => .inl (by simp)) harr⟩
      | outgrown => exact ⟨_, a1, w1, hq, .pass (x := .inLoop c) rfl (fun _ _ => .inl (by simp)) harr⟩
  obtain ⟨e, a', w', hq, harr⟩ := key _ x0 a w rfl h0
  exact ⟨e, a', w', hq, .of_steps (.one step_loop) harr⟩
/-- A loop: at its head the slots are 'st x', memory is 'm x', for some x that is 'ok'. -/
theorem AWP.loop {X : Type} {c : Code} (st : X → Env) (m : X → Mem) (ok : X → Prop) (μ : X → Nat) (x0 : X) (hE : Sub (st x0) E) (hm : (m x0).Less S) (h0 : ok x0)
    (round : ∀ x, ok x → AWP P N c (Athen (fun E' S' => ∃ x', Sub (st x') E' ∧ (m x').Less S' ∧ ok x' ∧ μ x' < μ x) Q) (st x) (m x)) : AWP P N (.loop c) Q E S := fun a w hg hv => by
  refine wp_loopX (fun x a' w' => Good N (st x) a' ∧ Step S w (m x) w' ∧ ok x) μ x0 ⟨hg.sub hE, (Step.refl hv).less hm, h0⟩ fun x a1 w1 ⟨h1, h2, h3⟩ => ?_
  refine wp_mono (round x h3 a1 w1 h1 h2.view) fun e a2 w2 ⟨E2, S2, k, g, s⟩ => ?_
  cases e with
  | normal => obtain ⟨x', hs, hm', ho, hl⟩ := k; exact ⟨x', ⟨g.sub hs, (h2.trans s).less hm', ho⟩, hl⟩
  | exit id => exact ⟨E2, S2, k, g, h2.trans s⟩
  | goto l => exact ⟨E2, S2, k, g, h2.trans s⟩
  | ret => exact ⟨E2, S2, k, g, h2.trans s⟩
  | panic c => exact ⟨E2, S2, k, g, h2.trans s⟩
  | outgrown => exact ⟨E2, S2, k, g, h2.trans s⟩
end
end Mv
end Go.Proofs.Ytddabbfjoejalaa
