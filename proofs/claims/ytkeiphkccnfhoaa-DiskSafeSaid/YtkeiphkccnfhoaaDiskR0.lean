/-
  Disk: what the document's own steps come to, in plain words.
-/
import Derived.Test.YtkeiphkccnfhoaaDisk20
namespace Go.Proofs.Ytkeiphkccnfhoaa
open Go.RowKit
open Mv Disk
set_option linter.unusedVariables false
set_option linter.unusedSimpArgs false
/-- Where an extent is; -1: nowhere. -/
def fnd (l : List Ext) (s : ByteArray) : Int := if has l s = true then (pos l s : Nat) else -1
theorem fnd_at {l : List Ext} {s : ByteArray} (ha : Asc l) {i : Nat} (hi : i < l.length) (e : l[i].1 = s) : fnd l s = i := by
  subst e
  unfold fnd
  rw [if_pos (has_iff.2 ⟨_, List.getElem_mem hi, rfl⟩), pos_mem ha hi]
theorem has_no {l : List Ext} {s : ByteArray} : has l s = false ↔ ∀ x ∈ l, x.1 ≠ s := by
  rw [← Bool.not_eq_true, has_iff]
  exact ⟨fun h x hx e => h ⟨x, hx, e⟩, fun h ⟨x, hx, e⟩ => h x hx e⟩
theorem fnd_none {l : List Ext} {s : ByteArray} (h : ∀ j (h : j < l.length), l[j].1 ≠ s) : fnd l s = -1 := by
  unfold fnd
  rw [if_neg]
  intro hh
  obtain ⟨x, hx, e⟩ := has_iff.1 hh
  obtain ⟨j, hj, rfl⟩ := List.getElem_of_mem hx
  exact h j hj e
theorem fnd_nn {l : List Ext} {s : ByteArray} : 0 ≤ fnd l s ↔ has l s = true := by
  unfold fnd; split
  · rename_i h; exact ⟨fun _ => h, fun _ => by omega⟩
  · rename_i h; exact ⟨fun q => by omega, fun q => absurd q h⟩
def dropE (l : List Ext) (s : ByteArray) : List Ext := l.filter fun x => decide (x.1 ≠ s)
/-- A disk without an extent. -/
def lessD (d : D) (s : ByteArray) : D := { d with ext := dropE d.ext s, waits := filt s d.waits }
theorem dropE_none {l : List Ext} {s : ByteArray} (h : has l s = false) : dropE l s = l :=
  List.filter_eq_self.2 fun x hx => by simpa using has_no.1 h x hx
theorem pos_yes {x : Ext} {l : List Ext} {s : ByteArray} (h : lt x.1 s = true) : pos (x :: l) s = pos l s + 1 := by unfold pos; rw [List.takeWhile_cons, h]; rfl
theorem pos_no {x : Ext} {l : List Ext} {s : ByteArray} (h : lt x.1 s = false) : pos (x :: l) s = 0 := by unfold pos; rw [List.takeWhile_cons, h]; rfl
theorem has_cons (x : Ext) (l : List Ext) (s : ByteArray) : has (x :: l) s = (decide (x.1 = s) || has l s) := rfl
theorem dropE_cons_eq {x : Ext} {l : List Ext} {s : ByteArray} (h : x.1 = s) : dropE (x :: l) s = dropE l s := by
  unfold dropE; rw [List.filter_cons, if_neg (by simpa using h)]
theorem dropE_cons_ne {x : Ext} {l : List Ext} {s : ByteArray} (h : x.1 ≠ s) : dropE (x :: l) s = x :: dropE l s := by
  unfold dropE; rw [List.filter_cons, if_pos (by simpa using h)]
theorem asc_behind {x : Ext} {l : List Ext} (ha : Asc (x :: l)) : ∀ y ∈ l, lt x.1 y.1 = true := (List.pairwise_cons.1 ha).1
theorem asc_has_no {x : Ext} {l : List Ext} (ha : Asc (x :: l)) : has l x.1 = false := has_no.2 fun y hy e => by
  have := asc_behind ha y hy; rw [e, lt_irrefl] at this; cases this
theorem pos_head {x : Ext} {l : List Ext} (ha : Asc (x :: l)) : pos l x.1 = 0 := by
  cases l with
  | nil => rfl
  | cons y l => exact pos_no (lt_asymm (asc_behind ha y (by simp)))
theorem asc_lt_has {x : Ext} {l : List Ext} {s : ByteArray} (ha : Asc (x :: l)) (h : has l s = true) : lt x.1 s = true := by
  obtain ⟨y, hy, rfl⟩ := has_iff.1 h
  exact asc_behind ha y hy
theorem dropE_erase {l : List Ext} {s : ByteArray} (ha : Asc l) (h : has l s = true) : dropE l s = l.eraseIdx (pos l s) := by
  induction l with
  | nil => cases h
  | cons x l ih =>
    by_cases e : x.1 = s
    · subst e
      rw [pos_no (lt_irrefl _), dropE_cons_eq rfl, dropE_none (asc_has_no ha)]; rfl
    · rw [has_cons, decide_eq_false e, Bool.false_or] at h
      rw [dropE_cons_ne e, pos_yes (asc_lt_has ha h), ih (asc_tail ha) h]; rfl
theorem asc_drop {l : List Ext} (ha : Asc l) (s : ByteArray) : Asc (dropE l s) := List.Pairwise.filter _ ha
theorem set_ins {l : List Ext} {s : ByteArray} (ha : Asc l) (h : has l s = true) (y : Ext) : l.set (pos l s) y = insAt (dropE l s) (pos (dropE l s) s) y := by
  induction l with
  | nil => cases h
  | cons x l ih =>
    by_cases e : x.1 = s
    · subst e
      rw [pos_no (lt_irrefl _), dropE_cons_eq rfl, dropE_none (asc_has_no ha), pos_head ha]; rfl
    · rw [has_cons, decide_eq_false e, Bool.false_or] at h
      have hl := asc_lt_has ha h
      rw [dropE_cons_ne e, pos_yes hl, pos_yes hl, List.set_cons_succ, ih (asc_tail ha) h]; rfl
theorem dropE_comm (l : List Ext) (s t : ByteArray) : dropE (dropE l s) t = dropE (dropE l t) s := by
  unfold dropE
  rw [List.filter_filter, List.filter_filter]
  congr 1; funext x; rw [Bool.and_comm]
theorem has_drop {l : List Ext} {s t : ByteArray} (h : t ≠ s) : has (dropE l s) t = has l t := by
  rw [Bool.eq_iff_iff, has_iff, has_iff]
  unfold dropE
  exact ⟨fun ⟨x, hx, e⟩ => ⟨x, (List.mem_filter.1 hx).1, e⟩, fun ⟨x, hx, e⟩ => ⟨x, List.mem_filter.2 ⟨hx, by simpa [e] using h⟩, e⟩⟩
theorem free_less {d : D} {s : ByteArray} (hR : Right d) (h : has d.ext s = true) : forgetD (eraseD d s) s = lessD d s := by
  unfold forgetD eraseD lessD
  rw [dropE_erase hR.ex.asc h]
theorem filt_wait {d : D} {s : ByteArray} (hR : Right d) (h : has d.ext s = false) : filt s d.waits = d.waits := filt_all fun w hw => isN_no.2 fun e => by
  obtain ⟨x, hx, e1, _⟩ := hR.wr w hw
  exact has_no.1 h x hx (e1.trans e)
/-- Moved, as the document has it. -/
def movedD (d : D) (fr tn data : ByteArray) : D := { d with ext := insAt (dropE (dropE d.ext tn) fr) (pos (dropE (dropE d.ext tn) fr) tn) (tn, data), waits := (filt tn d.waits).map (renW fr tn) }
theorem move_doc {d : D} {fr tn : ByteArray} (hR : Right d) (h : has d.ext fr = true) (hne : fr ≠ tn) (data : ByteArray) : renD (putE (eraseD d fr) tn data) fr tn = movedD d fr tn data := by
  have he : (eraseD d fr).ext = dropE d.ext fr := (dropE_erase hR.ex.asc h).symm
  have hasq := asc_drop hR.ex.asc fr
  unfold putE movedD
  rw [he]
  by_cases q : has (dropE d.ext fr) tn = true
  · rw [if_pos q]
    unfold renD setE forgetD
    simp only [he]
    rw [set_ins hasq q, dropE_comm]
    rfl
  · have q' : has (dropE d.ext fr) tn = false := by simpa using q
    have q2 : has d.ext tn = false := by rw [← has_drop (Ne.symm hne)]; exact q'
    rw [if_neg q]
    unfold renD insE
    simp only [he]
    rw [dropE_none q2, filt_wait hR q2]
    rfl
/-! ### Writes that are done -/
def doneN (kp : Nat → Bool) (l : List Wr) (n : Nat) (x : Ext) : Ext := (x.1, (accW kp x l n).getD x.2)
theorem pos_map {f : Ext → Ext} (hf : ∀ x, (f x).1 = x.1) (l : List Ext) (s : ByteArray) : pos (l.map f) s = pos l s := by
  induction l with
  | nil => rfl
  | cons x l ih =>
    rw [List.map_cons]
    by_cases h : lt x.1 s = true
    · rw [pos_yes h, pos_yes (by rw [hf]; exact h), ih]
    · have h' : lt x.1 s = false := by simpa using h
      rw [pos_no h', pos_no (by rw [hf]; exact h')]
theorem has_map {f : Ext → Ext} (hf : ∀ x, (f x).1 = x.1) (l : List Ext) (s : ByteArray) : has (l.map f) s = has l s := by
  induction l with
  | nil => rfl
  | cons x l ih => rw [List.map_cons, has_cons, has_cons, ih, hf]
theorem asc_map {f : Ext → Ext} (hf : ∀ x, (f x).1 = x.1) {l : List Ext} (h : Asc l) : Asc (l.map f) := by
  unfold Asc at *
  rw [List.pairwise_map]
  exact h.imp fun {a b} q => by rw [hf, hf]; exact q
theorem doneN_zero (kp : Nat → Bool) (w : List Wr) (l : List Ext) : l.map (doneN kp w 0) = l := List.map_id'' (fun x => rfl) l
theorem doneN_skip {kp : Nat → Bool} {w : List Wr} {n : Nat} (hn : n < w.length) (hk : kp n = false) (l : List Ext) : l.map (doneN kp w (n + 1)) = l.map (doneN kp w n) :=
  List.map_congr_left fun x _ => by
    unfold doneN
    rw [accW_succ kp x w n hn, if_neg (by rw [hk]; simp)]
theorem doneN_step {kp : Nat → Bool} {w : List Wr} {n : Nat} {l : List Ext} (hn : n < w.length) (hk : kp n = true) (ha : Asc l) (hp : pos l w[n].1 < l.length) (he : l[pos l w[n].1].1 = w[n].1) :
    l.map (doneN kp w (n + 1)) = (l.map (doneN kp w n)).set (pos l w[n].1) (w[n].1, putS (doneN kp w n l[pos l w[n].1]).2 w[n]) := by
  refine List.ext_getElem (by simp) fun i h1 h2 => ?_
  rw [List.length_map] at h1
  rw [List.getElem_map, List.getElem_set]
  by_cases e : pos l w[n].1 = i
  · subst e
    rw [if_pos rfl]
    unfold doneN
    rw [accW_succ kp _ w n hn, if_pos ⟨he.symm, hk⟩, he]
    rfl
  · rw [if_neg e, List.getElem_map]
    unfold doneN
    rw [accW_succ kp _ w n hn, if_neg]
    rintro ⟨e1, _⟩
    exact e (by rw [e1]; exact pos_mem ha h1)
theorem doneX_eq (kp : Nat → Bool) (w : List Wr) : doneX kp w = doneN kp w w.length := rfl
end Go.Proofs.Ytkeiphkccnfhoaa
