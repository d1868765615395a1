/-
  What the bound on what comes in gives: lengths of slices, of slices of slices. No program in sight.
-/
import Derived.Test.YtddabbfjoejalaaViewLaw
namespace Go.Proofs.Ytddabbfjoejalaa
open Go.RowKit
set_option linter.unusedVariables false
namespace Mv
theorem bulk_pos {H : Type} (d : DataW H) : 1 ≤ Rows.uptoBulk d := by
  cases d with
  | lit l => cases l <;> simp [Rows.uptoBulk]
  | nil => simp [Rows.uptoBulk]
  | ptr d => simp [Rows.uptoBulk]
  | slice elems spare => simp [Rows.uptoBulk]
  | agg parts => simp [Rows.uptoBulk]
  | iface t d => simp [Rows.uptoBulk]
  | map entries => simp [Rows.uptoBulk]
  | held h => simp [Rows.uptoBulk]
theorem bulk_len {H : Type} (l : List (DataW H)) : l.length ≤ Rows.uptoBulkAll l := by
  induction l with
  | nil => simp [Rows.uptoBulkAll]
  | cons x r ih => have := bulk_pos x; simp only [Rows.uptoBulkAll, List.length_cons]; omega
theorem bulk_part {H : Type} (l : List (DataW H)) (i : Nat) (h : i < l.length) : Rows.uptoBulk l[i] ≤ Rows.uptoBulkAll l := by
  induction l generalizing i with
  | nil => simp at h
  | cons x r ih =>
    simp only [Rows.uptoBulkAll]
    cases i with
    | zero => simp
    | succ i => have := ih i (by simpa using h); simp only [List.getElem_cons_succ]; omega
section
variable {H : Type} {enc : TypeId × Value → H} {P : Program} {W : World} {base : Nat} {held : Bool}
theorem sl_of_bulk {α : Type} [Nonempty α] {t e : TypeId} {n : Nat} {f : α → List Value} {Q : α → DataW H → Prop} {a : Option Addr} {len cap : Nat} {d : DataW H} {ps : List MemPlace}
    (ht : P.underlying t = some (.slice e)) (hc : P.cellsOf e = n) (hn0 : 0 < n) (hfn : ∀ x, (f x).length = n) (he : ∀ fuel cs x, DataW.trod enc P W base (fun _ => true) held fuel e cs = some x → ∃ y : α, cs = f y ∧ Q y x.1)
    (h : DataW.Trod enc P W base (fun _ => true) held t (.slice a len cap) d ps) :
    ∃ l : List α, Sl n f (roM W) (.slice a len cap) l ∧ l.length ≤ Rows.uptoBulk d ∧ ∀ x ∈ l, ∃ dx, Q x dx ∧ Rows.uptoBulk dx ≤ Rows.uptoBulk d := by
  obtain ⟨l, h1, h2⟩ := sl_of ht hc hn0 hfn he h
  refine ⟨l, h1, ?_, fun x hx => ?_⟩
  · rcases h2 with rfl | ⟨ds, rest, rfl, hl, _⟩
    · simp
    · have := bulk_len ds; simp only [Rows.uptoBulk]; omega
  · rcases h2 with rfl | ⟨ds, rest, rfl, hl, hq⟩
    · cases hx
    · obtain ⟨i, hi, rfl⟩ := List.getElem_of_mem hx
      exact ⟨ds[i], hq i hi (by omega), by have := bulk_part ds i (by omega); simp only [Rows.uptoBulk]; omega⟩
theorem sl_ints_bulk {t e : TypeId} {k : IntKind} {a : Option Addr} {len cap : Nat} {d : DataW H} {ps : List MemPlace} (ht : P.underlying t = some (.slice e)) (he : P.underlying e = some (.int k)) (hc : P.cellsOf e = 1)
    (h : DataW.Trod enc P W base (fun _ => true) held t (.slice a len cap) d ps) :
    ∃ l : List Int, Sl 1 (fun x => [.int k x]) (roM W) (.slice a len cap) l ∧ (∀ x ∈ l, (Lit.int k x).wf = true) ∧ l.length ≤ Rows.uptoBulk d := by
  have : Nonempty Int := ⟨0⟩
  obtain ⟨l, h1, h2, h3⟩ := sl_of_bulk (α := Int) (n := 1) (f := fun x => [.int k x]) (Q := fun x _ => (Lit.int k x).wf = true) ht hc (by decide) (fun _ => rfl) (fun fuel cs x hx => by
    obtain ⟨m, e1, _, hw⟩ := DataW.trod_int he hx
    exact ⟨m, e1, hw⟩) h
  exact ⟨l, h1, fun x hx => (h3 x hx).choose_spec.1, h2⟩
theorem sl_nats_bulk {t e : TypeId} {a : Option Addr} {len cap : Nat} {d : DataW H} {ps : List MemPlace} (ht : P.underlying t = some (.slice e)) (he : P.underlying e = some (.int .u64)) (hc : P.cellsOf e = 1)
    (h : DataW.Trod enc P W base (fun _ => true) held t (.slice a len cap) d ps) :
    ∃ l : List Nat, Sl 1 (fun x : Nat => [.int .u64 (x : Int)]) (roM W) (.slice a len cap) l ∧ (∀ x ∈ l, x < 18446744073709551616) ∧ l.length ≤ Rows.uptoBulk d := by
  obtain ⟨l, h1, h2, h4⟩ := sl_ints_bulk ht he hc h
  obtain ⟨m, rfl, h3⟩ := nats_of l 18446744073709551615 (fun x hx => by
    have := h2 x hx
    simp [Lit.wf, IntKind.min, IntKind.max, IntKind.signed, IntKind.bits] at this; omega)
  exact ⟨m, h1.map _ (fun _ => rfl), fun x hx => by have := h3 x hx; omega, by simpa using h4⟩
theorem slOf_bulk {α : Type} [Nonempty α] {R : Mem → Value → α → Prop} {t e : TypeId} {Q : α → DataW H → Prop} {a : Option Addr} {len cap : Nat} {d : DataW H} {ps : List MemPlace}
    (ht : P.underlying t = some (.slice e)) (hc : P.cellsOf e = 1) (he : ∀ fuel cs x, DataW.trod enc P W base (fun _ => true) held fuel e cs = some x → ∃ hdr y, cs = [hdr] ∧ R (roM W) hdr y ∧ Q y x.1)
    (h : DataW.Trod enc P W base (fun _ => true) held t (.slice a len cap) d ps) :
    ∃ l : List α, SlOf R (roM W) (.slice a len cap) l ∧ l.length ≤ Rows.uptoBulk d ∧ ∀ x ∈ l, ∃ dx, Q x dx ∧ Rows.uptoBulk dx ≤ Rows.uptoBulk d := by
  obtain ⟨l, h1, h2⟩ := slOf_of ht hc he h
  refine ⟨l, h1, ?_, fun x hx => ?_⟩
  · rcases h2 with rfl | ⟨ds, rest, rfl, hl, _⟩
    · simp
    · have := bulk_len ds; simp only [Rows.uptoBulk]; omega
  · rcases h2 with rfl | ⟨ds, rest, rfl, hl, hq⟩
    · cases hx
    · obtain ⟨i, hi, rfl⟩ := List.getElem_of_mem hx
      exact ⟨ds[i], hq i hi (by omega), by have := bulk_part ds i (by omega); simp only [Rows.uptoBulk]; omega⟩
/-- Slices of numbers that came in, with the bound. -/
theorem rows_bulk {t te e : TypeId} {a : Option Addr} {len cap : Nat} {d : DataW H} {ps : List MemPlace} (ht : P.underlying t = some (.slice te)) (hc : P.cellsOf te = 1) (hte : P.underlying te = some (.slice e)) (he : P.underlying e = some (.int .u64)) (hce : P.cellsOf e = 1)
    (h : DataW.Trod enc P W base (fun _ => true) held t (.slice a len cap) d ps) :
    ∃ l : List (List Nat), SlOf (fun S v l => Sl 1 (fun x : Nat => [Value.int .u64 (x : Int)]) S v l) (roM W) (.slice a len cap) l ∧ (∀ x ∈ l, ∀ n ∈ x, n < 18446744073709551616) ∧ l.length ≤ Rows.uptoBulk d ∧ ∀ x ∈ l, x.length ≤ Rows.uptoBulk d := by
  obtain ⟨l, h1, h2, h3⟩ := slOf_bulk (R := fun S v (l : List Nat) => Sl 1 (fun x : Nat => [Value.int .u64 (x : Int)]) S v l) (Q := fun (x : List Nat) dx => (∀ n ∈ x, n < 18446744073709551616) ∧ x.length ≤ Rows.uptoBulk dx) ht hc (fun fuel cs x hx => by
    obtain ⟨p, ln, cp, hcs⟩ := trod_slice_cells hte hx
    subst hcs
    obtain ⟨m, h3, h4, h5⟩ := sl_nats_bulk (W := W) (enc := enc) (base := base) (held := held) (d := x.1) (ps := x.2) hte he hce ⟨fuel, hx⟩
    exact ⟨_, m, rfl, h3, h4, h5⟩) h
  refine ⟨l, h1, fun x hx => ?_, h2, fun x hx => ?_⟩
  · obtain ⟨dx, hq, _⟩ := h3 x hx; exact hq.1
  · obtain ⟨dx, hq, hb⟩ := h3 x hx; exact Nat.le_trans hq.2 hb
end
end Mv
end Go.Proofs.Ytddabbfjoejalaa
