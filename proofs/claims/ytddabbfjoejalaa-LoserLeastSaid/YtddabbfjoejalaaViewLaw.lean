/-
  A view of memory, the eleventh part: what a law is handed: its arguments read as lists, out of the world as it is; what the bound on what comes in gives. No program in sight.
-/
import Derived.Test.YtddabbfjoejalaaViewData
import Derived.ChangeSlices
namespace Go.Proofs.Ytddabbfjoejalaa
open Go.RowKit
set_option linter.unusedVariables false
namespace Mv
/-- The whole world, read only. -/
def roM (w : World) : Mem := ⟨fun _ => none, fun a => w.cell? a⟩
theorem view_roM (w : World) : View (roM w) w := ⟨fun _ _ h => (by cases h), fun _ _ h => ⟨h, rfl⟩⟩
theorem ACall.callsW {P : Program} {f : FuncId} {args : Array Value} {v : Value} {w : World} (h : ACall P f args (roM w) fun v' S' => v' = v) : Calls P f args w fun e w' => e = .returned v ∧ Below w.heap.size w w' :=
  (h w (view_roM w)).mono fun _ _ ⟨v', S', he, hr, s⟩ => ⟨by rw [he, hr], s.toBelow fun _ => rfl⟩
theorem roM_knows {w : World} {a : Addr} {cs : List Value} (h : ∀ j v, cs[j]? = some v → w.cell? (a.add j) = some v) : (roM w).Knows a cs := fun w' hv j v hj => (hv.ro _ _ (h j v hj)).1
theorem choose_to {α : Type} {m : Nat} {p : Nat → α → Prop} (d : 0 < m → α) (h : ∀ i, i < m → ∃ y, p i y) : ∃ l : List α, l.length = m ∧ ∀ i (hi : i < l.length), p i l[i] := by
  by_cases hm : m = 0
  · subst hm; exact ⟨[], rfl, fun i hi => by cases hi⟩
  · have each : ∀ i, ∃ y, i < m → p i y := fun i => by
      by_cases hi : i < m
      · obtain ⟨y, hy⟩ := h i hi; exact ⟨y, fun _ => hy⟩
      · exact ⟨d (by omega), fun h => absurd h hi⟩
    obtain ⟨g, hg⟩ := Classical.axiomOfChoice each
    exact ⟨(List.range m).map g, by simp, fun i hi => by simp at hi ⊢; exact hg i hi⟩
section
variable {H : Type} {enc : TypeId × Value → H} {P : Program} {W : World} {base : Nat} {held : Bool}
/-- A slice that came in: its elements, each by its cells. 'Q': what is known of an element and of how it reads. -/
theorem sl_of {α : Type} [Nonempty α] {t e : TypeId} {n : Nat} {f : α → List Value} {Q : α → DataW H → Prop} {a : Option Addr} {len cap : Nat} {d : DataW H} {ps : List MemPlace}
    (ht : P.underlying t = some (.slice e)) (hc : P.cellsOf e = n) (hn0 : 0 < n) (hfn : ∀ x, (f x).length = n) (he : ∀ fuel cs x, DataW.trod enc P W base (fun _ => true) held fuel e cs = some x → ∃ y : α, cs = f y ∧ Q y x.1)
    (h : DataW.Trod enc P W base (fun _ => true) held t (.slice a len cap) d ps) :
    ∃ l : List α, Sl n f (roM W) (.slice a len cap) l ∧ (l = [] ∨ ∃ ds rest, d = .slice ds rest ∧ ds.length = l.length ∧ ∀ i (hi : i < l.length) (hi' : i < ds.length), Q l[i] ds[i]) := by
  obtain ⟨fuel, hf⟩ := h
  rcases Go.Deep.open_slice ht hf with ⟨hcs, _⟩ | ⟨x, l, c, m, n', D, Pl, hcs, _, hl, hm, hmm, hx, hel⟩
  · simp [Value.cells] at hcs
    obtain ⟨rfl, rfl, rfl⟩ := hcs
    exact ⟨[], Sl.nil _ _ _, .inl rfl⟩
  · simp [Value.cells] at hcs
    obtain ⟨rfl, rfl, rfl⟩ := hcs
    have hmc : m = cap := by simpa using hmm
    obtain ⟨ys, hy1, hy2⟩ := choose_to (α := α) (m := len) (p := fun i y => (∀ j v, (f y)[j]? = some v → W.cell? ((x.add (i * n)).add j) = some v) ∧ Q y (D i)) (fun _ => Classical.choice inferInstance) fun i hi => by
      obtain ⟨cs', h1, h2⟩ := hel i (by omega)
      obtain ⟨y, rfl, hq⟩ := he _ _ _ h2
      rw [hc] at h1
      refine ⟨y, fun j v hj => ?_, hq⟩
      obtain ⟨_, hlen, hcell⟩ := World.cells?_some h1
      have hj' : j < n := by rw [← hlen]; exact (List.getElem?_eq_some_iff.1 hj).1
      rw [hcell j hj']; exact hj
    refine ⟨ys, ⟨some x, cap, by rw [hy1], by omega, by unfold maxLen at hm; omega, ?_⟩, .inr ⟨_, _, congrArg Prod.fst hx, by simp [hy1], fun i hi hi' => by simp; exact (hy2 i hi).2⟩⟩
    by_cases h0 : len = 0
    · left; exact List.eq_nil_of_length_eq_zero (by omega)
    · right
      obtain ⟨b, off, spot⟩ := x
      have hz : ∀ i (hi : i < ys.length) j v, (f ys[i])[j]? = some v → W.cell? (((⟨b, off, spot⟩ : Addr).add (i * n)).add j) = some v := fun i hi => (hy2 i hi).1
      have hlen0 : 0 < ys.length := by omega
      have hf0 : 0 < (f ys[0]).length := by rw [hfn]; exact hn0
      have hv0 : (f ys[0])[0]? = some (f ys[0])[0] := List.getElem?_eq_getElem hf0
      have hspot : spot = none := by simpa [Addr.add] using World.cell?_spot (hz 0 hlen0 0 _ hv0)
      subst hspot
      refine ⟨b, off, rfl, fun i hi => roM_knows fun j v hj => ?_⟩
      have := hz i hi j v hj
      rwa [addr_add] at this
/-- A slice of things of one cell each that are known by their value: slices. -/
theorem slOf_of {α : Type} [Nonempty α] {R : Mem → Value → α → Prop} {t e : TypeId} {Q : α → DataW H → Prop} {a : Option Addr} {len cap : Nat} {d : DataW H} {ps : List MemPlace}
    (ht : P.underlying t = some (.slice e)) (hc : P.cellsOf e = 1) (he : ∀ fuel cs x, DataW.trod enc P W base (fun _ => true) held fuel e cs = some x → ∃ hdr y, cs = [hdr] ∧ R (roM W) hdr y ∧ Q y x.1)
    (h : DataW.Trod enc P W base (fun _ => true) held t (.slice a len cap) d ps) :
    ∃ l : List α, SlOf R (roM W) (.slice a len cap) l ∧ (l = [] ∨ ∃ ds rest, d = .slice ds rest ∧ ds.length = l.length ∧ ∀ i (hi : i < l.length) (hi' : i < ds.length), Q l[i] ds[i]) := by
  have : Nonempty (Value × α) := ⟨(.nilFunc, Classical.choice inferInstance)⟩
  obtain ⟨l, h1, h2⟩ := sl_of (α := Value × α) (n := 1) (f := fun p => [p.1]) (Q := fun p x => R (roM W) p.1 p.2 ∧ Q p.2 x) ht hc (by decide) (fun _ => rfl) (fun fuel cs x hx => by
    obtain ⟨hdr, y, q1, q2, q3⟩ := he fuel cs x hx
    exact ⟨(hdr, y), q1, q2, q3⟩) h
  have h3 : Sl 1 (fun x : Value => [x]) (roM W) (.slice a len cap) (l.map Prod.fst) := by
    obtain ⟨a', c', e1, e2, e3, e4⟩ := h1
    refine ⟨a', c', by rw [e1, List.length_map], by rw [List.length_map]; exact e2, by rw [List.length_map]; exact e3, ?_⟩
    rcases e4 with e4 | ⟨b, off, e5, e6⟩
    · left; rw [e4]; rfl
    · right; refine ⟨b, off, e5, fun i hi => ?_⟩
      have hi' : i < l.length := by simpa using hi
      have := e6 i hi'
      simpa using this
  rcases h2 with h2 | ⟨ds, rest, e1, e2, e3⟩
  · subst h2
    exact ⟨[], ⟨[], rfl, h3, fun i h => by cases h⟩, .inl rfl⟩
  · refine ⟨l.map Prod.snd, ⟨l.map Prod.fst, by simp, h3, fun i hi hi' => ?_⟩, .inr ⟨ds, rest, e1, by simpa using e2, fun i hi hi' => ?_⟩⟩
    · have hil : i < l.length := by simpa using hi
      have := (e3 i hil (by omega)).1
      simpa using this
    · have hil : i < l.length := by simpa using hi
      have := (e3 i hil hi').2
      simpa using this
theorem trod_slice_cells {t e : TypeId} {fuel : Nat} {cs : List Value} {x : DataW H × List MemPlace} (ht : P.underlying t = some (.slice e)) (h : DataW.trod enc P W base (fun _ => true) held fuel t cs = some x) : ∃ a len cap, cs = [.slice a len cap] := by
  rcases Go.Deep.open_slice ht h with ⟨hcs, _⟩ | ⟨x, l, c, m, n', D, Pl, hcs, _⟩
  · exact ⟨none, 0, 0, hcs⟩
  · exact ⟨some x, l, c, hcs⟩
/-- A slice of numbers. -/
theorem sl_ints_of {t e : TypeId} {k : IntKind} {a : Option Addr} {len cap : Nat} {d : DataW H} {ps : List MemPlace} (ht : P.underlying t = some (.slice e)) (he : P.underlying e = some (.int k)) (hc : P.cellsOf e = 1)
    (h : DataW.Trod enc P W base (fun _ => true) held t (.slice a len cap) d ps) :
    ∃ l : List Int, Sl 1 (fun x => [.int k x]) (roM W) (.slice a len cap) l ∧ ∀ x ∈ l, (Lit.int k x).wf = true := by
  have : Nonempty Int := ⟨0⟩
  obtain ⟨l, h1, h2⟩ := sl_of (α := Int) (n := 1) (f := fun x => [.int k x]) (Q := fun x _ => (Lit.int k x).wf = true) ht hc (by decide) (fun _ => rfl) (fun fuel cs x hx => by
    obtain ⟨m, e1, _, hw⟩ := DataW.trod_int he hx
    exact ⟨m, e1, hw⟩) h
  refine ⟨l, h1, fun x hx => ?_⟩
  rcases h2 with h2 | ⟨ds, rest, e1, e2, e3⟩
  · subst h2; cases hx
  · obtain ⟨i, hi, rfl⟩ := List.getElem_of_mem hx
    exact e3 i hi (by omega)
theorem Sl.map {α β : Type} {n : Nat} {f : α → List Value} {g : β → List Value} (q : β → α) (hq : ∀ x, f (q x) = g x) {S : Mem} {v : Value} {l : List β} (h : Sl n f S v (l.map q)) : Sl n g S v l := by
  obtain ⟨a, c, e1, e2, e3, e4⟩ := h
  rw [List.length_map] at e1 e2 e3
  refine ⟨a, c, e1, e2, e3, ?_⟩
  rcases e4 with e4 | ⟨b, off, e5, e6⟩
  · left; exact List.map_eq_nil_iff.1 e4
  · right; refine ⟨b, off, e5, fun i hi => ?_⟩
    have := e6 i (by simpa using hi)
    rw [List.getElem_map, hq] at this
    exact this
theorem nats_of (l : List Int) (k : Int) (h : ∀ x ∈ l, 0 ≤ x ∧ x ≤ k) : ∃ m : List Nat, l = m.map (fun n : Nat => (n : Int)) ∧ ∀ x ∈ m, (x : Int) ≤ k := by
  refine ⟨l.map Int.toNat, ?_, ?_⟩
  · rw [List.map_map]
    have : ∀ x ∈ l, ((fun n : Nat => (n : Int)) ∘ Int.toNat) x = id x := fun x hx => by have := h x hx; simp [Function.comp]; omega
    rw [List.map_congr_left this]; simp
  · intro x hx
    obtain ⟨y, hy, rfl⟩ := List.mem_map.1 hx
    have := h y hy; omega
theorem sl_nats_of {t e : TypeId} {a : Option Addr} {len cap : Nat} {d : DataW H} {ps : List MemPlace} (ht : P.underlying t = some (.slice e)) (he : P.underlying e = some (.int .u64)) (hc : P.cellsOf e = 1)
    (h : DataW.Trod enc P W base (fun _ => true) held t (.slice a len cap) d ps) :
    ∃ l : List Nat, Sl 1 (fun x : Nat => [.int .u64 (x : Int)]) (roM W) (.slice a len cap) l ∧ ∀ x ∈ l, x < 18446744073709551616 := by
  obtain ⟨l, h1, h2⟩ := sl_ints_of ht he hc h
  obtain ⟨m, rfl, h3⟩ := nats_of l 18446744073709551615 (fun x hx => by
    have := h2 x hx
    simp [Lit.wf, IntKind.min, IntKind.max, IntKind.signed, IntKind.bits] at this; omega)
  exact ⟨m, h1.map _ (fun _ => rfl), fun x hx => by have := h3 x hx; omega⟩
end
end Mv
end Go.Proofs.Ytddabbfjoejalaa
