/-
  BitsCuts: the slice that comes in.
-/
import Derived.Test.YtpeljbmbgjeomaaVBitsL7
import Derived.Deep.SlicePairs
namespace Go.Proofs.Ytpeljbmbgjeomaa
open Go.RowKit
open Bits Mv
set_option linter.unusedVariables false
set_option linter.unusedSimpArgs false
/-- A slice of Bitstrs, in a world. -/
def IsBvW (w : World) (a : Option Addr) (len : Nat) (xs : List (ByteArray × Int)) : Prop :=
  xs.length = len ∧ len ≤ 9223372036854775807 ∧ (len = 0 ∨ ∃ b off, a = some ⟨b, off, none⟩ ∧ ∀ i (h : i < xs.length), w.cell? ⟨b, off + i * 2, none⟩ = some (.string xs[i].1) ∧ w.cell? ⟨b, off + i * 2 + 1, none⟩ = some (.int .i64 xs[i].2)) ∧ ∀ x ∈ xs, x.1.size ≤ 9223372036854775807
theorem walk_BitsCuts (s : ByteArray) (N : Int) (p : Option Addr) (len cap : Nat) (xs : List (ByteArray × Int)) (a n : Int) (w : World) (hs : s.size ≤ maxLen) (hN : (Lit.int .i64 N).wf = true) (hx : IsBvW w p len xs) (ha : (Lit.int .i64 a).wf = true) (hn : (Lit.int .i64 n).wf = true) :
    Calls Try.prog 6 #[.agg #[.string s, .int .i64 N], .slice p len cap, .int .i64 a, .int .i64 n] w fun e w' => e = .returned (.bool true) ∧ Below w.heap.size w w' := by
  obtain ⟨h1, h2, h3, h4⟩ := hx
  have hI : IsBv ⟨fun _ => none, fun a => w.cell? a⟩ p len xs := by
    refine ⟨h1, h2, ?_, h4⟩
    rcases h3 with h3 | ⟨b, off, rfl, hk⟩
    · exact .inl h3
    · refine .inr ⟨b, off, rfl, fun i hi w' hv j v hj => ?_⟩
      obtain ⟨k1, k2⟩ := hk i hi
      match j, hj with
      | 0, hj => exact (hv.ro _ _ (by simp [Addr.add] at hj ⊢; rw [← hj]; exact k1)).1
      | 1, hj => exact (hv.ro _ _ (by simp [Addr.add] at hj ⊢; rw [← hj]; exact k2)).1
  have h := law_BitsCuts s N a n p len cap xs _ (by unfold maxLen at hs; omega) hI (wf64 ha).1 (wf64 hn).1 (wf64 hn).2 (wf64 ha).2
  exact (h w ⟨fun _ _ h => (by cases h), fun _ _ h => ⟨h, rfl⟩⟩).mono fun _ _ ⟨v', S', he, hr, st⟩ => ⟨by rw [he, hr], st.toBelow fun _ => rfl⟩
theorem isBvW_of {H : Type} {enc : TypeId × Value → H} {P : Program} {W : World} {t e : TypeId} {f0 f1 : Field} {a : Option Addr} {len cap : Nat} {d : DataW H} {ps : List MemPlace} {base : Nat} {held : Bool}
    (ht : P.underlying t = some (.slice e)) (he : P.underlying e = some (.struct #[f0, f1])) (ce : P.cellsOf e = 2) (o0 : f0.offset = 0) (o1 : f1.offset = 1) (c0 : P.cellsOf f0.type = 1) (c1 : P.cellsOf f1.type = 1)
    (u0 : P.underlying f0.type = some .string) (u1 : P.underlying f1.type = some (.int .i64))
    (h : DataW.Trod enc P W base (fun _ => true) held t (.slice a len cap) d ps) : ∃ xs, IsBvW W a len xs := by
  obtain ⟨fuel, hf⟩ := h
  rcases Go.Deep.open_slice_pairs ht he ce o0 o1 c0 c1 hf with ⟨hcs, _⟩ | ⟨x, l, c, m, n, V0, V1, D0, D1, P0, P1, hcs, _, hl, hm, hz, _, hcell⟩
  · simp [Value.cells] at hcs
    obtain ⟨rfl, rfl, rfl⟩ := hcs
    exact ⟨[], rfl, by decide, .inl rfl, by simp⟩
  · simp [Value.cells] at hcs
    obtain ⟨rfl, rfl, rfl⟩ := hcs
    have hz' : m = cap := by simpa using hz
    have each : ∀ i, ∃ y : ByteArray × Int, i < m → V0 i = .string y.1 ∧ V1 i = .int .i64 y.2 ∧ y.1.size ≤ maxLen := by
      intro i
      by_cases hi : i < m
      · obtain ⟨_, _, t0, t1⟩ := hcell i hi
        obtain ⟨s, e0, _, hs⟩ := DataW.trod_string u0 t0
        obtain ⟨k, e1, _, _⟩ := DataW.trod_int u1 t1
        exact ⟨(s, k), fun _ => ⟨by simpa using e0, by simpa using e1, hs⟩⟩
      · exact ⟨(ByteArray.empty, 0), fun h => absurd h hi⟩
    obtain ⟨g, hg⟩ := Classical.axiomOfChoice each
    refine ⟨(List.range len).map g, by simp, by unfold maxLen at hm; omega, ?_, ?_⟩
    · by_cases h0 : len = 0
      · exact .inl h0
      · right
        obtain ⟨b, off, spot⟩ := x
        have hc0 := (hcell 0 (by omega)).1
        have hspot : spot = none := by simpa [Addr.add] using World.cell?_spot hc0
        subst hspot
        refine ⟨b, off, rfl, fun i hi => ?_⟩
        have hi' : i < len := by simpa using hi
        obtain ⟨k1, k2, _, _⟩ := hcell i (by omega)
        obtain ⟨v1, v2, _⟩ := hg i (by omega)
        have ea : ∀ j, (⟨b, off, none⟩ : Addr).add j = ⟨b, off + j, none⟩ := fun j => by unfold Addr.add; split <;> simp_all
        rw [ea] at k1 k2
        simp only [List.getElem_map, List.getElem_range]
        rw [← v1, ← v2]
        exact ⟨k1, by rw [Nat.add_assoc]; exact k2⟩
    · intro y hy
      simp only [List.mem_map, List.mem_range] at hy
      obtain ⟨i, hi, rfl⟩ := hy
      have := (hg i (by omega)).2.2
      unfold maxLen at this; omega
end Go.Proofs.Ytpeljbmbgjeomaa
