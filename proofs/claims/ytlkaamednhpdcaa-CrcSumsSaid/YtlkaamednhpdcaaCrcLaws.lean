/-
  The laws of layer 2, walked: each returns true.
-/
import Derived.Test.YtlkaamednhpdcaaCrcLives
import Derived.SliceStrings
import Derived.ProofKit
import Derived.OpenShut
namespace Go.Proofs.Ytlkaamednhpdcaa
open Go.RowKit
open Crc (un v32 Tn)
set_option linter.unusedVariables false

theorem isStrs_of {H : Type} {enc : TypeId × Value → H} {P : Program} {W : World} {t e : TypeId} {a : Option Addr} {len cap : Nat} {d : DataW H} {ps : List MemPlace} {base : Nat} {held : Bool}
    (ht : P.underlying t = some (.slice e)) (he : P.underlying e = some .string) (hc : P.cellsOf e = 1)
    (h : DataW.Trod enc P W base (fun _ => true) held t (.slice a len cap) d ps) : ∃ ss, IsStrs W a len ss := by
  obtain ⟨fuel, hf⟩ := h
  rcases Go.ChangeShapes.open_strings ht he hc hf with ⟨hcs, _⟩ | ⟨x, l, c, ss, hcs, _, hl, hm, hz, _, hcell, hs⟩
  · simp [Value.cells] at hcs
    obtain ⟨rfl, rfl, rfl⟩ := hcs
    exact ⟨[], rfl, by decide, .inl rfl, by simp⟩
  · simp [Value.cells] at hcs
    obtain ⟨rfl, rfl, rfl⟩ := hcs
    have hz' : ss.length = cap := by simpa using hz
    refine ⟨ss.take len, by simp; omega, by unfold maxLen at *; omega, ?_, fun s h => hs s (List.mem_of_mem_take h)⟩
    by_cases h0 : len = 0
    · exact .inl h0
    · right
      obtain ⟨b, off, spot⟩ := x
      have hc0 := hcell 0 (by omega)
      have hspot : spot = none := by simpa [Addr.add] using World.cell?_spot hc0
      subst hspot
      refine ⟨b, off, rfl, fun i hi => ?_⟩
      have := hcell i (by omega)
      have e : (⟨b, off, none⟩ : Addr).add i = ⟨b, off + i, none⟩ := by unfold Addr.add; split <;> simp_all
      rw [e] at this
      rw [this]
      simp [strAt, List.getD, hi]
theorem IsStrs.later {w w' : World} {a : Option Addr} {len : Nat} {ss : List ByteArray} (h : IsStrs w a len ss) (hb : Below w.heap.size w w') : IsStrs w' a len ss := by
  obtain ⟨h1, h2, h3, h4⟩ := h
  refine ⟨h1, h2, ?_, h4⟩
  rcases h3 with h3 | ⟨b, off, ha, h3⟩
  · exact .inl h3
  · exact .inr ⟨b, off, ha, fun i hi => cell_later hb (h3 i hi)⟩

set_option maxHeartbeats 1000000 in
theorem walk_CrcSums (a : Option Addr) (len cap : Nat) (ss : List ByteArray) (sum : Int) (s : ByteArray) (w : World) (h0 : IsStrs w a len ss) (h1 : (Lit.int .u32 sum).wf = true) (h2 : s.size ≤ maxLen) :
    Calls Try.prog 3 #[.slice a len cap, .int .u32 sum, .string s] w fun e w' => e = .returned (.bool true) ∧ Below w.heap.size w w' := by
  have b := bounds_u32 h1
  have b0 := b.1
  have b1 := b.2
  clear b h1
  go_enter Try.func3, Try.ntmps3
  go_wp2_with fail
  (refine (crc_lives _).mono ?_); rintro e w1 ⟨rfl, hb1⟩
  have h0' := h0.later hb1
  go_wp2_with (first | (go_at_call 10; (with_reducible refine (crc_Sum _ _ _ _ _ h0').mono ?_); rintro e w' ⟨rfl, rfl⟩) | (go_at_call 11; (with_reducible refine (ref_Sum _ _ _ _ _ h0').mono ?_); rintro e w' ⟨rfl, rfl⟩) | (go_at_call 12; (with_reducible refine (crc_More _ _ h2 b0 b1 _).mono ?_); rintro e w' ⟨rfl, rfl⟩) | (go_at_call 13; (with_reducible refine (ref_More _ _ h2 b0 b1 _).mono ?_); rintro e w' ⟨rfl, rfl⟩))
  go_ret
  exact ⟨rfl, by (repeat' (first | exact Below.refl _ _ | assumption | refine below_alloc' ?_ _ | refine Below.drew ?_ | refine below_drewN ?_ _ | refine below_then ?_ ‹_›))⟩
end Go.Proofs.Ytlkaamednhpdcaa
