/-
  The law of three texts together, whatever their lengths.
-/
import Derived.Test.YtlkaamednhpdcaaCrcLinearWalk
namespace Go.Proofs.Ytlkaamednhpdcaa
open Go.RowKit
set_option linter.unusedVariables false
set_option maxHeartbeats 1000000 in
theorem walk_CrcLinear (a b c : ByteArray) (w : World) (h0 : a.size ≤ maxLen) (h1 : b.size ≤ maxLen) (h2 : c.size ≤ maxLen) :
    Calls Try.prog 8 #[.string a, .string b, .string c] w fun e w' => e = .returned (.bool true) ∧ Below w.heap.size w w' := by
  by_cases e1 : a.size = b.size
  · by_cases e2 : b.size = c.size
    · exact linear_walk a b c w h0 e1.symm (by omega)
    · have f1 : ((a.size : Int) != b.size) = false := by simp [e1]
      have f2 : ((b.size : Int) != c.size) = true := by simp; omega
      have f1' : (a.size != b.size) = false := by simp [e1]
      have f2' : (b.size != c.size) = true := by simp; omega
      clear e1 e2
      go_enter Try.func8, Try.ntmps8
      go_wp2_with (go_at_call 9; (with_reducible refine (crc_lives _).mono ?_); rintro e w1 ⟨rfl, hb1⟩)
      go_ret
      exact ⟨rfl, by (repeat' (first | exact Below.refl _ _ | assumption | refine below_alloc' ?_ _ | refine Below.drew ?_ | refine below_drewN ?_ _ | refine below_then ?_ ‹_›))⟩
  · have f1 : ((a.size : Int) != b.size) = true := by simp; omega
    have f1' : (a.size != b.size) = true := by simp; omega
    clear e1
    go_enter Try.func8, Try.ntmps8
    go_wp2_with (go_at_call 9; (with_reducible refine (crc_lives _).mono ?_); rintro e w1 ⟨rfl, hb1⟩)
    go_ret
    exact ⟨rfl, by (repeat' (first | exact Below.refl _ _ | assumption | refine below_alloc' ?_ _ | refine Below.drew ?_ | refine below_drewN ?_ _ | refine below_then ?_ ‹_›))⟩
end Go.Proofs.Ytlkaamednhpdcaa
