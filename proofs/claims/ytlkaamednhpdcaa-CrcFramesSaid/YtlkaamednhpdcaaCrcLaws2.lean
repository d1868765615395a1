/-
  The laws of layer 2, walked, on: frames.
-/
import Derived.Test.YtlkaamednhpdcaaCrcLaws
namespace Go.Proofs.Ytlkaamednhpdcaa
open Go.RowKit
open Crc (un v32 Tn)
set_option linter.unusedVariables false
set_option maxHeartbeats 1000000 in
theorem walk_CrcFrames (s f : ByteArray) (w : World) (h0 : s.size ≤ maxLen) (h1 : f.size ≤ maxLen) :
    Calls Try.prog 4 #[.string s, .string f] w fun e w' => e = .returned (.bool true) ∧ Below w.heap.size w w' := by
  go_enter Try.func4, Try.ntmps4
  go_wp2_with (first | (go_at_call 14; (with_reducible refine (crc_Frame _ h0 _).mono ?_); rintro e w1 ⟨rfl, hb1⟩) | (go_at_call 15; (with_reducible refine (ref_Frame _ h0 _).mono ?_); rintro e w1 ⟨rfl, hb1⟩) | (go_at_call 16; (with_reducible refine (crc_Open _ h1 _).mono ?_); rintro e w1 ⟨rfl, hb1⟩) | (go_at_call 17; (with_reducible refine (ref_Open _ h1 _).mono ?_); rintro e w1 ⟨rfl, hb1⟩) | (go_at_call 18; (with_reducible refine (crc_Apart _ _ h0 h1 _).mono ?_); rintro e w1 ⟨rfl, hb1⟩) | (go_at_call 19; (with_reducible refine (ref_Apart _ _ h0 h1 _).mono ?_); rintro e w1 ⟨rfl, hb1⟩) | (go_at_call 9; (with_reducible refine (crc_lives _).mono ?_); rintro e w1 ⟨rfl, hb1⟩))
  go_ret
  exact ⟨rfl, by (repeat' (first | exact Below.refl _ _ | assumption | refine below_alloc' ?_ _ | refine Below.drew ?_ | refine below_drewN ?_ _ | refine below_then ?_ ‹_›))⟩
end Go.Proofs.Ytlkaamednhpdcaa
