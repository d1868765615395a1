/-
  The laws of layer 2, walked: each returns true.
-/
import Derived.Test.YtlkaamednhpdcaaCrcLives
namespace Go.Proofs.Ytlkaamednhpdcaa
open Go.RowKit
open Crc (un v32 Tn)
set_option linter.unusedVariables false

set_option maxHeartbeats 1000000 in
theorem walk_CrcSums (a : Option Addr) (len cap : Nat) (ss : List ByteArray) (sum : Int) (s : ByteArray) (w : World) (h0 : IsStrs w a len ss) (h1 : (Lit.int .u32 sum).wf = true) (h2 : s.size ≤ maxLen) :
    Calls Try.prog 3 #[.slice a len cap, .int .u32 sum, .string s] w fun e w' => e = .returned (.bool true) ∧ Below w.heap.size w w' := by
  have b := bounds_u32 h1
  have b0 := b.1
  have b1 := b.2
  clear b h1
  go_enter Try.func3, Try.ntmps3
  go_wp2_with fail
  (refine (crc_lives _).mono ?_); rintro e w1 ⟨rfl, hb1⟩
  have h0' := h0.later hb1
  go_wp2_with (first | (go_at_call 10; (with_reducible refine (crc_Sum _ _ _ _ _ h0').mono ?_); rintro e w' ⟨rfl, rfl⟩) | (go_at_call 11; (with_reducible refine (ref_Sum _ _ _ _ _ h0').mono ?_); rintro e w' ⟨rfl, rfl⟩) | (go_at_call 12; (with_reducible refine (crc_More _ _ h2 b0 b1 _).mono ?_); rintro e w' ⟨rfl, rfl⟩) | (go_at_call 13; (with_reducible refine (ref_More _ _ h2 b0 b1 _).mono ?_); rintro e w' ⟨rfl, rfl⟩))
  go_ret
  exact ⟨rfl, by (repeat' (first | exact Below.refl _ _ | assumption | refine below_alloc' ?_ _ | refine Below.drew ?_ | refine below_drewN ?_ _ | refine below_then ?_ ‹_›))⟩
end Go.Proofs.Ytlkaamednhpdcaa
