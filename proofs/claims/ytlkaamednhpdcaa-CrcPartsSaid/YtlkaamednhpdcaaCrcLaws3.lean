/-
  The laws of layer 2, walked, on: texts cut; four bytes turned.
-/
import Derived.Test.YtlkaamednhpdcaaCrcPlain
namespace Go.Proofs.Ytlkaamednhpdcaa
open Go.RowKit
open Crc (un v32 Tn)
set_option linter.unusedVariables false
set_option maxHeartbeats 1000000 in
theorem walk_CrcParts (s : ByteArray) (p : Int) (w : World) (h0 : s.size ≤ maxLen) (h1 : (Lit.int .i64 p).wf = true) :
    Calls Try.prog 5 #[.string s, .int .i64 p] w fun e w' => e = .returned (.bool true) ∧ Below w.heap.size w w' := by
  have h0' := h0
  unfold maxLen at h0'
  clear h1
  by_cases hp : p < 0 ∨ (s.size : Int) < p
  · rcases hp with hp | hp
    · go_enter Try.func5, Try.ntmps5
      go_wp2_with (go_at_call 9; (with_reducible refine (crc_lives _).mono ?_); rintro e w1 ⟨rfl, hb1⟩)
      go_ret
      exact ⟨rfl, by (repeat' (first | exact Below.refl _ _ | assumption | refine below_alloc' ?_ _ | refine Below.drew ?_ | refine below_drewN ?_ _ | refine below_then ?_ ‹_›))⟩
    · by_cases hn : p < 0
      · omega
      go_enter Try.func5, Try.ntmps5
      go_wp2_with (go_at_call 9; (with_reducible refine (crc_lives _).mono ?_); rintro e w1 ⟨rfl, hb1⟩)
      go_ret
      exact ⟨rfl, by (repeat' (first | exact Below.refl _ _ | assumption | refine below_alloc' ?_ _ | refine Below.drew ?_ | refine below_drewN ?_ _ | refine below_then ?_ ‹_›))⟩
  · obtain ⟨k, rfl⟩ : ∃ k : Nat, p = k := ⟨p.toNat, by omega⟩
    have hk : (k : Int) ≤ s.size := by omega
    have hk' : (0 : Int) ≤ k := by omega
    have e1 := Lib.hid (Crc.parts_more s k)
    have e2 := Lib.hid (Crc.parts_sum s k)
    have z1 : (s.extract 0 k).size ≤ maxLen := by rw [ByteArray.size_extract]; omega
    have z2 : (s.extract k s.size).size ≤ maxLen := by rw [ByteArray.size_extract]; omega
    clear hp
    go_enter Try.func5, Try.ntmps5
    go_wp2_with (go_at_call 9; (with_reducible refine (crc_lives _).mono ?_); rintro e w1 ⟨rfl, hb1⟩)
    have g1 := e1.out
    have g2 := e2.out
    go_region_held3 (fun _ => True) (trivial) (first | (go_at_call 10; (with_reducible refine (crc_Sum1 _ _ _ _ s _ rfl h0 ?_).mono ?_); (· (simp [go_sem]; done)); rintro e w' ⟨rfl, rfl⟩) | (go_at_call 10; (with_reducible refine (crc_Sum1 _ _ _ _ (s.extract 0 k) _ rfl z1 ?_).mono ?_); (· (simp [go_sem]; done)); rintro e w' ⟨rfl, rfl⟩) | (go_at_call 10; (with_reducible refine (crc_Sum _ _ _ [s.extract 0 k, s.extract k s.size] _ ?_).mono ?_); (· (exact isStrs_two _ _ _ _ _ z1 z2 (by simp [go_sem]) (by simp [go_sem]))); rintro e w' ⟨rfl, rfl⟩) | (go_at_call 12; (with_reducible refine (crc_MoreS _ _ z2 (Crc.un_nonneg _) (Crc.un_le _) _).mono ?_); rintro e w' ⟨rfl, rfl⟩))
    all_goals
      go_wp2_with fail
      go_ret
      exact ⟨rfl, by (repeat' (first | exact Below.refl _ _ | assumption | refine below_alloc' ?_ _ | refine Below.drew ?_ | refine below_drewN ?_ _ | refine below_then ?_ ‹_›))⟩
end Go.Proofs.Ytlkaamednhpdcaa
