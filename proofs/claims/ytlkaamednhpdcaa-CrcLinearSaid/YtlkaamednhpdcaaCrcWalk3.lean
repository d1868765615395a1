/-
  The walks of the check sum's functions, the last: opening, and how far two texts are apart.
-/
import Derived.Test.YtlkaamednhpdcaaCrcWalk2
namespace Go.Proofs.Ytlkaamednhpdcaa
open Go.RowKit
open Crc (un v32 Tn)
set_option linter.unusedVariables false

set_option maxHeartbeats 1000000 in
theorem crc_Open (s : ByteArray) (hs : s.size ≤ maxLen) (w : World) :
    Calls Try.prog 16 #[.string s] w fun e w' => e = .returned (.tuple #[.string (openS s).1, .int .i64 (openS s).2]) ∧ Below w.heap.size w w' := by
  have hs' := hs
  unfold maxLen at hs'
  by_cases hk : s.size < 4
  · go_enter Try.func16, Try.ntmps16
    go_wp2_with fail
    go_ret2
    exact ⟨by simp only [openS, if_pos hk]; rfl, Below.refl _ _⟩
  by_cases hk2 : 65540 < s.size
  · go_enter Try.func16, Try.ntmps16
    go_wp2_with fail
    go_ret2
    exact ⟨by simp only [openS, if_neg hk, if_pos hk2]; rfl, Below.refl _ _⟩
  have q1 : (0 : Int) ≤ (s.size : Int) - 4 := by omega
  have q2 : (s.size : Int) - 4 ≤ (s.size : Int) := by omega
  have q3 : ((s.size : Int) - 4).toNat = s.size - 4 := by omega
  have q4 : (4 : Int) ≤ (s.size : Int) := by omega
  have q5 : (s.extract 0 (s.size - 4)).size ≤ maxLen := by rw [ByteArray.size_extract]; unfold maxLen; omega
  have q6 : IntKind.i64.wrap ((s.size : Int) - 4) = (s.size : Int) - 4 := IntWalk.i64_in _ (by omega)
  by_cases hf : fits s = true
  all_goals
    have hf' := hf
    simp only [fits, body, tailOf, Bool.not_eq_true] at hf'
    go_enter Try.func16, Try.ntmps16
    go_wp2_with fail
    go_region_held3 (fun _ => True) (trivial) (first | (go_at_call 10; go_must (refine (crc_Sum1 _ _ _ _ _ _ rfl q5 (by simp [go_sem])).mono ?_); rintro e w' ⟨rfl, rfl⟩) | (go_at_call 21; refine (crc_Tail' _ _).mono ?_; rintro e w' ⟨rfl, hb⟩))
    go_wp2_with fail
    go_ret2
    exact ⟨by simp only [openS, if_neg hk, if_neg hk2, hf]; rfl, below_call (((Below.refl _ _).alloc (Nat.le_refl _) _).drew) hb (by simp)⟩

set_option maxHeartbeats 1000000 in
theorem ref_Open (s : ByteArray) (hs : s.size ≤ maxLen) (w : World) :
    Calls Try.prog 17 #[.string s] w fun e w' => e = .returned (.tuple #[.string (openS s).1, .int .i64 (openS s).2]) ∧ Below w.heap.size w w' := by
  have hs' := hs
  unfold maxLen at hs'
  by_cases hk : s.size < 4
  · go_enter Try.func17, Try.ntmps17
    go_wp2_with fail
    go_ret2
    exact ⟨by simp only [openS, if_pos hk]; rfl, Below.refl _ _⟩
  by_cases hk2 : 65540 < s.size
  · go_enter Try.func17, Try.ntmps17
    go_wp2_with fail
    go_ret2
    exact ⟨by simp only [openS, if_neg hk, if_pos hk2]; rfl, Below.refl _ _⟩
  have q1 : (0 : Int) ≤ (s.size : Int) - 4 := by omega
  have q2 : (s.size : Int) - 4 ≤ (s.size : Int) := by omega
  have q3 : ((s.size : Int) - 4).toNat = s.size - 4 := by omega
  have q4 : (4 : Int) ≤ (s.size : Int) := by omega
  have q5 : (s.extract 0 (s.size - 4)).size ≤ maxLen := by rw [ByteArray.size_extract]; unfold maxLen; omega
  have q6 : IntKind.i64.wrap ((s.size : Int) - 4) = (s.size : Int) - 4 := IntWalk.i64_in _ (by omega)
  by_cases hf : fits s = true
  all_goals
    have hf' := hf
    simp only [fits, body, tailOf, Bool.not_eq_true] at hf'
    go_enter Try.func17, Try.ntmps17
    go_wp2_with fail
    go_region_held3 (fun _ => True) (trivial) (first | (go_at_call 11; go_must (refine (ref_Sum1 _ _ _ _ _ _ rfl q5 (by simp [go_sem])).mono ?_); rintro e w' ⟨rfl, rfl⟩) | (go_at_call 22; refine (ref_tail' _ _).mono ?_; rintro e w' ⟨rfl, hb⟩))
    go_wp2_with fail
    go_ret2
    exact ⟨by simp only [openS, if_neg hk, if_neg hk2, hf]; rfl, below_call (((Below.refl _ _).alloc (Nat.le_refl _) _).drew) hb (by simp)⟩

end Go.Proofs.Ytlkaamednhpdcaa
