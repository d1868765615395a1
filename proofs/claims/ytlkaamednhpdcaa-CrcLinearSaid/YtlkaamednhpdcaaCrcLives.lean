/-
  What the statements of layer 2 ask first: answers that the document gives.
-/
import Derived.Test.YtlkaamednhpdcaaCrcWalk3
import Derived.Test.YtlkaamednhpdcaaCrcApart
namespace Go.Proofs.Ytlkaamednhpdcaa
open Go.RowKit
open Crc (un v32 Tn)
theorem crc_Sum1' (b off n m : Nat) (s : ByteArray) (W : World) (hn : n = 1) (h : W.cell? ⟨b, off, none⟩ = some (.string s)) (hs : s.size ≤ maxLen) :
    Calls Try.prog 10 #[.slice (some ⟨b, off, none⟩) n m] W fun e w' => e = .returned (.int .u32 (un (sumOf s))) ∧ W = w' := crc_Sum1 b off n m s W hn hs h
theorem crc_Sum0 (W : World) : Calls Try.prog 10 #[.slice none 0 0] W fun e w' => e = .returned (.int .u32 0) ∧ W = w' := crc_Sum none 0 0 [] W ⟨rfl, by decide, .inl rfl, by simp⟩
set_option maxHeartbeats 1000000 in
theorem crc_lives (w : World) :
    Calls Try.prog 9 #[] w fun e w' => e = .returned (.bool true) ∧ Below w.heap.size w w' := by
  have f1 : frameS ⟨#[97]⟩ = (⟨#[97, 67, 190, 183, 232]⟩, 0) := by decide +kernel
  have o1 : openS ⟨#[97, 67, 190, 183, 232]⟩ = (⟨#[97]⟩, 0) := by decide +kernel
  have o2 : openS ⟨#[97, 98, 99]⟩ = (⟨#[]⟩, 5) := by decide +kernel
  have o3 : openS ⟨#[97, 98, 99, 100, 101]⟩ = (⟨#[]⟩, 6) := by decide +kernel
  have a1 : Crc.nd [97, 98, 99] [97, 98, 100, 33] = 2 := by decide +kernel
  have a2 : Crc.fd [97, 98, 99] [97, 98, 100, 33] = 2 := by decide +kernel
  have s0 : un (Crc.sums (lists [])) = 0 := by decide +kernel
  have s1 : un (sumOf ⟨#[49, 50, 51, 52, 53, 54, 55, 56, 57]⟩) = 3421780262 := by decide +kernel
  have s2 : un (sumOf ⟨#[49, 50, 51, 52]⟩) = 2615402659 := by decide +kernel
  have s3 : un (Crc.more (v32 2615402659) [53, 54, 55, 56, 57]) = 3421780262 := by decide +kernel
  go_enter Try.func9, Try.ntmps9
  go_wp2_with (first | (go_at_call 14; (with_reducible refine (crc_Frame _ (by decide) _).mono ?_); rintro e w1 ⟨rfl, hb1⟩) | (go_at_call 16; (with_reducible refine (crc_Open _ (by decide) _).mono ?_); rintro e w1 ⟨rfl, hb1⟩) | (go_at_call 18; (with_reducible refine (crc_Apart _ _ (by decide) (by decide) _).mono ?_); rintro e w1 ⟨rfl, hb1⟩) | (go_at_call 10; (with_reducible refine (crc_Sum1' _ _ _ _ _ _ rfl (by simp [go_sem]; rfl) (by decide)).mono ?_); rintro e w' ⟨rfl, rfl⟩) | (go_at_call 10; (with_reducible refine (crc_Sum0 _).mono ?_); rintro e w' ⟨rfl, rfl⟩) | (go_at_call 12; (with_reducible refine (crc_More _ _ (by decide) (by omega) (by omega) _).mono ?_); rintro e w' ⟨rfl, rfl⟩))
  go_ret
  exact ⟨rfl, by (repeat' (first | exact Below.refl _ _ | assumption | refine below_alloc' ?_ _ | refine Below.drew ?_ | refine below_drewN ?_ _ | refine below_then ?_ ‹_›))⟩
end Go.Proofs.Ytlkaamednhpdcaa
