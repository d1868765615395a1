/-
  The laws of layer 2, walked, on: four bytes turned.
-/
import Derived.Test.YtlkaamednhpdcaaCrcPlain
namespace Go.Proofs.Ytlkaamednhpdcaa
open Go.RowKit
open Crc (un v32 Tn)
set_option linter.unusedVariables false
set_option maxHeartbeats 1000000 in
theorem burst_walk (s : ByteArray) (p : Nat) (by_ : Int) (w : World) (h0 : s.size ≤ maxLen) (h2 : p + 4 ≤ s.size) (h3 : 0 ≤ by_) (h4 : by_ ≤ 4294967295) :
    Calls Try.prog 6 #[.string s, .int .i64 p, .int .u32 by_] w fun e w' => e = .returned (.bool true) ∧ Below w.heap.size w w' := by
  have kc := fun w s => Lib.run_convert_string_bytes (P := Try.prog) w 9 35 5 s Try.underlying9 Try.underlying35 Try.underlying5
  have kb := fun w b n cap l hn h => run_string_L8 (P := Try.prog) w 35 5 9 Try.underlying35 Try.underlying5 Try.underlying9 b n cap l hn h
  have hlaw := Lib.hid (Crc.burst_law s p by_ h2 h3 h4)
  obtain ⟨bv, rfl⟩ : ∃ bv, by_ = un bv := ⟨v32 by_, (Crc.un_v32 h3 h4).symm⟩
  have h0' := h0
  unfold maxLen at h0
  have q1 : (p : Int) + 4 ≤ s.size := by omega
  have q2 : (p : Int) ≤ s.size - 4 := by omega
  go_enter Try.func6, Try.ntmps6
  go_wp2_with (go_at_call 9; (with_reducible refine (crc_lives _).mono ?_); rintro e w1 ⟨rfl, hb1⟩)
  have hrow := conv_row w1 5 s
  have hbel : Below w.heap.size w (Lib.bytesWorld w1 5 s) := below_then hb1 (conv_below w1 5 s)
  have hle := hb1.size
  generalize hB : w1.heap.size = B at *
  clear hB kc
  generalize grownCap w1 s.size 0 5 = cap
  generalize Lib.bytesWorld w1 5 s = w2 at *
  go_loopw [8] (fun v8 wr => ∃ k : Nat, k ≤ 4 ∧ v8 = .int .i64 k ∧ Row wr B 0 s.size (L8 (Crc.burst s.data.toList p bv k)) ∧ Below w.heap.size w wr) (fun v8 _ => 4 - (intOf v8).toNat)
  case atStart => exact ⟨0, by omega, rfl, hrow, hbel⟩
  case round =>
    obtain ⟨k, hk, rfl, hr, hbelr⟩ := hrel
    obtain ⟨wo, rfl⟩ : ∃ wo : World, wo = wr := ⟨_, rfl⟩
    by_cases hlt : k < 4
    · have hc := hr.cell0 (j := p + k) (by omega)
      have hf := hr.free0 (j := p + k) (by omega)
      unfold L8 at hc
      have HR := Lib.hid hr
      clear hr hrow hbel kb
      go_wp2_with fail
      go_roundw
      case rel =>
        refine ⟨k + 1, by omega, by go_num, ?_, hbelr.setCell hle _⟩
        rw [Crc.nb_dby, nb_xor]
        exact HR.out.setL (by rw [Crc.burst_length, size_len]) (by omega) _
      case measure => first | (simp [intOf]; done) | (simp [intOf]; omega)
    · obtain rfl : k = 4 := by omega
      have z1 : (bs (Crc.burst s.data.toList p bv 4)).size ≤ maxLen := by rw [bs_size, Crc.burst_length, size_len]; exact h0'
      have kb' := kb wo B s.size cap _ (by rw [Crc.burst_length, size_len]) hr
      clear hr hrow hbel kb
      go_wp2_with (first | (go_at_call 10; (with_reducible refine (crc_Sum1 _ _ _ _ s _ rfl h0' ?_).mono ?_); (· (simp [go_sem]; done)); rintro e w' ⟨rfl, rfl⟩) | (go_at_call 10; (with_reducible refine (crc_Sum1 _ _ _ _ (bs (Crc.burst s.data.toList p bv 4)) _ rfl z1 ?_).mono ?_); (· (simp [go_sem]; done)); rintro e w' ⟨rfl, rfl⟩))
      have hlaw' := hlaw.out
      go_ret
      refine ⟨?_, by (repeat' (first | exact Below.refl _ _ | assumption | refine below_alloc' ?_ _ | refine Below.drew ?_ | refine below_drewN ?_ _ | refine below_then ?_ ‹_›))⟩
      rw [Crc.v32_un] at hlaw'
      simp only [Array.getD_eq_getD_getElem?, hlaw']
      simp
set_option maxHeartbeats 1000000 in
theorem walk_CrcBursts (s : ByteArray) (p by_ : Int) (w : World) (h0 : s.size ≤ maxLen) (h1 : (Lit.int .i64 p).wf = true) (h2 : (Lit.int .u32 by_).wf = true) :
    Calls Try.prog 6 #[.string s, .int .i64 p, .int .u32 by_] w fun e w' => e = .returned (.bool true) ∧ Below w.heap.size w w' := by
  have b := bounds_u32 h2
  by_cases hp : p < 0 ∨ (s.size : Int) - 4 < p
  · unfold maxLen at h0
    rcases hp with hp | hp
    · go_enter Try.func6, Try.ntmps6
      go_wp2_with (go_at_call 9; (with_reducible refine (crc_lives _).mono ?_); rintro e w1 ⟨rfl, hb1⟩)
      go_ret
      exact ⟨rfl, by (repeat' (first | exact Below.refl _ _ | assumption | refine below_alloc' ?_ _ | refine Below.drew ?_ | refine below_drewN ?_ _ | refine below_then ?_ ‹_›))⟩
    · by_cases hn : p < 0
      all_goals
        go_enter Try.func6, Try.ntmps6
        go_wp2_with (go_at_call 9; (with_reducible refine (crc_lives _).mono ?_); rintro e w1 ⟨rfl, hb1⟩)
        go_ret
        exact ⟨rfl, by (repeat' (first | exact Below.refl _ _ | assumption | refine below_alloc' ?_ _ | refine Below.drew ?_ | refine below_drewN ?_ _ | refine below_then ?_ ‹_›))⟩
  · obtain ⟨k, rfl⟩ : ∃ k : Nat, p = k := ⟨p.toNat, by omega⟩
    exact burst_walk s k by_ w h0 (by omega) b.1 b.2
end Go.Proofs.Ytlkaamednhpdcaa
