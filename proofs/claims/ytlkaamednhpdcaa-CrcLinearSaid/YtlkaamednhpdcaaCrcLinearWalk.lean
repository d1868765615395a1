/-
  The laws of layer 2, walked, on: three texts together.
-/
import Derived.Test.YtlkaamednhpdcaaCrcPlain
namespace Go.Proofs.Ytlkaamednhpdcaa
open Go.RowKit
open Crc (un v32 Tn)
set_option linter.unusedVariables false
set_option maxHeartbeats 20000000 in
theorem linear_walk (a b c : ByteArray) (w : World) (h0 : a.size ≤ maxLen) (h1 : b.size = a.size) (h2 : c.size = a.size) :
    Calls Try.prog 8 #[.string a, .string b, .string c] w fun e w' => e = .returned (.bool true) ∧ Below w.heap.size w w' := by
  have kc := fun w s => Lib.run_convert_string_bytes (P := Try.prog) w 9 35 5 s Try.underlying9 Try.underlying35 Try.underlying5
  have kb := fun w b n cap l hn h => run_string_L8 (P := Try.prog) w 35 5 9 Try.underlying35 Try.underlying5 Try.underlying9 b n cap l hn h
  have hlaw := Lib.hid (Crc.linear_law a b c h1 h2)
  have h0' := h0
  unfold maxLen at h0
  have e1 : ((a.size : Int) != b.size) = false := by simp [h1]
  have e2 : ((b.size : Int) != c.size) = false := by simp [h1, h2]
  have H1 := Lib.hid h1
  have H2 := Lib.hid h2
  clear h1 h2
  have e1' : (a.size != b.size) = false := by simp [H1.out]
  have e2' : (b.size != c.size) = false := by simp [H1.out, H2.out]
  go_enter Try.func8, Try.ntmps8
  go_wp2_with (go_at_call 9; (with_reducible refine (crc_lives _).mono ?_); rintro e w1 ⟨rfl, hb1⟩)
  have hrow := conv_row w1 5 a
  have hbel : Below w.heap.size w (Lib.bytesWorld w1 5 a) := below_then hb1 (conv_below w1 5 a)
  have hle := hb1.size
  generalize hB : w1.heap.size = B at *
  clear hB kc
  generalize grownCap w1 a.size 0 5 = cap
  generalize Lib.bytesWorld w1 5 a = w2 at *
  go_loopw [27] (fun v8 wr => ∃ k : Nat, k ≤ a.size ∧ v8 = .int .i64 k ∧ Row wr B 0 a.size (L8 (Crc.join3 a.data.toList b.data.toList c.data.toList k)) ∧ Below w.heap.size w wr) (fun v8 _ => a.size - (intOf v8).toNat)
  case atStart => exact ⟨0, by omega, rfl, hrow, hbel⟩
  case round =>
    obtain ⟨k, hk, rfl, hr, hbelr⟩ := hrel
    obtain ⟨wo, rfl⟩ : ∃ wo : World, wo = wr := ⟨_, rfl⟩
    by_cases hlt : k < a.size
    · have hc := hr.cell0 (j := k) (by omega)
      have hf := hr.free0 (j := k) (by omega)
      have hkb : k < b.size := by rw [H1.out]; exact hlt
      have hkc : k < c.size := by rw [H2.out]; exact hlt
      have i0 : (0 : Int) ≤ k := by omega
      have i1 : (k : Int) < a.size := by omega
      have i2 : (k : Int) < b.size := by omega
      have i3 : (k : Int) < c.size := by omega
      have gb := at8_str b k hkb
      have gc := at8_str c k hkc
      unfold L8 at hc
      have HR := Lib.hid hr
      clear hr hrow hbel kb
      go_wp2_with fail
      go_region
      all_goals
        clear gb gc
        go_wp2_with fail
        go_roundw
        case rel =>
          refine ⟨k + 1, by omega, by go_num, ?_, (hbelr.setCell hle _).drew⟩
          rw [nb_xor, nb_xor]
          exact (HR.out.setL (by rw [Crc.join3_length, size_len]) (by omega) _).drew
        case measure => first | (simp [intOf]; done) | (simp [intOf]; omega)
    · obtain rfl : k = a.size := by omega
      have z0 : b.size ≤ maxLen := by rw [H1.out]; exact h0'
      have z1 : c.size ≤ maxLen := by rw [H2.out]; exact h0'
      have z2 : (bs (Crc.join3 a.data.toList b.data.toList c.data.toList a.size)).size ≤ maxLen := by rw [bs_size, Crc.join3_length, size_len]; exact h0'
      have kb' := fun W hr => kb W B a.size cap (Crc.join3 a.data.toList b.data.toList c.data.toList a.size) (by rw [Crc.join3_length, size_len]) hr
      have HR := hr
      have hl2 := hlaw.out
      clear hr hrow hbel kb
      go_wp2_with fail
      go_region_held3 (fun W => Row W B 0 a.size (L8 (Crc.join3 a.data.toList b.data.toList c.data.toList a.size))) (((repeat' (first | assumption | refine Row.alloc ?_ _ | refine Row.drew ?_ | refine Row.drewN ?_ _)); done)) (first | (go_at_call 10; (with_reducible refine (crc_Sum1 _ _ _ _ a _ rfl h0' ?_).mono ?_); (· (simp [go_sem]; done)); rintro e w' ⟨rfl, rfl⟩) | (go_at_call 10; (with_reducible refine (crc_Sum1 _ _ _ _ b _ rfl z0 ?_).mono ?_); (· (simp [go_sem]; done)); rintro e w' ⟨rfl, rfl⟩) | (go_at_call 10; (with_reducible refine (crc_Sum1 _ _ _ _ c _ rfl z1 ?_).mono ?_); (· (simp [go_sem]; done)); rintro e w' ⟨rfl, rfl⟩) | (go_at_call 10; (with_reducible refine (crc_Sum1 _ _ _ _ (bs (Crc.join3 a.data.toList b.data.toList c.data.toList a.size)) _ rfl z2 ?_).mono ?_); (· (simp [go_sem]; done)); rintro e w' ⟨rfl, rfl⟩))
      all_goals
        go_wp2_with fail
        go_ret
        exact ⟨rfl, by (repeat' (first | exact Below.refl _ _ | assumption | refine below_alloc' ?_ _ | refine Below.drew ?_ | refine below_drewN ?_ _ | refine below_then ?_ ‹_›))⟩
end Go.Proofs.Ytlkaamednhpdcaa
