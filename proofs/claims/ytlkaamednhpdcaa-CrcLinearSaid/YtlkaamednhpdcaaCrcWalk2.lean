/-
  The walks of the check sum's functions on: sums of many texts, a sum's bytes, frames.
-/
import Derived.Test.YtlkaamednhpdcaaCrcWalk
namespace Go.Proofs.Ytlkaamednhpdcaa
open Go.RowKit
open Crc (un v32 Tn)
set_option linter.unusedVariables false

/-! ### Texts in a row -/
def lists (ss : List ByteArray) : List (List UInt8) := ss.map fun s => s.data.toList
theorem lists_snoc (ss : List ByteArray) (j : Nat) (h : j < ss.length) : lists (ss.take (j + 1)) = lists (ss.take j) ++ [(strAt ss j).data.toList] := by
  unfold lists
  rw [List.take_succ_eq_append_getElem h, List.map_append]
  simp [strAt, List.getD, List.getElem?_eq_getElem h]
set_option maxHeartbeats 400000 in
theorem crc_Sum (a : Option Addr) (n m : Nat) (ss : List ByteArray) (w : World) (h : IsStrs w a n ss) :
    Calls Try.prog 10 #[.slice a n m] w fun e w' => e = .returned (.int .u32 (un (Crc.sums (lists ss)))) ∧ w = w' := by
  obtain ⟨hl, hm, hc, hs⟩ := h
  unfold maxLen at hm
  go_enter Try.func10, Try.ntmps10
  go_wp2
  go_loop [3, 8] (fun v3 v8 => ∃ (k : Int) (j : Nat), 0 ≤ k ∧ k ≤ 4294967295 ∧ j ≤ n ∧ v3 = .int .u32 k ∧ v8 = .int .i64 j ∧ Hid (k = un (Crc.sums (lists (ss.take j))))) (fun _ v8 => n - (intOf v8).toNat)
  case atStart => exact ⟨0, 0, by omega, by omega, by omega, rfl, rfl, Lib.hid rfl⟩
  case round =>
    obtain ⟨k, j, hk0, hk1, hj, rfl, rfl, hk⟩ := hrel
    by_cases hlt : j < n
    · rcases hc with hc | ⟨b, off, rfl, hc⟩
      · omega
      have hcell := hc j hlt
      have hsz := strAt_size ss j (by omega) hs
      have HL := Lib.hid hl
      clear hl hc
      go_wp2_with (go_at_call 12; refine (crc_More _ _ hsz hk0 hk1 _).mono ?_; rintro e w' ⟨rfl, rfl⟩)
      go_round
      case rel =>
        have hk' := hk.out
        refine ⟨_, j + 1, Crc.un_nonneg _, Crc.un_le _, by omega, rfl, by go_num, Lib.hid ?_⟩
        rw [lists_snoc ss j (by rw [HL.out]; exact hlt), Crc.sums_snoc, hk', Crc.v32_un]
      case measure => simp [intOf]; omega
    · have HL := Lib.hid hl
      clear hl hc
      go_wp2
      go_ret
      have e : j = n := by omega
      subst e
      refine ⟨ret_int ?_, rfl⟩
      rw [hk.out, List.take_of_length_le (by rw [HL.out]; exact Nat.le_refl _)]

set_option maxHeartbeats 400000 in
theorem ref_Sum (a : Option Addr) (n m : Nat) (ss : List ByteArray) (w : World) (h : IsStrs w a n ss) :
    Calls Try.prog 11 #[.slice a n m] w fun e w' => e = .returned (.int .u32 (un (Crc.sums (lists ss)))) ∧ w = w' := by
  obtain ⟨hl, hm, hc, hs⟩ := h
  unfold maxLen at hm
  go_enter Try.func11, Try.ntmps11
  go_wp2
  go_loop [3, 8] (fun v3 v8 => ∃ (k : Int) (j : Nat), 0 ≤ k ∧ k ≤ 4294967295 ∧ j ≤ n ∧ v3 = .int .u32 k ∧ v8 = .int .i64 j ∧ Hid (k = un (Crc.sums (lists (ss.take j))))) (fun _ v8 => n - (intOf v8).toNat)
  case atStart => exact ⟨0, 0, by omega, by omega, by omega, rfl, rfl, Lib.hid rfl⟩
  case round =>
    obtain ⟨k, j, hk0, hk1, hj, rfl, rfl, hk⟩ := hrel
    by_cases hlt : j < n
    · rcases hc with hc | ⟨b, off, rfl, hc⟩
      · omega
      have hcell := hc j hlt
      have hsz := strAt_size ss j (by omega) hs
      have HL := Lib.hid hl
      clear hl hc
      go_wp2_with (go_at_call 13; refine (ref_More _ _ hsz hk0 hk1 _).mono ?_; rintro e w' ⟨rfl, rfl⟩)
      go_round
      case rel =>
        have hk' := hk.out
        refine ⟨_, j + 1, Crc.un_nonneg _, Crc.un_le _, by omega, rfl, by go_num, Lib.hid ?_⟩
        rw [lists_snoc ss j (by rw [HL.out]; exact hlt), Crc.sums_snoc, hk', Crc.v32_un]
      case measure => simp [intOf]; omega
    · have HL := Lib.hid hl
      clear hl hc
      go_wp2
      go_ret
      have e : j = n := by omega
      subst e
      refine ⟨ret_int ?_, rfl⟩
      rw [hk.out, List.take_of_length_le (by rw [HL.out]; exact Nat.le_refl _)]


/-! ### A sum's bytes -/
theorem bits_Rev (r : Int) (h0 : 0 ≤ r) (h1 : r ≤ 4294967295) (w : World) :
    Calls Try.prog 23 #[.int .u32 r] w fun e w' => e = .returned (.int .u32 (un (Crc.rev (v32 r)))) ∧ w = w' := by
  go_enter Try.func23, Try.ntmps23
  go_wp2_with fail
  go_ret
  refine ⟨ret_int ?_, rfl⟩
  obtain ⟨b, rfl⟩ : ∃ b, r = un b := ⟨v32 r, (Crc.un_v32 h0 h1).symm⟩
  have e1 := fun b => Crc.un_shl b 8
  have e2 := fun b => Crc.un_shl b 16
  have e3 := fun b => Crc.un_shr b 16
  simp only [Int.reducePow] at e1 e2 e3
  simp only [Crc.un_256, Crc.bits_and, e1, e2, e3, Crc.bits_or, Crc.v32_un]
  rfl


theorem conv4 (w : World) (x0 x1 x2 x3 : Int) :
    (convert 35 9 (.slice (some ⟨w.heap.size, 0, none⟩) 4 4)).run Try.prog (w.alloc (.cells #[.int .u8 x0, .int .u8 x1, .int .u8 x2, .int .u8 x3] 5)) =
      .ok (.string (strOfNums [x0, x1, x2, x3])) (w.alloc (.cells #[.int .u8 x0, .int .u8 x1, .int .u8 x2, .int .u8 x3] 5)) := by
  refine run_convert_bytes_arg _ 35 5 Try.underlying35 Try.underlying5 w.heap.size 0 4 4 [x0, x1, x2, x3] rfl (fun i hi => ?_) 9 Try.underlying9
  match i, hi with
  | 0, _ | 1, _ | 2, _ | 3, _ => simp [go_sem]
set_option maxHeartbeats 400000 in
theorem ref_tail (r : Int) (h0 : 0 ≤ r) (h1 : r ≤ 4294967295) (w : World) :
    Calls Try.prog 22 #[.int .u32 r] w fun e w' => e = .returned (.string (Crc.tailS (v32 r))) ∧ Below w.heap.size w w' := by
  have kc := fun w x0 x1 x2 x3 => conv4 w x0 x1 x2 x3
  go_enter Try.func22, Try.ntmps22
  go_wp2_with fail
  go_ret
  exact ⟨by rw [← Crc.un_v32 h0 h1]; simp only [Crc.v32_un]; rfl, (Below.refl _ _).alloc (Nat.le_refl _) _⟩
set_option maxHeartbeats 400000 in
theorem crc_Tail (r : Int) (h0 : 0 ≤ r) (h1 : r ≤ 4294967295) (w : World) :
    Calls Try.prog 21 #[.int .u32 r] w fun e w' => e = .returned (.string (Crc.tailS (v32 r))) ∧ Below w.heap.size w w' := by
  have kc := fun w x0 x1 x2 x3 => conv4 w x0 x1 x2 x3
  go_enter Try.func21, Try.ntmps21
  have b0 := Crc.un_nonneg (Crc.rev (v32 r))
  have b1 := Crc.un_le (Crc.rev (v32 r))
  go_wp2_with (go_at_call 23; refine (bits_Rev r h0 h1 _).mono ?_; rintro e w' ⟨rfl, rfl⟩)
  go_ret
  exact ⟨by rw [← Crc.tailS_rev]; rfl, (Below.refl _ _).alloc (Nat.le_refl _) _⟩

theorem ref_tail' (b : BitVec 32) (w : World) : Calls Try.prog 22 #[.int .u32 (un b)] w fun e w' => e = .returned (.string (Crc.tailS b)) ∧ Below w.heap.size w w' := by
  have h := ref_tail (un b) (Crc.un_nonneg _) (Crc.un_le _) w
  rwa [Crc.v32_un] at h
theorem crc_Tail' (b : BitVec 32) (w : World) : Calls Try.prog 21 #[.int .u32 (un b)] w fun e w' => e = .returned (.string (Crc.tailS b)) ∧ Below w.heap.size w w' := by
  have h := crc_Tail (un b) (Crc.un_nonneg _) (Crc.un_le _) w
  rwa [Crc.v32_un] at h
/-- A text's sum. -/
def sumOf (s : ByteArray) : BitVec 32 := Crc.more 0#32 s.data.toList
theorem sums_one (s : ByteArray) : Crc.sums (lists [s]) = sumOf s := rfl
theorem crc_Sum1 (b off n m : Nat) (s : ByteArray) (W : World) (hn : n = 1) (hs : s.size ≤ maxLen) (h : W.cell? ⟨b, off, none⟩ = some (.string s)) :
    Calls Try.prog 10 #[.slice (some ⟨b, off, none⟩) n m] W fun e w' => e = .returned (.int .u32 (un (sumOf s))) ∧ W = w' := by
  subst hn; exact crc_Sum _ _ _ [s] _ (isStrs_one _ _ _ _ hs h)
theorem ref_Sum1 (b off n m : Nat) (s : ByteArray) (W : World) (hn : n = 1) (hs : s.size ≤ maxLen) (h : W.cell? ⟨b, off, none⟩ = some (.string s)) :
    Calls Try.prog 11 #[.slice (some ⟨b, off, none⟩) n m] W fun e w' => e = .returned (.int .u32 (un (sumOf s))) ∧ W = w' := by
  subst hn; exact ref_Sum _ _ _ [s] _ (isStrs_one _ _ _ _ hs h)
/-- A frame, and its opening. -/
def frameS (s : ByteArray) : ByteArray × Int := if 65536 < s.size then (ByteArray.empty, 1) else (s ++ Crc.tailS (sumOf s), 0)
def body (f : ByteArray) : ByteArray := f.extract 0 (f.size - 4)
def tailOf (f : ByteArray) : ByteArray := f.extract (f.size - 4) f.size
def fits (f : ByteArray) : Bool := (Crc.tailS (sumOf (body f))).toList == (tailOf f).toList
def openS (f : ByteArray) : ByteArray × Int :=
  if f.size < 4 then (ByteArray.empty, 5) else if 65540 < f.size then (ByteArray.empty, 1) else if fits f then (body f, 0) else (ByteArray.empty, 6)

set_option maxHeartbeats 400000 in
theorem crc_Frame (s : ByteArray) (hs : s.size ≤ maxLen) (w : World) :
    Calls Try.prog 14 #[.string s] w fun e w' => e = .returned (.tuple #[.string (frameS s).1, .int .i64 (frameS s).2]) ∧ Below w.heap.size w w' := by
  have hs' := hs
  unfold maxLen at hs'
  by_cases hk : 65536 < s.size
  · go_enter Try.func14, Try.ntmps14
    go_wp2_with fail
    go_ret2
    exact ⟨by simp only [frameS, if_pos hk]; rfl, Below.refl _ _⟩
  · have q := Nat.le_of_eq (Crc.tailS_size (sumOf s))
    go_enter Try.func14, Try.ntmps14
    go_wp2_with (first | (go_at_call 10; refine (crc_Sum1 _ _ _ _ _ _ rfl hs (by simp [go_sem])).mono ?_; rintro e w' ⟨rfl, rfl⟩) | (go_at_call 21; refine (crc_Tail' _ _).mono ?_; rintro e w' ⟨rfl, hb⟩))
    go_ret2
    exact ⟨by simp only [frameS, if_neg hk]; rfl, below_call ((Below.refl _ _).alloc (Nat.le_refl _) _) hb (by simp)⟩

set_option maxHeartbeats 400000 in
theorem ref_Frame (s : ByteArray) (hs : s.size ≤ maxLen) (w : World) :
    Calls Try.prog 15 #[.string s] w fun e w' => e = .returned (.tuple #[.string (frameS s).1, .int .i64 (frameS s).2]) ∧ Below w.heap.size w w' := by
  have hs' := hs
  unfold maxLen at hs'
  by_cases hk : 65536 < s.size
  · go_enter Try.func15, Try.ntmps15
    go_wp2_with fail
    go_ret2
    exact ⟨by simp only [frameS, if_pos hk]; rfl, Below.refl _ _⟩
  · have q := Nat.le_of_eq (Crc.tailS_size (sumOf s))
    go_enter Try.func15, Try.ntmps15
    go_wp2_with (first | (go_at_call 11; refine (ref_Sum1 _ _ _ _ _ _ rfl hs (by simp [go_sem])).mono ?_; rintro e w' ⟨rfl, rfl⟩) | (go_at_call 22; refine (ref_tail' _ _).mono ?_; rintro e w' ⟨rfl, hb⟩))
    go_ret2
    exact ⟨by simp only [frameS, if_neg hk]; rfl, below_call ((Below.refl _ _).alloc (Nat.le_refl _) _) hb (by simp)⟩

end Go.Proofs.Ytlkaamednhpdcaa
