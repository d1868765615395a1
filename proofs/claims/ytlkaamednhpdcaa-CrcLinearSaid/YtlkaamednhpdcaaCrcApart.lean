/-
  How far two texts are apart: plain mathematics, then the walks of the program's and the reference's function.
-/
import Derived.Test.YtlkaamednhpdcaaCrcWalk2
namespace Go.Proofs.Ytlkaamednhpdcaa
open Go.RowKit
set_option linter.unusedVariables false
namespace Crc
/-- At how many places two lists are apart; where first. -/
def nd : List UInt8 → List UInt8 → Nat
  | [], b => b.length
  | x :: a, [] => (x :: a).length
  | x :: a, y :: b => (if x = y then 0 else 1) + nd a b
def fd : List UInt8 → List UInt8 → Nat
  | x :: a, y :: b => if x = y then 1 + fd a b else 0
  | _, _ => 0
theorem nd_nil (b : List UInt8) : nd b [] = b.length := by cases b <;> rfl
theorem nd_comm (a b : List UInt8) : nd a b = nd b a := by
  induction a generalizing b with
  | nil => rw [nd_nil]; rfl
  | cons x a ih =>
    cases b with
    | nil => rfl
    | cons y b => simp only [nd, ih b, eq_comm]
theorem fd_nil (b : List UInt8) : fd b [] = 0 := by cases b <;> rfl
theorem fd_comm (a b : List UInt8) : fd a b = fd b a := by
  induction a generalizing b with
  | nil => rw [fd_nil]; rfl
  | cons x a ih =>
    cases b with
    | nil => rfl
    | cons y b => simp only [fd, ih b, eq_comm]
def byteAt (s : ByteArray) (k : Nat) : Int := if h : k < s.size then ((s[k]'h).toNat : Int) else 0
theorem byteAt_nonneg (s : ByteArray) (k : Nat) : 0 ≤ byteAt s k := by unfold byteAt; split <;> omega
theorem byteAt_le (s : ByteArray) (k : Nat) : byteAt s k ≤ 255 := by
  unfold byteAt; split
  · have := (s[k]).toNat_lt; omega
  · omega
theorem byteAt_eq (s : ByteArray) (k : Nat) (h : k < s.size) : ((s[k]'h).toNat : Int) = byteAt s k := by unfold byteAt; rw [dif_pos h]
def dropS (s : ByteArray) (k : Nat) : List UInt8 := s.data.toList.drop k
theorem dropS_cons (s : ByteArray) (k : Nat) (h : k < s.size) : dropS s k = s[k] :: dropS s (k + 1) := List.drop_eq_getElem_cons (by simpa using h)
theorem dropS_end (s : ByteArray) (k : Nat) (h : s.size ≤ k) : dropS s k = [] := List.drop_eq_nil_of_le (by simpa using h)
theorem dropS_zero (s : ByteArray) : dropS s 0 = s.data.toList := rfl
theorem dropS_length (s : ByteArray) (k : Nat) : (dropS s k).length = s.size - k := by simp [dropS]
theorem nd_step (a b : ByteArray) (k : Nat) (ha : k < a.size) (hb : k < b.size) : (nd (dropS a k) (dropS b k) : Int) = (if byteAt a k = byteAt b k then 0 else 1) + nd (dropS a (k + 1)) (dropS b (k + 1)) := by
  rw [dropS_cons a k ha, dropS_cons b k hb, nd, ← byteAt_eq a k ha, ← byteAt_eq b k hb]
  by_cases h : a[k] = b[k]
  · rw [h]; simp
  · rw [if_neg h, if_neg (fun e => h (UInt8.toNat_inj.1 (by omega)))]; omega
theorem fd_step (a b : ByteArray) (k : Nat) (ha : k < a.size) (hb : k < b.size) : (fd (dropS a k) (dropS b k) : Int) = if byteAt a k = byteAt b k then 1 + (fd (dropS a (k + 1)) (dropS b (k + 1)) : Int) else 0 := by
  rw [dropS_cons a k ha, dropS_cons b k hb, fd, ← byteAt_eq a k ha, ← byteAt_eq b k hb]
  by_cases h : a[k] = b[k]
  · rw [h]; simp
  · rw [if_neg h, if_neg (fun e => h (UInt8.toNat_inj.1 (by omega)))]; rfl
theorem nd_short (a b : ByteArray) (k : Nat) (ha : a.size ≤ k) : nd (dropS a k) (dropS b k) = b.size - k := by
  rw [dropS_end a k ha, nd, dropS_length]
theorem fd_short (a b : ByteArray) (k : Nat) (ha : a.size ≤ k) : fd (dropS a k) (dropS b k) = 0 := by rw [dropS_end a k ha, fd]; simp
theorem nd_le (a b : List UInt8) : nd a b ≤ max a.length b.length := by
  induction a generalizing b with
  | nil => simp [nd]
  | cons x a ih =>
    cases b with
    | nil => simp [nd]
    | cons y b => simp only [nd, List.length_cons]; have := ih b; split <;> omega
end Crc

set_option maxHeartbeats 1000000 in
theorem crc_Apart_le (a b : ByteArray) (ha : a.size ≤ maxLen) (hb : b.size ≤ maxLen) (h : a.size ≤ b.size) (w : World) :
    Calls Try.prog 18 #[.string a, .string b] w fun e w' => e = .returned (.tuple #[.int .i64 (Crc.nd a.data.toList b.data.toList), .int .i64 (Crc.fd a.data.toList b.data.toList)]) ∧ Below w.heap.size w w' := by
  unfold maxLen at ha hb
  have hab : (a.size : Int) ≤ b.size := by omega
  have hd9 : decide (b.size < a.size) = false := by simp; omega
  go_enter Try.func18, Try.ntmps18
  go_wp2_with fail
  go_loopw [6, 7, 8] (fun v6 v7 v8 wr => ∃ (n f : Int) (k : Nat), k ≤ a.size ∧ 0 ≤ n ∧ n ≤ (b.size : Int) - k ∧ v6 = .int .i64 n ∧ v7 = .int .i64 f ∧ v8 = .int .i64 ((k : Int) - 1) ∧ Hid (n = Crc.nd (Crc.dropS a k) (Crc.dropS b k)) ∧ Hid (f = k + Crc.fd (Crc.dropS a k) (Crc.dropS b k)) ∧ Below w.heap.size w wr) (fun _ _ v8 _ => (intOf v8 + 1).toNat)
  case atStart =>
    refine ⟨_, _, a.size, by omega, ?_, ?_, rfl, rfl, rfl, Lib.hid ?_, Lib.hid ?_, Below.refl _ _⟩
    · omega
    · omega
    · rw [Crc.nd_short a b _ (Nat.le_refl _)]; omega
    · rw [Crc.fd_short a b _ (Nat.le_refl _)]; simp
  case round =>
    obtain ⟨n, f, k, hk, hn0, hn1, rfl, rfl, rfl, Hn, Hf, hbel⟩ := hrel
    obtain ⟨wo, rfl⟩ : ∃ wo : World, wo = wr := ⟨_, rfl⟩
    cases k with
    | zero =>
      rw [show ((0 : Nat) : Int) - 1 = -1 from rfl]
      go_wp2_with fail
      go_ret2
      exact ⟨by rw [Hn.out, Hf.out]; simp [Crc.dropS_zero], hbel⟩
    | succ j =>
      rw [show ((j + 1 : Nat) : Int) - 1 = (j : Int) from by omega]
      have hj0 : (0 : Int) ≤ (j : Int) := by omega
      have hj1 : (j : Int) < (a.size : Int) := by omega
      have hj2 : (j : Int) < (b.size : Int) := by omega
      have hj3 : j < a.size := by omega
      have hj4 : j < b.size := by omega
      have ga := Crc.byteAt_eq a j hj3
      have gb := Crc.byteAt_eq b j hj4
      by_cases hd : Crc.byteAt a j = Crc.byteAt b j
      · have hd1 : (Crc.byteAt a j != Crc.byteAt b j) = false := by simp [hd]
        have HD := Lib.hid hd
        clear hd
        go_wp2_with fail
        go_quiet (fail)
        clear ga gb
        go_wp2_with fail
        go_roundw
        case rel =>
          refine ⟨n, f, j, by omega, hn0, by omega, rfl, rfl, rfl, Lib.hid ?_, Lib.hid ?_, below_drewN hbel _⟩
          · rw [Crc.nd_step a b j hj3 hj4, if_pos HD.out, Hn.out]; omega
          · rw [Crc.fd_step a b j hj3 hj4, if_pos HD.out, Hf.out]; omega
        case measure => first | (simp [intOf]; done) | (simp [intOf]; omega)
      · have hd1 : (Crc.byteAt a j != Crc.byteAt b j) = true := by simp [hd]
        have HD := Lib.hid hd
        clear hd
        go_wp2_with fail
        go_quiet (fail)
        clear ga gb
        go_wp2_with fail
        go_roundw
        case rel =>
          refine ⟨n + 1, j, j, by omega, by omega, by omega, rfl, rfl, rfl, Lib.hid ?_, Lib.hid ?_, below_drewN hbel _⟩
          · rw [Crc.nd_step a b j hj3 hj4, if_neg HD.out, Hn.out]; omega
          · rw [Crc.fd_step a b j hj3 hj4, if_neg HD.out]; omega
        case measure => first | (simp [intOf]; done) | (simp [intOf]; omega)

set_option maxHeartbeats 1000000 in
theorem crc_Apart_gt (a b : ByteArray) (ha : a.size ≤ maxLen) (hb : b.size ≤ maxLen) (h : a.size < b.size) (w : World) :
    Calls Try.prog 18 #[.string b, .string a] w fun e w' => e = .returned (.tuple #[.int .i64 (Crc.nd a.data.toList b.data.toList), .int .i64 (Crc.fd a.data.toList b.data.toList)]) ∧ Below w.heap.size w w' := by
  unfold maxLen at ha hb
  have hab : (a.size : Int) ≤ b.size := by omega
  have hd9 : decide (a.size < b.size) = true := by simp; omega
  go_enter Try.func18, Try.ntmps18
  go_wp2_with fail
  go_loopw [6, 7, 8] (fun v6 v7 v8 wr => ∃ (n f : Int) (k : Nat), k ≤ a.size ∧ 0 ≤ n ∧ n ≤ (b.size : Int) - k ∧ v6 = .int .i64 n ∧ v7 = .int .i64 f ∧ v8 = .int .i64 ((k : Int) - 1) ∧ Hid (n = Crc.nd (Crc.dropS a k) (Crc.dropS b k)) ∧ Hid (f = k + Crc.fd (Crc.dropS a k) (Crc.dropS b k)) ∧ Below w.heap.size w wr) (fun _ _ v8 _ => (intOf v8 + 1).toNat)
  case atStart =>
    refine ⟨_, _, a.size, by omega, ?_, ?_, rfl, rfl, rfl, Lib.hid ?_, Lib.hid ?_, Below.refl _ _⟩
    · omega
    · omega
    · rw [Crc.nd_short a b _ (Nat.le_refl _)]; omega
    · rw [Crc.fd_short a b _ (Nat.le_refl _)]; simp
  case round =>
    obtain ⟨n, f, k, hk, hn0, hn1, rfl, rfl, rfl, Hn, Hf, hbel⟩ := hrel
    obtain ⟨wo, rfl⟩ : ∃ wo : World, wo = wr := ⟨_, rfl⟩
    cases k with
    | zero =>
      rw [show ((0 : Nat) : Int) - 1 = -1 from rfl]
      go_wp2_with fail
      go_ret2
      exact ⟨by rw [Hn.out, Hf.out]; simp [Crc.dropS_zero], hbel⟩
    | succ j =>
      rw [show ((j + 1 : Nat) : Int) - 1 = (j : Int) from by omega]
      have hj0 : (0 : Int) ≤ (j : Int) := by omega
      have hj1 : (j : Int) < (a.size : Int) := by omega
      have hj2 : (j : Int) < (b.size : Int) := by omega
      have hj3 : j < a.size := by omega
      have hj4 : j < b.size := by omega
      have ga := Crc.byteAt_eq a j hj3
      have gb := Crc.byteAt_eq b j hj4
      by_cases hd : Crc.byteAt a j = Crc.byteAt b j
      · have hd1 : (Crc.byteAt a j != Crc.byteAt b j) = false := by simp [hd]
        have HD := Lib.hid hd
        clear hd
        go_wp2_with fail
        go_quiet (fail)
        clear ga gb
        go_wp2_with fail
        go_roundw
        case rel =>
          refine ⟨n, f, j, by omega, hn0, by omega, rfl, rfl, rfl, Lib.hid ?_, Lib.hid ?_, below_drewN hbel _⟩
          · rw [Crc.nd_step a b j hj3 hj4, if_pos HD.out, Hn.out]; omega
          · rw [Crc.fd_step a b j hj3 hj4, if_pos HD.out, Hf.out]; omega
        case measure => first | (simp [intOf]; done) | (simp [intOf]; omega)
      · have hd1 : (Crc.byteAt a j != Crc.byteAt b j) = true := by simp [hd]
        have HD := Lib.hid hd
        clear hd
        go_wp2_with fail
        go_quiet (fail)
        clear ga gb
        go_wp2_with fail
        go_roundw
        case rel =>
          refine ⟨n + 1, j, j, by omega, by omega, by omega, rfl, rfl, rfl, Lib.hid ?_, Lib.hid ?_, below_drewN hbel _⟩
          · rw [Crc.nd_step a b j hj3 hj4, if_neg HD.out, Hn.out]; omega
          · rw [Crc.fd_step a b j hj3 hj4, if_neg HD.out]; omega
        case measure => first | (simp [intOf]; done) | (simp [intOf]; omega)

set_option maxHeartbeats 1000000 in
theorem ref_Apart_le (a b : ByteArray) (ha : a.size ≤ maxLen) (hb : b.size ≤ maxLen) (h : a.size ≤ b.size) (w : World) :
    Calls Try.prog 19 #[.string a, .string b] w fun e w' => e = .returned (.tuple #[.int .i64 (Crc.nd a.data.toList b.data.toList), .int .i64 (Crc.fd a.data.toList b.data.toList)]) ∧ Below w.heap.size w w' := by
  unfold maxLen at ha hb
  have hab : (a.size : Int) ≤ b.size := by omega
  have hd9 : decide (b.size < a.size) = false := by simp; omega
  go_enter Try.func19, Try.ntmps19
  go_wp2_with fail
  go_loopw [8, 9, 10] (fun v8 v9 v10 wr => ∃ (n f : Int) (k : Nat), k ≤ b.size ∧ 0 ≤ n ∧ n ≤ k ∧ -1 ≤ f ∧ f ≤ b.size ∧ v8 = .int .i64 n ∧ v9 = .int .i64 f ∧ v10 = .int .i64 k ∧ Hid (n + Crc.nd (Crc.dropS a k) (Crc.dropS b k) = Crc.nd a.data.toList b.data.toList) ∧ Hid ((f = -1 ∧ k ≤ a.size ∧ (Crc.fd a.data.toList b.data.toList : Int) = k + Crc.fd (Crc.dropS a k) (Crc.dropS b k)) ∨ (0 ≤ f ∧ f = Crc.fd a.data.toList b.data.toList)) ∧ Below w.heap.size w wr) (fun _ _ v10 _ => b.size - (intOf v10).toNat)
  case atStart =>
    refine ⟨_, _, 0, by omega, ?_, ?_, ?_, ?_, rfl, rfl, rfl, Lib.hid ?_, Lib.hid (.inl ⟨?_, ?_, ?_⟩), Below.refl _ _⟩
    · omega
    · omega
    · omega
    · omega
    · simp [Crc.dropS_zero]
    · rfl
    · omega
    · simp [Crc.dropS_zero]
  case round =>
    obtain ⟨n, f, k, hk, hn0, hn1, hf0, hf1, rfl, rfl, rfl, Hn, Hf, hbel⟩ := hrel
    obtain ⟨wo, rfl⟩ : ∃ wo : World, wo = wr := ⟨_, rfl⟩
    by_cases hkb : k < b.size
    · by_cases hka : k < a.size
      · have hj0 : (0 : Int) ≤ (k : Int) := by omega
        have hj1 : (k : Int) < (a.size : Int) := by omega
        have hj2 : (k : Int) < (b.size : Int) := by omega
        have ga := Crc.byteAt_eq a k hka
        have gb := Crc.byteAt_eq b k hkb
        by_cases hd : Crc.byteAt a k = Crc.byteAt b k
        · have hd1 : (Crc.byteAt a k == Crc.byteAt b k) = true := by simp [hd]
          have HD := Lib.hid hd
          clear hd
          go_wp2_with fail
          go_quiet (fail)
          clear ga gb
          go_wp2_with fail
          go_roundw
          case rel =>
            refine ⟨n, f, k + 1, by omega, hn0, by omega, hf0, hf1, rfl, rfl, by go_num, Lib.hid ?_, Lib.hid ?_, below_drewN hbel _⟩
            · have := Crc.nd_step a b k hka hkb
              rw [if_pos HD.out] at this
              have := Hn.out
              omega
            · have := Crc.fd_step a b k hka hkb
              rw [if_pos HD.out] at this
              rcases Hf.out with ⟨h1, h2, h3⟩ | h1
              · exact .inl ⟨h1, by omega, by omega⟩
              · exact .inr h1
          case measure => first | (simp [intOf]; done) | (simp [intOf]; omega)
        · have hd1 : (Crc.byteAt a k == Crc.byteAt b k) = false := by simp [hd]
          have HD := Lib.hid hd
          clear hd
          by_cases hff : f < 0
          all_goals
            go_wp2_with fail
            go_quiet (fail)
            have hd2 := HD.out
            clear ga gb
            go_wp2_with fail
            go_roundw
            case rel =>
              refine ⟨n + 1, _, k + 1, by omega, by omega, by omega, ?_, ?_, rfl, rfl, by go_num, Lib.hid ?_, Lib.hid ?_, below_drewN hbel _⟩
              · omega
              · omega
              · have := Crc.nd_step a b k hka hkb
                rw [if_neg HD.out] at this
                have := Hn.out
                omega
              · have := Crc.fd_step a b k hka hkb
                rw [if_neg HD.out] at this
                rcases Hf.out with ⟨h1, h2, h3⟩ | h1
                · exact .inr (by omega)
                · exact .inr (by omega)
            case measure => first | (simp [intOf]; done) | (simp [intOf]; omega)
      · have hd0 : decide ((k : Int) < (a.size : Int)) = false := by simp; omega
        have hd0' : decide (k < a.size) = false := by simp; omega
        have hka' : (a.size : Int) ≤ k := by omega
        by_cases hff : f < 0
        all_goals
          go_wp2_with fail
          go_quiet (fail)
          go_wp2_with fail
          go_roundw
          case rel =>
            refine ⟨n + 1, _, k + 1, by omega, by omega, by omega, ?_, ?_, rfl, rfl, by go_num, Lib.hid ?_, Lib.hid ?_, below_drewN hbel _⟩
            · omega
            · omega
            · have h1 := Crc.nd_short a b k (by omega)
              have h2 := Crc.nd_short a b (k + 1) (by omega)
              have := Hn.out
              omega
            · have h1 := Crc.fd_short a b k (by omega)
              rcases Hf.out with ⟨h2, h3, h4⟩ | h2
              · exact .inr (by omega)
              · exact .inr (by omega)
          case measure => first | (simp [intOf]; done) | (simp [intOf]; omega)
    · have e : k = b.size := by omega
      have h1 := Crc.nd_short a b k (by omega)
      have h2 := Crc.fd_short a b k (by omega)
      have h3 := Hn.out
      have h4 := Hf.out
      have hN : Hid (n = Crc.nd a.data.toList b.data.toList) := Lib.hid (by omega)
      have hF : Hid (((f < 0) → (a.size : Int) = Crc.fd a.data.toList b.data.toList) ∧ (0 ≤ f → f = Crc.fd a.data.toList b.data.toList)) := Lib.hid (by omega)
      clear h1 h2 h3 h4 e
      by_cases hff : f < 0
      · go_wp2_with fail
        go_ret2
        exact ⟨by rw [← hN.out, ← hF.out.1 hff]; rfl, hbel⟩
      · go_wp2_with fail
        go_ret2
        exact ⟨by rw [← hN.out, ← hF.out.2 (by omega)]; rfl, hbel⟩

set_option maxHeartbeats 1000000 in
theorem ref_Apart_gt (a b : ByteArray) (ha : a.size ≤ maxLen) (hb : b.size ≤ maxLen) (h : a.size < b.size) (w : World) :
    Calls Try.prog 19 #[.string b, .string a] w fun e w' => e = .returned (.tuple #[.int .i64 (Crc.nd a.data.toList b.data.toList), .int .i64 (Crc.fd a.data.toList b.data.toList)]) ∧ Below w.heap.size w w' := by
  unfold maxLen at ha hb
  have hab : (a.size : Int) ≤ b.size := by omega
  have hd9 : decide (a.size < b.size) = true := by simp; omega
  go_enter Try.func19, Try.ntmps19
  go_wp2_with fail
  go_loopw [8, 9, 10] (fun v8 v9 v10 wr => ∃ (n f : Int) (k : Nat), k ≤ b.size ∧ 0 ≤ n ∧ n ≤ k ∧ -1 ≤ f ∧ f ≤ b.size ∧ v8 = .int .i64 n ∧ v9 = .int .i64 f ∧ v10 = .int .i64 k ∧ Hid (n + Crc.nd (Crc.dropS a k) (Crc.dropS b k) = Crc.nd a.data.toList b.data.toList) ∧ Hid ((f = -1 ∧ k ≤ a.size ∧ (Crc.fd a.data.toList b.data.toList : Int) = k + Crc.fd (Crc.dropS a k) (Crc.dropS b k)) ∨ (0 ≤ f ∧ f = Crc.fd a.data.toList b.data.toList)) ∧ Below w.heap.size w wr) (fun _ _ v10 _ => b.size - (intOf v10).toNat)
  case atStart =>
    refine ⟨_, _, 0, by omega, ?_, ?_, ?_, ?_, rfl, rfl, rfl, Lib.hid ?_, Lib.hid (.inl ⟨?_, ?_, ?_⟩), Below.refl _ _⟩
    · omega
    · omega
    · omega
    · omega
    · simp [Crc.dropS_zero]
    · rfl
    · omega
    · simp [Crc.dropS_zero]
  case round =>
    obtain ⟨n, f, k, hk, hn0, hn1, hf0, hf1, rfl, rfl, rfl, Hn, Hf, hbel⟩ := hrel
    obtain ⟨wo, rfl⟩ : ∃ wo : World, wo = wr := ⟨_, rfl⟩
    by_cases hkb : k < b.size
    · by_cases hka : k < a.size
      · have hj0 : (0 : Int) ≤ (k : Int) := by omega
        have hj1 : (k : Int) < (a.size : Int) := by omega
        have hj2 : (k : Int) < (b.size : Int) := by omega
        have ga := Crc.byteAt_eq a k hka
        have gb := Crc.byteAt_eq b k hkb
        by_cases hd : Crc.byteAt a k = Crc.byteAt b k
        · have hd1 : (Crc.byteAt a k == Crc.byteAt b k) = true := by simp [hd]
          have HD := Lib.hid hd
          clear hd
          go_wp2_with fail
          go_quiet (fail)
          clear ga gb
          go_wp2_with fail
          go_roundw
          case rel =>
            refine ⟨n, f, k + 1, by omega, hn0, by omega, hf0, hf1, rfl, rfl, by go_num, Lib.hid ?_, Lib.hid ?_, below_drewN hbel _⟩
            · have := Crc.nd_step a b k hka hkb
              rw [if_pos HD.out] at this
              have := Hn.out
              omega
            · have := Crc.fd_step a b k hka hkb
              rw [if_pos HD.out] at this
              rcases Hf.out with ⟨h1, h2, h3⟩ | h1
              · exact .inl ⟨h1, by omega, by omega⟩
              · exact .inr h1
          case measure => first | (simp [intOf]; done) | (simp [intOf]; omega)
        · have hd1 : (Crc.byteAt a k == Crc.byteAt b k) = false := by simp [hd]
          have HD := Lib.hid hd
          clear hd
          by_cases hff : f < 0
          all_goals
            go_wp2_with fail
            go_quiet (fail)
            have hd2 := HD.out
            clear ga gb
            go_wp2_with fail
            go_roundw
            case rel =>
              refine ⟨n + 1, _, k + 1, by omega, by omega, by omega, ?_, ?_, rfl, rfl, by go_num, Lib.hid ?_, Lib.hid ?_, below_drewN hbel _⟩
              · omega
              · omega
              · have := Crc.nd_step a b k hka hkb
                rw [if_neg HD.out] at this
                have := Hn.out
                omega
              · have := Crc.fd_step a b k hka hkb
                rw [if_neg HD.out] at this
                rcases Hf.out with ⟨h1, h2, h3⟩ | h1
                · exact .inr (by omega)
                · exact .inr (by omega)
            case measure => first | (simp [intOf]; done) | (simp [intOf]; omega)
      · have hd0 : decide ((k : Int) < (a.size : Int)) = false := by simp; omega
        have hd0' : decide (k < a.size) = false := by simp; omega
        have hka' : (a.size : Int) ≤ k := by omega
        by_cases hff : f < 0
        all_goals
          go_wp2_with fail
          go_quiet (fail)
          go_wp2_with fail
          go_roundw
          case rel =>
            refine ⟨n + 1, _, k + 1, by omega, by omega, by omega, ?_, ?_, rfl, rfl, by go_num, Lib.hid ?_, Lib.hid ?_, below_drewN hbel _⟩
            · omega
            · omega
            · have h1 := Crc.nd_short a b k (by omega)
              have h2 := Crc.nd_short a b (k + 1) (by omega)
              have := Hn.out
              omega
            · have h1 := Crc.fd_short a b k (by omega)
              rcases Hf.out with ⟨h2, h3, h4⟩ | h2
              · exact .inr (by omega)
              · exact .inr (by omega)
          case measure => first | (simp [intOf]; done) | (simp [intOf]; omega)
    · have e : k = b.size := by omega
      have h1 := Crc.nd_short a b k (by omega)
      have h2 := Crc.fd_short a b k (by omega)
      have h3 := Hn.out
      have h4 := Hf.out
      have hN : Hid (n = Crc.nd a.data.toList b.data.toList) := Lib.hid (by omega)
      have hF : Hid (((f < 0) → (a.size : Int) = Crc.fd a.data.toList b.data.toList) ∧ (0 ≤ f → f = Crc.fd a.data.toList b.data.toList)) := Lib.hid (by omega)
      clear h1 h2 h3 h4 e
      by_cases hff : f < 0
      · go_wp2_with fail
        go_ret2
        exact ⟨by rw [← hN.out, ← hF.out.1 hff]; rfl, hbel⟩
      · go_wp2_with fail
        go_ret2
        exact ⟨by rw [← hN.out, ← hF.out.2 (by omega)]; rfl, hbel⟩

theorem crc_Apart (a b : ByteArray) (ha : a.size ≤ maxLen) (hb : b.size ≤ maxLen) (w : World) :
    Calls Try.prog 18 #[.string a, .string b] w fun e w' => e = .returned (.tuple #[.int .i64 (Crc.nd a.data.toList b.data.toList), .int .i64 (Crc.fd a.data.toList b.data.toList)]) ∧ Below w.heap.size w w' := by
  by_cases h : a.size ≤ b.size
  · exact crc_Apart_le a b ha hb h w
  · rw [Crc.nd_comm, Crc.fd_comm]
    exact crc_Apart_gt b a hb ha (by omega) w
theorem ref_Apart (a b : ByteArray) (ha : a.size ≤ maxLen) (hb : b.size ≤ maxLen) (w : World) :
    Calls Try.prog 19 #[.string a, .string b] w fun e w' => e = .returned (.tuple #[.int .i64 (Crc.nd a.data.toList b.data.toList), .int .i64 (Crc.fd a.data.toList b.data.toList)]) ∧ Below w.heap.size w w' := by
  by_cases h : a.size ≤ b.size
  · exact ref_Apart_le a b ha hb h w
  · rw [Crc.nd_comm, Crc.fd_comm]
    exact ref_Apart_gt b a hb ha (by omega) w
end Go.Proofs.Ytlkaamednhpdcaa
