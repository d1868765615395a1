/-
  Texts that belong together: NumMath, CrcMath, CrcWalk, CrcWalk2.
-/
import Derived.Test.YtckloanlkpchoaaGreatDoorBase
import Derived.Laws.BitsLemmas
import Derived.Laws.BytesArg
set_option linter.unusedVariables false
set_option linter.unusedSimpArgs false
set_option linter.unusedSectionVars false
namespace Go.Proofs.YtckloanlkpchoaaGreatDoor
/-! ### Operators on natural numbers -/
theorem or_nat64 (a b : Nat) (ha : a < 18446744073709551616) (hb : b < 18446744073709551616) : bits .or .u64 (a : Int) (b : Int) = ((a ||| b : Nat) : Int) := by
  have h : a ||| b < 2 ^ 64 := Nat.or_lt_two_pow (by omega) (by omega)
  show IntKind.u64.wrap (((BitVec.ofInt 64 (a : Int)) ||| (BitVec.ofInt 64 (b : Int))).toNat : Int) = _
  rw [BitVec.ofInt_natCast, BitVec.ofInt_natCast, BitVec.toNat_or, BitVec.toNat_ofNat, BitVec.toNat_ofNat, Nat.mod_eq_of_lt (by omega), Nat.mod_eq_of_lt (by omega)]
  exact IntWalk.u64_in _ (by omega)
theorem or_join_nat (q y k : Nat) (hy : y < 2 ^ k) : y ||| q * 2 ^ k = q * 2 ^ k + y := by
  rw [Nat.or_comm, Nat.mul_comm q, Nat.two_pow_add_eq_or_of_lt hy]
theorem size_list (s : ByteArray) : s.size = s.data.toList.length := (Array.length_toList (xs := s.data)).symm
theorem u8_nat (x : Nat) : IntKind.u8.wrap (x : Int) = nb (UInt8.ofNat x) := by
  rw [IntKind.wrap_u8]; unfold nb; rw [UInt8.toNat_ofNat']; omega
namespace Num
abbrev top : Nat := 1099511627776
/-- A number's five bytes. -/
def five (n : Nat) : List UInt8 := [UInt8.ofNat (n / 4294967296), UInt8.ofNat (n / 16777216), UInt8.ofNat (n / 65536), UInt8.ofNat (n / 256), UInt8.ofNat n]
theorem five_length (n : Nat) : (five n).length = 5 := rfl
/-- Bytes read as a number, the big end first. -/
def ofB (l : List UInt8) : Nat := l.foldl (fun a b => 256 * a + b.toNat) 0
theorem ofB_snoc (l : List UInt8) (c : UInt8) : ofB (l ++ [c]) = 256 * ofB l + c.toNat := by simp [ofB]
theorem ofB_take (l : List UInt8) (k : Nat) (h : k < l.length) : ofB (l.take (k + 1)) = 256 * ofB (l.take k) + (at8 l k).toNat := by
  rw [List.take_succ_eq_append_getElem h, ofB_snoc, at8_get _ _ h]
theorem ofB_lt' (l : List UInt8) (a : Nat) : l.foldl (fun a b => 256 * a + b.toNat) a < (a + 1) * 256 ^ l.length := by
  induction l generalizing a with
  | nil => simp
  | cons c l ih =>
    have := ih (256 * a + c.toNat)
    have hc := c.toNat_lt
    rw [List.foldl_cons, List.length_cons, Nat.pow_succ, Nat.mul_comm (256 ^ l.length) 256, ← Nat.mul_assoc]
    exact Nat.lt_of_lt_of_le this (Nat.mul_le_mul_right _ (by omega))
theorem ofB_lt (l : List UInt8) : ofB l < 256 ^ l.length := by have := ofB_lt' l 0; simpa [ofB] using this
theorem ofB_le4 (l : List UInt8) (h : l.length ≤ 4) : ofB l < 4294967296 := by
  have h1 := ofB_lt l
  have h2 : 256 ^ l.length ≤ 256 ^ 4 := Nat.pow_le_pow_right (by decide) h
  omega
theorem ofB_small (l : List UInt8) (k : Nat) (h : k ≤ 4) : ofB (l.take k) < 4294967296 := ofB_le4 _ (by rw [List.length_take]; omega)
theorem ofB_five (n : Nat) (h : n < top) : ofB (five n) = n := by
  simp only [ofB, five, List.foldl_cons, List.foldl_nil, UInt8.toNat_ofNat']
  unfold top at h; omega
def two (s : ByteArray) (e : Int) : Value := .tuple #[.string s, .int .i64 e]
def getP (s : ByteArray) : Nat × Int := if s.size = 5 then (ofB s.data.toList, 0) else (0, 5)
/-- The order of numbers one behind the other. -/
def lessB : List Nat → List Nat → Bool
  | _, [] => false
  | [], _ :: _ => true
  | x :: a, y :: b => decide (x < y) || (decide (x = y) && lessB a b)
theorem lessB_irrefl (a : List Nat) : lessB a a = false := by
  induction a with
  | nil => rfl
  | cons x a ih => simp [lessB, ih]
theorem lessB_asymm (a b : List Nat) (h : lessB a b = true) : lessB b a = false := by
  induction a generalizing b with
  | nil => cases b <;> simp_all [lessB]
  | cons x a ih =>
    cases b with
    | nil => simp [lessB] at h
    | cons y b =>
      simp only [lessB, Bool.or_eq_true, decide_eq_true_eq, Bool.and_eq_true] at h
      rcases h with h | ⟨h1, h2⟩
      · simp only [lessB, Bool.or_eq_false_iff, decide_eq_false_iff_not, Bool.and_eq_false_iff]; exact ⟨by omega, .inl (by omega)⟩
      · subst h1; simp [lessB, ih b h2]
theorem lessB_total (a b : List Nat) (h1 : lessB a b = false) (h2 : lessB b a = false) : a = b := by
  induction a generalizing b with
  | nil => cases b with
    | nil => rfl
    | cons y b => simp [lessB] at h1
  | cons x a ih =>
    cases b with
    | nil => simp [lessB] at h2
    | cons y b =>
      simp only [lessB, Bool.or_eq_false_iff, decide_eq_false_iff_not, Bool.and_eq_false_iff] at h1 h2
      obtain rfl : x = y := by omega
      rw [ih b (h1.2.resolve_left (by simp)) (h2.2.resolve_left (by simp))]
end Num
end Go.Proofs.YtckloanlkpchoaaGreatDoor
namespace Go.Proofs.YtckloanlkpchoaaGreatDoor
namespace Crc

/-- A 32-bit word as the number that a slot holds. -/
def un (b : BitVec 32) : Int := (b.toNat : Int)
def v32 (x : Int) : BitVec 32 := BitVec.ofInt 32 x
theorem un_nonneg (b : BitVec 32) : 0 ≤ un b := Int.natCast_nonneg _
theorem un_le (b : BitVec 32) : un b ≤ 4294967295 := by have := b.isLt; unfold un; omega
theorem v32_un (b : BitVec 32) : v32 (un b) = b := by simp [v32, un]
theorem un_v32 {x : Int} (h0 : 0 ≤ x) (h1 : x ≤ 4294967295) : un (v32 x) = x := by
  obtain ⟨n, rfl⟩ := Int.eq_ofNat_of_zero_le h0
  simp only [v32, un, BitVec.ofInt_natCast, BitVec.toNat_ofNat]; omega
theorem bits_xor (x y : Int) : bits .xor .u32 x y = un (v32 x ^^^ v32 y) := by
  show IntKind.u32.wrap ((v32 x ^^^ v32 y).toNat : Int) = un (v32 x ^^^ v32 y)
  generalize v32 x ^^^ v32 y = b
  have := b.isLt
  rw [IntKind.wrap_u32]; unfold un; omega
theorem bits_and (x y : Int) : bits .and .u32 x y = un (v32 x &&& v32 y) := by
  show IntKind.u32.wrap ((v32 x &&& v32 y).toNat : Int) = un (v32 x &&& v32 y)
  generalize v32 x &&& v32 y = b
  have := b.isLt
  rw [IntKind.wrap_u32]; unfold un; omega
theorem bits_or (x y : Int) : bits .or .u32 x y = un (v32 x ||| v32 y) := by
  show IntKind.u32.wrap ((v32 x ||| v32 y).toNat : Int) = un (v32 x ||| v32 y)
  generalize v32 x ||| v32 y = b
  have := b.isLt
  rw [IntKind.wrap_u32]; unfold un; omega
theorem un_half (a : BitVec 32) : un a / (2 : Int) = un (a >>> 1) := by
  simp only [un, BitVec.toNat_ushiftRight, Nat.shiftRight_eq_div_pow]; omega
theorem un_256 (a : BitVec 32) : un a / (256 : Int) = un (a >>> 8) := by
  simp only [un, BitVec.toNat_ushiftRight, Nat.shiftRight_eq_div_pow]; omega
theorem v32_mod (x : Int) : v32 (x % 4294967296) = v32 x := by
  apply BitVec.eq_of_toInt_eq
  simp only [v32, BitVec.toInt_ofInt]
  rw [show ((4294967296 : Int)) = ((2 ^ 32 : Nat) : Int) from by decide]
  exact Int.emod_bmod _ _
theorem v32_neg (x : Int) : v32 (-x) = - v32 x := by simp [v32, BitVec.ofInt_neg]
/-! ### One bit, n bits -/
def poly : BitVec 32 := 0xedb88320#32
def T (r : BitVec 32) : BitVec 32 := (r >>> 1) ^^^ (if r.getLsbD 0 then poly else 0#32)
def Tn : Nat → BitVec 32 → BitVec 32
  | 0, r => r
  | n + 1, r => T (Tn n r)

theorem T_xor (a b : BitVec 32) : T (a ^^^ b) = T a ^^^ T b := by
  unfold T
  rw [BitVec.ushiftRight_xor_distrib, BitVec.getLsbD_xor]
  have e : poly ^^^ poly = 0#32 := by decide
  cases a.getLsbD 0 <;> cases b.getLsbD 0 <;> simp
  · ac_rfl
  · ac_rfl
  · rw [show a >>> 1 ^^^ poly ^^^ (b >>> 1 ^^^ poly) = a >>> 1 ^^^ b >>> 1 ^^^ (poly ^^^ poly) from by ac_rfl, e, BitVec.xor_zero]
theorem Tn_xor (n : Nat) (a b : BitVec 32) : Tn n (a ^^^ b) = Tn n a ^^^ Tn n b := by
  induction n with
  | zero => rfl
  | succ n ih => simp only [Tn, ih, T_xor]
/-- Where the low bits are 0 nothing is added. -/
theorem Tn_low (n : Nat) (a : BitVec 32) (h : ∀ i, i < n → a.getLsbD i = false) : Tn n a = a >>> n := by
  induction n with
  | zero => simp [Tn]
  | succ n ih =>
    rw [Tn, ih (fun i hi => h i (by omega))]
    unfold T
    rw [BitVec.getLsbD_ushiftRight, h (n + 0) (by omega)]
    simp only [Bool.false_eq_true, if_false, BitVec.xor_zero]
    rw [← BitVec.shiftRight_add]

/-! ### A byte -/
def b32 (b : UInt8) : BitVec 32 := BitVec.ofNat 32 b.toNat
theorem v32_byte (b : UInt8) : v32 (b.toNat : Int) = b32 b := by simp [v32, b32]
theorem b32_high (b : UInt8) (i : Nat) (hi : 8 ≤ i) : (b32 b).getLsbD i = false := by
  have := b.toNat_lt
  simp only [b32, BitVec.getLsbD_ofNat]
  rw [Nat.testBit_lt_two_pow (Nat.lt_of_lt_of_le this (Nat.pow_le_pow_right (by decide) hi))]
  simp
def feed (r : BitVec 32) (b : UInt8) : BitVec 32 := Tn 8 (r ^^^ b32 b)
/-- The program's way: the low byte through the steps, the rest moved. -/
theorem feed_eq (r : BitVec 32) (b : UInt8) : (r >>> 8) ^^^ Tn 8 ((r ^^^ b32 b) &&& 255#32) = feed r b := by
  have hs : r ^^^ b32 b = ((r ^^^ b32 b) &&& 255#32) ^^^ ((r ^^^ b32 b) &&& ~~~255#32) := by
    apply BitVec.eq_of_getLsbD_eq
    intro i hi
    simp only [BitVec.getLsbD_xor, BitVec.getLsbD_and, BitVec.getLsbD_not, hi, decide_true, Bool.true_and]
    cases (r.getLsbD i ^^ (b32 b).getLsbD i) <;> cases (255#32).getLsbD i <;> rfl
  unfold feed
  conv => rhs; rw [hs, Tn_xor]
  rw [Tn_low 8 ((r ^^^ b32 b) &&& ~~~255#32)]
  · have : ((r ^^^ b32 b) &&& ~~~255#32) >>> 8 = r >>> 8 := by
      apply BitVec.eq_of_getLsbD_eq
      intro i hi
      simp only [BitVec.getLsbD_ushiftRight, BitVec.getLsbD_and, BitVec.getLsbD_xor, BitVec.getLsbD_not, b32_high b (8 + i) (by omega)]
      by_cases h : 8 + i < 32
      · have e : (255#32).getLsbD (8 + i) = false := by
          rw [BitVec.getLsbD_ofNat, show (255 : Nat) = 2 ^ 8 - 1 from rfl, Nat.testBit_two_pow_sub_one]; simp
        rw [e]; simp [h]
      · have : r.getLsbD (8 + i) = false := BitVec.getLsbD_of_ge _ _ (by omega)
        simp [this]
    rw [this, BitVec.xor_comm]
  · intro i hi
    simp only [BitVec.getLsbD_and, BitVec.getLsbD_not]
    have e : (255#32).getLsbD i = true := by
      rw [BitVec.getLsbD_ofNat, show (255 : Nat) = 2 ^ 8 - 1 from rfl, Nat.testBit_two_pow_sub_one]; simp; omega
    simp [e]
/-! ### A text -/
def feeds (r : BitVec 32) (l : List UInt8) : BitVec 32 := l.foldl feed r
def more (sum : BitVec 32) (l : List UInt8) : BitVec 32 := ~~~ (feeds (~~~ sum) l)
def sums (l : List (List UInt8)) : BitVec 32 := l.foldl more 0#32
theorem feeds_append (r : BitVec 32) (a b : List UInt8) : feeds r (a ++ b) = feeds (feeds r a) b := List.foldl_append ..
theorem feeds_snoc (r : BitVec 32) (a : List UInt8) (b : UInt8) : feeds r (a ++ [b]) = feed (feeds r a) b := by rw [feeds_append]; rfl
theorem sums_snoc (l : List (List UInt8)) (x : List UInt8) : sums (l ++ [x]) = more (sums l) x := by simp [sums]
/-! ### A sum's bytes -/
def rev (x : BitVec 32) : BitVec 32 :=
  let y := ((x >>> 8) &&& 0xff00ff#32) ||| ((x &&& 0xff00ff#32) <<< 8)
  (y >>> 16) ||| (y <<< 16)
theorem un_shl (a : BitVec 32) (k : Nat) : un a * 2 ^ k % (4294967296 : Int) = un (a <<< k) := by
  simp only [un, BitVec.toNat_shiftLeft, Nat.shiftLeft_eq]
  rw [Int.natCast_emod, Int.natCast_mul]
  simp
theorem un_shr (a : BitVec 32) (k : Nat) : un a / 2 ^ k = un (a >>> k) := by
  simp only [un, BitVec.toNat_ushiftRight, Nat.shiftRight_eq_div_pow]
  simp
theorem un_low (a : BitVec 32) : un a % (256 : Int) = ((a.setWidth 8).toNat : Int) := by
  simp only [un, BitVec.toNat_setWidth]; omega
theorem rev0 (x : BitVec 32) : (rev x >>> 24).setWidth 8 = x.setWidth 8 := by
  apply BitVec.eq_of_getLsbD_eq
  intro i hi
  unfold rev
  match i, hi with
  | 0, _ | 1, _ | 2, _ | 3, _ | 4, _ | 5, _ | 6, _ | 7, _ => simp
theorem rev1 (x : BitVec 32) : (rev x >>> 16).setWidth 8 = (x >>> 8).setWidth 8 := by
  apply BitVec.eq_of_getLsbD_eq
  intro i hi
  unfold rev
  match i, hi with
  | 0, _ | 1, _ | 2, _ | 3, _ | 4, _ | 5, _ | 6, _ | 7, _ => simp
theorem rev2 (x : BitVec 32) : (rev x >>> 8).setWidth 8 = (x >>> 16).setWidth 8 := by
  apply BitVec.eq_of_getLsbD_eq
  intro i hi
  unfold rev
  match i, hi with
  | 0, _ | 1, _ | 2, _ | 3, _ | 4, _ | 5, _ | 6, _ | 7, _ => simp
theorem rev3 (x : BitVec 32) : (rev x).setWidth 8 = (x >>> 24).setWidth 8 := by
  apply BitVec.eq_of_getLsbD_eq
  intro i hi
  unfold rev
  match i, hi with
  | 0, _ | 1, _ | 2, _ | 3, _ | 4, _ | 5, _ | 6, _ | 7, _ => simp
def tailS (b : BitVec 32) : ByteArray := strOfNums [un b % 256, un b / 256 % 256, un b / 65536 % 256, un b / 16777216]
theorem tailS_rev (b : BitVec 32) : strOfNums [un (rev b) / 16777216, un (rev b) / 65536 % 256, un (rev b) / 256 % 256, un (rev b) % 256] = tailS b := by
  have hr := un_nonneg (rev b); have hb := un_nonneg b; have hr' := un_le (rev b); have hb' := un_le b
  have e0 := congrArg (fun x : BitVec 8 => (x.toNat : Int)) (rev0 b)
  have e1 := congrArg (fun x : BitVec 8 => (x.toNat : Int)) (rev1 b)
  have e2 := congrArg (fun x : BitVec 8 => (x.toNat : Int)) (rev2 b)
  have e3 := congrArg (fun x : BitVec 8 => (x.toNat : Int)) (rev3 b)
  simp only [← un_low, ← un_shr] at e0 e1 e2 e3
  unfold tailS
  congr 1
  simp only [List.cons.injEq, and_true]
  omega
end Crc
end Go.Proofs.YtckloanlkpchoaaGreatDoor
namespace Go.Proofs.YtckloanlkpchoaaGreatDoor
open Go.RowKit
open Crc (un v32 Tn)


namespace Crc
theorem step_num (r : BitVec 32) : bits .xor .u32 (un r / 2) (bits .and .u32 3988292384 (-bits .and .u32 (un r) 1 % 4294967296)) = un (T r) := by
  rw [un_half, bits_and (un r) 1, v32_un, bits_and, v32_mod, v32_neg, v32_un, bits_xor, v32_un, v32_un]
  congr 1
  unfold T
  congr 1
  have e1 : v32 1 = 1#32 := rfl
  have e2 : v32 3988292384 = poly := rfl
  rw [e1, e2]
  have h : r &&& 1#32 = if r.getLsbD 0 then 1#32 else 0#32 := by
    apply BitVec.eq_of_getLsbD_eq
    intro i hi
    rw [BitVec.getLsbD_and]
    cases i with
    | zero => cases r.getLsbD 0 <;> simp
    | succ i =>
      have : (1#32).getLsbD (i + 1) = false := by simp [BitVec.getLsbD_one]
      rw [this]
      cases r.getLsbD 0 <;> simp
  rw [h]
  cases r.getLsbD 0 <;> decide
end Crc

set_option maxHeartbeats 400000 in
theorem crc_step (r : Int) (h0 : 0 ≤ r) (h1 : r ≤ 4294967295) (w : World) :
    Calls Tryz.prog 61 #[.int .u32 r] w fun e w' => e = .returned (.int .u32 (un (Tn 8 (v32 r)))) ∧ w = w' := by
  go_enter Tryz.func61, Tryz.ntmps61
  go_wp2
  go_loop [0, 3] (fun v0 v3 => ∃ (k : Int) (j : Nat), 0 ≤ k ∧ k ≤ 4294967295 ∧ j ≤ 8 ∧ v0 = .int .u32 k ∧ v3 = .int .i64 j ∧ Hid (k = un (Tn j (v32 r)))) (fun _ v3 => 8 - (intOf v3).toNat)
  case atStart => exact ⟨r, 0, h0, h1, by omega, rfl, rfl, (Crc.un_v32 h0 h1).symm⟩
  case round =>
    obtain ⟨k, j, hk0, hk1, hj, rfl, rfl, hk⟩ := hrel
    by_cases hlt : j < 8
    · go_wp2
      go_round
      case rel =>
        have hk' := hk.out
        refine ⟨un (Tn (j + 1) (v32 r)), j + 1, Crc.un_nonneg _, Crc.un_le _, by omega, ?_, by go_num, rfl⟩
        rw [hk']
        exact val_int (Crc.step_num _)
      case measure => simp [intOf]; omega
    · go_wp2
      go_ret
      have e : j = 8 := by omega
      subst e
      exact ⟨ret_int hk.out, rfl⟩

namespace Crc
theorem feeds_take (r : BitVec 32) (s : ByteArray) (k : Nat) (h : k < s.size) : feeds r (s.data.toList.take (k + 1)) = feed (feeds r (s.data.toList.take k)) s[k] := by
  rw [take_snoc s k h, feeds_snoc]
theorem more_num (r : BitVec 32) (b : UInt8) : bits .xor .u32 (un r / 256) (un (Tn 8 (v32 (bits .and .u32 (bits .xor .u32 (un r) ((b.toNat : Int) % 4294967296)) 255)))) = un (feed r b) := by
  rw [un_256, bits_xor (un r), v32_un, v32_mod, v32_byte, bits_and, v32_un, v32_un, bits_xor, v32_un, v32_un]
  congr 1
  exact feed_eq r b
theorem not_num (r : Int) : bits .xor .u32 IntKind.u32.max r = un (~~~ v32 r) := by
  rw [bits_xor, show v32 IntKind.u32.max = BitVec.allOnes 32 from by decide, BitVec.allOnes_xor]
end Crc

set_option maxHeartbeats 400000 in
theorem crc_More (r : Int) (s : ByteArray) (hs : s.size ≤ maxLen) (h0 : 0 ≤ r) (h1 : r ≤ 4294967295) (w : World) :
    Calls Tryz.prog 35 #[.int .u32 r, .string s] w fun e w' => e = .returned (.int .u32 (un (Crc.more (v32 r) s.data.toList))) ∧ w = w' := by
  unfold maxLen at hs
  go_enter Tryz.func35, Tryz.ntmps35
  go_wp2
  go_loop [5, 11] (fun v5 v11 => ∃ (k : Int) (j : Nat), 0 ≤ k ∧ k ≤ 4294967295 ∧ j ≤ s.size ∧ v5 = .int .u32 k ∧ v11 = .int .i64 j ∧ Hid (k = un (Crc.feeds (~~~ v32 r) (s.data.toList.take j)))) (fun _ v11 => s.size - (intOf v11).toNat)
  case atStart => exact ⟨_, 0, Crc.un_nonneg _, Crc.un_le _, by omega, val_int (Crc.not_num r), rfl, rfl⟩
  case round =>
    obtain ⟨k, j, hk0, hk1, hj, rfl, rfl, hk⟩ := hrel
    by_cases hlt : j < s.size
    · go_wp2_with (go_at_call 61; refine (crc_step _ (by rw [Crc.bits_and]; exact Crc.un_nonneg _) (by rw [Crc.bits_and]; exact Crc.un_le _) _).mono ?_; rintro e w' ⟨rfl, rfl⟩)
      go_round
      case rel =>
        have hk' := hk.out
        refine ⟨_, j + 1, Crc.un_nonneg _, Crc.un_le _, by omega, ?_, by go_num, Lib.hid (by rw [Crc.feeds_take _ s j hlt])⟩
        rw [hk']
        exact val_int (Crc.more_num _ _)
      case measure => simp [intOf]; omega
    · go_wp2
      go_ret
      have e : j = s.size := by omega
      subst e
      refine ⟨ret_int ?_, rfl⟩
      rw [hk.out, take_all, Crc.not_num, Crc.v32_un]; rfl

namespace Crc
end Crc

namespace Crc
end Crc

end Go.Proofs.YtckloanlkpchoaaGreatDoor
namespace Go.Proofs.YtckloanlkpchoaaGreatDoor
open Go.RowKit
open Crc (un v32 Tn)

/-! ### Texts in a row -/
def lists (ss : List ByteArray) : List (List UInt8) := ss.map fun s => s.data.toList
theorem lists_snoc (ss : List ByteArray) (j : Nat) (h : j < ss.length) : lists (ss.take (j + 1)) = lists (ss.take j) ++ [(strAt ss j).data.toList] := by
  unfold lists
  rw [List.take_succ_eq_append_getElem h, List.map_append]
  simp [strAt, List.getD, List.getElem?_eq_getElem h]
set_option maxHeartbeats 400000 in
theorem crc_Sum (a : Option Addr) (n m : Nat) (ss : List ByteArray) (w : World) (h : IsStrs w a n ss) :
    Calls Tryz.prog 13 #[.slice a n m] w fun e w' => e = .returned (.int .u32 (un (Crc.sums (lists ss)))) ∧ w = w' := by
  obtain ⟨hl, hm, hc, hs⟩ := h
  unfold maxLen at hm
  go_enter Tryz.func13, Tryz.ntmps13
  go_wp2
  go_loop [3, 8] (fun v3 v8 => ∃ (k : Int) (j : Nat), 0 ≤ k ∧ k ≤ 4294967295 ∧ j ≤ n ∧ v3 = .int .u32 k ∧ v8 = .int .i64 j ∧ Hid (k = un (Crc.sums (lists (ss.take j))))) (fun _ v8 => n - (intOf v8).toNat)
  case atStart => exact ⟨0, 0, by omega, by omega, by omega, rfl, rfl, Lib.hid rfl⟩
  case round =>
    obtain ⟨k, j, hk0, hk1, hj, rfl, rfl, hk⟩ := hrel
    by_cases hlt : j < n
    · rcases hc with hc | ⟨b, off, rfl, hc⟩
      · omega
      have hcell := hc j hlt
      have hsz := strAt_size ss j (by omega) hs
      have HL := Lib.hid hl
      clear hl hc
      go_wp2_with (go_at_call 35; refine (crc_More _ _ hsz hk0 hk1 _).mono ?_; rintro e w' ⟨rfl, rfl⟩)
      go_round
      case rel =>
        have hk' := hk.out
        refine ⟨_, j + 1, Crc.un_nonneg _, Crc.un_le _, by omega, rfl, by go_num, Lib.hid ?_⟩
        rw [lists_snoc ss j (by rw [HL.out]; exact hlt), Crc.sums_snoc, hk', Crc.v32_un]
      case measure => simp [intOf]; omega
    · have HL := Lib.hid hl
      clear hl hc
      go_wp2
      go_ret
      have e : j = n := by omega
      subst e
      refine ⟨ret_int ?_, rfl⟩
      rw [hk.out, List.take_of_length_le (by rw [HL.out]; exact Nat.le_refl _)]

/-! ### A sum's bytes -/
theorem bits_Rev (r : Int) (h0 : 0 ≤ r) (h1 : r ≤ 4294967295) (w : World) :
    Calls Tryz.prog 60 #[.int .u32 r] w fun e w' => e = .returned (.int .u32 (un (Crc.rev (v32 r)))) ∧ w = w' := by
  go_enter Tryz.func60, Tryz.ntmps60
  go_wp2_with fail
  go_ret
  refine ⟨ret_int ?_, rfl⟩
  obtain ⟨b, rfl⟩ : ∃ b, r = un b := ⟨v32 r, (Crc.un_v32 h0 h1).symm⟩
  have e1 := fun b => Crc.un_shl b 8
  have e2 := fun b => Crc.un_shl b 16
  have e3 := fun b => Crc.un_shr b 16
  simp only [Int.reducePow] at e1 e2 e3
  simp only [Crc.un_256, Crc.bits_and, e1, e2, e3, Crc.bits_or, Crc.v32_un]
  rfl


theorem conv4 (w : World) (x0 x1 x2 x3 : Int) :
    (convert 51 9 (.slice (some ⟨w.heap.size, 0, none⟩) 4 4)).run Tryz.prog (w.alloc (.cells #[.int .u8 x0, .int .u8 x1, .int .u8 x2, .int .u8 x3] 5)) =
      .ok (.string (strOfNums [x0, x1, x2, x3])) (w.alloc (.cells #[.int .u8 x0, .int .u8 x1, .int .u8 x2, .int .u8 x3] 5)) := by
  refine run_convert_bytes_arg _ 51 5 Tryz.underlying51 Tryz.underlying5 w.heap.size 0 4 4 [x0, x1, x2, x3] rfl (fun i hi => ?_) 9 Tryz.underlying9
  match i, hi with
  | 0, _ | 1, _ | 2, _ | 3, _ => simp [go_sem]
set_option maxHeartbeats 400000 in
theorem crc_Tail (r : Int) (h0 : 0 ≤ r) (h1 : r ≤ 4294967295) (w : World) :
    Calls Tryz.prog 34 #[.int .u32 r] w fun e w' => e = .returned (.string (Crc.tailS (v32 r))) ∧ Below w.heap.size w w' := by
  have kc := fun w x0 x1 x2 x3 => conv4 w x0 x1 x2 x3
  go_enter Tryz.func34, Tryz.ntmps34
  have b0 := Crc.un_nonneg (Crc.rev (v32 r))
  have b1 := Crc.un_le (Crc.rev (v32 r))
  go_wp2_with (go_at_call 60; refine (bits_Rev r h0 h1 _).mono ?_; rintro e w' ⟨rfl, rfl⟩)
  go_ret
  exact ⟨by rw [← Crc.tailS_rev]; rfl, (Below.refl _ _).alloc (Nat.le_refl _) _⟩

/-- A text's sum. -/
def sumOf (s : ByteArray) : BitVec 32 := Crc.more 0#32 s.data.toList
theorem crc_Sum1 (b off n m : Nat) (s : ByteArray) (W : World) (hn : n = 1) (hs : s.size ≤ maxLen) (h : W.cell? ⟨b, off, none⟩ = some (.string s)) :
    Calls Tryz.prog 13 #[.slice (some ⟨b, off, none⟩) n m] W fun e w' => e = .returned (.int .u32 (un (sumOf s))) ∧ W = w' := by
  subst hn; exact crc_Sum _ _ _ [s] _ (isStrs_one _ _ _ _ hs h)
def body (f : ByteArray) : ByteArray := f.extract 0 (f.size - 4)
def tailOf (f : ByteArray) : ByteArray := f.extract (f.size - 4) f.size
def fits (f : ByteArray) : Bool := (Crc.tailS (sumOf (body f))).toList == (tailOf f).toList
end Go.Proofs.YtckloanlkpchoaaGreatDoor
