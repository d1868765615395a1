/-
  Plain laws of the check sum: texts cut, turned in few bits, put together; frames. No program in sight.
-/
import Derived.Test.YtlkaamednhpdcaaCrcLives
import Derived.Lib.Strings
namespace Go.Proofs.Ytlkaamednhpdcaa
open Go.RowKit
open Crc (un v32 Tn)
set_option linter.unusedVariables false

theorem ba_ext {a b : ByteArray} (h : a.data.toList = b.data.toList) : a = b := by rw [← bs_of a, ← bs_of b, h]
theorem ba_beq (a b : ByteArray) : (a.toList == b.toList) = decide (a = b) := by
  rw [ByteArray.toList_eq, ByteArray.toList_eq, Bool.eq_iff_iff]
  simp only [beq_iff_eq, decide_eq_true_eq]
  exact ⟨ba_ext, fun h => by rw [h]⟩
theorem size_len (s : ByteArray) : s.data.toList.length = s.size := by simp
theorem extract_head (s : ByteArray) (k : Nat) : (s.extract 0 k).data.toList = s.data.toList.take k := by rw [Lib.extract_data]; simp
theorem extract_tail (s : ByteArray) (k : Nat) : (s.extract k s.size).data.toList = s.data.toList.drop k := by
  rw [Lib.extract_data]; exact List.take_of_length_le (by simp)
theorem append_data (a b : ByteArray) : (a ++ b).data.toList = a.data.toList ++ b.data.toList := by simp

namespace Crc
/-! ### Cut -/
def moreS (sum : BitVec 32) (s : ByteArray) : BitVec 32 := more sum s.data.toList
theorem parts_more (s : ByteArray) (k : Nat) : un (moreS (v32 (un (sumOf (s.extract 0 k)))) (s.extract k s.size)) = un (sumOf s) := by
  rw [v32_un, moreS, sumOf, more_append, extract_head, extract_tail, List.take_append_drop]; rfl
theorem parts_sum (s : ByteArray) (k : Nat) : un (sums (lists [s.extract 0 k, s.extract k s.size])) = un (sumOf s) := by
  have : lists [s.extract 0 k, s.extract k s.size] = [(s.extract 0 k).data.toList, (s.extract k s.size).data.toList] := rfl
  rw [this, sums_two, sums_one, extract_head, extract_tail, List.take_append_drop]; rfl

/-! ### Byte by byte -/
def zx (l m : List UInt8) : List UInt8 := List.zipWith (· ^^^ ·) l m
theorem zx_length (l m : List UInt8) (h : l.length = m.length) : (zx l m).length = l.length := by simp [zx, h]
theorem at8_zx (l m : List UInt8) (h : l.length = m.length) (j : Nat) (hj : j < l.length) : at8 (zx l m) j = at8 l j ^^^ at8 m j := by
  rw [at8_get _ _ (by rw [zx_length l m h]; exact hj), at8_get l j hj, at8_get m j (by omega)]
  simp [zx]
theorem feeds_delta (l m : List UInt8) (h : l.length = m.length) (r q : BitVec 32) : feeds (r ^^^ q) (zx l m) = feeds r l ^^^ feeds q m := by
  induction l generalizing m r q with
  | nil => cases m <;> simp_all [feeds, zx]
  | cons x l ih =>
    cases m with
    | nil => simp at h
    | cons y m =>
      simp only [zx, List.zipWith_cons_cons, feeds_cons]
      rw [feed_xor]
      exact ih m (by simpa using h) _ _
theorem feed_zero : feed 0#32 0 = 0#32 := by decide
theorem feeds_zeros (n : Nat) : feeds 0#32 (List.replicate n 0) = 0#32 := by
  induction n with
  | zero => rfl
  | succ n ih => rw [List.replicate_succ, feeds_cons, feed_zero, ih]
theorem feeds_zeros_inj {q : BitVec 32} (n : Nat) (h : feeds q (List.replicate n 0) = 0#32) : q = 0#32 :=
  feeds_inj (List.replicate n 0) (by rw [h, feeds_zeros])
theorem more_delta (l m : List UInt8) (h : l.length = m.length) : more 0#32 (zx l m) = more 0#32 l ↔ feeds 0#32 m = 0#32 := by
  unfold more
  rw [BitVec.not_inj]
  have := feeds_delta l m h (~~~0#32) 0#32
  rw [BitVec.xor_zero] at this
  rw [this]
  constructor
  · intro e
    have := congrArg (fun x => feeds (~~~0#32) l ^^^ x) e
    simpa [← BitVec.xor_assoc] using this
  · intro e; rw [e, BitVec.xor_zero]
/-- Bytes d at a place, zeros else. -/
def mask (p n : Nat) (d : List UInt8) : List UInt8 := List.replicate p 0 ++ (d ++ List.replicate (n - p - d.length) 0)
theorem mask_length (p n : Nat) (d : List UInt8) (h : p + d.length ≤ n) : (mask p n d).length = n := by simp [mask]; omega
theorem at8_mask (p n : Nat) (d : List UInt8) (j : Nat) : at8 (mask p n d) j = if p ≤ j ∧ j < p + d.length then at8 d (j - p) else 0 := by
  have hz : ∀ n i, at8 (List.replicate n 0) i = 0 := fun n i => by
    unfold at8
    simp only [List.getD, List.getElem?_replicate]
    split <;> rfl
  have ha : ∀ (a b : List UInt8) (i : Nat), at8 (a ++ b) i = if i < a.length then at8 a i else at8 b (i - a.length) := fun a b i => by
    unfold at8
    simp only [List.getD, List.getElem?_append]
    split <;> rfl
  unfold mask
  rw [ha, ha, hz, hz, List.length_replicate]
  by_cases h1 : j < p
  · rw [if_pos h1, if_neg (by omega)]
  · rw [if_neg h1]
    by_cases h2 : j - p < d.length
    · rw [if_pos h2, if_pos (by omega)]
    · rw [if_neg h2, if_neg (by omega)]
theorem feeds_mask (p n : Nat) (d : List UInt8) : feeds 0#32 (mask p n d) = 0#32 ↔ feeds 0#32 d = 0#32 := by
  unfold mask
  rw [feeds_append, feeds_zeros, feeds_append]
  exact ⟨feeds_zeros_inj _, fun h => by rw [h, feeds_zeros]⟩

/-! ### Four bytes side by side -/
def dby (by_ : BitVec 32) (k : Nat) : UInt8 := UInt8.ofNat ((un by_ / 2 ^ (8 * k) % 256).toNat)
theorem nb_dby (by_ : BitVec 32) (k : Nat) : un by_ / 2 ^ (8 * k) % 256 = nb (dby by_ k) := (nb_of (by omega) (by omega)).symm
theorem b32_dby (by_ : BitVec 32) (k : Nat) : b32 (dby by_ k) = (by_ >>> (8 * k)) &&& 255#32 := by
  apply un_inj
  rw [un_b32, ← nb_byte, ← nb_dby, un_shr]
  have := bits_and (un (by_ >>> (8 * k))) 255
  rw [v32_un] at this
  have e : v32 255 = 255#32 := rfl
  rw [e] at this
  rw [← this]
  exact (bits_mask .u32 32 (by decide) (fun n h0 h1 => by rw [IntKind.wrap_u32]; omega) 8 (by decide) _ (un_nonneg _) (by have := un_le (by_ >>> (8 * k)); omega)).symm
theorem tn8 (z : BitVec 32) : Tn 8 z = (z >>> 8) ^^^ Tn 8 (z &&& 255#32) := by
  have h := feed_eq z 0
  have e : b32 0 = 0#32 := rfl
  rw [feed, e, BitVec.xor_zero] at h
  exact h.symm
theorem burst_state (by_ : BitVec 32) (k : Nat) : Tn 8 ((Tn (8 * k) by_ ^^^ (by_ >>> (8 * k))) ^^^ ((by_ >>> (8 * k)) &&& 255#32)) = Tn (8 * (k + 1)) by_ ^^^ (by_ >>> (8 * (k + 1))) := by
  rw [BitVec.xor_assoc, Tn_xor, Tn_xor, tn8 (by_ >>> (8 * k)), ← Tn_add, ← BitVec.shiftRight_add]
  rw [show 8 + 8 * k = 8 * (k + 1) from by omega, show 8 * k + 8 = 8 * (k + 1) from by omega]
  rw [BitVec.xor_assoc (by_ >>> (8 * (k + 1))), BitVec.xor_self, BitVec.xor_zero]
def four (by_ : BitVec 32) : List UInt8 := [dby by_ 0, dby by_ 1, dby by_ 2, dby by_ 3]
theorem feeds_four (by_ : BitVec 32) : feeds 0#32 (four by_) = Tn 32 by_ := by
  simp only [four, feeds, List.foldl_cons, List.foldl_nil, feed, b32_dby]
  have h0 := burst_state by_ 0
  have h1 := burst_state by_ 1
  have h2 := burst_state by_ 2
  have h3 := burst_state by_ 3
  have z0 : Tn (8 * 0) by_ ^^^ (by_ >>> (8 * 0)) = 0#32 := by
    rw [show 8 * 0 = 0 from rfl, BitVec.ushiftRight_zero]; exact BitVec.xor_self
  rw [z0] at h0
  rw [h0, h1, h2, h3]
  simp only [Nat.reduceMul, Nat.reduceAdd]
  have e : by_ >>> 32 = 0#32 := by
    apply BitVec.eq_of_getLsbD_eq
    intro i hi
    rw [BitVec.getLsbD_ushiftRight, BitVec.getLsbD_of_ge _ _ (by omega)]; simp
  rw [e, BitVec.xor_zero]
theorem burst_iff (l : List UInt8) (p : Nat) (by_ : BitVec 32) (h : p + 4 ≤ l.length) : more 0#32 (zx l (mask p l.length (four by_))) = more 0#32 l ↔ by_ = 0#32 := by
  rw [more_delta _ _ (mask_length _ _ _ h).symm, feeds_mask, feeds_four]
  exact ⟨Tn_inj0 32, fun e => by rw [e, Tn_zero]⟩
/-- The list behind k of the four bytes. -/
def burst (l : List UInt8) (p : Nat) (by_ : BitVec 32) : Nat → List UInt8
  | 0 => l
  | k + 1 => (burst l p by_ k).set (p + k) (at8 (burst l p by_ k) (p + k) ^^^ dby by_ k)
theorem burst_length (l : List UInt8) (p : Nat) (by_ : BitVec 32) (k : Nat) : (burst l p by_ k).length = l.length := by
  induction k with
  | zero => rfl
  | succ k ih => simp [burst, ih]
theorem at8_burst (l : List UInt8) (p : Nat) (by_ : BitVec 32) (k j : Nat) (h : p + k ≤ l.length) (hj : j < l.length) : at8 (burst l p by_ k) j = at8 l j ^^^ (if p ≤ j ∧ j < p + k then dby by_ (j - p) else 0) := by
  induction k with
  | zero => rw [if_neg (by omega)]; simp [burst]
  | succ k ih =>
    rw [burst]
    by_cases e : j = p + k
    · subst e
      rw [at8_set_same _ _ _ (by rw [burst_length]; exact hj), ih (by omega), if_neg (by omega), if_pos (by omega)]
      rw [show p + k - p = k from by omega]; simp
    · rw [at8_set_other _ _ _ _ e, ih (by omega)]
      by_cases h1 : p ≤ j ∧ j < p + k
      · rw [if_pos h1, if_pos (by omega)]
      · rw [if_neg h1, if_neg (by omega)]
theorem burst_four (l : List UInt8) (p : Nat) (by_ : BitVec 32) (h : p + 4 ≤ l.length) : burst l p by_ 4 = zx l (mask p l.length (four by_)) := by
  have hm := mask_length p l.length (four by_) h
  refine at8_ext (by rw [burst_length, zx_length _ _ hm.symm]) fun j hj => ?_
  rw [burst_length] at hj
  rw [at8_burst l p by_ 4 j h hj, at8_zx _ _ hm.symm j hj, at8_mask]
  congr 1
  show _ = if p ≤ j ∧ j < p + 4 then _ else _
  split
  · rename_i hh
    obtain ⟨i, hi, rfl⟩ : ∃ i, i < 4 ∧ j = p + i := ⟨j - p, by omega, by omega⟩
    rw [show p + i - p = i from by omega]
    match i, hi with
    | 0, _ | 1, _ | 2, _ | 3, _ => rfl
  · rfl
theorem burst_law (s : ByteArray) (p : Nat) (by_ : Int) (h : p + 4 ≤ s.size) (h0 : 0 ≤ by_) (h1 : by_ ≤ 4294967295) :
    (un (sumOf (bs (burst s.data.toList p (v32 by_) 4))) == un (sumOf s)) = (by_ == 0) := by
  have hb := burst_iff s.data.toList p (v32 by_) (by simpa using h)
  rw [← burst_four _ _ _ (by simpa using h)] at hb
  rw [Bool.eq_iff_iff, beq_iff_eq, beq_iff_eq]
  unfold sumOf
  rw [bs_data]
  constructor
  · intro e
    have := hb.1 (un_inj e)
    rw [← un_v32 h0 h1, this]; rfl
  · intro e
    subst e
    rw [hb.2 rfl]

/-! ### Three texts -/
/-- The list behind k steps of three lists' coming together. -/
def join3 (a b c : List UInt8) : Nat → List UInt8
  | 0 => a
  | k + 1 => (join3 a b c k).set k (at8 (join3 a b c k) k ^^^ (at8 b k ^^^ at8 c k))
theorem join3_length (a b c : List UInt8) (k : Nat) : (join3 a b c k).length = a.length := by
  induction k with
  | zero => rfl
  | succ k ih => simp [join3, ih]
theorem at8_join3 (a b c : List UInt8) (k j : Nat) (h : k ≤ a.length) (hj : j < a.length) : at8 (join3 a b c k) j = if j < k then at8 a j ^^^ (at8 b j ^^^ at8 c j) else at8 a j := by
  induction k with
  | zero => rw [if_neg (by omega)]; rfl
  | succ k ih =>
    rw [join3]
    by_cases e : j = k
    · subst e
      rw [at8_set_same _ _ _ (by rw [join3_length]; exact hj), ih (by omega), if_neg (by omega), if_pos (by omega)]
    · rw [at8_set_other _ _ _ _ e, ih (by omega)]
      by_cases h1 : j < k
      · rw [if_pos h1, if_pos (by omega)]
      · rw [if_neg h1, if_neg (by omega)]
theorem join3_all (a b c : List UInt8) (h1 : a.length = b.length) (h2 : b.length = c.length) : join3 a b c a.length = zx a (zx b c) := by
  have hz := zx_length b c h2
  refine at8_ext (by rw [join3_length, zx_length _ _ (by omega)]) fun j hj => ?_
  rw [join3_length] at hj
  rw [at8_join3 a b c _ j (Nat.le_refl _) hj, if_pos hj, at8_zx a _ (by omega) j hj, at8_zx b c h2 j (by omega)]
theorem linear_law (a b c : ByteArray) (h1 : b.size = a.size) (h2 : c.size = a.size) :
    bits .xor .u32 (bits .xor .u32 (un (sumOf a)) (un (sumOf b))) (un (sumOf c)) = un (sumOf (bs (join3 a.data.toList b.data.toList c.data.toList a.size))) := by
  rw [bits_xor (un (sumOf a)), v32_un, v32_un, bits_xor, v32_un, v32_un]
  unfold sumOf
  rw [bs_data, ← size_len a, join3_all _ _ _ (by simp [h1]) (by simp [h1, h2])]
  rw [more_xor3 _ _ _ (by simp [h1]) (by simp [h1, h2])]
  rfl
end Crc
theorem crc_MoreS (r : Int) (s : ByteArray) (hs : s.size ≤ maxLen) (h0 : 0 ≤ r) (h1 : r ≤ 4294967295) (w : World) :
    Calls Try.prog 12 #[.int .u32 r, .string s] w fun e w' => e = .returned (.int .u32 (un (Crc.moreS (v32 r) s))) ∧ w = w' := crc_More r s hs h0 h1 w
end Go.Proofs.Ytlkaamednhpdcaa
