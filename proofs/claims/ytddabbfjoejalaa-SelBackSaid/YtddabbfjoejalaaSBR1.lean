/-
  The walks of the document's answer, first part: Is, Check, All, Of.
-/
import Derived.Test.YtddabbfjoejalaaSB3
namespace Go.Proofs.Ytddabbfjoejalaa
open Go.RowKit
open Bits Mv
set_option maxRecDepth 20000
set_option linter.unusedVariables false
set_option linter.unusedSimpArgs false
namespace Bits
theorem is_val (B : List UInt8) (i : Int) (h0 : 0 ≤ i) : (0 ≤ nb (at8 B (i / 8).toNat) / 2 ^ (7 - i % 8).toNat) ∧ decide (nb (at8 B (i / 8).toNat) / 2 ^ (7 - i % 8).toNat % 2 = 1) = isBit B i.toNat := by
  have e1 : (i / 8).toNat = i.toNat / 8 := by omega
  have e2 : (7 - i % 8).toNat = 7 - i.toNat % 8 := by omega
  have e3 : nb (at8 B (i.toNat / 8)) / 2 ^ (7 - i.toNat % 8) = (((at8 B (i.toNat / 8)).toNat / 2 ^ (7 - i.toNat % 8) : Nat) : Int) := by rw [nb_byte]; simp
  rw [e1, e2, e3]
  refine ⟨Int.natCast_nonneg _, ?_⟩
  unfold isBit
  rw [Bool.eq_iff_iff]
  simp only [decide_eq_true_eq, beq_iff_eq]
  omega
def bl (L : List Bool) : List Value := L.map fun b => .bool b
theorem bl_length (L : List Bool) : (bl L).length = L.length := by simp [bl]
theorem upto_succ (B : List UInt8) (n : Nat) : upto B (n + 1) = upto B n ++ [isBit B n] := by simp [upto, List.range_succ]
/-- The first i bits of a list, and nothing behind. -/
def msk (L : List Bool) (i : Nat) : List Bool := L.take i ++ List.replicate (L.length - i) false
theorem msk_length (L : List Bool) (i : Nat) (h : i ≤ L.length) : (msk L i).length = L.length := by simp [msk]; omega
theorem msk_all (L : List Bool) : msk L L.length = L := by simp [msk]
theorem msk_get (L : List Bool) (i k : Nat) (h : k < L.length) : (msk L i)[k]? = some (if k < i then L.getD k false else false) := by
  unfold msk
  by_cases hk : k < i
  · rw [List.getElem?_append_left (by simp; omega), List.getElem?_take_of_lt hk, if_pos hk]; simp [List.getD, List.getElem?_eq_getElem h]
  · rw [List.getElem?_append_right (by simp; omega), if_neg hk, List.getElem?_replicate, if_pos (by simp; omega)]
theorem msk_skip (L : List Bool) (i : Nat) (h : i < L.length) (hb : L.getD i false = false) : msk L (i + 1) = msk L i := by
  apply List.ext_getElem?
  intro k
  by_cases hk : k < L.length
  · rw [msk_get _ _ _ hk, msk_get _ _ _ hk]
    by_cases e : k = i
    · subst e; rw [if_pos (by omega), if_neg (by omega), hb]
    · by_cases h1 : k < i
      · rw [if_pos (by omega), if_pos h1]
      · rw [if_neg (by omega), if_neg h1]
  · rw [List.getElem?_eq_none (by rw [msk_length _ _ (by omega)]; omega), List.getElem?_eq_none (by rw [msk_length _ _ (by omega)]; omega)]
theorem msk_flip (L : List Bool) (i : Nat) (h : i < L.length) (hb : L.getD i false = true) : msk L (i + 1) = flip (msk L i) i := by
  have hi : (msk L i).getD i false = false := by simp [List.getD, msk_get _ _ _ h]
  apply List.ext_getElem?
  intro k
  unfold flip
  rw [hi, List.getElem?_set]
  by_cases hk : k < L.length
  · rw [msk_get _ _ _ hk, msk_get _ _ _ hk]
    by_cases e : i = k
    · subst e; rw [if_pos (by omega), if_pos rfl, hb, if_pos (by rw [msk_length _ _ (by omega)]; exact h)]; rfl
    · rw [if_neg e]
      by_cases h1 : k < i
      · rw [if_pos (by omega), if_pos h1]
      · rw [if_neg (by omega), if_neg h1]
  · rw [List.getElem?_eq_none (by rw [msk_length _ _ (by omega)]; omega), if_neg (by omega), List.getElem?_eq_none (by rw [msk_length _ _ (by omega)]; omega)]
theorem add_bit (c : UInt8) (t : Nat) (ht : t < 8) (h : (c.toNat / 2 ^ t % 2 == 1) = false) : IntKind.u8.wrap (nb c + nb (mask t)) = nb (c ^^^ mask t) := by
  have key : ∀ (x : Fin 256) (u : Fin 8), (x.val / 2 ^ u.val % 2 == 1) = false → (x.val ^^^ 2 ^ u.val) = x.val + 2 ^ u.val ∧ x.val + 2 ^ u.val < 256 := by decide +kernel
  obtain ⟨h1, h2⟩ := key ⟨c.toNat, c.toNat_lt⟩ ⟨t, ht⟩ h
  have h1 : c.toNat ^^^ 2 ^ t = c.toNat + 2 ^ t := h1
  have h2 : c.toNat + 2 ^ t < 256 := h2
  rw [nb_byte, nb_byte, nb_byte, UInt8.toNat_xor, mask_nat t ht, h1, IntWalk.u8_in _ (by omega)]
  omega
theorem of_step (L : List Bool) (i : Nat) (h : i < L.length) (hb : L.getD i false = true) :
    IntKind.u8.wrap (nb (at8 (pack (msk L i)) (i / 8)) + nb (mask (7 - i % 8))) = nb (at8 (pack (msk L i)) (i / 8) ^^^ mask (7 - i % 8)) ∧ (pack (msk L i)).set (i / 8) (at8 (pack (msk L i)) (i / 8) ^^^ mask (7 - i % 8)) = pack (msk L (i + 1)) := by
  have hl := msk_length L i (by omega)
  constructor
  · refine add_bit _ _ (by omega) ?_
    have := isBit_pack (msk L i) i (by rw [hl]; omega)
    rw [msk_get _ _ _ h, if_neg (by omega)] at this
    exact this
  · have hR := right_pack (msk L i)
    rw [hl] at hR
    have h9 := upto_pack (msk L i)
    rw [hl] at h9
    rw [turn_bytes _ L.length i hR h, h9, msk_flip L i h hb]
theorem pack_zero (L : List Bool) : pack (msk L 0) = List.replicate ((L.length + 7) / 8) 0 := by
  have e : msk L 0 = List.replicate L.length false := by simp [msk]
  rw [e]
  refine at8_ext (by simp [pack_length]) fun k hk => ?_
  simp only [pack_length, List.length_replicate] at hk
  apply byte_ext
  intro j hj
  have h1 := isBit_pack (List.replicate L.length false) (8 * k + j) (by simp; omega)
  have h2 : ((List.replicate L.length false)[8 * k + j]?).getD false = false := by
    rw [List.getElem?_replicate]; split <;> rfl
  rw [h2] at h1
  unfold isBit at h1
  rw [show (8 * k + j) / 8 = k from by omega, show (8 * k + j) % 8 = j from by omega] at h1
  rw [h1, at8_get _ _ (by simpa using hk)]
  simp
end Bits
set_option maxHeartbeats 400000 in
theorem refV_Is (s : ByteArray) (N i : Int) (S : Mem) (h0 : 0 ≤ i) (h1 : i < 8 * s.size) (hs : s.size ≤ 281474976710656) :
    ACall Try.prog 68 #[.agg #[.string s, .int .i64 N], .int .i64 i] S fun r S' => r = .bool (isBit s.data.toList i.toNat) ∧ S' = S := by
  obtain ⟨hp, hd⟩ := is_val s.data.toList i h0
  refine ACall.enter (args := [.agg #[.string s, .int .i64 N], .int .i64 i]) (rs := [.tmp 4]) 17 [(0, .agg #[.string s, .int .i64 N]), (1, .int .i64 i)] Try.func68 rfl rfl (Nat.le_of_ble_eq_true rfl) rfl ⟨rfl, rfl, trivial⟩ ?_
  refine AWP.seq ?_
  refine AWP.region ?_
  refine ARun.boxA (cs := [_, _]) (lit_lt rfl) rfl ?_
  intro b2 f2
  have g2 := f2
  repeat ((with_reducible replace g2 := fresh_set g2); obtain ⟨g2, _⟩ := g2)
  (try simp only [List.length_cons, List.length_nil, Nat.zero_add, Nat.reduceAdd])
  refine rC (Calm.assign rfl) ?_
  refine arun_nil ?_
  refine athen_n ?_
  refine AWP.seq ?_
  refine AWP.region ?_
  refine rC (Calm.fieldAddr ty_field_47_0 rfl) ?_
  refine rC (ld_ ty_plain_9 rfl) ?_
  refine rC (Calm.move rfl) ?_
  refine rC (Calm.bin rfl rfl b_quo_i64) ?_
  refine rC ((by first | exact Calm.indexStrN (strT_spec ty_str_9) rfl rfl (by omega) | exact Calm.indexStr (strT_spec ty_str_9) rfl rfl (by omega) (by omega))) ?_
  refine rC (Calm.move rfl) ?_
  refine rC (Calm.bin rfl rfl b_rem) ?_
  refine rC (Calm.bin rfl rfl b_sub_i64) ?_
  refine rC (Calm.conv rfl (by first | exact conv_intW Try.underlying3 Try.underlying105 (IntWalk.u64_in _ (by omega)) | exact conv_int Try.underlying3 Try.underlying105)) ?_
  refine rC (Calm.bin rfl rfl b_shr) ?_
  refine rC (Calm.bin rfl rfl b_rem) ?_
  refine rC (Calm.bin rfl rfl b_eql) ?_
  refine rC (Calm.assign rfl) ?_
  refine arun_nil ?_
  refine athen_n ?_
  refine AWP.sub [(0, _), (1, _), (2, _), (4, _)] ⟨rfl, rfl, rfl, rfl, trivial⟩ ?_
  refine AWP.ret ?_
  refine ⟨_, S, ⟨_, _, rfl, rfl, rfl⟩, less_, ?_⟩
  exact ⟨by rw [← hd]; rfl, rfl⟩
set_option maxHeartbeats 1000000 in
theorem refV_Check (s : ByteArray) (N : Int) (S : Mem) (hs : s.size ≤ 9223372036854775807) :
    ACall Try.prog 58 #[.agg #[.string s, .int .i64 N]] S fun r S' => r = .int .i64 (chk s.data.toList N) ∧ S' = S := by
  by_cases h1 : N < 0
  · rw [chk_no (fun h => by have := h.1; omega)]
    refine ACall.enter (args := [.agg #[.string s, .int .i64 N]]) (rs := [.tmp 2]) 35 [(0, .agg #[.string s, .int .i64 N])] Try.func58 rfl rfl (Nat.le_of_ble_eq_true rfl) rfl ⟨rfl, trivial⟩ ?_
    refine AWP.seq ?_
    refine AWP.region ?_
    refine ARun.boxA (cs := [_, _]) (lit_lt rfl) rfl ?_
    intro b1 f1
    have g1 := f1
    repeat ((with_reducible replace g1 := fresh_set g1); obtain ⟨g1, _⟩ := g1)
    (try simp only [List.length_cons, List.length_nil, Nat.zero_add, Nat.reduceAdd])
    refine rC (Calm.assign rfl) ?_
    refine arun_nil ?_
    refine athen_n ?_
    refine AWP.seq ?_
    refine AWP.seq ?_
    refine AWP.region ?_
    refine rC (Calm.fieldAddr ty_field_47_1 rfl) ?_
    refine rC (ld_ ty_plain_3 rfl) ?_
    refine rC (Calm.bin rfl rfl b_lss) ?_
    refine rC (Calm.move rfl) ?_
    first | refine rS 7 ?_ | refine rU 7 ?_ | refine rG 7 (Calm.fieldAddr ty_field_47_1 rfl) ?_
    first | refine rS 7 ?_ | refine rU 7 ?_ | refine rG 7 (ld_ ty_plain_3 rfl) ?_
    first | refine rS 7 ?_ | refine rU 7 ?_ | refine rG 7 (Calm.bin rfl rfl b_gtr) ?_
    refine rC ((by first | exact Calm.pickT rfl rfl | exact Calm.pickF rfl rfl)) ?_
    refine rC (Calm.move rfl) ?_
    first | refine rS 12 ?_ | refine rU 12 ?_ | refine rG 12 (Calm.fieldAddr ty_field_47_0 rfl) ?_
    first | refine rS 12 ?_ | refine rU 12 ?_ | refine rG 12 (ld_ ty_plain_9 rfl) ?_
    first | refine rS 12 ?_ | refine rU 12 ?_ | refine rG 12 (Calm.lenStr (strT_spec ty_str_9) rfl) ?_
    first | refine rS 12 ?_ | refine rU 12 ?_ | refine rG 12 (Calm.fieldAddr ty_field_47_1 rfl) ?_
    first | refine rS 12 ?_ | refine rU 12 ?_ | refine rG 12 (ld_ ty_plain_3 rfl) ?_
    first | refine rS 12 ?_ | refine rU 12 ?_ | refine rG 12 (Calm.bin rfl rfl b_add_i64) ?_
    first | refine rS 12 ?_ | refine rU 12 ?_ | refine rG 12 (Calm.bin rfl rfl b_quo_i64) ?_
    first | refine rS 12 ?_ | refine rU 12 ?_ | refine rG 12 (Calm.bin rfl rfl b_neq) ?_
    refine rC ((by first | exact Calm.pickT rfl rfl | exact Calm.pickF rfl rfl)) ?_
    refine arun_nil ?_
    refine athen_n ?_
    refine AWP.sub [(0, _), (1, _), (2, _), (21, _)] ⟨rfl, rfl, rfl, rfl, trivial⟩ ?_
    refine AWP.condT rfl (by first | rfl | (simp; done) | (simp; omega)) ?_
    refine AWP.seq ?_
    refine AWP.region ?_
    refine rC (Calm.assign rfl) ?_
    refine arun_nil ?_
    refine athen_n ?_
    refine AWP.ret ?_
    refine athen_ret ?_
    refine ⟨_, S, ⟨_, _, rfl, rfl, rfl⟩, less_, ?_⟩
    exact ⟨rfl, rfl⟩
  by_cases h2 : 1048576 < N
  · rw [chk_no (fun h => by have := h.2.1; omega)]
    refine ACall.enter (args := [.agg #[.string s, .int .i64 N]]) (rs := [.tmp 2]) 35 [(0, .agg #[.string s, .int .i64 N])] Try.func58 rfl rfl (Nat.le_of_ble_eq_true rfl) rfl ⟨rfl, trivial⟩ ?_
    refine AWP.seq ?_
    refine AWP.region ?_
    refine ARun.boxA (cs := [_, _]) (lit_lt rfl) rfl ?_
    intro b1 f1
    have g1 := f1
    repeat ((with_reducible replace g1 := fresh_set g1); obtain ⟨g1, _⟩ := g1)
    (try simp only [List.length_cons, List.length_nil, Nat.zero_add, Nat.reduceAdd])
    refine rC (Calm.assign rfl) ?_
    refine arun_nil ?_
    refine athen_n ?_
    refine AWP.seq ?_
    refine AWP.seq ?_
    refine AWP.region ?_
    refine rC (Calm.fieldAddr ty_field_47_1 rfl) ?_
    refine rC (ld_ ty_plain_3 rfl) ?_
    refine rC (Calm.bin rfl rfl b_lss) ?_
    refine rC (Calm.move rfl) ?_
    first | refine rS 7 ?_ | refine rU 7 ?_ | refine rG 7 (Calm.fieldAddr ty_field_47_1 rfl) ?_
    first | refine rS 7 ?_ | refine rU 7 ?_ | refine rG 7 (ld_ ty_plain_3 rfl) ?_
    first | refine rS 7 ?_ | refine rU 7 ?_ | refine rG 7 (Calm.bin rfl rfl b_gtr) ?_
    refine rC ((by first | exact Calm.pickT rfl rfl | exact Calm.pickF rfl rfl)) ?_
    refine rC (Calm.move rfl) ?_
    first | refine rS 12 ?_ | refine rU 12 ?_ | refine rG 12 (Calm.fieldAddr ty_field_47_0 rfl) ?_
    first | refine rS 12 ?_ | refine rU 12 ?_ | refine rG 12 (ld_ ty_plain_9 rfl) ?_
    first | refine rS 12 ?_ | refine rU 12 ?_ | refine rG 12 (Calm.lenStr (strT_spec ty_str_9) rfl) ?_
    first | refine rS 12 ?_ | refine rU 12 ?_ | refine rG 12 (Calm.fieldAddr ty_field_47_1 rfl) ?_
    first | refine rS 12 ?_ | refine rU 12 ?_ | refine rG 12 (ld_ ty_plain_3 rfl) ?_
    first | refine rS 12 ?_ | refine rU 12 ?_ | refine rG 12 (Calm.bin rfl rfl b_add_i64) ?_
    first | refine rS 12 ?_ | refine rU 12 ?_ | refine rG 12 (Calm.bin rfl rfl b_quo_i64) ?_
    first | refine rS 12 ?_ | refine rU 12 ?_ | refine rG 12 (Calm.bin rfl rfl b_neq) ?_
    refine rC ((by first | exact Calm.pickT rfl rfl | exact Calm.pickF rfl rfl)) ?_
    refine arun_nil ?_
    refine athen_n ?_
    refine AWP.sub [(0, _), (1, _), (2, _), (21, _)] ⟨rfl, rfl, rfl, rfl, trivial⟩ ?_
    refine AWP.condT rfl (by first | rfl | (simp; done) | (simp; omega)) ?_
    refine AWP.seq ?_
    refine AWP.region ?_
    refine rC (Calm.assign rfl) ?_
    refine arun_nil ?_
    refine athen_n ?_
    refine AWP.ret ?_
    refine athen_ret ?_
    refine ⟨_, S, ⟨_, _, rfl, rfl, rfl⟩, less_, ?_⟩
    exact ⟨rfl, rfl⟩
  have hsz := size_list s
  by_cases h3 : (s.size : Int) = (N + 7) / 8
  · obtain ⟨n, rfl⟩ : ∃ n : Nat, N = n := ⟨N.toNat, by omega⟩
    refine ACall.enter (args := [.agg #[.string s, .int .i64 n]]) (rs := [.tmp 2]) 35 [(0, .agg #[.string s, .int .i64 n])] Try.func58 rfl rfl (Nat.le_of_ble_eq_true rfl) rfl ⟨rfl, trivial⟩ ?_
    refine AWP.seq ?_
    refine AWP.region ?_
    refine ARun.boxA (cs := [_, _]) (lit_lt rfl) rfl ?_
    intro b1 f1
    have g1 := f1
    repeat ((with_reducible replace g1 := fresh_set g1); obtain ⟨g1, _⟩ := g1)
    (try simp only [List.length_cons, List.length_nil, Nat.zero_add, Nat.reduceAdd])
    refine rC (Calm.assign rfl) ?_
    refine arun_nil ?_
    refine athen_n ?_
    refine AWP.seq ?_
    refine AWP.seq ?_
    refine AWP.region ?_
    refine rC (Calm.fieldAddr ty_field_47_1 rfl) ?_
    refine rC (ld_ ty_plain_3 rfl) ?_
    refine rC (Calm.bin rfl rfl b_lss) ?_
    refine rC (Calm.move rfl) ?_
    first | refine rS 7 ?_ | refine rU 7 ?_ | refine rG 7 (Calm.fieldAddr ty_field_47_1 rfl) ?_
    first | refine rS 7 ?_ | refine rU 7 ?_ | refine rG 7 (ld_ ty_plain_3 rfl) ?_
    first | refine rS 7 ?_ | refine rU 7 ?_ | refine rG 7 (Calm.bin rfl rfl b_gtr) ?_
    refine rC ((by first | exact Calm.pickT rfl rfl | exact Calm.pickF rfl rfl)) ?_
    refine rC (Calm.move rfl) ?_
    first | refine rS 12 ?_ | refine rU 12 ?_ | refine rG 12 (Calm.fieldAddr ty_field_47_0 rfl) ?_
    first | refine rS 12 ?_ | refine rU 12 ?_ | refine rG 12 (ld_ ty_plain_9 rfl) ?_
    first | refine rS 12 ?_ | refine rU 12 ?_ | refine rG 12 (Calm.lenStr (strT_spec ty_str_9) rfl) ?_
    first | refine rS 12 ?_ | refine rU 12 ?_ | refine rG 12 (Calm.fieldAddr ty_field_47_1 rfl) ?_
    first | refine rS 12 ?_ | refine rU 12 ?_ | refine rG 12 (ld_ ty_plain_3 rfl) ?_
    first | refine rS 12 ?_ | refine rU 12 ?_ | refine rG 12 (Calm.bin rfl rfl b_add_i64) ?_
    first | refine rS 12 ?_ | refine rU 12 ?_ | refine rG 12 (Calm.bin rfl rfl b_quo_i64) ?_
    first | refine rS 12 ?_ | refine rU 12 ?_ | refine rG 12 (Calm.bin rfl rfl b_neq) ?_
    refine rC ((by first | exact Calm.pickT rfl rfl | exact Calm.pickF rfl rfl)) ?_
    refine arun_nil ?_
    refine athen_n ?_
    refine AWP.sub [(0, _), (1, _), (2, _), (21, _)] ⟨rfl, rfl, rfl, rfl, trivial⟩ ?_
    refine AWP.condF rfl (by first | rfl | (simp; done) | (simp; omega)) ?_
    refine AWP.skip ?_
    refine athen_n ?_
    refine AWP.seq ?_
    refine AWP.seq ?_
    refine AWP.region ?_
    refine rC (Calm.fieldAddr ty_field_47_1 rfl) ?_
    refine rC (ld_ ty_plain_3 rfl) ?_
    refine rC (Calm.assign rfl) ?_
    refine arun_nil ?_
    refine athen_n ?_
    refine AWP.sub [(0, _), (1, _), (2, _), (21, _), (3, _)] ⟨rfl, rfl, rfl, rfl, rfl, trivial⟩ ?_
    refine AWP.block ?_
    refine AWP.loop (X := Nat) (fun x => [(1, .pointer (some ⟨b1, 0, none⟩)), (3, .int .i64 x)]) (fun x => S.set b1 ⟨47, [.string s, .int .i64 n], 2⟩) (fun x => n ≤ x ∧ ∀ k, n ≤ k → k < x → isBit s.data.toList k = false) (fun x => 8 * s.size - x) (n) ⟨rfl, rfl, trivial⟩ less_ (⟨Nat.le_refl _, fun k a b => by omega⟩) ?_
    rintro k ⟨hk, hb⟩
    (try dsimp only at *)
    refine AWP.seq ?_
    refine AWP.seq ?_
    refine AWP.region ?_
    refine rC (Calm.move rfl) ?_
    refine rC (Calm.fieldAddr ty_field_47_0 rfl) ?_
    refine rC (ld_ ty_plain_9 rfl) ?_
    refine rC (Calm.lenStr (strT_spec ty_str_9) rfl) ?_
    refine rC (Calm.bin rfl rfl b_mul_i64) ?_
    refine rC (Calm.bin rfl rfl b_lss) ?_
    refine arun_nil ?_
    refine athen_n ?_
    refine AWP.sub [(1, _), (3, _), (29, _)] ⟨rfl, rfl, rfl, trivial⟩ ?_
    refine AWP.condB rfl (fun hl => ?_) (fun hl => ?_)
    · have hl : k < 8 * s.size := by have := of_decide_eq_true hl; omega
      refine AWP.skip ?_
      refine athen_n ?_
      refine AWP.seq ?_
      refine AWP.block ?_
      refine AWP.seq ?_
      refine AWP.region ?_
      refine rC (ldA_ (cs := [_, _]) ty_agg_47 ty_size_47 rfl) ?_
      refine rC (Calm.move rfl) ?_
      refine ARun.call (lit_lt rfl) go_68 rfl (refV_Is s n k _ (by omega) (by omega) (by omega)) ?_
      rintro _ _ ⟨rfl, rfl⟩
      rw [Int.toNat_natCast]
      refine arun_nil ?_
      refine athen_n ?_
      refine AWP.sub [(1, _), (3, _), (29, _), (34, _)] ⟨rfl, rfl, rfl, rfl, trivial⟩ ?_
      refine AWP.condB rfl (fun hx => ?_) (fun hx => ?_)
      · refine AWP.seq ?_
        refine AWP.region ?_
        refine rC (Calm.assign rfl) ?_
        refine arun_nil ?_
        refine athen_n ?_
        refine AWP.ret ?_
        refine ain_ret ?_
        refine athen_ret ?_
        refine athen_ret ?_
        refine ain_ret ?_
        refine athen_ret ?_
        refine ⟨_, S, ⟨_, _, rfl, rfl, rfl⟩, less_, ?_⟩
        exact ⟨by rw [chk_no (fun h => by have := h.2.2.2 k (by omega) (by omega); rw [this] at hx; cases hx)]; rfl, rfl⟩
      · refine AWP.skip ?_
        refine ain_n ?_
        refine athen_n ?_
        refine AWP.region ?_
        refine rC (Calm.move rfl) ?_
        refine rC (Calm.bin rfl rfl b_add_i64) ?_
        refine rC (Calm.assign rfl) ?_
        refine arun_nil ?_
        refine athen_n ?_
        refine ⟨k + 1, ?_, ?_, ?_, ?_⟩
        all_goals (try dsimp only)
        · exact ⟨rfl, some_int (by omega), trivial⟩
        · exact Mem.Less.refl _
        · exact ⟨by omega, fun j a b => by by_cases e : j = k; rw [e]; exact hx; exact hb j a (by omega)⟩
        · omega
    · have hl : 8 * s.size ≤ k := by have := of_decide_eq_false hl; omega
      refine AWP.exit ?_
      refine athen_exit ?_
      refine athen_exit ?_
      refine ain_same ?_
      refine athen_n ?_
      refine AWP.seq ?_
      refine AWP.region ?_
      refine rC (Calm.assign rfl) ?_
      refine arun_nil ?_
      refine athen_n ?_
      refine AWP.ret ?_
      refine ⟨_, S, ⟨_, _, rfl, rfl, rfl⟩, less_, ?_⟩
      exact ⟨by rw [chk_yes ⟨by omega, by omega, by omega, fun j a b => hb j (by omega) (by omega)⟩]; rfl, rfl⟩
  · rw [chk_no (fun h => h3 (by have := h.2.2.1; omega))]
    refine ACall.enter (args := [.agg #[.string s, .int .i64 N]]) (rs := [.tmp 2]) 35 [(0, .agg #[.string s, .int .i64 N])] Try.func58 rfl rfl (Nat.le_of_ble_eq_true rfl) rfl ⟨rfl, trivial⟩ ?_
    refine AWP.seq ?_
    refine AWP.region ?_
    refine ARun.boxA (cs := [_, _]) (lit_lt rfl) rfl ?_
    intro b1 f1
    have g1 := f1
    repeat ((with_reducible replace g1 := fresh_set g1); obtain ⟨g1, _⟩ := g1)
    (try simp only [List.length_cons, List.length_nil, Nat.zero_add, Nat.reduceAdd])
    refine rC (Calm.assign rfl) ?_
    refine arun_nil ?_
    refine athen_n ?_
    refine AWP.seq ?_
    refine AWP.seq ?_
    refine AWP.region ?_
    refine rC (Calm.fieldAddr ty_field_47_1 rfl) ?_
    refine rC (ld_ ty_plain_3 rfl) ?_
    refine rC (Calm.bin rfl rfl b_lss) ?_
    refine rC (Calm.move rfl) ?_
    first | refine rS 7 ?_ | refine rU 7 ?_ | refine rG 7 (Calm.fieldAddr ty_field_47_1 rfl) ?_
    first | refine rS 7 ?_ | refine rU 7 ?_ | refine rG 7 (ld_ ty_plain_3 rfl) ?_
    first | refine rS 7 ?_ | refine rU 7 ?_ | refine rG 7 (Calm.bin rfl rfl b_gtr) ?_
    refine rC ((by first | exact Calm.pickT rfl rfl | exact Calm.pickF rfl rfl)) ?_
    refine rC (Calm.move rfl) ?_
    first | refine rS 12 ?_ | refine rU 12 ?_ | refine rG 12 (Calm.fieldAddr ty_field_47_0 rfl) ?_
    first | refine rS 12 ?_ | refine rU 12 ?_ | refine rG 12 (ld_ ty_plain_9 rfl) ?_
    first | refine rS 12 ?_ | refine rU 12 ?_ | refine rG 12 (Calm.lenStr (strT_spec ty_str_9) rfl) ?_
    first | refine rS 12 ?_ | refine rU 12 ?_ | refine rG 12 (Calm.fieldAddr ty_field_47_1 rfl) ?_
    first | refine rS 12 ?_ | refine rU 12 ?_ | refine rG 12 (ld_ ty_plain_3 rfl) ?_
    first | refine rS 12 ?_ | refine rU 12 ?_ | refine rG 12 (Calm.bin rfl rfl b_add_i64) ?_
    first | refine rS 12 ?_ | refine rU 12 ?_ | refine rG 12 (Calm.bin rfl rfl b_quo_i64) ?_
    first | refine rS 12 ?_ | refine rU 12 ?_ | refine rG 12 (Calm.bin rfl rfl b_neq) ?_
    refine rC ((by first | exact Calm.pickT rfl rfl | exact Calm.pickF rfl rfl)) ?_
    refine arun_nil ?_
    refine athen_n ?_
    refine AWP.sub [(0, _), (1, _), (2, _), (21, _)] ⟨rfl, rfl, rfl, rfl, trivial⟩ ?_
    refine AWP.condT rfl (by first | rfl | (simp; done) | (simp; omega)) ?_
    refine AWP.seq ?_
    refine AWP.region ?_
    refine rC (Calm.assign rfl) ?_
    refine arun_nil ?_
    refine athen_n ?_
    refine AWP.ret ?_
    refine athen_ret ?_
    refine ⟨_, S, ⟨_, _, rfl, rfl, rfl⟩, less_, ?_⟩
    exact ⟨rfl, rfl⟩
end Go.Proofs.Ytddabbfjoejalaa
