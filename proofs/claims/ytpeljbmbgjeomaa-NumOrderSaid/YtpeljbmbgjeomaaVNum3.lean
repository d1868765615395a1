/-
  Num: short bytes, of the program and of the document.
-/
import Derived.Test.YtpeljbmbgjeomaaVNum2
import Derived.Test.YtpeljbmbgjeomaaNumMath2
namespace Go.Proofs.Ytpeljbmbgjeomaa
open Go.RowKit
open Mv Num
set_option linter.unusedVariables false
set_option linter.unusedSimpArgs false
theorem cellsB_snoc (l : List UInt8) (c : UInt8) : cellsB (l ++ [c]) = cellsB l ++ [.int .u8 (nb c)] := by rw [cellsB_append]; rfl
namespace Num
/-- An array of six bytes, of which these are written. -/
def arr (pre : List UInt8) : List Value := cellsB pre ++ List.replicate (6 - pre.length) (.int .u8 0)
theorem arr_length (pre : List UInt8) (h : pre.length ≤ 6) : (arr pre).length = 6 := by simp [arr, cellsB_length]; omega
theorem arr_set (pre : List UInt8) (c : UInt8) (h : pre.length < 6) : (arr pre).set pre.length (.int .u8 (nb c)) = arr (pre ++ [c]) := by
  unfold arr
  obtain ⟨m, hm⟩ : ∃ m, 6 - pre.length = m + 1 := ⟨5 - pre.length, by omega⟩
  rw [hm, List.set_append_right _ _ (by rw [cellsB_length]; omega), cellsB_length, Nat.sub_self, List.replicate_succ, List.set_cons_zero, cellsB_append, List.append_assoc]
  congr 1
  simp only [List.length_append, List.length_singleton, show 6 - (pre.length + 1) = m from by omega]
  rfl
theorem arr_prefix (pre : List UInt8) : cellsB pre <+: arr pre := List.prefix_append _ _
end Num
set_option maxHeartbeats 1000000 in
theorem numV_Short (n : Nat) (S : Mem) (hn : n < 18446744073709551616) :
    ACall Try.prog 36 #[.int .u64 n] S fun r S' => r = pairV (shortP n) ∧ S' = S := by
  unfold shortP
  by_cases h : n < top
  · rw [if_pos h]
    have h0 := h
    unfold top at h
    refine ACall.enter (args := [.int .u64 n]) (rs := [.tmp 2, .tmp 3]) 27 [(0, .int .u64 n)] Try.func36 rfl rfl (Nat.le_of_ble_eq_true rfl) rfl ⟨rfl, trivial⟩ ?_
    refine AWP.seq ?_
    refine AWP.region ?_
    refine rC (Calm.assign rfl) ?_
    refine rC (Calm.assign rfl) ?_
    refine arun_nil ?_
    refine athen_n ?_
    refine AWP.seq ?_
    refine AWP.seq ?_
    refine AWP.region ?_
    refine rC (Calm.move rfl) ?_
    refine rC (Calm.bin rfl rfl b_geq) ?_
    refine arun_nil ?_
    refine athen_n ?_
    refine AWP.sub [(0, _), (2, _), (3, _), (7, _)] ⟨rfl, rfl, rfl, rfl, trivial⟩ ?_
    refine AWP.condF rfl (by first | rfl | (simp; done) | (simp; omega)) ?_
    refine AWP.skip ?_
    refine athen_n ?_
    refine AWP.seq ?_
    refine AWP.region ?_
    refine ARun.alloc (lit_lt rfl) ty_zero_78 ?_
    intro b4 f4
    have g4 := f4
    repeat ((with_reducible replace g4 := fresh_set g4); obtain ⟨g4, _⟩ := g4)
    (try simp only [List.length_cons, List.length_nil, Nat.zero_add, Nat.reduceAdd])
    refine arun_nil ?_
    refine athen_n ?_
    refine AWP.seq ?_
    refine AWP.region ?_
    refine rC (Calm.assign rfl) ?_
    refine arun_nil ?_
    refine athen_n ?_
    refine AWP.seq ?_
    refine AWP.block ?_
    refine AWP.loop (X := Nat × List UInt8) (fun x => [(0, .int .u64 (x.1 : Nat)), (4, .pointer (some ⟨b4, 0, none⟩)), (5, .int .i64 (x.2.length : Nat))]) (fun x => S.set b4 ⟨78, arr x.2, 6⟩) (fun x => ShJ n x.1 x.2) (fun x => x.1) ((n, [])) ⟨rfl, rfl, rfl, trivial⟩ (Mem.Less.refl _) (ShJ.start h0) ?_
    rintro ⟨m, pre⟩ hk
    (try dsimp only at *)
    have hm := hk.small
    have hp5 := hk.few
    have hor := or128 m hm
    have hlen := arr_length pre (by omega)
    refine AWP.seq ?_
    refine AWP.seq ?_
    refine AWP.region ?_
    refine rC (Calm.move rfl) ?_
    refine rC (Calm.bin rfl rfl b_geq) ?_
    refine arun_nil ?_
    refine athen_n ?_
    refine AWP.sub [(0, _), (4, _), (5, _), (9, _)] ⟨rfl, rfl, rfl, rfl, trivial⟩ ?_
    refine AWP.condB rfl (fun hl => ?_) (fun hl => ?_)
    · have hl : 128 ≤ m := by have := of_decide_eq_true hl; omega
      obtain ⟨hk5, hk2⟩ := hk.step hl
      refine AWP.skip ?_
      refine athen_n ?_
      refine AWP.seq ?_
      refine AWP.block ?_
      refine AWP.seq ?_
      refine AWP.region ?_
      refine rC (Calm.move rfl) ?_
      refine rC (Calm.move rfl) ?_
      refine rC (Calm.bin rfl rfl (bin_or _ _)) ?_
      refine rC (Calm.conv rfl (conv_intW Try.underlying24 Try.underlying5 hor)) ?_
      refine rC (Calm.indexP Try.underlying78 ty_size_5 rfl rfl (by omega) (by omega)) ?_
      refine ARun.store1 rfl rfl ty_size_5 rfl own_ lens_ rfl ?_
      (try simp only [Mem.set_set, List.set_cons_zero, List.set_cons_succ, Nat.zero_add, Nat.reduceAdd])
      refine arun_nil ?_
      refine athen_n ?_
      refine AWP.sub [(0, _), (4, _), (5, _), (9, _)] ⟨rfl, rfl, rfl, rfl, trivial⟩ ?_
      simp only [Nat.zero_add, Nat.mul_one, Int.toNat_natCast, arr_set pre _ (show pre.length < 6 by omega)]
      refine AWP.region ?_
      refine rC (Calm.move rfl) ?_
      refine rC (Calm.bin rfl rfl b_add_i64) ?_
      refine rC (Calm.assign rfl) ?_
      refine arun_nil ?_
      refine ain_n ?_
      refine athen_n ?_
      refine AWP.sub [(0, _), (4, _), (5, _), (9, _)] ⟨rfl, rfl, rfl, rfl, trivial⟩ ?_
      refine AWP.region ?_
      refine rC (Calm.move rfl) ?_
      refine rC (Calm.bin rfl rfl b_shr) ?_
      refine rC (Calm.assign rfl) ?_
      refine arun_nil ?_
      refine athen_n ?_
      refine ⟨(m / 128, pre ++ [UInt8.ofNat (m % 128 + 128)]), ?_, ?_, ?_, ?_⟩
      all_goals (try dsimp only)
      · exact ⟨rfl, rfl, some_int (by simp), trivial⟩
      · exact Mem.Less.refl _
      · exact hk2
      · exact Nat.div_lt_self (by omega) (by decide)
    · have hl : m < 128 := by have := of_decide_eq_false hl; omega
      have hlast := hk.last hl
      refine AWP.exit ?_
      refine athen_exit ?_
      refine athen_exit ?_
      refine ain_same ?_
      refine athen_n ?_
      refine AWP.seq ?_
      refine AWP.region ?_
      refine rC (Calm.move rfl) ?_
      refine rC (Calm.move rfl) ?_
      refine rC (Calm.conv rfl (conv_intW Try.underlying24 Try.underlying5 (u8_nat m))) ?_
      refine rC (Calm.indexP Try.underlying78 ty_size_5 rfl rfl (by omega) (by omega)) ?_
      refine ARun.store1 rfl rfl ty_size_5 rfl own_ lens_ rfl ?_
      (try simp only [Mem.set_set, List.set_cons_zero, List.set_cons_succ, Nat.zero_add, Nat.reduceAdd])
      refine arun_nil ?_
      refine athen_n ?_
      refine AWP.sub [(0, _), (4, _), (5, _), (9, _)] ⟨rfl, rfl, rfl, rfl, trivial⟩ ?_
      simp only [Nat.zero_add, Nat.mul_one, Int.toNat_natCast, arr_set pre _ (show pre.length < 6 by omega), hlast]
      have hll : (shortL 5 n).length = pre.length + 1 := by rw [← hlast]; simp
      refine AWP.seq ?_
      refine AWP.region ?_
      refine rC (Calm.move rfl) ?_
      refine rC (Calm.bin rfl rfl b_add_i64) ?_
      refine rC (Calm.sliceArr Try.underlying78 ty_size_5 rfl (bnd_some _ _ rfl (by omega) (by omega))) ?_
      refine rC (Calm.toStr (l := shortL 5 n) ty_bytes_63 ty_str_9 rfl (by omega) (rds_prefix (r := ⟨78, arr (shortL 5 n), 6⟩) own_ (arr_prefix _))) ?_
      refine rC (Calm.assign rfl) ?_
      refine rC (Calm.assign rfl) ?_
      refine arun_nil ?_
      refine athen_n ?_
      refine AWP.sub [(0, _), (4, _), (5, _), (9, _), (2, _), (3, _)] ⟨rfl, rfl, rfl, rfl, rfl, rfl, trivial⟩ ?_
      refine AWP.ret ?_
      refine ⟨_, S, ⟨_, _, rfl, ⟨_, _, rfl, rfl, rfl⟩, rfl⟩, less_, ?_⟩
      exact ⟨rfl, rfl⟩
  · rw [if_neg h]
    unfold top at h
    refine ACall.enter (args := [.int .u64 n]) (rs := [.tmp 2, .tmp 3]) 27 [(0, .int .u64 n)] Try.func36 rfl rfl (Nat.le_of_ble_eq_true rfl) rfl ⟨rfl, trivial⟩ ?_
    refine AWP.seq ?_
    refine AWP.region ?_
    refine rC (Calm.assign rfl) ?_
    refine rC (Calm.assign rfl) ?_
    refine arun_nil ?_
    refine athen_n ?_
    refine AWP.seq ?_
    refine AWP.seq ?_
    refine AWP.region ?_
    refine rC (Calm.move rfl) ?_
    refine rC (Calm.bin rfl rfl b_geq) ?_
    refine arun_nil ?_
    refine athen_n ?_
    refine AWP.sub [(0, _), (2, _), (3, _), (7, _)] ⟨rfl, rfl, rfl, rfl, trivial⟩ ?_
    refine AWP.condT rfl (by first | rfl | (simp; done) | (simp; omega)) ?_
    refine AWP.seq ?_
    refine AWP.region ?_
    refine rC (Calm.assign rfl) ?_
    refine rC (Calm.assign rfl) ?_
    refine arun_nil ?_
    refine athen_n ?_
    refine AWP.ret ?_
    refine athen_ret ?_
    refine ⟨_, S, ⟨_, _, rfl, ⟨_, _, rfl, rfl, rfl⟩, rfl⟩, less_, ?_⟩
    exact ⟨rfl, rfl⟩
theorem byte_add (m : Nat) : IntKind.u8.wrap ((m : Int) % 128 + 128) = nb (UInt8.ofNat (m % 128 + 128)) := by rw [← u8_nat]; congr 1
set_option maxHeartbeats 1000000 in
theorem rnumV_Short (n : Nat) (S : Mem) (hn : n < 18446744073709551616) :
    ACall Try.prog 37 #[.int .u64 n] S fun r S' => r = pairV (shortP n) ∧ S' = S := by
  unfold shortP
  by_cases h : n < top
  · rw [if_pos h]
    have h0 := h
    unfold top at h
    refine ACall.enter (args := [.int .u64 n]) (rs := [.tmp 2, .tmp 3]) 24 [(0, .int .u64 n)] Try.func37 rfl rfl (Nat.le_of_ble_eq_true rfl) rfl ⟨rfl, trivial⟩ ?_
    refine AWP.seq ?_
    refine AWP.region ?_
    refine rC (Calm.assign rfl) ?_
    refine rC (Calm.assign rfl) ?_
    refine arun_nil ?_
    refine athen_n ?_
    refine AWP.seq ?_
    refine AWP.seq ?_
    refine AWP.region ?_
    refine rC (Calm.move rfl) ?_
    refine rC (Calm.bin rfl rfl b_geq) ?_
    refine arun_nil ?_
    refine athen_n ?_
    refine AWP.sub [(0, _), (2, _), (3, _), (6, _)] ⟨rfl, rfl, rfl, rfl, trivial⟩ ?_
    refine AWP.condF rfl (by first | rfl | (simp; done) | (simp; omega)) ?_
    refine AWP.skip ?_
    refine athen_n ?_
    refine AWP.seq ?_
    refine AWP.region ?_
    refine rC (Calm.assign rfl) ?_
    refine arun_nil ?_
    refine athen_n ?_
    refine AWP.seq ?_
    refine AWP.block ?_
    refine AWP.loop (X := Nat × List UInt8 × Option (Nat × Nat)) (fun x => [(0, .int .u64 (x.1 : Nat)), (4, outV x.2.2 x.2.1.length)]) (fun x => outM S x.2.2 5 (cellsB x.2.1)) (fun x => ShJ n x.1 x.2.1 ∧ OkO S x.2.2 x.2.1.length) (fun x => x.1) ((n, [], none)) ⟨rfl, rfl, trivial⟩ (Mem.Less.refl _) (⟨ShJ.start h0, okO_nil S⟩) ?_
    rintro ⟨m, pre, o⟩ ⟨hk, ho⟩
    (try dsimp only at *)
    have hm := hk.small
    have hp5 := hk.few
    have hadd := byte_add m
    refine AWP.seq ?_
    refine AWP.seq ?_
    refine AWP.region ?_
    refine rC (Calm.move rfl) ?_
    refine rC (Calm.bin rfl rfl b_gtr) ?_
    refine arun_nil ?_
    refine athen_n ?_
    refine AWP.sub [(0, _), (4, _), (8, _)] ⟨rfl, rfl, rfl, trivial⟩ ?_
    refine AWP.condB rfl (fun hl => ?_) (fun hl => ?_)
    · have hl : 128 ≤ m := by have := of_decide_eq_true hl; omega
      obtain ⟨hk5, hk2⟩ := hk.step hl
      refine AWP.skip ?_
      refine athen_n ?_
      refine AWP.block ?_
      refine AWP.seq ?_
      refine AWP.region ?_
      refine rC (Calm.move rfl) ?_
      refine rC (Calm.move rfl) ?_
      refine rC (Calm.bin rfl rfl b_rem) ?_
      refine rC (Calm.bin rfl rfl b_add_u64) ?_
      refine rC (Calm.conv rfl (conv_intW Try.underlying24 Try.underlying5 hadd)) ?_
      refine ARun.build1s (lit_lt rfl) ty_sl_63 rfl rfl ?_
      intro b14 f14
      have g14 := f14
      repeat ((with_reducible replace g14 := fresh_set g14); obtain ⟨g14, _⟩ := g14)
      refine ARun.appendO (lit_lt rfl) ty_sl_63 rfl (cellsB_length pre) (appO_of ho (cellsB_length pre) g14) rfl (news := [_]) rds_ rfl (by omega) (by simp [Value.oneCell']) (by omega) (by omega) ?_
      intro b15 c15 ho2
      refine rC (Calm.assign rfl) ?_
      refine arun_nil ?_
      refine athen_n ?_
      refine AWP.sub [(0, _), (4, _), (8, _)] ⟨rfl, rfl, rfl, trivial⟩ ?_
      refine AWP.region ?_
      refine rC (Calm.move rfl) ?_
      refine rC (Calm.bin rfl rfl b_quo_u64) ?_
      refine rC (Calm.assign rfl) ?_
      refine arun_nil ?_
      refine ain_n ?_
      refine athen_n ?_
      refine ⟨(m / 128, pre ++ [UInt8.ofNat (m % 128 + 128)], some (b15, c15)), ?_, ?_, ?_, ?_⟩
      all_goals (try dsimp only)
      · exact ⟨rfl, by rw [List.length_append]; rfl, trivial⟩
      · rw [cellsB_append]; exact Mem.Less.refl _
      · exact ⟨hk2, by rw [List.length_append]; exact ho2⟩
      · exact Nat.div_lt_self (by omega) (by decide)
    · have hl : m < 128 := by have := of_decide_eq_false hl; omega
      have hlast := hk.last hl
      have hll : (shortL 5 n).length = pre.length + 1 := by rw [← hlast]; simp
      refine AWP.exit ?_
      refine athen_exit ?_
      refine athen_exit ?_
      refine ain_same ?_
      refine athen_n ?_
      refine AWP.seq ?_
      refine AWP.region ?_
      refine rC (Calm.move rfl) ?_
      refine rC (Calm.move rfl) ?_
      refine rC (Calm.conv rfl (conv_intW Try.underlying24 Try.underlying5 (u8_nat m))) ?_
      refine ARun.build1s (lit_lt rfl) ty_sl_63 rfl rfl ?_
      intro b21 f21
      have g21 := f21
      repeat ((with_reducible replace g21 := fresh_set g21); obtain ⟨g21, _⟩ := g21)
      refine ARun.appendO (lit_lt rfl) ty_sl_63 rfl (cellsB_length pre) (appO_of ho (cellsB_length pre) g21) rfl (news := [_]) rds_ rfl (by omega) (by simp [Value.oneCell']) (by omega) (by omega) ?_
      intro b22 c22 ho2
      rw [← cellsB_snoc, hlast]
      refine rC (Calm.toStr (l := shortL 5 n) ty_bytes_63 ty_str_9 rfl hll (rds_outM _ _ _ _ _)) ?_
      refine rC (Calm.assign rfl) ?_
      refine rC (Calm.assign rfl) ?_
      refine arun_nil ?_
      refine athen_n ?_
      refine AWP.sub [(0, _), (4, _), (8, _), (2, _), (3, _)] ⟨rfl, rfl, rfl, rfl, rfl, trivial⟩ ?_
      refine AWP.ret ?_
      refine ⟨_, S, ⟨_, _, rfl, ⟨_, _, rfl, rfl, rfl⟩, rfl⟩, outM_over ho2, ?_⟩
      exact ⟨rfl, rfl⟩
  · rw [if_neg h]
    unfold top at h
    refine ACall.enter (args := [.int .u64 n]) (rs := [.tmp 2, .tmp 3]) 24 [(0, .int .u64 n)] Try.func37 rfl rfl (Nat.le_of_ble_eq_true rfl) rfl ⟨rfl, trivial⟩ ?_
    refine AWP.seq ?_
    refine AWP.region ?_
    refine rC (Calm.assign rfl) ?_
    refine rC (Calm.assign rfl) ?_
    refine arun_nil ?_
    refine athen_n ?_
    refine AWP.seq ?_
    refine AWP.seq ?_
    refine AWP.region ?_
    refine rC (Calm.move rfl) ?_
    refine rC (Calm.bin rfl rfl b_geq) ?_
    refine arun_nil ?_
    refine athen_n ?_
    refine AWP.sub [(0, _), (2, _), (3, _), (6, _)] ⟨rfl, rfl, rfl, rfl, trivial⟩ ?_
    refine AWP.condT rfl (by first | rfl | (simp; done) | (simp; omega)) ?_
    refine AWP.seq ?_
    refine AWP.region ?_
    refine rC (Calm.assign rfl) ?_
    refine rC (Calm.assign rfl) ?_
    refine arun_nil ?_
    refine athen_n ?_
    refine AWP.ret ?_
    refine athen_ret ?_
    refine ⟨_, S, ⟨_, _, rfl, ⟨_, _, rfl, rfl, rfl⟩, rfl⟩, less_, ?_⟩
    exact ⟨rfl, rfl⟩
namespace Num
theorem and127 (c : UInt8) : bits .and .u8 (nb c) 127 = ((c.toNat % 128 : Nat) : Int) := by
  have h := c.toNat_lt
  rw [nb_byte, show (127 : Int) = ((127 : Nat) : Int) from rfl, and_nat8 _ _ (by omega) (by omega)]
  have := Nat.and_two_pow_sub_one_eq_mod c.toNat 7
  simp only [show 2 ^ 7 - 1 = 127 from rfl, show 2 ^ 7 = 128 from rfl] at this
  rw [this]
theorem pow128 (i : Nat) : (128 : Nat) ^ i = 2 ^ (7 * i) := by rw [Nat.pow_mul]
theorem or_short (n x i : Nat) (hi : i ≤ 5) (hn : n < 128 ^ i) (hx : x < 128) : bits .or .u64 (n : Int) (IntKind.u64.wrap ((x : Int) * 2 ^ (7 * (i : Int)).toNat)) = ((n + x * 128 ^ i : Nat) : Int) ∧ n + x * 128 ^ i < 128 ^ (i + 1) ∧ n + x * 128 ^ i < 4398046511104 := by
  have e : (7 * (i : Int)).toNat = 7 * i := by omega
  have h1 : 128 ^ i ≤ 128 ^ 5 := Nat.pow_le_pow_right (by decide) hi
  have h2 : x * 128 ^ i ≤ 127 * 128 ^ i := Nat.mul_le_mul_right _ (by omega)
  have h3 : (128 : Nat) ^ 5 = 34359738368 := rfl
  refine ⟨?_, by rw [Nat.pow_succ]; omega, by omega⟩
  rw [e, show ((x : Int) * 2 ^ (7 * i)) = ((x * 2 ^ (7 * i) : Nat) : Int) from by simp, ← pow128, IntWalk.u64_in _ (by omega), or_nat64 _ _ (by omega) (by omega), pow128, or_join_nat _ _ _ (by rw [← pow128]; exact hn), Nat.add_comm]
theorem readL_at (l : List UInt8) (i n : Nat) (h : i < l.length) : readL i n (l.drop i) =
    (if 128 ≤ (at8 l i).toNat ∧ i < 5 then readL (i + 1) (n + (at8 l i).toNat % 128 * 128 ^ i) (l.drop (i + 1))
    else if 128 ≤ (at8 l i).toNat ∨ top ≤ n + (at8 l i).toNat % 128 * 128 ^ i ∨ (0 < i ∧ (at8 l i).toNat = 0) then (0, [], 7)
    else (n + (at8 l i).toNat % 128 * 128 ^ i, l.drop (i + 1), 0)) := by
  rw [List.drop_eq_getElem_cons h, readL, at8_get _ _ h]
theorem bs_drop (s : ByteArray) (i : Nat) : s.extract i s.size = bs (s.data.toList.drop i) := by
  apply str_ext; rw [data_extract, bs_data, List.take_of_length_le (by rw [size_data]; exact Nat.le_refl _)]
theorem bs_nil : bs [] = ByteArray.empty := rfl
end Num
set_option maxHeartbeats 2000000 in
theorem numV_Read (s : ByteArray) (S : Mem) (hs : s.size ≤ 9223372036854775807) :
    ACall Try.prog 38 #[.string s] S fun r S' => r = readV (readP s) ∧ S' = S := by
  have hsz := size_list s
  refine ACall.enter (args := [.string s]) (rs := [.tmp 2, .tmp 3, .tmp 4]) 48 [(0, .string s)] Try.func38 rfl rfl (Nat.le_of_ble_eq_true rfl) rfl ⟨rfl, trivial⟩ ?_
  refine AWP.seq ?_
  refine AWP.region ?_
  refine rC (Calm.assign rfl) ?_
  refine rC (Calm.assign rfl) ?_
  refine rC (Calm.assign rfl) ?_
  refine arun_nil ?_
  refine athen_n ?_
  refine AWP.seq ?_
  refine AWP.region ?_
  refine rC (Calm.assign rfl) ?_
  refine arun_nil ?_
  refine athen_n ?_
  refine AWP.seq ?_
  refine AWP.seq ?_
  refine AWP.region ?_
  refine rC (Calm.move rfl) ?_
  refine rC (Calm.lenStr (strT_spec ty_str_9) rfl) ?_
  refine rC (Calm.move rfl) ?_
  refine arun_nil ?_
  refine athen_n ?_
  refine AWP.sub [(0, _), (2, _), (3, _), (4, _), (5, _), (9, _), (10, _)] ⟨rfl, rfl, rfl, rfl, rfl, rfl, rfl, trivial⟩ ?_
  refine AWP.block ?_
  refine AWP.loop (X := Nat × Nat) (fun x => [(0, .string s), (5, .int .u64 (x.2 : Nat)), (9, .int .i64 s.size), (10, .int .i64 x.1)]) (fun x => S) (fun x => x.1 ≤ 5 ∧ x.2 < 128 ^ x.1 ∧ readL x.1 x.2 (s.data.toList.drop x.1) = readP s) (fun x => 6 - x.1) ((0, 0)) ⟨rfl, rfl, rfl, rfl, trivial⟩ (Mem.Less.refl _) (⟨by omega, by decide, rfl⟩) ?_
  rintro ⟨i, n⟩ ⟨hi5, hn, hq⟩
  (try dsimp only at *)
  refine AWP.seq ?_
  refine AWP.region ?_
  refine rC (Calm.bin rfl rfl b_lss) ?_
  refine arun_nil ?_
  refine athen_n ?_
  refine AWP.seq ?_
  refine AWP.condB rfl (fun hl => ?_) (fun hl => ?_)
  · have hl : i < s.size := by have := of_decide_eq_true hl; omega
    rw [readL_at _ i n (by omega)] at hq
    obtain ⟨c, hc⟩ : ∃ c, c = at8 s.data.toList i := ⟨_, rfl⟩
    rw [← hc] at hq
    refine AWP.skip ?_
    refine athen_n ?_
    refine AWP.seq ?_
    refine AWP.block ?_
    refine AWP.seq ?_
    refine AWP.region ?_
    refine rC (Calm.move rfl) ?_
    refine rC (Calm.assign rfl) ?_
    refine arun_nil ?_
    refine athen_n ?_
    refine AWP.sub [(0, _), (5, _), (9, _), (10, _), (11, _), (6, _)] ⟨rfl, rfl, rfl, rfl, rfl, rfl, trivial⟩ ?_
    refine AWP.seq ?_
    refine AWP.region ?_
    refine rC (Calm.move rfl) ?_
    refine rC (Calm.move rfl) ?_
    refine rC (Calm.indexStrC hc (strT_spec ty_str_9) rfl rfl hl) ?_
    have hc1 := c.toNat_lt
    have hc2 := nb_byte c
    obtain ⟨ho1, ho2, ho3⟩ := or_short n (c.toNat % 128) i hi5 hn (by omega)
    obtain ⟨m, hm⟩ : ∃ m, m = n + c.toNat % 128 * 128 ^ i := ⟨_, rfl⟩
    rw [← hm] at hq ho1 ho2 ho3
    refine rC (Calm.assign rfl) ?_
    refine arun_nil ?_
    refine athen_n ?_
    refine AWP.sub [(0, _), (5, _), (9, _), (10, _), (11, _), (6, _), (7, _)] ⟨rfl, rfl, rfl, rfl, rfl, rfl, rfl, trivial⟩ ?_
    refine AWP.seq ?_
    refine AWP.region ?_
    refine rC (Calm.move rfl) ?_
    refine rC (Calm.move rfl) ?_
    refine rC (Calm.bin rfl rfl (bin_andE (and127 c))) ?_
    refine rC (Calm.conv rfl (by first | exact conv_intW Try.underlying5 Try.underlying24 (IntWalk.u64_in _ (by omega)) | exact conv_intW Try.underlying5 Try.underlying24 (wrap_nb_u64 _) | exact conv_int Try.underlying5 Try.underlying24)) ?_
    refine rC (Calm.move rfl) ?_
    refine rC (Calm.bin rfl rfl b_mul_i64) ?_
    refine rC (Calm.bin rfl rfl b_shl) ?_
    refine rC (Calm.bin rfl rfl (bin_orE ho1)) ?_
    refine rC (Calm.assign rfl) ?_
    refine arun_nil ?_
    refine athen_n ?_
    refine AWP.sub [(0, _), (5, _), (9, _), (10, _), (11, _), (6, _), (7, _)] ⟨rfl, rfl, rfl, rfl, rfl, rfl, rfl, trivial⟩ ?_
    by_cases h128 : 128 ≤ c.toNat
    · by_cases hi : i < 5
      · refine AWP.seq ?_
        refine AWP.block ?_
        refine AWP.seq ?_
        refine AWP.region ?_
        refine rC (Calm.move rfl) ?_
        refine rC (Calm.bin rfl rfl b_geq) ?_
        refine rC (Calm.move rfl) ?_
        first | refine rS 27 ?_ | refine rU 27 ?_ | refine rG 27 (Calm.move rfl) ?_
        first | refine rS 27 ?_ | refine rU 27 ?_ | refine rG 27 (Calm.bin rfl rfl b_lss) ?_
        refine rC ((by first | exact Calm.pickT rfl rfl | exact Calm.pickF rfl rfl)) ?_
        refine rC (Calm.assign rfl) ?_
        refine arun_nil ?_
        refine athen_n ?_
        refine AWP.sub [(0, _), (5, _), (9, _), (10, _), (11, _), (6, _), (7, _), (24, _)] ⟨rfl, rfl, rfl, rfl, rfl, rfl, rfl, rfl, trivial⟩ ?_
        refine AWP.condT rfl (by first | rfl | (simp; done) | (simp; omega)) ?_
        rw [if_pos ⟨h128, hi⟩] at hq
        refine AWP.exit ?_
        refine ain_other rfl ?_
        refine athen_exit ?_
        refine ain_same ?_
        refine athen_n ?_
        refine AWP.region ?_
        refine rC (Calm.bin rfl rfl b_add_i64) ?_
        refine rC (Calm.move rfl) ?_
        refine arun_nil ?_
        refine athen_n ?_
        refine ⟨(i + 1, m), ?_, ?_, ?_, ?_⟩
        all_goals (try dsimp only)
        · exact ⟨rfl, rfl, rfl, some_int (by omega), trivial⟩
        · exact Mem.Less.refl _
        · exact ⟨by omega, ho2, hq⟩
        · omega
      · refine AWP.seq ?_
        refine AWP.block ?_
        refine AWP.seq ?_
        refine AWP.region ?_
        refine rC (Calm.move rfl) ?_
        refine rC (Calm.bin rfl rfl b_geq) ?_
        refine rC (Calm.move rfl) ?_
        first | refine rS 27 ?_ | refine rU 27 ?_ | refine rG 27 (Calm.move rfl) ?_
        first | refine rS 27 ?_ | refine rU 27 ?_ | refine rG 27 (Calm.bin rfl rfl b_lss) ?_
        refine rC ((by first | exact Calm.pickT rfl rfl | exact Calm.pickF rfl rfl)) ?_
        refine rC (Calm.assign rfl) ?_
        refine arun_nil ?_
        refine athen_n ?_
        refine AWP.sub [(0, _), (5, _), (9, _), (10, _), (11, _), (6, _), (7, _), (24, _)] ⟨rfl, rfl, rfl, rfl, rfl, rfl, rfl, rfl, trivial⟩ ?_
        refine AWP.condF rfl (by first | rfl | (simp; done) | (simp; omega)) ?_
        rw [if_neg (by omega), if_pos (.inl h128)] at hq
        refine AWP.seq ?_
        refine AWP.seq ?_
        refine AWP.region ?_
        refine rC (Calm.move rfl) ?_
        refine rC (Calm.bin rfl rfl b_geq) ?_
        refine rC (Calm.assign rfl) ?_
        refine arun_nil ?_
        refine athen_n ?_
        refine AWP.sub [(0, _), (5, _), (9, _), (10, _), (11, _), (6, _), (7, _), (24, _), (31, _)] ⟨rfl, rfl, rfl, rfl, rfl, rfl, rfl, rfl, rfl, trivial⟩ ?_
        refine AWP.condT rfl (by first | rfl | (simp; done) | (simp; omega)) ?_
        refine AWP.skip ?_
        refine athen_n ?_
        refine AWP.condT rfl (by first | rfl | (simp; done) | (simp; omega)) ?_
        refine AWP.seq ?_
        refine AWP.region ?_
        refine rC (Calm.assign rfl) ?_
        refine rC (Calm.assign rfl) ?_
        refine rC (Calm.assign rfl) ?_
        refine arun_nil ?_
        refine athen_n ?_
        refine AWP.ret ?_
        refine ain_ret ?_
        refine athen_ret ?_
        refine ain_ret ?_
        refine athen_ret ?_
        refine athen_ret ?_
        refine ain_ret ?_
        refine athen_ret ?_
        refine ⟨_, S, ⟨_, _, rfl, ⟨_, _, rfl, ⟨_, _, rfl, rfl, rfl⟩, rfl⟩, rfl⟩, less_, ?_⟩
        exact ⟨by rw [← hq]; rfl, rfl⟩
    · refine AWP.seq ?_
      refine AWP.block ?_
      refine AWP.seq ?_
      refine AWP.region ?_
      refine rC (Calm.move rfl) ?_
      refine rC (Calm.bin rfl rfl b_geq) ?_
      refine rC (Calm.move rfl) ?_
      first | refine rS 27 ?_ | refine rU 27 ?_ | refine rG 27 (Calm.move rfl) ?_
      first | refine rS 27 ?_ | refine rU 27 ?_ | refine rG 27 (Calm.bin rfl rfl b_lss) ?_
      refine rC ((by first | exact Calm.pickT rfl rfl | exact Calm.pickF rfl rfl)) ?_
      refine rC (Calm.assign rfl) ?_
      refine arun_nil ?_
      refine athen_n ?_
      refine AWP.sub [(0, _), (5, _), (9, _), (10, _), (11, _), (6, _), (7, _), (24, _)] ⟨rfl, rfl, rfl, rfl, rfl, rfl, rfl, rfl, trivial⟩ ?_
      refine AWP.condF rfl (by first | rfl | (simp; done) | (simp; omega)) ?_
      rw [if_neg (by omega)] at hq
      refine AWP.seq ?_
      refine AWP.seq ?_
      refine AWP.region ?_
      refine rC (Calm.move rfl) ?_
      refine rC (Calm.bin rfl rfl b_geq) ?_
      refine rC (Calm.assign rfl) ?_
      refine arun_nil ?_
      refine athen_n ?_
      refine AWP.sub [(0, _), (5, _), (9, _), (10, _), (11, _), (6, _), (7, _), (24, _), (31, _)] ⟨rfl, rfl, rfl, rfl, rfl, rfl, rfl, rfl, rfl, trivial⟩ ?_
      refine AWP.condF rfl (by first | rfl | (simp; done) | (simp; omega)) ?_
      by_cases htop : 1099511627776 ≤ m
      · refine AWP.seq ?_
        refine AWP.region ?_
        refine rC (Calm.move rfl) ?_
        refine rC (Calm.bin rfl rfl b_geq) ?_
        refine rC (Calm.assign rfl) ?_
        refine arun_nil ?_
        refine athen_n ?_
        refine AWP.sub [(0, _), (5, _), (9, _), (10, _), (11, _), (6, _), (7, _), (24, _), (31, _)] ⟨rfl, rfl, rfl, rfl, rfl, rfl, rfl, rfl, rfl, trivial⟩ ?_
        refine AWP.condT rfl (by first | rfl | (simp; done) | (simp; omega)) ?_
        refine AWP.skip ?_
        refine athen_n ?_
        refine AWP.condT rfl (by first | rfl | (simp; done) | (simp; omega)) ?_
        rw [if_pos (.inr (.inl htop))] at hq
        refine AWP.seq ?_
        refine AWP.region ?_
        refine rC (Calm.assign rfl) ?_
        refine rC (Calm.assign rfl) ?_
        refine rC (Calm.assign rfl) ?_
        refine arun_nil ?_
        refine athen_n ?_
        refine AWP.ret ?_
        refine ain_ret ?_
        refine athen_ret ?_
        refine ain_ret ?_
        refine athen_ret ?_
        refine athen_ret ?_
        refine ain_ret ?_
        refine athen_ret ?_
        refine ⟨_, S, ⟨_, _, rfl, ⟨_, _, rfl, ⟨_, _, rfl, rfl, rfl⟩, rfl⟩, rfl⟩, less_, ?_⟩
        exact ⟨by rw [← hq]; rfl, rfl⟩
      · refine AWP.seq ?_
        refine AWP.region ?_
        refine rC (Calm.move rfl) ?_
        refine rC (Calm.bin rfl rfl b_geq) ?_
        refine rC (Calm.assign rfl) ?_
        refine arun_nil ?_
        refine athen_n ?_
        refine AWP.sub [(0, _), (5, _), (9, _), (10, _), (11, _), (6, _), (7, _), (24, _), (31, _)] ⟨rfl, rfl, rfl, rfl, rfl, rfl, rfl, rfl, rfl, trivial⟩ ?_
        refine AWP.condF rfl (by first | rfl | (simp; done) | (simp; omega)) ?_
        by_cases hi0 : 0 < i
        · by_cases hc0 : c.toNat = 0
          · refine AWP.region ?_
            refine rC (Calm.move rfl) ?_
            refine rC (Calm.bin rfl rfl b_gtr) ?_
            refine rC (Calm.move rfl) ?_
            first | refine rS 38 ?_ | refine rU 38 ?_ | refine rG 38 (Calm.move rfl) ?_
            first | refine rS 38 ?_ | refine rU 38 ?_ | refine rG 38 (Calm.bin rfl rfl b_eql) ?_
            refine rC ((by first | exact Calm.pickT rfl rfl | exact Calm.pickF rfl rfl)) ?_
            refine rC (Calm.assign rfl) ?_
            refine arun_nil ?_
            refine athen_n ?_
            refine AWP.sub [(0, _), (5, _), (9, _), (10, _), (11, _), (6, _), (7, _), (24, _), (31, _)] ⟨rfl, rfl, rfl, rfl, rfl, rfl, rfl, rfl, rfl, trivial⟩ ?_
            refine AWP.condT rfl (by first | rfl | (simp; done) | (simp; omega)) ?_
            rw [if_pos (.inr (.inr ⟨hi0, hc0⟩))] at hq
            refine AWP.seq ?_
            refine AWP.region ?_
            refine rC (Calm.assign rfl) ?_
            refine rC (Calm.assign rfl) ?_
            refine rC (Calm.assign rfl) ?_
            refine arun_nil ?_
            refine athen_n ?_
            refine AWP.ret ?_
            refine ain_ret ?_
            refine athen_ret ?_
            refine ain_ret ?_
            refine athen_ret ?_
            refine athen_ret ?_
            refine ain_ret ?_
            refine athen_ret ?_
            refine ⟨_, S, ⟨_, _, rfl, ⟨_, _, rfl, ⟨_, _, rfl, rfl, rfl⟩, rfl⟩, rfl⟩, less_, ?_⟩
            exact ⟨by rw [← hq]; rfl, rfl⟩
          · refine AWP.region ?_
            refine rC (Calm.move rfl) ?_
            refine rC (Calm.bin rfl rfl b_gtr) ?_
            refine rC (Calm.move rfl) ?_
            first | refine rS 38 ?_ | refine rU 38 ?_ | refine rG 38 (Calm.move rfl) ?_
            first | refine rS 38 ?_ | refine rU 38 ?_ | refine rG 38 (Calm.bin rfl rfl b_eql) ?_
            refine rC ((by first | exact Calm.pickT rfl rfl | exact Calm.pickF rfl rfl)) ?_
            refine rC (Calm.assign rfl) ?_
            refine arun_nil ?_
            refine athen_n ?_
            refine AWP.sub [(0, _), (5, _), (9, _), (10, _), (11, _), (6, _), (7, _), (24, _), (31, _)] ⟨rfl, rfl, rfl, rfl, rfl, rfl, rfl, rfl, rfl, trivial⟩ ?_
            refine AWP.condF rfl (by first | rfl | (simp; done) | (simp; omega)) ?_
            rw [if_neg (by unfold top; omega)] at hq
            refine AWP.skip ?_
            refine ain_n ?_
            refine athen_n ?_
            refine AWP.seq ?_
            refine AWP.draw [(0, true), (1, true), (2, true), (3, true), (4, true), (5, true), (6, true), (7, true)] [] mixed (by kernel_rfl) ?_
            refine draw_pure rfl rfl rfl rfl (lit_lt rfl) (fun _ => Calm.move rfl) ?_
            refine draw_pure rfl rfl rfl rfl (lit_lt rfl) (fun _ => Calm.move rfl) ?_
            refine draw_pure rfl rfl rfl rfl (lit_lt rfl) (fun _ => Calm.move rfl) ?_
            refine draw_pure rfl rfl rfl rfl (lit_lt rfl) (fun _ => Calm.bin rfl rfl b_add_i64) ?_
            refine draw_pure rfl rfl rfl rfl (lit_lt rfl) (fun _ => Calm.sliceStr (strT_spec ty_str_9) rfl (bnd_none _ _) (bnd_some _ _ rfl (by omega) (by omega))) ?_
            refine draw_pure rfl rfl rfl rfl (lit_lt rfl) (fun _ => Calm.assign rfl) ?_
            refine draw_pure rfl rfl rfl rfl (lit_lt rfl) (fun _ => Calm.assign rfl) ?_
            refine draw_pure rfl rfl rfl rfl (lit_lt rfl) (fun _ => Calm.assign rfl) ?_
            refine draw_nil ?_
            refine athen_n ?_
            refine AWP.sub [(0, _), (5, _), (9, _), (10, _), (11, _), (6, _), (7, _), (24, _), (31, _), (2, _), (3, _), (4, _)] ⟨rfl, rfl, rfl, rfl, rfl, rfl, rfl, rfl, rfl, rfl, rfl, rfl, trivial⟩ ?_
            refine AWP.ret ?_
            refine ain_ret ?_
            refine athen_ret ?_
            refine athen_ret ?_
            refine ain_ret ?_
            refine athen_ret ?_
            refine ⟨_, S, ⟨_, _, rfl, ⟨_, _, rfl, ⟨_, _, rfl, rfl, rfl⟩, rfl⟩, rfl⟩, less_, ?_⟩
            exact ⟨by rw [← hq]; show Value.tuple _ = _; simp only [readV, ← bs_drop]; rfl, rfl⟩
        · refine AWP.region ?_
          refine rC (Calm.move rfl) ?_
          refine rC (Calm.bin rfl rfl b_gtr) ?_
          refine rC (Calm.move rfl) ?_
          first | refine rS 38 ?_ | refine rU 38 ?_ | refine rG 38 (Calm.move rfl) ?_
          first | refine rS 38 ?_ | refine rU 38 ?_ | refine rG 38 (Calm.bin rfl rfl b_eql) ?_
          refine rC ((by first | exact Calm.pickT rfl rfl | exact Calm.pickF rfl rfl)) ?_
          refine rC (Calm.assign rfl) ?_
          refine arun_nil ?_
          refine athen_n ?_
          refine AWP.sub [(0, _), (5, _), (9, _), (10, _), (11, _), (6, _), (7, _), (24, _), (31, _)] ⟨rfl, rfl, rfl, rfl, rfl, rfl, rfl, rfl, rfl, trivial⟩ ?_
          refine AWP.condF rfl (by first | rfl | (simp; done) | (simp; omega)) ?_
          rw [if_neg (by unfold top; omega)] at hq
          refine AWP.skip ?_
          refine ain_n ?_
          refine athen_n ?_
          refine AWP.seq ?_
          refine AWP.draw [(0, true), (1, true), (2, true), (3, true), (4, true), (5, true), (6, true), (7, true)] [] mixed (by kernel_rfl) ?_
          refine draw_pure rfl rfl rfl rfl (lit_lt rfl) (fun _ => Calm.move rfl) ?_
          refine draw_pure rfl rfl rfl rfl (lit_lt rfl) (fun _ => Calm.move rfl) ?_
          refine draw_pure rfl rfl rfl rfl (lit_lt rfl) (fun _ => Calm.move rfl) ?_
          refine draw_pure rfl rfl rfl rfl (lit_lt rfl) (fun _ => Calm.bin rfl rfl b_add_i64) ?_
          refine draw_pure rfl rfl rfl rfl (lit_lt rfl) (fun _ => Calm.sliceStr (strT_spec ty_str_9) rfl (bnd_none _ _) (bnd_some _ _ rfl (by omega) (by omega))) ?_
          refine draw_pure rfl rfl rfl rfl (lit_lt rfl) (fun _ => Calm.assign rfl) ?_
          refine draw_pure rfl rfl rfl rfl (lit_lt rfl) (fun _ => Calm.assign rfl) ?_
          refine draw_pure rfl rfl rfl rfl (lit_lt rfl) (fun _ => Calm.assign rfl) ?_
          refine draw_nil ?_
          refine athen_n ?_
          refine AWP.sub [(0, _), (5, _), (9, _), (10, _), (11, _), (6, _), (7, _), (24, _), (31, _), (2, _), (3, _), (4, _)] ⟨rfl, rfl, rfl, rfl, rfl, rfl, rfl, rfl, rfl, rfl, rfl, rfl, trivial⟩ ?_
          refine AWP.ret ?_
          refine ain_ret ?_
          refine athen_ret ?_
          refine athen_ret ?_
          refine ain_ret ?_
          refine athen_ret ?_
          refine ⟨_, S, ⟨_, _, rfl, ⟨_, _, rfl, ⟨_, _, rfl, rfl, rfl⟩, rfl⟩, rfl⟩, less_, ?_⟩
          exact ⟨by rw [← hq]; show Value.tuple _ = _; simp only [readV, ← bs_drop]; rfl, rfl⟩
  · have hl : s.size ≤ i := by have := of_decide_eq_false hl; omega
    rw [List.drop_of_length_le (by omega)] at hq
    refine AWP.exit ?_
    refine athen_exit ?_
    refine athen_exit ?_
    refine ain_same ?_
    refine athen_n ?_
    refine AWP.seq ?_
    refine AWP.region ?_
    refine rC (Calm.assign rfl) ?_
    refine rC (Calm.assign rfl) ?_
    refine rC (Calm.assign rfl) ?_
    refine arun_nil ?_
    refine athen_n ?_
    refine AWP.ret ?_
    refine ⟨_, S, ⟨_, _, rfl, ⟨_, _, rfl, ⟨_, _, rfl, rfl, rfl⟩, rfl⟩, rfl⟩, less_, ?_⟩
    exact ⟨by rw [← hq]; rfl, rfl⟩
end Go.Proofs.Ytpeljbmbgjeomaa
