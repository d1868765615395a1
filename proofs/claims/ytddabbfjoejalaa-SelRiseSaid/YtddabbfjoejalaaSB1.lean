/-
  The plain answers of the layer of bits; the walks of wide, Check, Put, Get.
-/
import Derived.Test.YtddabbfjoejalaaSBW
import Derived.Test.YtddabbfjoejalaaSBLib
namespace Go.Proofs.Ytddabbfjoejalaa
open Go.RowKit
open Bits Mv
set_option maxRecDepth 20000
set_option linter.unusedVariables false
set_option linter.unusedSimpArgs false
namespace Bits
/-- A Bitstr. -/
def bv (s : ByteArray) (N : Int) : Value := .agg #[.string s, .int .i64 N]
def bv0 : Value := bv ByteArray.empty 0
def two (a : Value) (e : Int) : Value := .tuple #[a, .int .i64 e]
noncomputable def putP (s : ByteArray) (N v width : Int) : Value :=
  if chk s.data.toList N ≠ 0 then two bv0 2
  else if ¬ (0 ≤ width ∧ width ≤ 64) ∨ width < Lib.bitLen v.toNat then two (bv s N) 1
  else if 1048576 - width < N then two (bv s N) 8
  else two (bv (bs (pack (upto s.data.toList N.toNat ++ numB v.toNat width.toNat))) (N + width)) 0
noncomputable def getP (s : ByteArray) (N at_ width : Int) : Value :=
  if chk s.data.toList N ≠ 0 then two (.int .u64 0) 2
  else if ¬ (0 ≤ width ∧ width ≤ 64) ∨ at_ < 0 ∨ N < at_ then two (.int .u64 0) 1
  else if N - at_ < width then two (.int .u64 0) 5
  else two (.int .u64 (num (slc s.data.toList at_.toNat width.toNat) : Nat)) 0
theorem chk_right {B : List UInt8} {N : Int} (h : chk B N = 0) : right B N := by
  unfold chk at h
  split at h
  · assumption
  · cases h
theorem chk_two {B : List UInt8} {N : Int} (h : ¬ chk B N = 0) : chk B N = 2 := by
  unfold chk at h ⊢
  split at h
  · exact absurd rfl h
  · rename_i hn; rw [if_neg hn]
theorem tab_ones (l : List UInt8) (hl : ∀ j : Fin 256, nb (at8 l j.val) = (Lib.onesCount j.val : Int)) (x : Int) (h0 : 0 ≤ x) (h1 : x ≤ 255) : nb (at8 l x.toNat) = (Lib.onesCount x.toNat : Int) := hl ⟨x.toNat, by omega⟩
theorem bnot_t {p : Prop} [Decidable p] (h : (!decide p) = true) : ¬ p := by simpa using h
theorem bnot_f {p : Prop} [Decidable p] (h : (!decide p) = false) : p := by simpa using h
theorem wrM_nil (S : Mem) (p : Nat) : wrM S p none [] = S.set p ⟨81, [.slice none 0 0, .int .u64 0, .int .i64 0], 3⟩ := rfl
theorem okW_nil {S : Mem} {p : Nat} (h : Fresh S p) : OkW S p none [] := ⟨h, fun _ => by simp, fun b c e => by cases e⟩
theorem own_wrM_ok {S : Mem} {p b : Nat} {o : Option (Nat × Nat)} {L : List Bool} {r : Blk} (hk : OkW S p o L) (h : S.own b = some r) : (wrM S p o L).own b = some r :=
  own_wrM S p o L b r (hk.fp.ne h) (fun q c e => (hk.own q c e).1.ne h) h
theorem chk_no {B : List UInt8} {N : Int} (h : ¬ right B N) : chk B N = 2 := if_neg h
theorem chk_yes {B : List UInt8} {N : Int} (h : right B N) : chk B N = 0 := if_pos h
theorem right_iff (B : List UInt8) (N : Int) (h0 : 0 ≤ N) (h1 : N ≤ 1048576) (h2 : B.length = (N.toNat + 7) / 8) : right B N ↔ (N % 8 = 0 ∨ IntKind.u8.wrap (nb (at8 B (N.toNat / 8)) * 2 ^ (N % 8).toNat) = 0) := by
  unfold right
  rw [right_last B N.toNat h2]
  have e : (N % 8).toNat = N.toNat % 8 := by omega
  have hz := shl_zero (at8 B (N.toNat / 8)) (N.toNat % 8) (by omega)
  rw [IntKind.wrap_u8, e, hz]
  constructor
  · rintro ⟨_, _, h | h⟩
    · exact .inl (by omega)
    · exact .inr h
  · rintro (h | h)
    · exact ⟨h0, h1, .inl (by omega)⟩
    · exact ⟨h0, h1, .inr h⟩
end Bits
set_option maxRecDepth 100000 in
theorem bits_Ones8 (x : Int) (S : Mem) (h0 : 0 ≤ x) (h1 : x ≤ 255) : ACall Try.prog 72 #[.int .u8 x] S fun r S' => r = .int .i64 (Lib.onesCount x.toNat) ∧ S' = S := by
  refine ACall.enter (args := [.int .u8 x]) (rs := [.tmp 2]) 6 [(0, .int .u8 x)] Try.func72 rfl rfl (Nat.le_of_ble_eq_true rfl) rfl ⟨rfl, trivial⟩ ?_
  refine AWP.seq ?_
  refine AWP.region ?_
  refine rC (Calm.assign rfl) ?_
  refine arun_nil ?_
  refine athen_n ?_
  refine AWP.seq ?_
  refine AWP.region ?_
  refine rC (Calm.move rfl) ?_
  refine rC (Calm.indexStr (strT_spec ty_str_9) rfl rfl (by omega) (by simp [ByteArray.size]; omega)) ?_
  refine rC (Calm.conv rfl (by first | exact conv_intW Try.underlying5 Try.underlying3 (IntWalk.i64_in _ (by omega)) | exact conv_intW Try.underlying5 Try.underlying3 (wrap_nb_i64 _) | exact conv_int Try.underlying5 Try.underlying3)) ?_
  refine rC (Calm.assign rfl) ?_
  refine arun_nil ?_
  refine athen_n ?_
  refine AWP.sub [(0, _), (2, _)] ⟨rfl, rfl, trivial⟩ ?_
  refine AWP.ret ?_
  refine ⟨_, _, ⟨_, _, rfl, rfl, rfl⟩, less_, ?_⟩
  exact ⟨val_int (tab_ones _ (by decide +kernel) x h0 h1), rfl⟩
theorem bits_wide (x : Int) (S : Mem) : ACall Try.prog 69 #[.int .i64 x] S fun r S' => r = .bool (decide (0 ≤ x ∧ x ≤ 64)) ∧ S' = S := by
  by_cases h0 : 0 ≤ x
  · by_cases h1 : x ≤ 64
    · rw [decide_eq_true (⟨h0, h1⟩ : 0 ≤ x ∧ x ≤ 64)]
      refine ACall.enter (args := [.int .i64 x]) (rs := [.tmp 2]) 9 [(0, .int .i64 x)] Try.func69 rfl rfl (Nat.le_of_ble_eq_true rfl) rfl ⟨rfl, trivial⟩ ?_
      refine AWP.seq ?_
      refine AWP.region ?_
      refine rC (Calm.assign rfl) ?_
      refine arun_nil ?_
      refine athen_n ?_
      refine AWP.seq ?_
      refine AWP.region ?_
      refine rC (Calm.move rfl) ?_
      refine rC (Calm.bin rfl rfl b_geq) ?_
      refine rC (Calm.move rfl) ?_
      first | refine rS 5 ?_ | refine rU 5 ?_ | refine rG 5 (Calm.move rfl) ?_
      first | refine rS 5 ?_ | refine rU 5 ?_ | refine rG 5 (Calm.bin rfl rfl b_leq) ?_
      refine rC ((by first | exact Calm.pickT rfl rfl | exact Calm.pickF rfl rfl)) ?_
      refine rC (Calm.assign rfl) ?_
      refine arun_nil ?_
      refine athen_n ?_
      refine AWP.sub [(0, _), (2, _)] ⟨rfl, rfl, trivial⟩ ?_
      refine AWP.ret ?_
      refine ⟨_, _, ⟨_, _, rfl, rfl, rfl⟩, less_, ?_⟩
      exact ⟨rfl, rfl⟩
    · rw [decide_eq_false (fun h => h1 h.2 : ¬ (0 ≤ x ∧ x ≤ 64))]
      refine ACall.enter (args := [.int .i64 x]) (rs := [.tmp 2]) 9 [(0, .int .i64 x)] Try.func69 rfl rfl (Nat.le_of_ble_eq_true rfl) rfl ⟨rfl, trivial⟩ ?_
      refine AWP.seq ?_
      refine AWP.region ?_
      refine rC (Calm.assign rfl) ?_
      refine arun_nil ?_
      refine athen_n ?_
      refine AWP.seq ?_
      refine AWP.region ?_
      refine rC (Calm.move rfl) ?_
      refine rC (Calm.bin rfl rfl b_geq) ?_
      refine rC (Calm.move rfl) ?_
      first | refine rS 5 ?_ | refine rU 5 ?_ | refine rG 5 (Calm.move rfl) ?_
      first | refine rS 5 ?_ | refine rU 5 ?_ | refine rG 5 (Calm.bin rfl rfl b_leq) ?_
      refine rC ((by first | exact Calm.pickT rfl rfl | exact Calm.pickF rfl rfl)) ?_
      refine rC (Calm.assign rfl) ?_
      refine arun_nil ?_
      refine athen_n ?_
      refine AWP.sub [(0, _), (2, _)] ⟨rfl, rfl, trivial⟩ ?_
      refine AWP.ret ?_
      refine ⟨_, _, ⟨_, _, rfl, rfl, rfl⟩, less_, ?_⟩
      exact ⟨rfl, rfl⟩
  · rw [decide_eq_false (fun h => h0 h.1 : ¬ (0 ≤ x ∧ x ≤ 64))]
    refine ACall.enter (args := [.int .i64 x]) (rs := [.tmp 2]) 9 [(0, .int .i64 x)] Try.func69 rfl rfl (Nat.le_of_ble_eq_true rfl) rfl ⟨rfl, trivial⟩ ?_
    refine AWP.seq ?_
    refine AWP.region ?_
    refine rC (Calm.assign rfl) ?_
    refine arun_nil ?_
    refine athen_n ?_
    refine AWP.seq ?_
    refine AWP.region ?_
    refine rC (Calm.move rfl) ?_
    refine rC (Calm.bin rfl rfl b_geq) ?_
    refine rC (Calm.move rfl) ?_
    first | refine rS 5 ?_ | refine rU 5 ?_ | refine rG 5 (Calm.move rfl) ?_
    first | refine rS 5 ?_ | refine rU 5 ?_ | refine rG 5 (Calm.bin rfl rfl b_leq) ?_
    refine rC ((by first | exact Calm.pickT rfl rfl | exact Calm.pickF rfl rfl)) ?_
    refine rC (Calm.assign rfl) ?_
    refine arun_nil ?_
    refine athen_n ?_
    refine AWP.sub [(0, _), (2, _)] ⟨rfl, rfl, trivial⟩ ?_
    refine AWP.ret ?_
    refine ⟨_, _, ⟨_, _, rfl, rfl, rfl⟩, less_, ?_⟩
    exact ⟨rfl, rfl⟩
set_option maxHeartbeats 1000000 in
theorem bitsV_Check (s : ByteArray) (N : Int) (S : Mem) (hs : s.size ≤ 9223372036854775807) :
    ACall Try.prog 56 #[.agg #[.string s, .int .i64 N]] S fun r S' => r = .int .i64 (chk s.data.toList N) ∧ S' = S := by
  by_cases h1 : N < 0
  · rw [chk_no (fun h => by have := h.1; omega)]
    refine ACall.enter (args := [.agg #[.string s, .int .i64 N]]) (rs := [.tmp 2]) 40 [(0, .agg #[.string s, .int .i64 N])] Try.func56 rfl rfl (Nat.le_of_ble_eq_true rfl) rfl ⟨rfl, trivial⟩ ?_
    refine AWP.seq ?_
    refine AWP.region ?_
    refine ARun.boxA (cs := [_, _]) (lit_lt rfl) rfl ?_
    intro b1 f1
    have g1 := f1
    repeat ((with_reducible replace g1 := fresh_set g1); obtain ⟨g1, _⟩ := g1)
    (try simp only [List.length_cons, List.length_nil, Nat.zero_add, Nat.reduceAdd])
    refine rC (Calm.assign rfl) ?_
    refine arun_nil ?_
    refine athen_n ?_
    refine AWP.seq ?_
    refine AWP.seq ?_
    refine AWP.region ?_
    refine rC (Calm.fieldAddr ty_field_47_1 rfl) ?_
    refine rC (ld_ ty_plain_3 rfl) ?_
    refine rC (Calm.bin rfl rfl b_lss) ?_
    refine rC (Calm.move rfl) ?_
    first | refine rS 7 ?_ | refine rU 7 ?_ | refine rG 7 (Calm.fieldAddr ty_field_47_1 rfl) ?_
    first | refine rS 7 ?_ | refine rU 7 ?_ | refine rG 7 (ld_ ty_plain_3 rfl) ?_
    first | refine rS 7 ?_ | refine rU 7 ?_ | refine rG 7 (Calm.bin rfl rfl b_gtr) ?_
    refine rC ((by first | exact Calm.pickT rfl rfl | exact Calm.pickF rfl rfl)) ?_
    refine rC (Calm.move rfl) ?_
    first | refine rS 12 ?_ | refine rU 12 ?_ | refine rG 12 (Calm.fieldAddr ty_field_47_0 rfl) ?_
    first | refine rS 12 ?_ | refine rU 12 ?_ | refine rG 12 (ld_ ty_plain_9 rfl) ?_
    first | refine rS 12 ?_ | refine rU 12 ?_ | refine rG 12 (Calm.lenStr (strT_spec ty_str_9) rfl) ?_
    first | refine rS 12 ?_ | refine rU 12 ?_ | refine rG 12 (Calm.fieldAddr ty_field_47_1 rfl) ?_
    first | refine rS 12 ?_ | refine rU 12 ?_ | refine rG 12 (ld_ ty_plain_3 rfl) ?_
    first | refine rS 12 ?_ | refine rU 12 ?_ | refine rG 12 (Calm.bin rfl rfl b_add_i64) ?_
    first | refine rS 12 ?_ | refine rU 12 ?_ | refine rG 12 (Calm.bin rfl rfl b_sub_i64) ?_
    first | refine rS 12 ?_ | refine rU 12 ?_ | refine rG 12 (Calm.bin rfl rfl b_quo_i64) ?_
    first | refine rS 12 ?_ | refine rU 12 ?_ | refine rG 12 (Calm.bin rfl rfl b_neq) ?_
    refine rC ((by first | exact Calm.pickT rfl rfl | exact Calm.pickF rfl rfl)) ?_
    refine arun_nil ?_
    refine athen_n ?_
    refine AWP.sub [(0, _), (1, _), (2, _), (22, _)] ⟨rfl, rfl, rfl, rfl, trivial⟩ ?_
    refine AWP.condT rfl (by first | rfl | (simp; done) | (simp; omega)) ?_
    refine AWP.seq ?_
    refine AWP.region ?_
    refine rC (Calm.assign rfl) ?_
    refine arun_nil ?_
    refine athen_n ?_
    refine AWP.ret ?_
    refine athen_ret ?_
    refine ⟨_, S, ⟨_, _, rfl, rfl, rfl⟩, less_, ?_⟩
    exact ⟨rfl, rfl⟩
  by_cases h2 : 1048576 < N
  · rw [chk_no (fun h => by have := h.2.1; omega)]
    refine ACall.enter (args := [.agg #[.string s, .int .i64 N]]) (rs := [.tmp 2]) 40 [(0, .agg #[.string s, .int .i64 N])] Try.func56 rfl rfl (Nat.le_of_ble_eq_true rfl) rfl ⟨rfl, trivial⟩ ?_
    refine AWP.seq ?_
    refine AWP.region ?_
    refine ARun.boxA (cs := [_, _]) (lit_lt rfl) rfl ?_
    intro b1 f1
    have g1 := f1
    repeat ((with_reducible replace g1 := fresh_set g1); obtain ⟨g1, _⟩ := g1)
    (try simp only [List.length_cons, List.length_nil, Nat.zero_add, Nat.reduceAdd])
    refine rC (Calm.assign rfl) ?_
    refine arun_nil ?_
    refine athen_n ?_
    refine AWP.seq ?_
    refine AWP.seq ?_
    refine AWP.region ?_
    refine rC (Calm.fieldAddr ty_field_47_1 rfl) ?_
    refine rC (ld_ ty_plain_3 rfl) ?_
    refine rC (Calm.bin rfl rfl b_lss) ?_
    refine rC (Calm.move rfl) ?_
    first | refine rS 7 ?_ | refine rU 7 ?_ | refine rG 7 (Calm.fieldAddr ty_field_47_1 rfl) ?_
    first | refine rS 7 ?_ | refine rU 7 ?_ | refine rG 7 (ld_ ty_plain_3 rfl) ?_
    first | refine rS 7 ?_ | refine rU 7 ?_ | refine rG 7 (Calm.bin rfl rfl b_gtr) ?_
    refine rC ((by first | exact Calm.pickT rfl rfl | exact Calm.pickF rfl rfl)) ?_
    refine rC (Calm.move rfl) ?_
    first | refine rS 12 ?_ | refine rU 12 ?_ | refine rG 12 (Calm.fieldAddr ty_field_47_0 rfl) ?_
    first | refine rS 12 ?_ | refine rU 12 ?_ | refine rG 12 (ld_ ty_plain_9 rfl) ?_
    first | refine rS 12 ?_ | refine rU 12 ?_ | refine rG 12 (Calm.lenStr (strT_spec ty_str_9) rfl) ?_
    first | refine rS 12 ?_ | refine rU 12 ?_ | refine rG 12 (Calm.fieldAddr ty_field_47_1 rfl) ?_
    first | refine rS 12 ?_ | refine rU 12 ?_ | refine rG 12 (ld_ ty_plain_3 rfl) ?_
    first | refine rS 12 ?_ | refine rU 12 ?_ | refine rG 12 (Calm.bin rfl rfl b_add_i64) ?_
    first | refine rS 12 ?_ | refine rU 12 ?_ | refine rG 12 (Calm.bin rfl rfl b_sub_i64) ?_
    first | refine rS 12 ?_ | refine rU 12 ?_ | refine rG 12 (Calm.bin rfl rfl b_quo_i64) ?_
    first | refine rS 12 ?_ | refine rU 12 ?_ | refine rG 12 (Calm.bin rfl rfl b_neq) ?_
    refine rC ((by first | exact Calm.pickT rfl rfl | exact Calm.pickF rfl rfl)) ?_
    refine arun_nil ?_
    refine athen_n ?_
    refine AWP.sub [(0, _), (1, _), (2, _), (22, _)] ⟨rfl, rfl, rfl, rfl, trivial⟩ ?_
    refine AWP.condT rfl (by first | rfl | (simp; done) | (simp; omega)) ?_
    refine AWP.seq ?_
    refine AWP.region ?_
    refine rC (Calm.assign rfl) ?_
    refine arun_nil ?_
    refine athen_n ?_
    refine AWP.ret ?_
    refine athen_ret ?_
    refine ⟨_, S, ⟨_, _, rfl, rfl, rfl⟩, less_, ?_⟩
    exact ⟨rfl, rfl⟩
  have hsz : s.size = s.data.toList.length := (Array.length_toList (xs := s.data)).symm
  by_cases h3 : (s.size : Int) = (N + 7) / 8
  · have hR := right_iff s.data.toList N (by omega) (by omega) (by omega)
    by_cases h4 : N % 8 = 0
    · rw [chk_yes (hR.2 (.inl h4))]
      refine ACall.enter (args := [.agg #[.string s, .int .i64 N]]) (rs := [.tmp 2]) 40 [(0, .agg #[.string s, .int .i64 N])] Try.func56 rfl rfl (Nat.le_of_ble_eq_true rfl) rfl ⟨rfl, trivial⟩ ?_
      refine AWP.seq ?_
      refine AWP.region ?_
      refine ARun.boxA (cs := [_, _]) (lit_lt rfl) rfl ?_
      intro b1 f1
      have g1 := f1
      repeat ((with_reducible replace g1 := fresh_set g1); obtain ⟨g1, _⟩ := g1)
      (try simp only [List.length_cons, List.length_nil, Nat.zero_add, Nat.reduceAdd])
      refine rC (Calm.assign rfl) ?_
      refine arun_nil ?_
      refine athen_n ?_
      refine AWP.seq ?_
      refine AWP.seq ?_
      refine AWP.region ?_
      refine rC (Calm.fieldAddr ty_field_47_1 rfl) ?_
      refine rC (ld_ ty_plain_3 rfl) ?_
      refine rC (Calm.bin rfl rfl b_lss) ?_
      refine rC (Calm.move rfl) ?_
      first | refine rS 7 ?_ | refine rU 7 ?_ | refine rG 7 (Calm.fieldAddr ty_field_47_1 rfl) ?_
      first | refine rS 7 ?_ | refine rU 7 ?_ | refine rG 7 (ld_ ty_plain_3 rfl) ?_
      first | refine rS 7 ?_ | refine rU 7 ?_ | refine rG 7 (Calm.bin rfl rfl b_gtr) ?_
      refine rC ((by first | exact Calm.pickT rfl rfl | exact Calm.pickF rfl rfl)) ?_
      refine rC (Calm.move rfl) ?_
      first | refine rS 12 ?_ | refine rU 12 ?_ | refine rG 12 (Calm.fieldAddr ty_field_47_0 rfl) ?_
      first | refine rS 12 ?_ | refine rU 12 ?_ | refine rG 12 (ld_ ty_plain_9 rfl) ?_
      first | refine rS 12 ?_ | refine rU 12 ?_ | refine rG 12 (Calm.lenStr (strT_spec ty_str_9) rfl) ?_
      first | refine rS 12 ?_ | refine rU 12 ?_ | refine rG 12 (Calm.fieldAddr ty_field_47_1 rfl) ?_
      first | refine rS 12 ?_ | refine rU 12 ?_ | refine rG 12 (ld_ ty_plain_3 rfl) ?_
      first | refine rS 12 ?_ | refine rU 12 ?_ | refine rG 12 (Calm.bin rfl rfl b_add_i64) ?_
      first | refine rS 12 ?_ | refine rU 12 ?_ | refine rG 12 (Calm.bin rfl rfl b_sub_i64) ?_
      first | refine rS 12 ?_ | refine rU 12 ?_ | refine rG 12 (Calm.bin rfl rfl b_quo_i64) ?_
      first | refine rS 12 ?_ | refine rU 12 ?_ | refine rG 12 (Calm.bin rfl rfl b_neq) ?_
      refine rC ((by first | exact Calm.pickT rfl rfl | exact Calm.pickF rfl rfl)) ?_
      refine arun_nil ?_
      refine athen_n ?_
      refine AWP.sub [(0, _), (1, _), (2, _), (22, _)] ⟨rfl, rfl, rfl, rfl, trivial⟩ ?_
      refine AWP.condF rfl (by first | rfl | (simp; done) | (simp; omega)) ?_
      refine AWP.skip ?_
      refine athen_n ?_
      refine AWP.seq ?_
      refine AWP.seq ?_
      refine AWP.region ?_
      refine rC (Calm.fieldAddr ty_field_47_1 rfl) ?_
      refine rC (ld_ ty_plain_3 rfl) ?_
      refine rC (Calm.bin rfl rfl b_rem) ?_
      refine rC (Calm.assign rfl) ?_
      refine arun_nil ?_
      refine athen_n ?_
      refine AWP.sub [(0, _), (1, _), (2, _), (22, _), (3, _)] ⟨rfl, rfl, rfl, rfl, rfl, trivial⟩ ?_
      refine AWP.seq ?_
      refine AWP.region ?_
      refine rC (Calm.move rfl) ?_
      refine rC (Calm.bin rfl rfl b_gtr) ?_
      refine rC (Calm.move rfl) ?_
      first | refine rS 28 ?_ | refine rU 28 ?_ | refine rG 28 (Calm.fieldAddr ty_field_47_0 rfl) ?_
      first | refine rS 28 ?_ | refine rU 28 ?_ | refine rG 28 (ld_ ty_plain_9 rfl) ?_
      first | refine rS 28 ?_ | refine rU 28 ?_ | refine rG 28 (Calm.fieldAddr ty_field_47_0 rfl) ?_
      first | refine rS 28 ?_ | refine rU 28 ?_ | refine rG 28 (ld_ ty_plain_9 rfl) ?_
      first | refine rS 28 ?_ | refine rU 28 ?_ | refine rG 28 (Calm.lenStr (strT_spec ty_str_9) rfl) ?_
      first | refine rS 28 ?_ | refine rU 28 ?_ | refine rG 28 (Calm.bin rfl rfl b_sub_i64) ?_
      first | refine rS 28 ?_ | refine rU 28 ?_ | refine rG 28 ((by first | exact Calm.indexStrN (strT_spec ty_str_9) rfl rfl (by omega) | exact Calm.indexStr (strT_spec ty_str_9) rfl rfl (by omega) (by omega))) ?_
      first | refine rS 28 ?_ | refine rU 28 ?_ | refine rG 28 (Calm.move rfl) ?_
      first | refine rS 28 ?_ | refine rU 28 ?_ | refine rG 28 (Calm.bin rfl rfl b_shl) ?_
      first | refine rS 28 ?_ | refine rU 28 ?_ | refine rG 28 (Calm.bin rfl rfl b_neq) ?_
      refine rC ((by first | exact Calm.pickT rfl rfl | exact Calm.pickF rfl rfl)) ?_
      refine arun_nil ?_
      refine athen_n ?_
      refine AWP.sub [(0, _), (1, _), (2, _), (22, _), (3, _), (39, _)] ⟨rfl, rfl, rfl, rfl, rfl, rfl, trivial⟩ ?_
      refine AWP.condF rfl (by first | rfl | (simp; done) | (simp; omega)) ?_
      refine AWP.skip ?_
      refine athen_n ?_
      refine AWP.seq ?_
      refine AWP.region ?_
      refine rC (Calm.assign rfl) ?_
      refine arun_nil ?_
      refine athen_n ?_
      refine AWP.ret ?_
      refine ⟨_, S, ⟨_, _, rfl, rfl, rfl⟩, less_, ?_⟩
      exact ⟨rfl, rfl⟩
    · have e1 : ((s.size : Int) - 1).toNat = N.toNat / 8 := by omega
      refine ACall.enter (args := [.agg #[.string s, .int .i64 N]]) (rs := [.tmp 2]) 40 [(0, .agg #[.string s, .int .i64 N])] Try.func56 rfl rfl (Nat.le_of_ble_eq_true rfl) rfl ⟨rfl, trivial⟩ ?_
      refine AWP.seq ?_
      refine AWP.region ?_
      refine ARun.boxA (cs := [_, _]) (lit_lt rfl) rfl ?_
      intro b1 f1
      have g1 := f1
      repeat ((with_reducible replace g1 := fresh_set g1); obtain ⟨g1, _⟩ := g1)
      (try simp only [List.length_cons, List.length_nil, Nat.zero_add, Nat.reduceAdd])
      refine rC (Calm.assign rfl) ?_
      refine arun_nil ?_
      refine athen_n ?_
      refine AWP.seq ?_
      refine AWP.seq ?_
      refine AWP.region ?_
      refine rC (Calm.fieldAddr ty_field_47_1 rfl) ?_
      refine rC (ld_ ty_plain_3 rfl) ?_
      refine rC (Calm.bin rfl rfl b_lss) ?_
      refine rC (Calm.move rfl) ?_
      first | refine rS 7 ?_ | refine rU 7 ?_ | refine rG 7 (Calm.fieldAddr ty_field_47_1 rfl) ?_
      first | refine rS 7 ?_ | refine rU 7 ?_ | refine rG 7 (ld_ ty_plain_3 rfl) ?_
      first | refine rS 7 ?_ | refine rU 7 ?_ | refine rG 7 (Calm.bin rfl rfl b_gtr) ?_
      refine rC ((by first | exact Calm.pickT rfl rfl | exact Calm.pickF rfl rfl)) ?_
      refine rC (Calm.move rfl) ?_
      first | refine rS 12 ?_ | refine rU 12 ?_ | refine rG 12 (Calm.fieldAddr ty_field_47_0 rfl) ?_
      first | refine rS 12 ?_ | refine rU 12 ?_ | refine rG 12 (ld_ ty_plain_9 rfl) ?_
      first | refine rS 12 ?_ | refine rU 12 ?_ | refine rG 12 (Calm.lenStr (strT_spec ty_str_9) rfl) ?_
      first | refine rS 12 ?_ | refine rU 12 ?_ | refine rG 12 (Calm.fieldAddr ty_field_47_1 rfl) ?_
      first | refine rS 12 ?_ | refine rU 12 ?_ | refine rG 12 (ld_ ty_plain_3 rfl) ?_
      first | refine rS 12 ?_ | refine rU 12 ?_ | refine rG 12 (Calm.bin rfl rfl b_add_i64) ?_
      first | refine rS 12 ?_ | refine rU 12 ?_ | refine rG 12 (Calm.bin rfl rfl b_sub_i64) ?_
      first | refine rS 12 ?_ | refine rU 12 ?_ | refine rG 12 (Calm.bin rfl rfl b_quo_i64) ?_
      first | refine rS 12 ?_ | refine rU 12 ?_ | refine rG 12 (Calm.bin rfl rfl b_neq) ?_
      refine rC ((by first | exact Calm.pickT rfl rfl | exact Calm.pickF rfl rfl)) ?_
      refine arun_nil ?_
      refine athen_n ?_
      refine AWP.sub [(0, _), (1, _), (2, _), (22, _)] ⟨rfl, rfl, rfl, rfl, trivial⟩ ?_
      refine AWP.condF rfl (by first | rfl | (simp; done) | (simp; omega)) ?_
      rw [← e1] at hR
      refine AWP.skip ?_
      refine athen_n ?_
      refine AWP.seq ?_
      refine AWP.seq ?_
      refine AWP.region ?_
      refine rC (Calm.fieldAddr ty_field_47_1 rfl) ?_
      refine rC (ld_ ty_plain_3 rfl) ?_
      refine rC (Calm.bin rfl rfl b_rem) ?_
      refine rC (Calm.assign rfl) ?_
      refine arun_nil ?_
      refine athen_n ?_
      refine AWP.sub [(0, _), (1, _), (2, _), (22, _), (3, _)] ⟨rfl, rfl, rfl, rfl, rfl, trivial⟩ ?_
      refine AWP.seq ?_
      refine AWP.region ?_
      refine rC (Calm.move rfl) ?_
      refine rC (Calm.bin rfl rfl b_gtr) ?_
      refine rC (Calm.move rfl) ?_
      first | refine rS 28 ?_ | refine rU 28 ?_ | refine rG 28 (Calm.fieldAddr ty_field_47_0 rfl) ?_
      first | refine rS 28 ?_ | refine rU 28 ?_ | refine rG 28 (ld_ ty_plain_9 rfl) ?_
      first | refine rS 28 ?_ | refine rU 28 ?_ | refine rG 28 (Calm.fieldAddr ty_field_47_0 rfl) ?_
      first | refine rS 28 ?_ | refine rU 28 ?_ | refine rG 28 (ld_ ty_plain_9 rfl) ?_
      first | refine rS 28 ?_ | refine rU 28 ?_ | refine rG 28 (Calm.lenStr (strT_spec ty_str_9) rfl) ?_
      first | refine rS 28 ?_ | refine rU 28 ?_ | refine rG 28 (Calm.bin rfl rfl b_sub_i64) ?_
      first | refine rS 28 ?_ | refine rU 28 ?_ | refine rG 28 ((by first | exact Calm.indexStrN (strT_spec ty_str_9) rfl rfl (by omega) | exact Calm.indexStr (strT_spec ty_str_9) rfl rfl (by omega) (by omega))) ?_
      first | refine rS 28 ?_ | refine rU 28 ?_ | refine rG 28 (Calm.move rfl) ?_
      first | refine rS 28 ?_ | refine rU 28 ?_ | refine rG 28 (Calm.bin rfl rfl b_shl) ?_
      first | refine rS 28 ?_ | refine rU 28 ?_ | refine rG 28 (Calm.bin rfl rfl b_neq) ?_
      refine rC ((by first | exact Calm.pickT rfl rfl | exact Calm.pickF rfl rfl)) ?_
      refine arun_nil ?_
      refine athen_n ?_
      refine AWP.sub [(0, _), (1, _), (2, _), (22, _), (3, _), (39, _)] ⟨rfl, rfl, rfl, rfl, rfl, rfl, trivial⟩ ?_
      refine AWP.condB rfl (fun hc => ?_) (fun hc => ?_)
      · refine AWP.seq ?_
        refine AWP.region ?_
        refine rC (Calm.assign rfl) ?_
        refine arun_nil ?_
        refine athen_n ?_
        refine AWP.ret ?_
        refine athen_ret ?_
        refine ⟨_, S, ⟨_, _, rfl, rfl, rfl⟩, less_, ?_⟩
        exact ⟨by rw [chk_no (fun h => by rcases hR.1 h with h | h; exact h4 h; exact bnot_t hc h)]; rfl, rfl⟩
      · refine AWP.skip ?_
        refine athen_n ?_
        refine AWP.seq ?_
        refine AWP.region ?_
        refine rC (Calm.assign rfl) ?_
        refine arun_nil ?_
        refine athen_n ?_
        refine AWP.ret ?_
        refine ⟨_, S, ⟨_, _, rfl, rfl, rfl⟩, less_, ?_⟩
        exact ⟨by rw [chk_yes (hR.2 (.inr (bnot_f hc)))]; rfl, rfl⟩
  · rw [chk_no (fun h => h3 (by have := h.2.2.1; omega))]
    refine ACall.enter (args := [.agg #[.string s, .int .i64 N]]) (rs := [.tmp 2]) 40 [(0, .agg #[.string s, .int .i64 N])] Try.func56 rfl rfl (Nat.le_of_ble_eq_true rfl) rfl ⟨rfl, trivial⟩ ?_
    refine AWP.seq ?_
    refine AWP.region ?_
    refine ARun.boxA (cs := [_, _]) (lit_lt rfl) rfl ?_
    intro b1 f1
    have g1 := f1
    repeat ((with_reducible replace g1 := fresh_set g1); obtain ⟨g1, _⟩ := g1)
    (try simp only [List.length_cons, List.length_nil, Nat.zero_add, Nat.reduceAdd])
    refine rC (Calm.assign rfl) ?_
    refine arun_nil ?_
    refine athen_n ?_
    refine AWP.seq ?_
    refine AWP.seq ?_
    refine AWP.region ?_
    refine rC (Calm.fieldAddr ty_field_47_1 rfl) ?_
    refine rC (ld_ ty_plain_3 rfl) ?_
    refine rC (Calm.bin rfl rfl b_lss) ?_
    refine rC (Calm.move rfl) ?_
    first | refine rS 7 ?_ | refine rU 7 ?_ | refine rG 7 (Calm.fieldAddr ty_field_47_1 rfl) ?_
    first | refine rS 7 ?_ | refine rU 7 ?_ | refine rG 7 (ld_ ty_plain_3 rfl) ?_
    first | refine rS 7 ?_ | refine rU 7 ?_ | refine rG 7 (Calm.bin rfl rfl b_gtr) ?_
    refine rC ((by first | exact Calm.pickT rfl rfl | exact Calm.pickF rfl rfl)) ?_
    refine rC (Calm.move rfl) ?_
    first | refine rS 12 ?_ | refine rU 12 ?_ | refine rG 12 (Calm.fieldAddr ty_field_47_0 rfl) ?_
    first | refine rS 12 ?_ | refine rU 12 ?_ | refine rG 12 (ld_ ty_plain_9 rfl) ?_
    first | refine rS 12 ?_ | refine rU 12 ?_ | refine rG 12 (Calm.lenStr (strT_spec ty_str_9) rfl) ?_
    first | refine rS 12 ?_ | refine rU 12 ?_ | refine rG 12 (Calm.fieldAddr ty_field_47_1 rfl) ?_
    first | refine rS 12 ?_ | refine rU 12 ?_ | refine rG 12 (ld_ ty_plain_3 rfl) ?_
    first | refine rS 12 ?_ | refine rU 12 ?_ | refine rG 12 (Calm.bin rfl rfl b_add_i64) ?_
    first | refine rS 12 ?_ | refine rU 12 ?_ | refine rG 12 (Calm.bin rfl rfl b_sub_i64) ?_
    first | refine rS 12 ?_ | refine rU 12 ?_ | refine rG 12 (Calm.bin rfl rfl b_quo_i64) ?_
    first | refine rS 12 ?_ | refine rU 12 ?_ | refine rG 12 (Calm.bin rfl rfl b_neq) ?_
    refine rC ((by first | exact Calm.pickT rfl rfl | exact Calm.pickF rfl rfl)) ?_
    refine arun_nil ?_
    refine athen_n ?_
    refine AWP.sub [(0, _), (1, _), (2, _), (22, _)] ⟨rfl, rfl, rfl, rfl, trivial⟩ ?_
    refine AWP.condT rfl (by first | rfl | (simp; done) | (simp; omega)) ?_
    refine AWP.seq ?_
    refine AWP.region ?_
    refine rC (Calm.assign rfl) ?_
    refine arun_nil ?_
    refine athen_n ?_
    refine AWP.ret ?_
    refine athen_ret ?_
    refine ⟨_, S, ⟨_, _, rfl, rfl, rfl⟩, less_, ?_⟩
    exact ⟨rfl, rfl⟩
end Go.Proofs.Ytddabbfjoejalaa
