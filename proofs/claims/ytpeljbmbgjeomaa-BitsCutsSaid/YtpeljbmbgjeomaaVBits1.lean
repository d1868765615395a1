/-
  The plain answers of the layer of bits; the walks of wide, Check, Put, Get.
-/
import Derived.Test.YtpeljbmbgjeomaaVBitsW
import Derived.Test.YtpeljbmbgjeomaaBitsLib
namespace Go.Proofs.Ytpeljbmbgjeomaa
open Go.RowKit
open Bits Mv
set_option linter.unusedVariables false
set_option linter.unusedSimpArgs false
namespace Bits
/-- A Bitstr. -/
def bv (s : ByteArray) (N : Int) : Value := .agg #[.string s, .int .i64 N]
def bv0 : Value := bv ByteArray.empty 0
def two (a : Value) (e : Int) : Value := .tuple #[a, .int .i64 e]
noncomputable def putP (s : ByteArray) (N v width : Int) : Value :=
  if chk s.data.toList N ≠ 0 then two bv0 2
  else if ¬ (0 ≤ width ∧ width ≤ 64) ∨ width < Lib.bitLen v.toNat then two (bv s N) 1
  else if 1048576 - width < N then two (bv s N) 8
  else two (bv (bs (pack (upto s.data.toList N.toNat ++ numB v.toNat width.toNat))) (N + width)) 0
noncomputable def getP (s : ByteArray) (N at_ width : Int) : Value :=
  if chk s.data.toList N ≠ 0 then two (.int .u64 0) 2
  else if ¬ (0 ≤ width ∧ width ≤ 64) ∨ at_ < 0 ∨ N < at_ then two (.int .u64 0) 1
  else if N - at_ < width then two (.int .u64 0) 5
  else two (.int .u64 (num (slc s.data.toList at_.toNat width.toNat) : Nat)) 0
theorem chk_right {B : List UInt8} {N : Int} (h : chk B N = 0) : right B N := by
  unfold chk at h
  split at h
  · assumption
  · cases h
theorem chk_two {B : List UInt8} {N : Int} (h : ¬ chk B N = 0) : chk B N = 2 := by
  unfold chk at h ⊢
  split at h
  · exact absurd rfl h
  · rename_i hn; rw [if_neg hn]
theorem tab_ones (l : List UInt8) (hl : ∀ j : Fin 256, nb (at8 l j.val) = (Lib.onesCount j.val : Int)) (x : Int) (h0 : 0 ≤ x) (h1 : x ≤ 255) : nb (at8 l x.toNat) = (Lib.onesCount x.toNat : Int) := hl ⟨x.toNat, by omega⟩
theorem bnot_t {p : Prop} [Decidable p] (h : (!decide p) = true) : ¬ p := by simpa using h
theorem bnot_f {p : Prop} [Decidable p] (h : (!decide p) = false) : p := by simpa using h
theorem wrM_nil (S : Mem) (p : Nat) : wrM S p none [] = S.set p ⟨65, [.slice none 0 0, .int .u64 0, .int .i64 0], 3⟩ := rfl
theorem okW_nil {S : Mem} {p : Nat} (h : Fresh S p) : OkW S p none [] := ⟨h, fun _ => by simp, fun b c e => by cases e⟩
theorem own_wrM_ok {S : Mem} {p b : Nat} {o : Option (Nat × Nat)} {L : List Bool} {r : Blk} (hk : OkW S p o L) (h : S.own b = some r) : (wrM S p o L).own b = some r :=
  own_wrM S p o L b r (hk.fp.ne h) (fun q c e => (hk.own q c e).1.ne h) h
theorem chk_no {B : List UInt8} {N : Int} (h : ¬ right B N) : chk B N = 2 := if_neg h
theorem chk_yes {B : List UInt8} {N : Int} (h : right B N) : chk B N = 0 := if_pos h
theorem right_iff (B : List UInt8) (N : Int) (h0 : 0 ≤ N) (h1 : N ≤ 1048576) (h2 : B.length = (N.toNat + 7) / 8) : right B N ↔ (N % 8 = 0 ∨ IntKind.u8.wrap (nb (at8 B (N.toNat / 8)) * 2 ^ (N % 8).toNat) = 0) := by
  unfold right
  rw [right_last B N.toNat h2]
  have e : (N % 8).toNat = N.toNat % 8 := by omega
  have hz := shl_zero (at8 B (N.toNat / 8)) (N.toNat % 8) (by omega)
  rw [IntKind.wrap_u8, e, hz]
  constructor
  · rintro ⟨_, _, h | h⟩
    · exact .inl (by omega)
    · exact .inr h
  · rintro (h | h)
    · exact ⟨h0, h1, .inl (by omega)⟩
    · exact ⟨h0, h1, .inr h⟩
end Bits
set_option maxRecDepth 100000 in
theorem bits_Ones8 (x : Int) (S : Mem) (h0 : 0 ≤ x) (h1 : x ≤ 255) : ACall Try.prog 58 #[.int .u8 x] S fun r S' => r = .int .i64 (Lib.onesCount x.toNat) ∧ S' = S := by
  refine ACall.enter (args := [.int .u8 x]) (rs := [.tmp 2]) 6 [(0, .int .u8 x)] Try.func58 rfl rfl (Nat.le_of_ble_eq_true rfl) rfl ⟨rfl, trivial⟩ ?_
  refine AWP.seq ?_
  refine AWP.region ?_
  refine ARun.calm rfl rfl (lit_lt rfl) (Calm.assign rfl) ?_
  refine arun_nil ?_
  refine athen_n ?_
  refine AWP.seq ?_
  refine AWP.region ?_
  refine ARun.calm rfl rfl (lit_lt rfl) (Calm.move rfl) ?_
  refine ARun.calm rfl rfl (lit_lt rfl) (Calm.indexStr (strT_spec ty_str_9) rfl rfl (by omega) (by simp [ByteArray.size]; omega)) ?_
  refine ARun.calm rfl rfl (lit_lt rfl) (Calm.conv rfl (by first | exact conv_intW Try.underlying5 Try.underlying3 (IntWalk.i64_in _ (by omega)) | exact conv_intW Try.underlying5 Try.underlying3 (wrap_nb_i64 _) | exact conv_int Try.underlying5 Try.underlying3)) ?_
  refine ARun.calm rfl rfl (lit_lt rfl) (Calm.assign rfl) ?_
  refine arun_nil ?_
  refine athen_n ?_
  refine AWP.sub [(0, _), (2, _)] ⟨rfl, rfl, trivial⟩ ?_
  refine AWP.ret ?_
  refine ⟨_, _, ⟨_, _, rfl, rfl, rfl⟩, (by first | with_reducible exact Mem.Less.refl _ | ((with_reducible refine Mem.less_set _ _ _ (Fresh.own ?_)); with_reducible assumption) | (refine less_of ?_; (repeat first | with_reducible exact LessB.refl _ _ | ((with_reducible refine LessB.set ?_ ?_); ((repeat first | ((with_reducible refine (Mem.own_set_other _ _ ?_).trans ?_); (first | assumption | (apply Ne.symm; assumption))) | ((with_reducible refine (Mem.own_del_other _ ?_).trans ?_); (first | assumption | (apply Ne.symm; assumption)))); (first | with_reducible exact Mem.own_set_same _ _ _ | with_reducible assumption | exact Mem.own_set_same _ _ _))) | (with_reducible refine LessB.delL ?_)); (repeat first | with_reducible exact LessB.refl _ _ | ((with_reducible refine LessB.of ?_); with_reducible assumption) | ((with_reducible refine LessB.skip ?_ ?_); (first | ((refine .inl ?_); simp; done) | ((refine .inr (Fresh.own ?_)); with_reducible assumption) | ((refine .inr ?_); with_reducible assumption))) | ((with_reducible refine LessB.skipDel ?_ ?_); (first | ((refine .inl ?_); simp; done) | ((refine .inr (Fresh.own ?_)); with_reducible assumption) | ((refine .inr ?_); with_reducible assumption)))))), ?_⟩
  exact ⟨val_int (tab_ones _ (by decide +kernel) x h0 h1), rfl⟩
theorem bits_wide (x : Int) (S : Mem) : ACall Try.prog 47 #[.int .i64 x] S fun r S' => r = .bool (decide (0 ≤ x ∧ x ≤ 64)) ∧ S' = S := by
  by_cases h0 : 0 ≤ x
  · by_cases h1 : x ≤ 64
    · rw [decide_eq_true (⟨h0, h1⟩ : 0 ≤ x ∧ x ≤ 64)]
      refine ACall.enter (args := [.int .i64 x]) (rs := [.tmp 2]) 9 [(0, .int .i64 x)] Try.func47 rfl rfl (Nat.le_of_ble_eq_true rfl) rfl ⟨rfl, trivial⟩ ?_
      refine AWP.seq ?_
      refine AWP.region ?_
      refine ARun.calm rfl rfl (lit_lt rfl) (Calm.assign rfl) ?_
      refine arun_nil ?_
      refine athen_n ?_
      refine AWP.seq ?_
      refine AWP.region ?_
      refine ARun.calm rfl rfl (lit_lt rfl) (Calm.move rfl) ?_
      refine ARun.calm rfl rfl (lit_lt rfl) (Calm.bin rfl rfl (by first | exact bin_bool (bin_geq _ _) (decide_eq_true (by omega)) | exact bin_bool (bin_geq _ _) (decide_eq_false (by omega)) | exact bin_geq _ _)) ?_
      refine ARun.calm rfl rfl (lit_lt rfl) (Calm.move rfl) ?_
      first | refine ARun.skipG 2 true _ 5 rfl rfl (lit_lt rfl) rfl rfl rfl (lit_lt rfl) ?_ | refine ARun.skipU 2 true 5 rfl rfl (lit_lt rfl) rfl rfl (lit_lt rfl) ?_ | refine ARun.calmG 2 true 5 rfl rfl (lit_lt rfl) rfl rfl (lit_lt rfl) (Calm.move rfl) ?_
      first | refine ARun.skipG 2 true _ 5 rfl rfl (lit_lt rfl) rfl rfl rfl (lit_lt rfl) ?_ | refine ARun.skipU 2 true 5 rfl rfl (lit_lt rfl) rfl rfl (lit_lt rfl) ?_ | refine ARun.calmG 2 true 5 rfl rfl (lit_lt rfl) rfl rfl (lit_lt rfl) (Calm.bin rfl rfl (by first | exact bin_bool (bin_leq _ _) (decide_eq_true (by omega)) | exact bin_bool (bin_leq _ _) (decide_eq_false (by omega)) | exact bin_leq _ _)) ?_
      refine ARun.calm rfl rfl (lit_lt rfl) ((by first | exact Calm.pickT rfl rfl | exact Calm.pickF rfl rfl)) ?_
      refine ARun.calm rfl rfl (lit_lt rfl) (Calm.assign rfl) ?_
      refine arun_nil ?_
      refine athen_n ?_
      refine AWP.sub [(0, _), (2, _)] ⟨rfl, rfl, trivial⟩ ?_
      refine AWP.ret ?_
      refine ⟨_, _, ⟨_, _, rfl, rfl, rfl⟩, (by first | with_reducible exact Mem.Less.refl _ | ((with_reducible refine Mem.less_set _ _ _ (Fresh.own ?_)); with_reducible assumption) | (refine less_of ?_; (repeat first | with_reducible exact LessB.refl _ _ | ((with_reducible refine LessB.set ?_ ?_); ((repeat first | ((with_reducible refine (Mem.own_set_other _ _ ?_).trans ?_); (first | assumption | (apply Ne.symm; assumption))) | ((with_reducible refine (Mem.own_del_other _ ?_).trans ?_); (first | assumption | (apply Ne.symm; assumption)))); (first | with_reducible exact Mem.own_set_same _ _ _ | with_reducible assumption | exact Mem.own_set_same _ _ _))) | (with_reducible refine LessB.delL ?_)); (repeat first | with_reducible exact LessB.refl _ _ | ((with_reducible refine LessB.of ?_); with_reducible assumption) | ((with_reducible refine LessB.skip ?_ ?_); (first | ((refine .inl ?_); simp; done) | ((refine .inr (Fresh.own ?_)); with_reducible assumption) | ((refine .inr ?_); with_reducible assumption))) | ((with_reducible refine LessB.skipDel ?_ ?_); (first | ((refine .inl ?_); simp; done) | ((refine .inr (Fresh.own ?_)); with_reducible assumption) | ((refine .inr ?_); with_reducible assumption)))))), ?_⟩
      exact ⟨rfl, rfl⟩
    · rw [decide_eq_false (fun h => h1 h.2 : ¬ (0 ≤ x ∧ x ≤ 64))]
      refine ACall.enter (args := [.int .i64 x]) (rs := [.tmp 2]) 9 [(0, .int .i64 x)] Try.func47 rfl rfl (Nat.le_of_ble_eq_true rfl) rfl ⟨rfl, trivial⟩ ?_
      refine AWP.seq ?_
      refine AWP.region ?_
      refine ARun.calm rfl rfl (lit_lt rfl) (Calm.assign rfl) ?_
      refine arun_nil ?_
      refine athen_n ?_
      refine AWP.seq ?_
      refine AWP.region ?_
      refine ARun.calm rfl rfl (lit_lt rfl) (Calm.move rfl) ?_
      refine ARun.calm rfl rfl (lit_lt rfl) (Calm.bin rfl rfl (by first | exact bin_bool (bin_geq _ _) (decide_eq_true (by omega)) | exact bin_bool (bin_geq _ _) (decide_eq_false (by omega)) | exact bin_geq _ _)) ?_
      refine ARun.calm rfl rfl (lit_lt rfl) (Calm.move rfl) ?_
      first | refine ARun.skipG 2 true _ 5 rfl rfl (lit_lt rfl) rfl rfl rfl (lit_lt rfl) ?_ | refine ARun.skipU 2 true 5 rfl rfl (lit_lt rfl) rfl rfl (lit_lt rfl) ?_ | refine ARun.calmG 2 true 5 rfl rfl (lit_lt rfl) rfl rfl (lit_lt rfl) (Calm.move rfl) ?_
      first | refine ARun.skipG 2 true _ 5 rfl rfl (lit_lt rfl) rfl rfl rfl (lit_lt rfl) ?_ | refine ARun.skipU 2 true 5 rfl rfl (lit_lt rfl) rfl rfl (lit_lt rfl) ?_ | refine ARun.calmG 2 true 5 rfl rfl (lit_lt rfl) rfl rfl (lit_lt rfl) (Calm.bin rfl rfl (by first | exact bin_bool (bin_leq _ _) (decide_eq_true (by omega)) | exact bin_bool (bin_leq _ _) (decide_eq_false (by omega)) | exact bin_leq _ _)) ?_
      refine ARun.calm rfl rfl (lit_lt rfl) ((by first | exact Calm.pickT rfl rfl | exact Calm.pickF rfl rfl)) ?_
      refine ARun.calm rfl rfl (lit_lt rfl) (Calm.assign rfl) ?_
      refine arun_nil ?_
      refine athen_n ?_
      refine AWP.sub [(0, _), (2, _)] ⟨rfl, rfl, trivial⟩ ?_
      refine AWP.ret ?_
      refine ⟨_, _, ⟨_, _, rfl, rfl, rfl⟩, (by first | with_reducible exact Mem.Less.refl _ | ((with_reducible refine Mem.less_set _ _ _ (Fresh.own ?_)); with_reducible assumption) | (refine less_of ?_; (repeat first | with_reducible exact LessB.refl _ _ | ((with_reducible refine LessB.set ?_ ?_); ((repeat first | ((with_reducible refine (Mem.own_set_other _ _ ?_).trans ?_); (first | assumption | (apply Ne.symm; assumption))) | ((with_reducible refine (Mem.own_del_other _ ?_).trans ?_); (first | assumption | (apply Ne.symm; assumption)))); (first | with_reducible exact Mem.own_set_same _ _ _ | with_reducible assumption | exact Mem.own_set_same _ _ _))) | (with_reducible refine LessB.delL ?_)); (repeat first | with_reducible exact LessB.refl _ _ | ((with_reducible refine LessB.of ?_); with_reducible assumption) | ((with_reducible refine LessB.skip ?_ ?_); (first | ((refine .inl ?_); simp; done) | ((refine .inr (Fresh.own ?_)); with_reducible assumption) | ((refine .inr ?_); with_reducible assumption))) | ((with_reducible refine LessB.skipDel ?_ ?_); (first | ((refine .inl ?_); simp; done) | ((refine .inr (Fresh.own ?_)); with_reducible assumption) | ((refine .inr ?_); with_reducible assumption)))))), ?_⟩
      exact ⟨rfl, rfl⟩
  · rw [decide_eq_false (fun h => h0 h.1 : ¬ (0 ≤ x ∧ x ≤ 64))]
    refine ACall.enter (args := [.int .i64 x]) (rs := [.tmp 2]) 9 [(0, .int .i64 x)] Try.func47 rfl rfl (Nat.le_of_ble_eq_true rfl) rfl ⟨rfl, trivial⟩ ?_
    refine AWP.seq ?_
    refine AWP.region ?_
    refine ARun.calm rfl rfl (lit_lt rfl) (Calm.assign rfl) ?_
    refine arun_nil ?_
    refine athen_n ?_
    refine AWP.seq ?_
    refine AWP.region ?_
    refine ARun.calm rfl rfl (lit_lt rfl) (Calm.move rfl) ?_
    refine ARun.calm rfl rfl (lit_lt rfl) (Calm.bin rfl rfl (by first | exact bin_bool (bin_geq _ _) (decide_eq_true (by omega)) | exact bin_bool (bin_geq _ _) (decide_eq_false (by omega)) | exact bin_geq _ _)) ?_
    refine ARun.calm rfl rfl (lit_lt rfl) (Calm.move rfl) ?_
    first | refine ARun.skipG 2 true _ 5 rfl rfl (lit_lt rfl) rfl rfl rfl (lit_lt rfl) ?_ | refine ARun.skipU 2 true 5 rfl rfl (lit_lt rfl) rfl rfl (lit_lt rfl) ?_ | refine ARun.calmG 2 true 5 rfl rfl (lit_lt rfl) rfl rfl (lit_lt rfl) (Calm.move rfl) ?_
    first | refine ARun.skipG 2 true _ 5 rfl rfl (lit_lt rfl) rfl rfl rfl (lit_lt rfl) ?_ | refine ARun.skipU 2 true 5 rfl rfl (lit_lt rfl) rfl rfl (lit_lt rfl) ?_ | refine ARun.calmG 2 true 5 rfl rfl (lit_lt rfl) rfl rfl (lit_lt rfl) (Calm.bin rfl rfl (by first | exact bin_bool (bin_leq _ _) (decide_eq_true (by omega)) | exact bin_bool (bin_leq _ _) (decide_eq_false (by omega)) | exact bin_leq _ _)) ?_
    refine ARun.calm rfl rfl (lit_lt rfl) ((by first | exact Calm.pickT rfl rfl | exact Calm.pickF rfl rfl)) ?_
    refine ARun.calm rfl rfl (lit_lt rfl) (Calm.assign rfl) ?_
    refine arun_nil ?_
    refine athen_n ?_
    refine AWP.sub [(0, _), (2, _)] ⟨rfl, rfl, trivial⟩ ?_
    refine AWP.ret ?_
    refine ⟨_, _, ⟨_, _, rfl, rfl, rfl⟩, (by first | with_reducible exact Mem.Less.refl _ | ((with_reducible refine Mem.less_set _ _ _ (Fresh.own ?_)); with_reducible assumption) | (refine less_of ?_; (repeat first | with_reducible exact LessB.refl _ _ | ((with_reducible refine LessB.set ?_ ?_); ((repeat first | ((with_reducible refine (Mem.own_set_other _ _ ?_).trans ?_); (first | assumption | (apply Ne.symm; assumption))) | ((with_reducible refine (Mem.own_del_other _ ?_).trans ?_); (first | assumption | (apply Ne.symm; assumption)))); (first | with_reducible exact Mem.own_set_same _ _ _ | with_reducible assumption | exact Mem.own_set_same _ _ _))) | (with_reducible refine LessB.delL ?_)); (repeat first | with_reducible exact LessB.refl _ _ | ((with_reducible refine LessB.of ?_); with_reducible assumption) | ((with_reducible refine LessB.skip ?_ ?_); (first | ((refine .inl ?_); simp; done) | ((refine .inr (Fresh.own ?_)); with_reducible assumption) | ((refine .inr ?_); with_reducible assumption))) | ((with_reducible refine LessB.skipDel ?_ ?_); (first | ((refine .inl ?_); simp; done) | ((refine .inr (Fresh.own ?_)); with_reducible assumption) | ((refine .inr ?_); with_reducible assumption)))))), ?_⟩
    exact ⟨rfl, rfl⟩
set_option maxHeartbeats 1000000 in
theorem bitsV_Check (s : ByteArray) (N : Int) (S : Mem) (hs : s.size ≤ 9223372036854775807) :
    ACall Try.prog 20 #[.agg #[.string s, .int .i64 N]] S fun r S' => r = .int .i64 (chk s.data.toList N) ∧ S' = S := by
  by_cases h1 : N < 0
  · rw [chk_no (fun h => by have := h.1; omega)]
    refine ACall.enter (args := [.agg #[.string s, .int .i64 N]]) (rs := [.tmp 2]) 40 [(0, .agg #[.string s, .int .i64 N])] Try.func20 rfl rfl (Nat.le_of_ble_eq_true rfl) rfl ⟨rfl, trivial⟩ ?_
    refine AWP.seq ?_
    refine AWP.region ?_
    refine ARun.boxA (cs := [_, _]) (lit_lt rfl) rfl ?_
    intro b1 f1
    have g1 := f1
    repeat ((with_reducible replace g1 := fresh_set g1); obtain ⟨g1, _⟩ := g1)
    (try simp only [List.length_cons, List.length_nil, Nat.zero_add, Nat.reduceAdd])
    refine ARun.calm rfl rfl (lit_lt rfl) (Calm.assign rfl) ?_
    refine arun_nil ?_
    refine athen_n ?_
    refine AWP.seq ?_
    refine AWP.seq ?_
    refine AWP.region ?_
    refine ARun.calm rfl rfl (lit_lt rfl) (Calm.fieldAddr ty_field_23_1 rfl) ?_
    refine ARun.calm rfl rfl (lit_lt rfl) (Calm.load ty_plain_3 rfl ((by (repeat ((with_reducible refine (rd_set_ne _ _ ?_).trans ?_); (first | assumption | (apply Ne.symm; assumption)))); (first | ((with_reducible refine (rd_set_same _ _ _ _).trans ?_); rfl) | ((with_reducible apply rd_own'); (with_reducible assumption); rfl) | with_reducible assumption)))) ?_
    refine ARun.calm rfl rfl (lit_lt rfl) (Calm.bin rfl rfl (by first | exact bin_bool (bin_lss _ _) (decide_eq_true (by omega)) | exact bin_bool (bin_lss _ _) (decide_eq_false (by omega)) | exact bin_lss _ _)) ?_
    refine ARun.calm rfl rfl (lit_lt rfl) (Calm.move rfl) ?_
    first | refine ARun.skipG 3 false _ 7 rfl rfl (lit_lt rfl) rfl rfl rfl (lit_lt rfl) ?_ | refine ARun.skipU 3 false 7 rfl rfl (lit_lt rfl) rfl rfl (lit_lt rfl) ?_ | refine ARun.calmG 3 false 7 rfl rfl (lit_lt rfl) rfl rfl (lit_lt rfl) (Calm.fieldAddr ty_field_23_1 rfl) ?_
    first | refine ARun.skipG 3 false _ 7 rfl rfl (lit_lt rfl) rfl rfl rfl (lit_lt rfl) ?_ | refine ARun.skipU 3 false 7 rfl rfl (lit_lt rfl) rfl rfl (lit_lt rfl) ?_ | refine ARun.calmG 3 false 7 rfl rfl (lit_lt rfl) rfl rfl (lit_lt rfl) (Calm.load ty_plain_3 rfl ((by (repeat ((with_reducible refine (rd_set_ne _ _ ?_).trans ?_); (first | assumption | (apply Ne.symm; assumption)))); (first | ((with_reducible refine (rd_set_same _ _ _ _).trans ?_); rfl) | ((with_reducible apply rd_own'); (with_reducible assumption); rfl) | with_reducible assumption)))) ?_
    first | refine ARun.skipG 3 false _ 7 rfl rfl (lit_lt rfl) rfl rfl rfl (lit_lt rfl) ?_ | refine ARun.skipU 3 false 7 rfl rfl (lit_lt rfl) rfl rfl (lit_lt rfl) ?_ | refine ARun.calmG 3 false 7 rfl rfl (lit_lt rfl) rfl rfl (lit_lt rfl) (Calm.bin rfl rfl (by first | exact bin_bool (bin_gtr _ _) (decide_eq_true (by omega)) | exact bin_bool (bin_gtr _ _) (decide_eq_false (by omega)) | exact bin_gtr _ _)) ?_
    refine ARun.calm rfl rfl (lit_lt rfl) ((by first | exact Calm.pickT rfl rfl | exact Calm.pickF rfl rfl)) ?_
    refine ARun.calm rfl rfl (lit_lt rfl) (Calm.move rfl) ?_
    first | refine ARun.skipG 8 false _ 12 rfl rfl (lit_lt rfl) rfl rfl rfl (lit_lt rfl) ?_ | refine ARun.skipU 8 false 12 rfl rfl (lit_lt rfl) rfl rfl (lit_lt rfl) ?_ | refine ARun.calmG 8 false 12 rfl rfl (lit_lt rfl) rfl rfl (lit_lt rfl) (Calm.fieldAddr ty_field_23_0 rfl) ?_
    first | refine ARun.skipG 8 false _ 12 rfl rfl (lit_lt rfl) rfl rfl rfl (lit_lt rfl) ?_ | refine ARun.skipU 8 false 12 rfl rfl (lit_lt rfl) rfl rfl (lit_lt rfl) ?_ | refine ARun.calmG 8 false 12 rfl rfl (lit_lt rfl) rfl rfl (lit_lt rfl) (Calm.load ty_plain_9 rfl ((by (repeat ((with_reducible refine (rd_set_ne _ _ ?_).trans ?_); (first | assumption | (apply Ne.symm; assumption)))); (first | ((with_reducible refine (rd_set_same _ _ _ _).trans ?_); rfl) | ((with_reducible apply rd_own'); (with_reducible assumption); rfl) | with_reducible assumption)))) ?_
    first | refine ARun.skipG 8 false _ 12 rfl rfl (lit_lt rfl) rfl rfl rfl (lit_lt rfl) ?_ | refine ARun.skipU 8 false 12 rfl rfl (lit_lt rfl) rfl rfl (lit_lt rfl) ?_ | refine ARun.calmG 8 false 12 rfl rfl (lit_lt rfl) rfl rfl (lit_lt rfl) (Calm.lenStr (strT_spec ty_str_9) rfl) ?_
    first | refine ARun.skipG 8 false _ 12 rfl rfl (lit_lt rfl) rfl rfl rfl (lit_lt rfl) ?_ | refine ARun.skipU 8 false 12 rfl rfl (lit_lt rfl) rfl rfl (lit_lt rfl) ?_ | refine ARun.calmG 8 false 12 rfl rfl (lit_lt rfl) rfl rfl (lit_lt rfl) (Calm.fieldAddr ty_field_23_1 rfl) ?_
    first | refine ARun.skipG 8 false _ 12 rfl rfl (lit_lt rfl) rfl rfl rfl (lit_lt rfl) ?_ | refine ARun.skipU 8 false 12 rfl rfl (lit_lt rfl) rfl rfl (lit_lt rfl) ?_ | refine ARun.calmG 8 false 12 rfl rfl (lit_lt rfl) rfl rfl (lit_lt rfl) (Calm.load ty_plain_3 rfl ((by (repeat ((with_reducible refine (rd_set_ne _ _ ?_).trans ?_); (first | assumption | (apply Ne.symm; assumption)))); (first | ((with_reducible refine (rd_set_same _ _ _ _).trans ?_); rfl) | ((with_reducible apply rd_own'); (with_reducible assumption); rfl) | with_reducible assumption)))) ?_
    first | refine ARun.skipG 8 false _ 12 rfl rfl (lit_lt rfl) rfl rfl rfl (lit_lt rfl) ?_ | refine ARun.skipU 8 false 12 rfl rfl (lit_lt rfl) rfl rfl (lit_lt rfl) ?_ | refine ARun.calmG 8 false 12 rfl rfl (lit_lt rfl) rfl rfl (lit_lt rfl) (Calm.bin rfl rfl (by first | exact bin_addW (IntWalk.i64_in _ (by omega)) | exact bin_add _ _)) ?_
    first | refine ARun.skipG 8 false _ 12 rfl rfl (lit_lt rfl) rfl rfl rfl (lit_lt rfl) ?_ | refine ARun.skipU 8 false 12 rfl rfl (lit_lt rfl) rfl rfl (lit_lt rfl) ?_ | refine ARun.calmG 8 false 12 rfl rfl (lit_lt rfl) rfl rfl (lit_lt rfl) (Calm.bin rfl rfl (by first | exact bin_subW (IntWalk.i64_in _ (by omega)) | exact bin_sub _ _)) ?_
    first | refine ARun.skipG 8 false _ 12 rfl rfl (lit_lt rfl) rfl rfl rfl (lit_lt rfl) ?_ | refine ARun.skipU 8 false 12 rfl rfl (lit_lt rfl) rfl rfl (lit_lt rfl) ?_ | refine ARun.calmG 8 false 12 rfl rfl (lit_lt rfl) rfl rfl (lit_lt rfl) (Calm.bin rfl rfl (by first | exact bin_quoN (by omega) (IntWalk.i64_quo _ _ (by omega)) | exact bin_quo (by omega))) ?_
    first | refine ARun.skipG 8 false _ 12 rfl rfl (lit_lt rfl) rfl rfl rfl (lit_lt rfl) ?_ | refine ARun.skipU 8 false 12 rfl rfl (lit_lt rfl) rfl rfl (lit_lt rfl) ?_ | refine ARun.calmG 8 false 12 rfl rfl (lit_lt rfl) rfl rfl (lit_lt rfl) (Calm.bin rfl rfl (by first | exact bin_bool (bin_neq _ _) (bnot_dec_true (by omega)) | exact bin_bool (bin_neq _ _) (bnot_dec_false (by omega)) | exact bin_neq _ _)) ?_
    refine ARun.calm rfl rfl (lit_lt rfl) ((by first | exact Calm.pickT rfl rfl | exact Calm.pickF rfl rfl)) ?_
    refine arun_nil ?_
    refine athen_n ?_
    refine AWP.sub [(0, _), (1, _), (2, _), (22, _)] ⟨rfl, rfl, rfl, rfl, trivial⟩ ?_
    refine AWP.condT rfl (by first | rfl | (simp; done) | (simp; omega)) ?_
    refine AWP.seq ?_
    refine AWP.region ?_
    refine ARun.calm rfl rfl (lit_lt rfl) (Calm.assign rfl) ?_
    refine arun_nil ?_
    refine athen_n ?_
    refine AWP.ret ?_
    refine athen_ret ?_
    refine ⟨_, S, ⟨_, _, rfl, rfl, rfl⟩, (by first | with_reducible exact Mem.Less.refl _ | ((with_reducible refine Mem.less_set _ _ _ (Fresh.own ?_)); with_reducible assumption) | (refine less_of ?_; (repeat first | with_reducible exact LessB.refl _ _ | ((with_reducible refine LessB.set ?_ ?_); ((repeat first | ((with_reducible refine (Mem.own_set_other _ _ ?_).trans ?_); (first | assumption | (apply Ne.symm; assumption))) | ((with_reducible refine (Mem.own_del_other _ ?_).trans ?_); (first | assumption | (apply Ne.symm; assumption)))); (first | with_reducible exact Mem.own_set_same _ _ _ | with_reducible assumption | exact Mem.own_set_same _ _ _))) | (with_reducible refine LessB.delL ?_)); (repeat first | with_reducible exact LessB.refl _ _ | ((with_reducible refine LessB.of ?_); with_reducible assumption) | ((with_reducible refine LessB.skip ?_ ?_); (first | ((refine .inl ?_); simp; done) | ((refine .inr (Fresh.own ?_)); with_reducible assumption) | ((refine .inr ?_); with_reducible assumption))) | ((with_reducible refine LessB.skipDel ?_ ?_); (first | ((refine .inl ?_); simp; done) | ((refine .inr (Fresh.own ?_)); with_reducible assumption) | ((refine .inr ?_); with_reducible assumption)))))), ?_⟩
    exact ⟨rfl, rfl⟩
  by_cases h2 : 1048576 < N
  · rw [chk_no (fun h => by have := h.2.1; omega)]
    refine ACall.enter (args := [.agg #[.string s, .int .i64 N]]) (rs := [.tmp 2]) 40 [(0, .agg #[.string s, .int .i64 N])] Try.func20 rfl rfl (Nat.le_of_ble_eq_true rfl) rfl ⟨rfl, trivial⟩ ?_
    refine AWP.seq ?_
    refine AWP.region ?_
    refine ARun.boxA (cs := [_, _]) (lit_lt rfl) rfl ?_
    intro b1 f1
    have g1 := f1
    repeat ((with_reducible replace g1 := fresh_set g1); obtain ⟨g1, _⟩ := g1)
    (try simp only [List.length_cons, List.length_nil, Nat.zero_add, Nat.reduceAdd])
    refine ARun.calm rfl rfl (lit_lt rfl) (Calm.assign rfl) ?_
    refine arun_nil ?_
    refine athen_n ?_
    refine AWP.seq ?_
    refine AWP.seq ?_
    refine AWP.region ?_
    refine ARun.calm rfl rfl (lit_lt rfl) (Calm.fieldAddr ty_field_23_1 rfl) ?_
    refine ARun.calm rfl rfl (lit_lt rfl) (Calm.load ty_plain_3 rfl ((by (repeat ((with_reducible refine (rd_set_ne _ _ ?_).trans ?_); (first | assumption | (apply Ne.symm; assumption)))); (first | ((with_reducible refine (rd_set_same _ _ _ _).trans ?_); rfl) | ((with_reducible apply rd_own'); (with_reducible assumption); rfl) | with_reducible assumption)))) ?_
    refine ARun.calm rfl rfl (lit_lt rfl) (Calm.bin rfl rfl (by first | exact bin_bool (bin_lss _ _) (decide_eq_true (by omega)) | exact bin_bool (bin_lss _ _) (decide_eq_false (by omega)) | exact bin_lss _ _)) ?_
    refine ARun.calm rfl rfl (lit_lt rfl) (Calm.move rfl) ?_
    first | refine ARun.skipG 3 false _ 7 rfl rfl (lit_lt rfl) rfl rfl rfl (lit_lt rfl) ?_ | refine ARun.skipU 3 false 7 rfl rfl (lit_lt rfl) rfl rfl (lit_lt rfl) ?_ | refine ARun.calmG 3 false 7 rfl rfl (lit_lt rfl) rfl rfl (lit_lt rfl) (Calm.fieldAddr ty_field_23_1 rfl) ?_
    first | refine ARun.skipG 3 false _ 7 rfl rfl (lit_lt rfl) rfl rfl rfl (lit_lt rfl) ?_ | refine ARun.skipU 3 false 7 rfl rfl (lit_lt rfl) rfl rfl (lit_lt rfl) ?_ | refine ARun.calmG 3 false 7 rfl rfl (lit_lt rfl) rfl rfl (lit_lt rfl) (Calm.load ty_plain_3 rfl ((by (repeat ((with_reducible refine (rd_set_ne _ _ ?_).trans ?_); (first | assumption | (apply Ne.symm; assumption)))); (first | ((with_reducible refine (rd_set_same _ _ _ _).trans ?_); rfl) | ((with_reducible apply rd_own'); (with_reducible assumption); rfl) | with_reducible assumption)))) ?_
    first | refine ARun.skipG 3 false _ 7 rfl rfl (lit_lt rfl) rfl rfl rfl (lit_lt rfl) ?_ | refine ARun.skipU 3 false 7 rfl rfl (lit_lt rfl) rfl rfl (lit_lt rfl) ?_ | refine ARun.calmG 3 false 7 rfl rfl (lit_lt rfl) rfl rfl (lit_lt rfl) (Calm.bin rfl rfl (by first | exact bin_bool (bin_gtr _ _) (decide_eq_true (by omega)) | exact bin_bool (bin_gtr _ _) (decide_eq_false (by omega)) | exact bin_gtr _ _)) ?_
    refine ARun.calm rfl rfl (lit_lt rfl) ((by first | exact Calm.pickT rfl rfl | exact Calm.pickF rfl rfl)) ?_
    refine ARun.calm rfl rfl (lit_lt rfl) (Calm.move rfl) ?_
    first | refine ARun.skipG 8 false _ 12 rfl rfl (lit_lt rfl) rfl rfl rfl (lit_lt rfl) ?_ | refine ARun.skipU 8 false 12 rfl rfl (lit_lt rfl) rfl rfl (lit_lt rfl) ?_ | refine ARun.calmG 8 false 12 rfl rfl (lit_lt rfl) rfl rfl (lit_lt rfl) (Calm.fieldAddr ty_field_23_0 rfl) ?_
    first | refine ARun.skipG 8 false _ 12 rfl rfl (lit_lt rfl) rfl rfl rfl (lit_lt rfl) ?_ | refine ARun.skipU 8 false 12 rfl rfl (lit_lt rfl) rfl rfl (lit_lt rfl) ?_ | refine ARun.calmG 8 false 12 rfl rfl (lit_lt rfl) rfl rfl (lit_lt rfl) (Calm.load ty_plain_9 rfl ((by (repeat ((with_reducible refine (rd_set_ne _ _ ?_).trans ?_); (first | assumption | (apply Ne.symm; assumption)))); (first | ((with_reducible refine (rd_set_same _ _ _ _).trans ?_); rfl) | ((with_reducible apply rd_own'); (with_reducible assumption); rfl) | with_reducible assumption)))) ?_
    first | refine ARun.skipG 8 false _ 12 rfl rfl (lit_lt rfl) rfl rfl rfl (lit_lt rfl) ?_ | refine ARun.skipU 8 false 12 rfl rfl (lit_lt rfl) rfl rfl (lit_lt rfl) ?_ | refine ARun.calmG 8 false 12 rfl rfl (lit_lt rfl) rfl rfl (lit_lt rfl) (Calm.lenStr (strT_spec ty_str_9) rfl) ?_
    first | refine ARun.skipG 8 false _ 12 rfl rfl (lit_lt rfl) rfl rfl rfl (lit_lt rfl) ?_ | refine ARun.skipU 8 false 12 rfl rfl (lit_lt rfl) rfl rfl (lit_lt rfl) ?_ | refine ARun.calmG 8 false 12 rfl rfl (lit_lt rfl) rfl rfl (lit_lt rfl) (Calm.fieldAddr ty_field_23_1 rfl) ?_
    first | refine ARun.skipG 8 false _ 12 rfl rfl (lit_lt rfl) rfl rfl rfl (lit_lt rfl) ?_ | refine ARun.skipU 8 false 12 rfl rfl (lit_lt rfl) rfl rfl (lit_lt rfl) ?_ | refine ARun.calmG 8 false 12 rfl rfl (lit_lt rfl) rfl rfl (lit_lt rfl) (Calm.load ty_plain_3 rfl ((by (repeat ((with_reducible refine (rd_set_ne _ _ ?_).trans ?_); (first | assumption | (apply Ne.symm; assumption)))); (first | ((with_reducible refine (rd_set_same _ _ _ _).trans ?_); rfl) | ((with_reducible apply rd_own'); (with_reducible assumption); rfl) | with_reducible assumption)))) ?_
    first | refine ARun.skipG 8 false _ 12 rfl rfl (lit_lt rfl) rfl rfl rfl (lit_lt rfl) ?_ | refine ARun.skipU 8 false 12 rfl rfl (lit_lt rfl) rfl rfl (lit_lt rfl) ?_ | refine ARun.calmG 8 false 12 rfl rfl (lit_lt rfl) rfl rfl (lit_lt rfl) (Calm.bin rfl rfl (by first | exact bin_addW (IntWalk.i64_in _ (by omega)) | exact bin_add _ _)) ?_
    first | refine ARun.skipG 8 false _ 12 rfl rfl (lit_lt rfl) rfl rfl rfl (lit_lt rfl) ?_ | refine ARun.skipU 8 false 12 rfl rfl (lit_lt rfl) rfl rfl (lit_lt rfl) ?_ | refine ARun.calmG 8 false 12 rfl rfl (lit_lt rfl) rfl rfl (lit_lt rfl) (Calm.bin rfl rfl (by first | exact bin_subW (IntWalk.i64_in _ (by omega)) | exact bin_sub _ _)) ?_
    first | refine ARun.skipG 8 false _ 12 rfl rfl (lit_lt rfl) rfl rfl rfl (lit_lt rfl) ?_ | refine ARun.skipU 8 false 12 rfl rfl (lit_lt rfl) rfl rfl (lit_lt rfl) ?_ | refine ARun.calmG 8 false 12 rfl rfl (lit_lt rfl) rfl rfl (lit_lt rfl) (Calm.bin rfl rfl (by first | exact bin_quoN (by omega) (IntWalk.i64_quo _ _ (by omega)) | exact bin_quo (by omega))) ?_
    first | refine ARun.skipG 8 false _ 12 rfl rfl (lit_lt rfl) rfl rfl rfl (lit_lt rfl) ?_ | refine ARun.skipU 8 false 12 rfl rfl (lit_lt rfl) rfl rfl (lit_lt rfl) ?_ | refine ARun.calmG 8 false 12 rfl rfl (lit_lt rfl) rfl rfl (lit_lt rfl) (Calm.bin rfl rfl (by first | exact bin_bool (bin_neq _ _) (bnot_dec_true (by omega)) | exact bin_bool (bin_neq _ _) (bnot_dec_false (by omega)) | exact bin_neq _ _)) ?_
    refine ARun.calm rfl rfl (lit_lt rfl) ((by first | exact Calm.pickT rfl rfl | exact Calm.pickF rfl rfl)) ?_
    refine arun_nil ?_
    refine athen_n ?_
    refine AWP.sub [(0, _), (1, _), (2, _), (22, _)] ⟨rfl, rfl, rfl, rfl, trivial⟩ ?_
    refine AWP.condT rfl (by first | rfl | (simp; done) | (simp; omega)) ?_
    refine AWP.seq ?_
    refine AWP.region ?_
    refine ARun.calm rfl rfl (lit_lt rfl) (Calm.assign rfl) ?_
    refine arun_nil ?_
    refine athen_n ?_
    refine AWP.ret ?_
    refine athen_ret ?_
    refine ⟨_, S, ⟨_, _, rfl, rfl, rfl⟩, (by first | with_reducible exact Mem.Less.refl _ | ((with_reducible refine Mem.less_set _ _ _ (Fresh.own ?_)); with_reducible assumption) | (refine less_of ?_; (repeat first | with_reducible exact LessB.refl _ _ | ((with_reducible refine LessB.set ?_ ?_); ((repeat first | ((with_reducible refine (Mem.own_set_other _ _ ?_).trans ?_); (first | assumption | (apply Ne.symm; assumption))) | ((with_reducible refine (Mem.own_del_other _ ?_).trans ?_); (first | assumption | (apply Ne.symm; assumption)))); (first | with_reducible exact Mem.own_set_same _ _ _ | with_reducible assumption | exact Mem.own_set_same _ _ _))) | (with_reducible refine LessB.delL ?_)); (repeat first | with_reducible exact LessB.refl _ _ | ((with_reducible refine LessB.of ?_); with_reducible assumption) | ((with_reducible refine LessB.skip ?_ ?_); (first | ((refine .inl ?_); simp; done) | ((refine .inr (Fresh.own ?_)); with_reducible assumption) | ((refine .inr ?_); with_reducible assumption))) | ((with_reducible refine LessB.skipDel ?_ ?_); (first | ((refine .inl ?_); simp; done) | ((refine .inr (Fresh.own ?_)); with_reducible assumption) | ((refine .inr ?_); with_reducible assumption)))))), ?_⟩
    exact ⟨rfl, rfl⟩
  have hsz : s.size = s.data.toList.length := (Array.length_toList (xs := s.data)).symm
  by_cases h3 : (s.size : Int) = (N + 7) / 8
  · have hR := right_iff s.data.toList N (by omega) (by omega) (by omega)
    by_cases h4 : N % 8 = 0
    · rw [chk_yes (hR.2 (.inl h4))]
      refine ACall.enter (args := [.agg #[.string s, .int .i64 N]]) (rs := [.tmp 2]) 40 [(0, .agg #[.string s, .int .i64 N])] Try.func20 rfl rfl (Nat.le_of_ble_eq_true rfl) rfl ⟨rfl, trivial⟩ ?_
      refine AWP.seq ?_
      refine AWP.region ?_
      refine ARun.boxA (cs := [_, _]) (lit_lt rfl) rfl ?_
      intro b1 f1
      have g1 := f1
      repeat ((with_reducible replace g1 := fresh_set g1); obtain ⟨g1, _⟩ := g1)
      (try simp only [List.length_cons, List.length_nil, Nat.zero_add, Nat.reduceAdd])
      refine ARun.calm rfl rfl (lit_lt rfl) (Calm.assign rfl) ?_
      refine arun_nil ?_
      refine athen_n ?_
      refine AWP.seq ?_
      refine AWP.seq ?_
      refine AWP.region ?_
      refine ARun.calm rfl rfl (lit_lt rfl) (Calm.fieldAddr ty_field_23_1 rfl) ?_
      refine ARun.calm rfl rfl (lit_lt rfl) (Calm.load ty_plain_3 rfl ((by (repeat ((with_reducible refine (rd_set_ne _ _ ?_).trans ?_); (first | assumption | (apply Ne.symm; assumption)))); (first | ((with_reducible refine (rd_set_same _ _ _ _).trans ?_); rfl) | ((with_reducible apply rd_own'); (with_reducible assumption); rfl) | with_reducible assumption)))) ?_
      refine ARun.calm rfl rfl (lit_lt rfl) (Calm.bin rfl rfl (by first | exact bin_bool (bin_lss _ _) (decide_eq_true (by omega)) | exact bin_bool (bin_lss _ _) (decide_eq_false (by omega)) | exact bin_lss _ _)) ?_
      refine ARun.calm rfl rfl (lit_lt rfl) (Calm.move rfl) ?_
      first | refine ARun.skipG 3 false _ 7 rfl rfl (lit_lt rfl) rfl rfl rfl (lit_lt rfl) ?_ | refine ARun.skipU 3 false 7 rfl rfl (lit_lt rfl) rfl rfl (lit_lt rfl) ?_ | refine ARun.calmG 3 false 7 rfl rfl (lit_lt rfl) rfl rfl (lit_lt rfl) (Calm.fieldAddr ty_field_23_1 rfl) ?_
      first | refine ARun.skipG 3 false _ 7 rfl rfl (lit_lt rfl) rfl rfl rfl (lit_lt rfl) ?_ | refine ARun.skipU 3 false 7 rfl rfl (lit_lt rfl) rfl rfl (lit_lt rfl) ?_ | refine ARun.calmG 3 false 7 rfl rfl (lit_lt rfl) rfl rfl (lit_lt rfl) (Calm.load ty_plain_3 rfl ((by (repeat ((with_reducible refine (rd_set_ne _ _ ?_).trans ?_); (first | assumption | (apply Ne.symm; assumption)))); (first | ((with_reducible refine (rd_set_same _ _ _ _).trans ?_); rfl) | ((with_reducible apply rd_own'); (with_reducible assumption); rfl) | with_reducible assumption)))) ?_
      first | refine ARun.skipG 3 false _ 7 rfl rfl (lit_lt rfl) rfl rfl rfl (lit_lt rfl) ?_ | refine ARun.skipU 3 false 7 rfl rfl (lit_lt rfl) rfl rfl (lit_lt rfl) ?_ | refine ARun.calmG 3 false 7 rfl rfl (lit_lt rfl) rfl rfl (lit_lt rfl) (Calm.bin rfl rfl (by first | exact bin_bool (bin_gtr _ _) (decide_eq_true (by omega)) | exact bin_bool (bin_gtr _ _) (decide_eq_false (by omega)) | exact bin_gtr _ _)) ?_
      refine ARun.calm rfl rfl (lit_lt rfl) ((by first | exact Calm.pickT rfl rfl | exact Calm.pickF rfl rfl)) ?_
      refine ARun.calm rfl rfl (lit_lt rfl) (Calm.move rfl) ?_
      first | refine ARun.skipG 8 false _ 12 rfl rfl (lit_lt rfl) rfl rfl rfl (lit_lt rfl) ?_ | refine ARun.skipU 8 false 12 rfl rfl (lit_lt rfl) rfl rfl (lit_lt rfl) ?_ | refine ARun.calmG 8 false 12 rfl rfl (lit_lt rfl) rfl rfl (lit_lt rfl) (Calm.fieldAddr ty_field_23_0 rfl) ?_
      first | refine ARun.skipG 8 false _ 12 rfl rfl (lit_lt rfl) rfl rfl rfl (lit_lt rfl) ?_ | refine ARun.skipU 8 false 12 rfl rfl (lit_lt rfl) rfl rfl (lit_lt rfl) ?_ | refine ARun.calmG 8 false 12 rfl rfl (lit_lt rfl) rfl rfl (lit_lt rfl) (Calm.load ty_plain_9 rfl ((by (repeat ((with_reducible refine (rd_set_ne _ _ ?_).trans ?_); (first | assumption | (apply Ne.symm; assumption)))); (first | ((with_reducible refine (rd_set_same _ _ _ _).trans ?_); rfl) | ((with_reducible apply rd_own'); (with_reducible assumption); rfl) | with_reducible assumption)))) ?_
      first | refine ARun.skipG 8 false _ 12 rfl rfl (lit_lt rfl) rfl rfl rfl (lit_lt rfl) ?_ | refine ARun.skipU 8 false 12 rfl rfl (lit_lt rfl) rfl rfl (lit_lt rfl) ?_ | refine ARun.calmG 8 false 12 rfl rfl (lit_lt rfl) rfl rfl (lit_lt rfl) (Calm.lenStr (strT_spec ty_str_9) rfl) ?_
      first | refine ARun.skipG 8 false _ 12 rfl rfl (lit_lt rfl) rfl rfl rfl (lit_lt rfl) ?_ | refine ARun.skipU 8 false 12 rfl rfl (lit_lt rfl) rfl rfl (lit_lt rfl) ?_ | refine ARun.calmG 8 false 12 rfl rfl (lit_lt rfl) rfl rfl (lit_lt rfl) (Calm.fieldAddr ty_field_23_1 rfl) ?_
      first | refine ARun.skipG 8 false _ 12 rfl rfl (lit_lt rfl) rfl rfl rfl (lit_lt rfl) ?_ | refine ARun.skipU 8 false 12 rfl rfl (lit_lt rfl) rfl rfl (lit_lt rfl) ?_ | refine ARun.calmG 8 false 12 rfl rfl (lit_lt rfl) rfl rfl (lit_lt rfl) (Calm.load ty_plain_3 rfl ((by (repeat ((with_reducible refine (rd_set_ne _ _ ?_).trans ?_); (first | assumption | (apply Ne.symm; assumption)))); (first | ((with_reducible refine (rd_set_same _ _ _ _).trans ?_); rfl) | ((with_reducible apply rd_own'); (with_reducible assumption); rfl) | with_reducible assumption)))) ?_
      first | refine ARun.skipG 8 false _ 12 rfl rfl (lit_lt rfl) rfl rfl rfl (lit_lt rfl) ?_ | refine ARun.skipU 8 false 12 rfl rfl (lit_lt rfl) rfl rfl (lit_lt rfl) ?_ | refine ARun.calmG 8 false 12 rfl rfl (lit_lt rfl) rfl rfl (lit_lt rfl) (Calm.bin rfl rfl (by first | exact bin_addW (IntWalk.i64_in _ (by omega)) | exact bin_add _ _)) ?_
      first | refine ARun.skipG 8 false _ 12 rfl rfl (lit_lt rfl) rfl rfl rfl (lit_lt rfl) ?_ | refine ARun.skipU 8 false 12 rfl rfl (lit_lt rfl) rfl rfl (lit_lt rfl) ?_ | refine ARun.calmG 8 false 12 rfl rfl (lit_lt rfl) rfl rfl (lit_lt rfl) (Calm.bin rfl rfl (by first | exact bin_subW (IntWalk.i64_in _ (by omega)) | exact bin_sub _ _)) ?_
      first | refine ARun.skipG 8 false _ 12 rfl rfl (lit_lt rfl) rfl rfl rfl (lit_lt rfl) ?_ | refine ARun.skipU 8 false 12 rfl rfl (lit_lt rfl) rfl rfl (lit_lt rfl) ?_ | refine ARun.calmG 8 false 12 rfl rfl (lit_lt rfl) rfl rfl (lit_lt rfl) (Calm.bin rfl rfl (by first | exact bin_quoN (by omega) (IntWalk.i64_quo _ _ (by omega)) | exact bin_quo (by omega))) ?_
      first | refine ARun.skipG 8 false _ 12 rfl rfl (lit_lt rfl) rfl rfl rfl (lit_lt rfl) ?_ | refine ARun.skipU 8 false 12 rfl rfl (lit_lt rfl) rfl rfl (lit_lt rfl) ?_ | refine ARun.calmG 8 false 12 rfl rfl (lit_lt rfl) rfl rfl (lit_lt rfl) (Calm.bin rfl rfl (by first | exact bin_bool (bin_neq _ _) (bnot_dec_true (by omega)) | exact bin_bool (bin_neq _ _) (bnot_dec_false (by omega)) | exact bin_neq _ _)) ?_
      refine ARun.calm rfl rfl (lit_lt rfl) ((by first | exact Calm.pickT rfl rfl | exact Calm.pickF rfl rfl)) ?_
      refine arun_nil ?_
      refine athen_n ?_
      refine AWP.sub [(0, _), (1, _), (2, _), (22, _)] ⟨rfl, rfl, rfl, rfl, trivial⟩ ?_
      refine AWP.condF rfl (by first | rfl | (simp; done) | (simp; omega)) ?_
      refine AWP.skip ?_
      refine athen_n ?_
      refine AWP.seq ?_
      refine AWP.seq ?_
      refine AWP.region ?_
      refine ARun.calm rfl rfl (lit_lt rfl) (Calm.fieldAddr ty_field_23_1 rfl) ?_
      refine ARun.calm rfl rfl (lit_lt rfl) (Calm.load ty_plain_3 rfl ((by (repeat ((with_reducible refine (rd_set_ne _ _ ?_).trans ?_); (first | assumption | (apply Ne.symm; assumption)))); (first | ((with_reducible refine (rd_set_same _ _ _ _).trans ?_); rfl) | ((with_reducible apply rd_own'); (with_reducible assumption); rfl) | with_reducible assumption)))) ?_
      refine ARun.calm rfl rfl (lit_lt rfl) (Calm.bin rfl rfl (by first | exact bin_remN (by omega) (by omega) | exact bin_rem (by omega))) ?_
      refine ARun.calm rfl rfl (lit_lt rfl) (Calm.assign rfl) ?_
      refine arun_nil ?_
      refine athen_n ?_
      refine AWP.sub [(0, _), (1, _), (2, _), (22, _), (3, _)] ⟨rfl, rfl, rfl, rfl, rfl, trivial⟩ ?_
      refine AWP.seq ?_
      refine AWP.region ?_
      refine ARun.calm rfl rfl (lit_lt rfl) (Calm.move rfl) ?_
      refine ARun.calm rfl rfl (lit_lt rfl) (Calm.bin rfl rfl (by first | exact bin_bool (bin_gtr _ _) (decide_eq_true (by omega)) | exact bin_bool (bin_gtr _ _) (decide_eq_false (by omega)) | exact bin_gtr _ _)) ?_
      refine ARun.calm rfl rfl (lit_lt rfl) (Calm.move rfl) ?_
      first | refine ARun.skipG 2 true _ 28 rfl rfl (lit_lt rfl) rfl rfl rfl (lit_lt rfl) ?_ | refine ARun.skipU 2 true 28 rfl rfl (lit_lt rfl) rfl rfl (lit_lt rfl) ?_ | refine ARun.calmG 2 true 28 rfl rfl (lit_lt rfl) rfl rfl (lit_lt rfl) (Calm.fieldAddr ty_field_23_0 rfl) ?_
      first | refine ARun.skipG 2 true _ 28 rfl rfl (lit_lt rfl) rfl rfl rfl (lit_lt rfl) ?_ | refine ARun.skipU 2 true 28 rfl rfl (lit_lt rfl) rfl rfl (lit_lt rfl) ?_ | refine ARun.calmG 2 true 28 rfl rfl (lit_lt rfl) rfl rfl (lit_lt rfl) (Calm.load ty_plain_9 rfl ((by (repeat ((with_reducible refine (rd_set_ne _ _ ?_).trans ?_); (first | assumption | (apply Ne.symm; assumption)))); (first | ((with_reducible refine (rd_set_same _ _ _ _).trans ?_); rfl) | ((with_reducible apply rd_own'); (with_reducible assumption); rfl) | with_reducible assumption)))) ?_
      first | refine ARun.skipG 2 true _ 28 rfl rfl (lit_lt rfl) rfl rfl rfl (lit_lt rfl) ?_ | refine ARun.skipU 2 true 28 rfl rfl (lit_lt rfl) rfl rfl (lit_lt rfl) ?_ | refine ARun.calmG 2 true 28 rfl rfl (lit_lt rfl) rfl rfl (lit_lt rfl) (Calm.fieldAddr ty_field_23_0 rfl) ?_
      first | refine ARun.skipG 2 true _ 28 rfl rfl (lit_lt rfl) rfl rfl rfl (lit_lt rfl) ?_ | refine ARun.skipU 2 true 28 rfl rfl (lit_lt rfl) rfl rfl (lit_lt rfl) ?_ | refine ARun.calmG 2 true 28 rfl rfl (lit_lt rfl) rfl rfl (lit_lt rfl) (Calm.load ty_plain_9 rfl ((by (repeat ((with_reducible refine (rd_set_ne _ _ ?_).trans ?_); (first | assumption | (apply Ne.symm; assumption)))); (first | ((with_reducible refine (rd_set_same _ _ _ _).trans ?_); rfl) | ((with_reducible apply rd_own'); (with_reducible assumption); rfl) | with_reducible assumption)))) ?_
      first | refine ARun.skipG 2 true _ 28 rfl rfl (lit_lt rfl) rfl rfl rfl (lit_lt rfl) ?_ | refine ARun.skipU 2 true 28 rfl rfl (lit_lt rfl) rfl rfl (lit_lt rfl) ?_ | refine ARun.calmG 2 true 28 rfl rfl (lit_lt rfl) rfl rfl (lit_lt rfl) (Calm.lenStr (strT_spec ty_str_9) rfl) ?_
      first | refine ARun.skipG 2 true _ 28 rfl rfl (lit_lt rfl) rfl rfl rfl (lit_lt rfl) ?_ | refine ARun.skipU 2 true 28 rfl rfl (lit_lt rfl) rfl rfl (lit_lt rfl) ?_ | refine ARun.calmG 2 true 28 rfl rfl (lit_lt rfl) rfl rfl (lit_lt rfl) (Calm.bin rfl rfl (by first | exact bin_subW (IntWalk.i64_in _ (by omega)) | exact bin_sub _ _)) ?_
      first | refine ARun.skipG 2 true _ 28 rfl rfl (lit_lt rfl) rfl rfl rfl (lit_lt rfl) ?_ | refine ARun.skipU 2 true 28 rfl rfl (lit_lt rfl) rfl rfl (lit_lt rfl) ?_ | refine ARun.calmG 2 true 28 rfl rfl (lit_lt rfl) rfl rfl (lit_lt rfl) (Calm.indexStr (strT_spec ty_str_9) rfl rfl (by omega) (by omega)) ?_
      first | refine ARun.skipG 2 true _ 28 rfl rfl (lit_lt rfl) rfl rfl rfl (lit_lt rfl) ?_ | refine ARun.skipU 2 true 28 rfl rfl (lit_lt rfl) rfl rfl (lit_lt rfl) ?_ | refine ARun.calmG 2 true 28 rfl rfl (lit_lt rfl) rfl rfl (lit_lt rfl) (Calm.move rfl) ?_
      first | refine ARun.skipG 2 true _ 28 rfl rfl (lit_lt rfl) rfl rfl rfl (lit_lt rfl) ?_ | refine ARun.skipU 2 true 28 rfl rfl (lit_lt rfl) rfl rfl (lit_lt rfl) ?_ | refine ARun.calmG 2 true 28 rfl rfl (lit_lt rfl) rfl rfl (lit_lt rfl) (Calm.bin rfl rfl (bin_shl (by omega) (by simp only [IntKind.bits]; omega))) ?_
      first | refine ARun.skipG 2 true _ 28 rfl rfl (lit_lt rfl) rfl rfl rfl (lit_lt rfl) ?_ | refine ARun.skipU 2 true 28 rfl rfl (lit_lt rfl) rfl rfl (lit_lt rfl) ?_ | refine ARun.calmG 2 true 28 rfl rfl (lit_lt rfl) rfl rfl (lit_lt rfl) (Calm.bin rfl rfl (by first | exact bin_bool (bin_neq _ _) (bnot_dec_true (by omega)) | exact bin_bool (bin_neq _ _) (bnot_dec_false (by omega)) | exact bin_neq _ _)) ?_
      refine ARun.calm rfl rfl (lit_lt rfl) ((by first | exact Calm.pickT rfl rfl | exact Calm.pickF rfl rfl)) ?_
      refine arun_nil ?_
      refine athen_n ?_
      refine AWP.sub [(0, _), (1, _), (2, _), (22, _), (3, _), (39, _)] ⟨rfl, rfl, rfl, rfl, rfl, rfl, trivial⟩ ?_
      refine AWP.condF rfl (by first | rfl | (simp; done) | (simp; omega)) ?_
      refine AWP.skip ?_
      refine athen_n ?_
      refine AWP.seq ?_
      refine AWP.region ?_
      refine ARun.calm rfl rfl (lit_lt rfl) (Calm.assign rfl) ?_
      refine arun_nil ?_
      refine athen_n ?_
      refine AWP.ret ?_
      refine ⟨_, S, ⟨_, _, rfl, rfl, rfl⟩, (by first | with_reducible exact Mem.Less.refl _ | ((with_reducible refine Mem.less_set _ _ _ (Fresh.own ?_)); with_reducible assumption) | (refine less_of ?_; (repeat first | with_reducible exact LessB.refl _ _ | ((with_reducible refine LessB.set ?_ ?_); ((repeat first | ((with_reducible refine (Mem.own_set_other _ _ ?_).trans ?_); (first | assumption | (apply Ne.symm; assumption))) | ((with_reducible refine (Mem.own_del_other _ ?_).trans ?_); (first | assumption | (apply Ne.symm; assumption)))); (first | with_reducible exact Mem.own_set_same _ _ _ | with_reducible assumption | exact Mem.own_set_same _ _ _))) | (with_reducible refine LessB.delL ?_)); (repeat first | with_reducible exact LessB.refl _ _ | ((with_reducible refine LessB.of ?_); with_reducible assumption) | ((with_reducible refine LessB.skip ?_ ?_); (first | ((refine .inl ?_); simp; done) | ((refine .inr (Fresh.own ?_)); with_reducible assumption) | ((refine .inr ?_); with_reducible assumption))) | ((with_reducible refine LessB.skipDel ?_ ?_); (first | ((refine .inl ?_); simp; done) | ((refine .inr (Fresh.own ?_)); with_reducible assumption) | ((refine .inr ?_); with_reducible assumption)))))), ?_⟩
      exact ⟨rfl, rfl⟩
    · have e1 : ((s.size : Int) - 1).toNat = N.toNat / 8 := by omega
      refine ACall.enter (args := [.agg #[.string s, .int .i64 N]]) (rs := [.tmp 2]) 40 [(0, .agg #[.string s, .int .i64 N])] Try.func20 rfl rfl (Nat.le_of_ble_eq_true rfl) rfl ⟨rfl, trivial⟩ ?_
      refine AWP.seq ?_
      refine AWP.region ?_
      refine ARun.boxA (cs := [_, _]) (lit_lt rfl) rfl ?_
      intro b1 f1
      have g1 := f1
      repeat ((with_reducible replace g1 := fresh_set g1); obtain ⟨g1, _⟩ := g1)
      (try simp only [List.length_cons, List.length_nil, Nat.zero_add, Nat.reduceAdd])
      refine ARun.calm rfl rfl (lit_lt rfl) (Calm.assign rfl) ?_
      refine arun_nil ?_
      refine athen_n ?_
      refine AWP.seq ?_
      refine AWP.seq ?_
      refine AWP.region ?_
      refine ARun.calm rfl rfl (lit_lt rfl) (Calm.fieldAddr ty_field_23_1 rfl) ?_
      refine ARun.calm rfl rfl (lit_lt rfl) (Calm.load ty_plain_3 rfl ((by (repeat ((with_reducible refine (rd_set_ne _ _ ?_).trans ?_); (first | assumption | (apply Ne.symm; assumption)))); (first | ((with_reducible refine (rd_set_same _ _ _ _).trans ?_); rfl) | ((with_reducible apply rd_own'); (with_reducible assumption); rfl) | with_reducible assumption)))) ?_
      refine ARun.calm rfl rfl (lit_lt rfl) (Calm.bin rfl rfl (by first | exact bin_bool (bin_lss _ _) (decide_eq_true (by omega)) | exact bin_bool (bin_lss _ _) (decide_eq_false (by omega)) | exact bin_lss _ _)) ?_
      refine ARun.calm rfl rfl (lit_lt rfl) (Calm.move rfl) ?_
      first | refine ARun.skipG 3 false _ 7 rfl rfl (lit_lt rfl) rfl rfl rfl (lit_lt rfl) ?_ | refine ARun.skipU 3 false 7 rfl rfl (lit_lt rfl) rfl rfl (lit_lt rfl) ?_ | refine ARun.calmG 3 false 7 rfl rfl (lit_lt rfl) rfl rfl (lit_lt rfl) (Calm.fieldAddr ty_field_23_1 rfl) ?_
      first | refine ARun.skipG 3 false _ 7 rfl rfl (lit_lt rfl) rfl rfl rfl (lit_lt rfl) ?_ | refine ARun.skipU 3 false 7 rfl rfl (lit_lt rfl) rfl rfl (lit_lt rfl) ?_ | refine ARun.calmG 3 false 7 rfl rfl (lit_lt rfl) rfl rfl (lit_lt rfl) (Calm.load ty_plain_3 rfl ((by (repeat ((with_reducible refine (rd_set_ne _ _ ?_).trans ?_); (first | assumption | (apply Ne.symm; assumption)))); (first | ((with_reducible refine (rd_set_same _ _ _ _).trans ?_); rfl) | ((with_reducible apply rd_own'); (with_reducible assumption); rfl) | with_reducible assumption)))) ?_
      first | refine ARun.skipG 3 false _ 7 rfl rfl (lit_lt rfl) rfl rfl rfl (lit_lt rfl) ?_ | refine ARun.skipU 3 false 7 rfl rfl (lit_lt rfl) rfl rfl (lit_lt rfl) ?_ | refine ARun.calmG 3 false 7 rfl rfl (lit_lt rfl) rfl rfl (lit_lt rfl) (Calm.bin rfl rfl (by first | exact bin_bool (bin_gtr _ _) (decide_eq_true (by omega)) | exact bin_bool (bin_gtr _ _) (decide_eq_false (by omega)) | exact bin_gtr _ _)) ?_
      refine ARun.calm rfl rfl (lit_lt rfl) ((by first | exact Calm.pickT rfl rfl | exact Calm.pickF rfl rfl)) ?_
      refine ARun.calm rfl rfl (lit_lt rfl) (Calm.move rfl) ?_
      first | refine ARun.skipG 8 false _ 12 rfl rfl (lit_lt rfl) rfl rfl rfl (lit_lt rfl) ?_ | refine ARun.skipU 8 false 12 rfl rfl (lit_lt rfl) rfl rfl (lit_lt rfl) ?_ | refine ARun.calmG 8 false 12 rfl rfl (lit_lt rfl) rfl rfl (lit_lt rfl) (Calm.fieldAddr ty_field_23_0 rfl) ?_
      first | refine ARun.skipG 8 false _ 12 rfl rfl (lit_lt rfl) rfl rfl rfl (lit_lt rfl) ?_ | refine ARun.skipU 8 false 12 rfl rfl (lit_lt rfl) rfl rfl (lit_lt rfl) ?_ | refine ARun.calmG 8 false 12 rfl rfl (lit_lt rfl) rfl rfl (lit_lt rfl) (Calm.load ty_plain_9 rfl ((by (repeat ((with_reducible refine (rd_set_ne _ _ ?_).trans ?_); (first | assumption | (apply Ne.symm; assumption)))); (first | ((with_reducible refine (rd_set_same _ _ _ _).trans ?_); rfl) | ((with_reducible apply rd_own'); (with_reducible assumption); rfl) | with_reducible assumption)))) ?_
      first | refine ARun.skipG 8 false _ 12 rfl rfl (lit_lt rfl) rfl rfl rfl (lit_lt rfl) ?_ | refine ARun.skipU 8 false 12 rfl rfl (lit_lt rfl) rfl rfl (lit_lt rfl) ?_ | refine ARun.calmG 8 false 12 rfl rfl (lit_lt rfl) rfl rfl (lit_lt rfl) (Calm.lenStr (strT_spec ty_str_9) rfl) ?_
      first | refine ARun.skipG 8 false _ 12 rfl rfl (lit_lt rfl) rfl rfl rfl (lit_lt rfl) ?_ | refine ARun.skipU 8 false 12 rfl rfl (lit_lt rfl) rfl rfl (lit_lt rfl) ?_ | refine ARun.calmG 8 false 12 rfl rfl (lit_lt rfl) rfl rfl (lit_lt rfl) (Calm.fieldAddr ty_field_23_1 rfl) ?_
      first | refine ARun.skipG 8 false _ 12 rfl rfl (lit_lt rfl) rfl rfl rfl (lit_lt rfl) ?_ | refine ARun.skipU 8 false 12 rfl rfl (lit_lt rfl) rfl rfl (lit_lt rfl) ?_ | refine ARun.calmG 8 false 12 rfl rfl (lit_lt rfl) rfl rfl (lit_lt rfl) (Calm.load ty_plain_3 rfl ((by (repeat ((with_reducible refine (rd_set_ne _ _ ?_).trans ?_); (first | assumption | (apply Ne.symm; assumption)))); (first | ((with_reducible refine (rd_set_same _ _ _ _).trans ?_); rfl) | ((with_reducible apply rd_own'); (with_reducible assumption); rfl) | with_reducible assumption)))) ?_
      first | refine ARun.skipG 8 false _ 12 rfl rfl (lit_lt rfl) rfl rfl rfl (lit_lt rfl) ?_ | refine ARun.skipU 8 false 12 rfl rfl (lit_lt rfl) rfl rfl (lit_lt rfl) ?_ | refine ARun.calmG 8 false 12 rfl rfl (lit_lt rfl) rfl rfl (lit_lt rfl) (Calm.bin rfl rfl (by first | exact bin_addW (IntWalk.i64_in _ (by omega)) | exact bin_add _ _)) ?_
      first | refine ARun.skipG 8 false _ 12 rfl rfl (lit_lt rfl) rfl rfl rfl (lit_lt rfl) ?_ | refine ARun.skipU 8 false 12 rfl rfl (lit_lt rfl) rfl rfl (lit_lt rfl) ?_ | refine ARun.calmG 8 false 12 rfl rfl (lit_lt rfl) rfl rfl (lit_lt rfl) (Calm.bin rfl rfl (by first | exact bin_subW (IntWalk.i64_in _ (by omega)) | exact bin_sub _ _)) ?_
      first | refine ARun.skipG 8 false _ 12 rfl rfl (lit_lt rfl) rfl rfl rfl (lit_lt rfl) ?_ | refine ARun.skipU 8 false 12 rfl rfl (lit_lt rfl) rfl rfl (lit_lt rfl) ?_ | refine ARun.calmG 8 false 12 rfl rfl (lit_lt rfl) rfl rfl (lit_lt rfl) (Calm.bin rfl rfl (by first | exact bin_quoN (by omega) (IntWalk.i64_quo _ _ (by omega)) | exact bin_quo (by omega))) ?_
      first | refine ARun.skipG 8 false _ 12 rfl rfl (lit_lt rfl) rfl rfl rfl (lit_lt rfl) ?_ | refine ARun.skipU 8 false 12 rfl rfl (lit_lt rfl) rfl rfl (lit_lt rfl) ?_ | refine ARun.calmG 8 false 12 rfl rfl (lit_lt rfl) rfl rfl (lit_lt rfl) (Calm.bin rfl rfl (by first | exact bin_bool (bin_neq _ _) (bnot_dec_true (by omega)) | exact bin_bool (bin_neq _ _) (bnot_dec_false (by omega)) | exact bin_neq _ _)) ?_
      refine ARun.calm rfl rfl (lit_lt rfl) ((by first | exact Calm.pickT rfl rfl | exact Calm.pickF rfl rfl)) ?_
      refine arun_nil ?_
      refine athen_n ?_
      refine AWP.sub [(0, _), (1, _), (2, _), (22, _)] ⟨rfl, rfl, rfl, rfl, trivial⟩ ?_
      refine AWP.condF rfl (by first | rfl | (simp; done) | (simp; omega)) ?_
      rw [← e1] at hR
      refine AWP.skip ?_
      refine athen_n ?_
      refine AWP.seq ?_
      refine AWP.seq ?_
      refine AWP.region ?_
      refine ARun.calm rfl rfl (lit_lt rfl) (Calm.fieldAddr ty_field_23_1 rfl) ?_
      refine ARun.calm rfl rfl (lit_lt rfl) (Calm.load ty_plain_3 rfl ((by (repeat ((with_reducible refine (rd_set_ne _ _ ?_).trans ?_); (first | assumption | (apply Ne.symm; assumption)))); (first | ((with_reducible refine (rd_set_same _ _ _ _).trans ?_); rfl) | ((with_reducible apply rd_own'); (with_reducible assumption); rfl) | with_reducible assumption)))) ?_
      refine ARun.calm rfl rfl (lit_lt rfl) (Calm.bin rfl rfl (by first | exact bin_remN (by omega) (by omega) | exact bin_rem (by omega))) ?_
      refine ARun.calm rfl rfl (lit_lt rfl) (Calm.assign rfl) ?_
      refine arun_nil ?_
      refine athen_n ?_
      refine AWP.sub [(0, _), (1, _), (2, _), (22, _), (3, _)] ⟨rfl, rfl, rfl, rfl, rfl, trivial⟩ ?_
      refine AWP.seq ?_
      refine AWP.region ?_
      refine ARun.calm rfl rfl (lit_lt rfl) (Calm.move rfl) ?_
      refine ARun.calm rfl rfl (lit_lt rfl) (Calm.bin rfl rfl (by first | exact bin_bool (bin_gtr _ _) (decide_eq_true (by omega)) | exact bin_bool (bin_gtr _ _) (decide_eq_false (by omega)) | exact bin_gtr _ _)) ?_
      refine ARun.calm rfl rfl (lit_lt rfl) (Calm.move rfl) ?_
      first | refine ARun.skipG 2 true _ 28 rfl rfl (lit_lt rfl) rfl rfl rfl (lit_lt rfl) ?_ | refine ARun.skipU 2 true 28 rfl rfl (lit_lt rfl) rfl rfl (lit_lt rfl) ?_ | refine ARun.calmG 2 true 28 rfl rfl (lit_lt rfl) rfl rfl (lit_lt rfl) (Calm.fieldAddr ty_field_23_0 rfl) ?_
      first | refine ARun.skipG 2 true _ 28 rfl rfl (lit_lt rfl) rfl rfl rfl (lit_lt rfl) ?_ | refine ARun.skipU 2 true 28 rfl rfl (lit_lt rfl) rfl rfl (lit_lt rfl) ?_ | refine ARun.calmG 2 true 28 rfl rfl (lit_lt rfl) rfl rfl (lit_lt rfl) (Calm.load ty_plain_9 rfl ((by (repeat ((with_reducible refine (rd_set_ne _ _ ?_).trans ?_); (first | assumption | (apply Ne.symm; assumption)))); (first | ((with_reducible refine (rd_set_same _ _ _ _).trans ?_); rfl) | ((with_reducible apply rd_own'); (with_reducible assumption); rfl) | with_reducible assumption)))) ?_
      first | refine ARun.skipG 2 true _ 28 rfl rfl (lit_lt rfl) rfl rfl rfl (lit_lt rfl) ?_ | refine ARun.skipU 2 true 28 rfl rfl (lit_lt rfl) rfl rfl (lit_lt rfl) ?_ | refine ARun.calmG 2 true 28 rfl rfl (lit_lt rfl) rfl rfl (lit_lt rfl) (Calm.fieldAddr ty_field_23_0 rfl) ?_
      first | refine ARun.skipG 2 true _ 28 rfl rfl (lit_lt rfl) rfl rfl rfl (lit_lt rfl) ?_ | refine ARun.skipU 2 true 28 rfl rfl (lit_lt rfl) rfl rfl (lit_lt rfl) ?_ | refine ARun.calmG 2 true 28 rfl rfl (lit_lt rfl) rfl rfl (lit_lt rfl) (Calm.load ty_plain_9 rfl ((by (repeat ((with_reducible refine (rd_set_ne _ _ ?_).trans ?_); (first | assumption | (apply Ne.symm; assumption)))); (first | ((with_reducible refine (rd_set_same _ _ _ _).trans ?_); rfl) | ((with_reducible apply rd_own'); (with_reducible assumption); rfl) | with_reducible assumption)))) ?_
      first | refine ARun.skipG 2 true _ 28 rfl rfl (lit_lt rfl) rfl rfl rfl (lit_lt rfl) ?_ | refine ARun.skipU 2 true 28 rfl rfl (lit_lt rfl) rfl rfl (lit_lt rfl) ?_ | refine ARun.calmG 2 true 28 rfl rfl (lit_lt rfl) rfl rfl (lit_lt rfl) (Calm.lenStr (strT_spec ty_str_9) rfl) ?_
      first | refine ARun.skipG 2 true _ 28 rfl rfl (lit_lt rfl) rfl rfl rfl (lit_lt rfl) ?_ | refine ARun.skipU 2 true 28 rfl rfl (lit_lt rfl) rfl rfl (lit_lt rfl) ?_ | refine ARun.calmG 2 true 28 rfl rfl (lit_lt rfl) rfl rfl (lit_lt rfl) (Calm.bin rfl rfl (by first | exact bin_subW (IntWalk.i64_in _ (by omega)) | exact bin_sub _ _)) ?_
      first | refine ARun.skipG 2 true _ 28 rfl rfl (lit_lt rfl) rfl rfl rfl (lit_lt rfl) ?_ | refine ARun.skipU 2 true 28 rfl rfl (lit_lt rfl) rfl rfl (lit_lt rfl) ?_ | refine ARun.calmG 2 true 28 rfl rfl (lit_lt rfl) rfl rfl (lit_lt rfl) (Calm.indexStr (strT_spec ty_str_9) rfl rfl (by omega) (by omega)) ?_
      first | refine ARun.skipG 2 true _ 28 rfl rfl (lit_lt rfl) rfl rfl rfl (lit_lt rfl) ?_ | refine ARun.skipU 2 true 28 rfl rfl (lit_lt rfl) rfl rfl (lit_lt rfl) ?_ | refine ARun.calmG 2 true 28 rfl rfl (lit_lt rfl) rfl rfl (lit_lt rfl) (Calm.move rfl) ?_
      first | refine ARun.skipG 2 true _ 28 rfl rfl (lit_lt rfl) rfl rfl rfl (lit_lt rfl) ?_ | refine ARun.skipU 2 true 28 rfl rfl (lit_lt rfl) rfl rfl (lit_lt rfl) ?_ | refine ARun.calmG 2 true 28 rfl rfl (lit_lt rfl) rfl rfl (lit_lt rfl) (Calm.bin rfl rfl (bin_shl (by omega) (by simp only [IntKind.bits]; omega))) ?_
      first | refine ARun.skipG 2 true _ 28 rfl rfl (lit_lt rfl) rfl rfl rfl (lit_lt rfl) ?_ | refine ARun.skipU 2 true 28 rfl rfl (lit_lt rfl) rfl rfl (lit_lt rfl) ?_ | refine ARun.calmG 2 true 28 rfl rfl (lit_lt rfl) rfl rfl (lit_lt rfl) (Calm.bin rfl rfl (by first | exact bin_bool (bin_neq _ _) (bnot_dec_true (by omega)) | exact bin_bool (bin_neq _ _) (bnot_dec_false (by omega)) | exact bin_neq _ _)) ?_
      refine ARun.calm rfl rfl (lit_lt rfl) ((by first | exact Calm.pickT rfl rfl | exact Calm.pickF rfl rfl)) ?_
      refine arun_nil ?_
      refine athen_n ?_
      refine AWP.sub [(0, _), (1, _), (2, _), (22, _), (3, _), (39, _)] ⟨rfl, rfl, rfl, rfl, rfl, rfl, trivial⟩ ?_
      refine AWP.condB rfl (fun hc => ?_) (fun hc => ?_)
      · refine AWP.seq ?_
        refine AWP.region ?_
        refine ARun.calm rfl rfl (lit_lt rfl) (Calm.assign rfl) ?_
        refine arun_nil ?_
        refine athen_n ?_
        refine AWP.ret ?_
        refine athen_ret ?_
        refine ⟨_, S, ⟨_, _, rfl, rfl, rfl⟩, (by first | with_reducible exact Mem.Less.refl _ | ((with_reducible refine Mem.less_set _ _ _ (Fresh.own ?_)); with_reducible assumption) | (refine less_of ?_; (repeat first | with_reducible exact LessB.refl _ _ | ((with_reducible refine LessB.set ?_ ?_); ((repeat first | ((with_reducible refine (Mem.own_set_other _ _ ?_).trans ?_); (first | assumption | (apply Ne.symm; assumption))) | ((with_reducible refine (Mem.own_del_other _ ?_).trans ?_); (first | assumption | (apply Ne.symm; assumption)))); (first | with_reducible exact Mem.own_set_same _ _ _ | with_reducible assumption | exact Mem.own_set_same _ _ _))) | (with_reducible refine LessB.delL ?_)); (repeat first | with_reducible exact LessB.refl _ _ | ((with_reducible refine LessB.of ?_); with_reducible assumption) | ((with_reducible refine LessB.skip ?_ ?_); (first | ((refine .inl ?_); simp; done) | ((refine .inr (Fresh.own ?_)); with_reducible assumption) | ((refine .inr ?_); with_reducible assumption))) | ((with_reducible refine LessB.skipDel ?_ ?_); (first | ((refine .inl ?_); simp; done) | ((refine .inr (Fresh.own ?_)); with_reducible assumption) | ((refine .inr ?_); with_reducible assumption)))))), ?_⟩
        exact ⟨by rw [chk_no (fun h => by rcases hR.1 h with h | h; exact h4 h; exact bnot_t hc h)]; rfl, rfl⟩
      · refine AWP.skip ?_
        refine athen_n ?_
        refine AWP.seq ?_
        refine AWP.region ?_
        refine ARun.calm rfl rfl (lit_lt rfl) (Calm.assign rfl) ?_
        refine arun_nil ?_
        refine athen_n ?_
        refine AWP.ret ?_
        refine ⟨_, S, ⟨_, _, rfl, rfl, rfl⟩, (by first | with_reducible exact Mem.Less.refl _ | ((with_reducible refine Mem.less_set _ _ _ (Fresh.own ?_)); with_reducible assumption) | (refine less_of ?_; (repeat first | with_reducible exact LessB.refl _ _ | ((with_reducible refine LessB.set ?_ ?_); ((repeat first | ((with_reducible refine (Mem.own_set_other _ _ ?_).trans ?_); (first | assumption | (apply Ne.symm; assumption))) | ((with_reducible refine (Mem.own_del_other _ ?_).trans ?_); (first | assumption | (apply Ne.symm; assumption)))); (first | with_reducible exact Mem.own_set_same _ _ _ | with_reducible assumption | exact Mem.own_set_same _ _ _))) | (with_reducible refine LessB.delL ?_)); (repeat first | with_reducible exact LessB.refl _ _ | ((with_reducible refine LessB.of ?_); with_reducible assumption) | ((with_reducible refine LessB.skip ?_ ?_); (first | ((refine .inl ?_); simp; done) | ((refine .inr (Fresh.own ?_)); with_reducible assumption) | ((refine .inr ?_); with_reducible assumption))) | ((with_reducible refine LessB.skipDel ?_ ?_); (first | ((refine .inl ?_); simp; done) | ((refine .inr (Fresh.own ?_)); with_reducible assumption) | ((refine .inr ?_); with_reducible assumption)))))), ?_⟩
        exact ⟨by rw [chk_yes (hR.2 (.inr (bnot_f hc)))]; rfl, rfl⟩
  · rw [chk_no (fun h => h3 (by have := h.2.2.1; omega))]
    refine ACall.enter (args := [.agg #[.string s, .int .i64 N]]) (rs := [.tmp 2]) 40 [(0, .agg #[.string s, .int .i64 N])] Try.func20 rfl rfl (Nat.le_of_ble_eq_true rfl) rfl ⟨rfl, trivial⟩ ?_
    refine AWP.seq ?_
    refine AWP.region ?_
    refine ARun.boxA (cs := [_, _]) (lit_lt rfl) rfl ?_
    intro b1 f1
    have g1 := f1
    repeat ((with_reducible replace g1 := fresh_set g1); obtain ⟨g1, _⟩ := g1)
    (try simp only [List.length_cons, List.length_nil, Nat.zero_add, Nat.reduceAdd])
    refine ARun.calm rfl rfl (lit_lt rfl) (Calm.assign rfl) ?_
    refine arun_nil ?_
    refine athen_n ?_
    refine AWP.seq ?_
    refine AWP.seq ?_
    refine AWP.region ?_
    refine ARun.calm rfl rfl (lit_lt rfl) (Calm.fieldAddr ty_field_23_1 rfl) ?_
    refine ARun.calm rfl rfl (lit_lt rfl) (Calm.load ty_plain_3 rfl ((by (repeat ((with_reducible refine (rd_set_ne _ _ ?_).trans ?_); (first | assumption | (apply Ne.symm; assumption)))); (first | ((with_reducible refine (rd_set_same _ _ _ _).trans ?_); rfl) | ((with_reducible apply rd_own'); (with_reducible assumption); rfl) | with_reducible assumption)))) ?_
    refine ARun.calm rfl rfl (lit_lt rfl) (Calm.bin rfl rfl (by first | exact bin_bool (bin_lss _ _) (decide_eq_true (by omega)) | exact bin_bool (bin_lss _ _) (decide_eq_false (by omega)) | exact bin_lss _ _)) ?_
    refine ARun.calm rfl rfl (lit_lt rfl) (Calm.move rfl) ?_
    first | refine ARun.skipG 3 false _ 7 rfl rfl (lit_lt rfl) rfl rfl rfl (lit_lt rfl) ?_ | refine ARun.skipU 3 false 7 rfl rfl (lit_lt rfl) rfl rfl (lit_lt rfl) ?_ | refine ARun.calmG 3 false 7 rfl rfl (lit_lt rfl) rfl rfl (lit_lt rfl) (Calm.fieldAddr ty_field_23_1 rfl) ?_
    first | refine ARun.skipG 3 false _ 7 rfl rfl (lit_lt rfl) rfl rfl rfl (lit_lt rfl) ?_ | refine ARun.skipU 3 false 7 rfl rfl (lit_lt rfl) rfl rfl (lit_lt rfl) ?_ | refine ARun.calmG 3 false 7 rfl rfl (lit_lt rfl) rfl rfl (lit_lt rfl) (Calm.load ty_plain_3 rfl ((by (repeat ((with_reducible refine (rd_set_ne _ _ ?_).trans ?_); (first | assumption | (apply Ne.symm; assumption)))); (first | ((with_reducible refine (rd_set_same _ _ _ _).trans ?_); rfl) | ((with_reducible apply rd_own'); (with_reducible assumption); rfl) | with_reducible assumption)))) ?_
    first | refine ARun.skipG 3 false _ 7 rfl rfl (lit_lt rfl) rfl rfl rfl (lit_lt rfl) ?_ | refine ARun.skipU 3 false 7 rfl rfl (lit_lt rfl) rfl rfl (lit_lt rfl) ?_ | refine ARun.calmG 3 false 7 rfl rfl (lit_lt rfl) rfl rfl (lit_lt rfl) (Calm.bin rfl rfl (by first | exact bin_bool (bin_gtr _ _) (decide_eq_true (by omega)) | exact bin_bool (bin_gtr _ _) (decide_eq_false (by omega)) | exact bin_gtr _ _)) ?_
    refine ARun.calm rfl rfl (lit_lt rfl) ((by first | exact Calm.pickT rfl rfl | exact Calm.pickF rfl rfl)) ?_
    refine ARun.calm rfl rfl (lit_lt rfl) (Calm.move rfl) ?_
    first | refine ARun.skipG 8 false _ 12 rfl rfl (lit_lt rfl) rfl rfl rfl (lit_lt rfl) ?_ | refine ARun.skipU 8 false 12 rfl rfl (lit_lt rfl) rfl rfl (lit_lt rfl) ?_ | refine ARun.calmG 8 false 12 rfl rfl (lit_lt rfl) rfl rfl (lit_lt rfl) (Calm.fieldAddr ty_field_23_0 rfl) ?_
    first | refine ARun.skipG 8 false _ 12 rfl rfl (lit_lt rfl) rfl rfl rfl (lit_lt rfl) ?_ | refine ARun.skipU 8 false 12 rfl rfl (lit_lt rfl) rfl rfl (lit_lt rfl) ?_ | refine ARun.calmG 8 false 12 rfl rfl (lit_lt rfl) rfl rfl (lit_lt rfl) (Calm.load ty_plain_9 rfl ((by (repeat ((with_reducible refine (rd_set_ne _ _ ?_).trans ?_); (first | assumption | (apply Ne.symm; assumption)))); (first | ((with_reducible refine (rd_set_same _ _ _ _).trans ?_); rfl) | ((with_reducible apply rd_own'); (with_reducible assumption); rfl) | with_reducible assumption)))) ?_
    first | refine ARun.skipG 8 false _ 12 rfl rfl (lit_lt rfl) rfl rfl rfl (lit_lt rfl) ?_ | refine ARun.skipU 8 false 12 rfl rfl (lit_lt rfl) rfl rfl (lit_lt rfl) ?_ | refine ARun.calmG 8 false 12 rfl rfl (lit_lt rfl) rfl rfl (lit_lt rfl) (Calm.lenStr (strT_spec ty_str_9) rfl) ?_
    first | refine ARun.skipG 8 false _ 12 rfl rfl (lit_lt rfl) rfl rfl rfl (lit_lt rfl) ?_ | refine ARun.skipU 8 false 12 rfl rfl (lit_lt rfl) rfl rfl (lit_lt rfl) ?_ | refine ARun.calmG 8 false 12 rfl rfl (lit_lt rfl) rfl rfl (lit_lt rfl) (Calm.fieldAddr ty_field_23_1 rfl) ?_
    first | refine ARun.skipG 8 false _ 12 rfl rfl (lit_lt rfl) rfl rfl rfl (lit_lt rfl) ?_ | refine ARun.skipU 8 false 12 rfl rfl (lit_lt rfl) rfl rfl (lit_lt rfl) ?_ | refine ARun.calmG 8 false 12 rfl rfl (lit_lt rfl) rfl rfl (lit_lt rfl) (Calm.load ty_plain_3 rfl ((by (repeat ((with_reducible refine (rd_set_ne _ _ ?_).trans ?_); (first | assumption | (apply Ne.symm; assumption)))); (first | ((with_reducible refine (rd_set_same _ _ _ _).trans ?_); rfl) | ((with_reducible apply rd_own'); (with_reducible assumption); rfl) | with_reducible assumption)))) ?_
    first | refine ARun.skipG 8 false _ 12 rfl rfl (lit_lt rfl) rfl rfl rfl (lit_lt rfl) ?_ | refine ARun.skipU 8 false 12 rfl rfl (lit_lt rfl) rfl rfl (lit_lt rfl) ?_ | refine ARun.calmG 8 false 12 rfl rfl (lit_lt rfl) rfl rfl (lit_lt rfl) (Calm.bin rfl rfl (by first | exact bin_addW (IntWalk.i64_in _ (by omega)) | exact bin_add _ _)) ?_
    first | refine ARun.skipG 8 false _ 12 rfl rfl (lit_lt rfl) rfl rfl rfl (lit_lt rfl) ?_ | refine ARun.skipU 8 false 12 rfl rfl (lit_lt rfl) rfl rfl (lit_lt rfl) ?_ | refine ARun.calmG 8 false 12 rfl rfl (lit_lt rfl) rfl rfl (lit_lt rfl) (Calm.bin rfl rfl (by first | exact bin_subW (IntWalk.i64_in _ (by omega)) | exact bin_sub _ _)) ?_
    first | refine ARun.skipG 8 false _ 12 rfl rfl (lit_lt rfl) rfl rfl rfl (lit_lt rfl) ?_ | refine ARun.skipU 8 false 12 rfl rfl (lit_lt rfl) rfl rfl (lit_lt rfl) ?_ | refine ARun.calmG 8 false 12 rfl rfl (lit_lt rfl) rfl rfl (lit_lt rfl) (Calm.bin rfl rfl (by first | exact bin_quoN (by omega) (IntWalk.i64_quo _ _ (by omega)) | exact bin_quo (by omega))) ?_
    first | refine ARun.skipG 8 false _ 12 rfl rfl (lit_lt rfl) rfl rfl rfl (lit_lt rfl) ?_ | refine ARun.skipU 8 false 12 rfl rfl (lit_lt rfl) rfl rfl (lit_lt rfl) ?_ | refine ARun.calmG 8 false 12 rfl rfl (lit_lt rfl) rfl rfl (lit_lt rfl) (Calm.bin rfl rfl (by first | exact bin_bool (bin_neq _ _) (bnot_dec_true (by omega)) | exact bin_bool (bin_neq _ _) (bnot_dec_false (by omega)) | exact bin_neq _ _)) ?_
    refine ARun.calm rfl rfl (lit_lt rfl) ((by first | exact Calm.pickT rfl rfl | exact Calm.pickF rfl rfl)) ?_
    refine arun_nil ?_
    refine athen_n ?_
    refine AWP.sub [(0, _), (1, _), (2, _), (22, _)] ⟨rfl, rfl, rfl, rfl, trivial⟩ ?_
    refine AWP.condT rfl (by first | rfl | (simp; done) | (simp; omega)) ?_
    refine AWP.seq ?_
    refine AWP.region ?_
    refine ARun.calm rfl rfl (lit_lt rfl) (Calm.assign rfl) ?_
    refine arun_nil ?_
    refine athen_n ?_
    refine AWP.ret ?_
    refine athen_ret ?_
    refine ⟨_, S, ⟨_, _, rfl, rfl, rfl⟩, (by first | with_reducible exact Mem.Less.refl _ | ((with_reducible refine Mem.less_set _ _ _ (Fresh.own ?_)); with_reducible assumption) | (refine less_of ?_; (repeat first | with_reducible exact LessB.refl _ _ | ((with_reducible refine LessB.set ?_ ?_); ((repeat first | ((with_reducible refine (Mem.own_set_other _ _ ?_).trans ?_); (first | assumption | (apply Ne.symm; assumption))) | ((with_reducible refine (Mem.own_del_other _ ?_).trans ?_); (first | assumption | (apply Ne.symm; assumption)))); (first | with_reducible exact Mem.own_set_same _ _ _ | with_reducible assumption | exact Mem.own_set_same _ _ _))) | (with_reducible refine LessB.delL ?_)); (repeat first | with_reducible exact LessB.refl _ _ | ((with_reducible refine LessB.of ?_); with_reducible assumption) | ((with_reducible refine LessB.skip ?_ ?_); (first | ((refine .inl ?_); simp; done) | ((refine .inr (Fresh.own ?_)); with_reducible assumption) | ((refine .inr ?_); with_reducible assumption))) | ((with_reducible refine LessB.skipDel ?_ ?_); (first | ((refine .inl ?_); simp; done) | ((refine .inr (Fresh.own ?_)); with_reducible assumption) | ((refine .inr ?_); with_reducible assumption)))))), ?_⟩
    exact ⟨rfl, rfl⟩
theorem bitsV_CopyI (p : Nat) (s : ByteArray) (N : Int) (L : List Bool) (o : Option (Nat × Nat)) (S : Mem) (h0 : 0 ≤ N) (hs : s.size = (N.toNat + 7) / 8) (hN : N ≤ 1048576) (hlen : L.length + N.toNat ≤ 1048576) (hok : OkW S p o L) :
    ACall Try.prog 49 #[.pointer (some ⟨p, 0, none⟩), .agg #[.string s, .int .i64 N]] (wrM S p o L) fun r S' => r = .tuple #[] ∧ ∃ o', OkW S p o' (L ++ upto s.data.toList N.toNat) ∧ S' = wrM S p o' (L ++ upto s.data.toList N.toNat) := by
  have := bitsV_Copy p s N.toNat L o S hs (by omega) hlen hok
  rwa [Int.toNat_of_nonneg h0] at this
set_option maxHeartbeats 1000000 in
theorem bitsV_Put (s : ByteArray) (N v wd : Int) (S : Mem) (hs : s.size ≤ 9223372036854775807) (hv0 : 0 ≤ v) (hv1 : v ≤ 18446744073709551615) (hw0 : -9223372036854775808 ≤ wd) (hw1 : wd ≤ 9223372036854775807) :
    ACall Try.prog 15 #[.agg #[.string s, .int .i64 N], .int .u64 v, .int .i64 wd] S fun r S' => r = putP s N v wd ∧ S' = S := by
  unfold putP
  refine ACall.enter (args := [.agg #[.string s, .int .i64 N], .int .u64 v, .int .i64 wd]) (rs := [.cell 6 23, .tmp 7]) 45 [(0, .agg #[.string s, .int .i64 N]), (1, .int .u64 v), (2, .int .i64 wd)] Try.func15 rfl rfl (Nat.le_of_ble_eq_true rfl) rfl ⟨rfl, rfl, rfl, trivial⟩ ?_
  refine AWP.seq ?_
  refine AWP.region ?_
  refine ARun.boxA (cs := [_, _]) (lit_lt rfl) rfl ?_
  intro b3 f3
  have g3 := f3
  repeat ((with_reducible replace g3 := fresh_set g3); obtain ⟨g3, _⟩ := g3)
  (try simp only [List.length_cons, List.length_nil, Nat.zero_add, Nat.reduceAdd])
  refine ARun.alloc (lit_lt rfl) ty_zero_23 ?_
  intro b6 f6
  have g6 := f6
  repeat ((with_reducible replace g6 := fresh_set g6); obtain ⟨g6, _⟩ := g6)
  (try simp only [List.length_cons, List.length_nil, Nat.zero_add, Nat.reduceAdd])
  refine ARun.calm rfl rfl (lit_lt rfl) (Calm.assign rfl) ?_
  refine arun_nil ?_
  refine athen_n ?_
  refine AWP.seq ?_
  refine AWP.seq ?_
  refine AWP.region ?_
  refine ARun.calm rfl rfl (lit_lt rfl) (Calm.loadA ty_agg_23 (cs := [_, _]) ty_size_23 rfl ((by first | with_reducible assumption | ((repeat (apply rds_cons; ((repeat ((with_reducible refine (rd_set_ne _ _ ?_).trans ?_); (first | assumption | (apply Ne.symm; assumption)))); (first | ((with_reducible refine (rd_set_same _ _ _ _).trans ?_); rfl) | ((with_reducible apply rd_own'); (with_reducible assumption); rfl) | with_reducible assumption)))); exact rds_nil _ _)))) ?_
  refine ARun.call (lit_lt rfl) go_20 rfl (bitsV_Check s N _ hs) ?_
  rintro _ _ ⟨rfl, rfl⟩
  refine ARun.calm rfl rfl (lit_lt rfl) (Calm.assign rfl) ?_
  refine arun_nil ?_
  refine athen_n ?_
  refine AWP.sub [(0, _), (1, _), (2, _), (3, _), (6, _), (7, _), (8, _)] ⟨rfl, rfl, rfl, rfl, rfl, rfl, rfl, trivial⟩ ?_
  refine AWP.seq ?_
  refine AWP.region ?_
  refine ARun.calm rfl rfl (lit_lt rfl) (Calm.move rfl) ?_
  refine ARun.calm rfl rfl (lit_lt rfl) (Calm.bin rfl rfl (by first | exact bin_bool (bin_neq _ _) (bnot_dec_true (by omega)) | exact bin_bool (bin_neq _ _) (bnot_dec_false (by omega)) | exact bin_neq _ _)) ?_
  refine arun_nil ?_
  refine athen_n ?_
  refine AWP.sub [(0, _), (1, _), (2, _), (3, _), (6, _), (7, _), (8, _), (13, _)] ⟨rfl, rfl, rfl, rfl, rfl, rfl, rfl, rfl, trivial⟩ ?_
  refine AWP.condB rfl (fun hc => ?_) (fun hc => ?_)
  · have hc := bnot_t hc
    refine AWP.seq ?_
    refine AWP.region ?_
    refine ARun.calm rfl rfl (lit_lt rfl) (Calm.build (cs := [_, _]) ty_bld_23 rfl rfl) ?_
    refine ARun.calm rfl rfl (lit_lt rfl) (Calm.move rfl) ?_
    first | refine ARun.storeAll rfl rfl ty_size_23 ((by (repeat first | ((with_reducible refine (Mem.own_set_other _ _ ?_).trans ?_); (first | assumption | (apply Ne.symm; assumption))) | ((with_reducible refine (Mem.own_del_other _ ?_).trans ?_); (first | assumption | (apply Ne.symm; assumption)))); (first | with_reducible exact Mem.own_set_same _ _ _ | with_reducible assumption | exact Mem.own_set_same _ _ _))) rfl rfl ?_ | refine ARun.store rfl rfl ty_size_23 ((by (repeat first | ((with_reducible refine (Mem.own_set_other _ _ ?_).trans ?_); (first | assumption | (apply Ne.symm; assumption))) | ((with_reducible refine (Mem.own_del_other _ ?_).trans ?_); (first | assumption | (apply Ne.symm; assumption)))); (first | with_reducible exact Mem.own_set_same _ _ _ | with_reducible assumption | exact Mem.own_set_same _ _ _))) ((by first | decide | (simp; done) | (simp; omega) | omega)) rfl ?_
    (try simp only [Mem.set_set, List.set_cons_zero, List.set_cons_succ, Nat.zero_add, Nat.reduceAdd])
    refine ARun.calm rfl rfl (lit_lt rfl) (Calm.assign rfl) ?_
    refine arun_nil ?_
    refine athen_n ?_
    refine AWP.sub [(0, _), (1, _), (2, _), (3, _), (6, _), (7, _), (8, _), (13, _)] ⟨rfl, rfl, rfl, rfl, rfl, rfl, rfl, rfl, trivial⟩ ?_
    refine AWP.ret ?_
    refine athen_ret ?_
    refine ⟨_, S, ⟨_, _, _, rfl, .inr ⟨ty_agg_23, [_, _], ty_size_23, (by first | with_reducible assumption | ((repeat (apply rds_cons; ((repeat ((with_reducible refine (rd_set_ne _ _ ?_).trans ?_); (first | assumption | (apply Ne.symm; assumption)))); (first | ((with_reducible refine (rd_set_same _ _ _ _).trans ?_); rfl) | ((with_reducible apply rd_own'); (with_reducible assumption); rfl) | with_reducible assumption)))); exact rds_nil _ _)), rfl⟩, ⟨_, _, rfl, rfl, rfl⟩, rfl⟩, (by first | with_reducible exact Mem.Less.refl _ | ((with_reducible refine Mem.less_set _ _ _ (Fresh.own ?_)); with_reducible assumption) | (refine less_of ?_; (repeat first | with_reducible exact LessB.refl _ _ | ((with_reducible refine LessB.set ?_ ?_); ((repeat first | ((with_reducible refine (Mem.own_set_other _ _ ?_).trans ?_); (first | assumption | (apply Ne.symm; assumption))) | ((with_reducible refine (Mem.own_del_other _ ?_).trans ?_); (first | assumption | (apply Ne.symm; assumption)))); (first | with_reducible exact Mem.own_set_same _ _ _ | with_reducible assumption | exact Mem.own_set_same _ _ _))) | (with_reducible refine LessB.delL ?_)); (repeat first | with_reducible exact LessB.refl _ _ | ((with_reducible refine LessB.of ?_); with_reducible assumption) | ((with_reducible refine LessB.skip ?_ ?_); (first | ((refine .inl ?_); simp; done) | ((refine .inr (Fresh.own ?_)); with_reducible assumption) | ((refine .inr ?_); with_reducible assumption))) | ((with_reducible refine LessB.skipDel ?_ ?_); (first | ((refine .inl ?_); simp; done) | ((refine .inr (Fresh.own ?_)); with_reducible assumption) | ((refine .inr ?_); with_reducible assumption)))))), ?_⟩
    exact ⟨by rw [if_pos hc, chk_two hc]; rfl, rfl⟩
  · have hc := bnot_f hc
    rw [if_neg (fun h => h hc)]
    obtain ⟨hN0, hN1, hR⟩ := chk_right hc
    by_cases hw : 0 ≤ wd ∧ wd ≤ 64
    · refine AWP.skip ?_
      refine athen_n ?_
      refine AWP.seq ?_
      refine AWP.block ?_
      refine AWP.seq ?_
      refine AWP.region ?_
      refine ARun.calm rfl rfl (lit_lt rfl) (Calm.move rfl) ?_
      refine ARun.call (lit_lt rfl) go_47 rfl (bits_wide wd _) ?_
      rintro _ _ ⟨rfl, rfl⟩
      rw [decide_eq_true hw]
      refine ARun.calm rfl rfl (lit_lt rfl) (Calm.un rfl (una_not _)) ?_
      refine ARun.calm rfl rfl (lit_lt rfl) (Calm.move rfl) ?_
      first | refine ARun.skipG 3 false _ 20 rfl rfl (lit_lt rfl) rfl rfl rfl (lit_lt rfl) ?_ | refine ARun.skipU 3 false 20 rfl rfl (lit_lt rfl) rfl rfl (lit_lt rfl) ?_ | refine ARun.calmG 3 false 20 rfl rfl (lit_lt rfl) rfl rfl (lit_lt rfl) (Calm.move rfl) ?_
      refine ARun.callG 3 false 20 rfl (lit_lt rfl) rfl (lit_lt rfl) go_48 rfl (ACall.of_same fun w => lib_Len64 v w hv0 hv1) ?_
      rintro _ _ ⟨rfl, rfl⟩
      first | refine ARun.skipG 3 false _ 20 rfl rfl (lit_lt rfl) rfl rfl rfl (lit_lt rfl) ?_ | refine ARun.skipU 3 false 20 rfl rfl (lit_lt rfl) rfl rfl (lit_lt rfl) ?_ | refine ARun.calmG 3 false 20 rfl rfl (lit_lt rfl) rfl rfl (lit_lt rfl) (Calm.move rfl) ?_
      first | refine ARun.skipG 3 false _ 20 rfl rfl (lit_lt rfl) rfl rfl rfl (lit_lt rfl) ?_ | refine ARun.skipU 3 false 20 rfl rfl (lit_lt rfl) rfl rfl (lit_lt rfl) ?_ | refine ARun.calmG 3 false 20 rfl rfl (lit_lt rfl) rfl rfl (lit_lt rfl) (Calm.bin rfl rfl (by first | exact bin_bool (bin_gtr _ _) (decide_eq_true (by omega)) | exact bin_bool (bin_gtr _ _) (decide_eq_false (by omega)) | exact bin_gtr _ _)) ?_
      refine ARun.calm rfl rfl (lit_lt rfl) ((by first | exact Calm.pickT rfl rfl | exact Calm.pickF rfl rfl)) ?_
      refine ARun.calm rfl rfl (lit_lt rfl) (Calm.assign rfl) ?_
      refine arun_nil ?_
      refine athen_n ?_
      refine AWP.sub [(0, _), (1, _), (2, _), (3, _), (6, _), (7, _), (8, _), (13, _), (16, _)] ⟨rfl, rfl, rfl, rfl, rfl, rfl, rfl, rfl, rfl, trivial⟩ ?_
      refine AWP.condB rfl (fun hl => ?_) (fun hl => ?_)
      · have hl := of_decide_eq_true hl
        refine AWP.seq ?_
        refine AWP.region ?_
        refine ARun.calm rfl rfl (lit_lt rfl) (Calm.loadA ty_agg_23 (cs := [_, _]) ty_size_23 rfl ((by first | with_reducible assumption | ((repeat (apply rds_cons; ((repeat ((with_reducible refine (rd_set_ne _ _ ?_).trans ?_); (first | assumption | (apply Ne.symm; assumption)))); (first | ((with_reducible refine (rd_set_same _ _ _ _).trans ?_); rfl) | ((with_reducible apply rd_own'); (with_reducible assumption); rfl) | with_reducible assumption)))); exact rds_nil _ _)))) ?_
        first | refine ARun.storeAll rfl rfl ty_size_23 ((by (repeat first | ((with_reducible refine (Mem.own_set_other _ _ ?_).trans ?_); (first | assumption | (apply Ne.symm; assumption))) | ((with_reducible refine (Mem.own_del_other _ ?_).trans ?_); (first | assumption | (apply Ne.symm; assumption)))); (first | with_reducible exact Mem.own_set_same _ _ _ | with_reducible assumption | exact Mem.own_set_same _ _ _))) rfl rfl ?_ | refine ARun.store rfl rfl ty_size_23 ((by (repeat first | ((with_reducible refine (Mem.own_set_other _ _ ?_).trans ?_); (first | assumption | (apply Ne.symm; assumption))) | ((with_reducible refine (Mem.own_del_other _ ?_).trans ?_); (first | assumption | (apply Ne.symm; assumption)))); (first | with_reducible exact Mem.own_set_same _ _ _ | with_reducible assumption | exact Mem.own_set_same _ _ _))) ((by first | decide | (simp; done) | (simp; omega) | omega)) rfl ?_
        (try simp only [Mem.set_set, List.set_cons_zero, List.set_cons_succ, Nat.zero_add, Nat.reduceAdd])
        refine ARun.calm rfl rfl (lit_lt rfl) (Calm.assign rfl) ?_
        refine arun_nil ?_
        refine athen_n ?_
        refine AWP.sub [(0, _), (1, _), (2, _), (3, _), (6, _), (7, _), (8, _), (13, _), (16, _)] ⟨rfl, rfl, rfl, rfl, rfl, rfl, rfl, rfl, rfl, trivial⟩ ?_
        refine AWP.ret ?_
        refine ain_ret ?_
        refine athen_ret ?_
        refine ⟨_, S, ⟨_, _, _, rfl, .inr ⟨ty_agg_23, [_, _], ty_size_23, (by first | with_reducible assumption | ((repeat (apply rds_cons; ((repeat ((with_reducible refine (rd_set_ne _ _ ?_).trans ?_); (first | assumption | (apply Ne.symm; assumption)))); (first | ((with_reducible refine (rd_set_same _ _ _ _).trans ?_); rfl) | ((with_reducible apply rd_own'); (with_reducible assumption); rfl) | with_reducible assumption)))); exact rds_nil _ _)), rfl⟩, ⟨_, _, rfl, rfl, rfl⟩, rfl⟩, (by first | with_reducible exact Mem.Less.refl _ | ((with_reducible refine Mem.less_set _ _ _ (Fresh.own ?_)); with_reducible assumption) | (refine less_of ?_; (repeat first | with_reducible exact LessB.refl _ _ | ((with_reducible refine LessB.set ?_ ?_); ((repeat first | ((with_reducible refine (Mem.own_set_other _ _ ?_).trans ?_); (first | assumption | (apply Ne.symm; assumption))) | ((with_reducible refine (Mem.own_del_other _ ?_).trans ?_); (first | assumption | (apply Ne.symm; assumption)))); (first | with_reducible exact Mem.own_set_same _ _ _ | with_reducible assumption | exact Mem.own_set_same _ _ _))) | (with_reducible refine LessB.delL ?_)); (repeat first | with_reducible exact LessB.refl _ _ | ((with_reducible refine LessB.of ?_); with_reducible assumption) | ((with_reducible refine LessB.skip ?_ ?_); (first | ((refine .inl ?_); simp; done) | ((refine .inr (Fresh.own ?_)); with_reducible assumption) | ((refine .inr ?_); with_reducible assumption))) | ((with_reducible refine LessB.skipDel ?_ ?_); (first | ((refine .inl ?_); simp; done) | ((refine .inr (Fresh.own ?_)); with_reducible assumption) | ((refine .inr ?_); with_reducible assumption)))))), ?_⟩
        exact ⟨by rw [if_pos (.inr (by omega))]; rfl, rfl⟩
      · have hl := of_decide_eq_false hl
        rw [if_neg (fun h => by rcases h with h | h; exact h hw; omega)]
        refine AWP.seq ?_
        refine AWP.region ?_
        refine ARun.calm rfl rfl (lit_lt rfl) (Calm.fieldAddr ty_field_23_1 rfl) ?_
        refine ARun.calm rfl rfl (lit_lt rfl) (Calm.load ty_plain_3 rfl ((by (repeat ((with_reducible refine (rd_set_ne _ _ ?_).trans ?_); (first | assumption | (apply Ne.symm; assumption)))); (first | ((with_reducible refine (rd_set_same _ _ _ _).trans ?_); rfl) | ((with_reducible apply rd_own'); (with_reducible assumption); rfl) | with_reducible assumption)))) ?_
        refine ARun.calm rfl rfl (lit_lt rfl) (Calm.move rfl) ?_
        refine ARun.calm rfl rfl (lit_lt rfl) (Calm.bin rfl rfl (by first | exact bin_subW (IntWalk.i64_in _ (by omega)) | exact bin_sub _ _)) ?_
        refine ARun.calm rfl rfl (lit_lt rfl) (Calm.bin rfl rfl (by first | exact bin_bool (bin_gtr _ _) (decide_eq_true (by omega)) | exact bin_bool (bin_gtr _ _) (decide_eq_false (by omega)) | exact bin_gtr _ _)) ?_
        refine ARun.calm rfl rfl (lit_lt rfl) (Calm.assign rfl) ?_
        refine arun_nil ?_
        refine athen_n ?_
        refine AWP.sub [(0, _), (1, _), (2, _), (3, _), (6, _), (7, _), (8, _), (13, _), (16, _), (27, _)] ⟨rfl, rfl, rfl, rfl, rfl, rfl, rfl, rfl, rfl, rfl, trivial⟩ ?_
        refine AWP.condB rfl (fun hf => ?_) (fun hf => ?_)
        · have hf := of_decide_eq_true hf
          refine AWP.seq ?_
          refine AWP.region ?_
          refine ARun.calm rfl rfl (lit_lt rfl) (Calm.loadA ty_agg_23 (cs := [_, _]) ty_size_23 rfl ((by first | with_reducible assumption | ((repeat (apply rds_cons; ((repeat ((with_reducible refine (rd_set_ne _ _ ?_).trans ?_); (first | assumption | (apply Ne.symm; assumption)))); (first | ((with_reducible refine (rd_set_same _ _ _ _).trans ?_); rfl) | ((with_reducible apply rd_own'); (with_reducible assumption); rfl) | with_reducible assumption)))); exact rds_nil _ _)))) ?_
          first | refine ARun.storeAll rfl rfl ty_size_23 ((by (repeat first | ((with_reducible refine (Mem.own_set_other _ _ ?_).trans ?_); (first | assumption | (apply Ne.symm; assumption))) | ((with_reducible refine (Mem.own_del_other _ ?_).trans ?_); (first | assumption | (apply Ne.symm; assumption)))); (first | with_reducible exact Mem.own_set_same _ _ _ | with_reducible assumption | exact Mem.own_set_same _ _ _))) rfl rfl ?_ | refine ARun.store rfl rfl ty_size_23 ((by (repeat first | ((with_reducible refine (Mem.own_set_other _ _ ?_).trans ?_); (first | assumption | (apply Ne.symm; assumption))) | ((with_reducible refine (Mem.own_del_other _ ?_).trans ?_); (first | assumption | (apply Ne.symm; assumption)))); (first | with_reducible exact Mem.own_set_same _ _ _ | with_reducible assumption | exact Mem.own_set_same _ _ _))) ((by first | decide | (simp; done) | (simp; omega) | omega)) rfl ?_
          (try simp only [Mem.set_set, List.set_cons_zero, List.set_cons_succ, Nat.zero_add, Nat.reduceAdd])
          refine ARun.calm rfl rfl (lit_lt rfl) (Calm.assign rfl) ?_
          refine arun_nil ?_
          refine athen_n ?_
          refine AWP.sub [(0, _), (1, _), (2, _), (3, _), (6, _), (7, _), (8, _), (13, _), (16, _), (27, _)] ⟨rfl, rfl, rfl, rfl, rfl, rfl, rfl, rfl, rfl, rfl, trivial⟩ ?_
          refine AWP.ret ?_
          refine ain_ret ?_
          refine athen_ret ?_
          refine ⟨_, S, ⟨_, _, _, rfl, .inr ⟨ty_agg_23, [_, _], ty_size_23, (by first | with_reducible assumption | ((repeat (apply rds_cons; ((repeat ((with_reducible refine (rd_set_ne _ _ ?_).trans ?_); (first | assumption | (apply Ne.symm; assumption)))); (first | ((with_reducible refine (rd_set_same _ _ _ _).trans ?_); rfl) | ((with_reducible apply rd_own'); (with_reducible assumption); rfl) | with_reducible assumption)))); exact rds_nil _ _)), rfl⟩, ⟨_, _, rfl, rfl, rfl⟩, rfl⟩, (by first | with_reducible exact Mem.Less.refl _ | ((with_reducible refine Mem.less_set _ _ _ (Fresh.own ?_)); with_reducible assumption) | (refine less_of ?_; (repeat first | with_reducible exact LessB.refl _ _ | ((with_reducible refine LessB.set ?_ ?_); ((repeat first | ((with_reducible refine (Mem.own_set_other _ _ ?_).trans ?_); (first | assumption | (apply Ne.symm; assumption))) | ((with_reducible refine (Mem.own_del_other _ ?_).trans ?_); (first | assumption | (apply Ne.symm; assumption)))); (first | with_reducible exact Mem.own_set_same _ _ _ | with_reducible assumption | exact Mem.own_set_same _ _ _))) | (with_reducible refine LessB.delL ?_)); (repeat first | with_reducible exact LessB.refl _ _ | ((with_reducible refine LessB.of ?_); with_reducible assumption) | ((with_reducible refine LessB.skip ?_ ?_); (first | ((refine .inl ?_); simp; done) | ((refine .inr (Fresh.own ?_)); with_reducible assumption) | ((refine .inr ?_); with_reducible assumption))) | ((with_reducible refine LessB.skipDel ?_ ?_); (first | ((refine .inl ?_); simp; done) | ((refine .inr (Fresh.own ?_)); with_reducible assumption) | ((refine .inr ?_); with_reducible assumption)))))), ?_⟩
          exact ⟨by rw [if_pos hf]; rfl, rfl⟩
        · have hf := of_decide_eq_false hf
          rw [if_neg hf]
          have hs1 : s.size = (N.toNat + 7) / 8 := by rw [← hR.1]; exact (Array.length_toList (xs := s.data)).symm
          refine AWP.skip ?_
          refine ain_n ?_
          refine athen_n ?_
          refine AWP.seq ?_
          refine AWP.region ?_
          refine ARun.calm rfl rfl (lit_lt rfl) (Calm.build (cs := [_, _, _]) ty_bld_65 rfl rfl) ?_
          refine ARun.boxA (cs := [_, _, _]) (lit_lt rfl) rfl ?_
          intro b35 f35
          have g35 := f35
          repeat ((with_reducible replace g35 := fresh_set g35); obtain ⟨g35, _⟩ := g35)
          (try simp only [List.length_cons, List.length_nil, Nat.zero_add, Nat.reduceAdd])
          refine ARun.calm rfl rfl (lit_lt rfl) (Calm.assign rfl) ?_
          refine arun_nil ?_
          refine athen_n ?_
          refine AWP.sub [(0, _), (1, _), (2, _), (3, _), (6, _), (7, _), (8, _), (13, _), (16, _), (27, _), (9, _)] ⟨rfl, rfl, rfl, rfl, rfl, rfl, rfl, rfl, rfl, rfl, rfl, trivial⟩ ?_
          rw [← wrM_nil]
          have hm3 := own_wrM_ok (okW_nil f35) (b := b3) (r := ⟨23, [.string s, .int .i64 N], 2⟩) ((by (repeat first | ((with_reducible refine (Mem.own_set_other _ _ ?_).trans ?_); (first | assumption | (apply Ne.symm; assumption))) | ((with_reducible refine (Mem.own_del_other _ ?_).trans ?_); (first | assumption | (apply Ne.symm; assumption)))); (first | with_reducible exact Mem.own_set_same _ _ _ | with_reducible assumption | exact Mem.own_set_same _ _ _)))
          refine AWP.seq ?_
          refine AWP.region ?_
          refine ARun.calm rfl rfl (lit_lt rfl) (Calm.move rfl) ?_
          refine ARun.calm rfl rfl (lit_lt rfl) (Calm.loadA ty_agg_23 (cs := [_, _]) ty_size_23 rfl ((by first | with_reducible assumption | ((repeat (apply rds_cons; ((repeat ((with_reducible refine (rd_set_ne _ _ ?_).trans ?_); (first | assumption | (apply Ne.symm; assumption)))); (first | ((with_reducible refine (rd_set_same _ _ _ _).trans ?_); rfl) | ((with_reducible apply rd_own'); (with_reducible assumption); rfl) | with_reducible assumption)))); exact rds_nil _ _)))) ?_
          refine ARun.call (lit_lt rfl) go_49 rfl (bitsV_CopyI b35 s N [] none _ hN0 hs1 (by omega) (by simp; omega) (okW_nil (by assumption))) ?_
          rintro _ _ ⟨rfl, o1, hk1, rfl⟩
          refine arun_nil ?_
          refine athen_n ?_
          refine AWP.sub [(0, _), (1, _), (2, _), (3, _), (6, _), (7, _), (8, _), (13, _), (16, _), (27, _), (9, _)] ⟨rfl, rfl, rfl, rfl, rfl, rfl, rfl, rfl, rfl, rfl, rfl, trivial⟩ ?_
          refine AWP.seq ?_
          refine AWP.region ?_
          refine ARun.calm rfl rfl (lit_lt rfl) (Calm.move rfl) ?_
          refine ARun.calm rfl rfl (lit_lt rfl) (Calm.move rfl) ?_
          refine ARun.calm rfl rfl (lit_lt rfl) (Calm.move rfl) ?_
          refine ARun.call (lit_lt rfl) go_50 rfl (bitsV_AddI b35 v wd _ o1 _ (by omega) (by omega) (by omega) (by omega) (by simp [upto_length]; omega) hk1) ?_
          rintro _ _ ⟨rfl, o2, hk2, rfl⟩
          refine arun_nil ?_
          refine athen_n ?_
          refine AWP.sub [(0, _), (1, _), (2, _), (3, _), (6, _), (7, _), (8, _), (13, _), (16, _), (27, _), (9, _)] ⟨rfl, rfl, rfl, rfl, rfl, rfl, rfl, rfl, rfl, rfl, rfl, trivial⟩ ?_
          refine AWP.seq ?_
          refine AWP.region ?_
          refine ARun.calm rfl rfl (lit_lt rfl) (Calm.move rfl) ?_
          refine ARun.call (lit_lt rfl) go_51 rfl (bitsV_Bits b35 _ o2 _ (by simp [upto_length, numB_length]; omega) hk2) ?_
          rintro _ _ ⟨rfl, rfl⟩
          first | refine ARun.storeAll rfl rfl ty_size_23 ((by (repeat first | ((with_reducible refine (Mem.own_set_other _ _ ?_).trans ?_); (first | assumption | (apply Ne.symm; assumption))) | ((with_reducible refine (Mem.own_del_other _ ?_).trans ?_); (first | assumption | (apply Ne.symm; assumption)))); (first | with_reducible exact Mem.own_set_same _ _ _ | with_reducible assumption | exact Mem.own_set_same _ _ _))) rfl rfl ?_ | refine ARun.store rfl rfl ty_size_23 ((by (repeat first | ((with_reducible refine (Mem.own_set_other _ _ ?_).trans ?_); (first | assumption | (apply Ne.symm; assumption))) | ((with_reducible refine (Mem.own_del_other _ ?_).trans ?_); (first | assumption | (apply Ne.symm; assumption)))); (first | with_reducible exact Mem.own_set_same _ _ _ | with_reducible assumption | exact Mem.own_set_same _ _ _))) ((by first | decide | (simp; done) | (simp; omega) | omega)) rfl ?_
          (try simp only [Mem.set_set, List.set_cons_zero, List.set_cons_succ, Nat.zero_add, Nat.reduceAdd])
          refine ARun.calm rfl rfl (lit_lt rfl) (Calm.assign rfl) ?_
          refine arun_nil ?_
          refine athen_n ?_
          refine AWP.sub [(0, _), (1, _), (2, _), (3, _), (6, _), (7, _), (8, _), (13, _), (16, _), (27, _), (9, _)] ⟨rfl, rfl, rfl, rfl, rfl, rfl, rfl, rfl, rfl, rfl, rfl, trivial⟩ ?_
          refine AWP.ret ?_
          refine ⟨_, S, ⟨_, _, _, rfl, .inr ⟨ty_agg_23, [_, _], ty_size_23, (by first | with_reducible assumption | ((repeat (apply rds_cons; ((repeat ((with_reducible refine (rd_set_ne _ _ ?_).trans ?_); (first | assumption | (apply Ne.symm; assumption)))); (first | ((with_reducible refine (rd_set_same _ _ _ _).trans ?_); rfl) | ((with_reducible apply rd_own'); (with_reducible assumption); rfl) | with_reducible assumption)))); exact rds_nil _ _)), rfl⟩, ⟨_, _, rfl, rfl, rfl⟩, rfl⟩, (by first | with_reducible exact Mem.Less.refl _ | ((with_reducible refine Mem.less_set _ _ _ (Fresh.own ?_)); with_reducible assumption) | (refine less_of ?_; (repeat first | with_reducible exact LessB.refl _ _ | ((with_reducible refine LessB.set ?_ ?_); ((repeat first | ((with_reducible refine (Mem.own_set_other _ _ ?_).trans ?_); (first | assumption | (apply Ne.symm; assumption))) | ((with_reducible refine (Mem.own_del_other _ ?_).trans ?_); (first | assumption | (apply Ne.symm; assumption)))); (first | with_reducible exact Mem.own_set_same _ _ _ | with_reducible assumption | exact Mem.own_set_same _ _ _))) | (with_reducible refine LessB.delL ?_)); (repeat first | with_reducible exact LessB.refl _ _ | ((with_reducible refine LessB.of ?_); with_reducible assumption) | ((with_reducible refine LessB.skip ?_ ?_); (first | ((refine .inl ?_); simp; done) | ((refine .inr (Fresh.own ?_)); with_reducible assumption) | ((refine .inr ?_); with_reducible assumption))) | ((with_reducible refine LessB.skipDel ?_ ?_); (first | ((refine .inl ?_); simp; done) | ((refine .inr (Fresh.own ?_)); with_reducible assumption) | ((refine .inr ?_); with_reducible assumption)))))), ?_⟩
          exact ⟨by simp only [List.nil_append, List.length_append, upto_length, numB_length, two, bv, one]; rw [show ((N.toNat + wd.toNat : Nat) : Int) = N + wd from by omega], rfl⟩
    · refine AWP.skip ?_
      refine athen_n ?_
      refine AWP.seq ?_
      refine AWP.block ?_
      refine AWP.seq ?_
      refine AWP.region ?_
      refine ARun.calm rfl rfl (lit_lt rfl) (Calm.move rfl) ?_
      refine ARun.call (lit_lt rfl) go_47 rfl (bits_wide wd _) ?_
      rintro _ _ ⟨rfl, rfl⟩
      rw [decide_eq_false hw]
      refine ARun.calm rfl rfl (lit_lt rfl) (Calm.un rfl (una_not _)) ?_
      refine ARun.calm rfl rfl (lit_lt rfl) (Calm.move rfl) ?_
      first | refine ARun.skipG 3 false _ 20 rfl rfl (lit_lt rfl) rfl rfl rfl (lit_lt rfl) ?_ | refine ARun.skipU 3 false 20 rfl rfl (lit_lt rfl) rfl rfl (lit_lt rfl) ?_ | refine ARun.calmG 3 false 20 rfl rfl (lit_lt rfl) rfl rfl (lit_lt rfl) (Calm.move rfl) ?_
      first | refine ARun.skipG 3 false _ 20 rfl rfl (lit_lt rfl) rfl rfl rfl (lit_lt rfl) ?_ | refine ARun.skipU 3 false 20 rfl rfl (lit_lt rfl) rfl rfl (lit_lt rfl) ?_
      first | refine ARun.skipG 3 false _ 20 rfl rfl (lit_lt rfl) rfl rfl rfl (lit_lt rfl) ?_ | refine ARun.skipU 3 false 20 rfl rfl (lit_lt rfl) rfl rfl (lit_lt rfl) ?_ | refine ARun.calmG 3 false 20 rfl rfl (lit_lt rfl) rfl rfl (lit_lt rfl) (Calm.move rfl) ?_
      first | refine ARun.skipG 3 false _ 20 rfl rfl (lit_lt rfl) rfl rfl rfl (lit_lt rfl) ?_ | refine ARun.skipU 3 false 20 rfl rfl (lit_lt rfl) rfl rfl (lit_lt rfl) ?_ | refine ARun.calmG 3 false 20 rfl rfl (lit_lt rfl) rfl rfl (lit_lt rfl) (Calm.bin rfl rfl (by first | exact bin_bool (bin_gtr _ _) (decide_eq_true (by omega)) | exact bin_bool (bin_gtr _ _) (decide_eq_false (by omega)) | exact bin_gtr _ _)) ?_
      refine ARun.calm rfl rfl (lit_lt rfl) ((by first | exact Calm.pickT rfl rfl | exact Calm.pickF rfl rfl)) ?_
      refine ARun.calm rfl rfl (lit_lt rfl) (Calm.assign rfl) ?_
      refine arun_nil ?_
      refine athen_n ?_
      refine AWP.sub [(0, _), (1, _), (2, _), (3, _), (6, _), (7, _), (8, _), (13, _), (16, _)] ⟨rfl, rfl, rfl, rfl, rfl, rfl, rfl, rfl, rfl, trivial⟩ ?_
      refine AWP.condT rfl (by first | rfl | (simp; done) | (simp; omega)) ?_
      refine AWP.seq ?_
      refine AWP.region ?_
      refine ARun.calm rfl rfl (lit_lt rfl) (Calm.loadA ty_agg_23 (cs := [_, _]) ty_size_23 rfl ((by first | with_reducible assumption | ((repeat (apply rds_cons; ((repeat ((with_reducible refine (rd_set_ne _ _ ?_).trans ?_); (first | assumption | (apply Ne.symm; assumption)))); (first | ((with_reducible refine (rd_set_same _ _ _ _).trans ?_); rfl) | ((with_reducible apply rd_own'); (with_reducible assumption); rfl) | with_reducible assumption)))); exact rds_nil _ _)))) ?_
      first | refine ARun.storeAll rfl rfl ty_size_23 ((by (repeat first | ((with_reducible refine (Mem.own_set_other _ _ ?_).trans ?_); (first | assumption | (apply Ne.symm; assumption))) | ((with_reducible refine (Mem.own_del_other _ ?_).trans ?_); (first | assumption | (apply Ne.symm; assumption)))); (first | with_reducible exact Mem.own_set_same _ _ _ | with_reducible assumption | exact Mem.own_set_same _ _ _))) rfl rfl ?_ | refine ARun.store rfl rfl ty_size_23 ((by (repeat first | ((with_reducible refine (Mem.own_set_other _ _ ?_).trans ?_); (first | assumption | (apply Ne.symm; assumption))) | ((with_reducible refine (Mem.own_del_other _ ?_).trans ?_); (first | assumption | (apply Ne.symm; assumption)))); (first | with_reducible exact Mem.own_set_same _ _ _ | with_reducible assumption | exact Mem.own_set_same _ _ _))) ((by first | decide | (simp; done) | (simp; omega) | omega)) rfl ?_
      (try simp only [Mem.set_set, List.set_cons_zero, List.set_cons_succ, Nat.zero_add, Nat.reduceAdd])
      refine ARun.calm rfl rfl (lit_lt rfl) (Calm.assign rfl) ?_
      refine arun_nil ?_
      refine athen_n ?_
      refine AWP.sub [(0, _), (1, _), (2, _), (3, _), (6, _), (7, _), (8, _), (13, _), (16, _)] ⟨rfl, rfl, rfl, rfl, rfl, rfl, rfl, rfl, rfl, trivial⟩ ?_
      refine AWP.ret ?_
      refine ain_ret ?_
      refine athen_ret ?_
      refine ⟨_, S, ⟨_, _, _, rfl, .inr ⟨ty_agg_23, [_, _], ty_size_23, (by first | with_reducible assumption | ((repeat (apply rds_cons; ((repeat ((with_reducible refine (rd_set_ne _ _ ?_).trans ?_); (first | assumption | (apply Ne.symm; assumption)))); (first | ((with_reducible refine (rd_set_same _ _ _ _).trans ?_); rfl) | ((with_reducible apply rd_own'); (with_reducible assumption); rfl) | with_reducible assumption)))); exact rds_nil _ _)), rfl⟩, ⟨_, _, rfl, rfl, rfl⟩, rfl⟩, (by first | with_reducible exact Mem.Less.refl _ | ((with_reducible refine Mem.less_set _ _ _ (Fresh.own ?_)); with_reducible assumption) | (refine less_of ?_; (repeat first | with_reducible exact LessB.refl _ _ | ((with_reducible refine LessB.set ?_ ?_); ((repeat first | ((with_reducible refine (Mem.own_set_other _ _ ?_).trans ?_); (first | assumption | (apply Ne.symm; assumption))) | ((with_reducible refine (Mem.own_del_other _ ?_).trans ?_); (first | assumption | (apply Ne.symm; assumption)))); (first | with_reducible exact Mem.own_set_same _ _ _ | with_reducible assumption | exact Mem.own_set_same _ _ _))) | (with_reducible refine LessB.delL ?_)); (repeat first | with_reducible exact LessB.refl _ _ | ((with_reducible refine LessB.of ?_); with_reducible assumption) | ((with_reducible refine LessB.skip ?_ ?_); (first | ((refine .inl ?_); simp; done) | ((refine .inr (Fresh.own ?_)); with_reducible assumption) | ((refine .inr ?_); with_reducible assumption))) | ((with_reducible refine LessB.skipDel ?_ ?_); (first | ((refine .inl ?_); simp; done) | ((refine .inr (Fresh.own ?_)); with_reducible assumption) | ((refine .inr ?_); with_reducible assumption)))))), ?_⟩
      exact ⟨by rw [if_pos (.inl hw)]; rfl, rfl⟩
end Go.Proofs.Ytpeljbmbgjeomaa
