/-
  Bitstrs that are held against each other; puts() and cuts().
-/
import Derived.Test.YtpeljbmbgjeomaaVBitsR4
namespace Go.Proofs.Ytpeljbmbgjeomaa
open Go.RowKit
open Bits Mv
set_option linter.unusedVariables false
set_option linter.unusedSimpArgs false
theorem eql_bv (a b : ByteArray) (n m : Int) (w : World) : (binOp .eql 23 (.agg #[.string a, .int .i64 n]) (.agg #[.string b, .int .i64 m])).run Try.prog w = .ok (.bool (decide (a = b ∧ n = m))) w := by
  have e : (decide (a = b ∧ n = m)) = ((a.toList == b.toList) && (n == m)) := by
    rw [Bool.eq_iff_iff]; simp [str_inj]
  rw [e]
  go_simp
  cases h : (a.toList == b.toList) <;> cases h2 : (n == m) <;> simp_all
theorem bin_eql_Bitstr {x y : Operand} (a b : ByteArray) (n m : Int) : Bin Try.prog .eql 23 x y (.agg #[.string a, .int .i64 n]) (.agg #[.string b, .int .i64 m]) (.bool (decide (a = b ∧ n = m))) := fun w => by
  rw [Sem.run_bind, run_eqGuard_agg w .eql 23 x y _ _ (by kernel_rfl)]
  exact eql_bv a b n m w
namespace Bits
theorem chk_pack (L : List Bool) (h : L.length ≤ 1048576) : chk (bs (pack L)).data.toList (L.length : Nat) = 0 :=
  chk_yes ⟨by omega, by omega, by rw [bs_data, Int.toNat_natCast]; exact right_pack L⟩
theorem putP_pack (L : List Bool) (v w : Int) (h : L.length ≤ 1048576) : putP (bs (pack L)) (L.length : Nat) v w =
    if ¬ (0 ≤ w ∧ w ≤ 64) ∨ w < Lib.bitLen v.toNat then two (bv (bs (pack L)) (L.length : Nat)) 1
    else if 1048576 - w < (L.length : Nat) then two (bv (bs (pack L)) (L.length : Nat)) 8
    else two (bv (bs (pack (L ++ numB v.toNat w.toNat))) ((L.length : Nat) + w)) 0 := by
  unfold putP
  rw [if_neg (fun h' => h' (chk_pack L h)), bs_data, Int.toNat_natCast, upto_pack]
theorem getP_pack (L : List Bool) (a w : Int) (h : L.length ≤ 1048576) : getP (bs (pack L)) (L.length : Nat) a w =
    if ¬ (0 ≤ w ∧ w ≤ 64) ∨ a < 0 ∨ (L.length : Nat) < a then two (.int .u64 0) 1
    else if (L.length : Nat) - a < w then two (.int .u64 0) 5
    else two (.int .u64 (num (slc (pack L) a.toNat w.toNat) : Nat)) 0 := by
  unfold getP
  rw [if_neg (fun h' => h' (chk_pack L h)), bs_data]
theorem slc_pack (L : List Bool) (a w : Nat) (h : a + w ≤ L.length) : slc (pack L) a w = (L.drop a).take w := by
  rw [← slc_get (pack L) L.length a w h, upto_pack]
def t3 : List Bool := [true, false, true]
def t5 : List Bool := [true, false, true, false, true]
theorem p1 : putP ByteArray.empty 0 5 3 = .tuple #[.agg #[.string (bs (pack t3)), .int .i64 3], .int .i64 0] := by
  have h := putP_pack [] 5 3 (by simp)
  have e : bs (pack []) = ByteArray.empty := rfl
  rw [e] at h
  refine h.trans ?_
  rw [if_neg (by decide), if_neg (by decide)]; rfl
theorem p2 : putP (bs (pack t3)) 3 1 2 = .tuple #[.agg #[.string (bs (pack t5)), .int .i64 5], .int .i64 0] := by
  refine (putP_pack t3 1 2 (by decide)).trans ?_
  rw [if_neg (by decide), if_neg (by decide)]; rfl
theorem g1 : getP (bs (pack t5)) 5 1 3 = .tuple #[.int .u64 2, .int .i64 0] := by
  refine (getP_pack t5 1 3 (by decide)).trans ?_
  rw [if_neg (by decide), if_neg (by decide)]
  rw [show (1 : Int).toNat = 1 from rfl, show (3 : Int).toNat = 3 from rfl, slc_pack t5 1 3 (by decide)]; rfl
theorem p3 : putP (bs (pack t5)) 5 4 2 = .tuple #[.agg #[.string (bs (pack t5)), .int .i64 5], .int .i64 1] := by
  refine (putP_pack t5 4 2 (by decide)).trans ?_
  rw [if_pos (by decide)]; rfl
theorem g2 : getP (bs (pack t5)) 5 3 3 = .tuple #[.int .u64 0, .int .i64 5] := by
  refine (getP_pack t5 3 3 (by decide)).trans ?_
  rw [if_neg (by decide), if_pos (by decide)]; rfl
theorem c1 : chk ByteArray.empty.data.toList 1 = 2 := chk_no fun h => by
  have := h.2.2.1
  simp at this
end Bits
set_option maxHeartbeats 2000000 in
theorem law_puts (S : Mem) : ACall Try.prog 19 #[] S fun r S' => r = .bool true ∧ S' = S := by
  have hB : bs (pack t5) = ⟨#[168]⟩ := by decide +kernel
  have z3 : (bs (pack t3)).size ≤ 1000 := by decide +kernel
  have z5 : (bs (pack t5)).size ≤ 1000 := by decide +kernel
  have q1 := p1; have q2 := p2; have q3 := p3; have q4 := g1; have q5 := g2
  generalize bs (pack t3) = A at *
  generalize bs (pack t5) = B at *
  refine ACall.enter (args := []) (rs := [.tmp 0]) 67 [] Try.func19 rfl rfl (Nat.le_of_ble_eq_true rfl) rfl trivial ?_
  refine AWP.seq ?_
  refine AWP.region ?_
  refine ARun.calm rfl rfl (lit_lt rfl) (Calm.assign rfl) ?_
  refine arun_nil ?_
  refine athen_n ?_
  refine AWP.seq ?_
  refine AWP.region ?_
  refine ARun.calm rfl rfl (lit_lt rfl) (Calm.build (cs := [_, _]) ty_bld_23 rfl rfl) ?_
  refine ARun.call (lit_lt rfl) go_15 rfl (bitsV_Put ByteArray.empty 0 5 3 _ (by decide) (by omega) (by omega) (by omega) (by omega)) ?_
  rintro _ S1 ⟨rfl, hS1⟩
  rw [hS1]; clear hS1 S1; rw [q1]
  refine ARun.calm rfl rfl (lit_lt rfl) (Calm.move rfl) ?_
  refine ARun.calm rfl rfl (lit_lt rfl) (Calm.extract rfl rfl) ?_
  refine ARun.calm rfl rfl (lit_lt rfl) (Calm.extract rfl rfl) ?_
  refine ARun.alloc (lit_lt rfl) ty_zero_23 ?_
  intro b1 f1
  have g1 := f1
  repeat ((with_reducible replace g1 := fresh_set g1); obtain ⟨g1, _⟩ := g1)
  (try simp only [List.length_cons, List.length_nil, Nat.zero_add, Nat.reduceAdd])
  first | refine ARun.storeAll rfl rfl ty_size_23 ((by (repeat first | ((with_reducible refine (Mem.own_set_other _ _ ?_).trans ?_); (first | assumption | (apply Ne.symm; assumption))) | ((with_reducible refine (Mem.own_del_other _ ?_).trans ?_); (first | assumption | (apply Ne.symm; assumption)))); (first | with_reducible exact Mem.own_set_same _ _ _ | with_reducible assumption | exact Mem.own_set_same _ _ _))) rfl rfl ?_ | refine ARun.store rfl rfl ty_size_23 ((by (repeat first | ((with_reducible refine (Mem.own_set_other _ _ ?_).trans ?_); (first | assumption | (apply Ne.symm; assumption))) | ((with_reducible refine (Mem.own_del_other _ ?_).trans ?_); (first | assumption | (apply Ne.symm; assumption)))); (first | with_reducible exact Mem.own_set_same _ _ _ | with_reducible assumption | exact Mem.own_set_same _ _ _))) ((by first | decide | (simp; done) | (simp; omega) | omega)) rfl ?_
  (try simp only [Mem.set_set, List.set_cons_zero, List.set_cons_succ, Nat.zero_add, Nat.reduceAdd])
  refine ARun.calm rfl rfl (lit_lt rfl) (Calm.assign rfl) ?_
  refine arun_nil ?_
  refine athen_n ?_
  refine AWP.sub [(0, _), (1, _), (2, _)] ⟨rfl, rfl, rfl, trivial⟩ ?_
  refine AWP.seq ?_
  refine AWP.region ?_
  refine ARun.calm rfl rfl (lit_lt rfl) (Calm.loadA ty_agg_23 (cs := [_, _]) ty_size_23 rfl ((by first | with_reducible assumption | ((repeat (apply rds_cons; ((repeat ((with_reducible refine (rd_set_ne _ _ ?_).trans ?_); (first | assumption | (apply Ne.symm; assumption)))); (first | ((with_reducible refine (rd_set_same _ _ _ _).trans ?_); rfl) | ((with_reducible apply rd_own'); (with_reducible assumption); rfl) | with_reducible assumption)))); exact rds_nil _ _)))) ?_
  refine ARun.call (lit_lt rfl) go_15 rfl (bitsV_Put A 3 1 2 _ (by omega) (by omega) (by omega) (by omega) (by omega)) ?_
  rintro _ S2 ⟨rfl, hS2⟩
  rw [hS2]; clear hS2 S2; rw [q2]
  refine ARun.calm rfl rfl (lit_lt rfl) (Calm.move rfl) ?_
  refine ARun.calm rfl rfl (lit_lt rfl) (Calm.extract rfl rfl) ?_
  refine ARun.calm rfl rfl (lit_lt rfl) (Calm.extract rfl rfl) ?_
  first | refine ARun.storeAll rfl rfl ty_size_23 ((by (repeat first | ((with_reducible refine (Mem.own_set_other _ _ ?_).trans ?_); (first | assumption | (apply Ne.symm; assumption))) | ((with_reducible refine (Mem.own_del_other _ ?_).trans ?_); (first | assumption | (apply Ne.symm; assumption)))); (first | with_reducible exact Mem.own_set_same _ _ _ | with_reducible assumption | exact Mem.own_set_same _ _ _))) rfl rfl ?_ | refine ARun.store rfl rfl ty_size_23 ((by (repeat first | ((with_reducible refine (Mem.own_set_other _ _ ?_).trans ?_); (first | assumption | (apply Ne.symm; assumption))) | ((with_reducible refine (Mem.own_del_other _ ?_).trans ?_); (first | assumption | (apply Ne.symm; assumption)))); (first | with_reducible exact Mem.own_set_same _ _ _ | with_reducible assumption | exact Mem.own_set_same _ _ _))) ((by first | decide | (simp; done) | (simp; omega) | omega)) rfl ?_
  (try simp only [Mem.set_set, List.set_cons_zero, List.set_cons_succ, Nat.zero_add, Nat.reduceAdd])
  refine ARun.calm rfl rfl (lit_lt rfl) (Calm.assign rfl) ?_
  refine arun_nil ?_
  refine athen_n ?_
  refine AWP.sub [(0, _), (1, _), (2, _), (3, _)] ⟨rfl, rfl, rfl, rfl, trivial⟩ ?_
  refine AWP.seq ?_
  refine AWP.region ?_
  refine ARun.calm rfl rfl (lit_lt rfl) (Calm.loadA ty_agg_23 (cs := [_, _]) ty_size_23 rfl ((by first | with_reducible assumption | ((repeat (apply rds_cons; ((repeat ((with_reducible refine (rd_set_ne _ _ ?_).trans ?_); (first | assumption | (apply Ne.symm; assumption)))); (first | ((with_reducible refine (rd_set_same _ _ _ _).trans ?_); rfl) | ((with_reducible apply rd_own'); (with_reducible assumption); rfl) | with_reducible assumption)))); exact rds_nil _ _)))) ?_
  refine ARun.call (lit_lt rfl) go_17 rfl (bitsV_Get B 5 1 3 _ (by omega) (by omega) (by omega)) ?_
  rintro _ S3 ⟨rfl, hS3⟩
  rw [hS3]; clear hS3 S3; rw [q4]
  refine ARun.calm rfl rfl (lit_lt rfl) (Calm.move rfl) ?_
  refine ARun.calm rfl rfl (lit_lt rfl) (Calm.extract rfl rfl) ?_
  refine ARun.calm rfl rfl (lit_lt rfl) (Calm.extract rfl rfl) ?_
  refine ARun.calm rfl rfl (lit_lt rfl) (Calm.assign rfl) ?_
  refine ARun.calm rfl rfl (lit_lt rfl) (Calm.assign rfl) ?_
  refine arun_nil ?_
  refine athen_n ?_
  refine AWP.sub [(0, _), (1, _), (2, _), (3, _), (4, _), (5, _)] ⟨rfl, rfl, rfl, rfl, rfl, rfl, trivial⟩ ?_
  refine AWP.seq ?_
  refine AWP.region ?_
  refine ARun.calm rfl rfl (lit_lt rfl) (Calm.loadA ty_agg_23 (cs := [_, _]) ty_size_23 rfl ((by first | with_reducible assumption | ((repeat (apply rds_cons; ((repeat ((with_reducible refine (rd_set_ne _ _ ?_).trans ?_); (first | assumption | (apply Ne.symm; assumption)))); (first | ((with_reducible refine (rd_set_same _ _ _ _).trans ?_); rfl) | ((with_reducible apply rd_own'); (with_reducible assumption); rfl) | with_reducible assumption)))); exact rds_nil _ _)))) ?_
  refine ARun.call (lit_lt rfl) go_15 rfl (bitsV_Put B 5 4 2 _ (by omega) (by omega) (by omega) (by omega) (by omega)) ?_
  rintro _ S4 ⟨rfl, hS4⟩
  rw [hS4]; clear hS4 S4; rw [q3]
  refine ARun.calm rfl rfl (lit_lt rfl) (Calm.move rfl) ?_
  refine ARun.calm rfl rfl (lit_lt rfl) (Calm.extract rfl rfl) ?_
  refine ARun.calm rfl rfl (lit_lt rfl) (Calm.extract rfl rfl) ?_
  refine ARun.alloc (lit_lt rfl) ty_zero_23 ?_
  intro b6 f6
  have g6 := f6
  repeat ((with_reducible replace g6 := fresh_set g6); obtain ⟨g6, _⟩ := g6)
  (try simp only [List.length_cons, List.length_nil, Nat.zero_add, Nat.reduceAdd])
  first | refine ARun.storeAll rfl rfl ty_size_23 ((by (repeat first | ((with_reducible refine (Mem.own_set_other _ _ ?_).trans ?_); (first | assumption | (apply Ne.symm; assumption))) | ((with_reducible refine (Mem.own_del_other _ ?_).trans ?_); (first | assumption | (apply Ne.symm; assumption)))); (first | with_reducible exact Mem.own_set_same _ _ _ | with_reducible assumption | exact Mem.own_set_same _ _ _))) rfl rfl ?_ | refine ARun.store rfl rfl ty_size_23 ((by (repeat first | ((with_reducible refine (Mem.own_set_other _ _ ?_).trans ?_); (first | assumption | (apply Ne.symm; assumption))) | ((with_reducible refine (Mem.own_del_other _ ?_).trans ?_); (first | assumption | (apply Ne.symm; assumption)))); (first | with_reducible exact Mem.own_set_same _ _ _ | with_reducible assumption | exact Mem.own_set_same _ _ _))) ((by first | decide | (simp; done) | (simp; omega) | omega)) rfl ?_
  (try simp only [Mem.set_set, List.set_cons_zero, List.set_cons_succ, Nat.zero_add, Nat.reduceAdd])
  refine ARun.calm rfl rfl (lit_lt rfl) (Calm.assign rfl) ?_
  refine arun_nil ?_
  refine athen_n ?_
  refine AWP.sub [(0, _), (1, _), (2, _), (3, _), (4, _), (5, _), (7, _)] ⟨rfl, rfl, rfl, rfl, rfl, rfl, rfl, trivial⟩ ?_
  refine AWP.seq ?_
  refine AWP.region ?_
  refine ARun.calm rfl rfl (lit_lt rfl) (Calm.loadA ty_agg_23 (cs := [_, _]) ty_size_23 rfl ((by first | with_reducible assumption | ((repeat (apply rds_cons; ((repeat ((with_reducible refine (rd_set_ne _ _ ?_).trans ?_); (first | assumption | (apply Ne.symm; assumption)))); (first | ((with_reducible refine (rd_set_same _ _ _ _).trans ?_); rfl) | ((with_reducible apply rd_own'); (with_reducible assumption); rfl) | with_reducible assumption)))); exact rds_nil _ _)))) ?_
  refine ARun.call (lit_lt rfl) go_17 rfl (bitsV_Get B 5 3 3 _ (by omega) (by omega) (by omega)) ?_
  rintro _ S5 ⟨rfl, hS5⟩
  rw [hS5]; clear hS5 S5; rw [q5]
  refine ARun.calm rfl rfl (lit_lt rfl) (Calm.move rfl) ?_
  refine ARun.calm rfl rfl (lit_lt rfl) (Calm.extract rfl rfl) ?_
  refine ARun.calm rfl rfl (lit_lt rfl) (Calm.extract rfl rfl) ?_
  refine ARun.calm rfl rfl (lit_lt rfl) (Calm.assign rfl) ?_
  refine ARun.calm rfl rfl (lit_lt rfl) (Calm.assign rfl) ?_
  refine arun_nil ?_
  refine athen_n ?_
  refine AWP.sub [(0, _), (1, _), (2, _), (3, _), (4, _), (5, _), (7, _), (9, _)] ⟨rfl, rfl, rfl, rfl, rfl, rfl, rfl, rfl, trivial⟩ ?_
  refine AWP.seq ?_
  refine AWP.region ?_
  refine ARun.calm rfl rfl (lit_lt rfl) (Calm.move rfl) ?_
  refine ARun.calm rfl rfl (lit_lt rfl) (Calm.bin rfl rfl (by first | exact bin_bool (bin_eql _ _) (decide_eq_true (by omega)) | exact bin_bool (bin_eql _ _) (decide_eq_false (by omega)) | exact bin_eql _ _)) ?_
  refine ARun.calm rfl rfl (lit_lt rfl) (Calm.move rfl) ?_
  first | refine ARun.skipG 2 true _ 37 rfl rfl (lit_lt rfl) rfl rfl rfl (lit_lt rfl) ?_ | refine ARun.skipU 2 true 37 rfl rfl (lit_lt rfl) rfl rfl (lit_lt rfl) ?_ | refine ARun.calmG 2 true 37 rfl rfl (lit_lt rfl) rfl rfl (lit_lt rfl) (Calm.move rfl) ?_
  first | refine ARun.skipG 2 true _ 37 rfl rfl (lit_lt rfl) rfl rfl rfl (lit_lt rfl) ?_ | refine ARun.skipU 2 true 37 rfl rfl (lit_lt rfl) rfl rfl (lit_lt rfl) ?_ | refine ARun.calmG 2 true 37 rfl rfl (lit_lt rfl) rfl rfl (lit_lt rfl) (Calm.bin rfl rfl (by first | exact bin_bool (bin_eql _ _) (decide_eq_true (by omega)) | exact bin_bool (bin_eql _ _) (decide_eq_false (by omega)) | exact bin_eql _ _)) ?_
  refine ARun.calm rfl rfl (lit_lt rfl) ((by first | exact Calm.pickT rfl rfl | exact Calm.pickF rfl rfl)) ?_
  refine ARun.calm rfl rfl (lit_lt rfl) (Calm.move rfl) ?_
  first | refine ARun.skipG 6 true _ 41 rfl rfl (lit_lt rfl) rfl rfl rfl (lit_lt rfl) ?_ | refine ARun.skipU 6 true 41 rfl rfl (lit_lt rfl) rfl rfl (lit_lt rfl) ?_ | refine ARun.calmG 6 true 41 rfl rfl (lit_lt rfl) rfl rfl (lit_lt rfl) (Calm.loadA ty_agg_23 (cs := [_, _]) ty_size_23 rfl ((by first | with_reducible assumption | ((repeat (apply rds_cons; ((repeat ((with_reducible refine (rd_set_ne _ _ ?_).trans ?_); (first | assumption | (apply Ne.symm; assumption)))); (first | ((with_reducible refine (rd_set_same _ _ _ _).trans ?_); rfl) | ((with_reducible apply rd_own'); (with_reducible assumption); rfl) | with_reducible assumption)))); exact rds_nil _ _)))) ?_
  first | refine ARun.skipG 6 true _ 41 rfl rfl (lit_lt rfl) rfl rfl rfl (lit_lt rfl) ?_ | refine ARun.skipU 6 true 41 rfl rfl (lit_lt rfl) rfl rfl (lit_lt rfl) ?_ | refine ARun.calmG 6 true 41 rfl rfl (lit_lt rfl) rfl rfl (lit_lt rfl) (Calm.build (cs := [_, _]) ty_bld_23 rfl rfl) ?_
  first | refine ARun.skipG 6 true _ 41 rfl rfl (lit_lt rfl) rfl rfl rfl (lit_lt rfl) ?_ | refine ARun.skipU 6 true 41 rfl rfl (lit_lt rfl) rfl rfl (lit_lt rfl) ?_ | refine ARun.calmG 6 true 41 rfl rfl (lit_lt rfl) rfl rfl (lit_lt rfl) (Calm.bin rfl rfl (bin_bool (bin_eql_Bitstr _ _ _ _) (decide_eq_true ⟨hB, rfl⟩))) ?_
  refine ARun.calm rfl rfl (lit_lt rfl) ((by first | exact Calm.pickT rfl rfl | exact Calm.pickF rfl rfl)) ?_
  refine ARun.calm rfl rfl (lit_lt rfl) (Calm.move rfl) ?_
  first | refine ARun.skipG 11 true _ 46 rfl rfl (lit_lt rfl) rfl rfl rfl (lit_lt rfl) ?_ | refine ARun.skipU 11 true 46 rfl rfl (lit_lt rfl) rfl rfl (lit_lt rfl) ?_ | refine ARun.calmG 11 true 46 rfl rfl (lit_lt rfl) rfl rfl (lit_lt rfl) (Calm.move rfl) ?_
  first | refine ARun.skipG 11 true _ 46 rfl rfl (lit_lt rfl) rfl rfl rfl (lit_lt rfl) ?_ | refine ARun.skipU 11 true 46 rfl rfl (lit_lt rfl) rfl rfl (lit_lt rfl) ?_ | refine ARun.calmG 11 true 46 rfl rfl (lit_lt rfl) rfl rfl (lit_lt rfl) (Calm.bin rfl rfl (by first | exact bin_bool (bin_eql _ _) (decide_eq_true (by omega)) | exact bin_bool (bin_eql _ _) (decide_eq_false (by omega)) | exact bin_eql _ _)) ?_
  refine ARun.calm rfl rfl (lit_lt rfl) ((by first | exact Calm.pickT rfl rfl | exact Calm.pickF rfl rfl)) ?_
  refine ARun.calm rfl rfl (lit_lt rfl) (Calm.move rfl) ?_
  first | refine ARun.skipG 15 true _ 50 rfl rfl (lit_lt rfl) rfl rfl rfl (lit_lt rfl) ?_ | refine ARun.skipU 15 true 50 rfl rfl (lit_lt rfl) rfl rfl (lit_lt rfl) ?_ | refine ARun.calmG 15 true 50 rfl rfl (lit_lt rfl) rfl rfl (lit_lt rfl) (Calm.move rfl) ?_
  first | refine ARun.skipG 15 true _ 50 rfl rfl (lit_lt rfl) rfl rfl rfl (lit_lt rfl) ?_ | refine ARun.skipU 15 true 50 rfl rfl (lit_lt rfl) rfl rfl (lit_lt rfl) ?_ | refine ARun.calmG 15 true 50 rfl rfl (lit_lt rfl) rfl rfl (lit_lt rfl) (Calm.bin rfl rfl (by first | exact bin_bool (bin_eql _ _) (decide_eq_true (by omega)) | exact bin_bool (bin_eql _ _) (decide_eq_false (by omega)) | exact bin_eql _ _)) ?_
  refine ARun.calm rfl rfl (lit_lt rfl) ((by first | exact Calm.pickT rfl rfl | exact Calm.pickF rfl rfl)) ?_
  refine ARun.calm rfl rfl (lit_lt rfl) (Calm.move rfl) ?_
  first | refine ARun.skipG 19 true _ 54 rfl rfl (lit_lt rfl) rfl rfl rfl (lit_lt rfl) ?_ | refine ARun.skipU 19 true 54 rfl rfl (lit_lt rfl) rfl rfl (lit_lt rfl) ?_ | refine ARun.calmG 19 true 54 rfl rfl (lit_lt rfl) rfl rfl (lit_lt rfl) (Calm.move rfl) ?_
  first | refine ARun.skipG 19 true _ 54 rfl rfl (lit_lt rfl) rfl rfl rfl (lit_lt rfl) ?_ | refine ARun.skipU 19 true 54 rfl rfl (lit_lt rfl) rfl rfl (lit_lt rfl) ?_ | refine ARun.calmG 19 true 54 rfl rfl (lit_lt rfl) rfl rfl (lit_lt rfl) (Calm.bin rfl rfl (by first | exact bin_bool (bin_eql _ _) (decide_eq_true (by omega)) | exact bin_bool (bin_eql _ _) (decide_eq_false (by omega)) | exact bin_eql _ _)) ?_
  refine ARun.calm rfl rfl (lit_lt rfl) ((by first | exact Calm.pickT rfl rfl | exact Calm.pickF rfl rfl)) ?_
  refine ARun.calm rfl rfl (lit_lt rfl) (Calm.move rfl) ?_
  first | refine ARun.skipG 23 true _ 58 rfl rfl (lit_lt rfl) rfl rfl rfl (lit_lt rfl) ?_ | refine ARun.skipU 23 true 58 rfl rfl (lit_lt rfl) rfl rfl (lit_lt rfl) ?_ | refine ARun.calmG 23 true 58 rfl rfl (lit_lt rfl) rfl rfl (lit_lt rfl) (Calm.move rfl) ?_
  first | refine ARun.skipG 23 true _ 58 rfl rfl (lit_lt rfl) rfl rfl rfl (lit_lt rfl) ?_ | refine ARun.skipU 23 true 58 rfl rfl (lit_lt rfl) rfl rfl (lit_lt rfl) ?_ | refine ARun.calmG 23 true 58 rfl rfl (lit_lt rfl) rfl rfl (lit_lt rfl) (Calm.bin rfl rfl (by first | exact bin_bool (bin_eql _ _) (decide_eq_true (by omega)) | exact bin_bool (bin_eql _ _) (decide_eq_false (by omega)) | exact bin_eql _ _)) ?_
  refine ARun.calm rfl rfl (lit_lt rfl) ((by first | exact Calm.pickT rfl rfl | exact Calm.pickF rfl rfl)) ?_
  refine ARun.calm rfl rfl (lit_lt rfl) (Calm.move rfl) ?_
  first | refine ARun.skipG 27 true _ 62 rfl rfl (lit_lt rfl) rfl rfl rfl (lit_lt rfl) ?_ | refine ARun.skipU 27 true 62 rfl rfl (lit_lt rfl) rfl rfl (lit_lt rfl) ?_ | refine ARun.calmG 27 true 62 rfl rfl (lit_lt rfl) rfl rfl (lit_lt rfl) (Calm.build (cs := [_, _]) ty_bld_23 rfl rfl) ?_
  refine ARun.callG 27 true 62 rfl (lit_lt rfl) rfl (lit_lt rfl) go_20 rfl (bitsV_Check ByteArray.empty 1 _ (by decide)) ?_
  rintro _ S6 ⟨rfl, hS6⟩
  rw [hS6]; clear hS6 S6; rw [c1]
  first | refine ARun.skipG 27 true _ 62 rfl rfl (lit_lt rfl) rfl rfl rfl (lit_lt rfl) ?_ | refine ARun.skipU 27 true 62 rfl rfl (lit_lt rfl) rfl rfl (lit_lt rfl) ?_ | refine ARun.calmG 27 true 62 rfl rfl (lit_lt rfl) rfl rfl (lit_lt rfl) (Calm.bin rfl rfl (by first | exact bin_bool (bin_eql _ _) (decide_eq_true (by omega)) | exact bin_bool (bin_eql _ _) (decide_eq_false (by omega)) | exact bin_eql _ _)) ?_
  refine ARun.calm rfl rfl (lit_lt rfl) ((by first | exact Calm.pickT rfl rfl | exact Calm.pickF rfl rfl)) ?_
  refine ARun.calm rfl rfl (lit_lt rfl) (Calm.assign rfl) ?_
  refine arun_nil ?_
  refine athen_n ?_
  refine AWP.sub [(0, _), (1, _), (2, _), (3, _), (4, _), (5, _), (7, _), (9, _)] ⟨rfl, rfl, rfl, rfl, rfl, rfl, rfl, rfl, trivial⟩ ?_
  refine AWP.ret ?_
  refine ⟨_, S, ⟨_, _, rfl, rfl, rfl⟩, (by first | with_reducible exact Mem.Less.refl _ | ((with_reducible refine Mem.less_set _ _ _ (Fresh.own ?_)); with_reducible assumption) | (refine less_of ?_; (repeat first | with_reducible exact LessB.refl _ _ | ((with_reducible refine LessB.set ?_ ?_); ((repeat first | ((with_reducible refine (Mem.own_set_other _ _ ?_).trans ?_); (first | assumption | (apply Ne.symm; assumption))) | ((with_reducible refine (Mem.own_del_other _ ?_).trans ?_); (first | assumption | (apply Ne.symm; assumption)))); (first | with_reducible exact Mem.own_set_same _ _ _ | with_reducible assumption | exact Mem.own_set_same _ _ _))) | (with_reducible refine LessB.delL ?_)); (repeat first | with_reducible exact LessB.refl _ _ | ((with_reducible refine LessB.of ?_); with_reducible assumption) | ((with_reducible refine LessB.skip ?_ ?_); (first | ((refine .inl ?_); simp; done) | ((refine .inr (Fresh.own ?_)); with_reducible assumption) | ((refine .inr ?_); with_reducible assumption))) | ((with_reducible refine LessB.skipDel ?_ ?_); (first | ((refine .inl ?_); simp; done) | ((refine .inr (Fresh.own ?_)); with_reducible assumption) | ((refine .inr ?_); with_reducible assumption)))))), ?_⟩
  exact ⟨rfl, rfl⟩
end Go.Proofs.Ytpeljbmbgjeomaa
