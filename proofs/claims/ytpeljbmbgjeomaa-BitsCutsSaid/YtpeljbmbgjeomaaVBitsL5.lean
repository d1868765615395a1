/-
  BitsParts: the plain law, and the law walked.
-/
import Derived.Test.YtpeljbmbgjeomaaVBitsL4
namespace Go.Proofs.Ytpeljbmbgjeomaa
open Go.RowKit
open Bits Mv
set_option linter.unusedVariables false
set_option linter.unusedSimpArgs false
namespace Bits
theorem onesP_pack (L : List Bool) (h : L.length ≤ 1048576) : onesP (bs (pack L)) (L.length : Nat) = .tuple #[.int .i64 (L.count true : Nat), .int .i64 0] := by
  unfold onesP
  rw [if_neg (fun h' => h' (chk_pack L h)), bs_data, Int.toNat_natCast, upto_pack]; rfl
theorem bs_upto (s : ByteArray) (N : Nat) (h : right s.data.toList N) : bs (pack (upto s.data.toList N)) = s := by
  have hR := h.2.2
  rw [Int.toNat_natCast] at hR
  rw [pack_upto _ _ hR]; simp [bs]
theorem cutP_says (s : ByteArray) (N n : Int) :
    cutP s N 0 n = .tuple #[.agg #[.string ByteArray.empty, .int .i64 0], .int .i64 1] ∨ cutP s N 0 n = .tuple #[.agg #[.string ByteArray.empty, .int .i64 0], .int .i64 2] ∨ cutP s N 0 n = .tuple #[.agg #[.string ByteArray.empty, .int .i64 0], .int .i64 5] ∨
    ∃ (s1 s2 : ByteArray) (k k1 k2 : Int), cutP s N 0 n = .tuple #[.agg #[.string s1, .int .i64 n], .int .i64 0] ∧ cutP s N n (N - n) = .tuple #[.agg #[.string s2, .int .i64 (N - n)], .int .i64 0] ∧
      catP s1 n [(s2, N - n)] = .tuple #[.agg #[.string s, .int .i64 N], .int .i64 0] ∧ onesP s N = .tuple #[.int .i64 k, .int .i64 0] ∧ onesP s1 n = .tuple #[.int .i64 k1, .int .i64 0] ∧ onesP s2 (N - n) = .tuple #[.int .i64 k2, .int .i64 0] ∧
      k1 + k2 = k ∧ 0 ≤ k1 ∧ k1 ≤ 1048576 ∧ 0 ≤ k2 ∧ k2 ≤ 1048576 ∧ 0 ≤ n ∧ n ≤ N ∧ N ≤ 1048576 ∧ s1.size ≤ 9223372036854775807 ∧ s2.size ≤ 9223372036854775807 := by
  by_cases h1 : chk s.data.toList N ≠ 0
  · refine .inr (.inl ?_); unfold cutP; rw [if_pos h1]; rfl
  have hc : chk s.data.toList N = 0 := Decidable.not_not.mp h1
  have hr := chk_right hc
  obtain ⟨hN0, hN1, hR⟩ := chk_right hc
  by_cases h2 : (0 : Int) < 0 ∨ n < 0 ∨ N < 0
  · refine .inl ?_; unfold cutP; rw [if_neg h1, if_pos h2]; rfl
  by_cases h3 : N - 0 < n
  · refine .inr (.inr (.inl ?_)); unfold cutP; rw [if_neg h1, if_neg h2, if_pos h3]; rfl
  obtain ⟨K, rfl⟩ : ∃ K : Nat, N = K := ⟨N.toNat, by omega⟩
  obtain ⟨m, rfl⟩ : ∃ m : Nat, n = m := ⟨n.toNat, by omega⟩
  obtain ⟨d, rfl⟩ : ∃ d : Nat, K = m + d := ⟨K - m, by omega⟩
  have ed : ((m + d : Nat) : Int) - (m : Int) = (d : Nat) := by omega
  rw [ed]
  have l1 := slc_length s.data.toList 0 m
  have l2 := slc_length s.data.toList m d
  have e3 : upto s.data.toList (m + d) = slc s.data.toList 0 m ++ slc s.data.toList m d := by rw [← slc_upto, slc_add, Nat.zero_add]
  have o1 := onesP_pack (slc s.data.toList 0 m) (by omega)
  have o2 := onesP_pack (slc s.data.toList m d) (by omega)
  have o3 := onesP_pack (upto s.data.toList (m + d)) (by rw [upto_length]; omega)
  rw [l1] at o1; rw [l2] at o2; rw [upto_length, bs_upto _ _ hr] at o3
  have c1 := chk_pack (slc s.data.toList 0 m) (by omega)
  have c2 := chk_pack (slc s.data.toList m d) (by omega)
  rw [l1] at c1; rw [l2] at c2
  have u1 := upto_pack (slc s.data.toList 0 m)
  have u2 := upto_pack (slc s.data.toList m d)
  rw [l1] at u1; rw [l2] at u2
  have n1 := List.count_le_length (a := true) (l := slc s.data.toList 0 m)
  have n2 := List.count_le_length (a := true) (l := slc s.data.toList m d)
  refine .inr (.inr (.inr ⟨bs (pack (slc s.data.toList 0 m)), bs (pack (slc s.data.toList m d)), _, _, _, ?_, ?_, ?_, o3, o1, o2, ?_, by omega, by omega, by omega, by omega, by omega, by omega, by omega, ?_, ?_⟩))
  · unfold cutP; rw [if_neg h1, if_neg h2, if_neg h3]; rfl
  · unfold cutP; rw [if_neg h1, if_neg (by omega), if_neg (by omega)]; rfl
  · unfold catP
    rw [if_neg (fun h => h c1)]
    unfold catG
    rw [if_neg (fun h => h c2), bs_data, Int.toNat_natCast, u1, l1, if_neg (by show ¬ ((1048576 : Int) - (d : Nat) < (m : Nat)); omega)]
    unfold catG
    simp only [bs_data, Int.toNat_natCast, u2, ← e3, bs_upto _ _ hr, upto_length]; rfl
  · rw [e3, List.count_append]; omega
  · rw [bs_size, pack_length]; omega
  · rw [bs_size, pack_length]; omega
end Bits
set_option maxHeartbeats 4000000 in
theorem law_BitsParts (s : ByteArray) (N n : Int) (S : Mem) (hs : s.size ≤ 9223372036854775807) (hN0 : -9223372036854775808 ≤ N) (hN1 : N ≤ 9223372036854775807) (hn0 : -9223372036854775808 ≤ n) (hn1 : n ≤ 9223372036854775807) :
    ACall Try.prog 13 #[.agg #[.string s, .int .i64 N], .int .i64 n] S fun r S' => r = .bool true := by
  rcases cutP_says s N n with q | q | q | ⟨s1, s2, k, k1, k2, q, q2, q3, o, o1, o2, hk, b1, b2, b3, b4, d1, d2, d3, z1, z2⟩
  · have hs2 := hs
    refine ACall.enter (args := [.agg #[.string s, .int .i64 N], .int .i64 n]) (rs := [.tmp 4]) 96 [(0, .agg #[.string s, .int .i64 N]), (1, .int .i64 n)] Try.func13 rfl rfl (Nat.le_of_ble_eq_true rfl) rfl ⟨rfl, rfl, trivial⟩ ?_
    refine AWP.seq ?_
    refine AWP.region ?_
    refine ARun.boxA (cs := [_, _]) (lit_lt rfl) rfl ?_
    intro b2 f2
    have g2 := f2
    repeat ((with_reducible replace g2 := fresh_set g2); obtain ⟨g2, _⟩ := g2)
    (try simp only [List.length_cons, List.length_nil, Nat.zero_add, Nat.reduceAdd])
    refine ARun.calm rfl rfl (lit_lt rfl) (Calm.assign rfl) ?_
    refine arun_nil ?_
    refine athen_n ?_
    refine AWP.seq ?_
    refine AWP.seq ?_
    refine AWP.region ?_
    refine ARun.call (lit_lt rfl) go_19 rfl (law_puts _) ?_
    rintro _ _ ⟨rfl, rfl⟩
    refine ARun.calm rfl rfl (lit_lt rfl) (Calm.un rfl (una_not _)) ?_
    refine ARun.calm rfl rfl (lit_lt rfl) (Calm.move rfl) ?_
    refine ARun.callG 2 false 19 rfl (lit_lt rfl) rfl (lit_lt rfl) go_30 rfl (law_cuts _) ?_
    rintro _ _ ⟨rfl, rfl⟩
    first | refine ARun.skipG 2 false _ 19 rfl rfl (lit_lt rfl) rfl rfl rfl (lit_lt rfl) ?_ | refine ARun.skipU 2 false 19 rfl rfl (lit_lt rfl) rfl rfl (lit_lt rfl) ?_ | refine ARun.calmG 2 false 19 rfl rfl (lit_lt rfl) rfl rfl (lit_lt rfl) (Calm.un rfl (una_not _)) ?_
    refine ARun.calm rfl rfl (lit_lt rfl) ((by first | exact Calm.pickT rfl rfl | exact Calm.pickF rfl rfl)) ?_
    refine arun_nil ?_
    refine athen_n ?_
    refine AWP.sub [(0, _), (1, _), (2, _), (4, _), (22, _)] ⟨rfl, rfl, rfl, rfl, rfl, trivial⟩ ?_
    refine AWP.condF rfl (by first | rfl | (simp; done) | (simp; omega)) ?_
    refine AWP.skip ?_
    refine athen_n ?_
    refine AWP.seq ?_
    refine AWP.region ?_
    refine ARun.calm rfl rfl (lit_lt rfl) (Calm.loadA ty_agg_23 (cs := [_, _]) ty_size_23 rfl ((by first | with_reducible assumption | ((repeat (apply rds_cons; ((repeat ((with_reducible refine (rd_set_ne _ _ ?_).trans ?_); (first | assumption | (apply Ne.symm; assumption)))); (first | ((with_reducible refine (rd_set_same _ _ _ _).trans ?_); rfl) | ((with_reducible apply rd_own'); (with_reducible assumption); rfl) | with_reducible assumption)))); exact rds_nil _ _)))) ?_
    refine ARun.calm rfl rfl (lit_lt rfl) (Calm.move rfl) ?_
    refine ARun.call (lit_lt rfl) go_24 rfl (bitsV_Cut s N 0 n _ hs (by omega) hn1 hn0) ?_
    rintro _ _ ⟨rfl, rfl⟩
    rw [q]
    refine ARun.calm rfl rfl (lit_lt rfl) (Calm.move rfl) ?_
    refine ARun.calm rfl rfl (lit_lt rfl) (Calm.extract rfl rfl) ?_
    refine ARun.calm rfl rfl (lit_lt rfl) (Calm.extract rfl rfl) ?_
    refine ARun.alloc (lit_lt rfl) ty_zero_23 ?_
    intro b5 f5
    have g5 := f5
    repeat ((with_reducible replace g5 := fresh_set g5); obtain ⟨g5, _⟩ := g5)
    (try simp only [List.length_cons, List.length_nil, Nat.zero_add, Nat.reduceAdd])
    first | refine ARun.storeAll rfl rfl ty_size_23 ((by (repeat first | ((with_reducible refine (Mem.own_set_other _ _ ?_).trans ?_); (first | assumption | (apply Ne.symm; assumption))) | ((with_reducible refine (Mem.own_del_other _ ?_).trans ?_); (first | assumption | (apply Ne.symm; assumption)))); (first | with_reducible exact Mem.own_set_same _ _ _ | with_reducible assumption | exact Mem.own_set_same _ _ _))) rfl rfl ?_ | refine ARun.store rfl rfl ty_size_23 ((by (repeat first | ((with_reducible refine (Mem.own_set_other _ _ ?_).trans ?_); (first | assumption | (apply Ne.symm; assumption))) | ((with_reducible refine (Mem.own_del_other _ ?_).trans ?_); (first | assumption | (apply Ne.symm; assumption)))); (first | with_reducible exact Mem.own_set_same _ _ _ | with_reducible assumption | exact Mem.own_set_same _ _ _))) ((by first | decide | (simp; done) | (simp; omega) | omega)) rfl ?_
    (try simp only [Mem.set_set, List.set_cons_zero, List.set_cons_succ, Nat.zero_add, Nat.reduceAdd])
    refine ARun.calm rfl rfl (lit_lt rfl) (Calm.assign rfl) ?_
    refine arun_nil ?_
    refine athen_n ?_
    refine AWP.sub [(0, _), (1, _), (2, _), (4, _), (22, _), (5, _), (6, _)] ⟨rfl, rfl, rfl, rfl, rfl, rfl, rfl, trivial⟩ ?_
    refine AWP.seq ?_
    refine AWP.seq ?_
    refine AWP.region ?_
    refine ARun.calm rfl rfl (lit_lt rfl) (Calm.move rfl) ?_
    refine ARun.calm rfl rfl (lit_lt rfl) (Calm.bin rfl rfl (by first | exact bin_bool (bin_neq _ _) (bnot_dec_true (by omega)) | exact bin_bool (bin_neq _ _) (bnot_dec_false (by omega)) | exact bin_neq _ _)) ?_
    refine arun_nil ?_
    refine athen_n ?_
    refine AWP.sub [(0, _), (1, _), (2, _), (4, _), (22, _), (5, _), (6, _), (30, _)] ⟨rfl, rfl, rfl, rfl, rfl, rfl, rfl, rfl, trivial⟩ ?_
    refine AWP.condT rfl (by first | rfl | (simp; done) | (simp; omega)) ?_
    refine AWP.seq ?_
    refine AWP.region ?_
    refine ARun.calm rfl rfl (lit_lt rfl) (Calm.loadA ty_agg_23 (cs := [_, _]) ty_size_23 rfl ((by first | with_reducible assumption | ((repeat (apply rds_cons; ((repeat ((with_reducible refine (rd_set_ne _ _ ?_).trans ?_); (first | assumption | (apply Ne.symm; assumption)))); (first | ((with_reducible refine (rd_set_same _ _ _ _).trans ?_); rfl) | ((with_reducible apply rd_own'); (with_reducible assumption); rfl) | with_reducible assumption)))); exact rds_nil _ _)))) ?_
    refine ARun.calm rfl rfl (lit_lt rfl) (Calm.build (cs := [_, _]) ty_bld_23 rfl rfl) ?_
    refine ARun.calm rfl rfl (lit_lt rfl) (Calm.bin rfl rfl (bin_bool (bin_eql_Bitstr _ _ _ _) (decide_eq_true ⟨rfl, rfl⟩))) ?_
    refine ARun.calm rfl rfl (lit_lt rfl) (Calm.assign rfl) ?_
    refine arun_nil ?_
    refine athen_n ?_
    refine AWP.sub [(0, _), (1, _), (2, _), (4, _), (22, _), (5, _), (6, _), (30, _)] ⟨rfl, rfl, rfl, rfl, rfl, rfl, rfl, rfl, trivial⟩ ?_
    refine AWP.ret ?_
    refine athen_ret ?_
    refine ⟨_, _, ⟨_, _, rfl, rfl, rfl⟩, (by first | with_reducible exact Mem.Less.refl _ | ((with_reducible refine Mem.less_set _ _ _ (Fresh.own ?_)); with_reducible assumption) | (refine less_of ?_; (repeat first | with_reducible exact LessB.refl _ _ | ((with_reducible refine LessB.set ?_ ?_); ((repeat first | ((with_reducible refine (Mem.own_set_other _ _ ?_).trans ?_); (first | assumption | (apply Ne.symm; assumption))) | ((with_reducible refine (Mem.own_del_other _ ?_).trans ?_); (first | assumption | (apply Ne.symm; assumption)))); (first | with_reducible exact Mem.own_set_same _ _ _ | with_reducible assumption | exact Mem.own_set_same _ _ _))) | (with_reducible refine LessB.delL ?_)); (repeat first | with_reducible exact LessB.refl _ _ | ((with_reducible refine LessB.of ?_); with_reducible assumption) | ((with_reducible refine LessB.skip ?_ ?_); (first | ((refine .inl ?_); simp; done) | ((refine .inr (Fresh.own ?_)); with_reducible assumption) | ((refine .inr ?_); with_reducible assumption))) | ((with_reducible refine LessB.skipDel ?_ ?_); (first | ((refine .inl ?_); simp; done) | ((refine .inr (Fresh.own ?_)); with_reducible assumption) | ((refine .inr ?_); with_reducible assumption)))))), ?_⟩
    rfl
  · have hs2 := hs
    refine ACall.enter (args := [.agg #[.string s, .int .i64 N], .int .i64 n]) (rs := [.tmp 4]) 96 [(0, .agg #[.string s, .int .i64 N]), (1, .int .i64 n)] Try.func13 rfl rfl (Nat.le_of_ble_eq_true rfl) rfl ⟨rfl, rfl, trivial⟩ ?_
    refine AWP.seq ?_
    refine AWP.region ?_
    refine ARun.boxA (cs := [_, _]) (lit_lt rfl) rfl ?_
    intro b2 f2
    have g2 := f2
    repeat ((with_reducible replace g2 := fresh_set g2); obtain ⟨g2, _⟩ := g2)
    (try simp only [List.length_cons, List.length_nil, Nat.zero_add, Nat.reduceAdd])
    refine ARun.calm rfl rfl (lit_lt rfl) (Calm.assign rfl) ?_
    refine arun_nil ?_
    refine athen_n ?_
    refine AWP.seq ?_
    refine AWP.seq ?_
    refine AWP.region ?_
    refine ARun.call (lit_lt rfl) go_19 rfl (law_puts _) ?_
    rintro _ _ ⟨rfl, rfl⟩
    refine ARun.calm rfl rfl (lit_lt rfl) (Calm.un rfl (una_not _)) ?_
    refine ARun.calm rfl rfl (lit_lt rfl) (Calm.move rfl) ?_
    refine ARun.callG 2 false 19 rfl (lit_lt rfl) rfl (lit_lt rfl) go_30 rfl (law_cuts _) ?_
    rintro _ _ ⟨rfl, rfl⟩
    first | refine ARun.skipG 2 false _ 19 rfl rfl (lit_lt rfl) rfl rfl rfl (lit_lt rfl) ?_ | refine ARun.skipU 2 false 19 rfl rfl (lit_lt rfl) rfl rfl (lit_lt rfl) ?_ | refine ARun.calmG 2 false 19 rfl rfl (lit_lt rfl) rfl rfl (lit_lt rfl) (Calm.un rfl (una_not _)) ?_
    refine ARun.calm rfl rfl (lit_lt rfl) ((by first | exact Calm.pickT rfl rfl | exact Calm.pickF rfl rfl)) ?_
    refine arun_nil ?_
    refine athen_n ?_
    refine AWP.sub [(0, _), (1, _), (2, _), (4, _), (22, _)] ⟨rfl, rfl, rfl, rfl, rfl, trivial⟩ ?_
    refine AWP.condF rfl (by first | rfl | (simp; done) | (simp; omega)) ?_
    refine AWP.skip ?_
    refine athen_n ?_
    refine AWP.seq ?_
    refine AWP.region ?_
    refine ARun.calm rfl rfl (lit_lt rfl) (Calm.loadA ty_agg_23 (cs := [_, _]) ty_size_23 rfl ((by first | with_reducible assumption | ((repeat (apply rds_cons; ((repeat ((with_reducible refine (rd_set_ne _ _ ?_).trans ?_); (first | assumption | (apply Ne.symm; assumption)))); (first | ((with_reducible refine (rd_set_same _ _ _ _).trans ?_); rfl) | ((with_reducible apply rd_own'); (with_reducible assumption); rfl) | with_reducible assumption)))); exact rds_nil _ _)))) ?_
    refine ARun.calm rfl rfl (lit_lt rfl) (Calm.move rfl) ?_
    refine ARun.call (lit_lt rfl) go_24 rfl (bitsV_Cut s N 0 n _ hs (by omega) hn1 hn0) ?_
    rintro _ _ ⟨rfl, rfl⟩
    rw [q]
    refine ARun.calm rfl rfl (lit_lt rfl) (Calm.move rfl) ?_
    refine ARun.calm rfl rfl (lit_lt rfl) (Calm.extract rfl rfl) ?_
    refine ARun.calm rfl rfl (lit_lt rfl) (Calm.extract rfl rfl) ?_
    refine ARun.alloc (lit_lt rfl) ty_zero_23 ?_
    intro b5 f5
    have g5 := f5
    repeat ((with_reducible replace g5 := fresh_set g5); obtain ⟨g5, _⟩ := g5)
    (try simp only [List.length_cons, List.length_nil, Nat.zero_add, Nat.reduceAdd])
    first | refine ARun.storeAll rfl rfl ty_size_23 ((by (repeat first | ((with_reducible refine (Mem.own_set_other _ _ ?_).trans ?_); (first | assumption | (apply Ne.symm; assumption))) | ((with_reducible refine (Mem.own_del_other _ ?_).trans ?_); (first | assumption | (apply Ne.symm; assumption)))); (first | with_reducible exact Mem.own_set_same _ _ _ | with_reducible assumption | exact Mem.own_set_same _ _ _))) rfl rfl ?_ | refine ARun.store rfl rfl ty_size_23 ((by (repeat first | ((with_reducible refine (Mem.own_set_other _ _ ?_).trans ?_); (first | assumption | (apply Ne.symm; assumption))) | ((with_reducible refine (Mem.own_del_other _ ?_).trans ?_); (first | assumption | (apply Ne.symm; assumption)))); (first | with_reducible exact Mem.own_set_same _ _ _ | with_reducible assumption | exact Mem.own_set_same _ _ _))) ((by first | decide | (simp; done) | (simp; omega) | omega)) rfl ?_
    (try simp only [Mem.set_set, List.set_cons_zero, List.set_cons_succ, Nat.zero_add, Nat.reduceAdd])
    refine ARun.calm rfl rfl (lit_lt rfl) (Calm.assign rfl) ?_
    refine arun_nil ?_
    refine athen_n ?_
    refine AWP.sub [(0, _), (1, _), (2, _), (4, _), (22, _), (5, _), (6, _)] ⟨rfl, rfl, rfl, rfl, rfl, rfl, rfl, trivial⟩ ?_
    refine AWP.seq ?_
    refine AWP.seq ?_
    refine AWP.region ?_
    refine ARun.calm rfl rfl (lit_lt rfl) (Calm.move rfl) ?_
    refine ARun.calm rfl rfl (lit_lt rfl) (Calm.bin rfl rfl (by first | exact bin_bool (bin_neq _ _) (bnot_dec_true (by omega)) | exact bin_bool (bin_neq _ _) (bnot_dec_false (by omega)) | exact bin_neq _ _)) ?_
    refine arun_nil ?_
    refine athen_n ?_
    refine AWP.sub [(0, _), (1, _), (2, _), (4, _), (22, _), (5, _), (6, _), (30, _)] ⟨rfl, rfl, rfl, rfl, rfl, rfl, rfl, rfl, trivial⟩ ?_
    refine AWP.condT rfl (by first | rfl | (simp; done) | (simp; omega)) ?_
    refine AWP.seq ?_
    refine AWP.region ?_
    refine ARun.calm rfl rfl (lit_lt rfl) (Calm.loadA ty_agg_23 (cs := [_, _]) ty_size_23 rfl ((by first | with_reducible assumption | ((repeat (apply rds_cons; ((repeat ((with_reducible refine (rd_set_ne _ _ ?_).trans ?_); (first | assumption | (apply Ne.symm; assumption)))); (first | ((with_reducible refine (rd_set_same _ _ _ _).trans ?_); rfl) | ((with_reducible apply rd_own'); (with_reducible assumption); rfl) | with_reducible assumption)))); exact rds_nil _ _)))) ?_
    refine ARun.calm rfl rfl (lit_lt rfl) (Calm.build (cs := [_, _]) ty_bld_23 rfl rfl) ?_
    refine ARun.calm rfl rfl (lit_lt rfl) (Calm.bin rfl rfl (bin_bool (bin_eql_Bitstr _ _ _ _) (decide_eq_true ⟨rfl, rfl⟩))) ?_
    refine ARun.calm rfl rfl (lit_lt rfl) (Calm.assign rfl) ?_
    refine arun_nil ?_
    refine athen_n ?_
    refine AWP.sub [(0, _), (1, _), (2, _), (4, _), (22, _), (5, _), (6, _), (30, _)] ⟨rfl, rfl, rfl, rfl, rfl, rfl, rfl, rfl, trivial⟩ ?_
    refine AWP.ret ?_
    refine athen_ret ?_
    refine ⟨_, _, ⟨_, _, rfl, rfl, rfl⟩, (by first | with_reducible exact Mem.Less.refl _ | ((with_reducible refine Mem.less_set _ _ _ (Fresh.own ?_)); with_reducible assumption) | (refine less_of ?_; (repeat first | with_reducible exact LessB.refl _ _ | ((with_reducible refine LessB.set ?_ ?_); ((repeat first | ((with_reducible refine (Mem.own_set_other _ _ ?_).trans ?_); (first | assumption | (apply Ne.symm; assumption))) | ((with_reducible refine (Mem.own_del_other _ ?_).trans ?_); (first | assumption | (apply Ne.symm; assumption)))); (first | with_reducible exact Mem.own_set_same _ _ _ | with_reducible assumption | exact Mem.own_set_same _ _ _))) | (with_reducible refine LessB.delL ?_)); (repeat first | with_reducible exact LessB.refl _ _ | ((with_reducible refine LessB.of ?_); with_reducible assumption) | ((with_reducible refine LessB.skip ?_ ?_); (first | ((refine .inl ?_); simp; done) | ((refine .inr (Fresh.own ?_)); with_reducible assumption) | ((refine .inr ?_); with_reducible assumption))) | ((with_reducible refine LessB.skipDel ?_ ?_); (first | ((refine .inl ?_); simp; done) | ((refine .inr (Fresh.own ?_)); with_reducible assumption) | ((refine .inr ?_); with_reducible assumption)))))), ?_⟩
    rfl
  · have hs2 := hs
    refine ACall.enter (args := [.agg #[.string s, .int .i64 N], .int .i64 n]) (rs := [.tmp 4]) 96 [(0, .agg #[.string s, .int .i64 N]), (1, .int .i64 n)] Try.func13 rfl rfl (Nat.le_of_ble_eq_true rfl) rfl ⟨rfl, rfl, trivial⟩ ?_
    refine AWP.seq ?_
    refine AWP.region ?_
    refine ARun.boxA (cs := [_, _]) (lit_lt rfl) rfl ?_
    intro b2 f2
    have g2 := f2
    repeat ((with_reducible replace g2 := fresh_set g2); obtain ⟨g2, _⟩ := g2)
    (try simp only [List.length_cons, List.length_nil, Nat.zero_add, Nat.reduceAdd])
    refine ARun.calm rfl rfl (lit_lt rfl) (Calm.assign rfl) ?_
    refine arun_nil ?_
    refine athen_n ?_
    refine AWP.seq ?_
    refine AWP.seq ?_
    refine AWP.region ?_
    refine ARun.call (lit_lt rfl) go_19 rfl (law_puts _) ?_
    rintro _ _ ⟨rfl, rfl⟩
    refine ARun.calm rfl rfl (lit_lt rfl) (Calm.un rfl (una_not _)) ?_
    refine ARun.calm rfl rfl (lit_lt rfl) (Calm.move rfl) ?_
    refine ARun.callG 2 false 19 rfl (lit_lt rfl) rfl (lit_lt rfl) go_30 rfl (law_cuts _) ?_
    rintro _ _ ⟨rfl, rfl⟩
    first | refine ARun.skipG 2 false _ 19 rfl rfl (lit_lt rfl) rfl rfl rfl (lit_lt rfl) ?_ | refine ARun.skipU 2 false 19 rfl rfl (lit_lt rfl) rfl rfl (lit_lt rfl) ?_ | refine ARun.calmG 2 false 19 rfl rfl (lit_lt rfl) rfl rfl (lit_lt rfl) (Calm.un rfl (una_not _)) ?_
    refine ARun.calm rfl rfl (lit_lt rfl) ((by first | exact Calm.pickT rfl rfl | exact Calm.pickF rfl rfl)) ?_
    refine arun_nil ?_
    refine athen_n ?_
    refine AWP.sub [(0, _), (1, _), (2, _), (4, _), (22, _)] ⟨rfl, rfl, rfl, rfl, rfl, trivial⟩ ?_
    refine AWP.condF rfl (by first | rfl | (simp; done) | (simp; omega)) ?_
    refine AWP.skip ?_
    refine athen_n ?_
    refine AWP.seq ?_
    refine AWP.region ?_
    refine ARun.calm rfl rfl (lit_lt rfl) (Calm.loadA ty_agg_23 (cs := [_, _]) ty_size_23 rfl ((by first | with_reducible assumption | ((repeat (apply rds_cons; ((repeat ((with_reducible refine (rd_set_ne _ _ ?_).trans ?_); (first | assumption | (apply Ne.symm; assumption)))); (first | ((with_reducible refine (rd_set_same _ _ _ _).trans ?_); rfl) | ((with_reducible apply rd_own'); (with_reducible assumption); rfl) | with_reducible assumption)))); exact rds_nil _ _)))) ?_
    refine ARun.calm rfl rfl (lit_lt rfl) (Calm.move rfl) ?_
    refine ARun.call (lit_lt rfl) go_24 rfl (bitsV_Cut s N 0 n _ hs (by omega) hn1 hn0) ?_
    rintro _ _ ⟨rfl, rfl⟩
    rw [q]
    refine ARun.calm rfl rfl (lit_lt rfl) (Calm.move rfl) ?_
    refine ARun.calm rfl rfl (lit_lt rfl) (Calm.extract rfl rfl) ?_
    refine ARun.calm rfl rfl (lit_lt rfl) (Calm.extract rfl rfl) ?_
    refine ARun.alloc (lit_lt rfl) ty_zero_23 ?_
    intro b5 f5
    have g5 := f5
    repeat ((with_reducible replace g5 := fresh_set g5); obtain ⟨g5, _⟩ := g5)
    (try simp only [List.length_cons, List.length_nil, Nat.zero_add, Nat.reduceAdd])
    first | refine ARun.storeAll rfl rfl ty_size_23 ((by (repeat first | ((with_reducible refine (Mem.own_set_other _ _ ?_).trans ?_); (first | assumption | (apply Ne.symm; assumption))) | ((with_reducible refine (Mem.own_del_other _ ?_).trans ?_); (first | assumption | (apply Ne.symm; assumption)))); (first | with_reducible exact Mem.own_set_same _ _ _ | with_reducible assumption | exact Mem.own_set_same _ _ _))) rfl rfl ?_ | refine ARun.store rfl rfl ty_size_23 ((by (repeat first | ((with_reducible refine (Mem.own_set_other _ _ ?_).trans ?_); (first | assumption | (apply Ne.symm; assumption))) | ((with_reducible refine (Mem.own_del_other _ ?_).trans ?_); (first | assumption | (apply Ne.symm; assumption)))); (first | with_reducible exact Mem.own_set_same _ _ _ | with_reducible assumption | exact Mem.own_set_same _ _ _))) ((by first | decide | (simp; done) | (simp; omega) | omega)) rfl ?_
    (try simp only [Mem.set_set, List.set_cons_zero, List.set_cons_succ, Nat.zero_add, Nat.reduceAdd])
    refine ARun.calm rfl rfl (lit_lt rfl) (Calm.assign rfl) ?_
    refine arun_nil ?_
    refine athen_n ?_
    refine AWP.sub [(0, _), (1, _), (2, _), (4, _), (22, _), (5, _), (6, _)] ⟨rfl, rfl, rfl, rfl, rfl, rfl, rfl, trivial⟩ ?_
    refine AWP.seq ?_
    refine AWP.seq ?_
    refine AWP.region ?_
    refine ARun.calm rfl rfl (lit_lt rfl) (Calm.move rfl) ?_
    refine ARun.calm rfl rfl (lit_lt rfl) (Calm.bin rfl rfl (by first | exact bin_bool (bin_neq _ _) (bnot_dec_true (by omega)) | exact bin_bool (bin_neq _ _) (bnot_dec_false (by omega)) | exact bin_neq _ _)) ?_
    refine arun_nil ?_
    refine athen_n ?_
    refine AWP.sub [(0, _), (1, _), (2, _), (4, _), (22, _), (5, _), (6, _), (30, _)] ⟨rfl, rfl, rfl, rfl, rfl, rfl, rfl, rfl, trivial⟩ ?_
    refine AWP.condT rfl (by first | rfl | (simp; done) | (simp; omega)) ?_
    refine AWP.seq ?_
    refine AWP.region ?_
    refine ARun.calm rfl rfl (lit_lt rfl) (Calm.loadA ty_agg_23 (cs := [_, _]) ty_size_23 rfl ((by first | with_reducible assumption | ((repeat (apply rds_cons; ((repeat ((with_reducible refine (rd_set_ne _ _ ?_).trans ?_); (first | assumption | (apply Ne.symm; assumption)))); (first | ((with_reducible refine (rd_set_same _ _ _ _).trans ?_); rfl) | ((with_reducible apply rd_own'); (with_reducible assumption); rfl) | with_reducible assumption)))); exact rds_nil _ _)))) ?_
    refine ARun.calm rfl rfl (lit_lt rfl) (Calm.build (cs := [_, _]) ty_bld_23 rfl rfl) ?_
    refine ARun.calm rfl rfl (lit_lt rfl) (Calm.bin rfl rfl (bin_bool (bin_eql_Bitstr _ _ _ _) (decide_eq_true ⟨rfl, rfl⟩))) ?_
    refine ARun.calm rfl rfl (lit_lt rfl) (Calm.assign rfl) ?_
    refine arun_nil ?_
    refine athen_n ?_
    refine AWP.sub [(0, _), (1, _), (2, _), (4, _), (22, _), (5, _), (6, _), (30, _)] ⟨rfl, rfl, rfl, rfl, rfl, rfl, rfl, rfl, trivial⟩ ?_
    refine AWP.ret ?_
    refine athen_ret ?_
    refine ⟨_, _, ⟨_, _, rfl, rfl, rfl⟩, (by first | with_reducible exact Mem.Less.refl _ | ((with_reducible refine Mem.less_set _ _ _ (Fresh.own ?_)); with_reducible assumption) | (refine less_of ?_; (repeat first | with_reducible exact LessB.refl _ _ | ((with_reducible refine LessB.set ?_ ?_); ((repeat first | ((with_reducible refine (Mem.own_set_other _ _ ?_).trans ?_); (first | assumption | (apply Ne.symm; assumption))) | ((with_reducible refine (Mem.own_del_other _ ?_).trans ?_); (first | assumption | (apply Ne.symm; assumption)))); (first | with_reducible exact Mem.own_set_same _ _ _ | with_reducible assumption | exact Mem.own_set_same _ _ _))) | (with_reducible refine LessB.delL ?_)); (repeat first | with_reducible exact LessB.refl _ _ | ((with_reducible refine LessB.of ?_); with_reducible assumption) | ((with_reducible refine LessB.skip ?_ ?_); (first | ((refine .inl ?_); simp; done) | ((refine .inr (Fresh.own ?_)); with_reducible assumption) | ((refine .inr ?_); with_reducible assumption))) | ((with_reducible refine LessB.skipDel ?_ ?_); (first | ((refine .inl ?_); simp; done) | ((refine .inr (Fresh.own ?_)); with_reducible assumption) | ((refine .inr ?_); with_reducible assumption)))))), ?_⟩
    rfl
  · have hs2 := hs
    refine ACall.enter (args := [.agg #[.string s, .int .i64 N], .int .i64 n]) (rs := [.tmp 4]) 96 [(0, .agg #[.string s, .int .i64 N]), (1, .int .i64 n)] Try.func13 rfl rfl (Nat.le_of_ble_eq_true rfl) rfl ⟨rfl, rfl, trivial⟩ ?_
    refine AWP.seq ?_
    refine AWP.region ?_
    refine ARun.boxA (cs := [_, _]) (lit_lt rfl) rfl ?_
    intro b2 f2
    have g2 := f2
    repeat ((with_reducible replace g2 := fresh_set g2); obtain ⟨g2, _⟩ := g2)
    (try simp only [List.length_cons, List.length_nil, Nat.zero_add, Nat.reduceAdd])
    refine ARun.calm rfl rfl (lit_lt rfl) (Calm.assign rfl) ?_
    refine arun_nil ?_
    refine athen_n ?_
    refine AWP.seq ?_
    refine AWP.seq ?_
    refine AWP.region ?_
    refine ARun.call (lit_lt rfl) go_19 rfl (law_puts _) ?_
    rintro _ _ ⟨rfl, rfl⟩
    refine ARun.calm rfl rfl (lit_lt rfl) (Calm.un rfl (una_not _)) ?_
    refine ARun.calm rfl rfl (lit_lt rfl) (Calm.move rfl) ?_
    refine ARun.callG 2 false 19 rfl (lit_lt rfl) rfl (lit_lt rfl) go_30 rfl (law_cuts _) ?_
    rintro _ _ ⟨rfl, rfl⟩
    first | refine ARun.skipG 2 false _ 19 rfl rfl (lit_lt rfl) rfl rfl rfl (lit_lt rfl) ?_ | refine ARun.skipU 2 false 19 rfl rfl (lit_lt rfl) rfl rfl (lit_lt rfl) ?_ | refine ARun.calmG 2 false 19 rfl rfl (lit_lt rfl) rfl rfl (lit_lt rfl) (Calm.un rfl (una_not _)) ?_
    refine ARun.calm rfl rfl (lit_lt rfl) ((by first | exact Calm.pickT rfl rfl | exact Calm.pickF rfl rfl)) ?_
    refine arun_nil ?_
    refine athen_n ?_
    refine AWP.sub [(0, _), (1, _), (2, _), (4, _), (22, _)] ⟨rfl, rfl, rfl, rfl, rfl, trivial⟩ ?_
    refine AWP.condF rfl (by first | rfl | (simp; done) | (simp; omega)) ?_
    refine AWP.skip ?_
    refine athen_n ?_
    refine AWP.seq ?_
    refine AWP.region ?_
    refine ARun.calm rfl rfl (lit_lt rfl) (Calm.loadA ty_agg_23 (cs := [_, _]) ty_size_23 rfl ((by first | with_reducible assumption | ((repeat (apply rds_cons; ((repeat ((with_reducible refine (rd_set_ne _ _ ?_).trans ?_); (first | assumption | (apply Ne.symm; assumption)))); (first | ((with_reducible refine (rd_set_same _ _ _ _).trans ?_); rfl) | ((with_reducible apply rd_own'); (with_reducible assumption); rfl) | with_reducible assumption)))); exact rds_nil _ _)))) ?_
    refine ARun.calm rfl rfl (lit_lt rfl) (Calm.move rfl) ?_
    refine ARun.call (lit_lt rfl) go_24 rfl (bitsV_Cut s N 0 n _ hs (by omega) hn1 hn0) ?_
    rintro _ _ ⟨rfl, rfl⟩
    rw [q]
    refine ARun.calm rfl rfl (lit_lt rfl) (Calm.move rfl) ?_
    refine ARun.calm rfl rfl (lit_lt rfl) (Calm.extract rfl rfl) ?_
    refine ARun.calm rfl rfl (lit_lt rfl) (Calm.extract rfl rfl) ?_
    refine ARun.alloc (lit_lt rfl) ty_zero_23 ?_
    intro b5 f5
    have g5 := f5
    repeat ((with_reducible replace g5 := fresh_set g5); obtain ⟨g5, _⟩ := g5)
    (try simp only [List.length_cons, List.length_nil, Nat.zero_add, Nat.reduceAdd])
    first | refine ARun.storeAll rfl rfl ty_size_23 ((by (repeat first | ((with_reducible refine (Mem.own_set_other _ _ ?_).trans ?_); (first | assumption | (apply Ne.symm; assumption))) | ((with_reducible refine (Mem.own_del_other _ ?_).trans ?_); (first | assumption | (apply Ne.symm; assumption)))); (first | with_reducible exact Mem.own_set_same _ _ _ | with_reducible assumption | exact Mem.own_set_same _ _ _))) rfl rfl ?_ | refine ARun.store rfl rfl ty_size_23 ((by (repeat first | ((with_reducible refine (Mem.own_set_other _ _ ?_).trans ?_); (first | assumption | (apply Ne.symm; assumption))) | ((with_reducible refine (Mem.own_del_other _ ?_).trans ?_); (first | assumption | (apply Ne.symm; assumption)))); (first | with_reducible exact Mem.own_set_same _ _ _ | with_reducible assumption | exact Mem.own_set_same _ _ _))) ((by first | decide | (simp; done) | (simp; omega) | omega)) rfl ?_
    (try simp only [Mem.set_set, List.set_cons_zero, List.set_cons_succ, Nat.zero_add, Nat.reduceAdd])
    refine ARun.calm rfl rfl (lit_lt rfl) (Calm.assign rfl) ?_
    refine arun_nil ?_
    refine athen_n ?_
    refine AWP.sub [(0, _), (1, _), (2, _), (4, _), (22, _), (5, _), (6, _)] ⟨rfl, rfl, rfl, rfl, rfl, rfl, rfl, trivial⟩ ?_
    refine AWP.seq ?_
    refine AWP.seq ?_
    refine AWP.region ?_
    refine ARun.calm rfl rfl (lit_lt rfl) (Calm.move rfl) ?_
    refine ARun.calm rfl rfl (lit_lt rfl) (Calm.bin rfl rfl (by first | exact bin_bool (bin_neq _ _) (bnot_dec_true (by omega)) | exact bin_bool (bin_neq _ _) (bnot_dec_false (by omega)) | exact bin_neq _ _)) ?_
    refine arun_nil ?_
    refine athen_n ?_
    refine AWP.sub [(0, _), (1, _), (2, _), (4, _), (22, _), (5, _), (6, _), (30, _)] ⟨rfl, rfl, rfl, rfl, rfl, rfl, rfl, rfl, trivial⟩ ?_
    refine AWP.condF rfl (by first | rfl | (simp; done) | (simp; omega)) ?_
    refine AWP.skip ?_
    refine athen_n ?_
    refine AWP.seq ?_
    refine AWP.region ?_
    refine ARun.calm rfl rfl (lit_lt rfl) (Calm.loadA ty_agg_23 (cs := [_, _]) ty_size_23 rfl ((by first | with_reducible assumption | ((repeat (apply rds_cons; ((repeat ((with_reducible refine (rd_set_ne _ _ ?_).trans ?_); (first | assumption | (apply Ne.symm; assumption)))); (first | ((with_reducible refine (rd_set_same _ _ _ _).trans ?_); rfl) | ((with_reducible apply rd_own'); (with_reducible assumption); rfl) | with_reducible assumption)))); exact rds_nil _ _)))) ?_
    refine ARun.calm rfl rfl (lit_lt rfl) (Calm.move rfl) ?_
    refine ARun.calm rfl rfl (lit_lt rfl) (Calm.fieldAddr ty_field_23_1 rfl) ?_
    refine ARun.calm rfl rfl (lit_lt rfl) (Calm.load ty_plain_3 rfl ((by (repeat ((with_reducible refine (rd_set_ne _ _ ?_).trans ?_); (first | assumption | (apply Ne.symm; assumption)))); (first | ((with_reducible refine (rd_set_same _ _ _ _).trans ?_); rfl) | ((with_reducible apply rd_own'); (with_reducible assumption); rfl) | with_reducible assumption)))) ?_
    refine ARun.calm rfl rfl (lit_lt rfl) (Calm.move rfl) ?_
    refine ARun.calm rfl rfl (lit_lt rfl) (Calm.bin rfl rfl (by first | exact bin_subW (IntWalk.i64_in _ (by omega)) | exact bin_sub _ _)) ?_
    refine ARun.call (lit_lt rfl) go_24 rfl (bitsV_Cut s N n (N - n) _ hs (by omega) (by omega) (by omega)) ?_
    rintro _ _ ⟨rfl, rfl⟩
    rw [q2]
    refine ARun.calm rfl rfl (lit_lt rfl) (Calm.move rfl) ?_
    refine ARun.calm rfl rfl (lit_lt rfl) (Calm.extract rfl rfl) ?_
    refine ARun.calm rfl rfl (lit_lt rfl) (Calm.extract rfl rfl) ?_
    refine ARun.alloc (lit_lt rfl) ty_zero_23 ?_
    intro b7 f7
    have g7 := f7
    repeat ((with_reducible replace g7 := fresh_set g7); obtain ⟨g7, _⟩ := g7)
    (try simp only [List.length_cons, List.length_nil, Nat.zero_add, Nat.reduceAdd])
    first | refine ARun.storeAll rfl rfl ty_size_23 ((by (repeat first | ((with_reducible refine (Mem.own_set_other _ _ ?_).trans ?_); (first | assumption | (apply Ne.symm; assumption))) | ((with_reducible refine (Mem.own_del_other _ ?_).trans ?_); (first | assumption | (apply Ne.symm; assumption)))); (first | with_reducible exact Mem.own_set_same _ _ _ | with_reducible assumption | exact Mem.own_set_same _ _ _))) rfl rfl ?_ | refine ARun.store rfl rfl ty_size_23 ((by (repeat first | ((with_reducible refine (Mem.own_set_other _ _ ?_).trans ?_); (first | assumption | (apply Ne.symm; assumption))) | ((with_reducible refine (Mem.own_del_other _ ?_).trans ?_); (first | assumption | (apply Ne.symm; assumption)))); (first | with_reducible exact Mem.own_set_same _ _ _ | with_reducible assumption | exact Mem.own_set_same _ _ _))) ((by first | decide | (simp; done) | (simp; omega) | omega)) rfl ?_
    (try simp only [Mem.set_set, List.set_cons_zero, List.set_cons_succ, Nat.zero_add, Nat.reduceAdd])
    refine ARun.calm rfl rfl (lit_lt rfl) (Calm.assign rfl) ?_
    refine arun_nil ?_
    refine athen_n ?_
    refine AWP.sub [(0, _), (1, _), (2, _), (4, _), (22, _), (5, _), (6, _), (30, _), (7, _), (8, _)] ⟨rfl, rfl, rfl, rfl, rfl, rfl, rfl, rfl, rfl, rfl, trivial⟩ ?_
    refine AWP.seq ?_
    refine AWP.region ?_
    refine ARun.calm rfl rfl (lit_lt rfl) (Calm.loadA ty_agg_23 (cs := [_, _]) ty_size_23 rfl ((by first | with_reducible assumption | ((repeat (apply rds_cons; ((repeat ((with_reducible refine (rd_set_ne _ _ ?_).trans ?_); (first | assumption | (apply Ne.symm; assumption)))); (first | ((with_reducible refine (rd_set_same _ _ _ _).trans ?_); rfl) | ((with_reducible apply rd_own'); (with_reducible assumption); rfl) | with_reducible assumption)))); exact rds_nil _ _)))) ?_
    refine ARun.calm rfl rfl (lit_lt rfl) (Calm.loadA ty_agg_23 (cs := [_, _]) ty_size_23 rfl ((by first | with_reducible assumption | ((repeat (apply rds_cons; ((repeat ((with_reducible refine (rd_set_ne _ _ ?_).trans ?_); (first | assumption | (apply Ne.symm; assumption)))); (first | ((with_reducible refine (rd_set_same _ _ _ _).trans ?_); rfl) | ((with_reducible apply rd_own'); (with_reducible assumption); rfl) | with_reducible assumption)))); exact rds_nil _ _)))) ?_
    refine ARun.build1 (lit_lt rfl) ty_sl_36 rfl (by decide) (by decide) rfl rfl ?_
    intro b47 f47
    have g47 := f47
    repeat ((with_reducible replace g47 := fresh_set g47); obtain ⟨g47, _⟩ := g47)
    refine ARun.call (lit_lt rfl) go_22 rfl (bitsV_Cat s1 n _ 1 1 [(s2, N - n)] _ z1 (isBv_one z2 (Mem.rds.knows ((by first | with_reducible assumption | ((repeat (apply rds_cons; ((repeat ((with_reducible refine (rd_set_ne _ _ ?_).trans ?_); (first | assumption | (apply Ne.symm; assumption)))); (first | ((with_reducible refine (rd_set_same _ _ _ _).trans ?_); rfl) | ((with_reducible apply rd_own'); (with_reducible assumption); rfl) | with_reducible assumption)))); exact rds_nil _ _)))))) ?_
    rintro _ _ ⟨rfl, rfl⟩
    rw [q3]
    refine ARun.calm rfl rfl (lit_lt rfl) (Calm.move rfl) ?_
    refine ARun.calm rfl rfl (lit_lt rfl) (Calm.extract rfl rfl) ?_
    refine ARun.calm rfl rfl (lit_lt rfl) (Calm.extract rfl rfl) ?_
    refine ARun.alloc (lit_lt rfl) ty_zero_23 ?_
    intro b9 f9
    have g9 := f9
    repeat ((with_reducible replace g9 := fresh_set g9); obtain ⟨g9, _⟩ := g9)
    (try simp only [List.length_cons, List.length_nil, Nat.zero_add, Nat.reduceAdd])
    first | refine ARun.storeAll rfl rfl ty_size_23 ((by (repeat first | ((with_reducible refine (Mem.own_set_other _ _ ?_).trans ?_); (first | assumption | (apply Ne.symm; assumption))) | ((with_reducible refine (Mem.own_del_other _ ?_).trans ?_); (first | assumption | (apply Ne.symm; assumption)))); (first | with_reducible exact Mem.own_set_same _ _ _ | with_reducible assumption | exact Mem.own_set_same _ _ _))) rfl rfl ?_ | refine ARun.store rfl rfl ty_size_23 ((by (repeat first | ((with_reducible refine (Mem.own_set_other _ _ ?_).trans ?_); (first | assumption | (apply Ne.symm; assumption))) | ((with_reducible refine (Mem.own_del_other _ ?_).trans ?_); (first | assumption | (apply Ne.symm; assumption)))); (first | with_reducible exact Mem.own_set_same _ _ _ | with_reducible assumption | exact Mem.own_set_same _ _ _))) ((by first | decide | (simp; done) | (simp; omega) | omega)) rfl ?_
    (try simp only [Mem.set_set, List.set_cons_zero, List.set_cons_succ, Nat.zero_add, Nat.reduceAdd])
    refine ARun.calm rfl rfl (lit_lt rfl) (Calm.assign rfl) ?_
    refine arun_nil ?_
    refine athen_n ?_
    refine AWP.sub [(0, _), (1, _), (2, _), (4, _), (22, _), (5, _), (6, _), (30, _), (7, _), (8, _), (9, _), (10, _)] ⟨rfl, rfl, rfl, rfl, rfl, rfl, rfl, rfl, rfl, rfl, rfl, rfl, trivial⟩ ?_
    refine AWP.seq ?_
    refine AWP.region ?_
    refine ARun.calm rfl rfl (lit_lt rfl) (Calm.loadA ty_agg_23 (cs := [_, _]) ty_size_23 rfl ((by first | with_reducible assumption | ((repeat (apply rds_cons; ((repeat ((with_reducible refine (rd_set_ne _ _ ?_).trans ?_); (first | assumption | (apply Ne.symm; assumption)))); (first | ((with_reducible refine (rd_set_same _ _ _ _).trans ?_); rfl) | ((with_reducible apply rd_own'); (with_reducible assumption); rfl) | with_reducible assumption)))); exact rds_nil _ _)))) ?_
    refine ARun.call (lit_lt rfl) go_28 rfl (bitsV_Ones s N _ hs) ?_
    rintro _ _ ⟨rfl, rfl⟩
    rw [o]
    refine ARun.calm rfl rfl (lit_lt rfl) (Calm.move rfl) ?_
    refine ARun.calm rfl rfl (lit_lt rfl) (Calm.extract rfl rfl) ?_
    refine ARun.calm rfl rfl (lit_lt rfl) (Calm.extract rfl rfl) ?_
    refine ARun.calm rfl rfl (lit_lt rfl) (Calm.assign rfl) ?_
    refine ARun.calm rfl rfl (lit_lt rfl) (Calm.assign rfl) ?_
    refine arun_nil ?_
    refine athen_n ?_
    refine AWP.sub [(0, _), (1, _), (2, _), (4, _), (22, _), (5, _), (6, _), (30, _), (7, _), (8, _), (9, _), (10, _), (11, _), (12, _)] ⟨rfl, rfl, rfl, rfl, rfl, rfl, rfl, rfl, rfl, rfl, rfl, rfl, rfl, rfl, trivial⟩ ?_
    refine AWP.seq ?_
    refine AWP.region ?_
    refine ARun.calm rfl rfl (lit_lt rfl) (Calm.loadA ty_agg_23 (cs := [_, _]) ty_size_23 rfl ((by first | with_reducible assumption | ((repeat (apply rds_cons; ((repeat ((with_reducible refine (rd_set_ne _ _ ?_).trans ?_); (first | assumption | (apply Ne.symm; assumption)))); (first | ((with_reducible refine (rd_set_same _ _ _ _).trans ?_); rfl) | ((with_reducible apply rd_own'); (with_reducible assumption); rfl) | with_reducible assumption)))); exact rds_nil _ _)))) ?_
    refine ARun.call (lit_lt rfl) go_28 rfl (bitsV_Ones s1 n _ z1) ?_
    rintro _ _ ⟨rfl, rfl⟩
    rw [o1]
    refine ARun.calm rfl rfl (lit_lt rfl) (Calm.move rfl) ?_
    refine ARun.calm rfl rfl (lit_lt rfl) (Calm.extract rfl rfl) ?_
    refine ARun.calm rfl rfl (lit_lt rfl) (Calm.extract rfl rfl) ?_
    refine ARun.calm rfl rfl (lit_lt rfl) (Calm.assign rfl) ?_
    refine ARun.calm rfl rfl (lit_lt rfl) (Calm.assign rfl) ?_
    refine arun_nil ?_
    refine athen_n ?_
    refine AWP.sub [(0, _), (1, _), (2, _), (4, _), (22, _), (5, _), (6, _), (30, _), (7, _), (8, _), (9, _), (10, _), (11, _), (12, _), (13, _), (14, _)] ⟨rfl, rfl, rfl, rfl, rfl, rfl, rfl, rfl, rfl, rfl, rfl, rfl, rfl, rfl, rfl, rfl, trivial⟩ ?_
    refine AWP.seq ?_
    refine AWP.region ?_
    refine ARun.calm rfl rfl (lit_lt rfl) (Calm.loadA ty_agg_23 (cs := [_, _]) ty_size_23 rfl ((by first | with_reducible assumption | ((repeat (apply rds_cons; ((repeat ((with_reducible refine (rd_set_ne _ _ ?_).trans ?_); (first | assumption | (apply Ne.symm; assumption)))); (first | ((with_reducible refine (rd_set_same _ _ _ _).trans ?_); rfl) | ((with_reducible apply rd_own'); (with_reducible assumption); rfl) | with_reducible assumption)))); exact rds_nil _ _)))) ?_
    refine ARun.call (lit_lt rfl) go_28 rfl (bitsV_Ones s2 (N - n) _ z2) ?_
    rintro _ _ ⟨rfl, rfl⟩
    rw [o2]
    refine ARun.calm rfl rfl (lit_lt rfl) (Calm.move rfl) ?_
    refine ARun.calm rfl rfl (lit_lt rfl) (Calm.extract rfl rfl) ?_
    refine ARun.calm rfl rfl (lit_lt rfl) (Calm.extract rfl rfl) ?_
    refine ARun.calm rfl rfl (lit_lt rfl) (Calm.assign rfl) ?_
    refine ARun.calm rfl rfl (lit_lt rfl) (Calm.assign rfl) ?_
    refine arun_nil ?_
    refine athen_n ?_
    refine AWP.sub [(0, _), (1, _), (2, _), (4, _), (22, _), (5, _), (6, _), (30, _), (7, _), (8, _), (9, _), (10, _), (11, _), (12, _), (13, _), (14, _), (15, _), (16, _)] ⟨rfl, rfl, rfl, rfl, rfl, rfl, rfl, rfl, rfl, rfl, rfl, rfl, rfl, rfl, rfl, rfl, rfl, rfl, trivial⟩ ?_
    refine AWP.seq ?_
    refine AWP.region ?_
    refine ARun.calm rfl rfl (lit_lt rfl) (Calm.move rfl) ?_
    refine ARun.calm rfl rfl (lit_lt rfl) (Calm.bin rfl rfl (by first | exact bin_bool (bin_eql _ _) (decide_eq_true (by omega)) | exact bin_bool (bin_eql _ _) (decide_eq_false (by omega)) | exact bin_eql _ _)) ?_
    refine ARun.calm rfl rfl (lit_lt rfl) (Calm.move rfl) ?_
    first | refine ARun.skipG 2 true _ 68 rfl rfl (lit_lt rfl) rfl rfl rfl (lit_lt rfl) ?_ | refine ARun.skipU 2 true 68 rfl rfl (lit_lt rfl) rfl rfl (lit_lt rfl) ?_ | refine ARun.calmG 2 true 68 rfl rfl (lit_lt rfl) rfl rfl (lit_lt rfl) (Calm.move rfl) ?_
    first | refine ARun.skipG 2 true _ 68 rfl rfl (lit_lt rfl) rfl rfl rfl (lit_lt rfl) ?_ | refine ARun.skipU 2 true 68 rfl rfl (lit_lt rfl) rfl rfl (lit_lt rfl) ?_ | refine ARun.calmG 2 true 68 rfl rfl (lit_lt rfl) rfl rfl (lit_lt rfl) (Calm.bin rfl rfl (by first | exact bin_bool (bin_eql _ _) (decide_eq_true (by omega)) | exact bin_bool (bin_eql _ _) (decide_eq_false (by omega)) | exact bin_eql _ _)) ?_
    refine ARun.calm rfl rfl (lit_lt rfl) ((by first | exact Calm.pickT rfl rfl | exact Calm.pickF rfl rfl)) ?_
    refine ARun.calm rfl rfl (lit_lt rfl) (Calm.move rfl) ?_
    first | refine ARun.skipG 6 true _ 72 rfl rfl (lit_lt rfl) rfl rfl rfl (lit_lt rfl) ?_ | refine ARun.skipU 6 true 72 rfl rfl (lit_lt rfl) rfl rfl (lit_lt rfl) ?_ | refine ARun.calmG 6 true 72 rfl rfl (lit_lt rfl) rfl rfl (lit_lt rfl) (Calm.loadA ty_agg_23 (cs := [_, _]) ty_size_23 rfl ((by first | with_reducible assumption | ((repeat (apply rds_cons; ((repeat ((with_reducible refine (rd_set_ne _ _ ?_).trans ?_); (first | assumption | (apply Ne.symm; assumption)))); (first | ((with_reducible refine (rd_set_same _ _ _ _).trans ?_); rfl) | ((with_reducible apply rd_own'); (with_reducible assumption); rfl) | with_reducible assumption)))); exact rds_nil _ _)))) ?_
    first | refine ARun.skipG 6 true _ 72 rfl rfl (lit_lt rfl) rfl rfl rfl (lit_lt rfl) ?_ | refine ARun.skipU 6 true 72 rfl rfl (lit_lt rfl) rfl rfl (lit_lt rfl) ?_ | refine ARun.calmG 6 true 72 rfl rfl (lit_lt rfl) rfl rfl (lit_lt rfl) (Calm.loadA ty_agg_23 (cs := [_, _]) ty_size_23 rfl ((by first | with_reducible assumption | ((repeat (apply rds_cons; ((repeat ((with_reducible refine (rd_set_ne _ _ ?_).trans ?_); (first | assumption | (apply Ne.symm; assumption)))); (first | ((with_reducible refine (rd_set_same _ _ _ _).trans ?_); rfl) | ((with_reducible apply rd_own'); (with_reducible assumption); rfl) | with_reducible assumption)))); exact rds_nil _ _)))) ?_
    first | refine ARun.skipG 6 true _ 72 rfl rfl (lit_lt rfl) rfl rfl rfl (lit_lt rfl) ?_ | refine ARun.skipU 6 true 72 rfl rfl (lit_lt rfl) rfl rfl (lit_lt rfl) ?_ | refine ARun.calmG 6 true 72 rfl rfl (lit_lt rfl) rfl rfl (lit_lt rfl) (Calm.bin rfl rfl (bin_bool (bin_eql_Bitstr _ _ _ _) (decide_eq_true ⟨rfl, rfl⟩))) ?_
    refine ARun.calm rfl rfl (lit_lt rfl) ((by first | exact Calm.pickT rfl rfl | exact Calm.pickF rfl rfl)) ?_
    refine ARun.calm rfl rfl (lit_lt rfl) (Calm.move rfl) ?_
    first | refine ARun.skipG 11 true _ 77 rfl rfl (lit_lt rfl) rfl rfl rfl (lit_lt rfl) ?_ | refine ARun.skipU 11 true 77 rfl rfl (lit_lt rfl) rfl rfl (lit_lt rfl) ?_ | refine ARun.calmG 11 true 77 rfl rfl (lit_lt rfl) rfl rfl (lit_lt rfl) (Calm.move rfl) ?_
    first | refine ARun.skipG 11 true _ 77 rfl rfl (lit_lt rfl) rfl rfl rfl (lit_lt rfl) ?_ | refine ARun.skipU 11 true 77 rfl rfl (lit_lt rfl) rfl rfl (lit_lt rfl) ?_ | refine ARun.calmG 11 true 77 rfl rfl (lit_lt rfl) rfl rfl (lit_lt rfl) (Calm.bin rfl rfl (by first | exact bin_bool (bin_eql _ _) (decide_eq_true (by omega)) | exact bin_bool (bin_eql _ _) (decide_eq_false (by omega)) | exact bin_eql _ _)) ?_
    refine ARun.calm rfl rfl (lit_lt rfl) ((by first | exact Calm.pickT rfl rfl | exact Calm.pickF rfl rfl)) ?_
    refine ARun.calm rfl rfl (lit_lt rfl) (Calm.move rfl) ?_
    first | refine ARun.skipG 15 true _ 81 rfl rfl (lit_lt rfl) rfl rfl rfl (lit_lt rfl) ?_ | refine ARun.skipU 15 true 81 rfl rfl (lit_lt rfl) rfl rfl (lit_lt rfl) ?_ | refine ARun.calmG 15 true 81 rfl rfl (lit_lt rfl) rfl rfl (lit_lt rfl) (Calm.move rfl) ?_
    first | refine ARun.skipG 15 true _ 81 rfl rfl (lit_lt rfl) rfl rfl rfl (lit_lt rfl) ?_ | refine ARun.skipU 15 true 81 rfl rfl (lit_lt rfl) rfl rfl (lit_lt rfl) ?_ | refine ARun.calmG 15 true 81 rfl rfl (lit_lt rfl) rfl rfl (lit_lt rfl) (Calm.bin rfl rfl (by first | exact bin_bool (bin_eql _ _) (decide_eq_true (by omega)) | exact bin_bool (bin_eql _ _) (decide_eq_false (by omega)) | exact bin_eql _ _)) ?_
    refine ARun.calm rfl rfl (lit_lt rfl) ((by first | exact Calm.pickT rfl rfl | exact Calm.pickF rfl rfl)) ?_
    refine ARun.calm rfl rfl (lit_lt rfl) (Calm.move rfl) ?_
    first | refine ARun.skipG 19 true _ 85 rfl rfl (lit_lt rfl) rfl rfl rfl (lit_lt rfl) ?_ | refine ARun.skipU 19 true 85 rfl rfl (lit_lt rfl) rfl rfl (lit_lt rfl) ?_ | refine ARun.calmG 19 true 85 rfl rfl (lit_lt rfl) rfl rfl (lit_lt rfl) (Calm.move rfl) ?_
    first | refine ARun.skipG 19 true _ 85 rfl rfl (lit_lt rfl) rfl rfl rfl (lit_lt rfl) ?_ | refine ARun.skipU 19 true 85 rfl rfl (lit_lt rfl) rfl rfl (lit_lt rfl) ?_ | refine ARun.calmG 19 true 85 rfl rfl (lit_lt rfl) rfl rfl (lit_lt rfl) (Calm.bin rfl rfl (by first | exact bin_bool (bin_eql _ _) (decide_eq_true (by omega)) | exact bin_bool (bin_eql _ _) (decide_eq_false (by omega)) | exact bin_eql _ _)) ?_
    refine ARun.calm rfl rfl (lit_lt rfl) ((by first | exact Calm.pickT rfl rfl | exact Calm.pickF rfl rfl)) ?_
    refine ARun.calm rfl rfl (lit_lt rfl) (Calm.move rfl) ?_
    first | refine ARun.skipG 23 true _ 89 rfl rfl (lit_lt rfl) rfl rfl rfl (lit_lt rfl) ?_ | refine ARun.skipU 23 true 89 rfl rfl (lit_lt rfl) rfl rfl (lit_lt rfl) ?_ | refine ARun.calmG 23 true 89 rfl rfl (lit_lt rfl) rfl rfl (lit_lt rfl) (Calm.move rfl) ?_
    first | refine ARun.skipG 23 true _ 89 rfl rfl (lit_lt rfl) rfl rfl rfl (lit_lt rfl) ?_ | refine ARun.skipU 23 true 89 rfl rfl (lit_lt rfl) rfl rfl (lit_lt rfl) ?_ | refine ARun.calmG 23 true 89 rfl rfl (lit_lt rfl) rfl rfl (lit_lt rfl) (Calm.move rfl) ?_
    first | refine ARun.skipG 23 true _ 89 rfl rfl (lit_lt rfl) rfl rfl rfl (lit_lt rfl) ?_ | refine ARun.skipU 23 true 89 rfl rfl (lit_lt rfl) rfl rfl (lit_lt rfl) ?_ | refine ARun.calmG 23 true 89 rfl rfl (lit_lt rfl) rfl rfl (lit_lt rfl) (Calm.bin rfl rfl (by first | exact bin_addW (IntWalk.i64_in _ (by omega)) | exact bin_add _ _)) ?_
    first | refine ARun.skipG 23 true _ 89 rfl rfl (lit_lt rfl) rfl rfl rfl (lit_lt rfl) ?_ | refine ARun.skipU 23 true 89 rfl rfl (lit_lt rfl) rfl rfl (lit_lt rfl) ?_ | refine ARun.calmG 23 true 89 rfl rfl (lit_lt rfl) rfl rfl (lit_lt rfl) (Calm.move rfl) ?_
    first | refine ARun.skipG 23 true _ 89 rfl rfl (lit_lt rfl) rfl rfl rfl (lit_lt rfl) ?_ | refine ARun.skipU 23 true 89 rfl rfl (lit_lt rfl) rfl rfl (lit_lt rfl) ?_ | refine ARun.calmG 23 true 89 rfl rfl (lit_lt rfl) rfl rfl (lit_lt rfl) (Calm.bin rfl rfl (by first | exact bin_bool (bin_eql _ _) (decide_eq_true (by omega)) | exact bin_bool (bin_eql _ _) (decide_eq_false (by omega)) | exact bin_eql _ _)) ?_
    refine ARun.calm rfl rfl (lit_lt rfl) ((by first | exact Calm.pickT rfl rfl | exact Calm.pickF rfl rfl)) ?_
    refine ARun.calm rfl rfl (lit_lt rfl) (Calm.assign rfl) ?_
    refine arun_nil ?_
    refine athen_n ?_
    refine AWP.sub [(0, _), (1, _), (2, _), (4, _), (22, _), (5, _), (6, _), (30, _), (7, _), (8, _), (9, _), (10, _), (11, _), (12, _), (13, _), (14, _), (15, _), (16, _)] ⟨rfl, rfl, rfl, rfl, rfl, rfl, rfl, rfl, rfl, rfl, rfl, rfl, rfl, rfl, rfl, rfl, rfl, rfl, trivial⟩ ?_
    refine AWP.ret ?_
    refine ⟨_, _, ⟨_, _, rfl, rfl, rfl⟩, (by first | with_reducible exact Mem.Less.refl _ | ((with_reducible refine Mem.less_set _ _ _ (Fresh.own ?_)); with_reducible assumption) | (refine less_of ?_; (repeat first | with_reducible exact LessB.refl _ _ | ((with_reducible refine LessB.set ?_ ?_); ((repeat first | ((with_reducible refine (Mem.own_set_other _ _ ?_).trans ?_); (first | assumption | (apply Ne.symm; assumption))) | ((with_reducible refine (Mem.own_del_other _ ?_).trans ?_); (first | assumption | (apply Ne.symm; assumption)))); (first | with_reducible exact Mem.own_set_same _ _ _ | with_reducible assumption | exact Mem.own_set_same _ _ _))) | (with_reducible refine LessB.delL ?_)); (repeat first | with_reducible exact LessB.refl _ _ | ((with_reducible refine LessB.of ?_); with_reducible assumption) | ((with_reducible refine LessB.skip ?_ ?_); (first | ((refine .inl ?_); simp; done) | ((refine .inr (Fresh.own ?_)); with_reducible assumption) | ((refine .inr ?_); with_reducible assumption))) | ((with_reducible refine LessB.skipDel ?_ ?_); (first | ((refine .inl ?_); simp; done) | ((refine .inr (Fresh.own ?_)); with_reducible assumption) | ((refine .inr ?_); with_reducible assumption)))))), ?_⟩
    rfl
theorem walk_BitsParts (s : ByteArray) (N n : Int) (w : World) (hs : s.size ≤ maxLen) (hN : (Lit.int .i64 N).wf = true) (hn : (Lit.int .i64 n).wf = true) :
    Calls Try.prog 13 #[.agg #[.string s, .int .i64 N], .int .i64 n] w fun e w' => e = .returned (.bool true) ∧ Below w.heap.size w w' :=
  ACall.calls (law_BitsParts s N n _ (by unfold maxLen at hs; omega) (wf64 hN).1 (wf64 hN).2 (wf64 hn).1 (wf64 hn).2)
end Go.Proofs.Ytpeljbmbgjeomaa
