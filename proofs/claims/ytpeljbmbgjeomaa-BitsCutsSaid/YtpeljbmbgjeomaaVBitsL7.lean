/-
  BitsCuts: the law walked.
-/
import Derived.Test.YtpeljbmbgjeomaaVBitsL6
namespace Go.Proofs.Ytpeljbmbgjeomaa
open Go.RowKit
open Bits Mv
set_option linter.unusedVariables false
set_option linter.unusedSimpArgs false
namespace Bits
theorem IsBv.less {S S' : Mem} {a : Option Addr} {len : Nat} {xs : List (ByteArray × Int)} (h : IsBv S' a len xs) (hl : S'.Less S) : IsBv S a len xs := by
  obtain ⟨h1, h2, h3, h4⟩ := h
  refine ⟨h1, h2, ?_, h4⟩
  rcases h3 with h3 | ⟨b, off, rfl, hk⟩
  · exact .inl h3
  · exact .inr ⟨b, off, rfl, fun i hi => (hk i hi).less hl⟩
theorem catG_two (s : ByteArray) (N : Int) (xs : List (ByteArray × Int)) (L : List Bool) : ∃ s' N' e, catG s N L xs = .tuple #[.agg #[.string s', .int .i64 N'], .int .i64 e] := by
  induction xs generalizing L with
  | nil => unfold catG; exact ⟨_, _, _, rfl⟩
  | cons x r ih =>
    unfold catG
    split
    · exact ⟨_, _, _, rfl⟩
    split
    · exact ⟨_, _, _, rfl⟩
    exact ih _
theorem catP_two (s : ByteArray) (N : Int) (xs : List (ByteArray × Int)) : ∃ s' N' e, catP s N xs = .tuple #[.agg #[.string s', .int .i64 N'], .int .i64 e] := by
  unfold catP
  split
  · exact ⟨_, _, _, rfl⟩
  exact catG_two _ _ _ _
theorem cutP_two (s : ByteArray) (N a n : Int) : ∃ s' N' e, cutP s N a n = .tuple #[.agg #[.string s', .int .i64 N'], .int .i64 e] := by
  unfold cutP
  repeat' split
  all_goals exact ⟨_, _, _, rfl⟩
theorem turnP_two (s : ByteArray) (N i : Int) : ∃ s' N' e, turnP s N i = .tuple #[.agg #[.string s', .int .i64 N'], .int .i64 e] := by
  unfold turnP
  repeat' split
  all_goals exact ⟨_, _, _, rfl⟩
theorem onesP_two (s : ByteArray) (N : Int) : ∃ x e, onesP s N = .tuple #[.int .i64 x, .int .i64 e] := by
  unfold onesP
  repeat' split
  all_goals exact ⟨_, _, rfl⟩
end Bits
set_option maxHeartbeats 4000000 in
theorem law_BitsCuts (s : ByteArray) (N a n : Int) (p : Option Addr) (len cap : Nat) (xs : List (ByteArray × Int)) (S : Mem) (hs : s.size ≤ 9223372036854775807) (hx : IsBv S p len xs) (ha0 : -9223372036854775808 ≤ a) (hn0 : -9223372036854775808 ≤ n) (hn1 : n ≤ 9223372036854775807) (ha1 : a ≤ 9223372036854775807) :
    ACall Try.prog 6 #[.agg #[.string s, .int .i64 N], .slice p len cap, .int .i64 a, .int .i64 n] S fun r S' => r = .bool true := by
  obtain ⟨s1, N1, e1, q1⟩ := catP_two s N xs
  obtain ⟨s2, N2, e2, q2⟩ := cutP_two s N a n
  obtain ⟨s3, N3, e3, q3⟩ := turnP_two s N a
  obtain ⟨x4, e4, q4⟩ := onesP_two s N
  refine ACall.enter (args := [.agg #[.string s, .int .i64 N], .slice p len cap, .int .i64 a, .int .i64 n]) (rs := [.tmp 8]) 114 [(0, .agg #[.string s, .int .i64 N]), (1, .slice p len cap), (2, .int .i64 a), (3, .int .i64 n)] Try.func6 rfl rfl (Nat.le_of_ble_eq_true rfl) rfl ⟨rfl, rfl, rfl, rfl, trivial⟩ ?_
  refine AWP.seq ?_
  refine AWP.region ?_
  refine ARun.boxA (cs := [_, _]) (lit_lt rfl) rfl ?_
  intro b4 f4
  have g4 := f4
  repeat ((with_reducible replace g4 := fresh_set g4); obtain ⟨g4, _⟩ := g4)
  (try simp only [List.length_cons, List.length_nil, Nat.zero_add, Nat.reduceAdd])
  refine ARun.calm rfl rfl (lit_lt rfl) (Calm.assign rfl) ?_
  refine arun_nil ?_
  refine athen_n ?_
  refine AWP.seq ?_
  refine AWP.region ?_
  refine ARun.calm rfl rfl (lit_lt rfl) (Calm.loadA ty_agg_23 (cs := [_, _]) ty_size_23 rfl ((by first | with_reducible assumption | ((repeat (apply rds_cons; ((repeat ((with_reducible refine (rd_set_ne _ _ ?_).trans ?_); (first | assumption | (apply Ne.symm; assumption)))); (first | ((with_reducible refine (rd_set_same _ _ _ _).trans ?_); rfl) | ((with_reducible apply rd_own'); (with_reducible assumption); rfl) | with_reducible assumption)))); exact rds_nil _ _)))) ?_
  refine ARun.calm rfl rfl (lit_lt rfl) (Calm.move rfl) ?_
  refine ARun.call (lit_lt rfl) go_22 rfl (bitsV_Cat s N p len cap xs _ hs (hx.less ((by first | with_reducible exact Mem.Less.refl _ | ((with_reducible refine Mem.less_set _ _ _ (Fresh.own ?_)); with_reducible assumption) | (refine less_of ?_; (repeat first | with_reducible exact LessB.refl _ _ | ((with_reducible refine LessB.set ?_ ?_); ((repeat first | ((with_reducible refine (Mem.own_set_other _ _ ?_).trans ?_); (first | assumption | (apply Ne.symm; assumption))) | ((with_reducible refine (Mem.own_del_other _ ?_).trans ?_); (first | assumption | (apply Ne.symm; assumption)))); (first | with_reducible exact Mem.own_set_same _ _ _ | with_reducible assumption | exact Mem.own_set_same _ _ _))) | (with_reducible refine LessB.delL ?_)); (repeat first | with_reducible exact LessB.refl _ _ | ((with_reducible refine LessB.of ?_); with_reducible assumption) | ((with_reducible refine LessB.skip ?_ ?_); (first | ((refine .inl ?_); simp; done) | ((refine .inr (Fresh.own ?_)); with_reducible assumption) | ((refine .inr ?_); with_reducible assumption))) | ((with_reducible refine LessB.skipDel ?_ ?_); (first | ((refine .inl ?_); simp; done) | ((refine .inr (Fresh.own ?_)); with_reducible assumption) | ((refine .inr ?_); with_reducible assumption))))))))) ?_
  rintro _ _ ⟨rfl, rfl⟩
  rw [q1]
  refine ARun.calm rfl rfl (lit_lt rfl) (Calm.move rfl) ?_
  refine ARun.calm rfl rfl (lit_lt rfl) (Calm.extract rfl rfl) ?_
  refine ARun.calm rfl rfl (lit_lt rfl) (Calm.extract rfl rfl) ?_
  refine ARun.alloc (lit_lt rfl) ty_zero_23 ?_
  intro b9 f9
  have g9 := f9
  repeat ((with_reducible replace g9 := fresh_set g9); obtain ⟨g9, _⟩ := g9)
  (try simp only [List.length_cons, List.length_nil, Nat.zero_add, Nat.reduceAdd])
  first | refine ARun.storeAll rfl rfl ty_size_23 ((by (repeat first | ((with_reducible refine (Mem.own_set_other _ _ ?_).trans ?_); (first | assumption | (apply Ne.symm; assumption))) | ((with_reducible refine (Mem.own_del_other _ ?_).trans ?_); (first | assumption | (apply Ne.symm; assumption)))); (first | with_reducible exact Mem.own_set_same _ _ _ | with_reducible assumption | exact Mem.own_set_same _ _ _))) rfl rfl ?_ | refine ARun.store rfl rfl ty_size_23 ((by (repeat first | ((with_reducible refine (Mem.own_set_other _ _ ?_).trans ?_); (first | assumption | (apply Ne.symm; assumption))) | ((with_reducible refine (Mem.own_del_other _ ?_).trans ?_); (first | assumption | (apply Ne.symm; assumption)))); (first | with_reducible exact Mem.own_set_same _ _ _ | with_reducible assumption | exact Mem.own_set_same _ _ _))) ((by first | decide | (simp; done) | (simp; omega) | omega)) rfl ?_
  (try simp only [Mem.set_set, List.set_cons_zero, List.set_cons_succ, Nat.zero_add, Nat.reduceAdd])
  refine ARun.calm rfl rfl (lit_lt rfl) (Calm.assign rfl) ?_
  refine arun_nil ?_
  refine athen_n ?_
  refine AWP.sub [(0, _), (1, _), (2, _), (3, _), (4, _), (8, _), (9, _), (10, _)] ⟨rfl, rfl, rfl, rfl, rfl, rfl, rfl, rfl, trivial⟩ ?_
  refine AWP.seq ?_
  refine AWP.region ?_
  refine ARun.calm rfl rfl (lit_lt rfl) (Calm.loadA ty_agg_23 (cs := [_, _]) ty_size_23 rfl ((by first | with_reducible assumption | ((repeat (apply rds_cons; ((repeat ((with_reducible refine (rd_set_ne _ _ ?_).trans ?_); (first | assumption | (apply Ne.symm; assumption)))); (first | ((with_reducible refine (rd_set_same _ _ _ _).trans ?_); rfl) | ((with_reducible apply rd_own'); (with_reducible assumption); rfl) | with_reducible assumption)))); exact rds_nil _ _)))) ?_
  refine ARun.calm rfl rfl (lit_lt rfl) (Calm.move rfl) ?_
  refine ARun.call (lit_lt rfl) go_23 rfl (refV_Cat s N p len cap xs _ hs (hx.less ((by first | with_reducible exact Mem.Less.refl _ | ((with_reducible refine Mem.less_set _ _ _ (Fresh.own ?_)); with_reducible assumption) | (refine less_of ?_; (repeat first | with_reducible exact LessB.refl _ _ | ((with_reducible refine LessB.set ?_ ?_); ((repeat first | ((with_reducible refine (Mem.own_set_other _ _ ?_).trans ?_); (first | assumption | (apply Ne.symm; assumption))) | ((with_reducible refine (Mem.own_del_other _ ?_).trans ?_); (first | assumption | (apply Ne.symm; assumption)))); (first | with_reducible exact Mem.own_set_same _ _ _ | with_reducible assumption | exact Mem.own_set_same _ _ _))) | (with_reducible refine LessB.delL ?_)); (repeat first | with_reducible exact LessB.refl _ _ | ((with_reducible refine LessB.of ?_); with_reducible assumption) | ((with_reducible refine LessB.skip ?_ ?_); (first | ((refine .inl ?_); simp; done) | ((refine .inr (Fresh.own ?_)); with_reducible assumption) | ((refine .inr ?_); with_reducible assumption))) | ((with_reducible refine LessB.skipDel ?_ ?_); (first | ((refine .inl ?_); simp; done) | ((refine .inr (Fresh.own ?_)); with_reducible assumption) | ((refine .inr ?_); with_reducible assumption))))))))) ?_
  rintro _ _ ⟨rfl, rfl⟩
  rw [q1]
  refine ARun.calm rfl rfl (lit_lt rfl) (Calm.move rfl) ?_
  refine ARun.calm rfl rfl (lit_lt rfl) (Calm.extract rfl rfl) ?_
  refine ARun.calm rfl rfl (lit_lt rfl) (Calm.extract rfl rfl) ?_
  refine ARun.alloc (lit_lt rfl) ty_zero_23 ?_
  intro b11 f11
  have g11 := f11
  repeat ((with_reducible replace g11 := fresh_set g11); obtain ⟨g11, _⟩ := g11)
  (try simp only [List.length_cons, List.length_nil, Nat.zero_add, Nat.reduceAdd])
  first | refine ARun.storeAll rfl rfl ty_size_23 ((by (repeat first | ((with_reducible refine (Mem.own_set_other _ _ ?_).trans ?_); (first | assumption | (apply Ne.symm; assumption))) | ((with_reducible refine (Mem.own_del_other _ ?_).trans ?_); (first | assumption | (apply Ne.symm; assumption)))); (first | with_reducible exact Mem.own_set_same _ _ _ | with_reducible assumption | exact Mem.own_set_same _ _ _))) rfl rfl ?_ | refine ARun.store rfl rfl ty_size_23 ((by (repeat first | ((with_reducible refine (Mem.own_set_other _ _ ?_).trans ?_); (first | assumption | (apply Ne.symm; assumption))) | ((with_reducible refine (Mem.own_del_other _ ?_).trans ?_); (first | assumption | (apply Ne.symm; assumption)))); (first | with_reducible exact Mem.own_set_same _ _ _ | with_reducible assumption | exact Mem.own_set_same _ _ _))) ((by first | decide | (simp; done) | (simp; omega) | omega)) rfl ?_
  (try simp only [Mem.set_set, List.set_cons_zero, List.set_cons_succ, Nat.zero_add, Nat.reduceAdd])
  refine ARun.calm rfl rfl (lit_lt rfl) (Calm.assign rfl) ?_
  refine arun_nil ?_
  refine athen_n ?_
  refine AWP.sub [(0, _), (1, _), (2, _), (3, _), (4, _), (8, _), (9, _), (10, _), (11, _), (12, _)] ⟨rfl, rfl, rfl, rfl, rfl, rfl, rfl, rfl, rfl, rfl, trivial⟩ ?_
  refine AWP.seq ?_
  refine AWP.region ?_
  refine ARun.calm rfl rfl (lit_lt rfl) (Calm.loadA ty_agg_23 (cs := [_, _]) ty_size_23 rfl ((by first | with_reducible assumption | ((repeat (apply rds_cons; ((repeat ((with_reducible refine (rd_set_ne _ _ ?_).trans ?_); (first | assumption | (apply Ne.symm; assumption)))); (first | ((with_reducible refine (rd_set_same _ _ _ _).trans ?_); rfl) | ((with_reducible apply rd_own'); (with_reducible assumption); rfl) | with_reducible assumption)))); exact rds_nil _ _)))) ?_
  refine ARun.calm rfl rfl (lit_lt rfl) (Calm.move rfl) ?_
  refine ARun.calm rfl rfl (lit_lt rfl) (Calm.move rfl) ?_
  refine ARun.call (lit_lt rfl) go_24 rfl (bitsV_Cut s N a n _ hs (by omega) (by omega) (by omega)) ?_
  rintro _ _ ⟨rfl, rfl⟩
  rw [q2]
  refine ARun.calm rfl rfl (lit_lt rfl) (Calm.move rfl) ?_
  refine ARun.calm rfl rfl (lit_lt rfl) (Calm.extract rfl rfl) ?_
  refine ARun.calm rfl rfl (lit_lt rfl) (Calm.extract rfl rfl) ?_
  refine ARun.alloc (lit_lt rfl) ty_zero_23 ?_
  intro b13 f13
  have g13 := f13
  repeat ((with_reducible replace g13 := fresh_set g13); obtain ⟨g13, _⟩ := g13)
  (try simp only [List.length_cons, List.length_nil, Nat.zero_add, Nat.reduceAdd])
  first | refine ARun.storeAll rfl rfl ty_size_23 ((by (repeat first | ((with_reducible refine (Mem.own_set_other _ _ ?_).trans ?_); (first | assumption | (apply Ne.symm; assumption))) | ((with_reducible refine (Mem.own_del_other _ ?_).trans ?_); (first | assumption | (apply Ne.symm; assumption)))); (first | with_reducible exact Mem.own_set_same _ _ _ | with_reducible assumption | exact Mem.own_set_same _ _ _))) rfl rfl ?_ | refine ARun.store rfl rfl ty_size_23 ((by (repeat first | ((with_reducible refine (Mem.own_set_other _ _ ?_).trans ?_); (first | assumption | (apply Ne.symm; assumption))) | ((with_reducible refine (Mem.own_del_other _ ?_).trans ?_); (first | assumption | (apply Ne.symm; assumption)))); (first | with_reducible exact Mem.own_set_same _ _ _ | with_reducible assumption | exact Mem.own_set_same _ _ _))) ((by first | decide | (simp; done) | (simp; omega) | omega)) rfl ?_
  (try simp only [Mem.set_set, List.set_cons_zero, List.set_cons_succ, Nat.zero_add, Nat.reduceAdd])
  refine ARun.calm rfl rfl (lit_lt rfl) (Calm.assign rfl) ?_
  refine arun_nil ?_
  refine athen_n ?_
  refine AWP.sub [(0, _), (1, _), (2, _), (3, _), (4, _), (8, _), (9, _), (10, _), (11, _), (12, _), (13, _), (14, _)] ⟨rfl, rfl, rfl, rfl, rfl, rfl, rfl, rfl, rfl, rfl, rfl, rfl, trivial⟩ ?_
  refine AWP.seq ?_
  refine AWP.region ?_
  refine ARun.calm rfl rfl (lit_lt rfl) (Calm.loadA ty_agg_23 (cs := [_, _]) ty_size_23 rfl ((by first | with_reducible assumption | ((repeat (apply rds_cons; ((repeat ((with_reducible refine (rd_set_ne _ _ ?_).trans ?_); (first | assumption | (apply Ne.symm; assumption)))); (first | ((with_reducible refine (rd_set_same _ _ _ _).trans ?_); rfl) | ((with_reducible apply rd_own'); (with_reducible assumption); rfl) | with_reducible assumption)))); exact rds_nil _ _)))) ?_
  refine ARun.calm rfl rfl (lit_lt rfl) (Calm.move rfl) ?_
  refine ARun.calm rfl rfl (lit_lt rfl) (Calm.move rfl) ?_
  refine ARun.call (lit_lt rfl) go_25 rfl (refV_Cut s N a n _ hs (by omega) (by omega) (by omega)) ?_
  rintro _ _ ⟨rfl, rfl⟩
  rw [q2]
  refine ARun.calm rfl rfl (lit_lt rfl) (Calm.move rfl) ?_
  refine ARun.calm rfl rfl (lit_lt rfl) (Calm.extract rfl rfl) ?_
  refine ARun.calm rfl rfl (lit_lt rfl) (Calm.extract rfl rfl) ?_
  refine ARun.alloc (lit_lt rfl) ty_zero_23 ?_
  intro b15 f15
  have g15 := f15
  repeat ((with_reducible replace g15 := fresh_set g15); obtain ⟨g15, _⟩ := g15)
  (try simp only [List.length_cons, List.length_nil, Nat.zero_add, Nat.reduceAdd])
  first | refine ARun.storeAll rfl rfl ty_size_23 ((by (repeat first | ((with_reducible refine (Mem.own_set_other _ _ ?_).trans ?_); (first | assumption | (apply Ne.symm; assumption))) | ((with_reducible refine (Mem.own_del_other _ ?_).trans ?_); (first | assumption | (apply Ne.symm; assumption)))); (first | with_reducible exact Mem.own_set_same _ _ _ | with_reducible assumption | exact Mem.own_set_same _ _ _))) rfl rfl ?_ | refine ARun.store rfl rfl ty_size_23 ((by (repeat first | ((with_reducible refine (Mem.own_set_other _ _ ?_).trans ?_); (first | assumption | (apply Ne.symm; assumption))) | ((with_reducible refine (Mem.own_del_other _ ?_).trans ?_); (first | assumption | (apply Ne.symm; assumption)))); (first | with_reducible exact Mem.own_set_same _ _ _ | with_reducible assumption | exact Mem.own_set_same _ _ _))) ((by first | decide | (simp; done) | (simp; omega) | omega)) rfl ?_
  (try simp only [Mem.set_set, List.set_cons_zero, List.set_cons_succ, Nat.zero_add, Nat.reduceAdd])
  refine ARun.calm rfl rfl (lit_lt rfl) (Calm.assign rfl) ?_
  refine arun_nil ?_
  refine athen_n ?_
  refine AWP.sub [(0, _), (1, _), (2, _), (3, _), (4, _), (8, _), (9, _), (10, _), (11, _), (12, _), (13, _), (14, _), (15, _), (16, _)] ⟨rfl, rfl, rfl, rfl, rfl, rfl, rfl, rfl, rfl, rfl, rfl, rfl, rfl, rfl, trivial⟩ ?_
  refine AWP.seq ?_
  refine AWP.region ?_
  refine ARun.calm rfl rfl (lit_lt rfl) (Calm.loadA ty_agg_23 (cs := [_, _]) ty_size_23 rfl ((by first | with_reducible assumption | ((repeat (apply rds_cons; ((repeat ((with_reducible refine (rd_set_ne _ _ ?_).trans ?_); (first | assumption | (apply Ne.symm; assumption)))); (first | ((with_reducible refine (rd_set_same _ _ _ _).trans ?_); rfl) | ((with_reducible apply rd_own'); (with_reducible assumption); rfl) | with_reducible assumption)))); exact rds_nil _ _)))) ?_
  refine ARun.calm rfl rfl (lit_lt rfl) (Calm.move rfl) ?_
  refine ARun.call (lit_lt rfl) go_26 rfl (bitsV_Turn s N a _ hs) ?_
  rintro _ _ ⟨rfl, rfl⟩
  rw [q3]
  refine ARun.calm rfl rfl (lit_lt rfl) (Calm.move rfl) ?_
  refine ARun.calm rfl rfl (lit_lt rfl) (Calm.extract rfl rfl) ?_
  refine ARun.calm rfl rfl (lit_lt rfl) (Calm.extract rfl rfl) ?_
  refine ARun.alloc (lit_lt rfl) ty_zero_23 ?_
  intro b17 f17
  have g17 := f17
  repeat ((with_reducible replace g17 := fresh_set g17); obtain ⟨g17, _⟩ := g17)
  (try simp only [List.length_cons, List.length_nil, Nat.zero_add, Nat.reduceAdd])
  first | refine ARun.storeAll rfl rfl ty_size_23 ((by (repeat first | ((with_reducible refine (Mem.own_set_other _ _ ?_).trans ?_); (first | assumption | (apply Ne.symm; assumption))) | ((with_reducible refine (Mem.own_del_other _ ?_).trans ?_); (first | assumption | (apply Ne.symm; assumption)))); (first | with_reducible exact Mem.own_set_same _ _ _ | with_reducible assumption | exact Mem.own_set_same _ _ _))) rfl rfl ?_ | refine ARun.store rfl rfl ty_size_23 ((by (repeat first | ((with_reducible refine (Mem.own_set_other _ _ ?_).trans ?_); (first | assumption | (apply Ne.symm; assumption))) | ((with_reducible refine (Mem.own_del_other _ ?_).trans ?_); (first | assumption | (apply Ne.symm; assumption)))); (first | with_reducible exact Mem.own_set_same _ _ _ | with_reducible assumption | exact Mem.own_set_same _ _ _))) ((by first | decide | (simp; done) | (simp; omega) | omega)) rfl ?_
  (try simp only [Mem.set_set, List.set_cons_zero, List.set_cons_succ, Nat.zero_add, Nat.reduceAdd])
  refine ARun.calm rfl rfl (lit_lt rfl) (Calm.assign rfl) ?_
  refine arun_nil ?_
  refine athen_n ?_
  refine AWP.sub [(0, _), (1, _), (2, _), (3, _), (4, _), (8, _), (9, _), (10, _), (11, _), (12, _), (13, _), (14, _), (15, _), (16, _), (17, _), (18, _)] ⟨rfl, rfl, rfl, rfl, rfl, rfl, rfl, rfl, rfl, rfl, rfl, rfl, rfl, rfl, rfl, rfl, trivial⟩ ?_
  refine AWP.seq ?_
  refine AWP.region ?_
  refine ARun.calm rfl rfl (lit_lt rfl) (Calm.loadA ty_agg_23 (cs := [_, _]) ty_size_23 rfl ((by first | with_reducible assumption | ((repeat (apply rds_cons; ((repeat ((with_reducible refine (rd_set_ne _ _ ?_).trans ?_); (first | assumption | (apply Ne.symm; assumption)))); (first | ((with_reducible refine (rd_set_same _ _ _ _).trans ?_); rfl) | ((with_reducible apply rd_own'); (with_reducible assumption); rfl) | with_reducible assumption)))); exact rds_nil _ _)))) ?_
  refine ARun.calm rfl rfl (lit_lt rfl) (Calm.move rfl) ?_
  refine ARun.call (lit_lt rfl) go_27 rfl (refV_Turn s N a _ hs) ?_
  rintro _ _ ⟨rfl, rfl⟩
  rw [q3]
  refine ARun.calm rfl rfl (lit_lt rfl) (Calm.move rfl) ?_
  refine ARun.calm rfl rfl (lit_lt rfl) (Calm.extract rfl rfl) ?_
  refine ARun.calm rfl rfl (lit_lt rfl) (Calm.extract rfl rfl) ?_
  refine ARun.alloc (lit_lt rfl) ty_zero_23 ?_
  intro b19 f19
  have g19 := f19
  repeat ((with_reducible replace g19 := fresh_set g19); obtain ⟨g19, _⟩ := g19)
  (try simp only [List.length_cons, List.length_nil, Nat.zero_add, Nat.reduceAdd])
  first | refine ARun.storeAll rfl rfl ty_size_23 ((by (repeat first | ((with_reducible refine (Mem.own_set_other _ _ ?_).trans ?_); (first | assumption | (apply Ne.symm; assumption))) | ((with_reducible refine (Mem.own_del_other _ ?_).trans ?_); (first | assumption | (apply Ne.symm; assumption)))); (first | with_reducible exact Mem.own_set_same _ _ _ | with_reducible assumption | exact Mem.own_set_same _ _ _))) rfl rfl ?_ | refine ARun.store rfl rfl ty_size_23 ((by (repeat first | ((with_reducible refine (Mem.own_set_other _ _ ?_).trans ?_); (first | assumption | (apply Ne.symm; assumption))) | ((with_reducible refine (Mem.own_del_other _ ?_).trans ?_); (first | assumption | (apply Ne.symm; assumption)))); (first | with_reducible exact Mem.own_set_same _ _ _ | with_reducible assumption | exact Mem.own_set_same _ _ _))) ((by first | decide | (simp; done) | (simp; omega) | omega)) rfl ?_
  (try simp only [Mem.set_set, List.set_cons_zero, List.set_cons_succ, Nat.zero_add, Nat.reduceAdd])
  refine ARun.calm rfl rfl (lit_lt rfl) (Calm.assign rfl) ?_
  refine arun_nil ?_
  refine athen_n ?_
  refine AWP.sub [(0, _), (1, _), (2, _), (3, _), (4, _), (8, _), (9, _), (10, _), (11, _), (12, _), (13, _), (14, _), (15, _), (16, _), (17, _), (18, _), (19, _), (20, _)] ⟨rfl, rfl, rfl, rfl, rfl, rfl, rfl, rfl, rfl, rfl, rfl, rfl, rfl, rfl, rfl, rfl, rfl, rfl, trivial⟩ ?_
  refine AWP.seq ?_
  refine AWP.region ?_
  refine ARun.calm rfl rfl (lit_lt rfl) (Calm.loadA ty_agg_23 (cs := [_, _]) ty_size_23 rfl ((by first | with_reducible assumption | ((repeat (apply rds_cons; ((repeat ((with_reducible refine (rd_set_ne _ _ ?_).trans ?_); (first | assumption | (apply Ne.symm; assumption)))); (first | ((with_reducible refine (rd_set_same _ _ _ _).trans ?_); rfl) | ((with_reducible apply rd_own'); (with_reducible assumption); rfl) | with_reducible assumption)))); exact rds_nil _ _)))) ?_
  refine ARun.call (lit_lt rfl) go_28 rfl (bitsV_Ones s N _ hs) ?_
  rintro _ _ ⟨rfl, rfl⟩
  rw [q4]
  refine ARun.calm rfl rfl (lit_lt rfl) (Calm.move rfl) ?_
  refine ARun.calm rfl rfl (lit_lt rfl) (Calm.extract rfl rfl) ?_
  refine ARun.calm rfl rfl (lit_lt rfl) (Calm.extract rfl rfl) ?_
  refine ARun.calm rfl rfl (lit_lt rfl) (Calm.assign rfl) ?_
  refine ARun.calm rfl rfl (lit_lt rfl) (Calm.assign rfl) ?_
  refine arun_nil ?_
  refine athen_n ?_
  refine AWP.sub [(0, _), (1, _), (2, _), (3, _), (4, _), (8, _), (9, _), (10, _), (11, _), (12, _), (13, _), (14, _), (15, _), (16, _), (17, _), (18, _), (19, _), (20, _), (21, _), (22, _)] ⟨rfl, rfl, rfl, rfl, rfl, rfl, rfl, rfl, rfl, rfl, rfl, rfl, rfl, rfl, rfl, rfl, rfl, rfl, rfl, rfl, trivial⟩ ?_
  refine AWP.seq ?_
  refine AWP.region ?_
  refine ARun.calm rfl rfl (lit_lt rfl) (Calm.loadA ty_agg_23 (cs := [_, _]) ty_size_23 rfl ((by first | with_reducible assumption | ((repeat (apply rds_cons; ((repeat ((with_reducible refine (rd_set_ne _ _ ?_).trans ?_); (first | assumption | (apply Ne.symm; assumption)))); (first | ((with_reducible refine (rd_set_same _ _ _ _).trans ?_); rfl) | ((with_reducible apply rd_own'); (with_reducible assumption); rfl) | with_reducible assumption)))); exact rds_nil _ _)))) ?_
  refine ARun.call (lit_lt rfl) go_29 rfl (refV_Ones s N _ hs) ?_
  rintro _ _ ⟨rfl, rfl⟩
  rw [q4]
  refine ARun.calm rfl rfl (lit_lt rfl) (Calm.move rfl) ?_
  refine ARun.calm rfl rfl (lit_lt rfl) (Calm.extract rfl rfl) ?_
  refine ARun.calm rfl rfl (lit_lt rfl) (Calm.extract rfl rfl) ?_
  refine ARun.calm rfl rfl (lit_lt rfl) (Calm.assign rfl) ?_
  refine ARun.calm rfl rfl (lit_lt rfl) (Calm.assign rfl) ?_
  refine arun_nil ?_
  refine athen_n ?_
  refine AWP.sub [(0, _), (1, _), (2, _), (3, _), (4, _), (8, _), (9, _), (10, _), (11, _), (12, _), (13, _), (14, _), (15, _), (16, _), (17, _), (18, _), (19, _), (20, _), (21, _), (22, _), (23, _), (24, _)] ⟨rfl, rfl, rfl, rfl, rfl, rfl, rfl, rfl, rfl, rfl, rfl, rfl, rfl, rfl, rfl, rfl, rfl, rfl, rfl, rfl, rfl, rfl, trivial⟩ ?_
  refine AWP.seq ?_
  refine AWP.region ?_
  refine ARun.call (lit_lt rfl) go_30 rfl (law_cuts _) ?_
  rintro _ _ ⟨rfl, rfl⟩
  refine ARun.calm rfl rfl (lit_lt rfl) (Calm.move rfl) ?_
  first | refine ARun.skipG 1 true _ 74 rfl rfl (lit_lt rfl) rfl rfl rfl (lit_lt rfl) ?_ | refine ARun.skipU 1 true 74 rfl rfl (lit_lt rfl) rfl rfl (lit_lt rfl) ?_ | refine ARun.calmG 1 true 74 rfl rfl (lit_lt rfl) rfl rfl (lit_lt rfl) (Calm.loadA ty_agg_23 (cs := [_, _]) ty_size_23 rfl ((by first | with_reducible assumption | ((repeat (apply rds_cons; ((repeat ((with_reducible refine (rd_set_ne _ _ ?_).trans ?_); (first | assumption | (apply Ne.symm; assumption)))); (first | ((with_reducible refine (rd_set_same _ _ _ _).trans ?_); rfl) | ((with_reducible apply rd_own'); (with_reducible assumption); rfl) | with_reducible assumption)))); exact rds_nil _ _)))) ?_
  first | refine ARun.skipG 1 true _ 74 rfl rfl (lit_lt rfl) rfl rfl rfl (lit_lt rfl) ?_ | refine ARun.skipU 1 true 74 rfl rfl (lit_lt rfl) rfl rfl (lit_lt rfl) ?_ | refine ARun.calmG 1 true 74 rfl rfl (lit_lt rfl) rfl rfl (lit_lt rfl) (Calm.loadA ty_agg_23 (cs := [_, _]) ty_size_23 rfl ((by first | with_reducible assumption | ((repeat (apply rds_cons; ((repeat ((with_reducible refine (rd_set_ne _ _ ?_).trans ?_); (first | assumption | (apply Ne.symm; assumption)))); (first | ((with_reducible refine (rd_set_same _ _ _ _).trans ?_); rfl) | ((with_reducible apply rd_own'); (with_reducible assumption); rfl) | with_reducible assumption)))); exact rds_nil _ _)))) ?_
  first | refine ARun.skipG 1 true _ 74 rfl rfl (lit_lt rfl) rfl rfl rfl (lit_lt rfl) ?_ | refine ARun.skipU 1 true 74 rfl rfl (lit_lt rfl) rfl rfl (lit_lt rfl) ?_ | refine ARun.calmG 1 true 74 rfl rfl (lit_lt rfl) rfl rfl (lit_lt rfl) (Calm.bin rfl rfl (bin_bool (bin_eql_Bitstr _ _ _ _) (decide_eq_true ⟨rfl, rfl⟩))) ?_
  refine ARun.calm rfl rfl (lit_lt rfl) ((by first | exact Calm.pickT rfl rfl | exact Calm.pickF rfl rfl)) ?_
  refine ARun.calm rfl rfl (lit_lt rfl) (Calm.move rfl) ?_
  first | refine ARun.skipG 6 true _ 79 rfl rfl (lit_lt rfl) rfl rfl rfl (lit_lt rfl) ?_ | refine ARun.skipU 6 true 79 rfl rfl (lit_lt rfl) rfl rfl (lit_lt rfl) ?_ | refine ARun.calmG 6 true 79 rfl rfl (lit_lt rfl) rfl rfl (lit_lt rfl) (Calm.move rfl) ?_
  first | refine ARun.skipG 6 true _ 79 rfl rfl (lit_lt rfl) rfl rfl rfl (lit_lt rfl) ?_ | refine ARun.skipU 6 true 79 rfl rfl (lit_lt rfl) rfl rfl (lit_lt rfl) ?_ | refine ARun.calmG 6 true 79 rfl rfl (lit_lt rfl) rfl rfl (lit_lt rfl) (Calm.move rfl) ?_
  first | refine ARun.skipG 6 true _ 79 rfl rfl (lit_lt rfl) rfl rfl rfl (lit_lt rfl) ?_ | refine ARun.skipU 6 true 79 rfl rfl (lit_lt rfl) rfl rfl (lit_lt rfl) ?_ | refine ARun.calmG 6 true 79 rfl rfl (lit_lt rfl) rfl rfl (lit_lt rfl) (Calm.bin rfl rfl (by first | exact bin_bool (bin_eql _ _) (decide_eq_true (by omega)) | exact bin_bool (bin_eql _ _) (decide_eq_false (by omega)) | exact bin_eql _ _)) ?_
  refine ARun.calm rfl rfl (lit_lt rfl) ((by first | exact Calm.pickT rfl rfl | exact Calm.pickF rfl rfl)) ?_
  refine ARun.calm rfl rfl (lit_lt rfl) (Calm.move rfl) ?_
  first | refine ARun.skipG 11 true _ 84 rfl rfl (lit_lt rfl) rfl rfl rfl (lit_lt rfl) ?_ | refine ARun.skipU 11 true 84 rfl rfl (lit_lt rfl) rfl rfl (lit_lt rfl) ?_ | refine ARun.calmG 11 true 84 rfl rfl (lit_lt rfl) rfl rfl (lit_lt rfl) (Calm.loadA ty_agg_23 (cs := [_, _]) ty_size_23 rfl ((by first | with_reducible assumption | ((repeat (apply rds_cons; ((repeat ((with_reducible refine (rd_set_ne _ _ ?_).trans ?_); (first | assumption | (apply Ne.symm; assumption)))); (first | ((with_reducible refine (rd_set_same _ _ _ _).trans ?_); rfl) | ((with_reducible apply rd_own'); (with_reducible assumption); rfl) | with_reducible assumption)))); exact rds_nil _ _)))) ?_
  first | refine ARun.skipG 11 true _ 84 rfl rfl (lit_lt rfl) rfl rfl rfl (lit_lt rfl) ?_ | refine ARun.skipU 11 true 84 rfl rfl (lit_lt rfl) rfl rfl (lit_lt rfl) ?_ | refine ARun.calmG 11 true 84 rfl rfl (lit_lt rfl) rfl rfl (lit_lt rfl) (Calm.loadA ty_agg_23 (cs := [_, _]) ty_size_23 rfl ((by first | with_reducible assumption | ((repeat (apply rds_cons; ((repeat ((with_reducible refine (rd_set_ne _ _ ?_).trans ?_); (first | assumption | (apply Ne.symm; assumption)))); (first | ((with_reducible refine (rd_set_same _ _ _ _).trans ?_); rfl) | ((with_reducible apply rd_own'); (with_reducible assumption); rfl) | with_reducible assumption)))); exact rds_nil _ _)))) ?_
  first | refine ARun.skipG 11 true _ 84 rfl rfl (lit_lt rfl) rfl rfl rfl (lit_lt rfl) ?_ | refine ARun.skipU 11 true 84 rfl rfl (lit_lt rfl) rfl rfl (lit_lt rfl) ?_ | refine ARun.calmG 11 true 84 rfl rfl (lit_lt rfl) rfl rfl (lit_lt rfl) (Calm.bin rfl rfl (bin_bool (bin_eql_Bitstr _ _ _ _) (decide_eq_true ⟨rfl, rfl⟩))) ?_
  refine ARun.calm rfl rfl (lit_lt rfl) ((by first | exact Calm.pickT rfl rfl | exact Calm.pickF rfl rfl)) ?_
  refine ARun.calm rfl rfl (lit_lt rfl) (Calm.move rfl) ?_
  first | refine ARun.skipG 16 true _ 89 rfl rfl (lit_lt rfl) rfl rfl rfl (lit_lt rfl) ?_ | refine ARun.skipU 16 true 89 rfl rfl (lit_lt rfl) rfl rfl (lit_lt rfl) ?_ | refine ARun.calmG 16 true 89 rfl rfl (lit_lt rfl) rfl rfl (lit_lt rfl) (Calm.move rfl) ?_
  first | refine ARun.skipG 16 true _ 89 rfl rfl (lit_lt rfl) rfl rfl rfl (lit_lt rfl) ?_ | refine ARun.skipU 16 true 89 rfl rfl (lit_lt rfl) rfl rfl (lit_lt rfl) ?_ | refine ARun.calmG 16 true 89 rfl rfl (lit_lt rfl) rfl rfl (lit_lt rfl) (Calm.move rfl) ?_
  first | refine ARun.skipG 16 true _ 89 rfl rfl (lit_lt rfl) rfl rfl rfl (lit_lt rfl) ?_ | refine ARun.skipU 16 true 89 rfl rfl (lit_lt rfl) rfl rfl (lit_lt rfl) ?_ | refine ARun.calmG 16 true 89 rfl rfl (lit_lt rfl) rfl rfl (lit_lt rfl) (Calm.bin rfl rfl (by first | exact bin_bool (bin_eql _ _) (decide_eq_true (by omega)) | exact bin_bool (bin_eql _ _) (decide_eq_false (by omega)) | exact bin_eql _ _)) ?_
  refine ARun.calm rfl rfl (lit_lt rfl) ((by first | exact Calm.pickT rfl rfl | exact Calm.pickF rfl rfl)) ?_
  refine ARun.calm rfl rfl (lit_lt rfl) (Calm.move rfl) ?_
  first | refine ARun.skipG 21 true _ 94 rfl rfl (lit_lt rfl) rfl rfl rfl (lit_lt rfl) ?_ | refine ARun.skipU 21 true 94 rfl rfl (lit_lt rfl) rfl rfl (lit_lt rfl) ?_ | refine ARun.calmG 21 true 94 rfl rfl (lit_lt rfl) rfl rfl (lit_lt rfl) (Calm.loadA ty_agg_23 (cs := [_, _]) ty_size_23 rfl ((by first | with_reducible assumption | ((repeat (apply rds_cons; ((repeat ((with_reducible refine (rd_set_ne _ _ ?_).trans ?_); (first | assumption | (apply Ne.symm; assumption)))); (first | ((with_reducible refine (rd_set_same _ _ _ _).trans ?_); rfl) | ((with_reducible apply rd_own'); (with_reducible assumption); rfl) | with_reducible assumption)))); exact rds_nil _ _)))) ?_
  first | refine ARun.skipG 21 true _ 94 rfl rfl (lit_lt rfl) rfl rfl rfl (lit_lt rfl) ?_ | refine ARun.skipU 21 true 94 rfl rfl (lit_lt rfl) rfl rfl (lit_lt rfl) ?_ | refine ARun.calmG 21 true 94 rfl rfl (lit_lt rfl) rfl rfl (lit_lt rfl) (Calm.loadA ty_agg_23 (cs := [_, _]) ty_size_23 rfl ((by first | with_reducible assumption | ((repeat (apply rds_cons; ((repeat ((with_reducible refine (rd_set_ne _ _ ?_).trans ?_); (first | assumption | (apply Ne.symm; assumption)))); (first | ((with_reducible refine (rd_set_same _ _ _ _).trans ?_); rfl) | ((with_reducible apply rd_own'); (with_reducible assumption); rfl) | with_reducible assumption)))); exact rds_nil _ _)))) ?_
  first | refine ARun.skipG 21 true _ 94 rfl rfl (lit_lt rfl) rfl rfl rfl (lit_lt rfl) ?_ | refine ARun.skipU 21 true 94 rfl rfl (lit_lt rfl) rfl rfl (lit_lt rfl) ?_ | refine ARun.calmG 21 true 94 rfl rfl (lit_lt rfl) rfl rfl (lit_lt rfl) (Calm.bin rfl rfl (bin_bool (bin_eql_Bitstr _ _ _ _) (decide_eq_true ⟨rfl, rfl⟩))) ?_
  refine ARun.calm rfl rfl (lit_lt rfl) ((by first | exact Calm.pickT rfl rfl | exact Calm.pickF rfl rfl)) ?_
  refine ARun.calm rfl rfl (lit_lt rfl) (Calm.move rfl) ?_
  first | refine ARun.skipG 26 true _ 99 rfl rfl (lit_lt rfl) rfl rfl rfl (lit_lt rfl) ?_ | refine ARun.skipU 26 true 99 rfl rfl (lit_lt rfl) rfl rfl (lit_lt rfl) ?_ | refine ARun.calmG 26 true 99 rfl rfl (lit_lt rfl) rfl rfl (lit_lt rfl) (Calm.move rfl) ?_
  first | refine ARun.skipG 26 true _ 99 rfl rfl (lit_lt rfl) rfl rfl rfl (lit_lt rfl) ?_ | refine ARun.skipU 26 true 99 rfl rfl (lit_lt rfl) rfl rfl (lit_lt rfl) ?_ | refine ARun.calmG 26 true 99 rfl rfl (lit_lt rfl) rfl rfl (lit_lt rfl) (Calm.move rfl) ?_
  first | refine ARun.skipG 26 true _ 99 rfl rfl (lit_lt rfl) rfl rfl rfl (lit_lt rfl) ?_ | refine ARun.skipU 26 true 99 rfl rfl (lit_lt rfl) rfl rfl (lit_lt rfl) ?_ | refine ARun.calmG 26 true 99 rfl rfl (lit_lt rfl) rfl rfl (lit_lt rfl) (Calm.bin rfl rfl (by first | exact bin_bool (bin_eql _ _) (decide_eq_true (by omega)) | exact bin_bool (bin_eql _ _) (decide_eq_false (by omega)) | exact bin_eql _ _)) ?_
  refine ARun.calm rfl rfl (lit_lt rfl) ((by first | exact Calm.pickT rfl rfl | exact Calm.pickF rfl rfl)) ?_
  refine ARun.calm rfl rfl (lit_lt rfl) (Calm.move rfl) ?_
  first | refine ARun.skipG 31 true _ 104 rfl rfl (lit_lt rfl) rfl rfl rfl (lit_lt rfl) ?_ | refine ARun.skipU 31 true 104 rfl rfl (lit_lt rfl) rfl rfl (lit_lt rfl) ?_ | refine ARun.calmG 31 true 104 rfl rfl (lit_lt rfl) rfl rfl (lit_lt rfl) (Calm.move rfl) ?_
  first | refine ARun.skipG 31 true _ 104 rfl rfl (lit_lt rfl) rfl rfl rfl (lit_lt rfl) ?_ | refine ARun.skipU 31 true 104 rfl rfl (lit_lt rfl) rfl rfl (lit_lt rfl) ?_ | refine ARun.calmG 31 true 104 rfl rfl (lit_lt rfl) rfl rfl (lit_lt rfl) (Calm.move rfl) ?_
  first | refine ARun.skipG 31 true _ 104 rfl rfl (lit_lt rfl) rfl rfl rfl (lit_lt rfl) ?_ | refine ARun.skipU 31 true 104 rfl rfl (lit_lt rfl) rfl rfl (lit_lt rfl) ?_ | refine ARun.calmG 31 true 104 rfl rfl (lit_lt rfl) rfl rfl (lit_lt rfl) (Calm.bin rfl rfl (by first | exact bin_bool (bin_eql _ _) (decide_eq_true (by omega)) | exact bin_bool (bin_eql _ _) (decide_eq_false (by omega)) | exact bin_eql _ _)) ?_
  refine ARun.calm rfl rfl (lit_lt rfl) ((by first | exact Calm.pickT rfl rfl | exact Calm.pickF rfl rfl)) ?_
  refine ARun.calm rfl rfl (lit_lt rfl) (Calm.move rfl) ?_
  first | refine ARun.skipG 36 true _ 109 rfl rfl (lit_lt rfl) rfl rfl rfl (lit_lt rfl) ?_ | refine ARun.skipU 36 true 109 rfl rfl (lit_lt rfl) rfl rfl (lit_lt rfl) ?_ | refine ARun.calmG 36 true 109 rfl rfl (lit_lt rfl) rfl rfl (lit_lt rfl) (Calm.move rfl) ?_
  first | refine ARun.skipG 36 true _ 109 rfl rfl (lit_lt rfl) rfl rfl rfl (lit_lt rfl) ?_ | refine ARun.skipU 36 true 109 rfl rfl (lit_lt rfl) rfl rfl (lit_lt rfl) ?_ | refine ARun.calmG 36 true 109 rfl rfl (lit_lt rfl) rfl rfl (lit_lt rfl) (Calm.move rfl) ?_
  first | refine ARun.skipG 36 true _ 109 rfl rfl (lit_lt rfl) rfl rfl rfl (lit_lt rfl) ?_ | refine ARun.skipU 36 true 109 rfl rfl (lit_lt rfl) rfl rfl (lit_lt rfl) ?_ | refine ARun.calmG 36 true 109 rfl rfl (lit_lt rfl) rfl rfl (lit_lt rfl) (Calm.bin rfl rfl (by first | exact bin_bool (bin_eql _ _) (decide_eq_true (by omega)) | exact bin_bool (bin_eql _ _) (decide_eq_false (by omega)) | exact bin_eql _ _)) ?_
  refine ARun.calm rfl rfl (lit_lt rfl) ((by first | exact Calm.pickT rfl rfl | exact Calm.pickF rfl rfl)) ?_
  refine ARun.calm rfl rfl (lit_lt rfl) (Calm.assign rfl) ?_
  refine arun_nil ?_
  refine athen_n ?_
  refine AWP.sub [(0, _), (1, _), (2, _), (3, _), (4, _), (8, _), (9, _), (10, _), (11, _), (12, _), (13, _), (14, _), (15, _), (16, _), (17, _), (18, _), (19, _), (20, _), (21, _), (22, _), (23, _), (24, _)] ⟨rfl, rfl, rfl, rfl, rfl, rfl, rfl, rfl, rfl, rfl, rfl, rfl, rfl, rfl, rfl, rfl, rfl, rfl, rfl, rfl, rfl, rfl, trivial⟩ ?_
  refine AWP.ret ?_
  refine ⟨_, _, ⟨_, _, rfl, rfl, rfl⟩, (by first | with_reducible exact Mem.Less.refl _ | ((with_reducible refine Mem.less_set _ _ _ (Fresh.own ?_)); with_reducible assumption) | (refine less_of ?_; (repeat first | with_reducible exact LessB.refl _ _ | ((with_reducible refine LessB.set ?_ ?_); ((repeat first | ((with_reducible refine (Mem.own_set_other _ _ ?_).trans ?_); (first | assumption | (apply Ne.symm; assumption))) | ((with_reducible refine (Mem.own_del_other _ ?_).trans ?_); (first | assumption | (apply Ne.symm; assumption)))); (first | with_reducible exact Mem.own_set_same _ _ _ | with_reducible assumption | exact Mem.own_set_same _ _ _))) | (with_reducible refine LessB.delL ?_)); (repeat first | with_reducible exact LessB.refl _ _ | ((with_reducible refine LessB.of ?_); with_reducible assumption) | ((with_reducible refine LessB.skip ?_ ?_); (first | ((refine .inl ?_); simp; done) | ((refine .inr (Fresh.own ?_)); with_reducible assumption) | ((refine .inr ?_); with_reducible assumption))) | ((with_reducible refine LessB.skipDel ?_ ?_); (first | ((refine .inl ?_); simp; done) | ((refine .inr (Fresh.own ?_)); with_reducible assumption) | ((refine .inr ?_); with_reducible assumption)))))), ?_⟩
  rfl
end Go.Proofs.Ytpeljbmbgjeomaa
