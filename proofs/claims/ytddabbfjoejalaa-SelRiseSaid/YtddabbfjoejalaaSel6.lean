/-
  Sel: rows that are held against each other.
-/
import Derived.Test.YtddabbfjoejalaaSel5
namespace Go.Proofs.Ytddabbfjoejalaa
open Go.RowKit
open Mv Bits Sel
set_option linter.unusedVariables false
set_option linter.unusedSimpArgs false
set_option maxRecDepth 20000
theorem eql_bv (a b : ByteArray) (n m : Int) (w : World) : (binOp .eql 47 (.agg #[.string a, .int .i64 n]) (.agg #[.string b, .int .i64 m])).run Try.prog w = .ok (.bool (decide (a = b ∧ n = m))) w := by
  have e : (decide (a = b ∧ n = m)) = ((a.toList == b.toList) && (n == m)) := by
    rw [Bool.eq_iff_iff]; simp [str_inj]
  rw [e]
  go_simp
  cases h : (a.toList == b.toList) <;> cases h2 : (n == m) <;> simp_all
theorem bin_eql_Bitstr {x y : Operand} (a b : ByteArray) (n m : Int) : Bin Try.prog .eql 47 x y (.agg #[.string a, .int .i64 n]) (.agg #[.string b, .int .i64 m]) (.bool (decide (a = b ∧ n = m))) := fun w => by
  rw [Sem.run_bind, run_eqGuard_agg w .eql 47 x y _ _ (by kernel_rfl)]
  exact eql_bv a b n m w
theorem rselV_Same (s1 s2 : ByteArray) (N1 N2 : Int) (h1 h2 : Value) (c1 c2 : List Int) (S : Mem) (hv1 : Sl 1 i64s S h1 c1) (hv2 : Sl 1 i64s S h2 c2) :
    ACall Try.prog 34 #[.agg #[.string s1, .int .i64 N1, h1], .agg #[.string s2, .int .i64 N2, h2]] S fun r S' => r = .bool (decide (s1 = s2 ∧ N1 = N2) && decide (c1 = c2)) ∧ S' = S := by
  obtain ⟨p1, d1, rfl, _⟩ := id hv1
  obtain ⟨p2, d2, rfl, _⟩ := id hv2
  by_cases he : s1 = s2 ∧ N1 = N2
  · rw [decide_eq_true he]
    refine ACall.enter (args := [.agg #[.string s1, .int .i64 N1, .slice p1 c1.length d1], .agg #[.string s2, .int .i64 N2, .slice p2 c2.length d2]]) (rs := [.tmp 4]) 17 [(0, .agg #[.string s1, .int .i64 N1, .slice p1 c1.length d1]), (1, .agg #[.string s2, .int .i64 N2, .slice p2 c2.length d2])] Try.func34 rfl rfl (Nat.le_of_ble_eq_true rfl) rfl ⟨rfl, rfl, trivial⟩ ?_
    refine AWP.seq ?_
    refine AWP.region ?_
    refine ARun.boxA (cs := [_, _, _]) (lit_lt rfl) rfl ?_
    intro b2 f2
    have g2 := f2
    repeat ((with_reducible replace g2 := fresh_set g2); obtain ⟨g2, _⟩ := g2)
    (try simp only [List.length_cons, List.length_nil, Nat.zero_add, Nat.reduceAdd])
    refine ARun.boxA (cs := [_, _, _]) (lit_lt rfl) rfl ?_
    intro b3 f3
    have g3 := f3
    repeat ((with_reducible replace g3 := fresh_set g3); obtain ⟨g3, _⟩ := g3)
    (try simp only [List.length_cons, List.length_nil, Nat.zero_add, Nat.reduceAdd])
    refine rC (Calm.assign rfl) ?_
    refine arun_nil ?_
    refine athen_n ?_
    refine AWP.seq ?_
    refine AWP.region ?_
    refine rC (Calm.fieldAddr ty_field_49_0 rfl) ?_
    refine rC (ldA_ (cs := [_, _]) ty_agg_47 ty_size_47 rfl) ?_
    refine rC (Calm.fieldAddr ty_field_49_0 rfl) ?_
    refine rC (ldA_ (cs := [_, _]) ty_agg_47 ty_size_47 rfl) ?_
    refine rC (Calm.bin rfl rfl (bin_bool (bin_eql_Bitstr _ _ _ _) (decide_eq_true he))) ?_
    refine rC (Calm.move rfl) ?_
    first | refine rS 10 ?_ | refine rU 10 ?_ | refine rG 10 (Calm.fieldAddr ty_field_49_1 rfl) ?_
    first | refine rS 10 ?_ | refine rU 10 ?_ | refine rG 10 (ld_ ty_plain_23 rfl) ?_
    first | refine rS 10 ?_ | refine rU 10 ?_ | refine rG 10 (Calm.fieldAddr ty_field_49_1 rfl) ?_
    first | refine rS 10 ?_ | refine rU 10 ?_ | refine rG 10 (ld_ ty_plain_23 rfl) ?_
    refine ARun.callG 5 true 10 rfl (lit_lt rfl) rfl (lit_lt rfl) go_25 rfl (rlosV_SameNumbers c1 c2 _ _ _ (hv1.less less_) (hv2.less less_)) ?_
    rintro _ S1 ⟨rfl, h1⟩
    rw [h1]; clear h1 S1
    refine rC ((by first | exact Calm.pickT rfl rfl | exact Calm.pickF rfl rfl)) ?_
    refine rC (Calm.assign rfl) ?_
    refine arun_nil ?_
    refine athen_n ?_
    refine AWP.sub [(0, _), (1, _), (2, _), (3, _), (4, _)] ⟨rfl, rfl, rfl, rfl, rfl, trivial⟩ ?_
    refine AWP.ret ?_
    refine ⟨_, S, ⟨_, _, rfl, rfl, rfl⟩, less_, ?_⟩
    exact ⟨by rw [Bool.true_and]; rfl, rfl⟩
  · rw [decide_eq_false he]
    refine ACall.enter (args := [.agg #[.string s1, .int .i64 N1, .slice p1 c1.length d1], .agg #[.string s2, .int .i64 N2, .slice p2 c2.length d2]]) (rs := [.tmp 4]) 17 [(0, .agg #[.string s1, .int .i64 N1, .slice p1 c1.length d1]), (1, .agg #[.string s2, .int .i64 N2, .slice p2 c2.length d2])] Try.func34 rfl rfl (Nat.le_of_ble_eq_true rfl) rfl ⟨rfl, rfl, trivial⟩ ?_
    refine AWP.seq ?_
    refine AWP.region ?_
    refine ARun.boxA (cs := [_, _, _]) (lit_lt rfl) rfl ?_
    intro b2 f2
    have g2 := f2
    repeat ((with_reducible replace g2 := fresh_set g2); obtain ⟨g2, _⟩ := g2)
    (try simp only [List.length_cons, List.length_nil, Nat.zero_add, Nat.reduceAdd])
    refine ARun.boxA (cs := [_, _, _]) (lit_lt rfl) rfl ?_
    intro b3 f3
    have g3 := f3
    repeat ((with_reducible replace g3 := fresh_set g3); obtain ⟨g3, _⟩ := g3)
    (try simp only [List.length_cons, List.length_nil, Nat.zero_add, Nat.reduceAdd])
    refine rC (Calm.assign rfl) ?_
    refine arun_nil ?_
    refine athen_n ?_
    refine AWP.seq ?_
    refine AWP.region ?_
    refine rC (Calm.fieldAddr ty_field_49_0 rfl) ?_
    refine rC (ldA_ (cs := [_, _]) ty_agg_47 ty_size_47 rfl) ?_
    refine rC (Calm.fieldAddr ty_field_49_0 rfl) ?_
    refine rC (ldA_ (cs := [_, _]) ty_agg_47 ty_size_47 rfl) ?_
    refine rC (Calm.bin rfl rfl (bin_bool (bin_eql_Bitstr _ _ _ _) (decide_eq_false he))) ?_
    refine rC (Calm.move rfl) ?_
    first | refine rS 10 ?_ | refine rU 10 ?_ | refine rG 10 (Calm.fieldAddr ty_field_49_1 rfl) ?_
    first | refine rS 10 ?_ | refine rU 10 ?_ | refine rG 10 (ld_ ty_plain_23 rfl) ?_
    first | refine rS 10 ?_ | refine rU 10 ?_ | refine rG 10 (Calm.fieldAddr ty_field_49_1 rfl) ?_
    first | refine rS 10 ?_ | refine rU 10 ?_ | refine rG 10 (ld_ ty_plain_23 rfl) ?_
    first | refine rS 10 ?_ | refine rU 10 ?_
    refine rC ((by first | exact Calm.pickT rfl rfl | exact Calm.pickF rfl rfl)) ?_
    refine rC (Calm.assign rfl) ?_
    refine arun_nil ?_
    refine athen_n ?_
    refine AWP.sub [(0, _), (1, _), (2, _), (3, _), (4, _)] ⟨rfl, rfl, rfl, rfl, rfl, trivial⟩ ?_
    refine AWP.ret ?_
    refine ⟨_, S, ⟨_, _, rfl, rfl, rfl⟩, less_, ?_⟩
    exact ⟨by rw [Bool.false_and]; rfl, rfl⟩
end Go.Proofs.Ytddabbfjoejalaa
