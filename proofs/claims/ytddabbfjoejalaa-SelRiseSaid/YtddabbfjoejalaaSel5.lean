/-
  Sel: Rank, Select, Next by the document.
-/
import Derived.Test.YtddabbfjoejalaaSel4
namespace Go.Proofs.Ytddabbfjoejalaa
open Go.RowKit
open Mv Bits Sel
set_option linter.unusedVariables false
set_option linter.unusedSimpArgs false
set_option maxRecDepth 20000
set_option maxHeartbeats 1000000 in
theorem rselV_Rank (s : ByteArray) (N i : Int) (hc : Value) (cs : List Int) (S : Mem) (hs : s.size ≤ 281474976710656) (hv : Sl 1 i64s S hc cs) :
    ACall Try.prog 38 #[.agg #[.string s, .int .i64 N, hc], .int .i64 i] S fun r S' => r = two2 (rankP s N cs i) ∧ S' = S := by
  obtain ⟨pc, cc, rfl, _⟩ := id hv
  unfold rankP two2
  rcases chkR_or s N cs with ⟨hk, hk1, hcs⟩ | hk
  · rw [if_neg (fun h => h hk)]
    by_cases h1 : i < 0
    · rw [if_pos (.inl h1)]
      refine ACall.enter (args := [.agg #[.string s, .int .i64 N, .slice pc cs.length cc], .int .i64 i]) (rs := [.tmp 4, .tmp 5]) 22 [(0, .agg #[.string s, .int .i64 N, .slice pc cs.length cc]), (1, .int .i64 i)] Try.func38 rfl rfl (Nat.le_of_ble_eq_true rfl) rfl ⟨rfl, rfl, trivial⟩ ?_
      refine AWP.seq ?_
      refine AWP.region ?_
      refine ARun.boxA (cs := [_, _, _]) (lit_lt rfl) rfl ?_
      intro b2 f2
      have g2 := f2
      repeat ((with_reducible replace g2 := fresh_set g2); obtain ⟨g2, _⟩ := g2)
      (try simp only [List.length_cons, List.length_nil, Nat.zero_add, Nat.reduceAdd])
      refine rC (Calm.assign rfl) ?_
      refine rC (Calm.assign rfl) ?_
      refine arun_nil ?_
      refine athen_n ?_
      refine AWP.seq ?_
      refine AWP.seq ?_
      refine AWP.region ?_
      refine rC (ldA_ (cs := [_, _, _]) ty_agg_49 ty_size_49 rfl) ?_
      refine ARun.call (lit_lt rfl) go_36 rfl (rselV_Check s N _ cs _ hs (hv.less less_)) ?_
      rintro _ S1 ⟨rfl, h1⟩
      rw [h1, hk]; clear h1 S1
      refine rC (Calm.bin rfl rfl b_neq) ?_
      refine arun_nil ?_
      refine athen_n ?_
      refine AWP.sub [(0, _), (1, _), (2, _), (4, _), (5, _), (8, _)] ⟨rfl, rfl, rfl, rfl, rfl, rfl, trivial⟩ ?_
      refine AWP.condF rfl (by first | rfl | (simp; done) | (simp; omega)) ?_
      refine AWP.skip ?_
      refine athen_n ?_
      refine AWP.seq ?_
      refine AWP.seq ?_
      refine AWP.region ?_
      refine rC (Calm.move rfl) ?_
      refine rC (Calm.bin rfl rfl b_lss) ?_
      refine rC (Calm.move rfl) ?_
      first | refine rS 11 ?_ | refine rU 11 ?_ | refine rG 11 (Calm.move rfl) ?_
      first | refine rS 11 ?_ | refine rU 11 ?_ | refine rG 11 (Calm.fieldAddr ty_field_49_0 rfl) ?_
      first | refine rS 11 ?_ | refine rU 11 ?_ | refine rG 11 (Calm.fieldAddr ty_field_47_1 rfl) ?_
      first | refine rS 11 ?_ | refine rU 11 ?_ | refine rG 11 (ld_ ty_plain_3 rfl) ?_
      first | refine rS 11 ?_ | refine rU 11 ?_ | refine rG 11 (Calm.bin rfl rfl b_gtr) ?_
      refine rC ((by first | exact Calm.pickT rfl rfl | exact Calm.pickF rfl rfl)) ?_
      refine arun_nil ?_
      refine athen_n ?_
      refine AWP.sub [(0, _), (1, _), (2, _), (4, _), (5, _), (8, _), (17, _)] ⟨rfl, rfl, rfl, rfl, rfl, rfl, rfl, trivial⟩ ?_
      refine AWP.condT rfl (by first | rfl | (simp; done) | (simp; omega)) ?_
      refine AWP.seq ?_
      refine AWP.region ?_
      refine rC (Calm.assign rfl) ?_
      refine rC (Calm.assign rfl) ?_
      refine arun_nil ?_
      refine athen_n ?_
      refine AWP.ret ?_
      refine athen_ret ?_
      refine ⟨_, S, ⟨_, _, rfl, ⟨_, _, rfl, rfl, rfl⟩, rfl⟩, less_, ?_⟩
      exact ⟨rfl, rfl⟩
    · by_cases h2 : N < i
      · rw [if_pos (.inr h2)]
        refine ACall.enter (args := [.agg #[.string s, .int .i64 N, .slice pc cs.length cc], .int .i64 i]) (rs := [.tmp 4, .tmp 5]) 22 [(0, .agg #[.string s, .int .i64 N, .slice pc cs.length cc]), (1, .int .i64 i)] Try.func38 rfl rfl (Nat.le_of_ble_eq_true rfl) rfl ⟨rfl, rfl, trivial⟩ ?_
        refine AWP.seq ?_
        refine AWP.region ?_
        refine ARun.boxA (cs := [_, _, _]) (lit_lt rfl) rfl ?_
        intro b2 f2
        have g2 := f2
        repeat ((with_reducible replace g2 := fresh_set g2); obtain ⟨g2, _⟩ := g2)
        (try simp only [List.length_cons, List.length_nil, Nat.zero_add, Nat.reduceAdd])
        refine rC (Calm.assign rfl) ?_
        refine rC (Calm.assign rfl) ?_
        refine arun_nil ?_
        refine athen_n ?_
        refine AWP.seq ?_
        refine AWP.seq ?_
        refine AWP.region ?_
        refine rC (ldA_ (cs := [_, _, _]) ty_agg_49 ty_size_49 rfl) ?_
        refine ARun.call (lit_lt rfl) go_36 rfl (rselV_Check s N _ cs _ hs (hv.less less_)) ?_
        rintro _ S1 ⟨rfl, h1⟩
        rw [h1, hk]; clear h1 S1
        refine rC (Calm.bin rfl rfl b_neq) ?_
        refine arun_nil ?_
        refine athen_n ?_
        refine AWP.sub [(0, _), (1, _), (2, _), (4, _), (5, _), (8, _)] ⟨rfl, rfl, rfl, rfl, rfl, rfl, trivial⟩ ?_
        refine AWP.condF rfl (by first | rfl | (simp; done) | (simp; omega)) ?_
        refine AWP.skip ?_
        refine athen_n ?_
        refine AWP.seq ?_
        refine AWP.seq ?_
        refine AWP.region ?_
        refine rC (Calm.move rfl) ?_
        refine rC (Calm.bin rfl rfl b_lss) ?_
        refine rC (Calm.move rfl) ?_
        first | refine rS 11 ?_ | refine rU 11 ?_ | refine rG 11 (Calm.move rfl) ?_
        first | refine rS 11 ?_ | refine rU 11 ?_ | refine rG 11 (Calm.fieldAddr ty_field_49_0 rfl) ?_
        first | refine rS 11 ?_ | refine rU 11 ?_ | refine rG 11 (Calm.fieldAddr ty_field_47_1 rfl) ?_
        first | refine rS 11 ?_ | refine rU 11 ?_ | refine rG 11 (ld_ ty_plain_3 rfl) ?_
        first | refine rS 11 ?_ | refine rU 11 ?_ | refine rG 11 (Calm.bin rfl rfl b_gtr) ?_
        refine rC ((by first | exact Calm.pickT rfl rfl | exact Calm.pickF rfl rfl)) ?_
        refine arun_nil ?_
        refine athen_n ?_
        refine AWP.sub [(0, _), (1, _), (2, _), (4, _), (5, _), (8, _), (17, _)] ⟨rfl, rfl, rfl, rfl, rfl, rfl, rfl, trivial⟩ ?_
        refine AWP.condT rfl (by first | rfl | (simp; done) | (simp; omega)) ?_
        refine AWP.seq ?_
        refine AWP.region ?_
        refine rC (Calm.assign rfl) ?_
        refine rC (Calm.assign rfl) ?_
        refine arun_nil ?_
        refine athen_n ?_
        refine AWP.ret ?_
        refine athen_ret ?_
        refine ⟨_, S, ⟨_, _, rfl, ⟨_, _, rfl, rfl, rfl⟩, rfl⟩, less_, ?_⟩
        exact ⟨rfl, rfl⟩
      · rw [if_neg (by omega)]
        obtain ⟨n, rfl, hn1, hn2, _⟩ := chk_nat hk1
        obtain ⟨j, rfl⟩ : ∃ j : Nat, i = j := ⟨i.toNat, by omega⟩
        rw [Int.toNat_natCast]
        refine ACall.enter (args := [.agg #[.string s, .int .i64 (n : Int), .slice pc cs.length cc], .int .i64 (j : Int)]) (rs := [.tmp 4, .tmp 5]) 22 [(0, .agg #[.string s, .int .i64 (n : Int), .slice pc cs.length cc]), (1, .int .i64 (j : Int))] Try.func38 rfl rfl (Nat.le_of_ble_eq_true rfl) rfl ⟨rfl, rfl, trivial⟩ ?_
        refine AWP.seq ?_
        refine AWP.region ?_
        refine ARun.boxA (cs := [_, _, _]) (lit_lt rfl) rfl ?_
        intro b2 f2
        have g2 := f2
        repeat ((with_reducible replace g2 := fresh_set g2); obtain ⟨g2, _⟩ := g2)
        (try simp only [List.length_cons, List.length_nil, Nat.zero_add, Nat.reduceAdd])
        refine rC (Calm.assign rfl) ?_
        refine rC (Calm.assign rfl) ?_
        refine arun_nil ?_
        refine athen_n ?_
        refine AWP.seq ?_
        refine AWP.seq ?_
        refine AWP.region ?_
        refine rC (ldA_ (cs := [_, _, _]) ty_agg_49 ty_size_49 rfl) ?_
        refine ARun.call (lit_lt rfl) go_36 rfl (rselV_Check s n _ cs _ hs (hv.less less_)) ?_
        rintro _ S1 ⟨rfl, h1⟩
        rw [h1, hk]; clear h1 S1
        refine rC (Calm.bin rfl rfl b_neq) ?_
        refine arun_nil ?_
        refine athen_n ?_
        refine AWP.sub [(0, _), (1, _), (2, _), (4, _), (5, _), (8, _)] ⟨rfl, rfl, rfl, rfl, rfl, rfl, trivial⟩ ?_
        refine AWP.condF rfl (by first | rfl | (simp; done) | (simp; omega)) ?_
        refine AWP.skip ?_
        refine athen_n ?_
        refine AWP.seq ?_
        refine AWP.seq ?_
        refine AWP.region ?_
        refine rC (Calm.move rfl) ?_
        refine rC (Calm.bin rfl rfl b_lss) ?_
        refine rC (Calm.move rfl) ?_
        first | refine rS 11 ?_ | refine rU 11 ?_ | refine rG 11 (Calm.move rfl) ?_
        first | refine rS 11 ?_ | refine rU 11 ?_ | refine rG 11 (Calm.fieldAddr ty_field_49_0 rfl) ?_
        first | refine rS 11 ?_ | refine rU 11 ?_ | refine rG 11 (Calm.fieldAddr ty_field_47_1 rfl) ?_
        first | refine rS 11 ?_ | refine rU 11 ?_ | refine rG 11 (ld_ ty_plain_3 rfl) ?_
        first | refine rS 11 ?_ | refine rU 11 ?_ | refine rG 11 (Calm.bin rfl rfl b_gtr) ?_
        refine rC ((by first | exact Calm.pickT rfl rfl | exact Calm.pickF rfl rfl)) ?_
        refine arun_nil ?_
        refine athen_n ?_
        refine AWP.sub [(0, _), (1, _), (2, _), (4, _), (5, _), (8, _), (17, _)] ⟨rfl, rfl, rfl, rfl, rfl, rfl, rfl, trivial⟩ ?_
        refine AWP.condF rfl (by first | rfl | (simp; done) | (simp; omega)) ?_
        refine AWP.skip ?_
        refine athen_n ?_
        refine AWP.seq ?_
        refine AWP.region ?_
        refine rC (Calm.fieldAddr ty_field_49_0 rfl) ?_
        refine rC (ldA_ (cs := [_, _]) ty_agg_47 ty_size_47 rfl) ?_
        refine rC (Calm.move rfl) ?_
        refine ARun.call (lit_lt rfl) go_66 rfl (rselV_ahead s n j _ hs (by omega)) ?_
        rintro _ S1 ⟨rfl, h1⟩
        rw [h1]; clear h1 S1
        refine rC (Calm.assign rfl) ?_
        refine rC (Calm.assign rfl) ?_
        refine arun_nil ?_
        refine athen_n ?_
        refine AWP.sub [(0, _), (1, _), (2, _), (4, _), (5, _), (8, _), (17, _)] ⟨rfl, rfl, rfl, rfl, rfl, rfl, rfl, trivial⟩ ?_
        refine AWP.ret ?_
        refine ⟨_, S, ⟨_, _, rfl, ⟨_, _, rfl, rfl, rfl⟩, rfl⟩, less_, ?_⟩
        exact ⟨rfl, rfl⟩
  · rw [if_pos (by rw [hk]; decide)]
    refine ACall.enter (args := [.agg #[.string s, .int .i64 N, .slice pc cs.length cc], .int .i64 i]) (rs := [.tmp 4, .tmp 5]) 22 [(0, .agg #[.string s, .int .i64 N, .slice pc cs.length cc]), (1, .int .i64 i)] Try.func38 rfl rfl (Nat.le_of_ble_eq_true rfl) rfl ⟨rfl, rfl, trivial⟩ ?_
    refine AWP.seq ?_
    refine AWP.region ?_
    refine ARun.boxA (cs := [_, _, _]) (lit_lt rfl) rfl ?_
    intro b2 f2
    have g2 := f2
    repeat ((with_reducible replace g2 := fresh_set g2); obtain ⟨g2, _⟩ := g2)
    (try simp only [List.length_cons, List.length_nil, Nat.zero_add, Nat.reduceAdd])
    refine rC (Calm.assign rfl) ?_
    refine rC (Calm.assign rfl) ?_
    refine arun_nil ?_
    refine athen_n ?_
    refine AWP.seq ?_
    refine AWP.seq ?_
    refine AWP.region ?_
    refine rC (ldA_ (cs := [_, _, _]) ty_agg_49 ty_size_49 rfl) ?_
    refine ARun.call (lit_lt rfl) go_36 rfl (rselV_Check s N _ cs _ hs (hv.less less_)) ?_
    rintro _ S1 ⟨rfl, h1⟩
    rw [h1, hk]; clear h1 S1
    refine rC (Calm.bin rfl rfl b_neq) ?_
    refine arun_nil ?_
    refine athen_n ?_
    refine AWP.sub [(0, _), (1, _), (2, _), (4, _), (5, _), (8, _)] ⟨rfl, rfl, rfl, rfl, rfl, rfl, trivial⟩ ?_
    refine AWP.condT rfl (by first | rfl | (simp; done) | (simp; omega)) ?_
    refine AWP.seq ?_
    refine AWP.region ?_
    refine rC (Calm.assign rfl) ?_
    refine rC (Calm.assign rfl) ?_
    refine arun_nil ?_
    refine athen_n ?_
    refine AWP.ret ?_
    refine athen_ret ?_
    refine ⟨_, S, ⟨_, _, rfl, ⟨_, _, rfl, rfl, rfl⟩, rfl⟩, less_, ?_⟩
    exact ⟨rfl, rfl⟩
namespace Sel
def optP (o : Option Nat) : Int × Int := match o with
  | some i => ((i : Nat), 0)
  | none => (0, 3)
noncomputable def selectP (s : ByteArray) (N : Int) (cs : List Int) (n : Int) : Int × Int := if chkR s N cs ≠ 0 then (0, 2) else if n < 0 then (0, 1) else optP (nth s.data.toList N.toNat 0 n.toNat)
noncomputable def nextP (s : ByteArray) (N : Int) (cs : List Int) (i : Int) : Int × Int := if chkR s N cs ≠ 0 then (0, 2) else if i < 0 ∨ N < i then (0, 1) else optP (nth s.data.toList (N.toNat - i.toNat) i.toNat 0)
end Sel
set_option maxHeartbeats 1000000 in
theorem rselV_Select (s : ByteArray) (N i : Int) (hc : Value) (cs : List Int) (S : Mem) (hs : s.size ≤ 281474976710656) (hv : Sl 1 i64s S hc cs) (hi : i ≤ 9223372036854775807) :
    ACall Try.prog 40 #[.agg #[.string s, .int .i64 N, hc], .int .i64 i] S fun r S' => r = two2 (selectP s N cs i) ∧ S' = S := by
  obtain ⟨pc, cc, rfl, _⟩ := id hv
  unfold selectP two2
  rcases chkR_or s N cs with ⟨hk, hk1, hcs⟩ | hk
  · rw [if_neg (fun h => h hk)]
    by_cases h1 : i < 0
    · rw [if_pos h1]
      refine ACall.enter (args := [.agg #[.string s, .int .i64 N, .slice pc cs.length cc], .int .i64 i]) (rs := [.tmp 4, .tmp 5]) 29 [(0, .agg #[.string s, .int .i64 N, .slice pc cs.length cc]), (1, .int .i64 i)] Try.func40 rfl rfl (Nat.le_of_ble_eq_true rfl) rfl ⟨rfl, rfl, trivial⟩ ?_
      refine AWP.seq ?_
      refine AWP.region ?_
      refine ARun.boxA (cs := [_, _, _]) (lit_lt rfl) rfl ?_
      intro b2 f2
      have g2 := f2
      repeat ((with_reducible replace g2 := fresh_set g2); obtain ⟨g2, _⟩ := g2)
      (try simp only [List.length_cons, List.length_nil, Nat.zero_add, Nat.reduceAdd])
      refine rC (Calm.assign rfl) ?_
      refine rC (Calm.assign rfl) ?_
      refine arun_nil ?_
      refine athen_n ?_
      refine AWP.seq ?_
      refine AWP.seq ?_
      refine AWP.region ?_
      refine rC (ldA_ (cs := [_, _, _]) ty_agg_49 ty_size_49 rfl) ?_
      refine ARun.call (lit_lt rfl) go_36 rfl (rselV_Check s N _ cs _ hs (hv.less less_)) ?_
      rintro _ S1 ⟨rfl, h1⟩
      rw [h1, hk]; clear h1 S1
      refine rC (Calm.bin rfl rfl b_neq) ?_
      refine arun_nil ?_
      refine athen_n ?_
      refine AWP.sub [(0, _), (1, _), (2, _), (4, _), (5, _), (9, _)] ⟨rfl, rfl, rfl, rfl, rfl, rfl, trivial⟩ ?_
      refine AWP.condF rfl (by first | rfl | (simp; done) | (simp; omega)) ?_
      refine AWP.skip ?_
      refine athen_n ?_
      refine AWP.seq ?_
      refine AWP.seq ?_
      refine AWP.region ?_
      refine rC (Calm.move rfl) ?_
      refine rC (Calm.bin rfl rfl b_lss) ?_
      refine arun_nil ?_
      refine athen_n ?_
      refine AWP.sub [(0, _), (1, _), (2, _), (4, _), (5, _), (9, _), (11, _)] ⟨rfl, rfl, rfl, rfl, rfl, rfl, rfl, trivial⟩ ?_
      refine AWP.condT rfl (by first | rfl | (simp; done) | (simp; omega)) ?_
      refine AWP.seq ?_
      refine AWP.region ?_
      refine rC (Calm.assign rfl) ?_
      refine rC (Calm.assign rfl) ?_
      refine arun_nil ?_
      refine athen_n ?_
      refine AWP.ret ?_
      refine athen_ret ?_
      refine ⟨_, S, ⟨_, _, rfl, ⟨_, _, rfl, rfl, rfl⟩, rfl⟩, less_, ?_⟩
      exact ⟨rfl, rfl⟩
    · rw [if_neg h1]
      obtain ⟨n, rfl, hn1, hn2, _⟩ := chk_nat hk1
      obtain ⟨j, rfl⟩ : ∃ j : Nat, i = j := ⟨i.toNat, by omega⟩
      rw [Int.toNat_natCast, Int.toNat_natCast]
      refine ACall.enter (args := [.agg #[.string s, .int .i64 (n : Int), .slice pc cs.length cc], .int .i64 (j : Int)]) (rs := [.tmp 4, .tmp 5]) 29 [(0, .agg #[.string s, .int .i64 (n : Int), .slice pc cs.length cc]), (1, .int .i64 (j : Int))] Try.func40 rfl rfl (Nat.le_of_ble_eq_true rfl) rfl ⟨rfl, rfl, trivial⟩ ?_
      refine AWP.seq ?_
      refine AWP.region ?_
      refine ARun.boxA (cs := [_, _, _]) (lit_lt rfl) rfl ?_
      intro b2 f2
      have g2 := f2
      repeat ((with_reducible replace g2 := fresh_set g2); obtain ⟨g2, _⟩ := g2)
      (try simp only [List.length_cons, List.length_nil, Nat.zero_add, Nat.reduceAdd])
      refine rC (Calm.assign rfl) ?_
      refine rC (Calm.assign rfl) ?_
      refine arun_nil ?_
      refine athen_n ?_
      refine AWP.seq ?_
      refine AWP.seq ?_
      refine AWP.region ?_
      refine rC (ldA_ (cs := [_, _, _]) ty_agg_49 ty_size_49 rfl) ?_
      refine ARun.call (lit_lt rfl) go_36 rfl (rselV_Check s n _ cs _ hs (hv.less less_)) ?_
      rintro _ S1 ⟨rfl, h1⟩
      rw [h1, hk]; clear h1 S1
      refine rC (Calm.bin rfl rfl b_neq) ?_
      refine arun_nil ?_
      refine athen_n ?_
      refine AWP.sub [(0, _), (1, _), (2, _), (4, _), (5, _), (9, _)] ⟨rfl, rfl, rfl, rfl, rfl, rfl, trivial⟩ ?_
      refine AWP.condF rfl (by first | rfl | (simp; done) | (simp; omega)) ?_
      refine AWP.skip ?_
      refine athen_n ?_
      refine AWP.seq ?_
      refine AWP.seq ?_
      refine AWP.region ?_
      refine rC (Calm.move rfl) ?_
      refine rC (Calm.bin rfl rfl b_lss) ?_
      refine arun_nil ?_
      refine athen_n ?_
      refine AWP.sub [(0, _), (1, _), (2, _), (4, _), (5, _), (9, _), (11, _)] ⟨rfl, rfl, rfl, rfl, rfl, rfl, rfl, trivial⟩ ?_
      refine AWP.condF rfl (by first | rfl | (simp; done) | (simp; omega)) ?_
      refine AWP.skip ?_
      refine athen_n ?_
      refine AWP.seq ?_
      refine AWP.seq ?_
      refine AWP.region ?_
      refine rC (Calm.assign rfl) ?_
      refine arun_nil ?_
      refine athen_n ?_
      refine AWP.block ?_
      refine AWP.loop (X := Nat × Nat) (fun x => [(1, .int .i64 x.2), (2, .pointer (some ⟨b2, 0, none⟩)), (6, .int .i64 x.1)]) (fun x => S.set b2 ⟨49, [.string s, .int .i64 n, .slice pc cs.length cc], 3⟩) (fun x => x.1 ≤ n ∧ x.2 ≤ j ∧ nth s.data.toList (n - x.1) x.1 x.2 = nth s.data.toList n 0 j) (fun x => n - x.1) ((0, j)) ⟨rfl, rfl, rfl, trivial⟩ (Mem.Less.refl _) (⟨Nat.zero_le _, Nat.le_refl _, rfl⟩) ?_
      rintro ⟨k, m⟩ ⟨hk0, hm0, hq⟩
      (try dsimp only at *)
      by_cases hl : k < n
      · obtain ⟨d, hd⟩ : ∃ d, n - k = d + 1 := ⟨n - k - 1, by omega⟩
        rw [hd, nth] at hq
        have hd2 : n - (k + 1) = d := by omega
        refine AWP.seq ?_
        refine AWP.seq ?_
        refine AWP.region ?_
        refine rC (Calm.move rfl) ?_
        refine rC (Calm.fieldAddr ty_field_49_0 rfl) ?_
        refine rC (Calm.fieldAddr ty_field_47_1 rfl) ?_
        refine rC (ld_ ty_plain_3 rfl) ?_
        refine rC (Calm.bin rfl rfl b_lss) ?_
        refine arun_nil ?_
        refine athen_n ?_
        refine AWP.sub [(1, _), (2, _), (6, _), (16, _)] ⟨rfl, rfl, rfl, rfl, trivial⟩ ?_
        refine AWP.condT rfl (by first | rfl | (simp; done) | (simp; omega)) ?_
        refine AWP.skip ?_
        refine athen_n ?_
        refine AWP.seq ?_
        refine AWP.block ?_
        refine AWP.seq ?_
        refine AWP.seq ?_
        refine AWP.region ?_
        refine rC (Calm.fieldAddr ty_field_49_0 rfl) ?_
        refine rC (ldA_ (cs := [_, _]) ty_agg_47 ty_size_47 rfl) ?_
        refine rC (Calm.move rfl) ?_
        refine ARun.call (lit_lt rfl) go_68 rfl (refV_Is s n k _ (by omega) (by omega) hs) ?_
        rintro _ S1 ⟨rfl, h1⟩
        rw [h1, Int.toNat_natCast]; clear h1 S1
        refine rC (Calm.un rfl (una_not _)) ?_
        refine arun_nil ?_
        refine athen_n ?_
        refine AWP.sub [(1, _), (2, _), (6, _), (16, _), (23, _)] ⟨rfl, rfl, rfl, rfl, rfl, trivial⟩ ?_
        rcases Bool.eq_false_or_eq_true (isBit s.data.toList k) with hbt | hbt
        · rw [if_pos hbt] at hq
          refine AWP.condF rfl ((by rw [hbt]; rfl)) ?_
          by_cases hmz : m = 0
          · rw [if_pos hmz] at hq
            refine AWP.skip ?_
            refine athen_n ?_
            refine AWP.seq ?_
            refine AWP.seq ?_
            refine AWP.region ?_
            refine rC (Calm.move rfl) ?_
            refine rC (Calm.bin rfl rfl b_eql) ?_
            refine arun_nil ?_
            refine athen_n ?_
            refine AWP.sub [(1, _), (2, _), (6, _), (16, _), (23, _), (25, _)] ⟨rfl, rfl, rfl, rfl, rfl, rfl, trivial⟩ ?_
            refine AWP.condT rfl (by first | rfl | (simp; done) | (simp; omega)) ?_
            refine AWP.seq ?_
            refine AWP.region ?_
            refine rC (Calm.move rfl) ?_
            refine rC (Calm.assign rfl) ?_
            refine rC (Calm.assign rfl) ?_
            refine arun_nil ?_
            refine athen_n ?_
            refine AWP.sub [(1, _), (2, _), (6, _), (16, _), (23, _), (25, _), (4, _), (5, _)] ⟨rfl, rfl, rfl, rfl, rfl, rfl, rfl, rfl, trivial⟩ ?_
            refine AWP.ret ?_
            refine athen_ret ?_
            refine ain_ret ?_
            refine athen_ret ?_
            refine athen_ret ?_
            refine ain_ret ?_
            refine athen_ret ?_
            refine ⟨_, S, ⟨_, _, rfl, ⟨_, _, rfl, rfl, rfl⟩, rfl⟩, less_, ?_⟩
            exact ⟨by rw [← hq]; rfl, rfl⟩
          · rw [if_neg hmz] at hq
            refine AWP.skip ?_
            refine athen_n ?_
            refine AWP.seq ?_
            refine AWP.seq ?_
            refine AWP.region ?_
            refine rC (Calm.move rfl) ?_
            refine rC (Calm.bin rfl rfl b_eql) ?_
            refine arun_nil ?_
            refine athen_n ?_
            refine AWP.sub [(1, _), (2, _), (6, _), (16, _), (23, _), (25, _)] ⟨rfl, rfl, rfl, rfl, rfl, rfl, trivial⟩ ?_
            refine AWP.condF rfl (by first | rfl | (simp; done) | (simp; omega)) ?_
            refine AWP.skip ?_
            refine athen_n ?_
            refine AWP.region ?_
            refine rC (Calm.move rfl) ?_
            refine rC (Calm.bin rfl rfl b_sub_i64) ?_
            refine rC (Calm.assign rfl) ?_
            refine arun_nil ?_
            refine ain_n ?_
            refine athen_n ?_
            refine AWP.sub [(1, _), (2, _), (6, _), (16, _), (23, _), (25, _)] ⟨rfl, rfl, rfl, rfl, rfl, rfl, trivial⟩ ?_
            refine AWP.region ?_
            refine rC (Calm.move rfl) ?_
            refine rC (Calm.bin rfl rfl b_add_i64) ?_
            refine rC (Calm.assign rfl) ?_
            refine arun_nil ?_
            refine athen_n ?_
            refine ⟨(k + 1, m - 1), ?_, ?_, ?_, ?_⟩
            all_goals (try dsimp only)
            · exact ⟨some_int (by omega), rfl, some_int (by omega), trivial⟩
            · exact Mem.Less.refl _
            · exact ⟨hl, by omega, by rw [hd2]; exact hq⟩
            · omega
        · rw [if_neg (by rw [hbt]; decide)] at hq
          refine AWP.condT rfl ((by rw [hbt]; rfl)) ?_
          refine AWP.exit ?_
          refine athen_exit ?_
          refine ain_same ?_
          refine athen_n ?_
          refine AWP.region ?_
          refine rC (Calm.move rfl) ?_
          refine rC (Calm.bin rfl rfl b_add_i64) ?_
          refine rC (Calm.assign rfl) ?_
          refine arun_nil ?_
          refine athen_n ?_
          refine ⟨(k + 1, m), ?_, ?_, ?_, ?_⟩
          all_goals (try dsimp only)
          · exact ⟨rfl, rfl, some_int (by omega), trivial⟩
          · exact Mem.Less.refl _
          · exact ⟨hl, by omega, by rw [hd2]; exact hq⟩
          · omega
      · rw [show n - k = 0 from by omega, nth] at hq
        refine AWP.seq ?_
        refine AWP.seq ?_
        refine AWP.region ?_
        refine rC (Calm.move rfl) ?_
        refine rC (Calm.fieldAddr ty_field_49_0 rfl) ?_
        refine rC (Calm.fieldAddr ty_field_47_1 rfl) ?_
        refine rC (ld_ ty_plain_3 rfl) ?_
        refine rC (Calm.bin rfl rfl b_lss) ?_
        refine arun_nil ?_
        refine athen_n ?_
        refine AWP.sub [(1, _), (2, _), (6, _), (16, _)] ⟨rfl, rfl, rfl, rfl, trivial⟩ ?_
        refine AWP.condF rfl (by first | rfl | (simp; done) | (simp; omega)) ?_
        refine AWP.exit ?_
        refine athen_exit ?_
        refine athen_exit ?_
        refine ain_same ?_
        refine athen_n ?_
        refine AWP.seq ?_
        refine AWP.region ?_
        refine rC (Calm.assign rfl) ?_
        refine rC (Calm.assign rfl) ?_
        refine arun_nil ?_
        refine athen_n ?_
        refine AWP.ret ?_
        refine ⟨_, S, ⟨_, _, rfl, ⟨_, _, rfl, rfl, rfl⟩, rfl⟩, less_, ?_⟩
        exact ⟨by rw [← hq]; rfl, rfl⟩
  · rw [if_pos (by rw [hk]; decide)]
    refine ACall.enter (args := [.agg #[.string s, .int .i64 N, .slice pc cs.length cc], .int .i64 i]) (rs := [.tmp 4, .tmp 5]) 29 [(0, .agg #[.string s, .int .i64 N, .slice pc cs.length cc]), (1, .int .i64 i)] Try.func40 rfl rfl (Nat.le_of_ble_eq_true rfl) rfl ⟨rfl, rfl, trivial⟩ ?_
    refine AWP.seq ?_
    refine AWP.region ?_
    refine ARun.boxA (cs := [_, _, _]) (lit_lt rfl) rfl ?_
    intro b2 f2
    have g2 := f2
    repeat ((with_reducible replace g2 := fresh_set g2); obtain ⟨g2, _⟩ := g2)
    (try simp only [List.length_cons, List.length_nil, Nat.zero_add, Nat.reduceAdd])
    refine rC (Calm.assign rfl) ?_
    refine rC (Calm.assign rfl) ?_
    refine arun_nil ?_
    refine athen_n ?_
    refine AWP.seq ?_
    refine AWP.seq ?_
    refine AWP.region ?_
    refine rC (ldA_ (cs := [_, _, _]) ty_agg_49 ty_size_49 rfl) ?_
    refine ARun.call (lit_lt rfl) go_36 rfl (rselV_Check s N _ cs _ hs (hv.less less_)) ?_
    rintro _ S1 ⟨rfl, h1⟩
    rw [h1, hk]; clear h1 S1
    refine rC (Calm.bin rfl rfl b_neq) ?_
    refine arun_nil ?_
    refine athen_n ?_
    refine AWP.sub [(0, _), (1, _), (2, _), (4, _), (5, _), (9, _)] ⟨rfl, rfl, rfl, rfl, rfl, rfl, trivial⟩ ?_
    refine AWP.condT rfl (by first | rfl | (simp; done) | (simp; omega)) ?_
    refine AWP.seq ?_
    refine AWP.region ?_
    refine rC (Calm.assign rfl) ?_
    refine rC (Calm.assign rfl) ?_
    refine arun_nil ?_
    refine athen_n ?_
    refine AWP.ret ?_
    refine athen_ret ?_
    refine ⟨_, S, ⟨_, _, rfl, ⟨_, _, rfl, rfl, rfl⟩, rfl⟩, less_, ?_⟩
    exact ⟨rfl, rfl⟩
set_option maxHeartbeats 1000000 in
theorem rselV_Next (s : ByteArray) (N i : Int) (hc : Value) (cs : List Int) (S : Mem) (hs : s.size ≤ 281474976710656) (hv : Sl 1 i64s S hc cs) :
    ACall Try.prog 42 #[.agg #[.string s, .int .i64 N, hc], .int .i64 i] S fun r S' => r = two2 (nextP s N cs i) ∧ S' = S := by
  obtain ⟨pc, cc, rfl, _⟩ := id hv
  unfold nextP two2
  rcases chkR_or s N cs with ⟨hk, hk1, hcs⟩ | hk
  · rw [if_neg (fun h => h hk)]
    by_cases h1 : i < 0
    · rw [if_pos (.inl h1)]
      refine ACall.enter (args := [.agg #[.string s, .int .i64 N, .slice pc cs.length cc], .int .i64 i]) (rs := [.tmp 4, .tmp 5]) 32 [(0, .agg #[.string s, .int .i64 N, .slice pc cs.length cc]), (1, .int .i64 i)] Try.func42 rfl rfl (Nat.le_of_ble_eq_true rfl) rfl ⟨rfl, rfl, trivial⟩ ?_
      refine AWP.seq ?_
      refine AWP.region ?_
      refine ARun.boxA (cs := [_, _, _]) (lit_lt rfl) rfl ?_
      intro b2 f2
      have g2 := f2
      repeat ((with_reducible replace g2 := fresh_set g2); obtain ⟨g2, _⟩ := g2)
      (try simp only [List.length_cons, List.length_nil, Nat.zero_add, Nat.reduceAdd])
      refine rC (Calm.assign rfl) ?_
      refine rC (Calm.assign rfl) ?_
      refine arun_nil ?_
      refine athen_n ?_
      refine AWP.seq ?_
      refine AWP.seq ?_
      refine AWP.region ?_
      refine rC (ldA_ (cs := [_, _, _]) ty_agg_49 ty_size_49 rfl) ?_
      refine ARun.call (lit_lt rfl) go_36 rfl (rselV_Check s N _ cs _ hs (hv.less less_)) ?_
      rintro _ S1 ⟨rfl, h1⟩
      rw [h1, hk]; clear h1 S1
      refine rC (Calm.bin rfl rfl b_neq) ?_
      refine arun_nil ?_
      refine athen_n ?_
      refine AWP.sub [(0, _), (1, _), (2, _), (4, _), (5, _), (9, _)] ⟨rfl, rfl, rfl, rfl, rfl, rfl, trivial⟩ ?_
      refine AWP.condF rfl (by first | rfl | (simp; done) | (simp; omega)) ?_
      refine AWP.skip ?_
      refine athen_n ?_
      refine AWP.seq ?_
      refine AWP.seq ?_
      refine AWP.region ?_
      refine rC (Calm.move rfl) ?_
      refine rC (Calm.bin rfl rfl b_lss) ?_
      refine rC (Calm.move rfl) ?_
      first | refine rS 12 ?_ | refine rU 12 ?_ | refine rG 12 (Calm.move rfl) ?_
      first | refine rS 12 ?_ | refine rU 12 ?_ | refine rG 12 (Calm.fieldAddr ty_field_49_0 rfl) ?_
      first | refine rS 12 ?_ | refine rU 12 ?_ | refine rG 12 (Calm.fieldAddr ty_field_47_1 rfl) ?_
      first | refine rS 12 ?_ | refine rU 12 ?_ | refine rG 12 (ld_ ty_plain_3 rfl) ?_
      first | refine rS 12 ?_ | refine rU 12 ?_ | refine rG 12 (Calm.bin rfl rfl b_gtr) ?_
      refine rC ((by first | exact Calm.pickT rfl rfl | exact Calm.pickF rfl rfl)) ?_
      refine arun_nil ?_
      refine athen_n ?_
      refine AWP.sub [(0, _), (1, _), (2, _), (4, _), (5, _), (9, _), (18, _)] ⟨rfl, rfl, rfl, rfl, rfl, rfl, rfl, trivial⟩ ?_
      refine AWP.condT rfl (by first | rfl | (simp; done) | (simp; omega)) ?_
      refine AWP.seq ?_
      refine AWP.region ?_
      refine rC (Calm.assign rfl) ?_
      refine rC (Calm.assign rfl) ?_
      refine arun_nil ?_
      refine athen_n ?_
      refine AWP.ret ?_
      refine athen_ret ?_
      refine ⟨_, S, ⟨_, _, rfl, ⟨_, _, rfl, rfl, rfl⟩, rfl⟩, less_, ?_⟩
      exact ⟨rfl, rfl⟩
    · by_cases h2 : N < i
      · rw [if_pos (.inr h2)]
        refine ACall.enter (args := [.agg #[.string s, .int .i64 N, .slice pc cs.length cc], .int .i64 i]) (rs := [.tmp 4, .tmp 5]) 32 [(0, .agg #[.string s, .int .i64 N, .slice pc cs.length cc]), (1, .int .i64 i)] Try.func42 rfl rfl (Nat.le_of_ble_eq_true rfl) rfl ⟨rfl, rfl, trivial⟩ ?_
        refine AWP.seq ?_
        refine AWP.region ?_
        refine ARun.boxA (cs := [_, _, _]) (lit_lt rfl) rfl ?_
        intro b2 f2
        have g2 := f2
        repeat ((with_reducible replace g2 := fresh_set g2); obtain ⟨g2, _⟩ := g2)
        (try simp only [List.length_cons, List.length_nil, Nat.zero_add, Nat.reduceAdd])
        refine rC (Calm.assign rfl) ?_
        refine rC (Calm.assign rfl) ?_
        refine arun_nil ?_
        refine athen_n ?_
        refine AWP.seq ?_
        refine AWP.seq ?_
        refine AWP.region ?_
        refine rC (ldA_ (cs := [_, _, _]) ty_agg_49 ty_size_49 rfl) ?_
        refine ARun.call (lit_lt rfl) go_36 rfl (rselV_Check s N _ cs _ hs (hv.less less_)) ?_
        rintro _ S1 ⟨rfl, h1⟩
        rw [h1, hk]; clear h1 S1
        refine rC (Calm.bin rfl rfl b_neq) ?_
        refine arun_nil ?_
        refine athen_n ?_
        refine AWP.sub [(0, _), (1, _), (2, _), (4, _), (5, _), (9, _)] ⟨rfl, rfl, rfl, rfl, rfl, rfl, trivial⟩ ?_
        refine AWP.condF rfl (by first | rfl | (simp; done) | (simp; omega)) ?_
        refine AWP.skip ?_
        refine athen_n ?_
        refine AWP.seq ?_
        refine AWP.seq ?_
        refine AWP.region ?_
        refine rC (Calm.move rfl) ?_
        refine rC (Calm.bin rfl rfl b_lss) ?_
        refine rC (Calm.move rfl) ?_
        first | refine rS 12 ?_ | refine rU 12 ?_ | refine rG 12 (Calm.move rfl) ?_
        first | refine rS 12 ?_ | refine rU 12 ?_ | refine rG 12 (Calm.fieldAddr ty_field_49_0 rfl) ?_
        first | refine rS 12 ?_ | refine rU 12 ?_ | refine rG 12 (Calm.fieldAddr ty_field_47_1 rfl) ?_
        first | refine rS 12 ?_ | refine rU 12 ?_ | refine rG 12 (ld_ ty_plain_3 rfl) ?_
        first | refine rS 12 ?_ | refine rU 12 ?_ | refine rG 12 (Calm.bin rfl rfl b_gtr) ?_
        refine rC ((by first | exact Calm.pickT rfl rfl | exact Calm.pickF rfl rfl)) ?_
        refine arun_nil ?_
        refine athen_n ?_
        refine AWP.sub [(0, _), (1, _), (2, _), (4, _), (5, _), (9, _), (18, _)] ⟨rfl, rfl, rfl, rfl, rfl, rfl, rfl, trivial⟩ ?_
        refine AWP.condT rfl (by first | rfl | (simp; done) | (simp; omega)) ?_
        refine AWP.seq ?_
        refine AWP.region ?_
        refine rC (Calm.assign rfl) ?_
        refine rC (Calm.assign rfl) ?_
        refine arun_nil ?_
        refine athen_n ?_
        refine AWP.ret ?_
        refine athen_ret ?_
        refine ⟨_, S, ⟨_, _, rfl, ⟨_, _, rfl, rfl, rfl⟩, rfl⟩, less_, ?_⟩
        exact ⟨rfl, rfl⟩
      · rw [if_neg (by omega)]
        obtain ⟨n, rfl, hn1, hn2, _⟩ := chk_nat hk1
        obtain ⟨j, rfl⟩ : ∃ j : Nat, i = j := ⟨i.toNat, by omega⟩
        rw [Int.toNat_natCast, Int.toNat_natCast]
        refine ACall.enter (args := [.agg #[.string s, .int .i64 (n : Int), .slice pc cs.length cc], .int .i64 (j : Int)]) (rs := [.tmp 4, .tmp 5]) 32 [(0, .agg #[.string s, .int .i64 (n : Int), .slice pc cs.length cc]), (1, .int .i64 (j : Int))] Try.func42 rfl rfl (Nat.le_of_ble_eq_true rfl) rfl ⟨rfl, rfl, trivial⟩ ?_
        refine AWP.seq ?_
        refine AWP.region ?_
        refine ARun.boxA (cs := [_, _, _]) (lit_lt rfl) rfl ?_
        intro b2 f2
        have g2 := f2
        repeat ((with_reducible replace g2 := fresh_set g2); obtain ⟨g2, _⟩ := g2)
        (try simp only [List.length_cons, List.length_nil, Nat.zero_add, Nat.reduceAdd])
        refine rC (Calm.assign rfl) ?_
        refine rC (Calm.assign rfl) ?_
        refine arun_nil ?_
        refine athen_n ?_
        refine AWP.seq ?_
        refine AWP.seq ?_
        refine AWP.region ?_
        refine rC (ldA_ (cs := [_, _, _]) ty_agg_49 ty_size_49 rfl) ?_
        refine ARun.call (lit_lt rfl) go_36 rfl (rselV_Check s n _ cs _ hs (hv.less less_)) ?_
        rintro _ S1 ⟨rfl, h1⟩
        rw [h1, hk]; clear h1 S1
        refine rC (Calm.bin rfl rfl b_neq) ?_
        refine arun_nil ?_
        refine athen_n ?_
        refine AWP.sub [(0, _), (1, _), (2, _), (4, _), (5, _), (9, _)] ⟨rfl, rfl, rfl, rfl, rfl, rfl, trivial⟩ ?_
        refine AWP.condF rfl (by first | rfl | (simp; done) | (simp; omega)) ?_
        refine AWP.skip ?_
        refine athen_n ?_
        refine AWP.seq ?_
        refine AWP.seq ?_
        refine AWP.region ?_
        refine rC (Calm.move rfl) ?_
        refine rC (Calm.bin rfl rfl b_lss) ?_
        refine rC (Calm.move rfl) ?_
        first | refine rS 12 ?_ | refine rU 12 ?_ | refine rG 12 (Calm.move rfl) ?_
        first | refine rS 12 ?_ | refine rU 12 ?_ | refine rG 12 (Calm.fieldAddr ty_field_49_0 rfl) ?_
        first | refine rS 12 ?_ | refine rU 12 ?_ | refine rG 12 (Calm.fieldAddr ty_field_47_1 rfl) ?_
        first | refine rS 12 ?_ | refine rU 12 ?_ | refine rG 12 (ld_ ty_plain_3 rfl) ?_
        first | refine rS 12 ?_ | refine rU 12 ?_ | refine rG 12 (Calm.bin rfl rfl b_gtr) ?_
        refine rC ((by first | exact Calm.pickT rfl rfl | exact Calm.pickF rfl rfl)) ?_
        refine arun_nil ?_
        refine athen_n ?_
        refine AWP.sub [(0, _), (1, _), (2, _), (4, _), (5, _), (9, _), (18, _)] ⟨rfl, rfl, rfl, rfl, rfl, rfl, rfl, trivial⟩ ?_
        refine AWP.condF rfl (by first | rfl | (simp; done) | (simp; omega)) ?_
        refine AWP.skip ?_
        refine athen_n ?_
        refine AWP.seq ?_
        refine AWP.seq ?_
        refine AWP.region ?_
        refine rC (Calm.move rfl) ?_
        refine rC (Calm.assign rfl) ?_
        refine arun_nil ?_
        refine athen_n ?_
        refine AWP.sub [(0, _), (1, _), (2, _), (4, _), (5, _), (9, _), (18, _), (6, _)] ⟨rfl, rfl, rfl, rfl, rfl, rfl, rfl, rfl, trivial⟩ ?_
        refine AWP.block ?_
        refine AWP.loop (X := Nat) (fun x => [(2, .pointer (some ⟨b2, 0, none⟩)), (6, .int .i64 x)]) (fun x => S.set b2 ⟨49, [.string s, .int .i64 n, .slice pc cs.length cc], 3⟩) (fun x => x ≤ n ∧ nth s.data.toList (n - x) x 0 = nth s.data.toList (n - j) j 0) (fun x => n - x) (j) ⟨rfl, rfl, trivial⟩ (Mem.Less.refl _) (⟨by omega, rfl⟩) ?_
        rintro k ⟨hk0, hq⟩
        (try dsimp only at *)
        by_cases hl : k < n
        · obtain ⟨d, hd⟩ : ∃ d, n - k = d + 1 := ⟨n - k - 1, by omega⟩
          rw [hd, nth] at hq
          have hd2 : n - (k + 1) = d := by omega
          refine AWP.seq ?_
          refine AWP.seq ?_
          refine AWP.region ?_
          refine rC (Calm.move rfl) ?_
          refine rC (Calm.fieldAddr ty_field_49_0 rfl) ?_
          refine rC (Calm.fieldAddr ty_field_47_1 rfl) ?_
          refine rC (ld_ ty_plain_3 rfl) ?_
          refine rC (Calm.bin rfl rfl b_lss) ?_
          refine arun_nil ?_
          refine athen_n ?_
          refine AWP.sub [(2, _), (6, _), (24, _)] ⟨rfl, rfl, rfl, trivial⟩ ?_
          refine AWP.condT rfl (by first | rfl | (simp; done) | (simp; omega)) ?_
          refine AWP.skip ?_
          refine athen_n ?_
          refine AWP.seq ?_
          refine AWP.block ?_
          refine AWP.seq ?_
          refine AWP.region ?_
          refine rC (Calm.fieldAddr ty_field_49_0 rfl) ?_
          refine rC (ldA_ (cs := [_, _]) ty_agg_47 ty_size_47 rfl) ?_
          refine rC (Calm.move rfl) ?_
          refine ARun.call (lit_lt rfl) go_68 rfl (refV_Is s n k _ (by omega) (by omega) hs) ?_
          rintro _ S1 ⟨rfl, h1⟩
          rw [h1, Int.toNat_natCast]; clear h1 S1
          refine arun_nil ?_
          refine athen_n ?_
          refine AWP.sub [(2, _), (6, _), (24, _), (30, _)] ⟨rfl, rfl, rfl, rfl, trivial⟩ ?_
          rcases Bool.eq_false_or_eq_true (isBit s.data.toList k) with hbt | hbt
          · rw [if_pos hbt, if_pos rfl] at hq
            refine AWP.condT rfl (hbt) ?_
            refine AWP.seq ?_
            refine AWP.region ?_
            refine rC (Calm.move rfl) ?_
            refine rC (Calm.assign rfl) ?_
            refine rC (Calm.assign rfl) ?_
            refine arun_nil ?_
            refine athen_n ?_
            refine AWP.sub [(2, _), (6, _), (24, _), (30, _), (4, _), (5, _)] ⟨rfl, rfl, rfl, rfl, rfl, rfl, trivial⟩ ?_
            refine AWP.ret ?_
            refine ain_ret ?_
            refine athen_ret ?_
            refine athen_ret ?_
            refine ain_ret ?_
            refine athen_ret ?_
            refine ⟨_, S, ⟨_, _, rfl, ⟨_, _, rfl, rfl, rfl⟩, rfl⟩, less_, ?_⟩
            exact ⟨by rw [← hq]; rfl, rfl⟩
          · rw [if_neg (by rw [hbt]; decide)] at hq
            refine AWP.condF rfl (hbt) ?_
            refine AWP.skip ?_
            refine ain_n ?_
            refine athen_n ?_
            refine AWP.region ?_
            refine rC (Calm.move rfl) ?_
            refine rC (Calm.bin rfl rfl b_add_i64) ?_
            refine rC (Calm.assign rfl) ?_
            refine arun_nil ?_
            refine athen_n ?_
            refine ⟨k + 1, ?_, ?_, ?_, ?_⟩
            all_goals (try dsimp only)
            · exact ⟨rfl, some_int (by omega), trivial⟩
            · exact Mem.Less.refl _
            · exact ⟨hl, by rw [hd2]; exact hq⟩
            · omega
        · rw [show n - k = 0 from by omega, nth] at hq
          refine AWP.seq ?_
          refine AWP.seq ?_
          refine AWP.region ?_
          refine rC (Calm.move rfl) ?_
          refine rC (Calm.fieldAddr ty_field_49_0 rfl) ?_
          refine rC (Calm.fieldAddr ty_field_47_1 rfl) ?_
          refine rC (ld_ ty_plain_3 rfl) ?_
          refine rC (Calm.bin rfl rfl b_lss) ?_
          refine arun_nil ?_
          refine athen_n ?_
          refine AWP.sub [(2, _), (6, _), (24, _)] ⟨rfl, rfl, rfl, trivial⟩ ?_
          refine AWP.condF rfl (by first | rfl | (simp; done) | (simp; omega)) ?_
          refine AWP.exit ?_
          refine athen_exit ?_
          refine athen_exit ?_
          refine ain_same ?_
          refine athen_n ?_
          refine AWP.seq ?_
          refine AWP.region ?_
          refine rC (Calm.assign rfl) ?_
          refine rC (Calm.assign rfl) ?_
          refine arun_nil ?_
          refine athen_n ?_
          refine AWP.ret ?_
          refine ⟨_, S, ⟨_, _, rfl, ⟨_, _, rfl, rfl, rfl⟩, rfl⟩, less_, ?_⟩
          exact ⟨by rw [← hq]; rfl, rfl⟩
  · rw [if_pos (by rw [hk]; decide)]
    refine ACall.enter (args := [.agg #[.string s, .int .i64 N, .slice pc cs.length cc], .int .i64 i]) (rs := [.tmp 4, .tmp 5]) 32 [(0, .agg #[.string s, .int .i64 N, .slice pc cs.length cc]), (1, .int .i64 i)] Try.func42 rfl rfl (Nat.le_of_ble_eq_true rfl) rfl ⟨rfl, rfl, trivial⟩ ?_
    refine AWP.seq ?_
    refine AWP.region ?_
    refine ARun.boxA (cs := [_, _, _]) (lit_lt rfl) rfl ?_
    intro b2 f2
    have g2 := f2
    repeat ((with_reducible replace g2 := fresh_set g2); obtain ⟨g2, _⟩ := g2)
    (try simp only [List.length_cons, List.length_nil, Nat.zero_add, Nat.reduceAdd])
    refine rC (Calm.assign rfl) ?_
    refine rC (Calm.assign rfl) ?_
    refine arun_nil ?_
    refine athen_n ?_
    refine AWP.seq ?_
    refine AWP.seq ?_
    refine AWP.region ?_
    refine rC (ldA_ (cs := [_, _, _]) ty_agg_49 ty_size_49 rfl) ?_
    refine ARun.call (lit_lt rfl) go_36 rfl (rselV_Check s N _ cs _ hs (hv.less less_)) ?_
    rintro _ S1 ⟨rfl, h1⟩
    rw [h1, hk]; clear h1 S1
    refine rC (Calm.bin rfl rfl b_neq) ?_
    refine arun_nil ?_
    refine athen_n ?_
    refine AWP.sub [(0, _), (1, _), (2, _), (4, _), (5, _), (9, _)] ⟨rfl, rfl, rfl, rfl, rfl, rfl, trivial⟩ ?_
    refine AWP.condT rfl (by first | rfl | (simp; done) | (simp; omega)) ?_
    refine AWP.seq ?_
    refine AWP.region ?_
    refine rC (Calm.assign rfl) ?_
    refine rC (Calm.assign rfl) ?_
    refine arun_nil ?_
    refine athen_n ?_
    refine AWP.ret ?_
    refine athen_ret ?_
    refine ⟨_, S, ⟨_, _, rfl, ⟨_, _, rfl, rfl, rfl⟩, rfl⟩, less_, ?_⟩
    exact ⟨rfl, rfl⟩
end Go.Proofs.Ytddabbfjoejalaa
