/-
  Sel: the law SelAsks walked.
-/
import Derived.Test.YtddabbfjoejalaaSel12
import Derived.Test.YtddabbfjoejalaaSelOpen
namespace Go.Proofs.Ytddabbfjoejalaa
open Go.RowKit
open Mv Bits Sel
set_option linter.unusedVariables false
set_option linter.unusedSimpArgs false
set_option maxRecDepth 20000
set_option maxHeartbeats 4000000 in
theorem law_SelAsks (s : ByteArray) (N : Int) (hc : Value) (cs : List Int) (i : Int) (S : Mem) (z : s.size ≤ 281474976710656) (hv : Sl 1 i64s S hc cs) (hi : i ≤ 9223372036854775807) :
    ACall Try.prog 9 #[.agg #[.string s, .int .i64 N, hc], .int .i64 i] S fun r S' => r = .bool true := by
  obtain ⟨pc, cc, rfl, _⟩ := id hv
  refine ACall.enter (args := [.agg #[.string s, .int .i64 N, .slice pc cs.length cc], .int .i64 i]) (rs := [.tmp 4]) 84 [(0, .agg #[.string s, .int .i64 N, .slice pc cs.length cc]), (1, .int .i64 i)] Try.func9 rfl rfl (Nat.le_of_ble_eq_true rfl) rfl ⟨rfl, rfl, trivial⟩ ?_
  refine AWP.seq ?_
  refine AWP.region ?_
  refine ARun.boxA (cs := [_, _, _]) (lit_lt rfl) rfl ?_
  intro b2 f2
  have g2 := f2
  repeat ((with_reducible replace g2 := fresh_set g2); obtain ⟨g2, _⟩ := g2)
  (try simp only [List.length_cons, List.length_nil, Nat.zero_add, Nat.reduceAdd])
  refine rC (Calm.assign rfl) ?_
  refine arun_nil ?_
  refine athen_n ?_
  refine named (S := S) (b := b2) g2.1 ?_
  intro T2 hT2 kb2
  replace hv := hv.less hT2
  refine AWP.seq ?_
  refine AWP.region ?_
  refine rC (ldA_ (cs := [_, _, _]) ty_agg_49 ty_size_49 rfl) ?_
  refine rC (Calm.move rfl) ?_
  refine ARun.call (lit_lt rfl) go_37 rfl (selV_Rank s N i _ cs _ z hv) ?_
  rintro _ S2 ⟨rfl, h1⟩
  rw [h1]; clear h1 S2
  refine rC (Calm.move rfl) ?_
  refine rC (Calm.extract rfl rfl) ?_
  refine rC (Calm.extract rfl rfl) ?_
  refine rC (Calm.assign rfl) ?_
  refine rC (Calm.assign rfl) ?_
  refine arun_nil ?_
  refine athen_n ?_
  refine AWP.sub [(0, _), (1, _), (2, _), (4, _), (5, _), (6, _)] ⟨rfl, rfl, rfl, rfl, rfl, rfl, trivial⟩ ?_
  refine AWP.seq ?_
  refine AWP.region ?_
  refine rC (ldA_ (cs := [_, _, _]) ty_agg_49 ty_size_49 rfl) ?_
  refine rC (Calm.move rfl) ?_
  refine ARun.call (lit_lt rfl) go_38 rfl (rselV_Rank s N i _ cs _ z hv) ?_
  rintro _ S2 ⟨rfl, h1⟩
  rw [h1]; clear h1 S2
  refine rC (Calm.move rfl) ?_
  refine rC (Calm.extract rfl rfl) ?_
  refine rC (Calm.extract rfl rfl) ?_
  refine rC (Calm.assign rfl) ?_
  refine rC (Calm.assign rfl) ?_
  refine arun_nil ?_
  refine athen_n ?_
  refine AWP.sub [(0, _), (1, _), (2, _), (4, _), (5, _), (6, _), (7, _), (8, _)] ⟨rfl, rfl, rfl, rfl, rfl, rfl, rfl, rfl, trivial⟩ ?_
  refine AWP.seq ?_
  refine AWP.region ?_
  refine rC (ldA_ (cs := [_, _, _]) ty_agg_49 ty_size_49 rfl) ?_
  refine rC (Calm.move rfl) ?_
  refine ARun.call (lit_lt rfl) go_39 rfl (selV_Select s N i _ cs _ z hv hi) ?_
  rintro _ S2 ⟨rfl, h1⟩
  rw [h1]; clear h1 S2
  refine rC (Calm.move rfl) ?_
  refine rC (Calm.extract rfl rfl) ?_
  refine rC (Calm.extract rfl rfl) ?_
  refine rC (Calm.assign rfl) ?_
  refine rC (Calm.assign rfl) ?_
  refine arun_nil ?_
  refine athen_n ?_
  refine AWP.sub [(0, _), (1, _), (2, _), (4, _), (5, _), (6, _), (7, _), (8, _), (9, _), (10, _)] ⟨rfl, rfl, rfl, rfl, rfl, rfl, rfl, rfl, rfl, rfl, trivial⟩ ?_
  refine AWP.seq ?_
  refine AWP.region ?_
  refine rC (ldA_ (cs := [_, _, _]) ty_agg_49 ty_size_49 rfl) ?_
  refine rC (Calm.move rfl) ?_
  refine ARun.call (lit_lt rfl) go_40 rfl (rselV_Select s N i _ cs _ z hv hi) ?_
  rintro _ S2 ⟨rfl, h1⟩
  rw [h1]; clear h1 S2
  refine rC (Calm.move rfl) ?_
  refine rC (Calm.extract rfl rfl) ?_
  refine rC (Calm.extract rfl rfl) ?_
  refine rC (Calm.assign rfl) ?_
  refine rC (Calm.assign rfl) ?_
  refine arun_nil ?_
  refine athen_n ?_
  refine AWP.sub [(0, _), (1, _), (2, _), (4, _), (5, _), (6, _), (7, _), (8, _), (9, _), (10, _), (11, _), (12, _)] ⟨rfl, rfl, rfl, rfl, rfl, rfl, rfl, rfl, rfl, rfl, rfl, rfl, trivial⟩ ?_
  refine AWP.seq ?_
  refine AWP.region ?_
  refine rC (ldA_ (cs := [_, _, _]) ty_agg_49 ty_size_49 rfl) ?_
  refine rC (Calm.move rfl) ?_
  refine ARun.call (lit_lt rfl) go_41 rfl (selV_Next s N i _ cs _ z hv) ?_
  rintro _ S2 ⟨rfl, h1⟩
  rw [h1]; clear h1 S2
  refine rC (Calm.move rfl) ?_
  refine rC (Calm.extract rfl rfl) ?_
  refine rC (Calm.extract rfl rfl) ?_
  refine rC (Calm.assign rfl) ?_
  refine rC (Calm.assign rfl) ?_
  refine arun_nil ?_
  refine athen_n ?_
  refine AWP.sub [(0, _), (1, _), (2, _), (4, _), (5, _), (6, _), (7, _), (8, _), (9, _), (10, _), (11, _), (12, _), (13, _), (14, _)] ⟨rfl, rfl, rfl, rfl, rfl, rfl, rfl, rfl, rfl, rfl, rfl, rfl, rfl, rfl, trivial⟩ ?_
  refine AWP.seq ?_
  refine AWP.region ?_
  refine rC (ldA_ (cs := [_, _, _]) ty_agg_49 ty_size_49 rfl) ?_
  refine rC (Calm.move rfl) ?_
  refine ARun.call (lit_lt rfl) go_42 rfl (rselV_Next s N i _ cs _ z hv) ?_
  rintro _ S2 ⟨rfl, h1⟩
  rw [h1]; clear h1 S2
  refine rC (Calm.move rfl) ?_
  refine rC (Calm.extract rfl rfl) ?_
  refine rC (Calm.extract rfl rfl) ?_
  refine rC (Calm.assign rfl) ?_
  refine rC (Calm.assign rfl) ?_
  refine arun_nil ?_
  refine athen_n ?_
  refine AWP.sub [(0, _), (1, _), (2, _), (4, _), (5, _), (6, _), (7, _), (8, _), (9, _), (10, _), (11, _), (12, _), (13, _), (14, _), (15, _), (16, _)] ⟨rfl, rfl, rfl, rfl, rfl, rfl, rfl, rfl, rfl, rfl, rfl, rfl, rfl, rfl, rfl, rfl, trivial⟩ ?_
  refine AWP.seq ?_
  refine AWP.region ?_
  refine ARun.call (lit_lt rfl) go_29 rfl (selV_lives _) ?_
  rintro _ S2 ⟨rfl, h1⟩
  rw [h1]; clear h1 S2
  refine rC (Calm.move rfl) ?_
  first | refine rS 54 ?_ | refine rU 54 ?_ | refine rG 54 (Calm.move rfl) ?_
  first | refine rS 54 ?_ | refine rU 54 ?_ | refine rG 54 (Calm.move rfl) ?_
  first | refine rS 54 ?_ | refine rU 54 ?_ | refine rG 54 (Calm.bin rfl rfl (bin_bool b_eql (decide_eq_true rfl))) ?_
  refine rC ((by first | exact Calm.pickT rfl rfl | exact Calm.pickF rfl rfl)) ?_
  refine rC (Calm.move rfl) ?_
  first | refine rS 59 ?_ | refine rU 59 ?_ | refine rG 59 (Calm.move rfl) ?_
  first | refine rS 59 ?_ | refine rU 59 ?_ | refine rG 59 (Calm.move rfl) ?_
  first | refine rS 59 ?_ | refine rU 59 ?_ | refine rG 59 (Calm.bin rfl rfl (bin_bool b_eql (decide_eq_true rfl))) ?_
  refine rC ((by first | exact Calm.pickT rfl rfl | exact Calm.pickF rfl rfl)) ?_
  refine rC (Calm.move rfl) ?_
  first | refine rS 64 ?_ | refine rU 64 ?_ | refine rG 64 (Calm.move rfl) ?_
  first | refine rS 64 ?_ | refine rU 64 ?_ | refine rG 64 (Calm.move rfl) ?_
  first | refine rS 64 ?_ | refine rU 64 ?_ | refine rG 64 (Calm.bin rfl rfl (bin_bool b_eql (decide_eq_true rfl))) ?_
  refine rC ((by first | exact Calm.pickT rfl rfl | exact Calm.pickF rfl rfl)) ?_
  refine rC (Calm.move rfl) ?_
  first | refine rS 69 ?_ | refine rU 69 ?_ | refine rG 69 (Calm.move rfl) ?_
  first | refine rS 69 ?_ | refine rU 69 ?_ | refine rG 69 (Calm.move rfl) ?_
  first | refine rS 69 ?_ | refine rU 69 ?_ | refine rG 69 (Calm.bin rfl rfl (bin_bool b_eql (decide_eq_true rfl))) ?_
  refine rC ((by first | exact Calm.pickT rfl rfl | exact Calm.pickF rfl rfl)) ?_
  refine rC (Calm.move rfl) ?_
  first | refine rS 74 ?_ | refine rU 74 ?_ | refine rG 74 (Calm.move rfl) ?_
  first | refine rS 74 ?_ | refine rU 74 ?_ | refine rG 74 (Calm.move rfl) ?_
  first | refine rS 74 ?_ | refine rU 74 ?_ | refine rG 74 (Calm.bin rfl rfl (bin_bool b_eql (decide_eq_true rfl))) ?_
  refine rC ((by first | exact Calm.pickT rfl rfl | exact Calm.pickF rfl rfl)) ?_
  refine rC (Calm.move rfl) ?_
  first | refine rS 79 ?_ | refine rU 79 ?_ | refine rG 79 (Calm.move rfl) ?_
  first | refine rS 79 ?_ | refine rU 79 ?_ | refine rG 79 (Calm.move rfl) ?_
  first | refine rS 79 ?_ | refine rU 79 ?_ | refine rG 79 (Calm.bin rfl rfl (bin_bool b_eql (decide_eq_true rfl))) ?_
  refine rC ((by first | exact Calm.pickT rfl rfl | exact Calm.pickF rfl rfl)) ?_
  refine rC (Calm.assign rfl) ?_
  refine arun_nil ?_
  refine athen_n ?_
  refine AWP.sub [(0, _), (1, _), (2, _), (4, _), (5, _), (6, _), (7, _), (8, _), (9, _), (10, _), (11, _), (12, _), (13, _), (14, _), (15, _), (16, _)] ⟨rfl, rfl, rfl, rfl, rfl, rfl, rfl, rfl, rfl, rfl, rfl, rfl, rfl, rfl, rfl, rfl, trivial⟩ ?_
  refine AWP.ret ?_
  refine ⟨_, _, ⟨_, _, rfl, rfl, rfl⟩, less_, ?_⟩
  rfl
end Go.Proofs.Ytddabbfjoejalaa
