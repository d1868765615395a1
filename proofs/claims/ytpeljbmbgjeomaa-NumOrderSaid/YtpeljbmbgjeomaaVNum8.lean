/-
  Num: the answers that each law asks for first.
-/
import Derived.Test.YtpeljbmbgjeomaaVNum7
namespace Go.Proofs.Ytpeljbmbgjeomaa
open Go.RowKit
open Mv Num
set_option linter.unusedVariables false
set_option linter.unusedSimpArgs false
theorem bs_two (l m : List UInt8) : (bs l ++ bs m) = bs (l ++ m) := bs_append l m
set_option maxHeartbeats 4000000 in
set_option maxRecDepth 10000 in
theorem numV_lives (S : Mem) : ACall Try.prog 35 #[] S fun r S' => r = .bool true ∧ S' = S := by
  have e1 : pairV (recP [300]) = two (bs [0, 0, 0, 1, 44]) 0 := by kernel_rfl
  have e2 : getV (Num.getP (bs [0, 0, 0, 1, 44])) = .tuple #[.int .u64 300, .int .i64 0] := by kernel_rfl
  have e3 : pairV (shortP 300) = two (bs [172, 2]) 0 := by kernel_rfl
  have e4 : readV (readP (bs [172, 2, 120])) = .tuple #[.int .u64 300, .string (bs [120]), .int .i64 0] := by kernel_rfl
  have e5 : pairV (recP [1, 2]) = two (bs [0, 0, 0, 0, 1, 0, 0, 0, 0, 2]) 0 := by kernel_rfl
  have e6 : splitE (bs [0, 0, 0, 0, 1, 0, 0, 0, 0, 2, 0, 0, 0, 0, 1, 0, 0, 0, 0, 2]) 2 = 0 ∧ (splitL (bs [0, 0, 0, 0, 1, 0, 0, 0, 0, 2, 0, 0, 0, 0, 1, 0, 0, 0, 0, 2]) 2).length = 2 := ⟨by kernel_rfl, by kernel_rfl⟩
  have e7 : pairV (recP [1099511627776]) = two (bs []) 1 := by kernel_rfl
  have e8 : readV (readP (bs [128, 0])) = .tuple #[.int .u64 0, .string (bs []), .int .i64 7] := by kernel_rfl
  have e9 : readV (readP (bs [128])) = .tuple #[.int .u64 0, .string (bs []), .int .i64 5] := by kernel_rfl
  have e10 : lessB [1] [1, 0] = true := rfl
  refine ACall.enter (args := []) (rs := [.tmp 0]) 137 [] Try.func35 rfl rfl (Nat.le_of_ble_eq_true rfl) rfl trivial ?_
  refine AWP.seq ?_
  refine AWP.region ?_
  refine rC (Calm.assign rfl) ?_
  refine arun_nil ?_
  refine athen_n ?_
  refine AWP.seq ?_
  refine AWP.region ?_
  refine ARun.call (lit_lt rfl) go_31 rfl (numV_Put 300 _ (by omega)) ?_
  rintro _ S1 ⟨rfl, h1⟩
  rw [h1, e1]; clear h1 S1
  refine rC (Calm.move rfl) ?_
  refine rC (Calm.extract rfl rfl) ?_
  refine rC (Calm.extract rfl rfl) ?_
  refine rC (Calm.assign rfl) ?_
  refine rC (Calm.assign rfl) ?_
  refine arun_nil ?_
  refine athen_n ?_
  refine AWP.sub [(0, _), (1, _), (2, _)] ⟨rfl, rfl, rfl, trivial⟩ ?_
  refine AWP.seq ?_
  refine AWP.region ?_
  refine rC (Calm.move rfl) ?_
  refine ARun.call (lit_lt rfl) go_33 rfl (numV_Get (bs [0, 0, 0, 1, 44]) _ (by rw [bs_size]; decide)) ?_
  rintro _ S1 ⟨rfl, h1⟩
  rw [h1, e2]; clear h1 S1
  refine rC (Calm.move rfl) ?_
  refine rC (Calm.extract rfl rfl) ?_
  refine rC (Calm.extract rfl rfl) ?_
  refine rC (Calm.assign rfl) ?_
  refine rC (Calm.assign rfl) ?_
  refine arun_nil ?_
  refine athen_n ?_
  refine AWP.sub [(0, _), (1, _), (2, _), (3, _), (4, _)] ⟨rfl, rfl, rfl, rfl, rfl, trivial⟩ ?_
  refine AWP.seq ?_
  refine AWP.region ?_
  refine ARun.call (lit_lt rfl) go_36 rfl (numV_Short 300 _ (by omega)) ?_
  rintro _ S1 ⟨rfl, h1⟩
  rw [h1, e3]; clear h1 S1
  refine rC (Calm.move rfl) ?_
  refine rC (Calm.extract rfl rfl) ?_
  refine rC (Calm.extract rfl rfl) ?_
  refine rC (Calm.assign rfl) ?_
  refine rC (Calm.assign rfl) ?_
  refine arun_nil ?_
  refine athen_n ?_
  refine AWP.sub [(0, _), (1, _), (2, _), (3, _), (4, _), (5, _), (6, _)] ⟨rfl, rfl, rfl, rfl, rfl, rfl, rfl, trivial⟩ ?_
  refine AWP.seq ?_
  refine AWP.region ?_
  refine rC (Calm.move rfl) ?_
  refine rC (Calm.bin rfl rfl (bin_str_add (a := bs [172, 2]) (b := bs [120]) (by rw [bs_size, bs_size]; decide))) ?_
  rw [bs_append]
  refine ARun.call (lit_lt rfl) go_38 rfl (numV_Read (bs [172, 2, 120]) _ (by rw [bs_size]; decide)) ?_
  rintro _ S1 ⟨rfl, h1⟩
  rw [h1, e4]; clear h1 S1
  refine rC (Calm.move rfl) ?_
  refine rC (Calm.extract rfl rfl) ?_
  refine rC (Calm.extract rfl rfl) ?_
  refine rC (Calm.extract rfl rfl) ?_
  refine rC (Calm.assign rfl) ?_
  refine rC (Calm.assign rfl) ?_
  refine rC (Calm.assign rfl) ?_
  refine arun_nil ?_
  refine athen_n ?_
  refine AWP.sub [(0, _), (1, _), (2, _), (3, _), (4, _), (5, _), (6, _), (7, _), (8, _), (9, _)] ⟨rfl, rfl, rfl, rfl, rfl, rfl, rfl, rfl, rfl, rfl, trivial⟩ ?_
  refine AWP.seq ?_
  refine AWP.region ?_
  refine ARun.buildN (cs := [_, _]) (lit_lt rfl) ty_sl_49 rfl rfl rfl rfl ?_
  intro b43 f43
  have g43 := f43
  repeat ((with_reducible replace g43 := fresh_set g43); obtain ⟨g43, _⟩ := g43)
  refine ARun.call (lit_lt rfl) go_40 rfl (numV_Record [1, 2] _ _ (sl_u64 own_ rfl (by omega) (by omega)) (by decide)) ?_
  rintro _ S1 ⟨rfl, h1⟩
  rw [h1, e5]; clear h1 S1
  refine rC (Calm.move rfl) ?_
  refine rC (Calm.extract rfl rfl) ?_
  refine rC (Calm.extract rfl rfl) ?_
  refine rC (Calm.assign rfl) ?_
  refine rC (Calm.assign rfl) ?_
  refine arun_nil ?_
  refine athen_n ?_
  refine AWP.sub [(0, _), (1, _), (2, _), (3, _), (4, _), (5, _), (6, _), (7, _), (8, _), (9, _), (10, _), (11, _)] ⟨rfl, rfl, rfl, rfl, rfl, rfl, rfl, rfl, rfl, rfl, rfl, rfl, trivial⟩ ?_
  refine AWP.seq ?_
  refine AWP.region ?_
  refine rC (Calm.move rfl) ?_
  refine rC (Calm.move rfl) ?_
  refine rC (Calm.bin rfl rfl (bin_str_add (a := bs [0, 0, 0, 0, 1, 0, 0, 0, 0, 2]) (b := bs [0, 0, 0, 0, 1, 0, 0, 0, 0, 2]) (by rw [bs_size]; decide))) ?_
  rw [bs_append]
  refine ARun.call (lit_lt rfl) go_42 rfl (numV_Split (bs [0, 0, 0, 0, 1, 0, 0, 0, 0, 2, 0, 0, 0, 0, 1, 0, 0, 0, 0, 2]) 2 _ (by rw [bs_size]; decide)) ?_
  rintro _ S1 ⟨v12, rfl, hS1, hs, hsl, ⟨pa, ca, rfl, _⟩, _⟩
  rw [e6.1]; rw [hsl, e6.2]
  refine rC (Calm.move rfl) ?_
  refine rC (Calm.extract rfl rfl) ?_
  refine rC (Calm.extract rfl rfl) ?_
  refine rC (Calm.assign rfl) ?_
  refine rC (Calm.assign rfl) ?_
  refine arun_nil ?_
  refine athen_n ?_
  refine AWP.sub [(0, _), (1, _), (2, _), (3, _), (4, _), (5, _), (6, _), (7, _), (8, _), (9, _), (10, _), (11, _), (12, _), (13, _)] ⟨rfl, rfl, rfl, rfl, rfl, rfl, rfl, rfl, rfl, rfl, rfl, rfl, rfl, rfl, trivial⟩ ?_
  refine AWP.seq ?_
  refine AWP.region ?_
  refine ARun.call (lit_lt rfl) go_31 rfl (numV_Put 1099511627776 _ (by omega)) ?_
  rintro _ S2 ⟨rfl, h1⟩
  rw [h1, e7]; clear h1 S2
  refine rC (Calm.move rfl) ?_
  refine rC (Calm.extract rfl rfl) ?_
  refine rC (Calm.extract rfl rfl) ?_
  refine rC (Calm.assign rfl) ?_
  refine rC (Calm.assign rfl) ?_
  refine arun_nil ?_
  refine athen_n ?_
  refine AWP.sub [(0, _), (1, _), (2, _), (3, _), (4, _), (5, _), (6, _), (7, _), (8, _), (9, _), (10, _), (11, _), (12, _), (13, _), (15, _)] ⟨rfl, rfl, rfl, rfl, rfl, rfl, rfl, rfl, rfl, rfl, rfl, rfl, rfl, rfl, rfl, trivial⟩ ?_
  refine AWP.seq ?_
  refine AWP.region ?_
  refine ARun.call (lit_lt rfl) go_38 rfl (numV_Read (bs [128, 0]) _ (by rw [bs_size]; decide)) ?_
  rintro _ S2 ⟨rfl, h1⟩
  rw [h1, e8]; clear h1 S2
  refine rC (Calm.move rfl) ?_
  refine rC (Calm.extract rfl rfl) ?_
  refine rC (Calm.extract rfl rfl) ?_
  refine rC (Calm.extract rfl rfl) ?_
  refine rC (Calm.assign rfl) ?_
  refine rC (Calm.assign rfl) ?_
  refine rC (Calm.assign rfl) ?_
  refine arun_nil ?_
  refine athen_n ?_
  refine AWP.sub [(0, _), (1, _), (2, _), (3, _), (4, _), (5, _), (6, _), (7, _), (8, _), (9, _), (10, _), (11, _), (12, _), (13, _), (15, _), (18, _)] ⟨rfl, rfl, rfl, rfl, rfl, rfl, rfl, rfl, rfl, rfl, rfl, rfl, rfl, rfl, rfl, rfl, trivial⟩ ?_
  refine AWP.seq ?_
  refine AWP.region ?_
  refine ARun.call (lit_lt rfl) go_38 rfl (numV_Read (bs [128]) _ (by rw [bs_size]; decide)) ?_
  rintro _ S2 ⟨rfl, h1⟩
  rw [h1, e9]; clear h1 S2
  refine rC (Calm.move rfl) ?_
  refine rC (Calm.extract rfl rfl) ?_
  refine rC (Calm.extract rfl rfl) ?_
  refine rC (Calm.extract rfl rfl) ?_
  refine rC (Calm.assign rfl) ?_
  refine rC (Calm.assign rfl) ?_
  refine rC (Calm.assign rfl) ?_
  refine arun_nil ?_
  refine athen_n ?_
  refine AWP.sub [(0, _), (1, _), (2, _), (3, _), (4, _), (5, _), (6, _), (7, _), (8, _), (9, _), (10, _), (11, _), (12, _), (13, _), (15, _), (18, _), (21, _)] ⟨rfl, rfl, rfl, rfl, rfl, rfl, rfl, rfl, rfl, rfl, rfl, rfl, rfl, rfl, rfl, rfl, rfl, trivial⟩ ?_
  refine AWP.seq ?_
  refine AWP.region ?_
  refine rC (Calm.move rfl) ?_
  refine rC (Calm.bin rfl rfl (bin_bool (bin_str_eql _ _) (decide_eq_true rfl))) ?_
  refine rC (Calm.move rfl) ?_
  first | refine rS 70 ?_ | refine rU 70 ?_ | refine rG 70 (Calm.move rfl) ?_
  first | refine rS 70 ?_ | refine rU 70 ?_ | refine rG 70 (Calm.bin rfl rfl b_eql) ?_
  refine rC ((by first | exact Calm.pickT rfl rfl | exact Calm.pickF rfl rfl)) ?_
  refine rC (Calm.move rfl) ?_
  first | refine rS 74 ?_ | refine rU 74 ?_ | refine rG 74 (Calm.move rfl) ?_
  first | refine rS 74 ?_ | refine rU 74 ?_ | refine rG 74 (Calm.bin rfl rfl b_eql) ?_
  refine rC ((by first | exact Calm.pickT rfl rfl | exact Calm.pickF rfl rfl)) ?_
  refine rC (Calm.move rfl) ?_
  first | refine rS 78 ?_ | refine rU 78 ?_ | refine rG 78 (Calm.move rfl) ?_
  first | refine rS 78 ?_ | refine rU 78 ?_ | refine rG 78 (Calm.bin rfl rfl b_eql) ?_
  refine rC ((by first | exact Calm.pickT rfl rfl | exact Calm.pickF rfl rfl)) ?_
  refine rC (Calm.move rfl) ?_
  first | refine rS 82 ?_ | refine rU 82 ?_ | refine rG 82 (Calm.move rfl) ?_
  first | refine rS 82 ?_ | refine rU 82 ?_ | refine rG 82 (Calm.bin rfl rfl (bin_bool (bin_str_eql _ _) (decide_eq_true rfl))) ?_
  refine rC ((by first | exact Calm.pickT rfl rfl | exact Calm.pickF rfl rfl)) ?_
  refine rC (Calm.move rfl) ?_
  first | refine rS 86 ?_ | refine rU 86 ?_ | refine rG 86 (Calm.move rfl) ?_
  first | refine rS 86 ?_ | refine rU 86 ?_ | refine rG 86 (Calm.bin rfl rfl b_eql) ?_
  refine rC ((by first | exact Calm.pickT rfl rfl | exact Calm.pickF rfl rfl)) ?_
  refine rC (Calm.move rfl) ?_
  first | refine rS 90 ?_ | refine rU 90 ?_ | refine rG 90 (Calm.move rfl) ?_
  first | refine rS 90 ?_ | refine rU 90 ?_ | refine rG 90 (Calm.bin rfl rfl b_eql) ?_
  refine rC ((by first | exact Calm.pickT rfl rfl | exact Calm.pickF rfl rfl)) ?_
  refine rC (Calm.move rfl) ?_
  first | refine rS 94 ?_ | refine rU 94 ?_ | refine rG 94 (Calm.move rfl) ?_
  first | refine rS 94 ?_ | refine rU 94 ?_ | refine rG 94 (Calm.bin rfl rfl (bin_bool (bin_str_eql _ _) (decide_eq_true rfl))) ?_
  refine rC ((by first | exact Calm.pickT rfl rfl | exact Calm.pickF rfl rfl)) ?_
  refine rC (Calm.move rfl) ?_
  first | refine rS 98 ?_ | refine rU 98 ?_ | refine rG 98 (Calm.move rfl) ?_
  first | refine rS 98 ?_ | refine rU 98 ?_ | refine rG 98 (Calm.bin rfl rfl b_eql) ?_
  refine rC ((by first | exact Calm.pickT rfl rfl | exact Calm.pickF rfl rfl)) ?_
  refine rC (Calm.move rfl) ?_
  first | refine rS 102 ?_ | refine rU 102 ?_ | refine rG 102 (Calm.move rfl) ?_
  first | refine rS 102 ?_ | refine rU 102 ?_ | refine rG 102 (Calm.as (show Value.int .i64 ((bs [0, 0, 0, 0, 1, 0, 0, 0, 0, 2]).size : Nat) = .int .i64 10 from by rw [bs_size]; rfl) (Calm.lenStr (strT_spec ty_str_9) rfl)) ?_
  first | refine rS 102 ?_ | refine rU 102 ?_ | refine rG 102 (Calm.bin rfl rfl b_eql) ?_
  refine rC ((by first | exact Calm.pickT rfl rfl | exact Calm.pickF rfl rfl)) ?_
  refine rC (Calm.move rfl) ?_
  first | refine rS 107 ?_ | refine rU 107 ?_ | refine rG 107 (Calm.move rfl) ?_
  first | refine rS 107 ?_ | refine rU 107 ?_ | refine rG 107 (Calm.bin rfl rfl b_eql) ?_
  refine rC ((by first | exact Calm.pickT rfl rfl | exact Calm.pickF rfl rfl)) ?_
  refine rC (Calm.move rfl) ?_
  first | refine rS 111 ?_ | refine rU 111 ?_ | refine rG 111 (Calm.move rfl) ?_
  first | refine rS 111 ?_ | refine rU 111 ?_ | refine rG 111 (Calm.lenSl Try.underlying51 rfl) ?_
  first | refine rS 111 ?_ | refine rU 111 ?_ | refine rG 111 (Calm.bin rfl rfl b_eql) ?_
  refine rC ((by first | exact Calm.pickT rfl rfl | exact Calm.pickF rfl rfl)) ?_
  refine rC (Calm.move rfl) ?_
  first | refine rS 116 ?_ | refine rU 116 ?_ | refine rG 116 (Calm.move rfl) ?_
  first | refine rS 116 ?_ | refine rU 116 ?_ | refine rG 116 (Calm.bin rfl rfl b_eql) ?_
  refine rC ((by first | exact Calm.pickT rfl rfl | exact Calm.pickF rfl rfl)) ?_
  refine rC (Calm.move rfl) ?_
  first | refine rS 120 ?_ | refine rU 120 ?_ | refine rG 120 (Calm.move rfl) ?_
  first | refine rS 120 ?_ | refine rU 120 ?_ | refine rG 120 (Calm.bin rfl rfl b_eql) ?_
  refine rC ((by first | exact Calm.pickT rfl rfl | exact Calm.pickF rfl rfl)) ?_
  refine rC (Calm.move rfl) ?_
  first | refine rS 124 ?_ | refine rU 124 ?_ | refine rG 124 (Calm.move rfl) ?_
  first | refine rS 124 ?_ | refine rU 124 ?_ | refine rG 124 (Calm.bin rfl rfl b_eql) ?_
  refine rC ((by first | exact Calm.pickT rfl rfl | exact Calm.pickF rfl rfl)) ?_
  refine rC (Calm.move rfl) ?_
  first | refine rS 128 ?_ | refine rU 128 ?_ | refine rG 128 (Calm.move rfl) ?_
  first | refine rS 128 ?_ | refine rU 128 ?_ | refine rG 128 (Calm.bin rfl rfl b_eql) ?_
  refine rC ((by first | exact Calm.pickT rfl rfl | exact Calm.pickF rfl rfl)) ?_
  refine rC (Calm.move rfl) ?_
  refine rUn 132 ?_
  refine ARun.build1s (lit_lt rfl) ty_sl_49 rfl rfl ?_
  intro b133 f133
  have g133 := f133
  repeat ((with_reducible replace g133 := fresh_set g133); obtain ⟨g133, _⟩ := g133)
  refine rUn 132 ?_
  refine ARun.buildN (cs := [_, _]) (lit_lt rfl) ty_sl_49 rfl rfl rfl rfl ?_
  intro b134 f134
  have g134 := f134
  repeat ((with_reducible replace g134 := fresh_set g134); obtain ⟨g134, _⟩ := g134)
  refine ARun.callG 64 true 132 rfl (lit_lt rfl) rfl (lit_lt rfl) go_45 rfl (numV_Less [1] [1, 0] _ _ _ (sl_u64 own_ rfl (by omega) (by omega)) (sl_u64 own_ rfl (by omega) (by omega))) ?_
  rintro _ S2 ⟨rfl, h1⟩
  rw [h1, e10]; clear h1 S2
  refine rC ((by first | exact Calm.pickT rfl rfl | exact Calm.pickF rfl rfl)) ?_
  refine rC (Calm.assign rfl) ?_
  refine arun_nil ?_
  refine athen_n ?_
  refine AWP.sub [(0, _), (1, _), (2, _), (3, _), (4, _), (5, _), (6, _), (7, _), (8, _), (9, _), (10, _), (11, _), (12, _), (13, _), (15, _), (18, _), (21, _)] ⟨rfl, rfl, rfl, rfl, rfl, rfl, rfl, rfl, rfl, rfl, rfl, rfl, rfl, rfl, rfl, rfl, rfl, trivial⟩ ?_
  refine AWP.ret ?_
  refine ⟨_, S, ⟨_, _, rfl, rfl, rfl⟩, (Mem.Less.trans less_ (hS1.trans less_)), ?_⟩
  exact ⟨rfl, rfl⟩
end Go.Proofs.Ytpeljbmbgjeomaa
