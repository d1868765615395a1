/-
  Num: the laws NumFives, NumShorts, NumRecords walked.
-/
import Derived.Test.YtpeljbmbgjeomaaVNum8
import Derived.Test.YtpeljbmbgjeomaaViewLaw
namespace Go.Proofs.Ytpeljbmbgjeomaa
open Go.RowKit
open Mv Num
set_option linter.unusedVariables false
set_option linter.unusedSimpArgs false
set_option maxHeartbeats 1000000 in
theorem law_NumFives (n : Nat) (s : ByteArray) (S : Mem) (hn : n < 18446744073709551616) (hs : s.size ≤ 9223372036854775807) :
    ACall Try.prog 7 #[.int .u64 n, .string s] S fun r S' => r = .bool true := by
  refine ACall.enter (args := [.int .u64 n, .string s]) (rs := [.tmp 4]) 54 [(0, .int .u64 n), (1, .string s)] Try.func7 rfl rfl (Nat.le_of_ble_eq_true rfl) rfl ⟨rfl, rfl, trivial⟩ ?_
  refine AWP.seq ?_
  refine AWP.region ?_
  refine rC (Calm.assign rfl) ?_
  refine arun_nil ?_
  refine athen_n ?_
  refine AWP.seq ?_
  refine AWP.region ?_
  refine rC (Calm.move rfl) ?_
  refine ARun.call (lit_lt rfl) go_31 rfl (numV_Put n S hn) ?_
  rintro _ S1 ⟨rfl, h1⟩
  rw [h1]; clear h1 S1
  refine rC (Calm.move rfl) ?_
  refine rC (Calm.extract rfl rfl) ?_
  refine rC (Calm.extract rfl rfl) ?_
  refine rC (Calm.assign rfl) ?_
  refine rC (Calm.assign rfl) ?_
  refine arun_nil ?_
  refine athen_n ?_
  refine AWP.sub [(0, _), (1, _), (4, _), (5, _), (6, _)] ⟨rfl, rfl, rfl, rfl, rfl, trivial⟩ ?_
  refine AWP.seq ?_
  refine AWP.region ?_
  refine rC (Calm.move rfl) ?_
  refine ARun.call (lit_lt rfl) go_32 rfl (rnumV_Put n S hn) ?_
  rintro _ S1 ⟨rfl, h1⟩
  rw [h1]; clear h1 S1
  refine rC (Calm.move rfl) ?_
  refine rC (Calm.extract rfl rfl) ?_
  refine rC (Calm.extract rfl rfl) ?_
  refine rC (Calm.assign rfl) ?_
  refine rC (Calm.assign rfl) ?_
  refine arun_nil ?_
  refine athen_n ?_
  refine AWP.sub [(0, _), (1, _), (4, _), (5, _), (6, _), (7, _), (8, _)] ⟨rfl, rfl, rfl, rfl, rfl, rfl, rfl, trivial⟩ ?_
  refine AWP.seq ?_
  refine AWP.region ?_
  refine rC (Calm.move rfl) ?_
  refine ARun.call (lit_lt rfl) go_33 rfl (numV_Get s S hs) ?_
  rintro _ S1 ⟨rfl, h1⟩
  rw [h1]; clear h1 S1
  refine rC (Calm.move rfl) ?_
  refine rC (Calm.extract rfl rfl) ?_
  refine rC (Calm.extract rfl rfl) ?_
  refine rC (Calm.assign rfl) ?_
  refine rC (Calm.assign rfl) ?_
  refine arun_nil ?_
  refine athen_n ?_
  refine AWP.sub [(0, _), (1, _), (4, _), (5, _), (6, _), (7, _), (8, _), (9, _), (10, _)] ⟨rfl, rfl, rfl, rfl, rfl, rfl, rfl, rfl, rfl, trivial⟩ ?_
  refine AWP.seq ?_
  refine AWP.region ?_
  refine rC (Calm.move rfl) ?_
  refine ARun.call (lit_lt rfl) go_34 rfl (rnumV_Get s S hs) ?_
  rintro _ S1 ⟨rfl, h1⟩
  rw [h1]; clear h1 S1
  refine rC (Calm.move rfl) ?_
  refine rC (Calm.extract rfl rfl) ?_
  refine rC (Calm.extract rfl rfl) ?_
  refine rC (Calm.assign rfl) ?_
  refine rC (Calm.assign rfl) ?_
  refine arun_nil ?_
  refine athen_n ?_
  refine AWP.sub [(0, _), (1, _), (4, _), (5, _), (6, _), (7, _), (8, _), (9, _), (10, _), (11, _), (12, _)] ⟨rfl, rfl, rfl, rfl, rfl, rfl, rfl, rfl, rfl, rfl, rfl, trivial⟩ ?_
  refine AWP.seq ?_
  refine AWP.region ?_
  refine ARun.call (lit_lt rfl) go_35 rfl (numV_lives S) ?_
  rintro _ S1 ⟨rfl, h1⟩
  rw [h1]; clear h1 S1
  refine rC (Calm.move rfl) ?_
  first | refine rS 34 ?_ | refine rU 34 ?_ | refine rG 34 (Calm.move rfl) ?_
  first | refine rS 34 ?_ | refine rU 34 ?_ | refine rG 34 (Calm.move rfl) ?_
  first | refine rS 34 ?_ | refine rU 34 ?_ | refine rG 34 (Calm.bin rfl rfl (bin_bool (bin_str_eql _ _) (decide_eq_true rfl))) ?_
  refine rC ((by first | exact Calm.pickT rfl rfl | exact Calm.pickF rfl rfl)) ?_
  refine rC (Calm.move rfl) ?_
  first | refine rS 39 ?_ | refine rU 39 ?_ | refine rG 39 (Calm.move rfl) ?_
  first | refine rS 39 ?_ | refine rU 39 ?_ | refine rG 39 (Calm.move rfl) ?_
  first | refine rS 39 ?_ | refine rU 39 ?_ | refine rG 39 (Calm.bin rfl rfl b_eql) ?_
  refine rC ((by first | exact Calm.pickT rfl rfl | exact Calm.pickF rfl rfl)) ?_
  refine rC (Calm.move rfl) ?_
  first | refine rS 44 ?_ | refine rU 44 ?_ | refine rG 44 (Calm.move rfl) ?_
  first | refine rS 44 ?_ | refine rU 44 ?_ | refine rG 44 (Calm.move rfl) ?_
  first | refine rS 44 ?_ | refine rU 44 ?_ | refine rG 44 (Calm.bin rfl rfl b_eql) ?_
  refine rC ((by first | exact Calm.pickT rfl rfl | exact Calm.pickF rfl rfl)) ?_
  refine rC (Calm.move rfl) ?_
  first | refine rS 49 ?_ | refine rU 49 ?_ | refine rG 49 (Calm.move rfl) ?_
  first | refine rS 49 ?_ | refine rU 49 ?_ | refine rG 49 (Calm.move rfl) ?_
  first | refine rS 49 ?_ | refine rU 49 ?_ | refine rG 49 (Calm.bin rfl rfl b_eql) ?_
  refine rC ((by first | exact Calm.pickT rfl rfl | exact Calm.pickF rfl rfl)) ?_
  refine rC (Calm.assign rfl) ?_
  refine arun_nil ?_
  refine athen_n ?_
  refine AWP.sub [(0, _), (1, _), (4, _), (5, _), (6, _), (7, _), (8, _), (9, _), (10, _), (11, _), (12, _)] ⟨rfl, rfl, rfl, rfl, rfl, rfl, rfl, rfl, rfl, rfl, rfl, trivial⟩ ?_
  refine AWP.ret ?_
  refine ⟨_, _, ⟨_, _, rfl, rfl, rfl⟩, less_, ?_⟩
  rfl
set_option maxHeartbeats 1000000 in
theorem law_NumShorts (n : Nat) (s : ByteArray) (S : Mem) (hn : n < 18446744073709551616) (hs : s.size ≤ 9223372036854775807) :
    ACall Try.prog 8 #[.int .u64 n, .string s] S fun r S' => r = .bool true := by
  refine ACall.enter (args := [.int .u64 n, .string s]) (rs := [.tmp 4]) 63 [(0, .int .u64 n), (1, .string s)] Try.func8 rfl rfl (Nat.le_of_ble_eq_true rfl) rfl ⟨rfl, rfl, trivial⟩ ?_
  refine AWP.seq ?_
  refine AWP.region ?_
  refine rC (Calm.assign rfl) ?_
  refine arun_nil ?_
  refine athen_n ?_
  refine AWP.seq ?_
  refine AWP.region ?_
  refine rC (Calm.move rfl) ?_
  refine ARun.call (lit_lt rfl) go_36 rfl (numV_Short n S hn) ?_
  rintro _ S1 ⟨rfl, h1⟩
  rw [h1]; clear h1 S1
  refine rC (Calm.move rfl) ?_
  refine rC (Calm.extract rfl rfl) ?_
  refine rC (Calm.extract rfl rfl) ?_
  refine rC (Calm.assign rfl) ?_
  refine rC (Calm.assign rfl) ?_
  refine arun_nil ?_
  refine athen_n ?_
  refine AWP.sub [(0, _), (1, _), (4, _), (5, _), (6, _)] ⟨rfl, rfl, rfl, rfl, rfl, trivial⟩ ?_
  refine AWP.seq ?_
  refine AWP.region ?_
  refine rC (Calm.move rfl) ?_
  refine ARun.call (lit_lt rfl) go_37 rfl (rnumV_Short n S hn) ?_
  rintro _ S1 ⟨rfl, h1⟩
  rw [h1]; clear h1 S1
  refine rC (Calm.move rfl) ?_
  refine rC (Calm.extract rfl rfl) ?_
  refine rC (Calm.extract rfl rfl) ?_
  refine rC (Calm.assign rfl) ?_
  refine rC (Calm.assign rfl) ?_
  refine arun_nil ?_
  refine athen_n ?_
  refine AWP.sub [(0, _), (1, _), (4, _), (5, _), (6, _), (7, _), (8, _)] ⟨rfl, rfl, rfl, rfl, rfl, rfl, rfl, trivial⟩ ?_
  refine AWP.seq ?_
  refine AWP.region ?_
  refine rC (Calm.move rfl) ?_
  refine ARun.call (lit_lt rfl) go_38 rfl (numV_Read s S hs) ?_
  rintro _ S1 ⟨rfl, h1⟩
  rw [h1]; clear h1 S1
  refine rC (Calm.move rfl) ?_
  refine rC (Calm.extract rfl rfl) ?_
  refine rC (Calm.extract rfl rfl) ?_
  refine rC (Calm.extract rfl rfl) ?_
  refine rC (Calm.assign rfl) ?_
  refine rC (Calm.assign rfl) ?_
  refine rC (Calm.assign rfl) ?_
  refine arun_nil ?_
  refine athen_n ?_
  refine AWP.sub [(0, _), (1, _), (4, _), (5, _), (6, _), (7, _), (8, _), (9, _), (10, _), (11, _)] ⟨rfl, rfl, rfl, rfl, rfl, rfl, rfl, rfl, rfl, rfl, trivial⟩ ?_
  refine AWP.seq ?_
  refine AWP.region ?_
  refine rC (Calm.move rfl) ?_
  refine ARun.call (lit_lt rfl) go_39 rfl (rnumV_Read s S hs) ?_
  rintro _ S1 ⟨rfl, h1⟩
  rw [h1]; clear h1 S1
  refine rC (Calm.move rfl) ?_
  refine rC (Calm.extract rfl rfl) ?_
  refine rC (Calm.extract rfl rfl) ?_
  refine rC (Calm.extract rfl rfl) ?_
  refine rC (Calm.assign rfl) ?_
  refine rC (Calm.assign rfl) ?_
  refine rC (Calm.assign rfl) ?_
  refine arun_nil ?_
  refine athen_n ?_
  refine AWP.sub [(0, _), (1, _), (4, _), (5, _), (6, _), (7, _), (8, _), (9, _), (10, _), (11, _), (12, _), (13, _), (14, _)] ⟨rfl, rfl, rfl, rfl, rfl, rfl, rfl, rfl, rfl, rfl, rfl, rfl, rfl, trivial⟩ ?_
  refine AWP.seq ?_
  refine AWP.region ?_
  refine ARun.call (lit_lt rfl) go_35 rfl (numV_lives S) ?_
  rintro _ S1 ⟨rfl, h1⟩
  rw [h1]; clear h1 S1
  refine rC (Calm.move rfl) ?_
  first | refine rS 38 ?_ | refine rU 38 ?_ | refine rG 38 (Calm.move rfl) ?_
  first | refine rS 38 ?_ | refine rU 38 ?_ | refine rG 38 (Calm.move rfl) ?_
  first | refine rS 38 ?_ | refine rU 38 ?_ | refine rG 38 (Calm.bin rfl rfl (bin_bool (bin_str_eql _ _) (decide_eq_true rfl))) ?_
  refine rC ((by first | exact Calm.pickT rfl rfl | exact Calm.pickF rfl rfl)) ?_
  refine rC (Calm.move rfl) ?_
  first | refine rS 43 ?_ | refine rU 43 ?_ | refine rG 43 (Calm.move rfl) ?_
  first | refine rS 43 ?_ | refine rU 43 ?_ | refine rG 43 (Calm.move rfl) ?_
  first | refine rS 43 ?_ | refine rU 43 ?_ | refine rG 43 (Calm.bin rfl rfl b_eql) ?_
  refine rC ((by first | exact Calm.pickT rfl rfl | exact Calm.pickF rfl rfl)) ?_
  refine rC (Calm.move rfl) ?_
  first | refine rS 48 ?_ | refine rU 48 ?_ | refine rG 48 (Calm.move rfl) ?_
  first | refine rS 48 ?_ | refine rU 48 ?_ | refine rG 48 (Calm.move rfl) ?_
  first | refine rS 48 ?_ | refine rU 48 ?_ | refine rG 48 (Calm.bin rfl rfl b_eql) ?_
  refine rC ((by first | exact Calm.pickT rfl rfl | exact Calm.pickF rfl rfl)) ?_
  refine rC (Calm.move rfl) ?_
  first | refine rS 53 ?_ | refine rU 53 ?_ | refine rG 53 (Calm.move rfl) ?_
  first | refine rS 53 ?_ | refine rU 53 ?_ | refine rG 53 (Calm.move rfl) ?_
  first | refine rS 53 ?_ | refine rU 53 ?_ | refine rG 53 (Calm.bin rfl rfl (bin_bool (bin_str_eql _ _) (decide_eq_true rfl))) ?_
  refine rC ((by first | exact Calm.pickT rfl rfl | exact Calm.pickF rfl rfl)) ?_
  refine rC (Calm.move rfl) ?_
  first | refine rS 58 ?_ | refine rU 58 ?_ | refine rG 58 (Calm.move rfl) ?_
  first | refine rS 58 ?_ | refine rU 58 ?_ | refine rG 58 (Calm.move rfl) ?_
  first | refine rS 58 ?_ | refine rU 58 ?_ | refine rG 58 (Calm.bin rfl rfl b_eql) ?_
  refine rC ((by first | exact Calm.pickT rfl rfl | exact Calm.pickF rfl rfl)) ?_
  refine rC (Calm.assign rfl) ?_
  refine arun_nil ?_
  refine athen_n ?_
  refine AWP.sub [(0, _), (1, _), (4, _), (5, _), (6, _), (7, _), (8, _), (9, _), (10, _), (11, _), (12, _), (13, _), (14, _)] ⟨rfl, rfl, rfl, rfl, rfl, rfl, rfl, rfl, rfl, rfl, rfl, rfl, rfl, trivial⟩ ?_
  refine AWP.ret ?_
  refine ⟨_, _, ⟨_, _, rfl, rfl, rfl⟩, less_, ?_⟩
  rfl
set_option maxHeartbeats 1000000 in
theorem law_NumRecords (l m : List Nat) (vl vm : Value) (s : ByteArray) (w : Int) (S : Mem) (hl : Sl 1 u64s S vl l) (hm : Sl 1 u64s S vm m) (hlb : ∀ x ∈ l, x < 18446744073709551616) (hs : s.size ≤ 16777216) :
    ACall Try.prog 9 #[vl, vm, .string s, .int .i64 w] S fun r S' => r = .bool true := by
  refine ACall.enter (args := [vl, vm, .string s, .int .i64 w]) (rs := [.tmp 8]) 69 [(0, vl), (1, vm), (2, .string s), (3, .int .i64 w)] Try.func9 rfl rfl (Nat.le_of_ble_eq_true rfl) rfl ⟨rfl, rfl, rfl, rfl, trivial⟩ ?_
  refine AWP.seq ?_
  refine AWP.region ?_
  refine rC (Calm.assign rfl) ?_
  refine arun_nil ?_
  refine athen_n ?_
  refine AWP.seq ?_
  refine AWP.region ?_
  refine rC (Calm.move rfl) ?_
  refine ARun.call (lit_lt rfl) go_40 rfl (numV_Record l vl S hl hlb) ?_
  rintro _ S1 ⟨rfl, h1⟩
  rw [h1]; clear h1 S1
  refine rC (Calm.move rfl) ?_
  refine rC (Calm.extract rfl rfl) ?_
  refine rC (Calm.extract rfl rfl) ?_
  refine rC (Calm.assign rfl) ?_
  refine rC (Calm.assign rfl) ?_
  refine arun_nil ?_
  refine athen_n ?_
  refine AWP.sub [(0, _), (1, _), (2, _), (3, _), (8, _), (9, _), (10, _)] ⟨rfl, rfl, rfl, rfl, rfl, rfl, rfl, trivial⟩ ?_
  refine AWP.seq ?_
  refine AWP.region ?_
  refine rC (Calm.move rfl) ?_
  refine ARun.call (lit_lt rfl) go_41 rfl (rnumV_Record l vl S hl hlb) ?_
  rintro _ S1 ⟨rfl, h1⟩
  rw [h1]; clear h1 S1
  refine rC (Calm.move rfl) ?_
  refine rC (Calm.extract rfl rfl) ?_
  refine rC (Calm.extract rfl rfl) ?_
  refine rC (Calm.assign rfl) ?_
  refine rC (Calm.assign rfl) ?_
  refine arun_nil ?_
  refine athen_n ?_
  refine AWP.sub [(0, _), (1, _), (2, _), (3, _), (8, _), (9, _), (10, _), (11, _), (12, _)] ⟨rfl, rfl, rfl, rfl, rfl, rfl, rfl, rfl, rfl, trivial⟩ ?_
  refine AWP.seq ?_
  refine AWP.region ?_
  refine rC (Calm.move rfl) ?_
  refine rC (Calm.move rfl) ?_
  refine ARun.call (lit_lt rfl) go_42 rfl (numV_Split s w S hs) ?_
  rintro _ S1 ⟨v1, rfl, hS1, hv1⟩
  refine rC (Calm.move rfl) ?_
  refine rC (Calm.extract rfl rfl) ?_
  refine rC (Calm.extract rfl rfl) ?_
  refine rC (Calm.assign rfl) ?_
  refine rC (Calm.assign rfl) ?_
  refine arun_nil ?_
  refine athen_n ?_
  refine AWP.sub [(0, _), (1, _), (2, _), (3, _), (8, _), (9, _), (10, _), (11, _), (12, _), (13, _), (14, _)] ⟨rfl, rfl, rfl, rfl, rfl, rfl, rfl, rfl, rfl, rfl, rfl, trivial⟩ ?_
  refine AWP.seq ?_
  refine AWP.region ?_
  refine rC (Calm.move rfl) ?_
  refine rC (Calm.move rfl) ?_
  refine ARun.call (lit_lt rfl) go_43 rfl (rnumV_Split s w S1 hs) ?_
  rintro _ S2 ⟨v2, rfl, hS2, hv2⟩
  refine rC (Calm.move rfl) ?_
  refine rC (Calm.extract rfl rfl) ?_
  refine rC (Calm.extract rfl rfl) ?_
  refine rC (Calm.assign rfl) ?_
  refine rC (Calm.assign rfl) ?_
  refine arun_nil ?_
  refine athen_n ?_
  refine AWP.sub [(0, _), (1, _), (2, _), (3, _), (8, _), (9, _), (10, _), (11, _), (12, _), (13, _), (14, _), (15, _), (16, _)] ⟨rfl, rfl, rfl, rfl, rfl, rfl, rfl, rfl, rfl, rfl, rfl, rfl, rfl, trivial⟩ ?_
  refine AWP.seq ?_
  refine AWP.region ?_
  refine ARun.call (lit_lt rfl) go_35 rfl (numV_lives S2) ?_
  rintro _ S3 ⟨rfl, h1⟩
  rw [h1]; clear h1 S3
  refine rC (Calm.move rfl) ?_
  first | refine rS 40 ?_ | refine rU 40 ?_ | refine rG 40 (Calm.move rfl) ?_
  first | refine rS 40 ?_ | refine rU 40 ?_ | refine rG 40 (Calm.move rfl) ?_
  first | refine rS 40 ?_ | refine rU 40 ?_ | refine rG 40 (Calm.bin rfl rfl (bin_bool (bin_str_eql _ _) (decide_eq_true rfl))) ?_
  refine rC ((by first | exact Calm.pickT rfl rfl | exact Calm.pickF rfl rfl)) ?_
  refine rC (Calm.move rfl) ?_
  first | refine rS 45 ?_ | refine rU 45 ?_ | refine rG 45 (Calm.move rfl) ?_
  first | refine rS 45 ?_ | refine rU 45 ?_ | refine rG 45 (Calm.move rfl) ?_
  first | refine rS 45 ?_ | refine rU 45 ?_ | refine rG 45 (Calm.bin rfl rfl b_eql) ?_
  refine rC ((by first | exact Calm.pickT rfl rfl | exact Calm.pickF rfl rfl)) ?_
  refine rC (Calm.move rfl) ?_
  first | refine rS 50 ?_ | refine rU 50 ?_ | refine rG 50 (Calm.move rfl) ?_
  first | refine rS 50 ?_ | refine rU 50 ?_ | refine rG 50 (Calm.move rfl) ?_
  refine ARun.callG 11 true 50 rfl (lit_lt rfl) rfl (lit_lt rfl) go_44 rfl (rnumV_Same (splitL s w) (splitL s w) v1 v2 S2 (hv1.less rowR_less hS2) hv2) ?_
  rintro _ S3 ⟨rfl, h1⟩
  rw [h1, decide_eq_true (Eq.refl _)]; clear h1 S3
  refine rC ((by first | exact Calm.pickT rfl rfl | exact Calm.pickF rfl rfl)) ?_
  refine rC (Calm.move rfl) ?_
  first | refine rS 55 ?_ | refine rU 55 ?_ | refine rG 55 (Calm.move rfl) ?_
  first | refine rS 55 ?_ | refine rU 55 ?_ | refine rG 55 (Calm.move rfl) ?_
  first | refine rS 55 ?_ | refine rU 55 ?_ | refine rG 55 (Calm.bin rfl rfl b_eql) ?_
  refine rC ((by first | exact Calm.pickT rfl rfl | exact Calm.pickF rfl rfl)) ?_
  refine rC (Calm.move rfl) ?_
  first | refine rS 60 ?_ | refine rU 60 ?_ | refine rG 60 (Calm.move rfl) ?_
  first | refine rS 60 ?_ | refine rU 60 ?_ | refine rG 60 (Calm.move rfl) ?_
  refine ARun.callG 21 true 60 rfl (lit_lt rfl) rfl (lit_lt rfl) go_45 rfl (numV_Less l m vl vm S2 (hl.less (hS1.trans hS2)) (hm.less (hS1.trans hS2))) ?_
  rintro _ S3 ⟨rfl, h1⟩
  rw [h1]; clear h1 S3
  first | refine rS 60 ?_ | refine rU 60 ?_ | refine rG 60 (Calm.move rfl) ?_
  first | refine rS 60 ?_ | refine rU 60 ?_ | refine rG 60 (Calm.move rfl) ?_
  refine ARun.callG 21 true 60 rfl (lit_lt rfl) rfl (lit_lt rfl) go_46 rfl (rnumV_Less l m vl vm S2 (hl.less (hS1.trans hS2)) (hm.less (hS1.trans hS2))) ?_
  rintro _ S3 ⟨rfl, h1⟩
  rw [h1]; clear h1 S3
  first | refine rS 60 ?_ | refine rU 60 ?_ | refine rG 60 (Calm.bin rfl rfl (bin_bool (bin_bool_eql _ _ Try.underlying4) (beq_self_eq_true _))) ?_
  refine rC ((by first | exact Calm.pickT rfl rfl | exact Calm.pickF rfl rfl)) ?_
  refine rC (Calm.assign rfl) ?_
  refine arun_nil ?_
  refine athen_n ?_
  refine AWP.sub [(0, _), (1, _), (2, _), (3, _), (8, _), (9, _), (10, _), (11, _), (12, _), (13, _), (14, _), (15, _), (16, _)] ⟨rfl, rfl, rfl, rfl, rfl, rfl, rfl, rfl, rfl, rfl, rfl, rfl, rfl, trivial⟩ ?_
  refine AWP.ret ?_
  refine ⟨_, _, ⟨_, _, rfl, rfl, rfl⟩, less_, ?_⟩
  rfl
theorem u64_nat {a : Int} (h : (Lit.int .u64 a).wf = true) : ∃ n : Nat, a = n ∧ n < 18446744073709551616 := ⟨a.toNat, by have := wfu64 h; omega, by have := wfu64 h; omega⟩
theorem walk_NumFives (a : Int) (s : ByteArray) (w : World) (ha : (Lit.int .u64 a).wf = true) (hs : s.size ≤ maxLen) :
    Calls Try.prog 7 #[.int .u64 a, .string s] w fun e w' => e = .returned (.bool true) ∧ Below w.heap.size w w' := by
  obtain ⟨n, rfl, hn⟩ := u64_nat ha
  exact ACall.callsW (law_NumFives n s _ hn (by unfold maxLen at hs; omega))
theorem walk_NumShorts (a : Int) (s : ByteArray) (w : World) (ha : (Lit.int .u64 a).wf = true) (hs : s.size ≤ maxLen) :
    Calls Try.prog 8 #[.int .u64 a, .string s] w fun e w' => e = .returned (.bool true) ∧ Below w.heap.size w w' := by
  obtain ⟨n, rfl, hn⟩ := u64_nat ha
  exact ACall.callsW (law_NumShorts n s _ hn (by unfold maxLen at hs; omega))
theorem walk_NumRecords (p0 : Option Addr) (n0 c0 : Nat) (l : List Nat) (p1 : Option Addr) (n1 c1 : Nat) (m : List Nat) (s : ByteArray) (a : Int) (w : World)
    (hl : Sl 1 (fun x : Nat => [.int .u64 (x : Int)]) (roM w) (.slice p0 n0 c0) l) (hlb : ∀ x ∈ l, x < 18446744073709551616) (hm : Sl 1 (fun x : Nat => [.int .u64 (x : Int)]) (roM w) (.slice p1 n1 c1) m) (hmb : ∀ x ∈ m, x < 18446744073709551616) (hs : s.size ≤ maxLen) (hz : s.size ≤ 1048576) (ha : (Lit.int .i64 a).wf = true) :
    Calls Try.prog 9 #[.slice p0 n0 c0, .slice p1 n1 c1, .string s, .int .i64 a] w fun e w' => e = .returned (.bool true) ∧ Below w.heap.size w w' :=
  ACall.callsW (law_NumRecords l m _ _ s a _ hl hm hlb (by omega))
end Go.Proofs.Ytpeljbmbgjeomaa
