/-
  Num: the laws NumBack, NumOrder, NumParts walked.
-/
import Derived.Test.YtpeljbmbgjeomaaVNum9
import Derived.Test.YtpeljbmbgjeomaaNumMath3
namespace Go.Proofs.Ytpeljbmbgjeomaa
open Go.RowKit
open Mv Num
set_option linter.unusedVariables false
set_option linter.unusedSimpArgs false
theorem recOK_one (n : Nat) : recOK [n] = decide (n < top) := by simp [recOK]
theorem recP_lt {n : Nat} (h : n < top) : recP [n] = (bs (five n), 0) := by unfold recP; rw [recOK_one, decide_eq_true h, if_pos rfl]; simp [recB]
theorem recP_ge {n : Nat} (h : ¬ n < top) : recP [n] = (ByteArray.empty, 1) := by unfold recP; rw [recOK_one, decide_eq_false h, if_neg (by simp)]
theorem recP_ok {a : List Nat} (h : recOK a = true) : recP a = (bs (recB a), 0) := by unfold recP; rw [if_pos h]
theorem recP_no {a : List Nat} (h : recOK a = false) : recP a = (ByteArray.empty, 1) := by unfold recP; rw [if_neg (by rw [h]; simp)]
theorem shortP_lt {n : Nat} (h : n < top) : shortP n = (bs (shortL 5 n), 0) := by unfold shortP; rw [if_pos h]
theorem shortP_ge {n : Nat} (h : ¬ n < top) : shortP n = (ByteArray.empty, 1) := by unfold shortP; rw [if_neg h]
theorem getP_five {n : Nat} (h : n < top) : Num.getP (bs (five n)) = (n, 0) := by unfold Num.getP; rw [if_pos (by rw [bs_size]; rfl), bs_data, ofB_five n h]
theorem readP_put {n : Nat} (h : n < top) (s : ByteArray) : readV (readP (bs (shortL 5 n) ++ s)) = .tuple #[.int .u64 n, .string s, .int .i64 0] := by
  unfold readP; rw [data_append, bs_data, readP_short n h]; simp only [readV, bs_of]
set_option maxHeartbeats 2000000 in
theorem law_NumBack (n : Nat) (s : ByteArray) (S : Mem) (hn : n < 18446744073709551616) (hs : s.size < 140737488355328) :
    ACall Try.prog 10 #[.int .u64 n, .string s] S fun r S' => r = .bool true := by
  have hsl := shortL_len 5 n
  have hbsz := bs_size (shortL 5 n)
  obtain ⟨m, r, e, hr⟩ : ∃ m r e, readP s = (m, r, e) := ⟨_, _, _, rfl⟩
  have herr := readL_err _ _ _ _ _ _ hr
  have hm9 : e = 0 → m < top ∧ shortL 5 m ++ r = s.data.toList := fun h => readP_has _ _ _ (h ▸ hr)
  by_cases h : n < top
  · have h0 := h
    refine ACall.enter (args := [.int .u64 n, .string s]) (rs := [.tmp 4]) 109 [(0, .int .u64 n), (1, .string s)] Try.func10 rfl rfl (Nat.le_of_ble_eq_true rfl) rfl ⟨rfl, rfl, trivial⟩ ?_
    refine AWP.seq ?_
    refine AWP.region ?_
    refine rC (Calm.assign rfl) ?_
    refine arun_nil ?_
    refine athen_n ?_
    refine AWP.seq ?_
    refine AWP.seq ?_
    refine AWP.region ?_
    refine ARun.call (lit_lt rfl) go_35 rfl (numV_lives S) ?_
    rintro _ S1 ⟨rfl, h1⟩
    rw [h1]; clear h1 S1
    refine rC (Calm.un rfl (una_not _)) ?_
    refine arun_nil ?_
    refine athen_n ?_
    refine AWP.sub [(0, _), (1, _), (4, _), (20, _)] ⟨rfl, rfl, rfl, rfl, trivial⟩ ?_
    refine AWP.condF rfl (by first | rfl | (simp; done) | (simp; omega)) ?_
    refine AWP.skip ?_
    refine athen_n ?_
    refine AWP.seq ?_
    refine AWP.region ?_
    refine rC (Calm.move rfl) ?_
    refine ARun.call (lit_lt rfl) go_31 rfl (numV_Put n S hn) ?_
    rintro _ S1 ⟨rfl, h1⟩
    rw [h1, recP_lt h]; clear h1 S1
    refine rC (Calm.move rfl) ?_
    refine rC (Calm.extract rfl rfl) ?_
    refine rC (Calm.extract rfl rfl) ?_
    refine rC (Calm.assign rfl) ?_
    refine rC (Calm.assign rfl) ?_
    refine arun_nil ?_
    refine athen_n ?_
    refine AWP.sub [(0, _), (1, _), (4, _), (20, _), (5, _), (6, _)] ⟨rfl, rfl, rfl, rfl, rfl, rfl, trivial⟩ ?_
    refine AWP.seq ?_
    refine AWP.region ?_
    refine rC (Calm.move rfl) ?_
    refine ARun.call (lit_lt rfl) go_36 rfl (numV_Short n S hn) ?_
    rintro _ S1 ⟨rfl, h1⟩
    rw [h1, shortP_lt h]; clear h1 S1
    refine rC (Calm.move rfl) ?_
    refine rC (Calm.extract rfl rfl) ?_
    refine rC (Calm.extract rfl rfl) ?_
    refine rC (Calm.assign rfl) ?_
    refine rC (Calm.assign rfl) ?_
    refine arun_nil ?_
    refine athen_n ?_
    refine AWP.sub [(0, _), (1, _), (4, _), (20, _), (5, _), (6, _), (7, _), (8, _)] ⟨rfl, rfl, rfl, rfl, rfl, rfl, rfl, rfl, trivial⟩ ?_
    refine AWP.seq ?_
    refine AWP.seq ?_
    refine AWP.region ?_
    refine rC (Calm.move rfl) ?_
    refine rC (Calm.bin rfl rfl b_eql) ?_
    refine arun_nil ?_
    refine athen_n ?_
    refine AWP.sub [(0, _), (1, _), (4, _), (20, _), (5, _), (6, _), (7, _), (8, _), (32, _)] ⟨rfl, rfl, rfl, rfl, rfl, rfl, rfl, rfl, rfl, trivial⟩ ?_
    refine AWP.condT rfl (by first | rfl | (simp; done) | (simp; omega)) ?_
    refine AWP.seq ?_
    refine AWP.region ?_
    refine rC (Calm.move rfl) ?_
    refine ARun.call (lit_lt rfl) go_33 rfl (numV_Get (bs (five n)) S (by rw [bs_size, five_length]; decide)) ?_
    rintro _ S1 ⟨rfl, h1⟩
    rw [h1, getP_five h]; clear h1 S1
    refine rC (Calm.move rfl) ?_
    refine rC (Calm.extract rfl rfl) ?_
    refine rC (Calm.extract rfl rfl) ?_
    refine rC (Calm.assign rfl) ?_
    refine rC (Calm.assign rfl) ?_
    refine arun_nil ?_
    refine athen_n ?_
    refine AWP.sub [(0, _), (1, _), (4, _), (20, _), (5, _), (6, _), (7, _), (8, _), (32, _), (9, _), (10, _)] ⟨rfl, rfl, rfl, rfl, rfl, rfl, rfl, rfl, rfl, rfl, rfl, trivial⟩ ?_
    refine AWP.seq ?_
    refine AWP.region ?_
    refine rC (Calm.move rfl) ?_
    refine rC (Calm.move rfl) ?_
    refine rC (Calm.bin rfl rfl (bin_str_add (a := bs (shortL 5 n)) (b := s) (by omega))) ?_
    refine ARun.call (lit_lt rfl) go_38 rfl (numV_Read (bs (shortL 5 n) ++ s) S (by rw [size_append]; omega)) ?_
    rintro _ S1 ⟨rfl, h1⟩
    rw [h1, readP_put h]; clear h1 S1
    refine rC (Calm.move rfl) ?_
    refine rC (Calm.extract rfl rfl) ?_
    refine rC (Calm.extract rfl rfl) ?_
    refine rC (Calm.extract rfl rfl) ?_
    refine rC (Calm.assign rfl) ?_
    refine rC (Calm.assign rfl) ?_
    refine rC (Calm.assign rfl) ?_
    refine arun_nil ?_
    refine athen_n ?_
    refine AWP.sub [(0, _), (1, _), (4, _), (20, _), (5, _), (6, _), (7, _), (8, _), (32, _), (9, _), (10, _), (11, _), (12, _), (13, _)] ⟨rfl, rfl, rfl, rfl, rfl, rfl, rfl, rfl, rfl, rfl, rfl, rfl, rfl, rfl, trivial⟩ ?_
    refine AWP.seq ?_
    refine AWP.region ?_
    refine rC (Calm.move rfl) ?_
    refine rC (Calm.bin rfl rfl b_neq) ?_
    refine rC (Calm.move rfl) ?_
    first | refine rS 48 ?_ | refine rU 48 ?_ | refine rG 48 (Calm.move rfl) ?_
    first | refine rS 48 ?_ | refine rU 48 ?_ | refine rG 48 (Calm.bin rfl rfl b_neq) ?_
    refine rC ((by first | exact Calm.pickT rfl rfl | exact Calm.pickF rfl rfl)) ?_
    refine rC (Calm.move rfl) ?_
    first | refine rS 52 ?_ | refine rU 52 ?_ | refine rG 52 (Calm.move rfl) ?_
    first | refine rS 52 ?_ | refine rU 52 ?_ | refine rG 52 (Calm.move rfl) ?_
    first | refine rS 52 ?_ | refine rU 52 ?_ | refine rG 52 (Calm.bin rfl rfl b_neq) ?_
    refine rC ((by first | exact Calm.pickT rfl rfl | exact Calm.pickF rfl rfl)) ?_
    refine rC (Calm.move rfl) ?_
    first | refine rS 57 ?_ | refine rU 57 ?_ | refine rG 57 (Calm.move rfl) ?_
    first | refine rS 57 ?_ | refine rU 57 ?_ | refine rG 57 (Calm.bin rfl rfl b_neq) ?_
    refine rC ((by first | exact Calm.pickT rfl rfl | exact Calm.pickF rfl rfl)) ?_
    refine rC (Calm.move rfl) ?_
    first | refine rS 61 ?_ | refine rU 61 ?_ | refine rG 61 (Calm.move rfl) ?_
    first | refine rS 61 ?_ | refine rU 61 ?_ | refine rG 61 (Calm.move rfl) ?_
    first | refine rS 61 ?_ | refine rU 61 ?_ | refine rG 61 (Calm.bin rfl rfl b_neq) ?_
    refine rC ((by first | exact Calm.pickT rfl rfl | exact Calm.pickF rfl rfl)) ?_
    refine rC (Calm.move rfl) ?_
    first | refine rS 66 ?_ | refine rU 66 ?_ | refine rG 66 (Calm.move rfl) ?_
    first | refine rS 66 ?_ | refine rU 66 ?_ | refine rG 66 (Calm.move rfl) ?_
    first | refine rS 66 ?_ | refine rU 66 ?_ | refine rG 66 (Calm.bin rfl rfl (bin_bool (bin_str_neq _ _) (bnot_dec_false rfl))) ?_
    refine rC ((by first | exact Calm.pickT rfl rfl | exact Calm.pickF rfl rfl)) ?_
    refine arun_nil ?_
    refine athen_n ?_
    refine AWP.sub [(0, _), (1, _), (4, _), (20, _), (5, _), (6, _), (7, _), (8, _), (32, _), (9, _), (10, _), (11, _), (12, _), (13, _), (70, _)] ⟨rfl, rfl, rfl, rfl, rfl, rfl, rfl, rfl, rfl, rfl, rfl, rfl, rfl, rfl, rfl, trivial⟩ ?_
    refine AWP.condF rfl (by first | rfl | (simp; done) | (simp; omega)) ?_
    refine AWP.skip ?_
    refine athen_n ?_
    refine AWP.seq ?_
    refine AWP.region ?_
    refine rC (Calm.move rfl) ?_
    refine ARun.call (lit_lt rfl) go_38 rfl (numV_Read s S (by omega)) ?_
    rintro _ S1 ⟨rfl, h1⟩
    rw [h1, hr]; clear h1 S1
    refine rC (Calm.move rfl) ?_
    refine rC (Calm.extract rfl rfl) ?_
    refine rC (Calm.extract rfl rfl) ?_
    refine rC (Calm.extract rfl rfl) ?_
    refine rC (Calm.assign rfl) ?_
    refine rC (Calm.assign rfl) ?_
    refine rC (Calm.assign rfl) ?_
    refine arun_nil ?_
    refine athen_n ?_
    refine AWP.sub [(0, _), (1, _), (4, _), (20, _), (5, _), (6, _), (7, _), (8, _), (32, _), (9, _), (10, _), (11, _), (12, _), (13, _), (70, _), (14, _), (15, _), (16, _)] ⟨rfl, rfl, rfl, rfl, rfl, rfl, rfl, rfl, rfl, rfl, rfl, rfl, rfl, rfl, rfl, rfl, rfl, rfl, trivial⟩ ?_
    by_cases he : e = 0
    · subst he
      obtain ⟨hm1, hm2⟩ := hm9 rfl
      refine AWP.seq ?_
      refine AWP.seq ?_
      refine AWP.region ?_
      refine rC (Calm.move rfl) ?_
      refine rC (Calm.bin rfl rfl b_neq) ?_
      refine arun_nil ?_
      refine athen_n ?_
      refine AWP.sub [(0, _), (1, _), (4, _), (20, _), (5, _), (6, _), (7, _), (8, _), (32, _), (9, _), (10, _), (11, _), (12, _), (13, _), (70, _), (14, _), (15, _), (16, _), (78, _)] ⟨rfl, rfl, rfl, rfl, rfl, rfl, rfl, rfl, rfl, rfl, rfl, rfl, rfl, rfl, rfl, rfl, rfl, rfl, rfl, trivial⟩ ?_
      refine AWP.condF rfl (by first | rfl | (simp; done) | (simp; omega)) ?_
      refine AWP.skip ?_
      refine athen_n ?_
      refine AWP.seq ?_
      refine AWP.region ?_
      refine rC (Calm.move rfl) ?_
      refine ARun.call (lit_lt rfl) go_36 rfl (numV_Short m S (by unfold top at hm1; omega)) ?_
      rintro _ S1 ⟨rfl, h1⟩
      rw [h1, shortP_lt hm1]; clear h1 S1
      have hcat : bs (shortL 5 m) ++ bs r = s := by rw [bs_append, hm2, bs_of]
      have hcsz := congrArg ByteArray.size hcat
      rw [size_append] at hcsz
      refine rC (Calm.move rfl) ?_
      refine rC (Calm.extract rfl rfl) ?_
      refine rC (Calm.extract rfl rfl) ?_
      refine rC (Calm.assign rfl) ?_
      refine rC (Calm.assign rfl) ?_
      refine arun_nil ?_
      refine athen_n ?_
      refine AWP.sub [(0, _), (1, _), (4, _), (20, _), (5, _), (6, _), (7, _), (8, _), (32, _), (9, _), (10, _), (11, _), (12, _), (13, _), (70, _), (14, _), (15, _), (16, _), (78, _), (17, _), (18, _)] ⟨rfl, rfl, rfl, rfl, rfl, rfl, rfl, rfl, rfl, rfl, rfl, rfl, rfl, rfl, rfl, rfl, rfl, rfl, rfl, rfl, rfl, trivial⟩ ?_
      refine AWP.seq ?_
      refine AWP.region ?_
      refine rC (Calm.move rfl) ?_
      refine rC (Calm.move rfl) ?_
      refine rC (Calm.bin rfl rfl b_eql) ?_
      refine rC (Calm.move rfl) ?_
      first | refine rS 98 ?_ | refine rU 98 ?_ | refine rG 98 (Calm.move rfl) ?_
      first | refine rS 98 ?_ | refine rU 98 ?_ | refine rG 98 (Calm.bin rfl rfl b_eql) ?_
      refine rC ((by first | exact Calm.pickT rfl rfl | exact Calm.pickF rfl rfl)) ?_
      refine rC (Calm.move rfl) ?_
      first | refine rS 102 ?_ | refine rU 102 ?_ | refine rG 102 (Calm.move rfl) ?_
      first | refine rS 102 ?_ | refine rU 102 ?_ | refine rG 102 (Calm.move rfl) ?_
      first | refine rS 102 ?_ | refine rU 102 ?_ | refine rG 102 (Calm.as (congrArg Value.string hcat) (Calm.bin rfl rfl (bin_str_add (a := bs (shortL 5 m)) (b := bs r) (by omega)))) ?_
      first | refine rS 102 ?_ | refine rU 102 ?_ | refine rG 102 (Calm.move rfl) ?_
      first | refine rS 102 ?_ | refine rU 102 ?_ | refine rG 102 (Calm.bin rfl rfl (bin_bool (bin_str_eql _ _) (decide_eq_true rfl))) ?_
      refine rC ((by first | exact Calm.pickT rfl rfl | exact Calm.pickF rfl rfl)) ?_
      refine rC (Calm.assign rfl) ?_
      refine arun_nil ?_
      refine athen_n ?_
      refine AWP.sub [(0, _), (1, _), (4, _), (20, _), (5, _), (6, _), (7, _), (8, _), (32, _), (9, _), (10, _), (11, _), (12, _), (13, _), (70, _), (14, _), (15, _), (16, _), (78, _), (17, _), (18, _)] ⟨rfl, rfl, rfl, rfl, rfl, rfl, rfl, rfl, rfl, rfl, rfl, rfl, rfl, rfl, rfl, rfl, rfl, rfl, rfl, rfl, rfl, trivial⟩ ?_
      refine AWP.ret ?_
      refine ⟨_, _, ⟨_, _, rfl, rfl, rfl⟩, less_, ?_⟩
      rfl
    · obtain ⟨hm1, hm2⟩ := herr.resolve_left he
      subst hm1
      subst hm2
      refine AWP.seq ?_
      refine AWP.seq ?_
      refine AWP.region ?_
      refine rC (Calm.move rfl) ?_
      refine rC (Calm.bin rfl rfl b_neq) ?_
      refine arun_nil ?_
      refine athen_n ?_
      refine AWP.sub [(0, _), (1, _), (4, _), (20, _), (5, _), (6, _), (7, _), (8, _), (32, _), (9, _), (10, _), (11, _), (12, _), (13, _), (70, _), (14, _), (15, _), (16, _), (78, _)] ⟨rfl, rfl, rfl, rfl, rfl, rfl, rfl, rfl, rfl, rfl, rfl, rfl, rfl, rfl, rfl, rfl, rfl, rfl, rfl, trivial⟩ ?_
      refine AWP.condT rfl (by first | rfl | (simp; done) | (simp; omega)) ?_
      refine AWP.seq ?_
      refine AWP.region ?_
      refine rC (Calm.move rfl) ?_
      refine rC (Calm.move rfl) ?_
      refine rC (Calm.bin rfl rfl b_eql) ?_
      refine rC (Calm.move rfl) ?_
      first | refine rS 82 ?_ | refine rU 82 ?_ | refine rG 82 (Calm.move rfl) ?_
      first | refine rS 82 ?_ | refine rU 82 ?_ | refine rG 82 (Calm.bin rfl rfl b_eql) ?_
      refine rC ((by first | exact Calm.pickT rfl rfl | exact Calm.pickF rfl rfl)) ?_
      refine rC (Calm.move rfl) ?_
      first | refine rS 86 ?_ | refine rU 86 ?_ | refine rG 86 (Calm.move rfl) ?_
      first | refine rS 86 ?_ | refine rU 86 ?_ | refine rG 86 (Calm.bin rfl rfl (bin_bool (bin_str_eql _ _) (decide_eq_true rfl))) ?_
      refine rC ((by first | exact Calm.pickT rfl rfl | exact Calm.pickF rfl rfl)) ?_
      refine rC (Calm.assign rfl) ?_
      refine arun_nil ?_
      refine athen_n ?_
      refine AWP.sub [(0, _), (1, _), (4, _), (20, _), (5, _), (6, _), (7, _), (8, _), (32, _), (9, _), (10, _), (11, _), (12, _), (13, _), (70, _), (14, _), (15, _), (16, _), (78, _)] ⟨rfl, rfl, rfl, rfl, rfl, rfl, rfl, rfl, rfl, rfl, rfl, rfl, rfl, rfl, rfl, rfl, rfl, rfl, rfl, trivial⟩ ?_
      refine AWP.ret ?_
      refine athen_ret ?_
      refine ⟨_, _, ⟨_, _, rfl, rfl, rfl⟩, less_, ?_⟩
      rfl
  · have h0 := h
    refine ACall.enter (args := [.int .u64 n, .string s]) (rs := [.tmp 4]) 109 [(0, .int .u64 n), (1, .string s)] Try.func10 rfl rfl (Nat.le_of_ble_eq_true rfl) rfl ⟨rfl, rfl, trivial⟩ ?_
    refine AWP.seq ?_
    refine AWP.region ?_
    refine rC (Calm.assign rfl) ?_
    refine arun_nil ?_
    refine athen_n ?_
    refine AWP.seq ?_
    refine AWP.seq ?_
    refine AWP.region ?_
    refine ARun.call (lit_lt rfl) go_35 rfl (numV_lives S) ?_
    rintro _ S1 ⟨rfl, h1⟩
    rw [h1]; clear h1 S1
    refine rC (Calm.un rfl (una_not _)) ?_
    refine arun_nil ?_
    refine athen_n ?_
    refine AWP.sub [(0, _), (1, _), (4, _), (20, _)] ⟨rfl, rfl, rfl, rfl, trivial⟩ ?_
    refine AWP.condF rfl (by first | rfl | (simp; done) | (simp; omega)) ?_
    refine AWP.skip ?_
    refine athen_n ?_
    refine AWP.seq ?_
    refine AWP.region ?_
    refine rC (Calm.move rfl) ?_
    refine ARun.call (lit_lt rfl) go_31 rfl (numV_Put n S hn) ?_
    rintro _ S1 ⟨rfl, h1⟩
    rw [h1, recP_ge h]; clear h1 S1
    refine rC (Calm.move rfl) ?_
    refine rC (Calm.extract rfl rfl) ?_
    refine rC (Calm.extract rfl rfl) ?_
    refine rC (Calm.assign rfl) ?_
    refine rC (Calm.assign rfl) ?_
    refine arun_nil ?_
    refine athen_n ?_
    refine AWP.sub [(0, _), (1, _), (4, _), (20, _), (5, _), (6, _)] ⟨rfl, rfl, rfl, rfl, rfl, rfl, trivial⟩ ?_
    refine AWP.seq ?_
    refine AWP.region ?_
    refine rC (Calm.move rfl) ?_
    refine ARun.call (lit_lt rfl) go_36 rfl (numV_Short n S hn) ?_
    rintro _ S1 ⟨rfl, h1⟩
    rw [h1, shortP_ge h]; clear h1 S1
    refine rC (Calm.move rfl) ?_
    refine rC (Calm.extract rfl rfl) ?_
    refine rC (Calm.extract rfl rfl) ?_
    refine rC (Calm.assign rfl) ?_
    refine rC (Calm.assign rfl) ?_
    refine arun_nil ?_
    refine athen_n ?_
    refine AWP.sub [(0, _), (1, _), (4, _), (20, _), (5, _), (6, _), (7, _), (8, _)] ⟨rfl, rfl, rfl, rfl, rfl, rfl, rfl, rfl, trivial⟩ ?_
    refine AWP.seq ?_
    refine AWP.seq ?_
    refine AWP.region ?_
    refine rC (Calm.move rfl) ?_
    refine rC (Calm.bin rfl rfl b_eql) ?_
    refine arun_nil ?_
    refine athen_n ?_
    refine AWP.sub [(0, _), (1, _), (4, _), (20, _), (5, _), (6, _), (7, _), (8, _), (32, _)] ⟨rfl, rfl, rfl, rfl, rfl, rfl, rfl, rfl, rfl, trivial⟩ ?_
    refine AWP.condF rfl (by first | rfl | (simp; done) | (simp; omega)) ?_
    refine AWP.skip ?_
    refine athen_n ?_
    refine AWP.seq ?_
    refine AWP.region ?_
    refine rC (Calm.move rfl) ?_
    refine ARun.call (lit_lt rfl) go_38 rfl (numV_Read s S (by omega)) ?_
    rintro _ S1 ⟨rfl, h1⟩
    rw [h1, hr]; clear h1 S1
    refine rC (Calm.move rfl) ?_
    refine rC (Calm.extract rfl rfl) ?_
    refine rC (Calm.extract rfl rfl) ?_
    refine rC (Calm.extract rfl rfl) ?_
    refine rC (Calm.assign rfl) ?_
    refine rC (Calm.assign rfl) ?_
    refine rC (Calm.assign rfl) ?_
    refine arun_nil ?_
    refine athen_n ?_
    refine AWP.sub [(0, _), (1, _), (4, _), (20, _), (5, _), (6, _), (7, _), (8, _), (32, _), (14, _), (15, _), (16, _)] ⟨rfl, rfl, rfl, rfl, rfl, rfl, rfl, rfl, rfl, rfl, rfl, rfl, trivial⟩ ?_
    by_cases he : e = 0
    · subst he
      obtain ⟨hm1, hm2⟩ := hm9 rfl
      refine AWP.seq ?_
      refine AWP.seq ?_
      refine AWP.region ?_
      refine rC (Calm.move rfl) ?_
      refine rC (Calm.bin rfl rfl b_neq) ?_
      refine arun_nil ?_
      refine athen_n ?_
      refine AWP.sub [(0, _), (1, _), (4, _), (20, _), (5, _), (6, _), (7, _), (8, _), (32, _), (14, _), (15, _), (16, _), (78, _)] ⟨rfl, rfl, rfl, rfl, rfl, rfl, rfl, rfl, rfl, rfl, rfl, rfl, rfl, trivial⟩ ?_
      refine AWP.condF rfl (by first | rfl | (simp; done) | (simp; omega)) ?_
      refine AWP.skip ?_
      refine athen_n ?_
      refine AWP.seq ?_
      refine AWP.region ?_
      refine rC (Calm.move rfl) ?_
      refine ARun.call (lit_lt rfl) go_36 rfl (numV_Short m S (by unfold top at hm1; omega)) ?_
      rintro _ S1 ⟨rfl, h1⟩
      rw [h1, shortP_lt hm1]; clear h1 S1
      have hcat : bs (shortL 5 m) ++ bs r = s := by rw [bs_append, hm2, bs_of]
      have hcsz := congrArg ByteArray.size hcat
      rw [size_append] at hcsz
      refine rC (Calm.move rfl) ?_
      refine rC (Calm.extract rfl rfl) ?_
      refine rC (Calm.extract rfl rfl) ?_
      refine rC (Calm.assign rfl) ?_
      refine rC (Calm.assign rfl) ?_
      refine arun_nil ?_
      refine athen_n ?_
      refine AWP.sub [(0, _), (1, _), (4, _), (20, _), (5, _), (6, _), (7, _), (8, _), (32, _), (14, _), (15, _), (16, _), (78, _), (17, _), (18, _)] ⟨rfl, rfl, rfl, rfl, rfl, rfl, rfl, rfl, rfl, rfl, rfl, rfl, rfl, rfl, rfl, trivial⟩ ?_
      refine AWP.seq ?_
      refine AWP.region ?_
      refine rC (Calm.move rfl) ?_
      refine rC (Calm.move rfl) ?_
      refine rC (Calm.bin rfl rfl b_eql) ?_
      refine rC (Calm.move rfl) ?_
      first | refine rS 98 ?_ | refine rU 98 ?_ | refine rG 98 (Calm.move rfl) ?_
      first | refine rS 98 ?_ | refine rU 98 ?_ | refine rG 98 (Calm.bin rfl rfl b_eql) ?_
      refine rC ((by first | exact Calm.pickT rfl rfl | exact Calm.pickF rfl rfl)) ?_
      refine rC (Calm.move rfl) ?_
      first | refine rS 102 ?_ | refine rU 102 ?_ | refine rG 102 (Calm.move rfl) ?_
      first | refine rS 102 ?_ | refine rU 102 ?_ | refine rG 102 (Calm.move rfl) ?_
      first | refine rS 102 ?_ | refine rU 102 ?_ | refine rG 102 (Calm.as (congrArg Value.string hcat) (Calm.bin rfl rfl (bin_str_add (a := bs (shortL 5 m)) (b := bs r) (by omega)))) ?_
      first | refine rS 102 ?_ | refine rU 102 ?_ | refine rG 102 (Calm.move rfl) ?_
      first | refine rS 102 ?_ | refine rU 102 ?_ | refine rG 102 (Calm.bin rfl rfl (bin_bool (bin_str_eql _ _) (decide_eq_true rfl))) ?_
      refine rC ((by first | exact Calm.pickT rfl rfl | exact Calm.pickF rfl rfl)) ?_
      refine rC (Calm.assign rfl) ?_
      refine arun_nil ?_
      refine athen_n ?_
      refine AWP.sub [(0, _), (1, _), (4, _), (20, _), (5, _), (6, _), (7, _), (8, _), (32, _), (14, _), (15, _), (16, _), (78, _), (17, _), (18, _)] ⟨rfl, rfl, rfl, rfl, rfl, rfl, rfl, rfl, rfl, rfl, rfl, rfl, rfl, rfl, rfl, trivial⟩ ?_
      refine AWP.ret ?_
      refine ⟨_, _, ⟨_, _, rfl, rfl, rfl⟩, less_, ?_⟩
      rfl
    · obtain ⟨hm1, hm2⟩ := herr.resolve_left he
      subst hm1
      subst hm2
      refine AWP.seq ?_
      refine AWP.seq ?_
      refine AWP.region ?_
      refine rC (Calm.move rfl) ?_
      refine rC (Calm.bin rfl rfl b_neq) ?_
      refine arun_nil ?_
      refine athen_n ?_
      refine AWP.sub [(0, _), (1, _), (4, _), (20, _), (5, _), (6, _), (7, _), (8, _), (32, _), (14, _), (15, _), (16, _), (78, _)] ⟨rfl, rfl, rfl, rfl, rfl, rfl, rfl, rfl, rfl, rfl, rfl, rfl, rfl, trivial⟩ ?_
      refine AWP.condT rfl (by first | rfl | (simp; done) | (simp; omega)) ?_
      refine AWP.seq ?_
      refine AWP.region ?_
      refine rC (Calm.move rfl) ?_
      refine rC (Calm.move rfl) ?_
      refine rC (Calm.bin rfl rfl b_eql) ?_
      refine rC (Calm.move rfl) ?_
      first | refine rS 82 ?_ | refine rU 82 ?_ | refine rG 82 (Calm.move rfl) ?_
      first | refine rS 82 ?_ | refine rU 82 ?_ | refine rG 82 (Calm.bin rfl rfl b_eql) ?_
      refine rC ((by first | exact Calm.pickT rfl rfl | exact Calm.pickF rfl rfl)) ?_
      refine rC (Calm.move rfl) ?_
      first | refine rS 86 ?_ | refine rU 86 ?_ | refine rG 86 (Calm.move rfl) ?_
      first | refine rS 86 ?_ | refine rU 86 ?_ | refine rG 86 (Calm.bin rfl rfl (bin_bool (bin_str_eql _ _) (decide_eq_true rfl))) ?_
      refine rC ((by first | exact Calm.pickT rfl rfl | exact Calm.pickF rfl rfl)) ?_
      refine rC (Calm.assign rfl) ?_
      refine arun_nil ?_
      refine athen_n ?_
      refine AWP.sub [(0, _), (1, _), (4, _), (20, _), (5, _), (6, _), (7, _), (8, _), (32, _), (14, _), (15, _), (16, _), (78, _)] ⟨rfl, rfl, rfl, rfl, rfl, rfl, rfl, rfl, rfl, rfl, rfl, rfl, rfl, trivial⟩ ?_
      refine AWP.ret ?_
      refine athen_ret ?_
      refine ⟨_, _, ⟨_, _, rfl, rfl, rfl⟩, less_, ?_⟩
      rfl
set_option maxHeartbeats 2000000 in
theorem law_NumOrder (a b : List Nat) (va vb : Value) (n m : Nat) (S : Mem) (ha : Sl 1 u64s S va a) (hb : Sl 1 u64s S vb b) (hab : ∀ x ∈ a, x < 18446744073709551616) (hbb : ∀ x ∈ b, x < 18446744073709551616) (hn : n < 18446744073709551616) (hm : m < 18446744073709551616) :
    ACall Try.prog 11 #[va, vb, .int .u64 n, .int .u64 m] S fun r S' => r = .bool true := by
  obtain ⟨pa, ca, rfl, ha1, ha2, _⟩ := id ha
  obtain ⟨pb, cb, rfl, hb1, hb2, _⟩ := id hb
  by_cases h1 : n < top
  · by_cases h2 : m < top
    · have hlt : decide ((n : Int) < (m : Int)) = decide (n < m) := by rw [Bool.eq_iff_iff]; simp
      have hlf : Op.bytesLess (bs (five n)).data.toList (bs (five m)).data.toList = decide (n < m) := by rw [bs_data, bs_data, less_five n m h1 h2]
      refine ACall.enter (args := [.slice pa a.length ca, .slice pb b.length cb, .int .u64 n, .int .u64 m]) (rs := [.tmp 8]) 76 [(0, .slice pa a.length ca), (1, .slice pb b.length cb), (2, .int .u64 n), (3, .int .u64 m)] Try.func11 rfl rfl (Nat.le_of_ble_eq_true rfl) rfl ⟨rfl, rfl, rfl, rfl, trivial⟩ ?_
      refine AWP.seq ?_
      refine AWP.region ?_
      refine rC (Calm.assign rfl) ?_
      refine arun_nil ?_
      refine athen_n ?_
      refine AWP.seq ?_
      refine AWP.seq ?_
      refine AWP.region ?_
      refine ARun.call (lit_lt rfl) go_35 rfl (numV_lives S) ?_
      rintro _ S1 ⟨rfl, h1⟩
      rw [h1]; clear h1 S1
      refine rC (Calm.un rfl (una_not _)) ?_
      refine arun_nil ?_
      refine athen_n ?_
      refine AWP.sub [(0, _), (1, _), (2, _), (3, _), (8, _), (18, _)] ⟨rfl, rfl, rfl, rfl, rfl, rfl, trivial⟩ ?_
      refine AWP.condF rfl (by first | rfl | (simp; done) | (simp; omega)) ?_
      refine AWP.skip ?_
      refine athen_n ?_
      refine AWP.seq ?_
      refine AWP.region ?_
      refine rC (Calm.move rfl) ?_
      refine ARun.call (lit_lt rfl) go_31 rfl (numV_Put n S hn) ?_
      rintro _ S1 ⟨rfl, hq⟩
      rw [hq, recP_lt h1]; clear hq S1
      refine rC (Calm.move rfl) ?_
      refine rC (Calm.extract rfl rfl) ?_
      refine rC (Calm.extract rfl rfl) ?_
      refine rC (Calm.assign rfl) ?_
      refine rC (Calm.assign rfl) ?_
      refine arun_nil ?_
      refine athen_n ?_
      refine AWP.sub [(0, _), (1, _), (2, _), (3, _), (8, _), (18, _), (9, _), (10, _)] ⟨rfl, rfl, rfl, rfl, rfl, rfl, rfl, rfl, trivial⟩ ?_
      refine AWP.seq ?_
      refine AWP.region ?_
      refine rC (Calm.move rfl) ?_
      refine ARun.call (lit_lt rfl) go_31 rfl (numV_Put m S hm) ?_
      rintro _ S1 ⟨rfl, hq⟩
      rw [hq, recP_lt h2]; clear hq S1
      refine rC (Calm.move rfl) ?_
      refine rC (Calm.extract rfl rfl) ?_
      refine rC (Calm.extract rfl rfl) ?_
      refine rC (Calm.assign rfl) ?_
      refine rC (Calm.assign rfl) ?_
      refine arun_nil ?_
      refine athen_n ?_
      refine AWP.sub [(0, _), (1, _), (2, _), (3, _), (8, _), (18, _), (9, _), (10, _), (11, _), (12, _)] ⟨rfl, rfl, rfl, rfl, rfl, rfl, rfl, rfl, rfl, rfl, trivial⟩ ?_
      refine AWP.seq ?_
      refine AWP.seq ?_
      refine AWP.region ?_
      refine rC (Calm.move rfl) ?_
      refine rC (Calm.bin rfl rfl b_eql) ?_
      refine rC (Calm.move rfl) ?_
      first | refine rS 31 ?_ | refine rU 31 ?_ | refine rG 31 (Calm.move rfl) ?_
      first | refine rS 31 ?_ | refine rU 31 ?_ | refine rG 31 (Calm.bin rfl rfl b_eql) ?_
      refine rC ((by first | exact Calm.pickT rfl rfl | exact Calm.pickF rfl rfl)) ?_
      refine rC (Calm.move rfl) ?_
      first | refine rS 35 ?_ | refine rU 35 ?_ | refine rG 35 (Calm.move rfl) ?_
      first | refine rS 35 ?_ | refine rU 35 ?_ | refine rG 35 (Calm.move rfl) ?_
      first | refine rS 35 ?_ | refine rU 35 ?_ | refine rG 35 (Calm.bin rfl rfl (bin_bool (bin_str_lss _ _) hlf)) ?_
      first | refine rS 35 ?_ | refine rU 35 ?_ | refine rG 35 (Calm.move rfl) ?_
      first | refine rS 35 ?_ | refine rU 35 ?_ | refine rG 35 (Calm.move rfl) ?_
      first | refine rS 35 ?_ | refine rU 35 ?_ | refine rG 35 (Calm.bin rfl rfl (bin_bool (bin_lss _ _) hlt)) ?_
      first | refine rS 35 ?_ | refine rU 35 ?_ | refine rG 35 (Calm.bin rfl rfl (bin_bool (bin_bool_neq _ _ Try.underlying4) (by simp : (!(decide (n < m) == decide (n < m))) = false))) ?_
      refine rC ((by first | exact Calm.pickT rfl rfl | exact Calm.pickF rfl rfl)) ?_
      refine arun_nil ?_
      refine athen_n ?_
      refine AWP.sub [(0, _), (1, _), (2, _), (3, _), (8, _), (18, _), (9, _), (10, _), (11, _), (12, _), (43, _)] ⟨rfl, rfl, rfl, rfl, rfl, rfl, rfl, rfl, rfl, rfl, rfl, trivial⟩ ?_
      refine AWP.condF rfl (by first | rfl | (simp; done) | (simp; omega)) ?_
      refine AWP.skip ?_
      refine athen_n ?_
      refine AWP.seq ?_
      refine AWP.region ?_
      refine rC (Calm.move rfl) ?_
      refine ARun.call (lit_lt rfl) go_40 rfl (numV_Record a _ S ha hab) ?_
      rintro _ S1 ⟨rfl, h1⟩
      rw [h1]; clear h1 S1
      refine rC (Calm.move rfl) ?_
      refine rC (Calm.extract rfl rfl) ?_
      refine rC (Calm.extract rfl rfl) ?_
      refine rC (Calm.assign rfl) ?_
      refine rC (Calm.assign rfl) ?_
      refine arun_nil ?_
      refine athen_n ?_
      refine AWP.sub [(0, _), (1, _), (2, _), (3, _), (8, _), (18, _), (9, _), (10, _), (11, _), (12, _), (43, _), (13, _), (14, _)] ⟨rfl, rfl, rfl, rfl, rfl, rfl, rfl, rfl, rfl, rfl, rfl, rfl, rfl, trivial⟩ ?_
      refine AWP.seq ?_
      refine AWP.region ?_
      refine rC (Calm.move rfl) ?_
      refine ARun.call (lit_lt rfl) go_40 rfl (numV_Record b _ S hb hbb) ?_
      rintro _ S1 ⟨rfl, h1⟩
      rw [h1]; clear h1 S1
      refine rC (Calm.move rfl) ?_
      refine rC (Calm.extract rfl rfl) ?_
      refine rC (Calm.extract rfl rfl) ?_
      refine rC (Calm.assign rfl) ?_
      refine rC (Calm.assign rfl) ?_
      refine arun_nil ?_
      refine athen_n ?_
      refine AWP.sub [(0, _), (1, _), (2, _), (3, _), (8, _), (18, _), (9, _), (10, _), (11, _), (12, _), (43, _), (13, _), (14, _), (15, _), (16, _)] ⟨rfl, rfl, rfl, rfl, rfl, rfl, rfl, rfl, rfl, rfl, rfl, rfl, rfl, rfl, rfl, trivial⟩ ?_
      rcases Bool.eq_false_or_eq_true (recOK a) with ra | ra
      · rw [recP_ok ra]
        rcases Bool.eq_false_or_eq_true (recOK b) with rb | rb
        · rw [recP_ok rb]
          by_cases hlen : a.length = b.length
          · refine AWP.seq ?_
            refine AWP.region ?_
            refine rC (Calm.move rfl) ?_
            refine rC (Calm.bin rfl rfl b_neq) ?_
            refine rC (Calm.move rfl) ?_
            first | refine rS 56 ?_ | refine rU 56 ?_ | refine rG 56 (Calm.move rfl) ?_
            first | refine rS 56 ?_ | refine rU 56 ?_ | refine rG 56 (Calm.bin rfl rfl b_neq) ?_
            refine rC ((by first | exact Calm.pickT rfl rfl | exact Calm.pickF rfl rfl)) ?_
            refine rC (Calm.move rfl) ?_
            first | refine rS 60 ?_ | refine rU 60 ?_ | refine rG 60 (Calm.move rfl) ?_
            first | refine rS 60 ?_ | refine rU 60 ?_ | refine rG 60 (Calm.lenSl Try.underlying49 rfl) ?_
            first | refine rS 60 ?_ | refine rU 60 ?_ | refine rG 60 (Calm.move rfl) ?_
            first | refine rS 60 ?_ | refine rU 60 ?_ | refine rG 60 (Calm.lenSl Try.underlying49 rfl) ?_
            first | refine rS 60 ?_ | refine rU 60 ?_ | refine rG 60 (Calm.bin rfl rfl b_neq) ?_
            refine rC ((by first | exact Calm.pickT rfl rfl | exact Calm.pickF rfl rfl)) ?_
            refine rC (Calm.move rfl) ?_
            first | refine rS 67 ?_ | refine rU 67 ?_ | refine rG 67 (Calm.move rfl) ?_
            first | refine rS 67 ?_ | refine rU 67 ?_ | refine rG 67 (Calm.move rfl) ?_
            first | refine rS 67 ?_ | refine rU 67 ?_ | refine rG 67 (Calm.bin rfl rfl (bin_bool (bin_str_lss _ _) ((by rw [bs_data, bs_data]; exact less_rec a b (recOK_all ra).2.2 (recOK_all rb).2.2 hlen : Op.bytesLess (bs (recB a)).data.toList (bs (recB b)).data.toList = lessB a b)))) ?_
            first | refine rS 67 ?_ | refine rU 67 ?_ | refine rG 67 (Calm.move rfl) ?_
            first | refine rS 67 ?_ | refine rU 67 ?_ | refine rG 67 (Calm.move rfl) ?_
            refine ARun.callG 13 false 67 rfl (lit_lt rfl) rfl (lit_lt rfl) go_45 rfl (numV_Less a b _ _ S ha hb) ?_
            rintro _ S1 ⟨rfl, h1⟩
            rw [h1]; clear h1 S1
            first | refine rS 67 ?_ | refine rU 67 ?_ | refine rG 67 (Calm.bin rfl rfl (bin_bool (bin_bool_eql _ _ Try.underlying4) (beq_self_eq_true _))) ?_
            refine rC ((by first | exact Calm.pickT rfl rfl | exact Calm.pickF rfl rfl)) ?_
            refine rC (Calm.assign rfl) ?_
            refine arun_nil ?_
            refine athen_n ?_
            refine AWP.sub [(0, _), (1, _), (2, _), (3, _), (8, _), (18, _), (9, _), (10, _), (11, _), (12, _), (43, _), (13, _), (14, _), (15, _), (16, _)] ⟨rfl, rfl, rfl, rfl, rfl, rfl, rfl, rfl, rfl, rfl, rfl, rfl, rfl, rfl, rfl, trivial⟩ ?_
            refine AWP.ret ?_
            refine ⟨_, _, ⟨_, _, rfl, rfl, rfl⟩, less_, ?_⟩
            rfl
          · refine AWP.seq ?_
            refine AWP.region ?_
            refine rC (Calm.move rfl) ?_
            refine rC (Calm.bin rfl rfl b_neq) ?_
            refine rC (Calm.move rfl) ?_
            first | refine rS 56 ?_ | refine rU 56 ?_ | refine rG 56 (Calm.move rfl) ?_
            first | refine rS 56 ?_ | refine rU 56 ?_ | refine rG 56 (Calm.bin rfl rfl b_neq) ?_
            refine rC ((by first | exact Calm.pickT rfl rfl | exact Calm.pickF rfl rfl)) ?_
            refine rC (Calm.move rfl) ?_
            first | refine rS 60 ?_ | refine rU 60 ?_ | refine rG 60 (Calm.move rfl) ?_
            first | refine rS 60 ?_ | refine rU 60 ?_ | refine rG 60 (Calm.lenSl Try.underlying49 rfl) ?_
            first | refine rS 60 ?_ | refine rU 60 ?_ | refine rG 60 (Calm.move rfl) ?_
            first | refine rS 60 ?_ | refine rU 60 ?_ | refine rG 60 (Calm.lenSl Try.underlying49 rfl) ?_
            first | refine rS 60 ?_ | refine rU 60 ?_ | refine rG 60 (Calm.bin rfl rfl b_neq) ?_
            refine rC ((by first | exact Calm.pickT rfl rfl | exact Calm.pickF rfl rfl)) ?_
            refine rC (Calm.move rfl) ?_
            first | refine rS 67 ?_ | refine rU 67 ?_ | refine rG 67 (Calm.move rfl) ?_
            first | refine rS 67 ?_ | refine rU 67 ?_ | refine rG 67 (Calm.move rfl) ?_
            first | refine rS 67 ?_ | refine rU 67 ?_ | refine rG 67 (Calm.bin rfl rfl (bin_str_lss _ _)) ?_
            first | refine rS 67 ?_ | refine rU 67 ?_ | refine rG 67 (Calm.move rfl) ?_
            first | refine rS 67 ?_ | refine rU 67 ?_ | refine rG 67 (Calm.move rfl) ?_
            first | refine rS 67 ?_ | refine rU 67 ?_
            first | refine rS 67 ?_ | refine rU 67 ?_ | refine rG 67 (Calm.bin rfl rfl (bin_bool_eql _ _ Try.underlying4)) ?_
            refine rC ((by first | exact Calm.pickT rfl rfl | exact Calm.pickF rfl rfl)) ?_
            refine rC (Calm.assign rfl) ?_
            refine arun_nil ?_
            refine athen_n ?_
            refine AWP.sub [(0, _), (1, _), (2, _), (3, _), (8, _), (18, _), (9, _), (10, _), (11, _), (12, _), (43, _), (13, _), (14, _), (15, _), (16, _)] ⟨rfl, rfl, rfl, rfl, rfl, rfl, rfl, rfl, rfl, rfl, rfl, rfl, rfl, rfl, rfl, trivial⟩ ?_
            refine AWP.ret ?_
            refine ⟨_, _, ⟨_, _, rfl, rfl, rfl⟩, less_, ?_⟩
            rfl
        · rw [recP_no rb]
          refine AWP.seq ?_
          refine AWP.region ?_
          refine rC (Calm.move rfl) ?_
          refine rC (Calm.bin rfl rfl b_neq) ?_
          refine rC (Calm.move rfl) ?_
          first | refine rS 56 ?_ | refine rU 56 ?_ | refine rG 56 (Calm.move rfl) ?_
          first | refine rS 56 ?_ | refine rU 56 ?_ | refine rG 56 (Calm.bin rfl rfl b_neq) ?_
          refine rC ((by first | exact Calm.pickT rfl rfl | exact Calm.pickF rfl rfl)) ?_
          refine rC (Calm.move rfl) ?_
          first | refine rS 60 ?_ | refine rU 60 ?_ | refine rG 60 (Calm.move rfl) ?_
          first | refine rS 60 ?_ | refine rU 60 ?_ | refine rG 60 (Calm.lenSl Try.underlying49 rfl) ?_
          first | refine rS 60 ?_ | refine rU 60 ?_ | refine rG 60 (Calm.move rfl) ?_
          first | refine rS 60 ?_ | refine rU 60 ?_ | refine rG 60 (Calm.lenSl Try.underlying49 rfl) ?_
          first | refine rS 60 ?_ | refine rU 60 ?_ | refine rG 60 (Calm.bin rfl rfl b_neq) ?_
          refine rC ((by first | exact Calm.pickT rfl rfl | exact Calm.pickF rfl rfl)) ?_
          refine rC (Calm.move rfl) ?_
          first | refine rS 67 ?_ | refine rU 67 ?_ | refine rG 67 (Calm.move rfl) ?_
          first | refine rS 67 ?_ | refine rU 67 ?_ | refine rG 67 (Calm.move rfl) ?_
          first | refine rS 67 ?_ | refine rU 67 ?_ | refine rG 67 (Calm.bin rfl rfl (bin_str_lss _ _)) ?_
          first | refine rS 67 ?_ | refine rU 67 ?_ | refine rG 67 (Calm.move rfl) ?_
          first | refine rS 67 ?_ | refine rU 67 ?_ | refine rG 67 (Calm.move rfl) ?_
          first | refine rS 67 ?_ | refine rU 67 ?_
          first | refine rS 67 ?_ | refine rU 67 ?_ | refine rG 67 (Calm.bin rfl rfl (bin_bool_eql _ _ Try.underlying4)) ?_
          refine rC ((by first | exact Calm.pickT rfl rfl | exact Calm.pickF rfl rfl)) ?_
          refine rC (Calm.assign rfl) ?_
          refine arun_nil ?_
          refine athen_n ?_
          refine AWP.sub [(0, _), (1, _), (2, _), (3, _), (8, _), (18, _), (9, _), (10, _), (11, _), (12, _), (43, _), (13, _), (14, _), (15, _), (16, _)] ⟨rfl, rfl, rfl, rfl, rfl, rfl, rfl, rfl, rfl, rfl, rfl, rfl, rfl, rfl, rfl, trivial⟩ ?_
          refine AWP.ret ?_
          refine ⟨_, _, ⟨_, _, rfl, rfl, rfl⟩, less_, ?_⟩
          rfl
      · rw [recP_no ra]
        refine AWP.seq ?_
        refine AWP.region ?_
        refine rC (Calm.move rfl) ?_
        refine rC (Calm.bin rfl rfl b_neq) ?_
        refine rC (Calm.move rfl) ?_
        first | refine rS 56 ?_ | refine rU 56 ?_ | refine rG 56 (Calm.move rfl) ?_
        first | refine rS 56 ?_ | refine rU 56 ?_ | refine rG 56 (Calm.bin rfl rfl b_neq) ?_
        refine rC ((by first | exact Calm.pickT rfl rfl | exact Calm.pickF rfl rfl)) ?_
        refine rC (Calm.move rfl) ?_
        first | refine rS 60 ?_ | refine rU 60 ?_ | refine rG 60 (Calm.move rfl) ?_
        first | refine rS 60 ?_ | refine rU 60 ?_ | refine rG 60 (Calm.lenSl Try.underlying49 rfl) ?_
        first | refine rS 60 ?_ | refine rU 60 ?_ | refine rG 60 (Calm.move rfl) ?_
        first | refine rS 60 ?_ | refine rU 60 ?_ | refine rG 60 (Calm.lenSl Try.underlying49 rfl) ?_
        first | refine rS 60 ?_ | refine rU 60 ?_ | refine rG 60 (Calm.bin rfl rfl b_neq) ?_
        refine rC ((by first | exact Calm.pickT rfl rfl | exact Calm.pickF rfl rfl)) ?_
        refine rC (Calm.move rfl) ?_
        first | refine rS 67 ?_ | refine rU 67 ?_ | refine rG 67 (Calm.move rfl) ?_
        first | refine rS 67 ?_ | refine rU 67 ?_ | refine rG 67 (Calm.move rfl) ?_
        first | refine rS 67 ?_ | refine rU 67 ?_ | refine rG 67 (Calm.bin rfl rfl (bin_str_lss _ _)) ?_
        first | refine rS 67 ?_ | refine rU 67 ?_ | refine rG 67 (Calm.move rfl) ?_
        first | refine rS 67 ?_ | refine rU 67 ?_ | refine rG 67 (Calm.move rfl) ?_
        first | refine rS 67 ?_ | refine rU 67 ?_
        first | refine rS 67 ?_ | refine rU 67 ?_ | refine rG 67 (Calm.bin rfl rfl (bin_bool_eql _ _ Try.underlying4)) ?_
        refine rC ((by first | exact Calm.pickT rfl rfl | exact Calm.pickF rfl rfl)) ?_
        refine rC (Calm.assign rfl) ?_
        refine arun_nil ?_
        refine athen_n ?_
        refine AWP.sub [(0, _), (1, _), (2, _), (3, _), (8, _), (18, _), (9, _), (10, _), (11, _), (12, _), (43, _), (13, _), (14, _), (15, _), (16, _)] ⟨rfl, rfl, rfl, rfl, rfl, rfl, rfl, rfl, rfl, rfl, rfl, rfl, rfl, rfl, rfl, trivial⟩ ?_
        refine AWP.ret ?_
        refine ⟨_, _, ⟨_, _, rfl, rfl, rfl⟩, less_, ?_⟩
        rfl
    · have h20 := h2
      refine ACall.enter (args := [.slice pa a.length ca, .slice pb b.length cb, .int .u64 n, .int .u64 m]) (rs := [.tmp 8]) 76 [(0, .slice pa a.length ca), (1, .slice pb b.length cb), (2, .int .u64 n), (3, .int .u64 m)] Try.func11 rfl rfl (Nat.le_of_ble_eq_true rfl) rfl ⟨rfl, rfl, rfl, rfl, trivial⟩ ?_
      refine AWP.seq ?_
      refine AWP.region ?_
      refine rC (Calm.assign rfl) ?_
      refine arun_nil ?_
      refine athen_n ?_
      refine AWP.seq ?_
      refine AWP.seq ?_
      refine AWP.region ?_
      refine ARun.call (lit_lt rfl) go_35 rfl (numV_lives S) ?_
      rintro _ S1 ⟨rfl, h1⟩
      rw [h1]; clear h1 S1
      refine rC (Calm.un rfl (una_not _)) ?_
      refine arun_nil ?_
      refine athen_n ?_
      refine AWP.sub [(0, _), (1, _), (2, _), (3, _), (8, _), (18, _)] ⟨rfl, rfl, rfl, rfl, rfl, rfl, trivial⟩ ?_
      refine AWP.condF rfl (by first | rfl | (simp; done) | (simp; omega)) ?_
      refine AWP.skip ?_
      refine athen_n ?_
      refine AWP.seq ?_
      refine AWP.region ?_
      refine rC (Calm.move rfl) ?_
      refine ARun.call (lit_lt rfl) go_31 rfl (numV_Put n S hn) ?_
      rintro _ S1 ⟨rfl, hq⟩
      rw [hq, recP_lt h1]; clear hq S1
      refine rC (Calm.move rfl) ?_
      refine rC (Calm.extract rfl rfl) ?_
      refine rC (Calm.extract rfl rfl) ?_
      refine rC (Calm.assign rfl) ?_
      refine rC (Calm.assign rfl) ?_
      refine arun_nil ?_
      refine athen_n ?_
      refine AWP.sub [(0, _), (1, _), (2, _), (3, _), (8, _), (18, _), (9, _), (10, _)] ⟨rfl, rfl, rfl, rfl, rfl, rfl, rfl, rfl, trivial⟩ ?_
      refine AWP.seq ?_
      refine AWP.region ?_
      refine rC (Calm.move rfl) ?_
      refine ARun.call (lit_lt rfl) go_31 rfl (numV_Put m S hm) ?_
      rintro _ S1 ⟨rfl, hq⟩
      rw [hq, recP_ge h2]; clear hq S1
      refine rC (Calm.move rfl) ?_
      refine rC (Calm.extract rfl rfl) ?_
      refine rC (Calm.extract rfl rfl) ?_
      refine rC (Calm.assign rfl) ?_
      refine rC (Calm.assign rfl) ?_
      refine arun_nil ?_
      refine athen_n ?_
      refine AWP.sub [(0, _), (1, _), (2, _), (3, _), (8, _), (18, _), (9, _), (10, _), (11, _), (12, _)] ⟨rfl, rfl, rfl, rfl, rfl, rfl, rfl, rfl, rfl, rfl, trivial⟩ ?_
      refine AWP.seq ?_
      refine AWP.seq ?_
      refine AWP.region ?_
      refine rC (Calm.move rfl) ?_
      refine rC (Calm.bin rfl rfl b_eql) ?_
      refine rC (Calm.move rfl) ?_
      first | refine rS 31 ?_ | refine rU 31 ?_ | refine rG 31 (Calm.move rfl) ?_
      first | refine rS 31 ?_ | refine rU 31 ?_ | refine rG 31 (Calm.bin rfl rfl b_eql) ?_
      refine rC ((by first | exact Calm.pickT rfl rfl | exact Calm.pickF rfl rfl)) ?_
      refine rC (Calm.move rfl) ?_
      first | refine rS 35 ?_ | refine rU 35 ?_ | refine rG 35 (Calm.move rfl) ?_
      first | refine rS 35 ?_ | refine rU 35 ?_ | refine rG 35 (Calm.move rfl) ?_
      first | refine rS 35 ?_ | refine rU 35 ?_ | refine rG 35 (Calm.bin rfl rfl (bin_str_lss _ _)) ?_
      first | refine rS 35 ?_ | refine rU 35 ?_ | refine rG 35 (Calm.move rfl) ?_
      first | refine rS 35 ?_ | refine rU 35 ?_ | refine rG 35 (Calm.move rfl) ?_
      first | refine rS 35 ?_ | refine rU 35 ?_ | refine rG 35 (Calm.bin rfl rfl b_lss) ?_
      first | refine rS 35 ?_ | refine rU 35 ?_ | refine rG 35 (Calm.bin rfl rfl (bin_bool_neq _ _ Try.underlying4)) ?_
      refine rC ((by first | exact Calm.pickT rfl rfl | exact Calm.pickF rfl rfl)) ?_
      refine arun_nil ?_
      refine athen_n ?_
      refine AWP.sub [(0, _), (1, _), (2, _), (3, _), (8, _), (18, _), (9, _), (10, _), (11, _), (12, _), (43, _)] ⟨rfl, rfl, rfl, rfl, rfl, rfl, rfl, rfl, rfl, rfl, rfl, trivial⟩ ?_
      refine AWP.condF rfl (by first | rfl | (simp; done) | (simp; omega)) ?_
      refine AWP.skip ?_
      refine athen_n ?_
      refine AWP.seq ?_
      refine AWP.region ?_
      refine rC (Calm.move rfl) ?_
      refine ARun.call (lit_lt rfl) go_40 rfl (numV_Record a _ S ha hab) ?_
      rintro _ S1 ⟨rfl, h1⟩
      rw [h1]; clear h1 S1
      refine rC (Calm.move rfl) ?_
      refine rC (Calm.extract rfl rfl) ?_
      refine rC (Calm.extract rfl rfl) ?_
      refine rC (Calm.assign rfl) ?_
      refine rC (Calm.assign rfl) ?_
      refine arun_nil ?_
      refine athen_n ?_
      refine AWP.sub [(0, _), (1, _), (2, _), (3, _), (8, _), (18, _), (9, _), (10, _), (11, _), (12, _), (43, _), (13, _), (14, _)] ⟨rfl, rfl, rfl, rfl, rfl, rfl, rfl, rfl, rfl, rfl, rfl, rfl, rfl, trivial⟩ ?_
      refine AWP.seq ?_
      refine AWP.region ?_
      refine rC (Calm.move rfl) ?_
      refine ARun.call (lit_lt rfl) go_40 rfl (numV_Record b _ S hb hbb) ?_
      rintro _ S1 ⟨rfl, h1⟩
      rw [h1]; clear h1 S1
      refine rC (Calm.move rfl) ?_
      refine rC (Calm.extract rfl rfl) ?_
      refine rC (Calm.extract rfl rfl) ?_
      refine rC (Calm.assign rfl) ?_
      refine rC (Calm.assign rfl) ?_
      refine arun_nil ?_
      refine athen_n ?_
      refine AWP.sub [(0, _), (1, _), (2, _), (3, _), (8, _), (18, _), (9, _), (10, _), (11, _), (12, _), (43, _), (13, _), (14, _), (15, _), (16, _)] ⟨rfl, rfl, rfl, rfl, rfl, rfl, rfl, rfl, rfl, rfl, rfl, rfl, rfl, rfl, rfl, trivial⟩ ?_
      rcases Bool.eq_false_or_eq_true (recOK a) with ra | ra
      · rw [recP_ok ra]
        rcases Bool.eq_false_or_eq_true (recOK b) with rb | rb
        · rw [recP_ok rb]
          by_cases hlen : a.length = b.length
          · refine AWP.seq ?_
            refine AWP.region ?_
            refine rC (Calm.move rfl) ?_
            refine rC (Calm.bin rfl rfl b_neq) ?_
            refine rC (Calm.move rfl) ?_
            first | refine rS 56 ?_ | refine rU 56 ?_ | refine rG 56 (Calm.move rfl) ?_
            first | refine rS 56 ?_ | refine rU 56 ?_ | refine rG 56 (Calm.bin rfl rfl b_neq) ?_
            refine rC ((by first | exact Calm.pickT rfl rfl | exact Calm.pickF rfl rfl)) ?_
            refine rC (Calm.move rfl) ?_
            first | refine rS 60 ?_ | refine rU 60 ?_ | refine rG 60 (Calm.move rfl) ?_
            first | refine rS 60 ?_ | refine rU 60 ?_ | refine rG 60 (Calm.lenSl Try.underlying49 rfl) ?_
            first | refine rS 60 ?_ | refine rU 60 ?_ | refine rG 60 (Calm.move rfl) ?_
            first | refine rS 60 ?_ | refine rU 60 ?_ | refine rG 60 (Calm.lenSl Try.underlying49 rfl) ?_
            first | refine rS 60 ?_ | refine rU 60 ?_ | refine rG 60 (Calm.bin rfl rfl b_neq) ?_
            refine rC ((by first | exact Calm.pickT rfl rfl | exact Calm.pickF rfl rfl)) ?_
            refine rC (Calm.move rfl) ?_
            first | refine rS 67 ?_ | refine rU 67 ?_ | refine rG 67 (Calm.move rfl) ?_
            first | refine rS 67 ?_ | refine rU 67 ?_ | refine rG 67 (Calm.move rfl) ?_
            first | refine rS 67 ?_ | refine rU 67 ?_ | refine rG 67 (Calm.bin rfl rfl (bin_bool (bin_str_lss _ _) ((by rw [bs_data, bs_data]; exact less_rec a b (recOK_all ra).2.2 (recOK_all rb).2.2 hlen : Op.bytesLess (bs (recB a)).data.toList (bs (recB b)).data.toList = lessB a b)))) ?_
            first | refine rS 67 ?_ | refine rU 67 ?_ | refine rG 67 (Calm.move rfl) ?_
            first | refine rS 67 ?_ | refine rU 67 ?_ | refine rG 67 (Calm.move rfl) ?_
            refine ARun.callG 13 false 67 rfl (lit_lt rfl) rfl (lit_lt rfl) go_45 rfl (numV_Less a b _ _ S ha hb) ?_
            rintro _ S1 ⟨rfl, h1⟩
            rw [h1]; clear h1 S1
            first | refine rS 67 ?_ | refine rU 67 ?_ | refine rG 67 (Calm.bin rfl rfl (bin_bool (bin_bool_eql _ _ Try.underlying4) (beq_self_eq_true _))) ?_
            refine rC ((by first | exact Calm.pickT rfl rfl | exact Calm.pickF rfl rfl)) ?_
            refine rC (Calm.assign rfl) ?_
            refine arun_nil ?_
            refine athen_n ?_
            refine AWP.sub [(0, _), (1, _), (2, _), (3, _), (8, _), (18, _), (9, _), (10, _), (11, _), (12, _), (43, _), (13, _), (14, _), (15, _), (16, _)] ⟨rfl, rfl, rfl, rfl, rfl, rfl, rfl, rfl, rfl, rfl, rfl, rfl, rfl, rfl, rfl, trivial⟩ ?_
            refine AWP.ret ?_
            refine ⟨_, _, ⟨_, _, rfl, rfl, rfl⟩, less_, ?_⟩
            rfl
          · refine AWP.seq ?_
            refine AWP.region ?_
            refine rC (Calm.move rfl) ?_
            refine rC (Calm.bin rfl rfl b_neq) ?_
            refine rC (Calm.move rfl) ?_
            first | refine rS 56 ?_ | refine rU 56 ?_ | refine rG 56 (Calm.move rfl) ?_
            first | refine rS 56 ?_ | refine rU 56 ?_ | refine rG 56 (Calm.bin rfl rfl b_neq) ?_
            refine rC ((by first | exact Calm.pickT rfl rfl | exact Calm.pickF rfl rfl)) ?_
            refine rC (Calm.move rfl) ?_
            first | refine rS 60 ?_ | refine rU 60 ?_ | refine rG 60 (Calm.move rfl) ?_
            first | refine rS 60 ?_ | refine rU 60 ?_ | refine rG 60 (Calm.lenSl Try.underlying49 rfl) ?_
            first | refine rS 60 ?_ | refine rU 60 ?_ | refine rG 60 (Calm.move rfl) ?_
            first | refine rS 60 ?_ | refine rU 60 ?_ | refine rG 60 (Calm.lenSl Try.underlying49 rfl) ?_
            first | refine rS 60 ?_ | refine rU 60 ?_ | refine rG 60 (Calm.bin rfl rfl b_neq) ?_
            refine rC ((by first | exact Calm.pickT rfl rfl | exact Calm.pickF rfl rfl)) ?_
            refine rC (Calm.move rfl) ?_
            first | refine rS 67 ?_ | refine rU 67 ?_ | refine rG 67 (Calm.move rfl) ?_
            first | refine rS 67 ?_ | refine rU 67 ?_ | refine rG 67 (Calm.move rfl) ?_
            first | refine rS 67 ?_ | refine rU 67 ?_ | refine rG 67 (Calm.bin rfl rfl (bin_str_lss _ _)) ?_
            first | refine rS 67 ?_ | refine rU 67 ?_ | refine rG 67 (Calm.move rfl) ?_
            first | refine rS 67 ?_ | refine rU 67 ?_ | refine rG 67 (Calm.move rfl) ?_
            first | refine rS 67 ?_ | refine rU 67 ?_
            first | refine rS 67 ?_ | refine rU 67 ?_ | refine rG 67 (Calm.bin rfl rfl (bin_bool_eql _ _ Try.underlying4)) ?_
            refine rC ((by first | exact Calm.pickT rfl rfl | exact Calm.pickF rfl rfl)) ?_
            refine rC (Calm.assign rfl) ?_
            refine arun_nil ?_
            refine athen_n ?_
            refine AWP.sub [(0, _), (1, _), (2, _), (3, _), (8, _), (18, _), (9, _), (10, _), (11, _), (12, _), (43, _), (13, _), (14, _), (15, _), (16, _)] ⟨rfl, rfl, rfl, rfl, rfl, rfl, rfl, rfl, rfl, rfl, rfl, rfl, rfl, rfl, rfl, trivial⟩ ?_
            refine AWP.ret ?_
            refine ⟨_, _, ⟨_, _, rfl, rfl, rfl⟩, less_, ?_⟩
            rfl
        · rw [recP_no rb]
          refine AWP.seq ?_
          refine AWP.region ?_
          refine rC (Calm.move rfl) ?_
          refine rC (Calm.bin rfl rfl b_neq) ?_
          refine rC (Calm.move rfl) ?_
          first | refine rS 56 ?_ | refine rU 56 ?_ | refine rG 56 (Calm.move rfl) ?_
          first | refine rS 56 ?_ | refine rU 56 ?_ | refine rG 56 (Calm.bin rfl rfl b_neq) ?_
          refine rC ((by first | exact Calm.pickT rfl rfl | exact Calm.pickF rfl rfl)) ?_
          refine rC (Calm.move rfl) ?_
          first | refine rS 60 ?_ | refine rU 60 ?_ | refine rG 60 (Calm.move rfl) ?_
          first | refine rS 60 ?_ | refine rU 60 ?_ | refine rG 60 (Calm.lenSl Try.underlying49 rfl) ?_
          first | refine rS 60 ?_ | refine rU 60 ?_ | refine rG 60 (Calm.move rfl) ?_
          first | refine rS 60 ?_ | refine rU 60 ?_ | refine rG 60 (Calm.lenSl Try.underlying49 rfl) ?_
          first | refine rS 60 ?_ | refine rU 60 ?_ | refine rG 60 (Calm.bin rfl rfl b_neq) ?_
          refine rC ((by first | exact Calm.pickT rfl rfl | exact Calm.pickF rfl rfl)) ?_
          refine rC (Calm.move rfl) ?_
          first | refine rS 67 ?_ | refine rU 67 ?_ | refine rG 67 (Calm.move rfl) ?_
          first | refine rS 67 ?_ | refine rU 67 ?_ | refine rG 67 (Calm.move rfl) ?_
          first | refine rS 67 ?_ | refine rU 67 ?_ | refine rG 67 (Calm.bin rfl rfl (bin_str_lss _ _)) ?_
          first | refine rS 67 ?_ | refine rU 67 ?_ | refine rG 67 (Calm.move rfl) ?_
          first | refine rS 67 ?_ | refine rU 67 ?_ | refine rG 67 (Calm.move rfl) ?_
          first | refine rS 67 ?_ | refine rU 67 ?_
          first | refine rS 67 ?_ | refine rU 67 ?_ | refine rG 67 (Calm.bin rfl rfl (bin_bool_eql _ _ Try.underlying4)) ?_
          refine rC ((by first | exact Calm.pickT rfl rfl | exact Calm.pickF rfl rfl)) ?_
          refine rC (Calm.assign rfl) ?_
          refine arun_nil ?_
          refine athen_n ?_
          refine AWP.sub [(0, _), (1, _), (2, _), (3, _), (8, _), (18, _), (9, _), (10, _), (11, _), (12, _), (43, _), (13, _), (14, _), (15, _), (16, _)] ⟨rfl, rfl, rfl, rfl, rfl, rfl, rfl, rfl, rfl, rfl, rfl, rfl, rfl, rfl, rfl, trivial⟩ ?_
          refine AWP.ret ?_
          refine ⟨_, _, ⟨_, _, rfl, rfl, rfl⟩, less_, ?_⟩
          rfl
      · rw [recP_no ra]
        refine AWP.seq ?_
        refine AWP.region ?_
        refine rC (Calm.move rfl) ?_
        refine rC (Calm.bin rfl rfl b_neq) ?_
        refine rC (Calm.move rfl) ?_
        first | refine rS 56 ?_ | refine rU 56 ?_ | refine rG 56 (Calm.move rfl) ?_
        first | refine rS 56 ?_ | refine rU 56 ?_ | refine rG 56 (Calm.bin rfl rfl b_neq) ?_
        refine rC ((by first | exact Calm.pickT rfl rfl | exact Calm.pickF rfl rfl)) ?_
        refine rC (Calm.move rfl) ?_
        first | refine rS 60 ?_ | refine rU 60 ?_ | refine rG 60 (Calm.move rfl) ?_
        first | refine rS 60 ?_ | refine rU 60 ?_ | refine rG 60 (Calm.lenSl Try.underlying49 rfl) ?_
        first | refine rS 60 ?_ | refine rU 60 ?_ | refine rG 60 (Calm.move rfl) ?_
        first | refine rS 60 ?_ | refine rU 60 ?_ | refine rG 60 (Calm.lenSl Try.underlying49 rfl) ?_
        first | refine rS 60 ?_ | refine rU 60 ?_ | refine rG 60 (Calm.bin rfl rfl b_neq) ?_
        refine rC ((by first | exact Calm.pickT rfl rfl | exact Calm.pickF rfl rfl)) ?_
        refine rC (Calm.move rfl) ?_
        first | refine rS 67 ?_ | refine rU 67 ?_ | refine rG 67 (Calm.move rfl) ?_
        first | refine rS 67 ?_ | refine rU 67 ?_ | refine rG 67 (Calm.move rfl) ?_
        first | refine rS 67 ?_ | refine rU 67 ?_ | refine rG 67 (Calm.bin rfl rfl (bin_str_lss _ _)) ?_
        first | refine rS 67 ?_ | refine rU 67 ?_ | refine rG 67 (Calm.move rfl) ?_
        first | refine rS 67 ?_ | refine rU 67 ?_ | refine rG 67 (Calm.move rfl) ?_
        first | refine rS 67 ?_ | refine rU 67 ?_
        first | refine rS 67 ?_ | refine rU 67 ?_ | refine rG 67 (Calm.bin rfl rfl (bin_bool_eql _ _ Try.underlying4)) ?_
        refine rC ((by first | exact Calm.pickT rfl rfl | exact Calm.pickF rfl rfl)) ?_
        refine rC (Calm.assign rfl) ?_
        refine arun_nil ?_
        refine athen_n ?_
        refine AWP.sub [(0, _), (1, _), (2, _), (3, _), (8, _), (18, _), (9, _), (10, _), (11, _), (12, _), (43, _), (13, _), (14, _), (15, _), (16, _)] ⟨rfl, rfl, rfl, rfl, rfl, rfl, rfl, rfl, rfl, rfl, rfl, rfl, rfl, rfl, rfl, trivial⟩ ?_
        refine AWP.ret ?_
        refine ⟨_, _, ⟨_, _, rfl, rfl, rfl⟩, less_, ?_⟩
        rfl
  · have h10 := h1
    refine ACall.enter (args := [.slice pa a.length ca, .slice pb b.length cb, .int .u64 n, .int .u64 m]) (rs := [.tmp 8]) 76 [(0, .slice pa a.length ca), (1, .slice pb b.length cb), (2, .int .u64 n), (3, .int .u64 m)] Try.func11 rfl rfl (Nat.le_of_ble_eq_true rfl) rfl ⟨rfl, rfl, rfl, rfl, trivial⟩ ?_
    refine AWP.seq ?_
    refine AWP.region ?_
    refine rC (Calm.assign rfl) ?_
    refine arun_nil ?_
    refine athen_n ?_
    refine AWP.seq ?_
    refine AWP.seq ?_
    refine AWP.region ?_
    refine ARun.call (lit_lt rfl) go_35 rfl (numV_lives S) ?_
    rintro _ S1 ⟨rfl, h1⟩
    rw [h1]; clear h1 S1
    refine rC (Calm.un rfl (una_not _)) ?_
    refine arun_nil ?_
    refine athen_n ?_
    refine AWP.sub [(0, _), (1, _), (2, _), (3, _), (8, _), (18, _)] ⟨rfl, rfl, rfl, rfl, rfl, rfl, trivial⟩ ?_
    refine AWP.condF rfl (by first | rfl | (simp; done) | (simp; omega)) ?_
    refine AWP.skip ?_
    refine athen_n ?_
    refine AWP.seq ?_
    refine AWP.region ?_
    refine rC (Calm.move rfl) ?_
    refine ARun.call (lit_lt rfl) go_31 rfl (numV_Put n S hn) ?_
    rintro _ S1 ⟨rfl, hq⟩
    rw [hq, recP_ge h1]; clear hq S1
    refine rC (Calm.move rfl) ?_
    refine rC (Calm.extract rfl rfl) ?_
    refine rC (Calm.extract rfl rfl) ?_
    refine rC (Calm.assign rfl) ?_
    refine rC (Calm.assign rfl) ?_
    refine arun_nil ?_
    refine athen_n ?_
    refine AWP.sub [(0, _), (1, _), (2, _), (3, _), (8, _), (18, _), (9, _), (10, _)] ⟨rfl, rfl, rfl, rfl, rfl, rfl, rfl, rfl, trivial⟩ ?_
    refine AWP.seq ?_
    refine AWP.region ?_
    refine rC (Calm.move rfl) ?_
    refine ARun.call (lit_lt rfl) go_31 rfl (numV_Put m S hm) ?_
    rintro _ S1 ⟨rfl, hq⟩
    rw [hq]; clear hq S1
    refine rC (Calm.move rfl) ?_
    refine rC (Calm.extract rfl rfl) ?_
    refine rC (Calm.extract rfl rfl) ?_
    refine rC (Calm.assign rfl) ?_
    refine rC (Calm.assign rfl) ?_
    refine arun_nil ?_
    refine athen_n ?_
    refine AWP.sub [(0, _), (1, _), (2, _), (3, _), (8, _), (18, _), (9, _), (10, _), (11, _), (12, _)] ⟨rfl, rfl, rfl, rfl, rfl, rfl, rfl, rfl, rfl, rfl, trivial⟩ ?_
    refine AWP.seq ?_
    refine AWP.seq ?_
    refine AWP.region ?_
    refine rC (Calm.move rfl) ?_
    refine rC (Calm.bin rfl rfl b_eql) ?_
    refine rC (Calm.move rfl) ?_
    first | refine rS 31 ?_ | refine rU 31 ?_ | refine rG 31 (Calm.move rfl) ?_
    first | refine rS 31 ?_ | refine rU 31 ?_ | refine rG 31 (Calm.bin rfl rfl b_eql) ?_
    refine rC ((by first | exact Calm.pickT rfl rfl | exact Calm.pickF rfl rfl)) ?_
    refine rC (Calm.move rfl) ?_
    first | refine rS 35 ?_ | refine rU 35 ?_ | refine rG 35 (Calm.move rfl) ?_
    first | refine rS 35 ?_ | refine rU 35 ?_ | refine rG 35 (Calm.move rfl) ?_
    first | refine rS 35 ?_ | refine rU 35 ?_ | refine rG 35 (Calm.bin rfl rfl (bin_str_lss _ _)) ?_
    first | refine rS 35 ?_ | refine rU 35 ?_ | refine rG 35 (Calm.move rfl) ?_
    first | refine rS 35 ?_ | refine rU 35 ?_ | refine rG 35 (Calm.move rfl) ?_
    first | refine rS 35 ?_ | refine rU 35 ?_ | refine rG 35 (Calm.bin rfl rfl b_lss) ?_
    first | refine rS 35 ?_ | refine rU 35 ?_ | refine rG 35 (Calm.bin rfl rfl (bin_bool_neq _ _ Try.underlying4)) ?_
    refine rC ((by first | exact Calm.pickT rfl rfl | exact Calm.pickF rfl rfl)) ?_
    refine arun_nil ?_
    refine athen_n ?_
    refine AWP.sub [(0, _), (1, _), (2, _), (3, _), (8, _), (18, _), (9, _), (10, _), (11, _), (12, _), (43, _)] ⟨rfl, rfl, rfl, rfl, rfl, rfl, rfl, rfl, rfl, rfl, rfl, trivial⟩ ?_
    refine AWP.condF rfl (by first | rfl | (simp; done) | (simp; omega)) ?_
    refine AWP.skip ?_
    refine athen_n ?_
    refine AWP.seq ?_
    refine AWP.region ?_
    refine rC (Calm.move rfl) ?_
    refine ARun.call (lit_lt rfl) go_40 rfl (numV_Record a _ S ha hab) ?_
    rintro _ S1 ⟨rfl, h1⟩
    rw [h1]; clear h1 S1
    refine rC (Calm.move rfl) ?_
    refine rC (Calm.extract rfl rfl) ?_
    refine rC (Calm.extract rfl rfl) ?_
    refine rC (Calm.assign rfl) ?_
    refine rC (Calm.assign rfl) ?_
    refine arun_nil ?_
    refine athen_n ?_
    refine AWP.sub [(0, _), (1, _), (2, _), (3, _), (8, _), (18, _), (9, _), (10, _), (11, _), (12, _), (43, _), (13, _), (14, _)] ⟨rfl, rfl, rfl, rfl, rfl, rfl, rfl, rfl, rfl, rfl, rfl, rfl, rfl, trivial⟩ ?_
    refine AWP.seq ?_
    refine AWP.region ?_
    refine rC (Calm.move rfl) ?_
    refine ARun.call (lit_lt rfl) go_40 rfl (numV_Record b _ S hb hbb) ?_
    rintro _ S1 ⟨rfl, h1⟩
    rw [h1]; clear h1 S1
    refine rC (Calm.move rfl) ?_
    refine rC (Calm.extract rfl rfl) ?_
    refine rC (Calm.extract rfl rfl) ?_
    refine rC (Calm.assign rfl) ?_
    refine rC (Calm.assign rfl) ?_
    refine arun_nil ?_
    refine athen_n ?_
    refine AWP.sub [(0, _), (1, _), (2, _), (3, _), (8, _), (18, _), (9, _), (10, _), (11, _), (12, _), (43, _), (13, _), (14, _), (15, _), (16, _)] ⟨rfl, rfl, rfl, rfl, rfl, rfl, rfl, rfl, rfl, rfl, rfl, rfl, rfl, rfl, rfl, trivial⟩ ?_
    rcases Bool.eq_false_or_eq_true (recOK a) with ra | ra
    · rw [recP_ok ra]
      rcases Bool.eq_false_or_eq_true (recOK b) with rb | rb
      · rw [recP_ok rb]
        by_cases hlen : a.length = b.length
        · refine AWP.seq ?_
          refine AWP.region ?_
          refine rC (Calm.move rfl) ?_
          refine rC (Calm.bin rfl rfl b_neq) ?_
          refine rC (Calm.move rfl) ?_
          first | refine rS 56 ?_ | refine rU 56 ?_ | refine rG 56 (Calm.move rfl) ?_
          first | refine rS 56 ?_ | refine rU 56 ?_ | refine rG 56 (Calm.bin rfl rfl b_neq) ?_
          refine rC ((by first | exact Calm.pickT rfl rfl | exact Calm.pickF rfl rfl)) ?_
          refine rC (Calm.move rfl) ?_
          first | refine rS 60 ?_ | refine rU 60 ?_ | refine rG 60 (Calm.move rfl) ?_
          first | refine rS 60 ?_ | refine rU 60 ?_ | refine rG 60 (Calm.lenSl Try.underlying49 rfl) ?_
          first | refine rS 60 ?_ | refine rU 60 ?_ | refine rG 60 (Calm.move rfl) ?_
          first | refine rS 60 ?_ | refine rU 60 ?_ | refine rG 60 (Calm.lenSl Try.underlying49 rfl) ?_
          first | refine rS 60 ?_ | refine rU 60 ?_ | refine rG 60 (Calm.bin rfl rfl b_neq) ?_
          refine rC ((by first | exact Calm.pickT rfl rfl | exact Calm.pickF rfl rfl)) ?_
          refine rC (Calm.move rfl) ?_
          first | refine rS 67 ?_ | refine rU 67 ?_ | refine rG 67 (Calm.move rfl) ?_
          first | refine rS 67 ?_ | refine rU 67 ?_ | refine rG 67 (Calm.move rfl) ?_
          first | refine rS 67 ?_ | refine rU 67 ?_ | refine rG 67 (Calm.bin rfl rfl (bin_bool (bin_str_lss _ _) ((by rw [bs_data, bs_data]; exact less_rec a b (recOK_all ra).2.2 (recOK_all rb).2.2 hlen : Op.bytesLess (bs (recB a)).data.toList (bs (recB b)).data.toList = lessB a b)))) ?_
          first | refine rS 67 ?_ | refine rU 67 ?_ | refine rG 67 (Calm.move rfl) ?_
          first | refine rS 67 ?_ | refine rU 67 ?_ | refine rG 67 (Calm.move rfl) ?_
          refine ARun.callG 13 false 67 rfl (lit_lt rfl) rfl (lit_lt rfl) go_45 rfl (numV_Less a b _ _ S ha hb) ?_
          rintro _ S1 ⟨rfl, h1⟩
          rw [h1]; clear h1 S1
          first | refine rS 67 ?_ | refine rU 67 ?_ | refine rG 67 (Calm.bin rfl rfl (bin_bool (bin_bool_eql _ _ Try.underlying4) (beq_self_eq_true _))) ?_
          refine rC ((by first | exact Calm.pickT rfl rfl | exact Calm.pickF rfl rfl)) ?_
          refine rC (Calm.assign rfl) ?_
          refine arun_nil ?_
          refine athen_n ?_
          refine AWP.sub [(0, _), (1, _), (2, _), (3, _), (8, _), (18, _), (9, _), (10, _), (11, _), (12, _), (43, _), (13, _), (14, _), (15, _), (16, _)] ⟨rfl, rfl, rfl, rfl, rfl, rfl, rfl, rfl, rfl, rfl, rfl, rfl, rfl, rfl, rfl, trivial⟩ ?_
          refine AWP.ret ?_
          refine ⟨_, _, ⟨_, _, rfl, rfl, rfl⟩, less_, ?_⟩
          rfl
        · refine AWP.seq ?_
          refine AWP.region ?_
          refine rC (Calm.move rfl) ?_
          refine rC (Calm.bin rfl rfl b_neq) ?_
          refine rC (Calm.move rfl) ?_
          first | refine rS 56 ?_ | refine rU 56 ?_ | refine rG 56 (Calm.move rfl) ?_
          first | refine rS 56 ?_ | refine rU 56 ?_ | refine rG 56 (Calm.bin rfl rfl b_neq) ?_
          refine rC ((by first | exact Calm.pickT rfl rfl | exact Calm.pickF rfl rfl)) ?_
          refine rC (Calm.move rfl) ?_
          first | refine rS 60 ?_ | refine rU 60 ?_ | refine rG 60 (Calm.move rfl) ?_
          first | refine rS 60 ?_ | refine rU 60 ?_ | refine rG 60 (Calm.lenSl Try.underlying49 rfl) ?_
          first | refine rS 60 ?_ | refine rU 60 ?_ | refine rG 60 (Calm.move rfl) ?_
          first | refine rS 60 ?_ | refine rU 60 ?_ | refine rG 60 (Calm.lenSl Try.underlying49 rfl) ?_
          first | refine rS 60 ?_ | refine rU 60 ?_ | refine rG 60 (Calm.bin rfl rfl b_neq) ?_
          refine rC ((by first | exact Calm.pickT rfl rfl | exact Calm.pickF rfl rfl)) ?_
          refine rC (Calm.move rfl) ?_
          first | refine rS 67 ?_ | refine rU 67 ?_ | refine rG 67 (Calm.move rfl) ?_
          first | refine rS 67 ?_ | refine rU 67 ?_ | refine rG 67 (Calm.move rfl) ?_
          first | refine rS 67 ?_ | refine rU 67 ?_ | refine rG 67 (Calm.bin rfl rfl (bin_str_lss _ _)) ?_
          first | refine rS 67 ?_ | refine rU 67 ?_ | refine rG 67 (Calm.move rfl) ?_
          first | refine rS 67 ?_ | refine rU 67 ?_ | refine rG 67 (Calm.move rfl) ?_
          first | refine rS 67 ?_ | refine rU 67 ?_
          first | refine rS 67 ?_ | refine rU 67 ?_ | refine rG 67 (Calm.bin rfl rfl (bin_bool_eql _ _ Try.underlying4)) ?_
          refine rC ((by first | exact Calm.pickT rfl rfl | exact Calm.pickF rfl rfl)) ?_
          refine rC (Calm.assign rfl) ?_
          refine arun_nil ?_
          refine athen_n ?_
          refine AWP.sub [(0, _), (1, _), (2, _), (3, _), (8, _), (18, _), (9, _), (10, _), (11, _), (12, _), (43, _), (13, _), (14, _), (15, _), (16, _)] ⟨rfl, rfl, rfl, rfl, rfl, rfl, rfl, rfl, rfl, rfl, rfl, rfl, rfl, rfl, rfl, trivial⟩ ?_
          refine AWP.ret ?_
          refine ⟨_, _, ⟨_, _, rfl, rfl, rfl⟩, less_, ?_⟩
          rfl
      · rw [recP_no rb]
        refine AWP.seq ?_
        refine AWP.region ?_
        refine rC (Calm.move rfl) ?_
        refine rC (Calm.bin rfl rfl b_neq) ?_
        refine rC (Calm.move rfl) ?_
        first | refine rS 56 ?_ | refine rU 56 ?_ | refine rG 56 (Calm.move rfl) ?_
        first | refine rS 56 ?_ | refine rU 56 ?_ | refine rG 56 (Calm.bin rfl rfl b_neq) ?_
        refine rC ((by first | exact Calm.pickT rfl rfl | exact Calm.pickF rfl rfl)) ?_
        refine rC (Calm.move rfl) ?_
        first | refine rS 60 ?_ | refine rU 60 ?_ | refine rG 60 (Calm.move rfl) ?_
        first | refine rS 60 ?_ | refine rU 60 ?_ | refine rG 60 (Calm.lenSl Try.underlying49 rfl) ?_
        first | refine rS 60 ?_ | refine rU 60 ?_ | refine rG 60 (Calm.move rfl) ?_
        first | refine rS 60 ?_ | refine rU 60 ?_ | refine rG 60 (Calm.lenSl Try.underlying49 rfl) ?_
        first | refine rS 60 ?_ | refine rU 60 ?_ | refine rG 60 (Calm.bin rfl rfl b_neq) ?_
        refine rC ((by first | exact Calm.pickT rfl rfl | exact Calm.pickF rfl rfl)) ?_
        refine rC (Calm.move rfl) ?_
        first | refine rS 67 ?_ | refine rU 67 ?_ | refine rG 67 (Calm.move rfl) ?_
        first | refine rS 67 ?_ | refine rU 67 ?_ | refine rG 67 (Calm.move rfl) ?_
        first | refine rS 67 ?_ | refine rU 67 ?_ | refine rG 67 (Calm.bin rfl rfl (bin_str_lss _ _)) ?_
        first | refine rS 67 ?_ | refine rU 67 ?_ | refine rG 67 (Calm.move rfl) ?_
        first | refine rS 67 ?_ | refine rU 67 ?_ | refine rG 67 (Calm.move rfl) ?_
        first | refine rS 67 ?_ | refine rU 67 ?_
        first | refine rS 67 ?_ | refine rU 67 ?_ | refine rG 67 (Calm.bin rfl rfl (bin_bool_eql _ _ Try.underlying4)) ?_
        refine rC ((by first | exact Calm.pickT rfl rfl | exact Calm.pickF rfl rfl)) ?_
        refine rC (Calm.assign rfl) ?_
        refine arun_nil ?_
        refine athen_n ?_
        refine AWP.sub [(0, _), (1, _), (2, _), (3, _), (8, _), (18, _), (9, _), (10, _), (11, _), (12, _), (43, _), (13, _), (14, _), (15, _), (16, _)] ⟨rfl, rfl, rfl, rfl, rfl, rfl, rfl, rfl, rfl, rfl, rfl, rfl, rfl, rfl, rfl, trivial⟩ ?_
        refine AWP.ret ?_
        refine ⟨_, _, ⟨_, _, rfl, rfl, rfl⟩, less_, ?_⟩
        rfl
    · rw [recP_no ra]
      refine AWP.seq ?_
      refine AWP.region ?_
      refine rC (Calm.move rfl) ?_
      refine rC (Calm.bin rfl rfl b_neq) ?_
      refine rC (Calm.move rfl) ?_
      first | refine rS 56 ?_ | refine rU 56 ?_ | refine rG 56 (Calm.move rfl) ?_
      first | refine rS 56 ?_ | refine rU 56 ?_ | refine rG 56 (Calm.bin rfl rfl b_neq) ?_
      refine rC ((by first | exact Calm.pickT rfl rfl | exact Calm.pickF rfl rfl)) ?_
      refine rC (Calm.move rfl) ?_
      first | refine rS 60 ?_ | refine rU 60 ?_ | refine rG 60 (Calm.move rfl) ?_
      first | refine rS 60 ?_ | refine rU 60 ?_ | refine rG 60 (Calm.lenSl Try.underlying49 rfl) ?_
      first | refine rS 60 ?_ | refine rU 60 ?_ | refine rG 60 (Calm.move rfl) ?_
      first | refine rS 60 ?_ | refine rU 60 ?_ | refine rG 60 (Calm.lenSl Try.underlying49 rfl) ?_
      first | refine rS 60 ?_ | refine rU 60 ?_ | refine rG 60 (Calm.bin rfl rfl b_neq) ?_
      refine rC ((by first | exact Calm.pickT rfl rfl | exact Calm.pickF rfl rfl)) ?_
      refine rC (Calm.move rfl) ?_
      first | refine rS 67 ?_ | refine rU 67 ?_ | refine rG 67 (Calm.move rfl) ?_
      first | refine rS 67 ?_ | refine rU 67 ?_ | refine rG 67 (Calm.move rfl) ?_
      first | refine rS 67 ?_ | refine rU 67 ?_ | refine rG 67 (Calm.bin rfl rfl (bin_str_lss _ _)) ?_
      first | refine rS 67 ?_ | refine rU 67 ?_ | refine rG 67 (Calm.move rfl) ?_
      first | refine rS 67 ?_ | refine rU 67 ?_ | refine rG 67 (Calm.move rfl) ?_
      first | refine rS 67 ?_ | refine rU 67 ?_
      first | refine rS 67 ?_ | refine rU 67 ?_ | refine rG 67 (Calm.bin rfl rfl (bin_bool_eql _ _ Try.underlying4)) ?_
      refine rC ((by first | exact Calm.pickT rfl rfl | exact Calm.pickF rfl rfl)) ?_
      refine rC (Calm.assign rfl) ?_
      refine arun_nil ?_
      refine athen_n ?_
      refine AWP.sub [(0, _), (1, _), (2, _), (3, _), (8, _), (18, _), (9, _), (10, _), (11, _), (12, _), (43, _), (13, _), (14, _), (15, _), (16, _)] ⟨rfl, rfl, rfl, rfl, rfl, rfl, rfl, rfl, rfl, rfl, rfl, rfl, rfl, rfl, rfl, trivial⟩ ?_
      refine AWP.ret ?_
      refine ⟨_, _, ⟨_, _, rfl, rfl, rfl⟩, less_, ?_⟩
      rfl
theorem recsB_snoc (l : List (List Nat)) (x : List Nat) : recsB (l ++ [x]) = recsB l ++ recB x := by simp [recsB]
/-- The records that were kept. -/
structure KeptI (w : Int) (i : Nat) (ks : List (List Nat)) : Prop where
  few : ks.length ≤ i ∧ ks.length ≤ 40
  ok : ∀ x ∈ ks, recOK x = true ∧ (x.length : Int) = w
theorem KeptI.size {w : Int} {i : Nat} {ks : List (List Nat)} (h : KeptI w i ks) : (recsB ks).length ≤ 1600 := by
  have : ∀ ks : List (List Nat), (∀ x ∈ ks, recOK x = true ∧ (x.length : Int) = w) → (recsB ks).length ≤ 40 * ks.length := by
    intro ks
    induction ks with
    | nil => intro _; simp [recsB]
    | cons x ks ih =>
      intro hx
      have h1 := ih (fun y hy => hx y (by simp [hy]))
      have h2 := (recOK_all (hx x (by simp)).1).2.1
      simp only [recsB, List.flatMap_cons, List.length_append, recB_length, List.length_cons] at h1 ⊢; omega
  have h1 := this ks h.ok
  have h2 := h.few.2
  omega
set_option maxHeartbeats 4000000 in
theorem law_NumParts (l : List (List Nat)) (v : Value) (w : Int) (S : Mem) (hl : SlOf RowR S v l) (hlb : ∀ x ∈ l, ∀ n ∈ x, n < 18446744073709551616) :
    ACall Try.prog 12 #[v, .int .i64 w] S fun r S' => r = .bool true := by
  obtain ⟨gs, hgl, ⟨pa, ca, rfl, ha1, ha2, ha3⟩, hge⟩ := hl
  refine ACall.enter (args := [.slice pa gs.length ca, .int .i64 w]) (rs := [.tmp 4]) 77 [(0, .slice pa gs.length ca), (1, .int .i64 w)] Try.func12 rfl rfl (Nat.le_of_ble_eq_true rfl) rfl ⟨rfl, rfl, trivial⟩ ?_
  refine AWP.seq ?_
  refine AWP.region ?_
  refine rC (Calm.assign rfl) ?_
  refine arun_nil ?_
  refine athen_n ?_
  refine AWP.seq ?_
  refine AWP.seq ?_
  refine AWP.region ?_
  refine ARun.call (lit_lt rfl) go_35 rfl (numV_lives S) ?_
  rintro _ S1 ⟨rfl, h1⟩
  rw [h1]; clear h1 S1
  refine rC (Calm.un rfl (una_not _)) ?_
  refine arun_nil ?_
  refine athen_n ?_
  refine AWP.sub [(0, _), (1, _), (4, _), (16, _)] ⟨rfl, rfl, rfl, rfl, trivial⟩ ?_
  refine AWP.condF rfl (by first | rfl | (simp; done) | (simp; omega)) ?_
  refine AWP.skip ?_
  refine athen_n ?_
  refine AWP.seq ?_
  refine AWP.region ?_
  refine rC (Calm.assign rfl) ?_
  refine arun_nil ?_
  refine athen_n ?_
  refine AWP.seq ?_
  refine AWP.region ?_
  refine rC (Calm.assign rfl) ?_
  refine arun_nil ?_
  refine athen_n ?_
  refine AWP.seq ?_
  refine AWP.seq ?_
  refine AWP.region ?_
  refine rC (Calm.move rfl) ?_
  refine rC (Calm.lenSl Try.underlying51 rfl) ?_
  refine rC (Calm.move rfl) ?_
  refine arun_nil ?_
  refine athen_n ?_
  refine AWP.block ?_
  refine AWP.loop (X := Nat × List (List Nat) × Option (Nat × Nat) × List Value) (fun x => [(1, .int .i64 w), (5, .string (bs (recsB x.2.1))), (6, outV x.2.2.1 x.2.2.2.length), (17, .slice pa gs.length ca), (18, .int .i64 gs.length), (19, .int .i64 x.1)]) (fun x => outM S x.2.2.1 49 x.2.2.2) (fun x => x.1 ≤ gs.length ∧ KeptI w x.1 x.2.1 ∧ GrowI RowR S S x.2.2.1 x.2.2.2 x.2.1) (fun x => gs.length - x.1) ((0, [], none, [])) ⟨rfl, rfl, rfl, rfl, rfl, rfl, trivial⟩ (Mem.Less.refl _) (⟨Nat.zero_le _, ⟨⟨Nat.zero_le _, Nat.zero_le _⟩, fun x h => by cases h⟩, GrowI.nil _ _⟩) ?_
  rintro ⟨i, ks, o, hs⟩ ⟨hi, hk, hI⟩
  (try dsimp only at *)
  have hkz := hk.size
  have hks := bs_size (recsB ks)
  have hkf := hk.few
  have hhl := hI.len
  refine AWP.seq ?_
  refine AWP.region ?_
  refine rC (Calm.bin rfl rfl b_lss) ?_
  refine arun_nil ?_
  refine athen_n ?_
  refine AWP.seq ?_
  refine AWP.condB rfl (fun hil => ?_) (fun hil => ?_)
  · have hil : i < gs.length := by have := of_decide_eq_true hil; omega
    obtain ⟨b0, off, rfl, hkn⟩ := ha3.resolve_left (by intro h; rw [h] at hil; exact absurd hil (Nat.not_lt_zero _))
    have hkk := hkn i hil
    have hrow := hge i (by omega) hil
    have hrb := hlb l[i] (List.getElem_mem _)
    have hrow2 := hrow
    obtain ⟨x, hx⟩ : ∃ x, x = l[i]'(by omega) := ⟨_, rfl⟩
    rw [← hx] at hrow hrow2 hrb
    obtain ⟨g, hg⟩ : ∃ g, g = gs[i] := ⟨_, rfl⟩
    rw [← hg] at hrow hrow2 hkk
    obtain ⟨px, cx, rfl, hx1, hx2, _⟩ := hrow2
    have hkk2 := hkk.less (outM_over (e := 49) (cs := hs) hI.ok)
    refine AWP.skip ?_
    refine athen_n ?_
    refine AWP.seq ?_
    refine AWP.block ?_
    refine AWP.seq ?_
    refine AWP.region ?_
    refine rC (Calm.move rfl) ?_
    refine rC (Calm.indexS Try.underlying51 ty_size_49 rfl rfl (by omega) (by omega)) ?_
    refine rC (ld_ ty_plain_49 rfl) ?_
    refine rC (Calm.assign rfl) ?_
    refine rC (Calm.assign rfl) ?_
    refine arun_nil ?_
    refine athen_n ?_
    refine AWP.sub [(1, _), (5, _), (6, _), (17, _), (18, _), (19, _), (20, _), (7, _), (8, _)] ⟨rfl, rfl, rfl, rfl, rfl, rfl, rfl, rfl, rfl, trivial⟩ ?_
    refine AWP.seq ?_
    refine AWP.region ?_
    refine rC (Calm.move rfl) ?_
    refine ARun.call (lit_lt rfl) go_40 rfl (numV_Record x _ _ (hrow.less (outM_over hI.ok)) hrb) ?_
    rintro _ S1 ⟨rfl, h1⟩
    rw [h1]; clear h1 S1
    refine rC (Calm.move rfl) ?_
    refine rC (Calm.extract rfl rfl) ?_
    refine rC (Calm.extract rfl rfl) ?_
    refine rC (Calm.assign rfl) ?_
    refine rC (Calm.assign rfl) ?_
    refine arun_nil ?_
    refine athen_n ?_
    refine AWP.sub [(1, _), (5, _), (6, _), (17, _), (18, _), (19, _), (20, _), (7, _), (8, _), (9, _), (10, _)] ⟨rfl, rfl, rfl, rfl, rfl, rfl, rfl, rfl, rfl, rfl, rfl, trivial⟩ ?_
    by_cases hi40 : i < 40
    · rcases Bool.eq_false_or_eq_true (recOK x) with ra | ra
      · rw [recP_ok ra]
        by_cases hw : (x.length : Int) = w
        · refine AWP.seq ?_
          refine AWP.region ?_
          refine rC (Calm.move rfl) ?_
          refine rC (Calm.bin rfl rfl b_lss) ?_
          refine rC (Calm.move rfl) ?_
          first | refine rS 31 ?_ | refine rU 31 ?_ | refine rG 31 (Calm.move rfl) ?_
          first | refine rS 31 ?_ | refine rU 31 ?_ | refine rG 31 (Calm.bin rfl rfl b_eql) ?_
          refine rC ((by first | exact Calm.pickT rfl rfl | exact Calm.pickF rfl rfl)) ?_
          refine rC (Calm.move rfl) ?_
          first | refine rS 35 ?_ | refine rU 35 ?_ | refine rG 35 (Calm.move rfl) ?_
          first | refine rS 35 ?_ | refine rU 35 ?_ | refine rG 35 (Calm.lenSl Try.underlying49 rfl) ?_
          first | refine rS 35 ?_ | refine rU 35 ?_ | refine rG 35 (Calm.move rfl) ?_
          first | refine rS 35 ?_ | refine rU 35 ?_ | refine rG 35 (Calm.bin rfl rfl b_eql) ?_
          refine rC ((by first | exact Calm.pickT rfl rfl | exact Calm.pickF rfl rfl)) ?_
          refine arun_nil ?_
          refine athen_n ?_
          refine AWP.sub [(1, _), (5, _), (6, _), (17, _), (18, _), (19, _), (20, _), (7, _), (8, _), (9, _), (10, _), (40, _)] ⟨rfl, rfl, rfl, rfl, rfl, rfl, rfl, rfl, rfl, rfl, rfl, rfl, trivial⟩ ?_
          refine AWP.condT rfl (by first | rfl | (simp; done) | (simp; omega)) ?_
          have hra := recOK_all ra
          have hbx := bs_size (recB x)
          rw [recB_length] at hbx
          refine AWP.seq ?_
          refine AWP.region ?_
          refine rC (Calm.move rfl) ?_
          refine rC (Calm.move rfl) ?_
          refine rC (Calm.bin rfl rfl (bin_str_add (a := bs (recsB ks)) (b := bs (recB x)) (by omega))) ?_
          rw [bs_append, ← recsB_snoc]
          refine rC (Calm.assign rfl) ?_
          refine arun_nil ?_
          refine athen_n ?_
          refine AWP.sub [(1, _), (5, _), (6, _), (17, _), (18, _), (19, _), (20, _), (7, _), (8, _), (9, _), (10, _), (40, _)] ⟨rfl, rfl, rfl, rfl, rfl, rfl, rfl, rfl, rfl, rfl, rfl, rfl, trivial⟩ ?_
          refine AWP.region ?_
          refine rC (Calm.move rfl) ?_
          refine rC (Calm.move rfl) ?_
          refine ARun.build1s (lit_lt rfl) ty_sl_51 rfl rfl ?_
          intro b46 f46
          have g46 := f46
          repeat ((with_reducible replace g46 := fresh_set g46); obtain ⟨g46, _⟩ := g46)
          refine ARun.appendO (lit_lt rfl) ty_sl_51 rfl rfl (appO_of hI.ok rfl g46) rfl (news := [_]) rds_ rfl (by omega) (by simp [Value.oneCell']) (by omega) (by omega) ?_
          intro b47 c47 ho2
          have hI2 := hI.step rowR_less (Mem.Less.refl _) hrow ho2
          refine rC (Calm.assign rfl) ?_
          refine arun_nil ?_
          refine ain_n ?_
          refine athen_n ?_
          refine AWP.sub [(1, _), (5, _), (6, _), (17, _), (18, _), (19, _), (20, _), (7, _), (8, _), (9, _), (10, _), (40, _)] ⟨rfl, rfl, rfl, rfl, rfl, rfl, rfl, rfl, rfl, rfl, rfl, rfl, trivial⟩ ?_
          refine AWP.region ?_
          refine rC (Calm.bin rfl rfl b_add_i64) ?_
          refine rC (Calm.move rfl) ?_
          refine arun_nil ?_
          refine athen_n ?_
          refine ⟨(i + 1, ks ++ [x], some (b47, c47), hs ++ [.slice px x.length cx]), ?_, ?_, ?_, ?_⟩
          all_goals (try dsimp only)
          · exact ⟨rfl, rfl, by rw [List.length_append]; rfl, rfl, rfl, rfl, trivial⟩
          · exact Mem.Less.refl _
          · exact ⟨hil, ⟨by simp; omega, fun y hy => by rcases List.mem_append.1 hy with hy | hy; exact hk.ok y hy; (simp at hy; subst hy; exact ⟨ra, hw⟩)⟩, hI2⟩
          · omega
        · refine AWP.seq ?_
          refine AWP.region ?_
          refine rC (Calm.move rfl) ?_
          refine rC (Calm.bin rfl rfl b_lss) ?_
          refine rC (Calm.move rfl) ?_
          first | refine rS 31 ?_ | refine rU 31 ?_ | refine rG 31 (Calm.move rfl) ?_
          first | refine rS 31 ?_ | refine rU 31 ?_ | refine rG 31 (Calm.bin rfl rfl b_eql) ?_
          refine rC ((by first | exact Calm.pickT rfl rfl | exact Calm.pickF rfl rfl)) ?_
          refine rC (Calm.move rfl) ?_
          first | refine rS 35 ?_ | refine rU 35 ?_ | refine rG 35 (Calm.move rfl) ?_
          first | refine rS 35 ?_ | refine rU 35 ?_ | refine rG 35 (Calm.lenSl Try.underlying49 rfl) ?_
          first | refine rS 35 ?_ | refine rU 35 ?_ | refine rG 35 (Calm.move rfl) ?_
          first | refine rS 35 ?_ | refine rU 35 ?_ | refine rG 35 (Calm.bin rfl rfl b_eql) ?_
          refine rC ((by first | exact Calm.pickT rfl rfl | exact Calm.pickF rfl rfl)) ?_
          refine arun_nil ?_
          refine athen_n ?_
          refine AWP.sub [(1, _), (5, _), (6, _), (17, _), (18, _), (19, _), (20, _), (7, _), (8, _), (9, _), (10, _), (40, _)] ⟨rfl, rfl, rfl, rfl, rfl, rfl, rfl, rfl, rfl, rfl, rfl, rfl, trivial⟩ ?_
          refine AWP.condF rfl (by first | rfl | (simp; done) | (simp; omega)) ?_
          refine AWP.skip ?_
          refine ain_n ?_
          refine athen_n ?_
          refine AWP.region ?_
          refine rC (Calm.bin rfl rfl b_add_i64) ?_
          refine rC (Calm.move rfl) ?_
          refine arun_nil ?_
          refine athen_n ?_
          refine ⟨(i + 1, ks, o, hs), ?_, ?_, ?_, ?_⟩
          all_goals (try dsimp only)
          · exact ⟨rfl, rfl, rfl, rfl, rfl, rfl, trivial⟩
          · exact Mem.Less.refl _
          · exact ⟨hil, ⟨by omega, hk.ok⟩, hI⟩
          · omega
      · rw [recP_no ra]
        refine AWP.seq ?_
        refine AWP.region ?_
        refine rC (Calm.move rfl) ?_
        refine rC (Calm.bin rfl rfl b_lss) ?_
        refine rC (Calm.move rfl) ?_
        first | refine rS 31 ?_ | refine rU 31 ?_ | refine rG 31 (Calm.move rfl) ?_
        first | refine rS 31 ?_ | refine rU 31 ?_ | refine rG 31 (Calm.bin rfl rfl b_eql) ?_
        refine rC ((by first | exact Calm.pickT rfl rfl | exact Calm.pickF rfl rfl)) ?_
        refine rC (Calm.move rfl) ?_
        first | refine rS 35 ?_ | refine rU 35 ?_ | refine rG 35 (Calm.move rfl) ?_
        first | refine rS 35 ?_ | refine rU 35 ?_ | refine rG 35 (Calm.lenSl Try.underlying49 rfl) ?_
        first | refine rS 35 ?_ | refine rU 35 ?_ | refine rG 35 (Calm.move rfl) ?_
        first | refine rS 35 ?_ | refine rU 35 ?_ | refine rG 35 (Calm.bin rfl rfl b_eql) ?_
        refine rC ((by first | exact Calm.pickT rfl rfl | exact Calm.pickF rfl rfl)) ?_
        refine arun_nil ?_
        refine athen_n ?_
        refine AWP.sub [(1, _), (5, _), (6, _), (17, _), (18, _), (19, _), (20, _), (7, _), (8, _), (9, _), (10, _), (40, _)] ⟨rfl, rfl, rfl, rfl, rfl, rfl, rfl, rfl, rfl, rfl, rfl, rfl, trivial⟩ ?_
        refine AWP.condF rfl (by first | rfl | (simp; done) | (simp; omega)) ?_
        refine AWP.skip ?_
        refine ain_n ?_
        refine athen_n ?_
        refine AWP.region ?_
        refine rC (Calm.bin rfl rfl b_add_i64) ?_
        refine rC (Calm.move rfl) ?_
        refine arun_nil ?_
        refine athen_n ?_
        refine ⟨(i + 1, ks, o, hs), ?_, ?_, ?_, ?_⟩
        all_goals (try dsimp only)
        · exact ⟨rfl, rfl, rfl, rfl, rfl, rfl, trivial⟩
        · exact Mem.Less.refl _
        · exact ⟨hil, ⟨by omega, hk.ok⟩, hI⟩
        · omega
    · refine AWP.seq ?_
      refine AWP.region ?_
      refine rC (Calm.move rfl) ?_
      refine rC (Calm.bin rfl rfl b_lss) ?_
      refine rC (Calm.move rfl) ?_
      first | refine rS 31 ?_ | refine rU 31 ?_ | refine rG 31 (Calm.move rfl) ?_
      first | refine rS 31 ?_ | refine rU 31 ?_ | refine rG 31 (Calm.bin rfl rfl b_eql) ?_
      refine rC ((by first | exact Calm.pickT rfl rfl | exact Calm.pickF rfl rfl)) ?_
      refine rC (Calm.move rfl) ?_
      first | refine rS 35 ?_ | refine rU 35 ?_ | refine rG 35 (Calm.move rfl) ?_
      first | refine rS 35 ?_ | refine rU 35 ?_ | refine rG 35 (Calm.lenSl Try.underlying49 rfl) ?_
      first | refine rS 35 ?_ | refine rU 35 ?_ | refine rG 35 (Calm.move rfl) ?_
      first | refine rS 35 ?_ | refine rU 35 ?_ | refine rG 35 (Calm.bin rfl rfl b_eql) ?_
      refine rC ((by first | exact Calm.pickT rfl rfl | exact Calm.pickF rfl rfl)) ?_
      refine arun_nil ?_
      refine athen_n ?_
      refine AWP.sub [(1, _), (5, _), (6, _), (17, _), (18, _), (19, _), (20, _), (7, _), (8, _), (9, _), (10, _), (40, _)] ⟨rfl, rfl, rfl, rfl, rfl, rfl, rfl, rfl, rfl, rfl, rfl, rfl, trivial⟩ ?_
      refine AWP.condF rfl (by first | rfl | (simp; done) | (simp; omega)) ?_
      refine AWP.skip ?_
      refine ain_n ?_
      refine athen_n ?_
      refine AWP.region ?_
      refine rC (Calm.bin rfl rfl b_add_i64) ?_
      refine rC (Calm.move rfl) ?_
      refine arun_nil ?_
      refine athen_n ?_
      refine ⟨(i + 1, ks, o, hs), ?_, ?_, ?_, ?_⟩
      all_goals (try dsimp only)
      · exact ⟨rfl, rfl, rfl, rfl, rfl, rfl, trivial⟩
      · exact Mem.Less.refl _
      · exact ⟨hil, ⟨by omega, hk.ok⟩, hI⟩
      · omega
  · have hso := hI.slOf (e := 49) rowR_less (by omega)
    refine AWP.exit ?_
    refine athen_exit ?_
    refine athen_exit ?_
    refine ain_same ?_
    refine athen_n ?_
    refine AWP.seq ?_
    refine AWP.region ?_
    refine rC (Calm.move rfl) ?_
    refine rC (Calm.move rfl) ?_
    refine ARun.call (lit_lt rfl) go_42 rfl (numV_Split (bs (recsB ks)) w _ (by omega)) ?_
    rintro _ S1 ⟨v1, rfl, hS1, hv1⟩
    refine rC (Calm.move rfl) ?_
    refine rC (Calm.extract rfl rfl) ?_
    refine rC (Calm.extract rfl rfl) ?_
    refine rC (Calm.assign rfl) ?_
    refine rC (Calm.assign rfl) ?_
    refine arun_nil ?_
    refine athen_n ?_
    refine AWP.sub [(1, _), (5, _), (6, _), (17, _), (18, _), (19, _), (20, _), (11, _), (12, _)] ⟨rfl, rfl, rfl, rfl, rfl, rfl, rfl, rfl, rfl, trivial⟩ ?_
    by_cases hw : w < 1 ∨ 8 < w
    · rw [(splitE_1 (bs (recsB ks)) w hw).1]
      refine AWP.seq ?_
      refine AWP.seq ?_
      refine AWP.region ?_
      refine rC (Calm.move rfl) ?_
      refine rC (Calm.bin rfl rfl b_neq) ?_
      refine arun_nil ?_
      refine athen_n ?_
      refine AWP.sub [(1, _), (5, _), (6, _), (17, _), (18, _), (19, _), (20, _), (11, _), (12, _), (56, _)] ⟨rfl, rfl, rfl, rfl, rfl, rfl, rfl, rfl, rfl, rfl, trivial⟩ ?_
      refine AWP.condT rfl (by first | rfl | (simp; done) | (simp; omega)) ?_
      by_cases hw1 : w < 1
      · refine AWP.seq ?_
        refine AWP.region ?_
        refine rC (Calm.move rfl) ?_
        refine rC (Calm.bin rfl rfl b_lss) ?_
        refine rC (Calm.move rfl) ?_
        first | refine rS 59 ?_ | refine rU 59 ?_ | refine rG 59 (Calm.move rfl) ?_
        first | refine rS 59 ?_ | refine rU 59 ?_ | refine rG 59 (Calm.bin rfl rfl b_gtr) ?_
        refine rC ((by first | exact Calm.pickT rfl rfl | exact Calm.pickF rfl rfl)) ?_
        refine rC (Calm.assign rfl) ?_
        refine arun_nil ?_
        refine athen_n ?_
        refine AWP.sub [(1, _), (5, _), (6, _), (17, _), (18, _), (19, _), (20, _), (11, _), (12, _), (56, _), (4, _)] ⟨rfl, rfl, rfl, rfl, rfl, rfl, rfl, rfl, rfl, rfl, rfl, trivial⟩ ?_
        refine AWP.ret ?_
        refine athen_ret ?_
        refine ⟨_, _, ⟨_, _, rfl, rfl, rfl⟩, less_, ?_⟩
        rfl
      · refine AWP.seq ?_
        refine AWP.region ?_
        refine rC (Calm.move rfl) ?_
        refine rC (Calm.bin rfl rfl b_lss) ?_
        refine rC (Calm.move rfl) ?_
        first | refine rS 59 ?_ | refine rU 59 ?_ | refine rG 59 (Calm.move rfl) ?_
        first | refine rS 59 ?_ | refine rU 59 ?_ | refine rG 59 (Calm.bin rfl rfl b_gtr) ?_
        refine rC ((by first | exact Calm.pickT rfl rfl | exact Calm.pickF rfl rfl)) ?_
        refine rC (Calm.assign rfl) ?_
        refine arun_nil ?_
        refine athen_n ?_
        refine AWP.sub [(1, _), (5, _), (6, _), (17, _), (18, _), (19, _), (20, _), (11, _), (12, _), (56, _), (4, _)] ⟨rfl, rfl, rfl, rfl, rfl, rfl, rfl, rfl, rfl, rfl, rfl, trivial⟩ ?_
        refine AWP.ret ?_
        refine athen_ret ?_
        refine ⟨_, _, ⟨_, _, rfl, rfl, rfl⟩, less_, ?_⟩
        rfl
    · obtain ⟨W, rfl⟩ : ∃ W : Nat, w = W := ⟨w.toNat, by omega⟩
      have hkl : ∀ x ∈ ks, x.length = W := fun x hx => by have := (hk.ok x hx).2; omega
      have hsz := recsB_length ks W hkl
      have hm0 : (bs (recsB ks)).size % (5 * (W : Int).toNat) = 0 := by rw [bs_size, hsz, Int.toNat_natCast]; exact Nat.mul_mod_left _ _
      have hm1 : (bs (recsB ks ++ [120])).size % (5 * (W : Int).toNat) ≠ 0 := by rw [bs_size, List.length_append, hsz, Int.toNat_natCast, List.length_singleton, Nat.add_comm, Nat.add_mul_mod_self_right, Nat.mod_eq_of_lt (by omega)]; decide
      obtain ⟨q1, q2⟩ := splitE_0 _ W hw hm0
      have hq3 : splitL (bs (recsB ks)) W = ks := by rw [q2, bs_data, bs_size, hsz, Int.toNat_natCast, Nat.mul_div_cancel _ (by omega)]; exact rows_recs ks W hkl (fun x hx => (recOK_all (hk.ok x hx).1).2.2)
      rw [q1]
      rw [hq3] at hv1
      refine AWP.seq ?_
      refine AWP.seq ?_
      refine AWP.region ?_
      refine rC (Calm.move rfl) ?_
      refine rC (Calm.bin rfl rfl b_neq) ?_
      refine arun_nil ?_
      refine athen_n ?_
      refine AWP.sub [(1, _), (5, _), (6, _), (17, _), (18, _), (19, _), (20, _), (11, _), (12, _), (56, _)] ⟨rfl, rfl, rfl, rfl, rfl, rfl, rfl, rfl, rfl, rfl, trivial⟩ ?_
      refine AWP.condF rfl (by first | rfl | (simp; done) | (simp; omega)) ?_
      refine AWP.skip ?_
      refine athen_n ?_
      refine AWP.seq ?_
      refine AWP.region ?_
      refine rC (Calm.move rfl) ?_
      refine rC (Calm.as (congrArg Value.string (show bs (recsB ks) ++ bs [120] = bs (recsB ks ++ [120]) from bs_append _ _)) (Calm.bin rfl rfl (bin_str_add (a := bs (recsB ks)) (b := bs [120]) (by rw [bs_size, bs_size]; simp; omega)))) ?_
      have hbz := bs_size (recsB ks ++ [120])
      rw [List.length_append, List.length_singleton] at hbz
      refine rC (Calm.move rfl) ?_
      refine ARun.call (lit_lt rfl) go_42 rfl (numV_Split (bs (recsB ks ++ [120])) W _ (by omega)) ?_
      rintro _ S2 ⟨v2, rfl, hS2, hv2⟩
      rw [(splitE_5 _ (W : Int) hw hm1).1]
      refine rC (Calm.move rfl) ?_
      refine rC (Calm.extract rfl rfl) ?_
      refine rC (Calm.extract rfl rfl) ?_
      refine rC (Calm.assign rfl) ?_
      refine rC (Calm.assign rfl) ?_
      refine arun_nil ?_
      refine athen_n ?_
      refine AWP.sub [(1, _), (5, _), (6, _), (17, _), (18, _), (19, _), (20, _), (11, _), (12, _), (56, _), (14, _)] ⟨rfl, rfl, rfl, rfl, rfl, rfl, rfl, rfl, rfl, rfl, rfl, trivial⟩ ?_
      refine AWP.seq ?_
      refine AWP.region ?_
      refine rC (Calm.move rfl) ?_
      refine rC (Calm.move rfl) ?_
      refine ARun.call (lit_lt rfl) go_44 rfl (rnumV_Same ks ks v1 _ S2 (hv1.less rowR_less hS2) (hso.less rowR_less (hS1.trans hS2))) ?_
      rintro _ S3 ⟨rfl, h1⟩
      rw [h1, decide_eq_true (Eq.refl _)]; clear h1 S3
      refine rC (Calm.move rfl) ?_
      first | refine rS 73 ?_ | refine rU 73 ?_ | refine rG 73 (Calm.move rfl) ?_
      first | refine rS 73 ?_ | refine rU 73 ?_ | refine rG 73 (Calm.bin rfl rfl b_eql) ?_
      refine rC ((by first | exact Calm.pickT rfl rfl | exact Calm.pickF rfl rfl)) ?_
      refine rC (Calm.assign rfl) ?_
      refine arun_nil ?_
      refine athen_n ?_
      refine AWP.sub [(1, _), (5, _), (6, _), (17, _), (18, _), (19, _), (20, _), (11, _), (12, _), (56, _), (14, _), (4, _)] ⟨rfl, rfl, rfl, rfl, rfl, rfl, rfl, rfl, rfl, rfl, rfl, rfl, trivial⟩ ?_
      refine AWP.ret ?_
      refine ⟨_, _, ⟨_, _, rfl, rfl, rfl⟩, less_, ?_⟩
      rfl
theorem walk_NumBack (a : Int) (s : ByteArray) (w : World) (ha : (Lit.int .u64 a).wf = true) (hs : s.size ≤ maxLen) (hz : s.size < 140737488355328) :
    Calls Try.prog 10 #[.int .u64 a, .string s] w fun e w' => e = .returned (.bool true) ∧ Below w.heap.size w w' := by
  obtain ⟨n, rfl, hn⟩ := u64_nat ha
  exact ACall.callsW (law_NumBack n s _ hn hz)
theorem walk_NumOrder (p0 : Option Addr) (n0 c0 : Nat) (l : List Nat) (p1 : Option Addr) (n1 c1 : Nat) (m : List Nat) (a b : Int) (w : World)
    (hl : Sl 1 (fun x : Nat => [.int .u64 (x : Int)]) (roM w) (.slice p0 n0 c0) l) (hlb : ∀ x ∈ l, x < 18446744073709551616) (hm : Sl 1 (fun x : Nat => [.int .u64 (x : Int)]) (roM w) (.slice p1 n1 c1) m) (hmb : ∀ x ∈ m, x < 18446744073709551616) (ha : (Lit.int .u64 a).wf = true) (hb : (Lit.int .u64 b).wf = true) :
    Calls Try.prog 11 #[.slice p0 n0 c0, .slice p1 n1 c1, .int .u64 a, .int .u64 b] w fun e w' => e = .returned (.bool true) ∧ Below w.heap.size w w' := by
  obtain ⟨x, rfl, hx⟩ := u64_nat ha
  obtain ⟨y, rfl, hy⟩ := u64_nat hb
  exact ACall.callsW (law_NumOrder l m _ _ x y _ hl hm hlb hmb hx hy)
theorem walk_NumParts (p0 : Option Addr) (n0 c0 : Nat) (l : List (List Nat)) (a : Int) (w : World) (hl : SlOf RowR (roM w) (.slice p0 n0 c0) l) (hlb : ∀ x ∈ l, ∀ n ∈ x, n < 18446744073709551616) (ha : (Lit.int .i64 a).wf = true) :
    Calls Try.prog 12 #[.slice p0 n0 c0, .int .i64 a] w fun e w' => e = .returned (.bool true) ∧ Below w.heap.size w w' :=
  ACall.callsW (law_NumParts l _ a _ hl hlb)
/-- Slices of numbers that came in. -/
theorem rows_of {H : Type} {enc : TypeId × Value → H} {W : World} {base : Nat} {held : Bool} {a : Option Addr} {len cap : Nat} {d : DataW H} {ps : List MemPlace}
    (h : DataW.Trod enc Try.prog W base (fun _ => true) held 51 (.slice a len cap) d ps) : ∃ l : List (List Nat), SlOf RowR (roM W) (.slice a len cap) l ∧ ∀ x ∈ l, ∀ n ∈ x, n < 18446744073709551616 := by
  obtain ⟨l, h1, h2⟩ := slOf_of (R := RowR) (Q := fun (x : List Nat) _ => ∀ n ∈ x, n < 18446744073709551616) Try.underlying51 (by kernel_rfl) (fun fuel cs x hx => by
    obtain ⟨p, ln, cp, hcs⟩ := trod_slice_cells (t := 49) Try.underlying49 hx
    subst hcs
    obtain ⟨m, h3, h4⟩ := sl_nats_of (W := W) (enc := enc) (base := base) (held := held) (d := x.1) (ps := x.2) Try.underlying49 Try.underlying24 (by kernel_rfl) ⟨fuel, hx⟩
    exact ⟨_, m, rfl, h3, h4⟩) h
  refine ⟨l, h1, fun x hx => ?_⟩
  rcases h2 with h2 | ⟨ds, rest, e1, e2, e3⟩
  · subst h2; cases hx
  · obtain ⟨i, hi, rfl⟩ := List.getElem_of_mem hx
    exact e3 i hi (by omega)
end Go.Proofs.Ytpeljbmbgjeomaa
