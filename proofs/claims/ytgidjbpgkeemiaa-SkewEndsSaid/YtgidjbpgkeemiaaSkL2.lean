/-
  The laws SkewParts and SkewEnds, walked.
-/
import Derived.Test.YtgidjbpgkeemiaaSkL1
namespace Go.Proofs.Ytgidjbpgkeemiaa
open Go.RowKit
open Mv Num Loser Skew
set_option linter.unusedVariables false
set_option linter.unusedSimpArgs false
set_option maxRecDepth 4000
set_option maxHeartbeats 2000000 in
theorem law_SkewParts (v : Value) (l : List Nat) (S : Mem) (hl : RowR S v l) :
    ACall Try.prog 3 #[v] S fun r S' => r = .bool true := by
  obtain ⟨a, cap, rfl, _⟩ := id hl
  rcases (by omega : l.length ≤ 60 ∨ 60 < l.length ∧ 4096 < l.length ∨ 60 < l.length ∧ l.length ≤ 4096) with hb | hb | hb
  · skip
    refine ACall.enter (args := [.slice a l.length cap]) (rs := [.tmp 2]) 101 [(0, .slice a l.length cap)] Try.func3 rfl rfl (Nat.le_of_ble_eq_true rfl) rfl ⟨rfl, trivial⟩ ?_
    refine AWP.seq ?_
    refine AWP.region ?_
    refine rC (Calm.assign rfl) ?_
    refine arun_nil ?_
    refine athen_n ?_
    refine AWP.seq ?_
    refine AWP.seq ?_
    refine AWP.region ?_
    refine rC (Calm.move rfl) ?_
    refine rC (Calm.lenSl Try.underlying22 rfl) ?_
    refine rC (Calm.bin rfl rfl b_gtr) ?_
    refine rC (Calm.move rfl) ?_
    first | refine rS 20 ?_ | refine rU 20 ?_ | refine rG 20 (Calm.move rfl) ?_
    first | refine rS 20 ?_ | refine rU 20 ?_ | refine rG 20 (Calm.lenSl Try.underlying22 rfl) ?_
    first | refine rS 20 ?_ | refine rU 20 ?_ | refine rG 20 (Calm.bin rfl rfl b_leq) ?_
    refine rC ((by first | exact Calm.pickT rfl rfl | exact Calm.pickF rfl rfl)) ?_
    refine arun_nil ?_
    refine athen_n ?_
    refine AWP.sub [(0, _), (2, _), (24, _)] ⟨rfl, rfl, rfl, trivial⟩ ?_
    refine AWP.condF rfl (by first | rfl | (simp; done) | (simp; omega)) ?_
    refine AWP.skip ?_
    refine athen_n ?_
    refine AWP.seq ?_
    refine AWP.region ?_
    refine rC (Calm.move rfl) ?_
    refine ARun.call (lit_lt rfl) go_15 rfl (sk_Samples _ l _ hl) ?_
    rintro _ S2 ⟨u2, rfl, hS2, hu2⟩
    obtain ⟨a2, c2, rfl, _⟩ := id hu2
    replace hl := hl.less hS2
    refine rC (Calm.move rfl) ?_
    refine rC (Calm.extract rfl rfl) ?_
    refine rC (Calm.extract rfl rfl) ?_
    refine rC (Calm.assign rfl) ?_
    refine rC (Calm.assign rfl) ?_
    refine arun_nil ?_
    refine athen_n ?_
    refine AWP.sub [(0, _), (2, _), (24, _), (3, _), (4, _)] ⟨rfl, rfl, rfl, rfl, rfl, trivial⟩ ?_
    refine AWP.seq ?_
    refine AWP.region ?_
    refine rC (Calm.move rfl) ?_
    refine ARun.call (lit_lt rfl) go_16 rfl (rsk_Samples _ l _ hl) ?_
    rintro _ S3 ⟨u3, rfl, hS3, hu3⟩
    obtain ⟨a3, c3, rfl, _⟩ := id hu3
    replace hl := hl.less hS3
    replace hu2 := hu2.less hS3
    refine rC (Calm.move rfl) ?_
    refine rC (Calm.extract rfl rfl) ?_
    refine rC (Calm.extract rfl rfl) ?_
    refine rC (Calm.assign rfl) ?_
    refine rC (Calm.assign rfl) ?_
    refine arun_nil ?_
    refine athen_n ?_
    refine AWP.sub [(0, _), (2, _), (24, _), (3, _), (4, _), (5, _), (6, _)] ⟨rfl, rfl, rfl, rfl, rfl, rfl, rfl, trivial⟩ ?_
    refine AWP.seq ?_
    refine AWP.region ?_
    refine rC (Calm.move rfl) ?_
    refine ARun.call (lit_lt rfl) go_17 rfl (sk_Triples _ l _ hl) ?_
    rintro _ S4 ⟨u4, rfl, hS4, hu4⟩
    replace hl := hl.less hS4
    replace hu2 := hu2.less hS4
    replace hu3 := hu3.less hS4
    refine rC (Calm.move rfl) ?_
    refine rC (Calm.extract rfl rfl) ?_
    refine rC (Calm.extract rfl rfl) ?_
    refine rC (Calm.assign rfl) ?_
    refine rC (Calm.assign rfl) ?_
    refine arun_nil ?_
    refine athen_n ?_
    refine AWP.sub [(0, _), (2, _), (24, _), (3, _), (4, _), (5, _), (6, _), (7, _), (8, _)] ⟨rfl, rfl, rfl, rfl, rfl, rfl, rfl, rfl, rfl, trivial⟩ ?_
    refine AWP.seq ?_
    refine AWP.region ?_
    refine rC (Calm.move rfl) ?_
    refine ARun.call (lit_lt rfl) go_18 rfl (rsk_Triples _ l _ hl) ?_
    rintro _ S5 ⟨u5, rfl, hS5, hu5⟩
    replace hl := hl.less hS5
    replace hu2 := hu2.less hS5
    replace hu3 := hu3.less hS5
    replace hu4 := hu4.less rowR_less hS5
    refine rC (Calm.move rfl) ?_
    refine rC (Calm.extract rfl rfl) ?_
    refine rC (Calm.extract rfl rfl) ?_
    refine rC (Calm.assign rfl) ?_
    refine rC (Calm.assign rfl) ?_
    refine arun_nil ?_
    refine athen_n ?_
    refine AWP.sub [(0, _), (2, _), (24, _), (3, _), (4, _), (5, _), (6, _), (7, _), (8, _), (9, _), (10, _)] ⟨rfl, rfl, rfl, rfl, rfl, rfl, rfl, rfl, rfl, rfl, rfl, trivial⟩ ?_
    refine AWP.seq ?_
    refine AWP.region ?_
    refine rC (Calm.move rfl) ?_
    refine ARun.call (lit_lt rfl) go_19 rfl (sk_Reduce _ l _ hl) ?_
    rintro _ S6 ⟨u6, rfl, hS6, hu6⟩
    replace hl := hl.less hS6
    replace hu2 := hu2.less hS6
    replace hu3 := hu3.less hS6
    replace hu4 := hu4.less rowR_less hS6
    replace hu5 := hu5.less rowR_less hS6
    refine rC (Calm.move rfl) ?_
    refine rC (Calm.extract rfl rfl) ?_
    refine rC (Calm.extract rfl rfl) ?_
    refine rC (Calm.extract rfl rfl) ?_
    refine rC (Calm.assign rfl) ?_
    refine rC (Calm.assign rfl) ?_
    refine rC (Calm.assign rfl) ?_
    refine arun_nil ?_
    refine athen_n ?_
    refine AWP.sub [(0, _), (2, _), (24, _), (3, _), (4, _), (5, _), (6, _), (7, _), (8, _), (9, _), (10, _), (11, _), (12, _), (13, _)] ⟨rfl, rfl, rfl, rfl, rfl, rfl, rfl, rfl, rfl, rfl, rfl, rfl, rfl, rfl, trivial⟩ ?_
    refine AWP.seq ?_
    refine AWP.region ?_
    refine rC (Calm.move rfl) ?_
    refine ARun.call (lit_lt rfl) go_20 rfl (rsk_Reduce _ l _ hl) ?_
    rintro _ S7 ⟨u7, rfl, hS7, hu7⟩
    replace hl := hl.less hS7
    replace hu2 := hu2.less hS7
    replace hu3 := hu3.less hS7
    replace hu4 := hu4.less rowR_less hS7
    replace hu5 := hu5.less rowR_less hS7
    replace hu6 := hu6.less hS7
    refine rC (Calm.move rfl) ?_
    refine rC (Calm.extract rfl rfl) ?_
    refine rC (Calm.extract rfl rfl) ?_
    refine rC (Calm.extract rfl rfl) ?_
    refine rC (Calm.assign rfl) ?_
    refine rC (Calm.assign rfl) ?_
    refine rC (Calm.assign rfl) ?_
    refine arun_nil ?_
    refine athen_n ?_
    refine AWP.sub [(0, _), (2, _), (24, _), (3, _), (4, _), (5, _), (6, _), (7, _), (8, _), (9, _), (10, _), (11, _), (12, _), (13, _), (14, _), (15, _), (16, _)] ⟨rfl, rfl, rfl, rfl, rfl, rfl, rfl, rfl, rfl, rfl, rfl, rfl, rfl, rfl, rfl, rfl, rfl, trivial⟩ ?_
    refine AWP.seq ?_
    refine AWP.region ?_
    refine ARun.call (lit_lt rfl) go_14 rfl (sk_lives _) ?_
    rintro _ S8 ⟨rfl, e1⟩
    rw [e1]; clear e1 S8
    refine rC (Calm.move rfl) ?_
    first | refine rS 59 ?_ | refine rU 59 ?_ | refine rG 59 (Calm.move rfl) ?_
    first | refine rS 59 ?_ | refine rU 59 ?_ | refine rG 59 (Calm.move rfl) ?_
    refine ARun.callG 1 true 59 rfl (lit_lt rfl) rfl (lit_lt rfl) go_21 rfl (si_SameNumbers _ _ _ _ _ (idx_ints hu2) (idx_ints hu3)) ?_
    rintro _ S8 ⟨rfl, e1⟩
    rw [e1, decide_eq_true (Eq.refl _)]; clear e1 S8
    refine rC ((by first | exact Calm.pickT rfl rfl | exact Calm.pickF rfl rfl)) ?_
    refine rC (Calm.move rfl) ?_
    first | refine rS 64 ?_ | refine rU 64 ?_ | refine rG 64 (Calm.move rfl) ?_
    first | refine rS 64 ?_ | refine rU 64 ?_ | refine rG 64 (Calm.move rfl) ?_
    first | refine rS 64 ?_ | refine rU 64 ?_ | refine rG 64 (Calm.bin rfl rfl b_eql) ?_
    refine rC ((by first | exact Calm.pickT rfl rfl | exact Calm.pickF rfl rfl)) ?_
    refine rC (Calm.move rfl) ?_
    first | refine rS 69 ?_ | refine rU 69 ?_ | refine rG 69 (Calm.move rfl) ?_
    first | refine rS 69 ?_ | refine rU 69 ?_ | refine rG 69 (Calm.move rfl) ?_
    refine ARun.callG 11 true 69 rfl (lit_lt rfl) rfl (lit_lt rfl) go_22 rfl (rnumV_Same (triL l) (triL l) _ _ _ hu4 hu5) ?_
    rintro _ S8 ⟨rfl, e1⟩
    rw [e1, decide_eq_true (Eq.refl _)]; clear e1 S8
    refine rC ((by first | exact Calm.pickT rfl rfl | exact Calm.pickF rfl rfl)) ?_
    refine rC (Calm.move rfl) ?_
    first | refine rS 74 ?_ | refine rU 74 ?_ | refine rG 74 (Calm.move rfl) ?_
    first | refine rS 74 ?_ | refine rU 74 ?_ | refine rG 74 (Calm.move rfl) ?_
    first | refine rS 74 ?_ | refine rU 74 ?_ | refine rG 74 (Calm.bin rfl rfl b_eql) ?_
    refine rC ((by first | exact Calm.pickT rfl rfl | exact Calm.pickF rfl rfl)) ?_
    refine rC (Calm.move rfl) ?_
    first | refine rS 79 ?_ | refine rU 79 ?_ | refine rG 79 (Calm.move rfl) ?_
    first | refine rS 79 ?_ | refine rU 79 ?_ | refine rG 79 (Calm.move rfl) ?_
    refine ARun.callG 21 true 79 rfl (lit_lt rfl) rfl (lit_lt rfl) go_23 rfl (rnumV_SameOne (redP l) (redP l) _ _ _ hu6 hu7) ?_
    rintro _ S8 ⟨rfl, e1⟩
    rw [e1, decide_eq_true (Eq.refl _)]; clear e1 S8
    refine rC ((by first | exact Calm.pickT rfl rfl | exact Calm.pickF rfl rfl)) ?_
    refine rC (Calm.move rfl) ?_
    first | refine rS 84 ?_ | refine rU 84 ?_ | refine rG 84 (Calm.move rfl) ?_
    first | refine rS 84 ?_ | refine rU 84 ?_ | refine rG 84 (Calm.move rfl) ?_
    first | refine rS 84 ?_ | refine rU 84 ?_ | refine rG 84 (Calm.bin rfl rfl b_eql) ?_
    refine rC ((by first | exact Calm.pickT rfl rfl | exact Calm.pickF rfl rfl)) ?_
    refine rC (Calm.move rfl) ?_
    first | refine rS 89 ?_ | refine rU 89 ?_ | refine rG 89 (Calm.move rfl) ?_
    first | refine rS 89 ?_ | refine rU 89 ?_ | refine rG 89 (Calm.move rfl) ?_
    first | refine rS 89 ?_ | refine rU 89 ?_ | refine rG 89 (Calm.bin rfl rfl b_eql) ?_
    refine rC ((by first | exact Calm.pickT rfl rfl | exact Calm.pickF rfl rfl)) ?_
    refine rC (Calm.move rfl) ?_
    first | refine rS 94 ?_ | refine rU 94 ?_ | refine rG 94 (Calm.move rfl) ?_
    refine ARun.callG 36 true 94 rfl (lit_lt rfl) rfl (lit_lt rfl) go_24 rfl (sk_Check _ l _ hl) ?_
    rintro _ S8 ⟨rfl, e1⟩
    rw [e1]; clear e1 S8
    first | refine rS 94 ?_ | refine rU 94 ?_ | refine rG 94 (Calm.move rfl) ?_
    refine ARun.callG 36 true 94 rfl (lit_lt rfl) rfl (lit_lt rfl) go_25 rfl (rsk_Check _ l _ hl) ?_
    rintro _ S8 ⟨rfl, e1⟩
    rw [e1]; clear e1 S8
    first | refine rS 94 ?_ | refine rU 94 ?_ | refine rG 94 (Calm.bin rfl rfl b_eql) ?_
    refine rC ((by first | exact Calm.pickT rfl rfl | exact Calm.pickF rfl rfl)) ?_
    refine rC (Calm.assign rfl) ?_
    refine arun_nil ?_
    refine athen_n ?_
    refine AWP.sub [(0, _), (2, _), (24, _), (3, _), (4, _), (5, _), (6, _), (7, _), (8, _), (9, _), (10, _), (11, _), (12, _), (13, _), (14, _), (15, _), (16, _)] ⟨rfl, rfl, rfl, rfl, rfl, rfl, rfl, rfl, rfl, rfl, rfl, rfl, rfl, rfl, rfl, rfl, rfl, trivial⟩ ?_
    refine AWP.ret ?_
    refine ⟨_, _, ⟨_, _, rfl, rfl, rfl⟩, less_, ?_⟩
    rfl
  · skip
    refine ACall.enter (args := [.slice a l.length cap]) (rs := [.tmp 2]) 101 [(0, .slice a l.length cap)] Try.func3 rfl rfl (Nat.le_of_ble_eq_true rfl) rfl ⟨rfl, trivial⟩ ?_
    refine AWP.seq ?_
    refine AWP.region ?_
    refine rC (Calm.assign rfl) ?_
    refine arun_nil ?_
    refine athen_n ?_
    refine AWP.seq ?_
    refine AWP.seq ?_
    refine AWP.region ?_
    refine rC (Calm.move rfl) ?_
    refine rC (Calm.lenSl Try.underlying22 rfl) ?_
    refine rC (Calm.bin rfl rfl b_gtr) ?_
    refine rC (Calm.move rfl) ?_
    first | refine rS 20 ?_ | refine rU 20 ?_ | refine rG 20 (Calm.move rfl) ?_
    first | refine rS 20 ?_ | refine rU 20 ?_ | refine rG 20 (Calm.lenSl Try.underlying22 rfl) ?_
    first | refine rS 20 ?_ | refine rU 20 ?_ | refine rG 20 (Calm.bin rfl rfl b_leq) ?_
    refine rC ((by first | exact Calm.pickT rfl rfl | exact Calm.pickF rfl rfl)) ?_
    refine arun_nil ?_
    refine athen_n ?_
    refine AWP.sub [(0, _), (2, _), (24, _)] ⟨rfl, rfl, rfl, trivial⟩ ?_
    refine AWP.condF rfl (by first | rfl | (simp; done) | (simp; omega)) ?_
    refine AWP.skip ?_
    refine athen_n ?_
    refine AWP.seq ?_
    refine AWP.region ?_
    refine rC (Calm.move rfl) ?_
    refine ARun.call (lit_lt rfl) go_15 rfl (sk_Samples _ l _ hl) ?_
    rintro _ S2 ⟨u2, rfl, hS2, hu2⟩
    obtain ⟨a2, c2, rfl, _⟩ := id hu2
    replace hl := hl.less hS2
    refine rC (Calm.move rfl) ?_
    refine rC (Calm.extract rfl rfl) ?_
    refine rC (Calm.extract rfl rfl) ?_
    refine rC (Calm.assign rfl) ?_
    refine rC (Calm.assign rfl) ?_
    refine arun_nil ?_
    refine athen_n ?_
    refine AWP.sub [(0, _), (2, _), (24, _), (3, _), (4, _)] ⟨rfl, rfl, rfl, rfl, rfl, trivial⟩ ?_
    refine AWP.seq ?_
    refine AWP.region ?_
    refine rC (Calm.move rfl) ?_
    refine ARun.call (lit_lt rfl) go_16 rfl (rsk_Samples _ l _ hl) ?_
    rintro _ S3 ⟨u3, rfl, hS3, hu3⟩
    obtain ⟨a3, c3, rfl, _⟩ := id hu3
    replace hl := hl.less hS3
    replace hu2 := hu2.less hS3
    refine rC (Calm.move rfl) ?_
    refine rC (Calm.extract rfl rfl) ?_
    refine rC (Calm.extract rfl rfl) ?_
    refine rC (Calm.assign rfl) ?_
    refine rC (Calm.assign rfl) ?_
    refine arun_nil ?_
    refine athen_n ?_
    refine AWP.sub [(0, _), (2, _), (24, _), (3, _), (4, _), (5, _), (6, _)] ⟨rfl, rfl, rfl, rfl, rfl, rfl, rfl, trivial⟩ ?_
    refine AWP.seq ?_
    refine AWP.region ?_
    refine rC (Calm.move rfl) ?_
    refine ARun.call (lit_lt rfl) go_17 rfl (sk_Triples _ l _ hl) ?_
    rintro _ S4 ⟨u4, rfl, hS4, hu4⟩
    replace hl := hl.less hS4
    replace hu2 := hu2.less hS4
    replace hu3 := hu3.less hS4
    refine rC (Calm.move rfl) ?_
    refine rC (Calm.extract rfl rfl) ?_
    refine rC (Calm.extract rfl rfl) ?_
    refine rC (Calm.assign rfl) ?_
    refine rC (Calm.assign rfl) ?_
    refine arun_nil ?_
    refine athen_n ?_
    refine AWP.sub [(0, _), (2, _), (24, _), (3, _), (4, _), (5, _), (6, _), (7, _), (8, _)] ⟨rfl, rfl, rfl, rfl, rfl, rfl, rfl, rfl, rfl, trivial⟩ ?_
    refine AWP.seq ?_
    refine AWP.region ?_
    refine rC (Calm.move rfl) ?_
    refine ARun.call (lit_lt rfl) go_18 rfl (rsk_Triples _ l _ hl) ?_
    rintro _ S5 ⟨u5, rfl, hS5, hu5⟩
    replace hl := hl.less hS5
    replace hu2 := hu2.less hS5
    replace hu3 := hu3.less hS5
    replace hu4 := hu4.less rowR_less hS5
    refine rC (Calm.move rfl) ?_
    refine rC (Calm.extract rfl rfl) ?_
    refine rC (Calm.extract rfl rfl) ?_
    refine rC (Calm.assign rfl) ?_
    refine rC (Calm.assign rfl) ?_
    refine arun_nil ?_
    refine athen_n ?_
    refine AWP.sub [(0, _), (2, _), (24, _), (3, _), (4, _), (5, _), (6, _), (7, _), (8, _), (9, _), (10, _)] ⟨rfl, rfl, rfl, rfl, rfl, rfl, rfl, rfl, rfl, rfl, rfl, trivial⟩ ?_
    refine AWP.seq ?_
    refine AWP.region ?_
    refine rC (Calm.move rfl) ?_
    refine ARun.call (lit_lt rfl) go_19 rfl (sk_Reduce _ l _ hl) ?_
    rintro _ S6 ⟨u6, rfl, hS6, hu6⟩
    replace hl := hl.less hS6
    replace hu2 := hu2.less hS6
    replace hu3 := hu3.less hS6
    replace hu4 := hu4.less rowR_less hS6
    replace hu5 := hu5.less rowR_less hS6
    refine rC (Calm.move rfl) ?_
    refine rC (Calm.extract rfl rfl) ?_
    refine rC (Calm.extract rfl rfl) ?_
    refine rC (Calm.extract rfl rfl) ?_
    refine rC (Calm.assign rfl) ?_
    refine rC (Calm.assign rfl) ?_
    refine rC (Calm.assign rfl) ?_
    refine arun_nil ?_
    refine athen_n ?_
    refine AWP.sub [(0, _), (2, _), (24, _), (3, _), (4, _), (5, _), (6, _), (7, _), (8, _), (9, _), (10, _), (11, _), (12, _), (13, _)] ⟨rfl, rfl, rfl, rfl, rfl, rfl, rfl, rfl, rfl, rfl, rfl, rfl, rfl, rfl, trivial⟩ ?_
    refine AWP.seq ?_
    refine AWP.region ?_
    refine rC (Calm.move rfl) ?_
    refine ARun.call (lit_lt rfl) go_20 rfl (rsk_Reduce _ l _ hl) ?_
    rintro _ S7 ⟨u7, rfl, hS7, hu7⟩
    replace hl := hl.less hS7
    replace hu2 := hu2.less hS7
    replace hu3 := hu3.less hS7
    replace hu4 := hu4.less rowR_less hS7
    replace hu5 := hu5.less rowR_less hS7
    replace hu6 := hu6.less hS7
    refine rC (Calm.move rfl) ?_
    refine rC (Calm.extract rfl rfl) ?_
    refine rC (Calm.extract rfl rfl) ?_
    refine rC (Calm.extract rfl rfl) ?_
    refine rC (Calm.assign rfl) ?_
    refine rC (Calm.assign rfl) ?_
    refine rC (Calm.assign rfl) ?_
    refine arun_nil ?_
    refine athen_n ?_
    refine AWP.sub [(0, _), (2, _), (24, _), (3, _), (4, _), (5, _), (6, _), (7, _), (8, _), (9, _), (10, _), (11, _), (12, _), (13, _), (14, _), (15, _), (16, _)] ⟨rfl, rfl, rfl, rfl, rfl, rfl, rfl, rfl, rfl, rfl, rfl, rfl, rfl, rfl, rfl, rfl, rfl, trivial⟩ ?_
    refine AWP.seq ?_
    refine AWP.region ?_
    refine ARun.call (lit_lt rfl) go_14 rfl (sk_lives _) ?_
    rintro _ S8 ⟨rfl, e1⟩
    rw [e1]; clear e1 S8
    refine rC (Calm.move rfl) ?_
    first | refine rS 59 ?_ | refine rU 59 ?_ | refine rG 59 (Calm.move rfl) ?_
    first | refine rS 59 ?_ | refine rU 59 ?_ | refine rG 59 (Calm.move rfl) ?_
    refine ARun.callG 1 true 59 rfl (lit_lt rfl) rfl (lit_lt rfl) go_21 rfl (si_SameNumbers _ _ _ _ _ (idx_ints hu2) (idx_ints hu3)) ?_
    rintro _ S8 ⟨rfl, e1⟩
    rw [e1, decide_eq_true (Eq.refl _)]; clear e1 S8
    refine rC ((by first | exact Calm.pickT rfl rfl | exact Calm.pickF rfl rfl)) ?_
    refine rC (Calm.move rfl) ?_
    first | refine rS 64 ?_ | refine rU 64 ?_ | refine rG 64 (Calm.move rfl) ?_
    first | refine rS 64 ?_ | refine rU 64 ?_ | refine rG 64 (Calm.move rfl) ?_
    first | refine rS 64 ?_ | refine rU 64 ?_ | refine rG 64 (Calm.bin rfl rfl b_eql) ?_
    refine rC ((by first | exact Calm.pickT rfl rfl | exact Calm.pickF rfl rfl)) ?_
    refine rC (Calm.move rfl) ?_
    first | refine rS 69 ?_ | refine rU 69 ?_ | refine rG 69 (Calm.move rfl) ?_
    first | refine rS 69 ?_ | refine rU 69 ?_ | refine rG 69 (Calm.move rfl) ?_
    refine ARun.callG 11 true 69 rfl (lit_lt rfl) rfl (lit_lt rfl) go_22 rfl (rnumV_Same (triL l) (triL l) _ _ _ hu4 hu5) ?_
    rintro _ S8 ⟨rfl, e1⟩
    rw [e1, decide_eq_true (Eq.refl _)]; clear e1 S8
    refine rC ((by first | exact Calm.pickT rfl rfl | exact Calm.pickF rfl rfl)) ?_
    refine rC (Calm.move rfl) ?_
    first | refine rS 74 ?_ | refine rU 74 ?_ | refine rG 74 (Calm.move rfl) ?_
    first | refine rS 74 ?_ | refine rU 74 ?_ | refine rG 74 (Calm.move rfl) ?_
    first | refine rS 74 ?_ | refine rU 74 ?_ | refine rG 74 (Calm.bin rfl rfl b_eql) ?_
    refine rC ((by first | exact Calm.pickT rfl rfl | exact Calm.pickF rfl rfl)) ?_
    refine rC (Calm.move rfl) ?_
    first | refine rS 79 ?_ | refine rU 79 ?_ | refine rG 79 (Calm.move rfl) ?_
    first | refine rS 79 ?_ | refine rU 79 ?_ | refine rG 79 (Calm.move rfl) ?_
    refine ARun.callG 21 true 79 rfl (lit_lt rfl) rfl (lit_lt rfl) go_23 rfl (rnumV_SameOne (redP l) (redP l) _ _ _ hu6 hu7) ?_
    rintro _ S8 ⟨rfl, e1⟩
    rw [e1, decide_eq_true (Eq.refl _)]; clear e1 S8
    refine rC ((by first | exact Calm.pickT rfl rfl | exact Calm.pickF rfl rfl)) ?_
    refine rC (Calm.move rfl) ?_
    first | refine rS 84 ?_ | refine rU 84 ?_ | refine rG 84 (Calm.move rfl) ?_
    first | refine rS 84 ?_ | refine rU 84 ?_ | refine rG 84 (Calm.move rfl) ?_
    first | refine rS 84 ?_ | refine rU 84 ?_ | refine rG 84 (Calm.bin rfl rfl b_eql) ?_
    refine rC ((by first | exact Calm.pickT rfl rfl | exact Calm.pickF rfl rfl)) ?_
    refine rC (Calm.move rfl) ?_
    first | refine rS 89 ?_ | refine rU 89 ?_ | refine rG 89 (Calm.move rfl) ?_
    first | refine rS 89 ?_ | refine rU 89 ?_ | refine rG 89 (Calm.move rfl) ?_
    first | refine rS 89 ?_ | refine rU 89 ?_ | refine rG 89 (Calm.bin rfl rfl b_eql) ?_
    refine rC ((by first | exact Calm.pickT rfl rfl | exact Calm.pickF rfl rfl)) ?_
    refine rC (Calm.move rfl) ?_
    first | refine rS 94 ?_ | refine rU 94 ?_ | refine rG 94 (Calm.move rfl) ?_
    refine ARun.callG 36 true 94 rfl (lit_lt rfl) rfl (lit_lt rfl) go_24 rfl (sk_Check _ l _ hl) ?_
    rintro _ S8 ⟨rfl, e1⟩
    rw [e1]; clear e1 S8
    first | refine rS 94 ?_ | refine rU 94 ?_ | refine rG 94 (Calm.move rfl) ?_
    refine ARun.callG 36 true 94 rfl (lit_lt rfl) rfl (lit_lt rfl) go_25 rfl (rsk_Check _ l _ hl) ?_
    rintro _ S8 ⟨rfl, e1⟩
    rw [e1]; clear e1 S8
    first | refine rS 94 ?_ | refine rU 94 ?_ | refine rG 94 (Calm.bin rfl rfl b_eql) ?_
    refine rC ((by first | exact Calm.pickT rfl rfl | exact Calm.pickF rfl rfl)) ?_
    refine rC (Calm.assign rfl) ?_
    refine arun_nil ?_
    refine athen_n ?_
    refine AWP.sub [(0, _), (2, _), (24, _), (3, _), (4, _), (5, _), (6, _), (7, _), (8, _), (9, _), (10, _), (11, _), (12, _), (13, _), (14, _), (15, _), (16, _)] ⟨rfl, rfl, rfl, rfl, rfl, rfl, rfl, rfl, rfl, rfl, rfl, rfl, rfl, rfl, rfl, rfl, rfl, trivial⟩ ?_
    refine AWP.ret ?_
    refine ⟨_, _, ⟨_, _, rfl, rfl, rfl⟩, less_, ?_⟩
    rfl
  · skip
    refine ACall.enter (args := [.slice a l.length cap]) (rs := [.tmp 2]) 101 [(0, .slice a l.length cap)] Try.func3 rfl rfl (Nat.le_of_ble_eq_true rfl) rfl ⟨rfl, trivial⟩ ?_
    refine AWP.seq ?_
    refine AWP.region ?_
    refine rC (Calm.assign rfl) ?_
    refine arun_nil ?_
    refine athen_n ?_
    refine AWP.seq ?_
    refine AWP.seq ?_
    refine AWP.region ?_
    refine rC (Calm.move rfl) ?_
    refine rC (Calm.lenSl Try.underlying22 rfl) ?_
    refine rC (Calm.bin rfl rfl b_gtr) ?_
    refine rC (Calm.move rfl) ?_
    first | refine rS 20 ?_ | refine rU 20 ?_ | refine rG 20 (Calm.move rfl) ?_
    first | refine rS 20 ?_ | refine rU 20 ?_ | refine rG 20 (Calm.lenSl Try.underlying22 rfl) ?_
    first | refine rS 20 ?_ | refine rU 20 ?_ | refine rG 20 (Calm.bin rfl rfl b_leq) ?_
    refine rC ((by first | exact Calm.pickT rfl rfl | exact Calm.pickF rfl rfl)) ?_
    refine arun_nil ?_
    refine athen_n ?_
    refine AWP.sub [(0, _), (2, _), (24, _)] ⟨rfl, rfl, rfl, trivial⟩ ?_
    refine AWP.condT rfl (by first | rfl | (simp; done) | (simp; omega)) ?_
    refine AWP.seq ?_
    refine AWP.region ?_
    refine ARun.call (lit_lt rfl) go_14 rfl (sk_lives _) ?_
    rintro _ S8 ⟨rfl, e1⟩
    rw [e1]; clear e1 S8
    refine rC (Calm.assign rfl) ?_
    refine arun_nil ?_
    refine athen_n ?_
    refine AWP.sub [(0, _), (2, _), (24, _)] ⟨rfl, rfl, rfl, trivial⟩ ?_
    refine AWP.ret ?_
    refine athen_ret ?_
    refine ⟨_, _, ⟨_, _, rfl, rfl, rfl⟩, less_, ?_⟩
    rfl
set_option maxHeartbeats 2000000 in
theorem law_SkewEnds (v ve : Value) (l : List Nat) (ends : List Int) (S : Mem) (hl : RowR S v l) (hve : Sl 1 i64s S ve ends) (hel : ends.length ≤ 17592186043904) :
    ACall Try.prog 4 #[v, ve] S fun r S' => r = .bool true := by
  obtain ⟨a, cap, rfl, _⟩ := id hl
  obtain ⟨ea, ec, rfl, _⟩ := id hve
  rcases (by omega : l.length ≤ 60 ∨ 60 < l.length ∧ 4096 < l.length ∨ 60 < l.length ∧ l.length ≤ 4096) with hb | hb | hb
  · skip
    refine ACall.enter (args := [.slice a l.length cap, .slice ea ends.length ec]) (rs := [.tmp 4]) 65 [(0, .slice a l.length cap), (1, .slice ea ends.length ec)] Try.func4 rfl rfl (Nat.le_of_ble_eq_true rfl) rfl ⟨rfl, rfl, trivial⟩ ?_
    refine AWP.seq ?_
    refine AWP.region ?_
    refine rC (Calm.assign rfl) ?_
    refine arun_nil ?_
    refine athen_n ?_
    refine AWP.seq ?_
    refine AWP.seq ?_
    refine AWP.region ?_
    refine rC (Calm.move rfl) ?_
    refine rC (Calm.lenSl Try.underlying22 rfl) ?_
    refine rC (Calm.bin rfl rfl b_gtr) ?_
    refine rC (Calm.move rfl) ?_
    first | refine rS 16 ?_ | refine rU 16 ?_ | refine rG 16 (Calm.move rfl) ?_
    first | refine rS 16 ?_ | refine rU 16 ?_ | refine rG 16 (Calm.lenSl Try.underlying22 rfl) ?_
    first | refine rS 16 ?_ | refine rU 16 ?_ | refine rG 16 (Calm.bin rfl rfl b_leq) ?_
    refine rC ((by first | exact Calm.pickT rfl rfl | exact Calm.pickF rfl rfl)) ?_
    refine arun_nil ?_
    refine athen_n ?_
    refine AWP.sub [(0, _), (1, _), (4, _), (20, _)] ⟨rfl, rfl, rfl, rfl, trivial⟩ ?_
    refine AWP.condF rfl (by first | rfl | (simp; done) | (simp; omega)) ?_
    refine AWP.skip ?_
    refine athen_n ?_
    refine AWP.seq ?_
    refine AWP.region ?_
    refine rC (Calm.move rfl) ?_
    refine ARun.call (lit_lt rfl) go_26 rfl (sk_Ends _ l _ hl) ?_
    rintro _ S2 ⟨u2, rfl, hS2, hu2⟩
    obtain ⟨a2, c2, rfl, _⟩ := id hu2
    replace hl := hl.less hS2
    replace hve := hve.less hS2
    refine rC (Calm.move rfl) ?_
    refine rC (Calm.extract rfl rfl) ?_
    refine rC (Calm.extract rfl rfl) ?_
    refine rC (Calm.assign rfl) ?_
    refine rC (Calm.assign rfl) ?_
    refine arun_nil ?_
    refine athen_n ?_
    refine AWP.sub [(0, _), (1, _), (4, _), (20, _), (5, _), (6, _)] ⟨rfl, rfl, rfl, rfl, rfl, rfl, trivial⟩ ?_
    refine AWP.seq ?_
    refine AWP.region ?_
    refine rC (Calm.move rfl) ?_
    refine ARun.call (lit_lt rfl) go_27 rfl (rsk_Ends _ l _ hl) ?_
    rintro _ S3 ⟨u3, rfl, hS3, hu3⟩
    obtain ⟨a3, c3, rfl, _⟩ := id hu3
    replace hl := hl.less hS3
    replace hve := hve.less hS3
    replace hu2 := hu2.less hS3
    refine rC (Calm.move rfl) ?_
    refine rC (Calm.extract rfl rfl) ?_
    refine rC (Calm.extract rfl rfl) ?_
    refine rC (Calm.assign rfl) ?_
    refine rC (Calm.assign rfl) ?_
    refine arun_nil ?_
    refine athen_n ?_
    refine AWP.sub [(0, _), (1, _), (4, _), (20, _), (5, _), (6, _), (7, _), (8, _)] ⟨rfl, rfl, rfl, rfl, rfl, rfl, rfl, rfl, trivial⟩ ?_
    refine AWP.seq ?_
    refine AWP.region ?_
    refine rC (Calm.move rfl) ?_
    refine rC (Calm.move rfl) ?_
    refine ARun.call (lit_lt rfl) go_28 rfl (sk_Expand _ _ l ends _ hl hve hel) ?_
    rintro _ S4 ⟨u4, rfl, hS4, hu4⟩
    obtain ⟨a4, c4, rfl, _⟩ := id hu4
    replace hl := hl.less hS4
    replace hve := hve.less hS4
    replace hu2 := hu2.less hS4
    replace hu3 := hu3.less hS4
    refine rC (Calm.move rfl) ?_
    refine rC (Calm.extract rfl rfl) ?_
    refine rC (Calm.extract rfl rfl) ?_
    refine rC (Calm.assign rfl) ?_
    refine rC (Calm.assign rfl) ?_
    refine arun_nil ?_
    refine athen_n ?_
    refine AWP.sub [(0, _), (1, _), (4, _), (20, _), (5, _), (6, _), (7, _), (8, _), (9, _), (10, _)] ⟨rfl, rfl, rfl, rfl, rfl, rfl, rfl, rfl, rfl, rfl, trivial⟩ ?_
    refine AWP.seq ?_
    refine AWP.region ?_
    refine rC (Calm.move rfl) ?_
    refine rC (Calm.move rfl) ?_
    refine ARun.call (lit_lt rfl) go_29 rfl (rsk_Expand _ _ l ends _ hl hve hel) ?_
    rintro _ S5 ⟨u5, rfl, hS5, hu5⟩
    obtain ⟨a5, c5, rfl, _⟩ := id hu5
    replace hu2 := hu2.less hS5
    replace hu3 := hu3.less hS5
    replace hu4 := hu4.less hS5
    refine rC (Calm.move rfl) ?_
    refine rC (Calm.extract rfl rfl) ?_
    refine rC (Calm.extract rfl rfl) ?_
    refine rC (Calm.assign rfl) ?_
    refine rC (Calm.assign rfl) ?_
    refine arun_nil ?_
    refine athen_n ?_
    refine AWP.sub [(0, _), (1, _), (4, _), (20, _), (5, _), (6, _), (7, _), (8, _), (9, _), (10, _), (11, _), (12, _)] ⟨rfl, rfl, rfl, rfl, rfl, rfl, rfl, rfl, rfl, rfl, rfl, rfl, trivial⟩ ?_
    refine AWP.seq ?_
    refine AWP.region ?_
    refine ARun.call (lit_lt rfl) go_14 rfl (sk_lives _) ?_
    rintro _ S8 ⟨rfl, e1⟩
    rw [e1]; clear e1 S8
    refine rC (Calm.move rfl) ?_
    first | refine rS 45 ?_ | refine rU 45 ?_ | refine rG 45 (Calm.move rfl) ?_
    first | refine rS 45 ?_ | refine rU 45 ?_ | refine rG 45 (Calm.move rfl) ?_
    refine ARun.callG 1 true 45 rfl (lit_lt rfl) rfl (lit_lt rfl) go_21 rfl (si_SameNumbers _ _ _ _ _ (idx_ints hu2) (idx_ints hu3)) ?_
    rintro _ S8 ⟨rfl, e1⟩
    rw [e1, decide_eq_true (Eq.refl _)]; clear e1 S8
    refine rC ((by first | exact Calm.pickT rfl rfl | exact Calm.pickF rfl rfl)) ?_
    refine rC (Calm.move rfl) ?_
    first | refine rS 50 ?_ | refine rU 50 ?_ | refine rG 50 (Calm.move rfl) ?_
    first | refine rS 50 ?_ | refine rU 50 ?_ | refine rG 50 (Calm.move rfl) ?_
    first | refine rS 50 ?_ | refine rU 50 ?_ | refine rG 50 (Calm.bin rfl rfl b_eql) ?_
    refine rC ((by first | exact Calm.pickT rfl rfl | exact Calm.pickF rfl rfl)) ?_
    refine rC (Calm.move rfl) ?_
    first | refine rS 55 ?_ | refine rU 55 ?_ | refine rG 55 (Calm.move rfl) ?_
    first | refine rS 55 ?_ | refine rU 55 ?_ | refine rG 55 (Calm.move rfl) ?_
    refine ARun.callG 11 true 55 rfl (lit_lt rfl) rfl (lit_lt rfl) go_21 rfl (si_SameNumbers _ _ _ _ _ (idx_ints hu4) (idx_ints hu5)) ?_
    rintro _ S8 ⟨rfl, e1⟩
    rw [e1, decide_eq_true (Eq.refl _)]; clear e1 S8
    refine rC ((by first | exact Calm.pickT rfl rfl | exact Calm.pickF rfl rfl)) ?_
    refine rC (Calm.move rfl) ?_
    first | refine rS 60 ?_ | refine rU 60 ?_ | refine rG 60 (Calm.move rfl) ?_
    first | refine rS 60 ?_ | refine rU 60 ?_ | refine rG 60 (Calm.move rfl) ?_
    first | refine rS 60 ?_ | refine rU 60 ?_ | refine rG 60 (Calm.bin rfl rfl b_eql) ?_
    refine rC ((by first | exact Calm.pickT rfl rfl | exact Calm.pickF rfl rfl)) ?_
    refine rC (Calm.assign rfl) ?_
    refine arun_nil ?_
    refine athen_n ?_
    refine AWP.sub [(0, _), (1, _), (4, _), (20, _), (5, _), (6, _), (7, _), (8, _), (9, _), (10, _), (11, _), (12, _)] ⟨rfl, rfl, rfl, rfl, rfl, rfl, rfl, rfl, rfl, rfl, rfl, rfl, trivial⟩ ?_
    refine AWP.ret ?_
    refine ⟨_, _, ⟨_, _, rfl, rfl, rfl⟩, less_, ?_⟩
    rfl
  · skip
    refine ACall.enter (args := [.slice a l.length cap, .slice ea ends.length ec]) (rs := [.tmp 4]) 65 [(0, .slice a l.length cap), (1, .slice ea ends.length ec)] Try.func4 rfl rfl (Nat.le_of_ble_eq_true rfl) rfl ⟨rfl, rfl, trivial⟩ ?_
    refine AWP.seq ?_
    refine AWP.region ?_
    refine rC (Calm.assign rfl) ?_
    refine arun_nil ?_
    refine athen_n ?_
    refine AWP.seq ?_
    refine AWP.seq ?_
    refine AWP.region ?_
    refine rC (Calm.move rfl) ?_
    refine rC (Calm.lenSl Try.underlying22 rfl) ?_
    refine rC (Calm.bin rfl rfl b_gtr) ?_
    refine rC (Calm.move rfl) ?_
    first | refine rS 16 ?_ | refine rU 16 ?_ | refine rG 16 (Calm.move rfl) ?_
    first | refine rS 16 ?_ | refine rU 16 ?_ | refine rG 16 (Calm.lenSl Try.underlying22 rfl) ?_
    first | refine rS 16 ?_ | refine rU 16 ?_ | refine rG 16 (Calm.bin rfl rfl b_leq) ?_
    refine rC ((by first | exact Calm.pickT rfl rfl | exact Calm.pickF rfl rfl)) ?_
    refine arun_nil ?_
    refine athen_n ?_
    refine AWP.sub [(0, _), (1, _), (4, _), (20, _)] ⟨rfl, rfl, rfl, rfl, trivial⟩ ?_
    refine AWP.condF rfl (by first | rfl | (simp; done) | (simp; omega)) ?_
    refine AWP.skip ?_
    refine athen_n ?_
    refine AWP.seq ?_
    refine AWP.region ?_
    refine rC (Calm.move rfl) ?_
    refine ARun.call (lit_lt rfl) go_26 rfl (sk_Ends _ l _ hl) ?_
    rintro _ S2 ⟨u2, rfl, hS2, hu2⟩
    obtain ⟨a2, c2, rfl, _⟩ := id hu2
    replace hl := hl.less hS2
    replace hve := hve.less hS2
    refine rC (Calm.move rfl) ?_
    refine rC (Calm.extract rfl rfl) ?_
    refine rC (Calm.extract rfl rfl) ?_
    refine rC (Calm.assign rfl) ?_
    refine rC (Calm.assign rfl) ?_
    refine arun_nil ?_
    refine athen_n ?_
    refine AWP.sub [(0, _), (1, _), (4, _), (20, _), (5, _), (6, _)] ⟨rfl, rfl, rfl, rfl, rfl, rfl, trivial⟩ ?_
    refine AWP.seq ?_
    refine AWP.region ?_
    refine rC (Calm.move rfl) ?_
    refine ARun.call (lit_lt rfl) go_27 rfl (rsk_Ends _ l _ hl) ?_
    rintro _ S3 ⟨u3, rfl, hS3, hu3⟩
    obtain ⟨a3, c3, rfl, _⟩ := id hu3
    replace hl := hl.less hS3
    replace hve := hve.less hS3
    replace hu2 := hu2.less hS3
    refine rC (Calm.move rfl) ?_
    refine rC (Calm.extract rfl rfl) ?_
    refine rC (Calm.extract rfl rfl) ?_
    refine rC (Calm.assign rfl) ?_
    refine rC (Calm.assign rfl) ?_
    refine arun_nil ?_
    refine athen_n ?_
    refine AWP.sub [(0, _), (1, _), (4, _), (20, _), (5, _), (6, _), (7, _), (8, _)] ⟨rfl, rfl, rfl, rfl, rfl, rfl, rfl, rfl, trivial⟩ ?_
    refine AWP.seq ?_
    refine AWP.region ?_
    refine rC (Calm.move rfl) ?_
    refine rC (Calm.move rfl) ?_
    refine ARun.call (lit_lt rfl) go_28 rfl (sk_Expand _ _ l ends _ hl hve hel) ?_
    rintro _ S4 ⟨u4, rfl, hS4, hu4⟩
    obtain ⟨a4, c4, rfl, _⟩ := id hu4
    replace hl := hl.less hS4
    replace hve := hve.less hS4
    replace hu2 := hu2.less hS4
    replace hu3 := hu3.less hS4
    refine rC (Calm.move rfl) ?_
    refine rC (Calm.extract rfl rfl) ?_
    refine rC (Calm.extract rfl rfl) ?_
    refine rC (Calm.assign rfl) ?_
    refine rC (Calm.assign rfl) ?_
    refine arun_nil ?_
    refine athen_n ?_
    refine AWP.sub [(0, _), (1, _), (4, _), (20, _), (5, _), (6, _), (7, _), (8, _), (9, _), (10, _)] ⟨rfl, rfl, rfl, rfl, rfl, rfl, rfl, rfl, rfl, rfl, trivial⟩ ?_
    refine AWP.seq ?_
    refine AWP.region ?_
    refine rC (Calm.move rfl) ?_
    refine rC (Calm.move rfl) ?_
    refine ARun.call (lit_lt rfl) go_29 rfl (rsk_Expand _ _ l ends _ hl hve hel) ?_
    rintro _ S5 ⟨u5, rfl, hS5, hu5⟩
    obtain ⟨a5, c5, rfl, _⟩ := id hu5
    replace hu2 := hu2.less hS5
    replace hu3 := hu3.less hS5
    replace hu4 := hu4.less hS5
    refine rC (Calm.move rfl) ?_
    refine rC (Calm.extract rfl rfl) ?_
    refine rC (Calm.extract rfl rfl) ?_
    refine rC (Calm.assign rfl) ?_
    refine rC (Calm.assign rfl) ?_
    refine arun_nil ?_
    refine athen_n ?_
    refine AWP.sub [(0, _), (1, _), (4, _), (20, _), (5, _), (6, _), (7, _), (8, _), (9, _), (10, _), (11, _), (12, _)] ⟨rfl, rfl, rfl, rfl, rfl, rfl, rfl, rfl, rfl, rfl, rfl, rfl, trivial⟩ ?_
    refine AWP.seq ?_
    refine AWP.region ?_
    refine ARun.call (lit_lt rfl) go_14 rfl (sk_lives _) ?_
    rintro _ S8 ⟨rfl, e1⟩
    rw [e1]; clear e1 S8
    refine rC (Calm.move rfl) ?_
    first | refine rS 45 ?_ | refine rU 45 ?_ | refine rG 45 (Calm.move rfl) ?_
    first | refine rS 45 ?_ | refine rU 45 ?_ | refine rG 45 (Calm.move rfl) ?_
    refine ARun.callG 1 true 45 rfl (lit_lt rfl) rfl (lit_lt rfl) go_21 rfl (si_SameNumbers _ _ _ _ _ (idx_ints hu2) (idx_ints hu3)) ?_
    rintro _ S8 ⟨rfl, e1⟩
    rw [e1, decide_eq_true (Eq.refl _)]; clear e1 S8
    refine rC ((by first | exact Calm.pickT rfl rfl | exact Calm.pickF rfl rfl)) ?_
    refine rC (Calm.move rfl) ?_
    first | refine rS 50 ?_ | refine rU 50 ?_ | refine rG 50 (Calm.move rfl) ?_
    first | refine rS 50 ?_ | refine rU 50 ?_ | refine rG 50 (Calm.move rfl) ?_
    first | refine rS 50 ?_ | refine rU 50 ?_ | refine rG 50 (Calm.bin rfl rfl b_eql) ?_
    refine rC ((by first | exact Calm.pickT rfl rfl | exact Calm.pickF rfl rfl)) ?_
    refine rC (Calm.move rfl) ?_
    first | refine rS 55 ?_ | refine rU 55 ?_ | refine rG 55 (Calm.move rfl) ?_
    first | refine rS 55 ?_ | refine rU 55 ?_ | refine rG 55 (Calm.move rfl) ?_
    refine ARun.callG 11 true 55 rfl (lit_lt rfl) rfl (lit_lt rfl) go_21 rfl (si_SameNumbers _ _ _ _ _ (idx_ints hu4) (idx_ints hu5)) ?_
    rintro _ S8 ⟨rfl, e1⟩
    rw [e1, decide_eq_true (Eq.refl _)]; clear e1 S8
    refine rC ((by first | exact Calm.pickT rfl rfl | exact Calm.pickF rfl rfl)) ?_
    refine rC (Calm.move rfl) ?_
    first | refine rS 60 ?_ | refine rU 60 ?_ | refine rG 60 (Calm.move rfl) ?_
    first | refine rS 60 ?_ | refine rU 60 ?_ | refine rG 60 (Calm.move rfl) ?_
    first | refine rS 60 ?_ | refine rU 60 ?_ | refine rG 60 (Calm.bin rfl rfl b_eql) ?_
    refine rC ((by first | exact Calm.pickT rfl rfl | exact Calm.pickF rfl rfl)) ?_
    refine rC (Calm.assign rfl) ?_
    refine arun_nil ?_
    refine athen_n ?_
    refine AWP.sub [(0, _), (1, _), (4, _), (20, _), (5, _), (6, _), (7, _), (8, _), (9, _), (10, _), (11, _), (12, _)] ⟨rfl, rfl, rfl, rfl, rfl, rfl, rfl, rfl, rfl, rfl, rfl, rfl, trivial⟩ ?_
    refine AWP.ret ?_
    refine ⟨_, _, ⟨_, _, rfl, rfl, rfl⟩, less_, ?_⟩
    rfl
  · skip
    refine ACall.enter (args := [.slice a l.length cap, .slice ea ends.length ec]) (rs := [.tmp 4]) 65 [(0, .slice a l.length cap), (1, .slice ea ends.length ec)] Try.func4 rfl rfl (Nat.le_of_ble_eq_true rfl) rfl ⟨rfl, rfl, trivial⟩ ?_
    refine AWP.seq ?_
    refine AWP.region ?_
    refine rC (Calm.assign rfl) ?_
    refine arun_nil ?_
    refine athen_n ?_
    refine AWP.seq ?_
    refine AWP.seq ?_
    refine AWP.region ?_
    refine rC (Calm.move rfl) ?_
    refine rC (Calm.lenSl Try.underlying22 rfl) ?_
    refine rC (Calm.bin rfl rfl b_gtr) ?_
    refine rC (Calm.move rfl) ?_
    first | refine rS 16 ?_ | refine rU 16 ?_ | refine rG 16 (Calm.move rfl) ?_
    first | refine rS 16 ?_ | refine rU 16 ?_ | refine rG 16 (Calm.lenSl Try.underlying22 rfl) ?_
    first | refine rS 16 ?_ | refine rU 16 ?_ | refine rG 16 (Calm.bin rfl rfl b_leq) ?_
    refine rC ((by first | exact Calm.pickT rfl rfl | exact Calm.pickF rfl rfl)) ?_
    refine arun_nil ?_
    refine athen_n ?_
    refine AWP.sub [(0, _), (1, _), (4, _), (20, _)] ⟨rfl, rfl, rfl, rfl, trivial⟩ ?_
    refine AWP.condT rfl (by first | rfl | (simp; done) | (simp; omega)) ?_
    refine AWP.seq ?_
    refine AWP.region ?_
    refine ARun.call (lit_lt rfl) go_14 rfl (sk_lives _) ?_
    rintro _ S8 ⟨rfl, e1⟩
    rw [e1]; clear e1 S8
    refine rC (Calm.assign rfl) ?_
    refine arun_nil ?_
    refine athen_n ?_
    refine AWP.sub [(0, _), (1, _), (4, _), (20, _)] ⟨rfl, rfl, rfl, rfl, trivial⟩ ?_
    refine AWP.ret ?_
    refine athen_ret ?_
    refine ⟨_, _, ⟨_, _, rfl, rfl, rfl⟩, less_, ?_⟩
    rfl
theorem walk_SkewParts (p : Option Addr) (n c : Nat) (l : List Nat) (w : World) (w0 : Sl 1 (fun x : Nat => [.int .u64 (x : Int)]) (roM w) (.slice p n c) l) (wb : ∀ x ∈ l, x < 18446744073709551616) (zl : l.length ≤ 17592186043904) :
    Calls Try.prog 3 #[.slice p n c] w fun e w' => e = .returned (.bool true) ∧ Below w.heap.size w w' :=
  ACall.callsW (law_SkewParts _ l _ w0)
theorem walk_SkewEnds (p : Option Addr) (n c : Nat) (l : List Nat) (p1 : Option Addr) (n1 c1 : Nat) (ends : List Int) (w : World) (w0 : Sl 1 (fun x : Nat => [.int .u64 (x : Int)]) (roM w) (.slice p n c) l) (wb : ∀ x ∈ l, x < 18446744073709551616) (zl : l.length ≤ 17592186043904)
    (w1 : Sl 1 (fun x : Int => [.int .i64 x]) (roM w) (.slice p1 n1 c1) ends) (wb1 : ∀ x ∈ ends, (Lit.int .i64 x).wf = true) (zl1 : ends.length ≤ 17592186043904) :
    Calls Try.prog 4 #[.slice p n c, .slice p1 n1 c1] w fun e w' => e = .returned (.bool true) ∧ Below w.heap.size w w' :=
  ACall.callsW (law_SkewEnds _ _ l ends _ w0 w1 zl1)
end Go.Proofs.Ytgidjbpgkeemiaa
