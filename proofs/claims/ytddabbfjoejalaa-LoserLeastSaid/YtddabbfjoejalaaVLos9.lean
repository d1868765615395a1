/-
  Loser: the laws LoserMakes, LoserPuts walked.
-/
import Derived.Test.YtddabbfjoejalaaVLos8
import Derived.Test.YtddabbfjoejalaaLawSized
namespace Go.Proofs.Ytddabbfjoejalaa
open Go.RowKit
open Mv Num Loser
set_option linter.unusedVariables false
set_option linter.unusedSimpArgs false
set_option maxRecDepth 4000
set_option maxHeartbeats 2000000 in
theorem law_LoserMakes (v : Value) (ks : List (List Nat)) (S : Mem) (hks : SlOf RowR S v ks) (hrow : ∀ x ∈ ks, x.length ≤ 17592186043904) :
    ACall Try.prog 3 #[v] S fun r S' => r = .bool true := by
  refine ACall.enter (args := [v]) (rs := [.tmp 2]) 28 [(0, v)] Try.func3 rfl rfl (Nat.le_of_ble_eq_true rfl) rfl ⟨rfl, trivial⟩ ?_
  refine AWP.seq ?_
  refine AWP.region ?_
  refine rC (Calm.assign rfl) ?_
  refine arun_nil ?_
  refine athen_n ?_
  refine AWP.seq ?_
  refine AWP.region ?_
  refine rC (Calm.move rfl) ?_
  refine ARun.call (lit_lt rfl) go_13 rfl (losV_Make v ks S hks hrow) ?_
  rintro _ S1 hr1
  obtain ⟨pa1, ca1, pt1, ct1, rfl, hS1, hlo1⟩ := hr1.slices
  refine rC (Calm.move rfl) ?_
  refine rC (Calm.extract rfl rfl) ?_
  refine rC (Calm.extract rfl rfl) ?_
  refine ARun.alloc (lit_lt rfl) ty_zero_25 ?_
  intro b3 f3
  have g3 := f3
  repeat ((with_reducible replace g3 := fresh_set g3); obtain ⟨g3, _⟩ := g3)
  (try simp only [List.length_cons, List.length_nil, Nat.zero_add, Nat.reduceAdd])
  first | refine ARun.storeAll rfl rfl ty_size_25 own_ rfl rfl ?_ | refine ARun.store rfl rfl ty_size_25 own_ lens_ rfl ?_
  (try simp only [Mem.set_set, List.set_cons_zero, List.set_cons_succ, Nat.zero_add, Nat.reduceAdd])
  refine rC (Calm.assign rfl) ?_
  refine arun_nil ?_
  refine athen_n ?_
  refine AWP.sub [(0, _), (2, _), (3, _), (4, _)] ⟨rfl, rfl, rfl, rfl, trivial⟩ ?_
  refine named (S := S1) (b := b3) g3.1 ?_
  intro T1 hT1 kb3
  replace hlo1 := hlo1.less hT1
  refine AWP.seq ?_
  refine AWP.region ?_
  refine rC (Calm.move rfl) ?_
  refine ARun.call (lit_lt rfl) go_14 rfl (rlosV_Make v ks T1 (hks.less rowR_less (hS1.trans hT1)) hrow) ?_
  rintro _ S2 hr2
  obtain ⟨pa2, ca2, pt2, ct2, rfl, hS2, hlo2⟩ := hr2.slices
  replace hlo1 := hlo1.less hS2
  replace kb3 := hS2.own kb3
  refine rC (Calm.move rfl) ?_
  refine rC (Calm.extract rfl rfl) ?_
  refine rC (Calm.extract rfl rfl) ?_
  refine ARun.alloc (lit_lt rfl) ty_zero_25 ?_
  intro b5 f5
  have g5 := f5
  repeat ((with_reducible replace g5 := fresh_set g5); obtain ⟨g5, _⟩ := g5)
  (try simp only [List.length_cons, List.length_nil, Nat.zero_add, Nat.reduceAdd])
  first | refine ARun.storeAll rfl rfl ty_size_25 own_ rfl rfl ?_ | refine ARun.store rfl rfl ty_size_25 own_ lens_ rfl ?_
  (try simp only [Mem.set_set, List.set_cons_zero, List.set_cons_succ, Nat.zero_add, Nat.reduceAdd])
  refine rC (Calm.assign rfl) ?_
  refine arun_nil ?_
  refine athen_n ?_
  refine AWP.sub [(0, _), (2, _), (3, _), (4, _), (5, _), (6, _)] ⟨rfl, rfl, rfl, rfl, rfl, rfl, trivial⟩ ?_
  refine named (S := S2) (b := b5) g5.1 ?_
  intro T2 hT2 kb5
  replace hlo1 := hlo1.less hT2
  replace hlo2 := hlo2.less hT2
  replace kb3 := hT2.own kb3
  refine AWP.seq ?_
  refine AWP.region ?_
  refine ARun.call (lit_lt rfl) go_15 rfl (losV_lives T2) ?_
  rintro _ S3 ⟨rfl, h1⟩
  rw [h1]; clear h1 S3
  refine rC (Calm.move rfl) ?_
  first | refine rS 18 ?_ | refine rU 18 ?_ | refine rG 18 (ldA_ (cs := [_, _]) ty_agg_25 ty_size_25 rfl) ?_
  first | refine rS 18 ?_ | refine rU 18 ?_ | refine rG 18 (ldA_ (cs := [_, _]) ty_agg_25 ty_size_25 rfl) ?_
  refine ARun.callG 1 true 18 rfl (lit_lt rfl) rfl (lit_lt rfl) go_16 rfl (rlosV_Same _ _ _ _ _ _ _ _ T2 hlo1 hlo2) ?_
  rintro _ S3 ⟨rfl, h1⟩
  rw [h1, decide_eq_true (Eq.refl _), decide_eq_true (Eq.refl _)]; clear h1 S3
  refine rC ((by first | exact Calm.pickT rfl rfl | exact Calm.pickF rfl rfl)) ?_
  refine rC (Calm.move rfl) ?_
  first | refine rS 23 ?_ | refine rU 23 ?_ | refine rG 23 (Calm.move rfl) ?_
  first | refine rS 23 ?_ | refine rU 23 ?_ | refine rG 23 (Calm.move rfl) ?_
  first | refine rS 23 ?_ | refine rU 23 ?_ | refine rG 23 (Calm.bin rfl rfl b_eql) ?_
  refine rC ((by first | exact Calm.pickT rfl rfl | exact Calm.pickF rfl rfl)) ?_
  refine rC (Calm.assign rfl) ?_
  refine arun_nil ?_
  refine athen_n ?_
  refine AWP.sub [(0, _), (2, _), (3, _), (4, _), (5, _), (6, _)] ⟨rfl, rfl, rfl, rfl, rfl, rfl, trivial⟩ ?_
  refine AWP.ret ?_
  refine ⟨_, _, ⟨_, _, rfl, rfl, rfl⟩, less_, ?_⟩
  rfl
set_option maxHeartbeats 4000000 in
theorem law_LoserPuts (hk ht vx : Value) (ks : List (List Nat)) (tr : List Int) (x : List Nat) (leaf : Int) (S : Mem) (hlo : LoV S hk ht ks tr) (hx : RowR S vx x) (hxl : x.length ≤ 17592186043904) (hkl : ks.length ≤ 5864062014634) (htl : tr.length ≤ 17592186043904) (hrow : ∀ y ∈ ks, y.length ≤ 17592186043904) (hb0 : -9223372036854775808 ≤ leaf) (hb1 : leaf ≤ 9223372036854775807) :
    ACall Try.prog 4 #[.agg #[hk, ht], vx, .int .i64 leaf] S fun r S' => r = .bool true := by
  obtain ⟨pa, ca, pt, ct, ehk, eht⟩ := hlo.slices
  subst ehk eht
  obtain ⟨px, cx, rfl, _⟩ := id hx
  refine ACall.enter (args := [.agg #[.slice pa ks.length ca, .slice pt tr.length ct], .slice px x.length cx, .int .i64 leaf]) (rs := [.tmp 6]) 108 [(0, .agg #[.slice pa ks.length ca, .slice pt tr.length ct]), (1, .slice px x.length cx), (2, .int .i64 leaf)] Try.func4 rfl rfl (Nat.le_of_ble_eq_true rfl) rfl ⟨rfl, rfl, rfl, trivial⟩ ?_
  refine AWP.seq ?_
  refine AWP.region ?_
  refine ARun.boxA (cs := [_, _]) (lit_lt rfl) rfl ?_
  intro b3 f3
  have g3 := f3
  repeat ((with_reducible replace g3 := fresh_set g3); obtain ⟨g3, _⟩ := g3)
  (try simp only [List.length_cons, List.length_nil, Nat.zero_add, Nat.reduceAdd])
  refine rC (Calm.assign rfl) ?_
  refine arun_nil ?_
  refine athen_n ?_
  refine named (S := S) (b := b3) g3.1 ?_
  intro T3 hT3 kb3
  replace hlo := hlo.less hT3
  replace hx := rowR_less _ _ _ _ hx hT3
  refine AWP.seq ?_
  refine AWP.region ?_
  refine rC (ldA_ (cs := [_, _]) ty_agg_25 ty_size_25 rfl) ?_
  refine ARun.call (lit_lt rfl) go_17 rfl (rlosV_Copy _ _ ks tr _ hlo hkl htl hrow) ?_
  rintro _ S1 hcp
  obtain ⟨hk1, ht1, rfl, hS1, hloG⟩ := hcp.lo hkl
  obtain ⟨pg, cg, pgt, cgt, rfl, rfl⟩ := hloG.slices
  replace kb3 := hS1.own kb3
  replace hlo := hlo.less hS1
  replace hx := rowR_less _ _ _ _ hx hS1
  refine ARun.alloc (lit_lt rfl) ty_zero_25 ?_
  intro b7 f7
  have g7 := f7
  repeat ((with_reducible replace g7 := fresh_set g7); obtain ⟨g7, _⟩ := g7)
  (try simp only [List.length_cons, List.length_nil, Nat.zero_add, Nat.reduceAdd])
  first | refine ARun.storeAll rfl rfl ty_size_25 own_ rfl rfl ?_ | refine ARun.store rfl rfl ty_size_25 own_ lens_ rfl ?_
  (try simp only [Mem.set_set, List.set_cons_zero, List.set_cons_succ, Nat.zero_add, Nat.reduceAdd])
  refine arun_nil ?_
  refine athen_n ?_
  refine AWP.sub [(0, _), (1, _), (2, _), (3, _), (6, _), (7, _)] ⟨rfl, rfl, rfl, rfl, rfl, rfl, trivial⟩ ?_
  refine named (S := S1) (b := b7) g7.1 ?_
  intro T7 hT7 kb7
  replace kb3 := hT7.own kb3
  replace hlo := hlo.less hT7
  replace hx := rowR_less _ _ _ _ hx hT7
  replace hloG := hloG.less hT7
  refine AWP.seq ?_
  refine AWP.region ?_
  refine rC (ldA_ (cs := [_, _]) ty_agg_25 ty_size_25 rfl) ?_
  refine ARun.call (lit_lt rfl) go_18 rfl (losV_Top _ _ ks tr _ hloG hrow) ?_
  rintro _ S2 ⟨v8, rfl, hS2, hv8⟩
  replace kb3 := hS2.own kb3
  replace kb7 := hS2.own kb7
  replace hlo := hlo.less hS2
  replace hx := rowR_less _ _ _ _ hx hS2
  replace hloG := hloG.less hS2
  refine rC (Calm.move rfl) ?_
  refine rC (Calm.extract rfl rfl) ?_
  refine rC (Calm.extract rfl rfl) ?_
  refine rC (Calm.extract rfl rfl) ?_
  refine rC (Calm.assign rfl) ?_
  refine rC (Calm.assign rfl) ?_
  refine rC (Calm.assign rfl) ?_
  refine arun_nil ?_
  refine athen_n ?_
  refine AWP.sub [(0, _), (1, _), (2, _), (3, _), (6, _), (7, _), (8, _), (9, _), (10, _)] ⟨rfl, rfl, rfl, rfl, rfl, rfl, rfl, rfl, rfl, trivial⟩ ?_
  refine AWP.seq ?_
  refine AWP.region ?_
  refine rC (ldA_ (cs := [_, _]) ty_agg_25 ty_size_25 rfl) ?_
  refine ARun.call (lit_lt rfl) go_19 rfl (rlosV_Top _ _ ks tr _ hlo hrow) ?_
  rintro _ S3 ⟨v11, rfl, hS3, hv11⟩
  replace kb3 := hS3.own kb3
  replace kb7 := hS3.own kb7
  replace hlo := hlo.less hS3
  replace hx := rowR_less _ _ _ _ hx hS3
  replace hloG := hloG.less hS3
  replace hv8 := rowR_less _ _ _ _ hv8 hS3
  refine rC (Calm.move rfl) ?_
  refine rC (Calm.extract rfl rfl) ?_
  refine rC (Calm.extract rfl rfl) ?_
  refine rC (Calm.extract rfl rfl) ?_
  refine rC (Calm.assign rfl) ?_
  refine rC (Calm.assign rfl) ?_
  refine rC (Calm.assign rfl) ?_
  refine arun_nil ?_
  refine athen_n ?_
  refine AWP.sub [(0, _), (1, _), (2, _), (3, _), (6, _), (7, _), (8, _), (9, _), (10, _), (11, _), (12, _), (13, _)] ⟨rfl, rfl, rfl, rfl, rfl, rfl, rfl, rfl, rfl, rfl, rfl, rfl, trivial⟩ ?_
  refine AWP.seq ?_
  refine AWP.region ?_
  refine rC (ldA_ (cs := [_, _]) ty_agg_25 ty_size_25 rfl) ?_
  refine rC (Calm.move rfl) ?_
  refine ARun.call (lit_lt rfl) go_20 rfl (losV_Put _ _ _ ks tr x _ hloG hx hxl hrow) ?_
  rintro _ S4 hr4
  obtain ⟨p4, c4, q4, d4, rfl, hS4, hlo4⟩ := hr4.slices
  replace kb3 := hS4.own kb3
  replace kb7 := hS4.own kb7
  replace hlo := hlo.less hS4
  replace hx := rowR_less _ _ _ _ hx hS4
  replace hloG := hloG.less hS4
  replace hv8 := rowR_less _ _ _ _ hv8 hS4
  replace hv11 := rowR_less _ _ _ _ hv11 hS4
  refine rC (Calm.move rfl) ?_
  refine rC (Calm.extract rfl rfl) ?_
  refine rC (Calm.extract rfl rfl) ?_
  refine ARun.alloc (lit_lt rfl) ty_zero_25 ?_
  intro b14 f14
  have g14 := f14
  repeat ((with_reducible replace g14 := fresh_set g14); obtain ⟨g14, _⟩ := g14)
  (try simp only [List.length_cons, List.length_nil, Nat.zero_add, Nat.reduceAdd])
  first | refine ARun.storeAll rfl rfl ty_size_25 own_ rfl rfl ?_ | refine ARun.store rfl rfl ty_size_25 own_ lens_ rfl ?_
  (try simp only [Mem.set_set, List.set_cons_zero, List.set_cons_succ, Nat.zero_add, Nat.reduceAdd])
  refine rC (Calm.assign rfl) ?_
  refine arun_nil ?_
  refine athen_n ?_
  refine AWP.sub [(0, _), (1, _), (2, _), (3, _), (6, _), (7, _), (8, _), (9, _), (10, _), (11, _), (12, _), (13, _), (14, _), (15, _)] ⟨rfl, rfl, rfl, rfl, rfl, rfl, rfl, rfl, rfl, rfl, rfl, rfl, rfl, rfl, trivial⟩ ?_
  refine named (S := S4) (b := b14) g14.1 ?_
  intro T14 hT14 kb14
  replace kb3 := hT14.own kb3
  replace kb7 := hT14.own kb7
  replace hlo := hlo.less hT14
  replace hx := rowR_less _ _ _ _ hx hT14
  replace hloG := hloG.less hT14
  replace hv8 := rowR_less _ _ _ _ hv8 hT14
  replace hv11 := rowR_less _ _ _ _ hv11 hT14
  replace hlo4 := hlo4.less hT14
  refine AWP.seq ?_
  refine AWP.region ?_
  refine rC (ldA_ (cs := [_, _]) ty_agg_25 ty_size_25 rfl) ?_
  refine rC (Calm.move rfl) ?_
  refine ARun.call (lit_lt rfl) go_21 rfl (rlosV_Put _ _ _ ks tr x _ hlo hx hxl hrow) ?_
  rintro _ S5 hr5
  obtain ⟨p5, c5, q5, d5, rfl, hS5, hlo5⟩ := hr5.slices
  replace kb3 := hS5.own kb3
  replace kb7 := hS5.own kb7
  replace kb14 := hS5.own kb14
  replace hlo := hlo.less hS5
  replace hx := rowR_less _ _ _ _ hx hS5
  replace hloG := hloG.less hS5
  replace hv8 := rowR_less _ _ _ _ hv8 hS5
  replace hv11 := rowR_less _ _ _ _ hv11 hS5
  replace hlo4 := hlo4.less hS5
  refine rC (Calm.move rfl) ?_
  refine rC (Calm.extract rfl rfl) ?_
  refine rC (Calm.extract rfl rfl) ?_
  refine ARun.alloc (lit_lt rfl) ty_zero_25 ?_
  intro b16 f16
  have g16 := f16
  repeat ((with_reducible replace g16 := fresh_set g16); obtain ⟨g16, _⟩ := g16)
  (try simp only [List.length_cons, List.length_nil, Nat.zero_add, Nat.reduceAdd])
  first | refine ARun.storeAll rfl rfl ty_size_25 own_ rfl rfl ?_ | refine ARun.store rfl rfl ty_size_25 own_ lens_ rfl ?_
  (try simp only [Mem.set_set, List.set_cons_zero, List.set_cons_succ, Nat.zero_add, Nat.reduceAdd])
  refine rC (Calm.assign rfl) ?_
  refine arun_nil ?_
  refine athen_n ?_
  refine AWP.sub [(0, _), (1, _), (2, _), (3, _), (6, _), (7, _), (8, _), (9, _), (10, _), (11, _), (12, _), (13, _), (14, _), (15, _), (16, _), (17, _)] ⟨rfl, rfl, rfl, rfl, rfl, rfl, rfl, rfl, rfl, rfl, rfl, rfl, rfl, rfl, rfl, rfl, trivial⟩ ?_
  refine named (S := S5) (b := b16) g16.1 ?_
  intro T16 hT16 kb16
  replace kb3 := hT16.own kb3
  replace kb7 := hT16.own kb7
  replace kb14 := hT16.own kb14
  replace hlo := hlo.less hT16
  replace hx := rowR_less _ _ _ _ hx hT16
  replace hloG := hloG.less hT16
  replace hv8 := rowR_less _ _ _ _ hv8 hT16
  replace hv11 := rowR_less _ _ _ _ hv11 hT16
  replace hlo4 := hlo4.less hT16
  replace hlo5 := hlo5.less hT16
  refine AWP.seq ?_
  refine AWP.region ?_
  refine rC (ldA_ (cs := [_, _]) ty_agg_25 ty_size_25 rfl) ?_
  refine rC (Calm.move rfl) ?_
  refine ARun.call (lit_lt rfl) go_22 rfl (losV_Path _ _ ks tr leaf _ hloG hb0 hb1) ?_
  rintro _ S6 ⟨v18, rfl, hS6, hv18⟩
  replace kb3 := hS6.own kb3
  replace kb7 := hS6.own kb7
  replace kb14 := hS6.own kb14
  replace kb16 := hS6.own kb16
  replace hlo := hlo.less hS6
  replace hx := rowR_less _ _ _ _ hx hS6
  replace hloG := hloG.less hS6
  replace hv8 := rowR_less _ _ _ _ hv8 hS6
  replace hv11 := rowR_less _ _ _ _ hv11 hS6
  replace hlo4 := hlo4.less hS6
  replace hlo5 := hlo5.less hS6
  refine rC (Calm.move rfl) ?_
  refine rC (Calm.extract rfl rfl) ?_
  refine rC (Calm.extract rfl rfl) ?_
  refine rC (Calm.assign rfl) ?_
  refine rC (Calm.assign rfl) ?_
  refine arun_nil ?_
  refine athen_n ?_
  refine AWP.sub [(0, _), (1, _), (2, _), (3, _), (6, _), (7, _), (8, _), (9, _), (10, _), (11, _), (12, _), (13, _), (14, _), (15, _), (16, _), (17, _), (18, _), (19, _)] ⟨rfl, rfl, rfl, rfl, rfl, rfl, rfl, rfl, rfl, rfl, rfl, rfl, rfl, rfl, rfl, rfl, rfl, rfl, trivial⟩ ?_
  refine AWP.seq ?_
  refine AWP.region ?_
  refine rC (ldA_ (cs := [_, _]) ty_agg_25 ty_size_25 rfl) ?_
  refine rC (Calm.move rfl) ?_
  refine ARun.call (lit_lt rfl) go_23 rfl (rlosV_Path _ _ ks tr leaf _ hlo hb0 hb1) ?_
  rintro _ S7 ⟨v20, rfl, hS7, hv20⟩
  replace kb3 := hS7.own kb3
  replace kb7 := hS7.own kb7
  replace kb14 := hS7.own kb14
  replace kb16 := hS7.own kb16
  replace hlo := hlo.less hS7
  replace hx := rowR_less _ _ _ _ hx hS7
  replace hloG := hloG.less hS7
  replace hv8 := rowR_less _ _ _ _ hv8 hS7
  replace hv11 := rowR_less _ _ _ _ hv11 hS7
  replace hlo4 := hlo4.less hS7
  replace hlo5 := hlo5.less hS7
  replace hv18 := hv18.less hS7
  refine rC (Calm.move rfl) ?_
  refine rC (Calm.extract rfl rfl) ?_
  refine rC (Calm.extract rfl rfl) ?_
  refine rC (Calm.assign rfl) ?_
  refine rC (Calm.assign rfl) ?_
  refine arun_nil ?_
  refine athen_n ?_
  refine AWP.sub [(0, _), (1, _), (2, _), (3, _), (6, _), (7, _), (8, _), (9, _), (10, _), (11, _), (12, _), (13, _), (14, _), (15, _), (16, _), (17, _), (18, _), (19, _), (20, _), (21, _)] ⟨rfl, rfl, rfl, rfl, rfl, rfl, rfl, rfl, rfl, rfl, rfl, rfl, rfl, rfl, rfl, rfl, rfl, rfl, rfl, rfl, trivial⟩ ?_
  refine AWP.seq ?_
  refine AWP.draw [(0, false), (1, true), (2, true), (3, true), (4, true), (5, true), (6, true), (7, true), (8, true), (9, false), (10, true), (11, true), (12, true), (13, true), (14, true), (15, true), (16, true), (17, true), (18, true), (19, false), (20, true), (21, true), (22, true), (23, true), (24, true), (25, true), (26, true), (27, true), (28, true), (29, false), (30, true), (31, true), (32, true), (33, true), (34, true), (35, true), (36, true), (37, true), (39, true), (38, false), (40, false), (41, true), (42, true), (43, true), (44, true), (45, true), (46, false), (47, true), (48, true)] [] mixed (by kernel_rfl) ?_
  refine draw_only rfl ?_
  refine ARun.call (lit_lt rfl) go_15 rfl (losV_lives _) ?_
  rintro _ S8 ⟨rfl, h1⟩
  rw [h1]; clear h1 S8
  refine arun_nil ⟨fun _ => less_, ?_⟩
  refine draw_pure rfl rfl rfl rfl (lit_lt rfl) (fun _ => Calm.move rfl) ?_
  first | refine draw_skipG 1 true _ 61 rfl rfl rfl (lit_lt rfl) rfl rfl rfl (lit_lt rfl) less_ ?_ | refine draw_skipU 1 true 61 rfl rfl rfl (lit_lt rfl) rfl rfl (lit_lt rfl) less_ ?_ | refine draw_calmG 1 true 61 rfl rfl rfl (lit_lt rfl) rfl rfl (lit_lt rfl) less_ (fun S' hS' => Calm.move rfl) ?_
  first | refine draw_skipG 1 true _ 61 rfl rfl rfl (lit_lt rfl) rfl rfl rfl (lit_lt rfl) less_ ?_ | refine draw_skipU 1 true 61 rfl rfl rfl (lit_lt rfl) rfl rfl (lit_lt rfl) less_ ?_ | refine draw_calmG 1 true 61 rfl rfl rfl (lit_lt rfl) rfl rfl (lit_lt rfl) less_ (fun S' hS' => Calm.move rfl) ?_
  first | refine draw_skipG 1 true _ 61 rfl rfl rfl (lit_lt rfl) rfl rfl rfl (lit_lt rfl) less_ ?_ | refine draw_skipU 1 true 61 rfl rfl rfl (lit_lt rfl) rfl rfl (lit_lt rfl) less_ ?_ | refine draw_calmG 1 true 61 rfl rfl rfl (lit_lt rfl) rfl rfl (lit_lt rfl) less_ (fun S' hS' => Calm.bin rfl rfl b_eql) ?_
  refine draw_pure rfl rfl rfl rfl (lit_lt rfl) (fun _ => (by first | exact Calm.pickT rfl rfl | exact Calm.pickF rfl rfl)) ?_
  refine draw_pure rfl rfl rfl rfl (lit_lt rfl) (fun _ => Calm.move rfl) ?_
  first | refine draw_skipG 6 true _ 66 rfl rfl rfl (lit_lt rfl) rfl rfl rfl (lit_lt rfl) less_ ?_ | refine draw_skipU 6 true 66 rfl rfl rfl (lit_lt rfl) rfl rfl (lit_lt rfl) less_ ?_ | refine draw_calmG 6 true 66 rfl rfl rfl (lit_lt rfl) rfl rfl (lit_lt rfl) less_ (fun S' hS' => Calm.move rfl) ?_
  first | refine draw_skipG 6 true _ 66 rfl rfl rfl (lit_lt rfl) rfl rfl rfl (lit_lt rfl) less_ ?_ | refine draw_skipU 6 true 66 rfl rfl rfl (lit_lt rfl) rfl rfl (lit_lt rfl) less_ ?_ | refine draw_calmG 6 true 66 rfl rfl rfl (lit_lt rfl) rfl rfl (lit_lt rfl) less_ (fun S' hS' => Calm.move rfl) ?_
  refine draw_only rfl ?_
  refine ARun.callG 6 true 66 rfl (lit_lt rfl) rfl (lit_lt rfl) go_24 rfl (rnumV_SameOne _ _ _ _ _ hv8 hv11) ?_
  rintro _ S8 ⟨rfl, h1⟩
  rw [h1, decide_eq_true (Eq.refl _)]; clear h1 S8
  refine arun_nil ⟨fun _ => less_, ?_⟩
  refine draw_pure rfl rfl rfl rfl (lit_lt rfl) (fun _ => (by first | exact Calm.pickT rfl rfl | exact Calm.pickF rfl rfl)) ?_
  refine draw_pure rfl rfl rfl rfl (lit_lt rfl) (fun _ => Calm.move rfl) ?_
  first | refine draw_skipG 11 true _ 71 rfl rfl rfl (lit_lt rfl) rfl rfl rfl (lit_lt rfl) less_ ?_ | refine draw_skipU 11 true 71 rfl rfl rfl (lit_lt rfl) rfl rfl (lit_lt rfl) less_ ?_ | refine draw_calmG 11 true 71 rfl rfl rfl (lit_lt rfl) rfl rfl (lit_lt rfl) less_ (fun S' hS' => Calm.move rfl) ?_
  first | refine draw_skipG 11 true _ 71 rfl rfl rfl (lit_lt rfl) rfl rfl rfl (lit_lt rfl) less_ ?_ | refine draw_skipU 11 true 71 rfl rfl rfl (lit_lt rfl) rfl rfl (lit_lt rfl) less_ ?_ | refine draw_calmG 11 true 71 rfl rfl rfl (lit_lt rfl) rfl rfl (lit_lt rfl) less_ (fun S' hS' => Calm.move rfl) ?_
  first | refine draw_skipG 11 true _ 71 rfl rfl rfl (lit_lt rfl) rfl rfl rfl (lit_lt rfl) less_ ?_ | refine draw_skipU 11 true 71 rfl rfl rfl (lit_lt rfl) rfl rfl (lit_lt rfl) less_ ?_ | refine draw_calmG 11 true 71 rfl rfl rfl (lit_lt rfl) rfl rfl (lit_lt rfl) less_ (fun S' hS' => Calm.bin rfl rfl b_eql) ?_
  refine draw_pure rfl rfl rfl rfl (lit_lt rfl) (fun _ => (by first | exact Calm.pickT rfl rfl | exact Calm.pickF rfl rfl)) ?_
  refine draw_pure rfl rfl rfl rfl (lit_lt rfl) (fun _ => Calm.move rfl) ?_
  first | refine draw_skipG 16 true _ 76 rfl rfl rfl (lit_lt rfl) rfl rfl rfl (lit_lt rfl) less_ ?_ | refine draw_skipU 16 true 76 rfl rfl rfl (lit_lt rfl) rfl rfl (lit_lt rfl) less_ ?_ | refine draw_calmG 16 true 76 rfl rfl rfl (lit_lt rfl) rfl rfl (lit_lt rfl) less_ (fun S' hS' => by obtain rfl := hS'.resolve_left (by decide); exact ldA_ (cs := [_, _]) ty_agg_25 ty_size_25 rfl) ?_
  first | refine draw_skipG 16 true _ 76 rfl rfl rfl (lit_lt rfl) rfl rfl rfl (lit_lt rfl) less_ ?_ | refine draw_skipU 16 true 76 rfl rfl rfl (lit_lt rfl) rfl rfl (lit_lt rfl) less_ ?_ | refine draw_calmG 16 true 76 rfl rfl rfl (lit_lt rfl) rfl rfl (lit_lt rfl) less_ (fun S' hS' => by obtain rfl := hS'.resolve_left (by decide); exact ldA_ (cs := [_, _]) ty_agg_25 ty_size_25 rfl) ?_
  refine draw_only rfl ?_
  refine ARun.callG 16 true 76 rfl (lit_lt rfl) rfl (lit_lt rfl) go_16 rfl (rlosV_Same _ _ _ _ _ _ _ _ _ hlo4 hlo5) ?_
  rintro _ S8 ⟨rfl, h1⟩
  rw [h1, decide_eq_true (Eq.refl _), decide_eq_true (Eq.refl _)]; clear h1 S8
  refine arun_nil ⟨fun _ => less_, ?_⟩
  refine draw_pure rfl rfl rfl rfl (lit_lt rfl) (fun _ => (by first | exact Calm.pickT rfl rfl | exact Calm.pickF rfl rfl)) ?_
  refine draw_pure rfl rfl rfl rfl (lit_lt rfl) (fun _ => Calm.move rfl) ?_
  first | refine draw_skipG 21 true _ 81 rfl rfl rfl (lit_lt rfl) rfl rfl rfl (lit_lt rfl) less_ ?_ | refine draw_skipU 21 true 81 rfl rfl rfl (lit_lt rfl) rfl rfl (lit_lt rfl) less_ ?_ | refine draw_calmG 21 true 81 rfl rfl rfl (lit_lt rfl) rfl rfl (lit_lt rfl) less_ (fun S' hS' => Calm.move rfl) ?_
  first | refine draw_skipG 21 true _ 81 rfl rfl rfl (lit_lt rfl) rfl rfl rfl (lit_lt rfl) less_ ?_ | refine draw_skipU 21 true 81 rfl rfl rfl (lit_lt rfl) rfl rfl (lit_lt rfl) less_ ?_ | refine draw_calmG 21 true 81 rfl rfl rfl (lit_lt rfl) rfl rfl (lit_lt rfl) less_ (fun S' hS' => Calm.move rfl) ?_
  first | refine draw_skipG 21 true _ 81 rfl rfl rfl (lit_lt rfl) rfl rfl rfl (lit_lt rfl) less_ ?_ | refine draw_skipU 21 true 81 rfl rfl rfl (lit_lt rfl) rfl rfl (lit_lt rfl) less_ ?_ | refine draw_calmG 21 true 81 rfl rfl rfl (lit_lt rfl) rfl rfl (lit_lt rfl) less_ (fun S' hS' => Calm.bin rfl rfl b_eql) ?_
  refine draw_pure rfl rfl rfl rfl (lit_lt rfl) (fun _ => (by first | exact Calm.pickT rfl rfl | exact Calm.pickF rfl rfl)) ?_
  refine draw_pure rfl rfl rfl rfl (lit_lt rfl) (fun _ => Calm.move rfl) ?_
  first | refine draw_skipG 26 true _ 86 rfl rfl rfl (lit_lt rfl) rfl rfl rfl (lit_lt rfl) less_ ?_ | refine draw_skipU 26 true 86 rfl rfl rfl (lit_lt rfl) rfl rfl (lit_lt rfl) less_ ?_ | refine draw_calmG 26 true 86 rfl rfl rfl (lit_lt rfl) rfl rfl (lit_lt rfl) less_ (fun S' hS' => Calm.move rfl) ?_
  first | refine draw_skipG 26 true _ 86 rfl rfl rfl (lit_lt rfl) rfl rfl rfl (lit_lt rfl) less_ ?_ | refine draw_skipU 26 true 86 rfl rfl rfl (lit_lt rfl) rfl rfl (lit_lt rfl) less_ ?_ | refine draw_calmG 26 true 86 rfl rfl rfl (lit_lt rfl) rfl rfl (lit_lt rfl) less_ (fun S' hS' => Calm.move rfl) ?_
  refine draw_only rfl ?_
  refine ARun.callG 26 true 86 rfl (lit_lt rfl) rfl (lit_lt rfl) go_25 rfl (rlosV_SameNumbers _ _ _ _ _ hv18 hv20) ?_
  rintro _ S8 ⟨rfl, h1⟩
  rw [h1, decide_eq_true (Eq.refl _)]; clear h1 S8
  refine arun_nil ⟨fun _ => less_, ?_⟩
  refine draw_pure rfl rfl rfl rfl (lit_lt rfl) (fun _ => (by first | exact Calm.pickT rfl rfl | exact Calm.pickF rfl rfl)) ?_
  refine draw_pure rfl rfl rfl rfl (lit_lt rfl) (fun _ => Calm.move rfl) ?_
  first | refine draw_skipG 31 true _ 91 rfl rfl rfl (lit_lt rfl) rfl rfl rfl (lit_lt rfl) less_ ?_ | refine draw_skipU 31 true 91 rfl rfl rfl (lit_lt rfl) rfl rfl (lit_lt rfl) less_ ?_ | refine draw_calmG 31 true 91 rfl rfl rfl (lit_lt rfl) rfl rfl (lit_lt rfl) less_ (fun S' hS' => Calm.move rfl) ?_
  first | refine draw_skipG 31 true _ 91 rfl rfl rfl (lit_lt rfl) rfl rfl rfl (lit_lt rfl) less_ ?_ | refine draw_skipU 31 true 91 rfl rfl rfl (lit_lt rfl) rfl rfl (lit_lt rfl) less_ ?_ | refine draw_calmG 31 true 91 rfl rfl rfl (lit_lt rfl) rfl rfl (lit_lt rfl) less_ (fun S' hS' => Calm.move rfl) ?_
  first | refine draw_skipG 31 true _ 91 rfl rfl rfl (lit_lt rfl) rfl rfl rfl (lit_lt rfl) less_ ?_ | refine draw_skipU 31 true 91 rfl rfl rfl (lit_lt rfl) rfl rfl (lit_lt rfl) less_ ?_ | refine draw_calmG 31 true 91 rfl rfl rfl (lit_lt rfl) rfl rfl (lit_lt rfl) less_ (fun S' hS' => Calm.bin rfl rfl b_eql) ?_
  refine draw_pure rfl rfl rfl rfl (lit_lt rfl) (fun _ => (by first | exact Calm.pickT rfl rfl | exact Calm.pickF rfl rfl)) ?_
  refine draw_pure rfl rfl rfl rfl (lit_lt rfl) (fun _ => Calm.move rfl) ?_
  first | refine draw_skipG 36 true _ 96 rfl rfl rfl (lit_lt rfl) rfl rfl rfl (lit_lt rfl) less_ ?_ | refine draw_skipU 36 true 96 rfl rfl rfl (lit_lt rfl) rfl rfl (lit_lt rfl) less_ ?_ | refine draw_calmG 36 true 96 rfl rfl rfl (lit_lt rfl) rfl rfl (lit_lt rfl) less_ (fun S' hS' => by obtain rfl := hS'.resolve_left (by decide); exact ldA_ (cs := [_, _]) ty_agg_25 ty_size_25 rfl) ?_
  first | refine draw_skipG 36 true _ 96 rfl rfl rfl (lit_lt rfl) rfl rfl rfl (lit_lt rfl) less_ ?_ | refine draw_skipU 36 true 96 rfl rfl rfl (lit_lt rfl) rfl rfl (lit_lt rfl) less_ ?_ | refine draw_calmG 36 true 96 rfl rfl rfl (lit_lt rfl) rfl rfl (lit_lt rfl) less_ (fun S' hS' => by obtain rfl := hS'.resolve_left (by decide); exact ldA_ (cs := [_, _]) ty_agg_25 ty_size_25 rfl) ?_
  refine draw_only rfl ?_
  refine ARun.callG 36 true 96 rfl (lit_lt rfl) rfl (lit_lt rfl) go_26 rfl (losV_Check _ _ ks tr _ hloG) ?_
  rintro _ S8 ⟨rfl, h1⟩
  rw [h1]; clear h1 S8
  refine arun_nil ⟨fun _ => less_, ?_⟩
  refine draw_only rfl ?_
  refine ARun.callG 36 true 96 rfl (lit_lt rfl) rfl (lit_lt rfl) go_27 rfl (rlosV_Check _ _ ks tr _ hlo) ?_
  rintro _ S8 ⟨rfl, h1⟩
  rw [h1]; clear h1 S8
  refine arun_nil ⟨fun _ => less_, ?_⟩
  first | refine draw_skipG 36 true _ 96 rfl rfl rfl (lit_lt rfl) rfl rfl rfl (lit_lt rfl) less_ ?_ | refine draw_skipU 36 true 96 rfl rfl rfl (lit_lt rfl) rfl rfl (lit_lt rfl) less_ ?_ | refine draw_calmG 36 true 96 rfl rfl rfl (lit_lt rfl) rfl rfl (lit_lt rfl) less_ (fun S' hS' => Calm.bin rfl rfl b_eql) ?_
  refine draw_pure rfl rfl rfl rfl (lit_lt rfl) (fun _ => (by first | exact Calm.pickT rfl rfl | exact Calm.pickF rfl rfl)) ?_
  refine draw_pure rfl rfl rfl rfl (lit_lt rfl) (fun _ => Calm.move rfl) ?_
  first | refine draw_skipG 43 true _ 103 rfl rfl rfl (lit_lt rfl) rfl rfl rfl (lit_lt rfl) less_ ?_ | refine draw_skipU 43 true 103 rfl rfl rfl (lit_lt rfl) rfl rfl (lit_lt rfl) less_ ?_ | refine draw_calmG 43 true 103 rfl rfl rfl (lit_lt rfl) rfl rfl (lit_lt rfl) less_ (fun S' hS' => by obtain rfl := hS'.resolve_left (by decide); exact ldA_ (cs := [_, _]) ty_agg_25 ty_size_25 rfl) ?_
  first | refine draw_skipG 43 true _ 103 rfl rfl rfl (lit_lt rfl) rfl rfl rfl (lit_lt rfl) less_ ?_ | refine draw_skipU 43 true 103 rfl rfl rfl (lit_lt rfl) rfl rfl (lit_lt rfl) less_ ?_ | refine draw_calmG 43 true 103 rfl rfl rfl (lit_lt rfl) rfl rfl (lit_lt rfl) less_ (fun S' hS' => by obtain rfl := hS'.resolve_left (by decide); exact ldA_ (cs := [_, _]) ty_agg_25 ty_size_25 rfl) ?_
  refine draw_only rfl ?_
  refine ARun.callG 43 true 103 rfl (lit_lt rfl) rfl (lit_lt rfl) go_16 rfl (rlosV_Same _ _ _ _ _ _ _ _ _ hloG hlo) ?_
  rintro _ S8 ⟨rfl, h1⟩
  rw [h1, decide_eq_true (Eq.refl _), decide_eq_true (Eq.refl _)]; clear h1 S8
  refine arun_nil ⟨fun _ => less_, ?_⟩
  refine draw_pure rfl rfl rfl rfl (lit_lt rfl) (fun _ => (by first | exact Calm.pickT rfl rfl | exact Calm.pickF rfl rfl)) ?_
  refine draw_pure rfl rfl rfl rfl (lit_lt rfl) (fun _ => Calm.assign rfl) ?_
  refine draw_nil ?_
  refine athen_n ?_
  refine AWP.sub [(0, _), (1, _), (2, _), (3, _), (6, _), (7, _), (8, _), (9, _), (10, _), (11, _), (12, _), (13, _), (14, _), (15, _), (16, _), (17, _), (18, _), (19, _), (20, _), (21, _)] ⟨rfl, rfl, rfl, rfl, rfl, rfl, rfl, rfl, rfl, rfl, rfl, rfl, rfl, rfl, rfl, rfl, rfl, rfl, rfl, rfl, trivial⟩ ?_
  refine AWP.ret ?_
  refine ⟨_, _, ⟨_, _, rfl, rfl, rfl⟩, less_, ?_⟩
  rfl
theorem walk_LoserMakes (p : Option Addr) (n c : Nat) (ks : List (List Nat)) (w : World) (hks : SlOf RowR (roM w) (.slice p n c) ks) (hb : ∀ x ∈ ks, ∀ n ∈ x, n < 18446744073709551616) (hl : ks.length ≤ 5864062014634) (hr : ∀ x ∈ ks, x.length ≤ 17592186043904) :
    Calls Try.prog 3 #[.slice p n c] w fun e w' => e = .returned (.bool true) ∧ Below w.heap.size w w' :=
  ACall.callsW (law_LoserMakes _ ks _ hks hr)
theorem walk_LoserPuts (pa : Option Addr) (la qa : Nat) (ks : List (List Nat)) (pb : Option Addr) (lb qb : Nat) (tr : List Int) (p : Option Addr) (n c : Nat) (x : List Nat) (leaf : Int) (w : World)
    (hks : SlOf RowR (roM w) (.slice pa la qa) ks) (hl : ks.length ≤ 5864062014634) (hr : ∀ x ∈ ks, x.length ≤ 17592186043904) (ht : Sl 1 (fun x : Int => [.int .i64 x]) (roM w) (.slice pb lb qb) tr) (htl : tr.length ≤ 17592186043904)
    (hx : Sl 1 (fun x : Nat => [.int .u64 (x : Int)]) (roM w) (.slice p n c) x) (hxb : ∀ n ∈ x, n < 18446744073709551616) (hxl : x.length ≤ 17592186043904) (hf : (Lit.int .i64 leaf).wf = true) :
    Calls Try.prog 4 #[.agg #[.slice pa la qa, .slice pb lb qb], .slice p n c, .int .i64 leaf] w fun e w' => e = .returned (.bool true) ∧ Below w.heap.size w w' :=
  ACall.callsW (law_LoserPuts _ _ _ ks tr x leaf _ ⟨hks, ht⟩ hx hxl hl htl hr (wf64 hf).1 (wf64 hf).2)
end Go.Proofs.Ytddabbfjoejalaa
