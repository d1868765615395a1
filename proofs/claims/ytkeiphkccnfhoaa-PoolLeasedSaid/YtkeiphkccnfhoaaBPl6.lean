/-
  Texts that belong together: PoolLv, PoolP1, DiskOpen, PoolOpen, PL2.
-/
import Derived.Test.YtkeiphkccnfhoaaBPl5
namespace Go.Proofs.Ytkeiphkccnfhoaa
open Go.RowKit
open Mv Disk
set_option linter.unusedVariables false
set_option linter.unusedSimpArgs false
set_option maxRecDepth 4000
theorem openedN_ok {x : Pl} (h : PRight x) (hd : x.d.down = false) (f : Pl × Nat × Int) : openedN x f = f := by unfold openedN; rw [openP_ok h hd, if_pos rfl]
theorem openedL_ok {x : Pl} (h : PRight x) (hd : x.d.down = false) (f : Pl × List Int × Int) : openedL x f = f := by unfold openedL; rw [openP_ok h hd, if_pos rfl]
theorem openedS_ok {x : Pl} (h : PRight x) (hd : x.d.down = false) (f : ByteArray × Int) : openedS x f = f := by unfold openedS; rw [openP_ok h hd, if_pos rfl]
set_option maxHeartbeats 8000000 in
theorem pv_lives (S : Mem) : ACall Try.prog 39 #[] S fun r S' => r = .bool true ∧ S' = S := by
  have dz0 : Dz d0 := dz_right rd0 (by show (-1 : Int) ≤ _; decide)
  have dz1 : Dz d1 := dz_right rd1 (by show (-1 : Int) ≤ _; decide)
  have dz2 : Dz d2 := dz_right rd2 (by show (-1 : Int) ≤ _; decide)
  have dzL : Dz L0 := dz_right right_L0 (by decide)
  have c0 : ∀ S, ACall Try.prog 35 #[.int .i64 4] S (DkRes (L0, 0) S) := fun S => by have := disk_Make 4 S; rw [l0] at this; exact this
  have c1 : ∀ v M, DkR M v L0 → ACall Try.prog 13 #[v, .string nA, .int .i64 3] M (DkRes (d0, 0) M) := fun v M h => by have := disk_New v L0 nA 3 M h dzL; rw [dl1] at this; exact this
  have c2 : ∀ v M, DkR M v d0 → ACall Try.prog 37 #[v, .int .i64 2] M (PlRes (p0, 0) M) := fun v M h => by have := pl_Make v d0 2 M h dz0; rw [m0] at this; exact this
  have c3 : ∀ v M, PlR M v p0 → ACall Try.prog 71 #[v, .string nA, .int .i64 0] M (PlN (p1, 0, 0) M) := fun v M h => by have := pl_Pin v p0 nA 0 M h dz0; rw [openedN_ok pp0 rfl, m1] at this; exact this
  have c4 : ∀ v M, PlR M v p1 → ACall Try.prog 72 #[v, .int .i64 0, .int .i64 1, .string xy] M (PlRes (p2, 0) M) := fun v M h => by have := pl_Fill v p1 0 1 xy M h dz0; rw [openedP_ok pp1 rfl, m2] at this; exact this
  have c5 : ∀ v M, PlR M v p2 → ACall Try.prog 73 #[v, .int .i64 0] M fun r S' => r = .tuple #[.string xs, .int .i64 0] ∧ S' = M := fun v M h => by have := pl_Look v p2 0 M h dz0; rw [openedS_ok pp2 rfl, k2] at this; exact this
  have c6 : ∀ v vl M, PlR M v p2 → Sl 1 i64s M vl [0] → ACall Try.prog 74 #[v, vl] M (PlRes (p3, 0) M) := fun v vl M h hl => by have := pl_Unpin v vl p2 [0] M h dz0 hl; rw [openedP_ok pp2 rfl, m3] at this; exact this
  have c7 : ∀ v M, PlR M v p3 → ACall Try.prog 42 #[v, .int .i64 1] M (PlL (p4, [1], 0) M) := fun v M h => by have := pl_Lease v p3 1 M h dz0; rw [openedL_ok pp3 rfl, m4] at this; exact this
  have c8a : ∀ v M, PlR M v p4 → ACall Try.prog 71 #[v, .string nA, .int .i64 2] M (PlN (p5, 0, 0) M) := fun v M h => by have := pl_Pin v p4 nA 2 M h dz0; rw [openedN_ok pp4 rfl, m5] at this; exact this
  have c8b : ∀ v M, PlR M v p5 → ACall Try.prog 71 #[v, .string nA, .int .i64 1] M (PlN (p5, 0, 9) M) := fun v M h => by have := pl_Pin v p5 nA 1 M h dz1; rw [openedN_ok pp5 rfl, m5'] at this; exact this
  have c9 : ∀ v vl M, PlR M v p5 → Sl 1 i64s M vl [1] → ACall Try.prog 43 #[v, vl] M (PlRes (p6, 0) M) := fun v vl M h hl => by have := pl_Return v vl p5 [1] M h dz1 hl; rw [openedP_ok pp5 rfl, m6] at this; exact this
  have c10 : ∀ v M, PlR M v p6 → ACall Try.prog 71 #[v, .string nA, .int .i64 0] M (PlN (p7, 1, 0) M) := fun v M h => by have := pl_Pin v p6 nA 0 M h dz1; rw [openedN_ok pp6 rfl, m7] at this; exact this
  have c11 : ∀ v M, PlR M v p7 → ACall Try.prog 73 #[v, .int .i64 1] M fun r S' => r = .tuple #[.string xs, .int .i64 0] ∧ S' = M := fun v M h => by have := pl_Look v p7 1 M h dz1; rw [openedS_ok pp7 rfl, k7] at this; exact this
  have c12 : ∀ v M, PlR M v p7 → ACall Try.prog 75 #[v] M (PlRes (p8, 0) M) := fun v M h => by have := pl_Flush v p7 M h dz1; rw [openedP_ok pp7 rfl, m8] at this; exact this
  have c13 : ∀ v M, DkR M v d2 → ACall Try.prog 27 #[v, .string nA, .int .i64 0] M fun r S' => r = .tuple #[.string xs, .int .i64 0] ∧ S' = M := fun v M h => by have := disk_Read v d2 nA 0 M h dz2; rw [q8] at this; exact this
  have c14 : ∀ v M, PlR M v p8 → ACall Try.prog 41 #[v] M fun r S' => r = .tuple #[.int .i64 2, .int .i64 2, .int .i64 0, .int .i64 0] ∧ S' = M := fun v M h => by have := pl_Counts v p8 M h dz2; rw [c8] at this; exact this
  have c15 : ∀ v M, PlR M v p8 → ACall Try.prog 76 #[v, .string nA] M (PlRes (p8, 11) M) := fun v M h => by have := pl_Drop v p8 nA M h dz2; rw [openedP_ok pp8 rfl, m9] at this; exact this
  have c16 : ∀ v M, PlR M v p8 → ACall Try.prog 77 #[v] M fun r S' => r = .int .i64 0 ∧ S' = M := fun v M h => by have := pl_Check v p8 M h dz2; rw [chkP_yes pp8] at this; exact this
  have hx64 := xs_size
  have hx1 := xs_1
  have hd8 : p8.d = d2 := rfl
  clear dz0 dz1 dz2 dzL
  generalize xs = x at *
  refine ACall.enter (args := []) (rs := [.tmp 0]) 258 [] Try.func39 rfl rfl (Nat.le_of_ble_eq_true rfl) rfl trivial ?_
  refine AWP.seq ?_
  refine AWP.region ?_
  refine rC (Calm.assign rfl) ?_
  refine arun_nil ?_
  refine athen_n ?_
  refine AWP.seq ?_
  refine AWP.region ?_
  refine ARun.call (lit_lt rfl) go_35 rfl (c0 _) ?_
  rintro _ S1 ⟨v, rfl, hS1, hd1⟩
  obtain ⟨pa, qa, ra, sa, rfl, hEa, hWa⟩ := id hd1
  refine rC (Calm.move rfl) ?_
  refine rC (Calm.extract rfl rfl) ?_
  refine rC (Calm.extract rfl rfl) ?_
  refine ARun.alloc (lit_lt rfl) ty_zero_25 ?_
  intro b1 f1
  have g1 := f1
  repeat ((with_reducible replace g1 := fresh_set g1); obtain ⟨g1, _⟩ := g1)
  (try simp only [List.length_cons, List.length_nil, Nat.zero_add, Nat.reduceAdd])
  first | refine ARun.storeAll rfl rfl ty_size_25 own_ rfl rfl ?_ | refine ARun.store rfl rfl ty_size_25 own_ lens_ rfl ?_
  (try simp only [Mem.set_set, List.set_cons_zero, List.set_cons_succ, Nat.zero_add, Nat.reduceAdd])
  refine rC (Calm.assign rfl) ?_
  refine arun_nil ?_
  refine athen_n ?_
  refine AWP.sub [(0, _), (1, _), (2, _)] ⟨rfl, rfl, rfl, trivial⟩ ?_
  refine AWP.seq ?_
  refine AWP.region ?_
  refine rC (ldA_ (cs := [_, _, _, _, _]) ty_agg_25 ty_size_25 rfl) ?_
  refine ARun.call (lit_lt rfl) go_13 rfl ((c1 _ S1 hd1).frame f1) ?_
  rintro _ Sx ⟨M1, ⟨v, rfl, hM1, hd2⟩, fa, h1⟩
  rw [h1]; clear h1 Sx
  obtain ⟨pb, qb, rb, sb, rfl, hEb, hWb⟩ := id hd2
  have hS2 := hS1.trans hM1
  refine rC (Calm.move rfl) ?_
  refine rC (Calm.extract rfl rfl) ?_
  refine rC (Calm.extract rfl rfl) ?_
  first | refine ARun.storeAll rfl rfl ty_size_25 own_ rfl rfl ?_ | refine ARun.store rfl rfl ty_size_25 own_ lens_ rfl ?_
  (try simp only [Mem.set_set, List.set_cons_zero, List.set_cons_succ, Nat.zero_add, Nat.reduceAdd])
  refine rC (Calm.assign rfl) ?_
  refine arun_nil ?_
  refine athen_n ?_
  refine AWP.sub [(0, _), (1, _), (2, _), (3, _)] ⟨rfl, rfl, rfl, rfl, trivial⟩ ?_
  refine AWP.seq ?_
  refine AWP.region ?_
  refine rC (ldA_ (cs := [_, _, _, _, _]) ty_agg_25 ty_size_25 rfl) ?_
  refine ARun.call (lit_lt rfl) go_37 rfl ((c2 _ M1 hd2).frame fa) ?_
  rintro _ Sx ⟨M2, ⟨v, rfl, hM2, hp0⟩, fb, h1⟩
  rw [h1]; clear h1 Sx
  obtain ⟨p0v, q0v, r0v, s0v, t0v, u0v, rfl, hE0v, hW0v, hF0v⟩ := id hp0
  have hS := hS2.trans hM2
  refine rC (Calm.move rfl) ?_
  refine rC (Calm.extract rfl rfl) ?_
  refine rC (Calm.extract rfl rfl) ?_
  refine ARun.alloc (lit_lt rfl) ty_zero_60 ?_
  intro b4 f4
  have g4 := f4
  repeat ((with_reducible replace g4 := fresh_set g4); obtain ⟨g4, _⟩ := g4)
  (try simp only [List.length_cons, List.length_nil, Nat.zero_add, Nat.reduceAdd])
  first | refine ARun.storeAll rfl rfl ty_size_60 own_ rfl rfl ?_ | refine ARun.store rfl rfl ty_size_60 own_ lens_ rfl ?_
  (try simp only [Mem.set_set, List.set_cons_zero, List.set_cons_succ, Nat.zero_add, Nat.reduceAdd])
  refine rC (Calm.assign rfl) ?_
  refine arun_nil ?_
  refine athen_n ?_
  refine AWP.sub [(0, _), (1, _), (2, _), (3, _), (4, _), (5, _)] ⟨rfl, rfl, rfl, rfl, rfl, rfl, trivial⟩ ?_
  obtain ⟨g4, n4⟩ := fresh_set f4
  refine AWP.less (M2.set b4 _) (Less.set (Mem.less_set _ _ _ fb.1) _ _) ?_
  refine AWP.seq ?_
  refine AWP.region ?_
  refine rC (ldA_ (cs := [_, _, _, _, _, _, _, _, _]) ty_agg_60 ty_size_60 rfl) ?_
  refine ARun.call (lit_lt rfl) go_71 rfl ((c3 _ M2 hp0).frame g4) ?_
  rintro _ Sx ⟨M3, ⟨v, rfl, hM3, hp1⟩, g4b, h1⟩
  rw [h1]; clear h1 Sx
  obtain ⟨p1v, q1v, r1v, s1v, t1v, u1v, rfl, hE1v, hW1v, hF1v⟩ := id hp1
  replace hS := hS.trans hM3
  refine rC (Calm.move rfl) ?_
  refine rC (Calm.extract rfl rfl) ?_
  refine rC (Calm.extract rfl rfl) ?_
  refine rC (Calm.extract rfl rfl) ?_
  first | refine ARun.storeAll rfl rfl ty_size_60 own_ rfl rfl ?_ | refine ARun.store rfl rfl ty_size_60 own_ lens_ rfl ?_
  (try simp only [Mem.set_set, List.set_cons_zero, List.set_cons_succ, Nat.zero_add, Nat.reduceAdd])
  refine rC (Calm.assign rfl) ?_
  refine rC (Calm.assign rfl) ?_
  refine arun_nil ?_
  refine athen_n ?_
  refine AWP.sub [(0, _), (1, _), (2, _), (3, _), (4, _), (5, _), (6, _), (7, _)] ⟨rfl, rfl, rfl, rfl, rfl, rfl, rfl, rfl, trivial⟩ ?_
  refine AWP.seq ?_
  refine AWP.region ?_
  refine rC (ldA_ (cs := [_, _, _, _, _, _, _, _, _]) ty_agg_60 ty_size_60 rfl) ?_
  refine rC (Calm.move rfl) ?_
  refine ARun.call (lit_lt rfl) go_72 rfl ((c4 _ M3 hp1).frame g4b) ?_
  rintro _ Sx ⟨M4, ⟨v, rfl, hM4, hp2⟩, g4c, h1⟩
  rw [h1]; clear h1 Sx
  obtain ⟨p2v, q2v, r2v, s2v, t2v, u2v, rfl, hE2v, hW2v, hF2v⟩ := id hp2
  replace hS := hS.trans hM4
  refine rC (Calm.move rfl) ?_
  refine rC (Calm.extract rfl rfl) ?_
  refine rC (Calm.extract rfl rfl) ?_
  first | refine ARun.storeAll rfl rfl ty_size_60 own_ rfl rfl ?_ | refine ARun.store rfl rfl ty_size_60 own_ lens_ rfl ?_
  (try simp only [Mem.set_set, List.set_cons_zero, List.set_cons_succ, Nat.zero_add, Nat.reduceAdd])
  refine rC (Calm.assign rfl) ?_
  refine arun_nil ?_
  refine athen_n ?_
  refine AWP.sub [(0, _), (1, _), (2, _), (3, _), (4, _), (5, _), (6, _), (7, _), (8, _)] ⟨rfl, rfl, rfl, rfl, rfl, rfl, rfl, rfl, rfl, trivial⟩ ?_
  refine AWP.seq ?_
  refine AWP.region ?_
  refine rC (ldA_ (cs := [_, _, _, _, _, _, _, _, _]) ty_agg_60 ty_size_60 rfl) ?_
  refine rC (Calm.move rfl) ?_
  refine ARun.call (lit_lt rfl) go_73 rfl (c5 _ _ (hp2.less less_)) ?_
  rintro _ Sx ⟨rfl, h1⟩
  rw [h1]; clear h1 Sx
  refine rC (Calm.move rfl) ?_
  refine rC (Calm.extract rfl rfl) ?_
  refine rC (Calm.extract rfl rfl) ?_
  refine rC (Calm.assign rfl) ?_
  refine rC (Calm.assign rfl) ?_
  refine arun_nil ?_
  refine athen_n ?_
  refine AWP.sub [(0, _), (1, _), (2, _), (3, _), (4, _), (5, _), (6, _), (7, _), (8, _), (9, _), (10, _)] ⟨rfl, rfl, rfl, rfl, rfl, rfl, rfl, rfl, rfl, rfl, rfl, trivial⟩ ?_
  refine AWP.seq ?_
  refine AWP.region ?_
  refine rC (ldA_ (cs := [_, _, _, _, _, _, _, _, _]) ty_agg_60 ty_size_60 rfl) ?_
  refine rC (Calm.move rfl) ?_
  refine ARun.build1s (lit_lt rfl) ty_sl_67 rfl rfl ?_
  intro b69 f69
  have g69 := f69
  repeat ((with_reducible replace g69 := fresh_set g69); obtain ⟨g69, _⟩ := g69)
  obtain ⟨g69, n69⟩ := fresh_set f69
  rw [Mem.set_comm' _ _ _ (Ne.symm n69)]
  have g4d := fresh_more (r := ⟨3, [.int .i64 0], 1⟩) g4c (Ne.symm n69)
  have hl69 := Mem.less_set M4 b69 ⟨3, [.int .i64 0], 1⟩ g69.1
  refine ARun.call (lit_lt rfl) go_74 rfl ((c6 _ _ _ (hp2.less hl69) (sl_ownP (f := i64s) (n := 1) i64_len (Mem.own_set_same _ b69 _) (by rfl) rfl (by decide))).frame g4d) ?_
  rintro _ Sx ⟨M5, ⟨v, rfl, hM5', hp3⟩, g4e, h1⟩
  rw [h1]; clear h1 Sx
  obtain ⟨p3v, q3v, r3v, s3v, t3v, u3v, rfl, hE3v, hW3v, hF3v⟩ := id hp3
  replace hS := hS.trans (hl69.trans hM5')
  refine rC (Calm.move rfl) ?_
  refine rC (Calm.extract rfl rfl) ?_
  refine rC (Calm.extract rfl rfl) ?_
  first | refine ARun.storeAll rfl rfl ty_size_60 own_ rfl rfl ?_ | refine ARun.store rfl rfl ty_size_60 own_ lens_ rfl ?_
  (try simp only [Mem.set_set, List.set_cons_zero, List.set_cons_succ, Nat.zero_add, Nat.reduceAdd])
  refine rC (Calm.assign rfl) ?_
  refine arun_nil ?_
  refine athen_n ?_
  refine AWP.sub [(0, _), (1, _), (2, _), (3, _), (4, _), (5, _), (6, _), (7, _), (8, _), (9, _), (10, _), (11, _)] ⟨rfl, rfl, rfl, rfl, rfl, rfl, rfl, rfl, rfl, rfl, rfl, rfl, trivial⟩ ?_
  refine AWP.seq ?_
  refine AWP.region ?_
  refine rC (ldA_ (cs := [_, _, _, _, _, _, _, _, _]) ty_agg_60 ty_size_60 rfl) ?_
  refine ARun.call (lit_lt rfl) go_42 rfl ((c7 _ M5 hp3).frame g4e) ?_
  rintro _ Sx ⟨M6, ⟨v, vl, rfl, hM6, hp4, hl⟩, g4f, h1⟩
  rw [h1]; clear h1 Sx
  obtain ⟨p4v, q4v, r4v, s4v, t4v, u4v, rfl, hE4v, hW4v, hF4v⟩ := id hp4
  replace hS := hS.trans hM6
  obtain ⟨la, lc, rfl, hl1, hl2, hl3⟩ := id hl
  obtain ⟨lb, lo, rfl, hlk⟩ := hl3.resolve_left (by simp)
  clear hl1 hl2 hl3 hlk
  refine rC (Calm.move rfl) ?_
  refine rC (Calm.extract rfl rfl) ?_
  refine rC (Calm.extract rfl rfl) ?_
  refine rC (Calm.extract rfl rfl) ?_
  first | refine ARun.storeAll rfl rfl ty_size_60 own_ rfl rfl ?_ | refine ARun.store rfl rfl ty_size_60 own_ lens_ rfl ?_
  (try simp only [Mem.set_set, List.set_cons_zero, List.set_cons_succ, Nat.zero_add, Nat.reduceAdd])
  refine rC (Calm.assign rfl) ?_
  refine rC (Calm.assign rfl) ?_
  refine arun_nil ?_
  refine athen_n ?_
  refine AWP.sub [(0, _), (1, _), (2, _), (3, _), (4, _), (5, _), (6, _), (7, _), (8, _), (9, _), (10, _), (11, _), (12, _), (13, _)] ⟨rfl, rfl, rfl, rfl, rfl, rfl, rfl, rfl, rfl, rfl, rfl, rfl, rfl, rfl, trivial⟩ ?_
  refine AWP.seq ?_
  refine AWP.region ?_
  refine rC (ldA_ (cs := [_, _, _, _, _, _, _, _, _]) ty_agg_60 ty_size_60 rfl) ?_
  refine ARun.call (lit_lt rfl) go_71 rfl ((c8a _ M6 hp4).frame g4f) ?_
  rintro _ Sx ⟨M7, ⟨v, rfl, hM7, hp5⟩, g4g, h1⟩
  rw [h1]; clear h1 Sx
  obtain ⟨p5v, q5v, r5v, s5v, t5v, u5v, rfl, hE5v, hW5v, hF5v⟩ := id hp5
  replace hS := hS.trans hM7
  replace hl := hl.less hM7
  refine rC (Calm.move rfl) ?_
  refine rC (Calm.extract rfl rfl) ?_
  refine rC (Calm.extract rfl rfl) ?_
  refine rC (Calm.extract rfl rfl) ?_
  first | refine ARun.storeAll rfl rfl ty_size_60 own_ rfl rfl ?_ | refine ARun.store rfl rfl ty_size_60 own_ lens_ rfl ?_
  (try simp only [Mem.set_set, List.set_cons_zero, List.set_cons_succ, Nat.zero_add, Nat.reduceAdd])
  refine rC (Calm.assign rfl) ?_
  refine rC (Calm.assign rfl) ?_
  refine arun_nil ?_
  refine athen_n ?_
  refine AWP.sub [(0, _), (1, _), (2, _), (3, _), (4, _), (5, _), (6, _), (7, _), (8, _), (9, _), (10, _), (11, _), (12, _), (13, _), (14, _), (15, _)] ⟨rfl, rfl, rfl, rfl, rfl, rfl, rfl, rfl, rfl, rfl, rfl, rfl, rfl, rfl, rfl, rfl, trivial⟩ ?_
  refine AWP.seq ?_
  refine AWP.region ?_
  refine rC (ldA_ (cs := [_, _, _, _, _, _, _, _, _]) ty_agg_60 ty_size_60 rfl) ?_
  refine ARun.call (lit_lt rfl) go_71 rfl ((c8b _ M7 hp5).frame g4g) ?_
  rintro _ Sx ⟨M8, ⟨v, rfl, hM8, hp5'⟩, g4h, h1⟩
  rw [h1]; clear h1 Sx
  obtain ⟨p5xv, q5xv, r5xv, s5xv, t5xv, u5xv, rfl, hE5xv, hW5xv, hF5xv⟩ := id hp5'
  replace hS := hS.trans hM8
  replace hl := hl.less hM8
  refine rC (Calm.move rfl) ?_
  refine rC (Calm.extract rfl rfl) ?_
  refine rC (Calm.extract rfl rfl) ?_
  refine rC (Calm.extract rfl rfl) ?_
  refine ARun.alloc (lit_lt rfl) ty_zero_60 ?_
  intro b16 f16
  have g16 := f16
  repeat ((with_reducible replace g16 := fresh_set g16); obtain ⟨g16, _⟩ := g16)
  (try simp only [List.length_cons, List.length_nil, Nat.zero_add, Nat.reduceAdd])
  first | refine ARun.storeAll rfl rfl ty_size_60 own_ rfl rfl ?_ | refine ARun.store rfl rfl ty_size_60 own_ lens_ rfl ?_
  (try simp only [Mem.set_set, List.set_cons_zero, List.set_cons_succ, Nat.zero_add, Nat.reduceAdd])
  refine rC (Calm.assign rfl) ?_
  refine rC (Calm.assign rfl) ?_
  refine arun_nil ?_
  refine athen_n ?_
  refine AWP.sub [(0, _), (1, _), (2, _), (3, _), (4, _), (5, _), (6, _), (7, _), (8, _), (9, _), (10, _), (11, _), (12, _), (13, _), (14, _), (15, _), (18, _)] ⟨rfl, rfl, rfl, rfl, rfl, rfl, rfl, rfl, rfl, rfl, rfl, rfl, rfl, rfl, rfl, rfl, rfl, trivial⟩ ?_
  refine AWP.less (M8.set b4 _) (Mem.less_set _ _ _ f16.1) ?_
  refine AWP.seq ?_
  refine AWP.region ?_
  refine rC (ldA_ (cs := [_, _, _, _, _, _, _, _, _]) ty_agg_60 ty_size_60 rfl) ?_
  refine rC (Calm.move rfl) ?_
  refine ARun.call (lit_lt rfl) go_43 rfl ((c9 _ _ M8 (hp5.less hM8) hl).frame g4h) ?_
  rintro _ Sx ⟨M9, ⟨v, rfl, hM9, hp6⟩, g4i, h1⟩
  rw [h1]; clear h1 Sx
  obtain ⟨p6v, q6v, r6v, s6v, t6v, u6v, rfl, hE6v, hW6v, hF6v⟩ := id hp6
  replace hS := hS.trans hM9
  replace hl := hl.less hM9
  refine rC (Calm.move rfl) ?_
  refine rC (Calm.extract rfl rfl) ?_
  refine rC (Calm.extract rfl rfl) ?_
  first | refine ARun.storeAll rfl rfl ty_size_60 own_ rfl rfl ?_ | refine ARun.store rfl rfl ty_size_60 own_ lens_ rfl ?_
  (try simp only [Mem.set_set, List.set_cons_zero, List.set_cons_succ, Nat.zero_add, Nat.reduceAdd])
  refine rC (Calm.assign rfl) ?_
  refine arun_nil ?_
  refine athen_n ?_
  refine AWP.sub [(0, _), (1, _), (2, _), (3, _), (4, _), (5, _), (6, _), (7, _), (8, _), (9, _), (10, _), (11, _), (12, _), (13, _), (14, _), (15, _), (18, _), (19, _)] ⟨rfl, rfl, rfl, rfl, rfl, rfl, rfl, rfl, rfl, rfl, rfl, rfl, rfl, rfl, rfl, rfl, rfl, rfl, trivial⟩ ?_
  refine AWP.seq ?_
  refine AWP.region ?_
  refine rC (ldA_ (cs := [_, _, _, _, _, _, _, _, _]) ty_agg_60 ty_size_60 rfl) ?_
  refine ARun.call (lit_lt rfl) go_71 rfl ((c10 _ M9 hp6).frame g4i) ?_
  rintro _ Sx ⟨M10, ⟨v, rfl, hM10, hp7⟩, g4j, h1⟩
  rw [h1]; clear h1 Sx
  obtain ⟨p7v, q7v, r7v, s7v, t7v, u7v, rfl, hE7v, hW7v, hF7v⟩ := id hp7
  replace hS := hS.trans hM10
  replace hl := hl.less hM10
  refine rC (Calm.move rfl) ?_
  refine rC (Calm.extract rfl rfl) ?_
  refine rC (Calm.extract rfl rfl) ?_
  refine rC (Calm.extract rfl rfl) ?_
  first | refine ARun.storeAll rfl rfl ty_size_60 own_ rfl rfl ?_ | refine ARun.store rfl rfl ty_size_60 own_ lens_ rfl ?_
  (try simp only [Mem.set_set, List.set_cons_zero, List.set_cons_succ, Nat.zero_add, Nat.reduceAdd])
  refine rC (Calm.assign rfl) ?_
  refine rC (Calm.assign rfl) ?_
  refine arun_nil ?_
  refine athen_n ?_
  refine AWP.sub [(0, _), (1, _), (2, _), (3, _), (4, _), (5, _), (6, _), (7, _), (8, _), (9, _), (10, _), (11, _), (12, _), (13, _), (14, _), (15, _), (18, _), (19, _), (20, _), (21, _)] ⟨rfl, rfl, rfl, rfl, rfl, rfl, rfl, rfl, rfl, rfl, rfl, rfl, rfl, rfl, rfl, rfl, rfl, rfl, rfl, rfl, trivial⟩ ?_
  refine AWP.seq ?_
  refine AWP.region ?_
  refine rC (ldA_ (cs := [_, _, _, _, _, _, _, _, _]) ty_agg_60 ty_size_60 rfl) ?_
  refine rC (Calm.move rfl) ?_
  refine ARun.call (lit_lt rfl) go_73 rfl (c11 _ _ (hp7.less less_)) ?_
  rintro _ Sx ⟨rfl, h1⟩
  rw [h1]; clear h1 Sx
  refine rC (Calm.move rfl) ?_
  refine rC (Calm.extract rfl rfl) ?_
  refine rC (Calm.extract rfl rfl) ?_
  refine rC (Calm.assign rfl) ?_
  refine rC (Calm.assign rfl) ?_
  refine arun_nil ?_
  refine athen_n ?_
  refine AWP.sub [(0, _), (1, _), (2, _), (3, _), (4, _), (5, _), (6, _), (7, _), (8, _), (9, _), (10, _), (11, _), (12, _), (13, _), (14, _), (15, _), (18, _), (19, _), (20, _), (21, _), (22, _), (23, _)] ⟨rfl, rfl, rfl, rfl, rfl, rfl, rfl, rfl, rfl, rfl, rfl, rfl, rfl, rfl, rfl, rfl, rfl, rfl, rfl, rfl, rfl, rfl, trivial⟩ ?_
  refine AWP.seq ?_
  refine AWP.region ?_
  refine rC (ldA_ (cs := [_, _, _, _, _, _, _, _, _]) ty_agg_60 ty_size_60 rfl) ?_
  refine ARun.call (lit_lt rfl) go_75 rfl ((c12 _ M10 hp7).frame g4j) ?_
  rintro _ Sx ⟨M11, ⟨v, rfl, hM11, hp8⟩, g4k, h1⟩
  rw [h1]; clear h1 Sx
  obtain ⟨p8v, q8v, r8v, s8v, t8v, u8v, rfl, hE8v, hW8v, hF8v⟩ := id hp8
  replace hS := hS.trans hM11
  replace hl := hl.less hM11
  refine rC (Calm.move rfl) ?_
  refine rC (Calm.extract rfl rfl) ?_
  refine rC (Calm.extract rfl rfl) ?_
  refine ARun.alloc (lit_lt rfl) ty_zero_60 ?_
  intro b24 f24
  have g24 := f24
  repeat ((with_reducible replace g24 := fresh_set g24); obtain ⟨g24, _⟩ := g24)
  (try simp only [List.length_cons, List.length_nil, Nat.zero_add, Nat.reduceAdd])
  first | refine ARun.storeAll rfl rfl ty_size_60 own_ rfl rfl ?_ | refine ARun.store rfl rfl ty_size_60 own_ lens_ rfl ?_
  (try simp only [Mem.set_set, List.set_cons_zero, List.set_cons_succ, Nat.zero_add, Nat.reduceAdd])
  refine rC (Calm.assign rfl) ?_
  refine arun_nil ?_
  refine athen_n ?_
  refine AWP.sub [(0, _), (1, _), (2, _), (3, _), (4, _), (5, _), (6, _), (7, _), (8, _), (9, _), (10, _), (11, _), (12, _), (13, _), (14, _), (15, _), (18, _), (19, _), (20, _), (21, _), (22, _), (23, _), (24, _), (25, _)] ⟨rfl, rfl, rfl, rfl, rfl, rfl, rfl, rfl, rfl, rfl, rfl, rfl, rfl, rfl, rfl, rfl, rfl, rfl, rfl, rfl, rfl, rfl, rfl, rfl, trivial⟩ ?_
  obtain ⟨g24, n24⟩ := fresh_set f24
  refine AWP.less (M11.set b24 _) (Less.set (Mem.less_set _ _ _ g4k.1) _ _) ?_
  have hdk : DkR M11 (.agg #[.int .i64 p8.d.size, .slice p8v p8.d.ext.length q8v, .slice r8v p8.d.waits.length s8v, .int .i64 p8.d.fuse, .bool p8.d.down]) d2 := ⟨_, _, _, _, rfl, hE8v, hW8v⟩
  refine AWP.seq ?_
  refine AWP.region ?_
  refine rC (Calm.fieldAddr ty_field_60_0 rfl) ?_
  refine rC (ldA_ (cs := [_, _, _, _, _]) ty_agg_25 ty_size_25 rfl) ?_
  refine ARun.call (lit_lt rfl) go_27 rfl (c13 _ _ (hdk.less less_)) ?_
  rintro _ Sx ⟨rfl, h1⟩
  rw [h1]; clear h1 Sx
  refine rC (Calm.move rfl) ?_
  refine rC (Calm.extract rfl rfl) ?_
  refine rC (Calm.extract rfl rfl) ?_
  refine rC (Calm.assign rfl) ?_
  refine rC (Calm.assign rfl) ?_
  refine arun_nil ?_
  refine athen_n ?_
  refine AWP.sub [(0, _), (1, _), (2, _), (3, _), (4, _), (5, _), (6, _), (7, _), (8, _), (9, _), (10, _), (11, _), (12, _), (13, _), (14, _), (15, _), (18, _), (19, _), (20, _), (21, _), (22, _), (23, _), (24, _), (25, _), (26, _), (27, _)] ⟨rfl, rfl, rfl, rfl, rfl, rfl, rfl, rfl, rfl, rfl, rfl, rfl, rfl, rfl, rfl, rfl, rfl, rfl, rfl, rfl, rfl, rfl, rfl, rfl, rfl, rfl, trivial⟩ ?_
  refine AWP.seq ?_
  refine AWP.region ?_
  refine rC (ldA_ (cs := [_, _, _, _, _, _, _, _, _]) ty_agg_60 ty_size_60 rfl) ?_
  refine ARun.call (lit_lt rfl) go_41 rfl (c14 _ _ (hp8.less less_)) ?_
  rintro _ Sx ⟨rfl, h1⟩
  rw [h1]; clear h1 Sx
  refine rC (Calm.move rfl) ?_
  refine rC (Calm.extract rfl rfl) ?_
  refine rC (Calm.extract rfl rfl) ?_
  refine rC (Calm.extract rfl rfl) ?_
  refine rC (Calm.extract rfl rfl) ?_
  refine rC (Calm.assign rfl) ?_
  refine rC (Calm.assign rfl) ?_
  refine rC (Calm.assign rfl) ?_
  refine rC (Calm.assign rfl) ?_
  refine arun_nil ?_
  refine athen_n ?_
  refine AWP.sub [(0, _), (1, _), (2, _), (3, _), (4, _), (5, _), (6, _), (7, _), (8, _), (9, _), (10, _), (11, _), (12, _), (13, _), (14, _), (15, _), (18, _), (19, _), (20, _), (21, _), (22, _), (23, _), (24, _), (25, _), (26, _), (27, _), (28, _), (29, _), (30, _), (31, _)] ⟨rfl, rfl, rfl, rfl, rfl, rfl, rfl, rfl, rfl, rfl, rfl, rfl, rfl, rfl, rfl, rfl, rfl, rfl, rfl, rfl, rfl, rfl, rfl, rfl, rfl, rfl, rfl, rfl, rfl, rfl, trivial⟩ ?_
  refine AWP.seq ?_
  refine AWP.region ?_
  refine rC (ldA_ (cs := [_, _, _, _, _, _, _, _, _]) ty_agg_60 ty_size_60 rfl) ?_
  refine ARun.call (lit_lt rfl) go_76 rfl ((c15 _ M11 hp8).frame g24) ?_
  rintro _ Sx ⟨M12, ⟨v, rfl, hM12, hp9⟩, g24b, h1⟩
  rw [h1]; clear h1 Sx
  obtain ⟨p9v, q9v, r9v, s9v, t9v, u9v, rfl, hE9v, hW9v, hF9v⟩ := id hp9
  replace hS := hS.trans hM12
  replace hl := hl.less hM12
  replace hp8 := hp8.less hM12
  refine rC (Calm.move rfl) ?_
  refine rC (Calm.extract rfl rfl) ?_
  refine rC (Calm.extract rfl rfl) ?_
  refine ARun.alloc (lit_lt rfl) ty_zero_60 ?_
  intro b32 f32
  have g32 := f32
  repeat ((with_reducible replace g32 := fresh_set g32); obtain ⟨g32, _⟩ := g32)
  (try simp only [List.length_cons, List.length_nil, Nat.zero_add, Nat.reduceAdd])
  first | refine ARun.storeAll rfl rfl ty_size_60 own_ rfl rfl ?_ | refine ARun.store rfl rfl ty_size_60 own_ lens_ rfl ?_
  (try simp only [Mem.set_set, List.set_cons_zero, List.set_cons_succ, Nat.zero_add, Nat.reduceAdd])
  refine rC (Calm.assign rfl) ?_
  refine arun_nil ?_
  refine athen_n ?_
  refine AWP.sub [(0, _), (1, _), (2, _), (3, _), (4, _), (5, _), (6, _), (7, _), (8, _), (9, _), (10, _), (11, _), (12, _), (13, _), (14, _), (15, _), (18, _), (19, _), (20, _), (21, _), (22, _), (23, _), (24, _), (25, _), (26, _), (27, _), (28, _), (29, _), (30, _), (31, _), (33, _)] ⟨rfl, rfl, rfl, rfl, rfl, rfl, rfl, rfl, rfl, rfl, rfl, rfl, rfl, rfl, rfl, rfl, rfl, rfl, rfl, rfl, rfl, rfl, rfl, rfl, rfl, rfl, rfl, rfl, rfl, rfl, rfl, trivial⟩ ?_
  refine AWP.less (M12.set b24 _) (Mem.less_set _ _ _ f32.1) ?_
  have hlk : M12.Knows ⟨lb, lo + 0 * 1, none⟩ [.int .i64 1] := hl.at1 0 (by decide)
  refine AWP.seq ?_
  refine AWP.region ?_
  refine rC (Calm.move rfl) ?_
  refine rC (Calm.bin rfl rfl b_eql) ?_
  refine rC (Calm.move rfl) ?_
  first | refine rS 134 ?_ | refine rU 134 ?_ | refine rG 134 (Calm.move rfl) ?_
  first | refine rS 134 ?_ | refine rU 134 ?_ | refine rG 134 (Calm.bin rfl rfl b_eql) ?_
  refine rC ((by first | exact Calm.pickT rfl rfl | exact Calm.pickF rfl rfl)) ?_
  refine rC (Calm.move rfl) ?_
  first | refine rS 138 ?_ | refine rU 138 ?_ | refine rG 138 (Calm.move rfl) ?_
  first | refine rS 138 ?_ | refine rU 138 ?_ | refine rG 138 (Calm.bin rfl rfl b_eql) ?_
  refine rC ((by first | exact Calm.pickT rfl rfl | exact Calm.pickF rfl rfl)) ?_
  refine rC (Calm.move rfl) ?_
  first | refine rS 142 ?_ | refine rU 142 ?_ | refine rG 142 (Calm.move rfl) ?_
  first | refine rS 142 ?_ | refine rU 142 ?_ | refine rG 142 (Calm.bin rfl rfl b_eql) ?_
  refine rC ((by first | exact Calm.pickT rfl rfl | exact Calm.pickF rfl rfl)) ?_
  refine rC (Calm.move rfl) ?_
  first | refine rS 146 ?_ | refine rU 146 ?_ | refine rG 146 (Calm.move rfl) ?_
  first | refine rS 146 ?_ | refine rU 146 ?_ | refine rG 146 (Calm.bin rfl rfl b_eql) ?_
  refine rC ((by first | exact Calm.pickT rfl rfl | exact Calm.pickF rfl rfl)) ?_
  refine rC (Calm.move rfl) ?_
  first | refine rS 150 ?_ | refine rU 150 ?_ | refine rG 150 (Calm.move rfl) ?_
  first | refine rS 150 ?_ | refine rU 150 ?_ | refine rG 150 (Calm.bin rfl rfl b_eql) ?_
  refine rC ((by first | exact Calm.pickT rfl rfl | exact Calm.pickF rfl rfl)) ?_
  refine rC (Calm.move rfl) ?_
  first | refine rS 154 ?_ | refine rU 154 ?_ | refine rG 154 (Calm.move rfl) ?_
  first | refine rS 154 ?_ | refine rU 154 ?_ | refine rG 154 (Calm.lenStr (strT_spec ty_str_9) rfl) ?_
  first | refine rS 154 ?_ | refine rU 154 ?_ | refine rG 154 (Calm.bin rfl rfl (bin_bool (bin_eql _ _) (decide_eq_true (by rw [hx64]; rfl)))) ?_
  refine rC ((by first | exact Calm.pickT rfl rfl | exact Calm.pickF rfl rfl)) ?_
  refine rC (Calm.move rfl) ?_
  first | refine rS 159 ?_ | refine rU 159 ?_ | refine rG 159 (Calm.move rfl) ?_
  first | refine rS 159 ?_ | refine rU 159 ?_ | refine rG 159 (Calm.indexStrC (c := 120) (j := 1) hx1.symm (strT_spec ty_str_9) rfl rfl (by omega)) ?_
  first | refine rS 159 ?_ | refine rU 159 ?_ | refine rG 159 (Calm.bin rfl rfl (bin_bool (bin_eql _ _) (decide_eq_true rfl))) ?_
  refine rC ((by first | exact Calm.pickT rfl rfl | exact Calm.pickF rfl rfl)) ?_
  refine rC (Calm.move rfl) ?_
  first | refine rS 164 ?_ | refine rU 164 ?_ | refine rG 164 (Calm.move rfl) ?_
  first | refine rS 164 ?_ | refine rU 164 ?_ | refine rG 164 (Calm.bin rfl rfl b_eql) ?_
  refine rC ((by first | exact Calm.pickT rfl rfl | exact Calm.pickF rfl rfl)) ?_
  refine rC (Calm.move rfl) ?_
  first | refine rS 168 ?_ | refine rU 168 ?_ | refine rG 168 (Calm.move rfl) ?_
  first | refine rS 168 ?_ | refine rU 168 ?_ | refine rG 168 (Calm.bin rfl rfl b_eql) ?_
  refine rC ((by first | exact Calm.pickT rfl rfl | exact Calm.pickF rfl rfl)) ?_
  refine rC (Calm.move rfl) ?_
  first | refine rS 172 ?_ | refine rU 172 ?_ | refine rG 172 (Calm.move rfl) ?_
  first | refine rS 172 ?_ | refine rU 172 ?_ | refine rG 172 (Calm.lenSl Try.underlying67 rfl) ?_
  first | refine rS 172 ?_ | refine rU 172 ?_ | refine rG 172 (Calm.bin rfl rfl b_eql) ?_
  refine rC ((by first | exact Calm.pickT rfl rfl | exact Calm.pickF rfl rfl)) ?_
  refine rC (Calm.move rfl) ?_
  first | refine rS 177 ?_ | refine rU 177 ?_ | refine rG 177 (Calm.move rfl) ?_
  first | refine rS 177 ?_ | refine rU 177 ?_ | refine rG 177 (Calm.indexS Try.underlying67 ty_size_3 rfl rfl (by omega) (by omega)) ?_
  first | refine rS 177 ?_ | refine rU 177 ?_ | refine rG 177 (ld_ ty_plain_3 rfl) ?_
  first | refine rS 177 ?_ | refine rU 177 ?_ | refine rG 177 (Calm.bin rfl rfl b_eql) ?_
  refine rC ((by first | exact Calm.pickT rfl rfl | exact Calm.pickF rfl rfl)) ?_
  refine rC (Calm.move rfl) ?_
  first | refine rS 183 ?_ | refine rU 183 ?_ | refine rG 183 (Calm.move rfl) ?_
  first | refine rS 183 ?_ | refine rU 183 ?_ | refine rG 183 (Calm.bin rfl rfl b_eql) ?_
  refine rC ((by first | exact Calm.pickT rfl rfl | exact Calm.pickF rfl rfl)) ?_
  refine rC (Calm.move rfl) ?_
  first | refine rS 187 ?_ | refine rU 187 ?_ | refine rG 187 (Calm.move rfl) ?_
  first | refine rS 187 ?_ | refine rU 187 ?_ | refine rG 187 (Calm.bin rfl rfl b_eql) ?_
  refine rC ((by first | exact Calm.pickT rfl rfl | exact Calm.pickF rfl rfl)) ?_
  refine rC (Calm.move rfl) ?_
  first | refine rS 191 ?_ | refine rU 191 ?_ | refine rG 191 (Calm.move rfl) ?_
  first | refine rS 191 ?_ | refine rU 191 ?_ | refine rG 191 (Calm.bin rfl rfl b_eql) ?_
  refine rC ((by first | exact Calm.pickT rfl rfl | exact Calm.pickF rfl rfl)) ?_
  refine rC (Calm.move rfl) ?_
  first | refine rS 195 ?_ | refine rU 195 ?_ | refine rG 195 (Calm.move rfl) ?_
  first | refine rS 195 ?_ | refine rU 195 ?_ | refine rG 195 (Calm.bin rfl rfl b_eql) ?_
  refine rC ((by first | exact Calm.pickT rfl rfl | exact Calm.pickF rfl rfl)) ?_
  refine rC (Calm.move rfl) ?_
  first | refine rS 199 ?_ | refine rU 199 ?_ | refine rG 199 (Calm.move rfl) ?_
  first | refine rS 199 ?_ | refine rU 199 ?_ | refine rG 199 (Calm.bin rfl rfl b_eql) ?_
  refine rC ((by first | exact Calm.pickT rfl rfl | exact Calm.pickF rfl rfl)) ?_
  refine rC (Calm.move rfl) ?_
  first | refine rS 203 ?_ | refine rU 203 ?_ | refine rG 203 (Calm.move rfl) ?_
  first | refine rS 203 ?_ | refine rU 203 ?_ | refine rG 203 (Calm.bin rfl rfl b_eql) ?_
  refine rC ((by first | exact Calm.pickT rfl rfl | exact Calm.pickF rfl rfl)) ?_
  refine rC (Calm.move rfl) ?_
  first | refine rS 207 ?_ | refine rU 207 ?_ | refine rG 207 (Calm.move rfl) ?_
  first | refine rS 207 ?_ | refine rU 207 ?_ | refine rG 207 (Calm.bin rfl rfl b_eql) ?_
  refine rC ((by first | exact Calm.pickT rfl rfl | exact Calm.pickF rfl rfl)) ?_
  refine rC (Calm.move rfl) ?_
  first | refine rS 211 ?_ | refine rU 211 ?_ | refine rG 211 (Calm.move rfl) ?_
  first | refine rS 211 ?_ | refine rU 211 ?_ | refine rG 211 (Calm.move rfl) ?_
  first | refine rS 211 ?_ | refine rU 211 ?_ | refine rG 211 (Calm.bin rfl rfl (bin_bool (bin_str_eql _ _) (decide_eq_true rfl))) ?_
  refine rC ((by first | exact Calm.pickT rfl rfl | exact Calm.pickF rfl rfl)) ?_
  refine rC (Calm.move rfl) ?_
  first | refine rS 216 ?_ | refine rU 216 ?_ | refine rG 216 (Calm.move rfl) ?_
  first | refine rS 216 ?_ | refine rU 216 ?_ | refine rG 216 (Calm.bin rfl rfl b_eql) ?_
  refine rC ((by first | exact Calm.pickT rfl rfl | exact Calm.pickF rfl rfl)) ?_
  refine rC (Calm.move rfl) ?_
  first | refine rS 220 ?_ | refine rU 220 ?_ | refine rG 220 (Calm.move rfl) ?_
  first | refine rS 220 ?_ | refine rU 220 ?_ | refine rG 220 (Calm.bin rfl rfl b_eql) ?_
  refine rC ((by first | exact Calm.pickT rfl rfl | exact Calm.pickF rfl rfl)) ?_
  refine rC (Calm.move rfl) ?_
  first | refine rS 224 ?_ | refine rU 224 ?_ | refine rG 224 (Calm.move rfl) ?_
  first | refine rS 224 ?_ | refine rU 224 ?_ | refine rG 224 (Calm.move rfl) ?_
  first | refine rS 224 ?_ | refine rU 224 ?_ | refine rG 224 (Calm.bin rfl rfl (bin_bool (bin_str_eql _ _) (decide_eq_true rfl))) ?_
  refine rC ((by first | exact Calm.pickT rfl rfl | exact Calm.pickF rfl rfl)) ?_
  refine rC (Calm.move rfl) ?_
  first | refine rS 229 ?_ | refine rU 229 ?_ | refine rG 229 (Calm.move rfl) ?_
  first | refine rS 229 ?_ | refine rU 229 ?_ | refine rG 229 (Calm.bin rfl rfl b_eql) ?_
  refine rC ((by first | exact Calm.pickT rfl rfl | exact Calm.pickF rfl rfl)) ?_
  refine rC (Calm.move rfl) ?_
  first | refine rS 233 ?_ | refine rU 233 ?_ | refine rG 233 (Calm.move rfl) ?_
  first | refine rS 233 ?_ | refine rU 233 ?_ | refine rG 233 (Calm.bin rfl rfl b_eql) ?_
  refine rC ((by first | exact Calm.pickT rfl rfl | exact Calm.pickF rfl rfl)) ?_
  refine rC (Calm.move rfl) ?_
  first | refine rS 237 ?_ | refine rU 237 ?_ | refine rG 237 (Calm.move rfl) ?_
  first | refine rS 237 ?_ | refine rU 237 ?_ | refine rG 237 (Calm.bin rfl rfl b_eql) ?_
  refine rC ((by first | exact Calm.pickT rfl rfl | exact Calm.pickF rfl rfl)) ?_
  refine rC (Calm.move rfl) ?_
  first | refine rS 241 ?_ | refine rU 241 ?_ | refine rG 241 (Calm.move rfl) ?_
  first | refine rS 241 ?_ | refine rU 241 ?_ | refine rG 241 (Calm.bin rfl rfl b_eql) ?_
  refine rC ((by first | exact Calm.pickT rfl rfl | exact Calm.pickF rfl rfl)) ?_
  refine rC (Calm.move rfl) ?_
  first | refine rS 245 ?_ | refine rU 245 ?_ | refine rG 245 (Calm.move rfl) ?_
  first | refine rS 245 ?_ | refine rU 245 ?_ | refine rG 245 (Calm.bin rfl rfl b_eql) ?_
  refine rC ((by first | exact Calm.pickT rfl rfl | exact Calm.pickF rfl rfl)) ?_
  refine rC (Calm.move rfl) ?_
  first | refine rS 249 ?_ | refine rU 249 ?_ | refine rG 249 (Calm.move rfl) ?_
  first | refine rS 249 ?_ | refine rU 249 ?_ | refine rG 249 (Calm.bin rfl rfl b_eql) ?_
  refine rC ((by first | exact Calm.pickT rfl rfl | exact Calm.pickF rfl rfl)) ?_
  refine rC (Calm.move rfl) ?_
  first | refine rS 253 ?_ | refine rU 253 ?_ | refine rG 253 (ldA_ (cs := [_, _, _, _, _, _, _, _, _]) ty_agg_60 ty_size_60 rfl) ?_
  refine ARun.callG 121 true 253 rfl (lit_lt rfl) rfl (lit_lt rfl) go_77 rfl (c16 _ _ (hp8.less less_)) ?_
  rintro _ Sx ⟨rfl, h1⟩
  rw [h1]; clear h1 Sx
  first | refine rS 253 ?_ | refine rU 253 ?_ | refine rG 253 (Calm.bin rfl rfl b_eql) ?_
  refine rC ((by first | exact Calm.pickT rfl rfl | exact Calm.pickF rfl rfl)) ?_
  refine rC (Calm.assign rfl) ?_
  refine arun_nil ?_
  refine athen_n ?_
  refine AWP.sub [(0, _), (1, _), (2, _), (3, _), (4, _), (5, _), (6, _), (7, _), (8, _), (9, _), (10, _), (11, _), (12, _), (13, _), (14, _), (15, _), (18, _), (19, _), (20, _), (21, _), (22, _), (23, _), (24, _), (25, _), (26, _), (27, _), (28, _), (29, _), (30, _), (31, _), (33, _)] ⟨rfl, rfl, rfl, rfl, rfl, rfl, rfl, rfl, rfl, rfl, rfl, rfl, rfl, rfl, rfl, rfl, rfl, rfl, rfl, rfl, rfl, rfl, rfl, rfl, rfl, rfl, rfl, rfl, rfl, rfl, rfl, trivial⟩ ?_
  refine AWP.ret ?_
  refine ⟨_, S, ⟨_, _, rfl, rfl, rfl⟩, hS.trans less_, ?_⟩
  exact ⟨rfl, rfl⟩
end Go.Proofs.Ytkeiphkccnfhoaa
namespace Go.Proofs.Ytkeiphkccnfhoaa
open Go.RowKit
open Mv Disk
set_option linter.unusedVariables false
set_option linter.unusedSimpArgs false
set_option maxRecDepth 4000
theorem like_symm {x y : Fr} (h : like x y) : like y x := ⟨h.2.1, h.1, h.2.2.elim (fun h => .inl h.symm) (fun h => .inr ⟨h.1.symm, h.2.symm⟩)⟩
theorem pr_pair {p : Pl} (h : PRight p) {i j : Nat} (hi : i < p.fr.length) (hj : j < p.fr.length) (hne : i ≠ j) : ¬ like p.fr[i] p.fr[j] := by
  rcases Nat.lt_or_ge j i with hl | hl
  · exact (h.ok i hi).2 _ (List.mem_take_iff_getElem.2 ⟨j, by omega, rfl⟩)
  · intro hk
    exact (h.ok j hj).2 _ (List.mem_take_iff_getElem.2 ⟨i, by omega, rfl⟩) (like_symm hk)
theorem pr_mk {p : Pl} (hd : Right p.d) (h1 : 1 ≤ p.fr.length) (h2 : p.fr.length ≤ 256) (hs : ∀ i (h : i < p.fr.length), Sound p.d p.fr[i] p.tick) (hl : ∀ i j (hi : i < p.fr.length) (hj : j < p.fr.length), i ≠ j → ¬ like p.fr[i] p.fr[j]) : PRight p :=
  ⟨hd, h1, h2, fun i h => ⟨hs i h, fun y hy => by
    obtain ⟨j, hj, rfl⟩ := List.mem_take_iff_getElem.1 hy
    exact hl i j h (by omega) (by omega)⟩⟩
/-- A frame that holds nothing is put somewhere. -/
theorem pr_set {p : Pl} (h : PRight p) {i : Nat} (hi : i < p.fr.length) {z : Fr} (hz : ¬ z.holds) (hs : Sound p.d z p.tick) : PRight (setP p i z) := by
  unfold setP
  refine pr_mk h.dr (by simp only [List.length_set]; exact h.l1) (by simp only [List.length_set]; exact h.l2) (fun j hj => ?_) (fun a b ha hb hab => ?_)
  · simp only [List.length_set] at hj
    simp only [List.getElem_set]
    split
    · exact hs
    · exact (h.ok j hj).1
  · simp only [List.length_set] at ha hb
    simp only [List.getElem_set]
    split
    · exact fun q => hz q.1
    · split
      · exact fun q => hz q.2.1
      · exact pr_pair h ha hb hab
/-- What a write does to what is read. -/
theorem wr_read {d : D} {s data : ByteArray} {k : Int} (hR : Right d) (hdn : d.down = false) (hf : d.fuse ≤ 9223372036854775807) (h : (writeD d s k data).2 = 0) :
    Right (writeD d s k data).1 ∧ (writeD d s k data).1.down = false ∧ (writeD d s k data).1.fuse ≤ 9223372036854775807 ∧ data.size = 64 ∧ ∀ o a, readD (writeD d s k data).1 o a = if s = o ∧ k = a then (if (readD d o a).2 = 0 then (data, 0) else readD d o a) else readD d o a := by
  have ho := opened_ok hR hdn (writeD d s k data)
  obtain ⟨hR, hdn, hp, hs, hl, f0, h1, h2, he⟩ := write_ok hf (show (opened d (writeD d s k data)).2 = 0 by rw [ho]; exact h)
  rw [ho] at he
  rw [he]
  refine ⟨right_fuse (right_add hR hp hs hl) h1 _, hdn, h2, hs, fun o a => ?_⟩
  have hsee : seen { addW d (s, k, data) with fuse := f0 } o a = if s = o ∧ k = a then data else seen d o a := seen_add d s k data o a
  have hpe : placeD { addW d (s, k, data) with fuse := f0 } o a = placeD d o a := rfl
  rw [readD_see, hpe, hsee, readD_see]
  by_cases q2 : s = o ∧ k = a
  · by_cases q : (placeD d o a).2 = 0
    · simp [q, q2]
    · simp [q, q2]
  · by_cases q : (placeD d o a).2 = 0
    · simp [q, q2]
    · simp [q, q2]
theorem idle_alike {x : Fr} {d : D} {t : Int} (h : Sound d x t) (hi : x.idle) : pinnedB x = false ∧ leasedB x = false := by
  rcases hi with rfl | ⟨hh, hp⟩
  · exact ⟨rfl, rfl⟩
  · rcases h with ⟨hn, _⟩ | ⟨_, _, hl, _⟩
    · exact absurd hh hn
    · exact ⟨by unfold pinnedB; rw [hl, hp]; rfl, by unfold leasedB; exact hl⟩
theorem best_idle (fr : List Fr) : ∀ i, i ≤ fr.length → 0 ≤ bestF fr i → (fr.getD (bestF fr i).toNat F0).idle ∧ (bestF fr i).toNat < fr.length
  | 0, _, h => by unfold bestF at h; omega
  | i + 1, hi, h => by
    have ih := best_idle fr i (by omega)
    unfold bestF at h ⊢
    split
    · rename_i q; rw [Int.toNat_natCast]; exact ⟨q.1, by omega⟩
    · rename_i q; rw [if_neg q] at h; exact ih h
/-- A frame that is taken, of a right pool with power. -/
theorem take_ok {p : Pl} (h : PRight p) (hdn : p.d.down = false) (hf : p.d.fuse ≤ 9223372036854775807) (h0 : (takeP p).2.2 = 0) :
    ∃ (hi : (takeP p).2.1 < p.fr.length), p.fr[(takeP p).2.1].idle ∧ (takeP p).1.fr = p.fr.set (takeP p).2.1 F0 ∧ (takeP p).1.tick = p.tick ∧ (takeP p).1.reads = p.reads ∧ PRight (takeP p).1 ∧ (takeP p).1.d.down = false ∧ (takeP p).1.d.fuse ≤ 9223372036854775807 ∧
      ∀ o a, (readD (takeP p).1.d o a = readD p.d o a) ∨ (p.fr[(takeP p).2.1].name = o ∧ p.fr[(takeP p).2.1].sector = a) := by
  have hb := bestF_le p.fr p.fr.length
  have hbi := best_idle p.fr p.fr.length (Nat.le_refl _)
  unfold takeP at h0 ⊢
  by_cases q1 : p.fr.findIdx (fun x => decide (x = F0)) < p.fr.length
  · rw [if_pos q1]
    have he := List.findIdx_getElem (w := q1)
    simp only [decide_eq_true_eq] at he
    refine ⟨q1, .inl he, ?_, rfl, rfl, h, hdn, hf, fun o a => .inl rfl⟩
    have hs := List.set_getElem_self q1
    rw [he] at hs
    exact hs.symm
  · rw [if_neg q1] at h0 ⊢
    by_cases q2 : bestF p.fr p.fr.length < 0
    · rw [if_pos q2] at h0; simp at h0
    · rw [if_neg q2] at h0 ⊢
      obtain ⟨hid, hlt⟩ := hbi (by omega)
      rw [getD_at hlt] at hid
      by_cases q3 : (atF p (bestF p.fr p.fr.length).toNat).dirty = true
      · rw [if_pos q3] at h0 ⊢
        generalize hm : (bestF p.fr p.fr.length).toNat = m at *
        by_cases q4 : (wrP p m).2 = 0
        · rw [if_pos q4] at h0 ⊢
          have hwr := wr_read h.dr hdn hf (show (writeD p.d (atF p m).name (atF p m).sector (atF p m).data).2 = 0 from q4)
          obtain ⟨hR, hd2, hf2, hs64, hrd⟩ := hwr
          have hfr : (wrP p m).1.fr = p.fr.set m { atF p m with dirty := false } := by unfold wrP; simp only; rw [if_pos (show (writeD p.d (atF p m).name (atF p m).sector (atF p m).data).2 = 0 from q4)]
          have hsf : (setP (wrP p m).1 m F0).fr = p.fr.set m F0 := by unfold setP; simp only [hfr, List.set_set]
          refine ⟨hlt, hid, hsf, rfl, rfl, ?_, hd2, hf2, fun o a => ?_⟩
          · refine pr_mk hR (by rw [hsf, List.length_set]; exact h.l1) (by rw [hsf, List.length_set]; exact h.l2) (fun j hj => ?_) (fun a b ha hb hab => ?_)
            · have hj' : j < p.fr.length := by rw [hsf, List.length_set] at hj; exact hj
              have e : (setP (wrP p m).1 m F0).fr[j] = (p.fr.set m F0)[j]'(by rw [List.length_set]; exact hj') := by simp only [hsf]
              rw [e, List.getElem_set]
              split
              · exact sound0 _ _
              · rename_i hne
                rcases (h.ok j hj').1 with hh | ⟨hh, hr, hrest⟩
                · exact .inl hh
                · have hnl := pr_pair h hlt hj' hne
                  have hrj : readD (writeD p.d (atF p m).name (atF p m).sector (atF p m).data).1 p.fr[j].name p.fr[j].sector = readD p.d p.fr[j].name p.fr[j].sector := by
                    rw [hrd]
                    by_cases hs : (atF p m).name = p.fr[j].name ∧ (atF p m).sector = p.fr[j].sector
                    · exfalso
                      rw [atF_eq hlt] at hs
                      rcases hid with hid | hid
                      · rw [hid] at hs
                        exact hh (by rw [← hs.1]; rfl)
                      · exact hnl ⟨hid.1, hh, .inr hs⟩
                    · rw [if_neg hs]
                  refine .inr ⟨hh, ?_, ?_⟩
                  · show (readD (writeD p.d (atF p m).name (atF p m).sector (atF p m).data).1 p.fr[j].name p.fr[j].sector).2 = 0
                    rw [hrj]; exact hr
                  · show _ ∧ _ ∧ _ ∧ _ ∧ _ ∧ _ ∧ (_ ∨ p.fr[j].data = (readD (writeD p.d (atF p m).name (atF p m).sector (atF p m).data).1 p.fr[j].name p.fr[j].sector).1)
                    rw [hrj]; exact hrest
            · have ha' : a < p.fr.length := by rw [hsf, List.length_set] at ha; exact ha
              have hb' : b < p.fr.length := by rw [hsf, List.length_set] at hb; exact hb
              have ea : (setP (wrP p m).1 m F0).fr[a] = (p.fr.set m F0)[a]'(by rw [List.length_set]; exact ha') := by simp only [hsf]
              have eb : (setP (wrP p m).1 m F0).fr[b] = (p.fr.set m F0)[b]'(by rw [List.length_set]; exact hb') := by simp only [hsf]
              rw [ea, eb, List.getElem_set, List.getElem_set]
              split
              · exact fun q => nholds0 q.1
              · split
                · exact fun q => nholds0 q.2.1
                · exact pr_pair h ha' hb' hab
          · show readD (writeD p.d (atF p m).name (atF p m).sector (atF p m).data).1 o a = _ ∨ _
            rw [hrd]
            by_cases hs : (atF p m).name = o ∧ (atF p m).sector = a
            · right; rw [atF_eq hlt] at hs; exact hs
            · left; rw [if_neg hs]
        · rw [if_neg q4] at h0; exact absurd h0 q4
      · rw [if_neg q3]
        generalize hm : (bestF p.fr p.fr.length).toNat = m at *
        refine ⟨hlt, hid, rfl, rfl, rfl, pr_set h hlt nholds0 (sound0 _ _), hdn, hf, fun o a => .inl rfl⟩
theorem countP_set' {q : Fr → Bool} : ∀ (l : List Fr) (i : Nat) (h : i < l.length) (z : Fr), (l.set i z).countP q + (if q l[i] = true then 1 else 0) = l.countP q + (if q z = true then 1 else 0)
  | x :: l, 0, h, z => by simp only [List.set_cons_zero, List.countP_cons, List.getElem_cons_zero]; omega
  | x :: l, i + 1, h, z => by
    have := countP_set' (q := q) l i (by simpa using h) z
    simp only [List.set_cons_succ, List.countP_cons, List.getElem_cons_succ]
    omega
def ints (l : List Nat) : List Int := l.map fun i : Nat => (i : Int)
/-- What frames that are leased are, one behind the other. -/
theorem lease_ok : ∀ (n : Nat) (p : Pl) (l0 : List Int), PRight p → p.d.down = false → p.d.fuse ≤ 9223372036854775807 → (leaseN n p l0).2.2 = 0 →
    ∃ is : List Nat, (leaseN n p l0).2.1 = l0 ++ ints is ∧ is.length = n ∧ is.Nodup ∧ (leaseN n p l0).1.fr.length = p.fr.length ∧ (∀ i ∈ is, ∃ h : i < p.fr.length, p.fr[i].idle ∧ (leaseN n p l0).1.fr.getD i F0 = F1) ∧ (∀ j, j ∉ is → (leaseN n p l0).1.fr.getD j F0 = p.fr.getD j F0) ∧
      PRight (leaseN n p l0).1 ∧ (leaseN n p l0).1.d.down = false ∧ (leaseN n p l0).1.d.fuse ≤ 9223372036854775807 ∧ (leaseN n p l0).1.fr.countP pinnedB = p.fr.countP pinnedB ∧ (leaseN n p l0).1.fr.countP leasedB = p.fr.countP leasedB + n
  | 0, p, l0, h, hd, hf, _ => ⟨[], by simp [leaseN, ints], rfl, List.nodup_nil, rfl, fun i hi => (by cases hi), fun j _ => rfl, h, hd, hf, rfl, rfl⟩
  | n + 1, p, l0, h, hd, hf, h0 => by
    unfold leaseN at h0 ⊢
    by_cases q : (takeP p).2.2 = 0
    · rw [if_pos q] at h0 ⊢
      obtain ⟨hi, hid, hfr, _, _, hR, hd2, hf2, _⟩ := take_ok h hd hf q
      generalize takeP p = u at *
      obtain ⟨u, i, e⟩ := u
      simp only at *
      have hsf : (setP u i F1).fr = p.fr.set i F1 := by unfold setP; simp only [hfr, List.set_set]
      have hil : i < u.fr.length := by rw [hfr, List.length_set]; exact hi
      have hR1 : PRight (setP u i F1) := pr_set hR hil nholds1 (sound1 _ _)
      obtain ⟨is, e1, e2, e3, e4, e5, e6, e7, e8, e9, e10, e11⟩ := lease_ok n (setP u i F1) (l0 ++ [(i : Int)]) hR1 hd2 hf2 h0
      generalize leaseN n (setP u i F1) (l0 ++ [(i : Int)]) = w at *
      have hni : i ∉ is := fun hm => by
        obtain ⟨h', hx, _⟩ := e5 i hm
        have : (setP u i F1).fr[i] = F1 := by simp only [hsf, List.getElem_set_self]
        rw [this] at hx
        exact idle1 hx
      obtain ⟨b1, b2⟩ := idle_alike (h.ok i hi).1 hid
      have c1 := countP_set' (q := pinnedB) p.fr i hi F1
      have c2 := countP_set' (q := leasedB) p.fr i hi F1
      rw [b1] at c1; rw [b2] at c2
      simp only [show pinnedB F1 = false from rfl, show leasedB F1 = true from rfl, Bool.false_eq_true, if_false, if_true] at c1 c2
      refine ⟨i :: is, by rw [e1]; simp [ints], by simp [e2], List.nodup_cons.2 ⟨hni, e3⟩, by rw [e4, hsf, List.length_set], fun j hj => ?_, fun j hj => ?_, e7, e8, e9, by rw [e10, hsf]; omega, by rw [e11, hsf]; omega⟩
      · rcases List.mem_cons.1 hj with rfl | hj
        · exact ⟨hi, hid, by rw [e6 _ hni, hsf]; simp [List.getD, List.getElem?_set, hi]⟩
        · obtain ⟨h', hx, hy⟩ := e5 j hj
          have hji : i ≠ j := fun e => hni (e ▸ hj)
          have hjl : j < p.fr.length := by rw [hsf, List.length_set] at h'; exact h'
          have : (setP u i F1).fr[j] = p.fr[j] := by simp only [hsf, List.getElem_set_ne hji]
          rw [this] at hx
          exact ⟨hjl, hx, hy⟩
      · have hji : i ≠ j := fun e => hj (by simp [e])
        rw [e6 j (fun hm => hj (List.mem_cons_of_mem _ hm)), hsf]
        simp [List.getD, List.getElem?_set, hji]
    · rw [if_neg q] at h0; exact absurd h0 q
/-- Leased frames that are returned. -/
theorem ret_ok (q0 : Pl) : ∀ (is : List Nat) (q : Pl), PRight q → is.Nodup → (∀ i ∈ is, i < q.fr.length ∧ q.fr.getD i F0 = F1) →
    (eachP ret1 q0 q (ints is)).2 = 0 ∧ PRight (eachP ret1 q0 q (ints is)).1 ∧ (eachP ret1 q0 q (ints is)).1.d = q.d ∧ (eachP ret1 q0 q (ints is)).1.fr.length = q.fr.length ∧ (∀ i ∈ is, (eachP ret1 q0 q (ints is)).1.fr.getD i F1 = F0) ∧
      (∀ j, j ∉ is → (eachP ret1 q0 q (ints is)).1.fr.getD j F1 = q.fr.getD j F1) ∧ (eachP ret1 q0 q (ints is)).1.fr.countP leasedB + is.length = q.fr.countP leasedB
  | [], q, h, _, _ => ⟨rfl, h, rfl, rfl, fun i hi => (by cases hi), fun j _ => rfl, rfl⟩
  | i :: is, q, h, hn, hf => by
    obtain ⟨hni, hn'⟩ := List.nodup_cons.1 hn
    obtain ⟨hi, hfi⟩ := hf i (by simp)
    have hat : atF q i = F1 := hfi
    have hr : ret1 q (i : Int) = (setP q i F0, 0) := by
      unfold ret1
      rw [if_neg (by omega), Int.toNat_natCast, hat, if_neg (show ¬ F1.leased = false from fun h => by cases h)]
    have hR := pr_set h hi nholds0 (sound0 _ _)
    have hlen : (setP q i F0).fr.length = q.fr.length := by unfold setP; simp
    obtain ⟨g1, g2, g3, g4, g5, g6, g7⟩ := ret_ok q0 is (setP q i F0) hR hn' (fun j hj => by
      obtain ⟨h1, h2⟩ := hf j (List.mem_cons_of_mem _ hj)
      have hji : i ≠ j := fun e => hni (e ▸ hj)
      exact ⟨by rw [hlen]; exact h1, by unfold setP; rw [← h2]; simp [List.getD, List.getElem?_set, hji]⟩)
    have he : eachP ret1 q0 q (ints (i :: is)) = eachP ret1 q0 (setP q i F0) (ints is) := by
      show eachP ret1 q0 q ((i : Int) :: ints is) = _; rw [eachP, hr, if_pos rfl]
    rw [he]
    have hqi : q.fr[i] = F1 := by rw [← getD_at hi]; exact hfi
    have c2 := countP_set' (q := leasedB) q.fr i hi F0
    rw [hqi] at c2
    simp only [show leasedB F1 = true from rfl, show leasedB F0 = false from rfl, Bool.false_eq_true, if_false, if_true] at c2
    refine ⟨g1, g2, by rw [g3]; rfl, by rw [g4, hlen], fun j hj => ?_, fun j hj => ?_, ?_⟩
    · rcases List.mem_cons.1 hj with rfl | hj
      · rw [g6 _ hni]; unfold setP; simp [List.getD, List.getElem?_set, hi]
      · exact g5 j hj
    · have hji : i ≠ j := fun e => hj (by simp [e])
      rw [g6 j (fun hm => hj (List.mem_cons_of_mem _ hm))]; unfold setP; simp [List.getD, List.getElem?_set, hji]
    · have e : (setP q i F0).fr = q.fr.set i F0 := rfl
      rw [e] at g7
      simp only [List.length_cons]; omega
/-- Pinned and leased ones are no more than there are. -/
theorem count_two (l : List Fr) : l.countP pinnedB + l.countP leasedB ≤ l.length := by
  induction l with
  | nil => simp
  | cons x l ih =>
    simp only [List.countP_cons, List.length_cons]
    have : (if pinnedB x = true then 1 else 0) + (if leasedB x = true then 1 else 0) ≤ 1 := by
      unfold pinnedB leasedB
      cases x.leased <;> simp <;> split <;> omega
    omega
end Go.Proofs.Ytkeiphkccnfhoaa
namespace Go.Proofs.Ytkeiphkccnfhoaa
open Go.RowKit
open Mv Disk
set_option linter.unusedVariables false
set_option maxRecDepth 20000
theorem opens_Ext : OpensF Try.prog 54 2 extF (fun y => y.1.size ≤ 140737488351232 ∧ y.2.size ≤ 140737488351232) :=
  OpensFL.struct Try.underlying54 (by kernel_rfl) (OpensFL.cons (opensF_string Try.underlying9 (by kernel_rfl)) rfl (OpensFL.one (opensF_string Try.underlying9 (by kernel_rfl)) rfl))
theorem opens_Wr : OpensF Try.prog 51 3 wrF (fun y => y.1.size ≤ 140737488351232 ∧ (Lit.int .i64 y.2.1).wf = true ∧ y.2.2.size ≤ 140737488351232) :=
  OpensFL.struct (n := 1 + (1 + 1)) Try.underlying51 (by kernel_rfl) (OpensFL.cons (opensF_string Try.underlying9 (by kernel_rfl)) rfl (OpensFL.cons (opensF_int Try.underlying3 (by kernel_rfl)) rfl (OpensFL.one (opensF_string Try.underlying9 (by kernel_rfl)) rfl)))
/-- A disk that comes in. -/
def DkV (S : Mem) (cs : List Value) (d : D) : Prop := DkR S (.agg cs.toArray) d ∧ Dz d
theorem wfi {n : Int} (h : (Lit.int .i64 n).wf = true) : -9223372036854775808 ≤ n ∧ n ≤ 9223372036854775807 := by simp [Lit.wf, IntKind.min, IntKind.max, IntKind.signed, IntKind.bits] at h; omega
theorem opens_DkV : Opens Try.prog 25 5 DkV :=
  (OpensL.struct (n := 1 + (1 + (1 + (1 + 1)))) Try.underlying25 (by kernel_rfl) (OpensL.cons (opensF_int Try.underlying3 (by kernel_rfl)).opens rfl
    (OpensL.cons (opens_slice Try.underlying22 (by kernel_rfl) (b := 32) (by kernel_rfl) opens_Ext) rfl
    (OpensL.cons (opens_slice Try.underlying23 (by kernel_rfl) (b := 40) (by kernel_rfl) opens_Wr) rfl
    (OpensL.cons (opensF_int Try.underlying3 (by kernel_rfl)).opens rfl
    (OpensL.one (opensF_bool Try.underlying4 (by kernel_rfl)).opens rfl)))))).mono
    fun S cs y ⟨c0, c1, e, ⟨e0, g0⟩, c2, c3, e1, ⟨v1, e2, s1, p1, l1⟩, c4, c5, e3, ⟨v2, e4, s2, p2, l2⟩, c6, c7, e5, ⟨e6, g6⟩, e7, _⟩ => by
      subst e e0 e1 e2 e3 e4 e5 e6 e7
      obtain ⟨a1, k1, rfl, _⟩ := id s1
      obtain ⟨a2, k2, rfl, _⟩ := id s2
      refine ⟨⟨y.1, y.2.1, y.2.2.1, y.2.2.2.1, y.2.2.2.2⟩, ⟨a1, k1, a2, k2, rfl, s1, s2⟩, (wfi g0).1, (wfi g0).2, (wfi g6).1, (wfi g6).2, by simp only; omega, by simp only; omega, fun x hx => p1 x hx, fun w hw => ?_⟩
      obtain ⟨h1, h2, h3⟩ := p2 w hw
      exact ⟨h1, (wfi h2).1, (wfi h2).2, h3⟩

end Go.Proofs.Ytkeiphkccnfhoaa
namespace Go.Proofs.Ytkeiphkccnfhoaa
open Go.RowKit
open Mv Disk
set_option linter.unusedVariables false
set_option maxRecDepth 20000
theorem Mv.OpensF.to {P : Program} {t : TypeId} {α β : Type} {n : Nat} {f : α → List Value} {G : α → Prop} (h : OpensF P t n f G) (g : α → β) (f' : β → List Value) (G' : β → Prop) (hf : ∀ y, f' (g y) = f y) (hl : ∀ z, (f' z).length = n) (hG : ∀ y, G y → G' (g y)) : OpensF P t n f' G' :=
  ⟨h.1, h.2.1, ⟨g (Classical.choice h.2.2.1)⟩, hl, fun H enc W base held fuel cs x hx => by
    obtain ⟨y, e, k⟩ := h.2.2.2.2 H enc W base held fuel cs x hx
    exact ⟨g y, by rw [hf]; exact e, fun hs => hG _ (k hs)⟩⟩
theorem opens_Fr : OpensF Try.prog 110 7 frF (fun _ => True) :=
  (OpensFL.struct (n := 1 + (1 + (1 + (1 + (1 + (1 + 1)))))) Try.underlying110 (by kernel_rfl) (OpensFL.cons (opensF_string Try.underlying9 (by kernel_rfl)) rfl (OpensFL.cons (opensF_int Try.underlying3 (by kernel_rfl)) rfl (OpensFL.cons (opensF_string Try.underlying9 (by kernel_rfl)) rfl (OpensFL.cons (opensF_int Try.underlying3 (by kernel_rfl)) rfl (OpensFL.cons (opensF_bool Try.underlying4 (by kernel_rfl)) rfl (OpensFL.cons (opensF_int Try.underlying58 (by kernel_rfl)) rfl (OpensFL.one (opensF_bool Try.underlying4 (by kernel_rfl)) rfl)))))))).to
    (fun y => (⟨y.1, y.2.1, y.2.2.1, y.2.2.2.1, y.2.2.2.2.1, y.2.2.2.2.2.1, y.2.2.2.2.2.2⟩ : Fr)) frF (fun _ => True) (fun _ => rfl) (fun _ => rfl) (fun _ _ => trivial)
/-- A pool that comes in. -/
def PlV (S : Mem) (cs : List Value) (p : Pl) : Prop := PlR S (.agg cs.toArray) p ∧ Dz p.d ∧ p.fr.length * 72 ≤ 140737488351232
theorem opens_PlV : Opens Try.prog 60 9 PlV :=
  (OpensL.struct (n := 5 + (1 + (1 + (1 + 1)))) Try.underlying60 (by kernel_rfl) (OpensL.cons opens_DkV rfl
    (OpensL.cons (opens_slice Try.underlying57 (by kernel_rfl) (b := 72) (by kernel_rfl) opens_Fr) rfl
    (OpensL.cons (opensF_int Try.underlying58 (by kernel_rfl)).opens rfl
    (OpensL.cons (opensF_int Try.underlying58 (by kernel_rfl)).opens rfl
    (OpensL.one (opensF_int Try.underlying58 (by kernel_rfl)).opens rfl)))))).mono
    fun S cs y ⟨c0, c1, e, ⟨⟨pe, ce, pw, cw, e0, hE, hW⟩, hz⟩, c2, c3, e1, ⟨v1, e2, s1, _, l1⟩, c4, c5, e3, ⟨e4, _⟩, c6, c7, e5, ⟨e6, _⟩, e7, _⟩ => by
      obtain ⟨a1, k1, rfl, _⟩ := id s1
      have e0' : c0 = [.int .i64 y.1.size, .slice pe y.1.ext.length ce, .slice pw y.1.waits.length cw, .int .i64 y.1.fuse, .bool y.1.down] := by
        have := congrArg (fun v => match v with | .agg a => a.toList | _ => []) e0
        simpa using this
      subst e e0' e1 e2 e3 e4 e5 e6 e7
      exact ⟨⟨y.1, y.2.1, y.2.2.1, y.2.2.2.1, y.2.2.2.2⟩, ⟨pe, ce, pw, cw, a1, k1, rfl, hE, hW, s1⟩, hz, l1⟩
end Go.Proofs.Ytkeiphkccnfhoaa
namespace Go.Proofs.Ytkeiphkccnfhoaa
open Go.RowKit
open Mv Disk
set_option linter.unusedVariables false
set_option linter.unusedSimpArgs false
set_option maxRecDepth 20000
theorem leaseN_err : ∀ (n : Nat) (p : Pl) (l : List Int), (leaseN n p l).2.2 ≠ 0 → (leaseN n p l).2.1 = []
  | 0, p, l, h => absurd rfl h
  | n + 1, p, l, h => by
    unfold leaseN at h ⊢
    split
    · rename_i e; rw [if_pos e] at h; exact leaseN_err n _ _ h
    · rfl
theorem leaseP_err {p : Pl} {n : Int} (h : (leaseP p n).2.2 ≠ 0) : (leaseP p n).2.1 = [] := by
  unfold leaseP at h ⊢
  split
  · rfl
  · split
    · rfl
    · rename_i h1 h2; rw [if_neg h1, if_neg h2] at h; exact leaseN_err _ _ _ h
theorem counts_ok {p : Pl} (h : PRight p) : countsP p = (((p.fr.countP heldB : Nat) : Int), ((p.fr.countP pinnedB : Nat) : Int), ((p.fr.countP leasedB : Nat) : Int), (0 : Int)) := by unfold countsP; rw [if_pos (chkP_yes h)]
theorem counts_no {p : Pl} (h : ¬ PRight p) : countsP p = (0, 0, 0, 2) := by unfold countsP; rw [if_neg (by rw [chkP_no h]; decide)]
/-- What the law says, in plain words. -/
theorem leased_plain (p : Pl) (n : Int) (hz : Dz p.d) :
    (((countsP p).2.2.2 ≠ 0 ∨ (openedL p (leaseP p n)).2.2 ≠ 0) ∧ (openedL p (leaseP p n)).2.1 = [] ∧ 0 ≤ (countsP p).2.1 ∧ 0 ≤ (countsP p).2.2.1 ∧ (countsP p).2.1 ≤ 256 ∧ (countsP p).2.2.1 ≤ 256 ∧ (countsP p).2.1 + (countsP p).2.2.1 ≤ p.fr.length) ∨
    (∃ a b c a', countsP p = (a, b, c, 0) ∧ 0 ≤ b ∧ 0 ≤ c ∧ 0 ≤ n ∧ b ≤ 256 ∧ c + n ≤ 256 ∧ ∃ u l, openedL p (leaseP p n) = (u, l, 0) ∧ (l.length : Int) = n ∧ Dz u.d ∧ countsP u = (a', b, c + n, 0) ∧ b + (c + n) ≤ u.fr.length ∧ ∃ r a'' b'', openedP u (eachP ret1 u u l) = (r, 0) ∧ Dz r.d ∧ countsP r = (a'', b'', c, 0) ∧ ∃ w er, openedP r (eachP ret1 r r l) = (w, er) ∧ (n = 0 ∨ er = 11)) := by
  by_cases hR : PRight p
  · rw [counts_ok hR]
    have h2 := count_two p.fr
    have hl2 := hR.l2
    cases hd : p.d.down
    · have hop : openP p = (p, 0) := openP_ok hR hd
      unfold openedL
      rw [hop, if_pos rfl]
      by_cases h0 : (leaseP p n).2.2 = 0
      · right
        have hnn : 0 ≤ n ∧ leaseP p n = leaseN n.toNat p [] := by
          unfold leaseP at h0 ⊢
          split
          · rename_i e; rw [if_pos e] at h0; simp at h0
          · rename_i e
            split
            · rename_i e2; rw [if_neg e, if_pos e2] at h0; simp at h0
            · exact ⟨by omega, rfl⟩
        obtain ⟨hn0, he⟩ := hnn
        rw [he] at h0 ⊢
        obtain ⟨is, e1, e2, e3, e4, e5, e6, e7, e8, e9, e10, e11⟩ := lease_ok n.toNat p [] hR hd hz.f1 h0
        rcases hx : leaseN n.toNat p [] with ⟨u, l, w⟩
        rw [hx] at h0 e1 e4 e5 e6 e7 e8 e9 e10 e11
        simp only [List.nil_append] at h0 e1 e4 e5 e6 e7 e8 e9 e10 e11
        subst h0 e1
        have hu2 := count_two u.fr
        have hul := e7.l2
        obtain ⟨g1, g2, g3, g4, g5, g6, g7⟩ := ret_ok u is u e7 e3 (fun i hi => by
          obtain ⟨h', _, hy⟩ := e5 i hi
          exact ⟨by rw [e4]; exact h', hy⟩)
        have hru := openedP_ok e7 e8 (eachP ret1 u u (ints is))
        rcases hy : eachP ret1 u u (ints is) with ⟨r, w2⟩
        rw [hy] at g1 g2 g3 g4 g5 g6 g7
        simp only at g1 g2 g3 g4 g5 g6 g7
        subst g1
        have hrd : r.d.down = false := by rw [g3]; exact e8
        refine ⟨_, _, _, ((u.fr.countP heldB : Nat) : Int), rfl, Int.natCast_nonneg _, Int.natCast_nonneg _, hn0, by omega, by omega, u, ints is, rfl, by unfold ints; rw [List.length_map, e2]; omega, dz_right e7.dr e9, ?_, by omega, r, ((r.fr.countP heldB : Nat) : Int), ((r.fr.countP pinnedB : Nat) : Int), hru.trans hy, dz_right g2.dr (by rw [g3]; exact e9), ?_, (openedP r (eachP ret1 r r (ints is))).1, (openedP r (eachP ret1 r r (ints is))).2, rfl, ?_⟩
        · rw [counts_ok e7, e10, e11]; simp only [Prod.mk.injEq, true_and, and_true]; omega
        · rw [counts_ok g2]; simp only [Prod.mk.injEq, true_and, and_true]; omega
        · rw [openedP_ok g2 hrd]
          cases is with
          | nil => left; simp at e2; omega
          | cons i is =>
            right
            have hi := (e5 i (by simp)).1
            have hil : i < r.fr.length := by rw [g4, e4]; exact hi
            have hat : atF r i = F0 := by
              have := g5 i (by simp)
              unfold atF
              rw [List.getD, List.getElem?_eq_getElem hil] at this ⊢
              exact this
            have hr1 : ret1 r (i : Int) = (r, 11) := by
              unfold ret1
              rw [if_neg (by omega), Int.toNat_natCast, hat, if_pos (show F0.leased = false from rfl)]
            show (eachP ret1 r r ((i : Int) :: ints is)).2 = 11
            rw [eachP, hr1, if_neg (show ¬ (11 : Int) = 0 by decide)]
      · left
        refine ⟨.inr h0, leaseP_err h0, Int.natCast_nonneg _, Int.natCast_nonneg _, ?_, ?_, ?_⟩ <;> simp only <;> omega
    · left
      have hop : openP p = (p, 10) := by unfold openP; rw [if_pos (chkP_yes hR), if_pos hd]
      unfold openedL
      rw [hop, if_neg (show ¬ (10 : Int) = 0 by decide)]
      refine ⟨.inr (show (10 : Int) ≠ 0 by decide), rfl, Int.natCast_nonneg _, Int.natCast_nonneg _, ?_, ?_, ?_⟩ <;> simp only <;> omega
  · left
    rw [counts_no hR]
    have hop : openP p = (P0, 2) := by unfold openP; rw [if_neg (by rw [chkP_no hR]; decide)]
    unfold openedL
    rw [hop, if_neg (show ¬ (2 : Int) = 0 by decide)]
    refine ⟨.inl (show (2 : Int) ≠ 0 by decide), rfl, ?_, ?_, ?_, ?_, ?_⟩ <;> simp only <;> omega
set_option maxHeartbeats 4000000 in
theorem law_PoolLeased (v : Value) (p : Pl) (n : Int) (S : Mem) (hp : PlR S v p) (hz : Dz p.d) : ACall Try.prog 11 #[v, .int .i64 n] S fun r S' => r = .bool true := by
  have c1 := fun v M h => pl_Counts v p M h hz
  have c2 := fun v M h => pl_Lease v p n M h hz
  obtain ⟨pe, ce, pw, cw, pf, cf, rfl, hE, hW, hF⟩ := id hp
  rcases leased_plain p n hz with ⟨h0, hl, hb0, hc0, hb1, hc1, hbc⟩ | ⟨a, b, c, a', e1, hb0, hc0, hn0, hb1, hcn, u, l, e2, hln, hzu, e3, hle, r, a'', b'', e4, hzr, e5, w, er, e6, her⟩
  · generalize openedL p (leaseP p n) = u at *
    generalize countsP p = k at *
    obtain ⟨k1, k2, k3, k4⟩ := k
    simp only at h0 hl hb0 hc0 hb1 hc1 hbc
    obtain ⟨u1, ul, u2⟩ := u
    simp only at h0 hl
    subst hl
    refine ACall.enter (args := [.agg #[.int .i64 p.d.size, .slice pe p.d.ext.length ce, .slice pw p.d.waits.length cw, .int .i64 p.d.fuse, .bool p.d.down, .slice pf p.fr.length cf, .int .u64 p.tick, .int .u64 p.reads, .int .u64 p.writes], .int .i64 n]) (rs := [.tmp 4]) 134 [(0, .agg #[.int .i64 p.d.size, .slice pe p.d.ext.length ce, .slice pw p.d.waits.length cw, .int .i64 p.d.fuse, .bool p.d.down, .slice pf p.fr.length cf, .int .u64 p.tick, .int .u64 p.reads, .int .u64 p.writes]), (1, .int .i64 n)] Try.func11 rfl rfl (Nat.le_of_ble_eq_true rfl) rfl ⟨rfl, rfl, trivial⟩ ?_
    refine AWP.seq ?_
    refine AWP.region ?_
    refine ARun.boxA (cs := [_, _, _, _, _, _, _, _, _]) (lit_lt rfl) rfl ?_
    intro b2 f2
    have g2 := f2
    repeat ((with_reducible replace g2 := fresh_set g2); obtain ⟨g2, _⟩ := g2)
    (try simp only [List.length_cons, List.length_nil, Nat.zero_add, Nat.reduceAdd])
    refine rC (Calm.assign rfl) ?_
    refine arun_nil ?_
    refine athen_n ?_
    refine AWP.seq ?_
    refine AWP.seq ?_
    refine AWP.region ?_
    refine ARun.call (lit_lt rfl) go_39 rfl (pv_lives _) ?_
    rintro _ Sx ⟨rfl, h1⟩
    rw [h1]; clear h1 Sx
    refine rC (Calm.un rfl (una_not _)) ?_
    refine arun_nil ?_
    refine athen_n ?_
    refine AWP.sub [(0, _), (1, _), (2, _), (4, _), (25, _)] ⟨rfl, rfl, rfl, rfl, rfl, trivial⟩ ?_
    refine AWP.condF rfl (by first | rfl | (simp; done) | (simp; omega)) ?_
    refine AWP.skip ?_
    refine athen_n ?_
    refine AWP.seq ?_
    refine AWP.region ?_
    refine rC (ldA_ (cs := [_, _, _, _, _, _, _, _, _]) ty_agg_60 ty_size_60 rfl) ?_
    refine ARun.call (lit_lt rfl) go_41 rfl (c1 _ _ (hp.less less_)) ?_
    rintro _ Sx ⟨rfl, h1⟩
    rw [h1]; clear h1 Sx
    refine rC (Calm.move rfl) ?_
    refine rC (Calm.extract rfl rfl) ?_
    refine rC (Calm.extract rfl rfl) ?_
    refine rC (Calm.extract rfl rfl) ?_
    refine rC (Calm.extract rfl rfl) ?_
    refine rC (Calm.assign rfl) ?_
    refine rC (Calm.assign rfl) ?_
    refine rC (Calm.assign rfl) ?_
    refine rC (Calm.assign rfl) ?_
    refine arun_nil ?_
    refine athen_n ?_
    refine AWP.sub [(0, _), (1, _), (2, _), (4, _), (25, _), (6, _), (7, _), (8, _)] ⟨rfl, rfl, rfl, rfl, rfl, rfl, rfl, rfl, trivial⟩ ?_
    refine AWP.seq ?_
    refine AWP.region ?_
    refine rC (ldA_ (cs := [_, _, _, _, _, _, _, _, _]) ty_agg_60 ty_size_60 rfl) ?_
    refine rC (Calm.move rfl) ?_
    refine ARun.call (lit_lt rfl) go_42 rfl ((c2 _ S hp).frame f2) ?_
    rintro _ Sx ⟨M1, ⟨v, vl, rfl, hM1, hp1, hsl⟩, fa, h1⟩
    rw [h1]; clear h1 Sx
    obtain ⟨p1, q1, r1, s1, t1, u1', rfl, hE1, hW1, hF1⟩ := id hp1
    obtain ⟨la, lc, rfl, _⟩ := id hsl
    refine rC (Calm.move rfl) ?_
    refine rC (Calm.extract rfl rfl) ?_
    refine rC (Calm.extract rfl rfl) ?_
    refine rC (Calm.extract rfl rfl) ?_
    refine ARun.alloc (lit_lt rfl) ty_zero_60 ?_
    intro b9 f9
    have g9 := f9
    repeat ((with_reducible replace g9 := fresh_set g9); obtain ⟨g9, _⟩ := g9)
    (try simp only [List.length_cons, List.length_nil, Nat.zero_add, Nat.reduceAdd])
    first | refine ARun.storeAll rfl rfl ty_size_60 own_ rfl rfl ?_ | refine ARun.store rfl rfl ty_size_60 own_ lens_ rfl ?_
    (try simp only [Mem.set_set, List.set_cons_zero, List.set_cons_succ, Nat.zero_add, Nat.reduceAdd])
    refine rC (Calm.assign rfl) ?_
    refine rC (Calm.assign rfl) ?_
    refine arun_nil ?_
    refine athen_n ?_
    refine AWP.sub [(0, _), (1, _), (2, _), (4, _), (25, _), (6, _), (7, _), (8, _), (9, _), (10, _), (11, _)] ⟨rfl, rfl, rfl, rfl, rfl, rfl, rfl, rfl, rfl, rfl, rfl, trivial⟩ ?_
    by_cases q : k4 = 0
    · have q2 : u2 ≠ 0 := h0.resolve_left (fun h => h q)
      refine AWP.seq ?_
      refine AWP.seq ?_
      refine AWP.region ?_
      refine rC (Calm.move rfl) ?_
      refine rC (Calm.bin rfl rfl (bin_bool (bin_neq _ _) (bnot_dec_false q))) ?_
      refine rC (Calm.move rfl) ?_
      first | refine rS 42 ?_ | refine rU 42 ?_ | refine rG 42 (Calm.move rfl) ?_
      first | refine rS 42 ?_ | refine rU 42 ?_ | refine rG 42 (Calm.bin rfl rfl (bin_bool (bin_neq _ _) (bnot_dec_true q2))) ?_
      refine rC ((by first | exact Calm.pickT rfl rfl | exact Calm.pickF rfl rfl)) ?_
      refine arun_nil ?_
      refine athen_n ?_
      refine AWP.sub [(0, _), (1, _), (2, _), (4, _), (25, _), (6, _), (7, _), (8, _), (9, _), (10, _), (11, _), (45, _)] ⟨rfl, rfl, rfl, rfl, rfl, rfl, rfl, rfl, rfl, rfl, rfl, rfl, trivial⟩ ?_
      refine AWP.condT rfl (by first | rfl | (simp; done) | (simp; omega)) ?_
      refine AWP.seq ?_
      refine AWP.region ?_
      refine rC (Calm.move rfl) ?_
      refine rC (Calm.lenSl Try.underlying67 rfl) ?_
      refine rC (Calm.bin rfl rfl b_eql) ?_
      refine rC (Calm.move rfl) ?_
      first | refine rS 49 ?_ | refine rU 49 ?_ | refine rG 49 (Calm.move rfl) ?_
      first | refine rS 49 ?_ | refine rU 49 ?_ | refine rG 49 (Calm.move rfl) ?_
      first | refine rS 49 ?_ | refine rU 49 ?_ | refine rG 49 (Calm.bin rfl rfl b_add_i64) ?_
      first | refine rS 49 ?_ | refine rU 49 ?_ | refine rG 49 (Calm.fieldAddr ty_field_60_1 rfl) ?_
      first | refine rS 49 ?_ | refine rU 49 ?_ | refine rG 49 (ld_ ty_plain_57 rfl) ?_
      first | refine rS 49 ?_ | refine rU 49 ?_ | refine rG 49 (Calm.lenSl Try.underlying57 rfl) ?_
      first | refine rS 49 ?_ | refine rU 49 ?_ | refine rG 49 (Calm.bin rfl rfl (bin_bool (bin_leq _ _) (decide_eq_true hbc))) ?_
      refine rC ((by first | exact Calm.pickT rfl rfl | exact Calm.pickF rfl rfl)) ?_
      refine rC (Calm.assign rfl) ?_
      refine arun_nil ?_
      refine athen_n ?_
      refine AWP.sub [(0, _), (1, _), (2, _), (4, _), (25, _), (6, _), (7, _), (8, _), (9, _), (10, _), (11, _), (45, _)] ⟨rfl, rfl, rfl, rfl, rfl, rfl, rfl, rfl, rfl, rfl, rfl, rfl, trivial⟩ ?_
      refine AWP.ret ?_
      refine athen_ret ?_
      refine ⟨_, _, ⟨_, _, rfl, rfl, rfl⟩, less_, ?_⟩
      rfl
    · refine AWP.seq ?_
      refine AWP.seq ?_
      refine AWP.region ?_
      refine rC (Calm.move rfl) ?_
      refine rC (Calm.bin rfl rfl (bin_bool (bin_neq _ _) (bnot_dec_true q))) ?_
      refine rC (Calm.move rfl) ?_
      first | refine rS 42 ?_ | refine rU 42 ?_ | refine rG 42 (Calm.move rfl) ?_
      first | refine rS 42 ?_ | refine rU 42 ?_ | refine rG 42 (Calm.bin rfl rfl b_neq) ?_
      refine rC ((by first | exact Calm.pickT rfl rfl | exact Calm.pickF rfl rfl)) ?_
      refine arun_nil ?_
      refine athen_n ?_
      refine AWP.sub [(0, _), (1, _), (2, _), (4, _), (25, _), (6, _), (7, _), (8, _), (9, _), (10, _), (11, _), (45, _)] ⟨rfl, rfl, rfl, rfl, rfl, rfl, rfl, rfl, rfl, rfl, rfl, rfl, trivial⟩ ?_
      refine AWP.condT rfl (by first | rfl | (simp; done) | (simp; omega)) ?_
      refine AWP.seq ?_
      refine AWP.region ?_
      refine rC (Calm.move rfl) ?_
      refine rC (Calm.lenSl Try.underlying67 rfl) ?_
      refine rC (Calm.bin rfl rfl b_eql) ?_
      refine rC (Calm.move rfl) ?_
      first | refine rS 49 ?_ | refine rU 49 ?_ | refine rG 49 (Calm.move rfl) ?_
      first | refine rS 49 ?_ | refine rU 49 ?_ | refine rG 49 (Calm.move rfl) ?_
      first | refine rS 49 ?_ | refine rU 49 ?_ | refine rG 49 (Calm.bin rfl rfl b_add_i64) ?_
      first | refine rS 49 ?_ | refine rU 49 ?_ | refine rG 49 (Calm.fieldAddr ty_field_60_1 rfl) ?_
      first | refine rS 49 ?_ | refine rU 49 ?_ | refine rG 49 (ld_ ty_plain_57 rfl) ?_
      first | refine rS 49 ?_ | refine rU 49 ?_ | refine rG 49 (Calm.lenSl Try.underlying57 rfl) ?_
      first | refine rS 49 ?_ | refine rU 49 ?_ | refine rG 49 (Calm.bin rfl rfl (bin_bool (bin_leq _ _) (decide_eq_true hbc))) ?_
      refine rC ((by first | exact Calm.pickT rfl rfl | exact Calm.pickF rfl rfl)) ?_
      refine rC (Calm.assign rfl) ?_
      refine arun_nil ?_
      refine athen_n ?_
      refine AWP.sub [(0, _), (1, _), (2, _), (4, _), (25, _), (6, _), (7, _), (8, _), (9, _), (10, _), (11, _), (45, _)] ⟨rfl, rfl, rfl, rfl, rfl, rfl, rfl, rfl, rfl, rfl, rfl, rfl, trivial⟩ ?_
      refine AWP.ret ?_
      refine athen_ret ?_
      refine ⟨_, _, ⟨_, _, rfl, rfl, rfl⟩, less_, ?_⟩
      rfl
  · have c3 := fun v M h => pl_Counts v u M h hzu
    have c4 := fun v vl M h hl => pl_Return v vl u l M h hzu hl
    have c5 := fun v M h => pl_Counts v r M h hzr
    have c6 := fun v vl M h hl => pl_Return v vl r l M h hzr hl
    rw [e1] at c1; rw [e2] at c2; rw [e3] at c3; rw [e4] at c4; rw [e5] at c5; rw [e6] at c6
    refine ACall.enter (args := [.agg #[.int .i64 p.d.size, .slice pe p.d.ext.length ce, .slice pw p.d.waits.length cw, .int .i64 p.d.fuse, .bool p.d.down, .slice pf p.fr.length cf, .int .u64 p.tick, .int .u64 p.reads, .int .u64 p.writes], .int .i64 n]) (rs := [.tmp 4]) 134 [(0, .agg #[.int .i64 p.d.size, .slice pe p.d.ext.length ce, .slice pw p.d.waits.length cw, .int .i64 p.d.fuse, .bool p.d.down, .slice pf p.fr.length cf, .int .u64 p.tick, .int .u64 p.reads, .int .u64 p.writes]), (1, .int .i64 n)] Try.func11 rfl rfl (Nat.le_of_ble_eq_true rfl) rfl ⟨rfl, rfl, trivial⟩ ?_
    refine AWP.seq ?_
    refine AWP.region ?_
    refine ARun.boxA (cs := [_, _, _, _, _, _, _, _, _]) (lit_lt rfl) rfl ?_
    intro b2 f2
    have g2 := f2
    repeat ((with_reducible replace g2 := fresh_set g2); obtain ⟨g2, _⟩ := g2)
    (try simp only [List.length_cons, List.length_nil, Nat.zero_add, Nat.reduceAdd])
    refine rC (Calm.assign rfl) ?_
    refine arun_nil ?_
    refine athen_n ?_
    refine AWP.seq ?_
    refine AWP.seq ?_
    refine AWP.region ?_
    refine ARun.call (lit_lt rfl) go_39 rfl (pv_lives _) ?_
    rintro _ Sx ⟨rfl, h1⟩
    rw [h1]; clear h1 Sx
    refine rC (Calm.un rfl (una_not _)) ?_
    refine arun_nil ?_
    refine athen_n ?_
    refine AWP.sub [(0, _), (1, _), (2, _), (4, _), (25, _)] ⟨rfl, rfl, rfl, rfl, rfl, trivial⟩ ?_
    refine AWP.condF rfl (by first | rfl | (simp; done) | (simp; omega)) ?_
    refine AWP.skip ?_
    refine athen_n ?_
    refine AWP.seq ?_
    refine AWP.region ?_
    refine rC (ldA_ (cs := [_, _, _, _, _, _, _, _, _]) ty_agg_60 ty_size_60 rfl) ?_
    refine ARun.call (lit_lt rfl) go_41 rfl (c1 _ _ (hp.less less_)) ?_
    rintro _ Sx ⟨rfl, h1⟩
    rw [h1]; clear h1 Sx
    refine rC (Calm.move rfl) ?_
    refine rC (Calm.extract rfl rfl) ?_
    refine rC (Calm.extract rfl rfl) ?_
    refine rC (Calm.extract rfl rfl) ?_
    refine rC (Calm.extract rfl rfl) ?_
    refine rC (Calm.assign rfl) ?_
    refine rC (Calm.assign rfl) ?_
    refine rC (Calm.assign rfl) ?_
    refine rC (Calm.assign rfl) ?_
    refine arun_nil ?_
    refine athen_n ?_
    refine AWP.sub [(0, _), (1, _), (2, _), (4, _), (25, _), (6, _), (7, _), (8, _)] ⟨rfl, rfl, rfl, rfl, rfl, rfl, rfl, rfl, trivial⟩ ?_
    refine AWP.seq ?_
    refine AWP.region ?_
    refine rC (ldA_ (cs := [_, _, _, _, _, _, _, _, _]) ty_agg_60 ty_size_60 rfl) ?_
    refine rC (Calm.move rfl) ?_
    refine ARun.call (lit_lt rfl) go_42 rfl ((c2 _ S hp).frame f2) ?_
    rintro _ Sx ⟨M1, ⟨v, vl, rfl, hM1, hp1, hsl⟩, fa, h1⟩
    rw [h1]; clear h1 Sx
    obtain ⟨p1, q1, r1, s1, t1, u1', rfl, hE1, hW1, hF1⟩ := id hp1
    obtain ⟨la, lc, rfl, _⟩ := id hsl
    refine rC (Calm.move rfl) ?_
    refine rC (Calm.extract rfl rfl) ?_
    refine rC (Calm.extract rfl rfl) ?_
    refine rC (Calm.extract rfl rfl) ?_
    refine ARun.alloc (lit_lt rfl) ty_zero_60 ?_
    intro b9 f9
    have g9 := f9
    repeat ((with_reducible replace g9 := fresh_set g9); obtain ⟨g9, _⟩ := g9)
    (try simp only [List.length_cons, List.length_nil, Nat.zero_add, Nat.reduceAdd])
    first | refine ARun.storeAll rfl rfl ty_size_60 own_ rfl rfl ?_ | refine ARun.store rfl rfl ty_size_60 own_ lens_ rfl ?_
    (try simp only [Mem.set_set, List.set_cons_zero, List.set_cons_succ, Nat.zero_add, Nat.reduceAdd])
    refine rC (Calm.assign rfl) ?_
    refine rC (Calm.assign rfl) ?_
    refine arun_nil ?_
    refine athen_n ?_
    refine AWP.sub [(0, _), (1, _), (2, _), (4, _), (25, _), (6, _), (7, _), (8, _), (9, _), (10, _), (11, _)] ⟨rfl, rfl, rfl, rfl, rfl, rfl, rfl, rfl, rfl, rfl, rfl, trivial⟩ ?_
    refine named2 (S := M1) (b := b2) (b' := b9) fa.1 f9.1 ?_
    intro T9 hT9 k2 k9
    replace hp1 := hp1.less hT9
    replace hsl := hsl.less hT9
    refine AWP.seq ?_
    refine AWP.seq ?_
    refine AWP.region ?_
    refine rC (Calm.move rfl) ?_
    refine rC (Calm.bin rfl rfl b_neq) ?_
    refine rC (Calm.move rfl) ?_
    first | refine rS 42 ?_ | refine rU 42 ?_ | refine rG 42 (Calm.move rfl) ?_
    first | refine rS 42 ?_ | refine rU 42 ?_ | refine rG 42 (Calm.bin rfl rfl b_neq) ?_
    refine rC ((by first | exact Calm.pickT rfl rfl | exact Calm.pickF rfl rfl)) ?_
    refine arun_nil ?_
    refine athen_n ?_
    refine AWP.sub [(0, _), (1, _), (2, _), (4, _), (25, _), (6, _), (7, _), (8, _), (9, _), (10, _), (11, _), (45, _)] ⟨rfl, rfl, rfl, rfl, rfl, rfl, rfl, rfl, rfl, rfl, rfl, rfl, trivial⟩ ?_
    refine AWP.condF rfl (by first | rfl | (simp; done) | (simp; omega)) ?_
    refine AWP.skip ?_
    refine athen_n ?_
    refine AWP.seq ?_
    refine AWP.region ?_
    refine rC (ldA_ (cs := [_, _, _, _, _, _, _, _, _]) ty_agg_60 ty_size_60 rfl) ?_
    refine ARun.call (lit_lt rfl) go_41 rfl (c3 _ _ (hp1.less less_)) ?_
    rintro _ Sx ⟨rfl, h1⟩
    rw [h1]; clear h1 Sx
    refine rC (Calm.move rfl) ?_
    refine rC (Calm.extract rfl rfl) ?_
    refine rC (Calm.extract rfl rfl) ?_
    refine rC (Calm.extract rfl rfl) ?_
    refine rC (Calm.extract rfl rfl) ?_
    refine rC (Calm.assign rfl) ?_
    refine rC (Calm.assign rfl) ?_
    refine rC (Calm.assign rfl) ?_
    refine rC (Calm.assign rfl) ?_
    refine arun_nil ?_
    refine athen_n ?_
    refine AWP.sub [(0, _), (1, _), (2, _), (4, _), (25, _), (6, _), (7, _), (8, _), (9, _), (10, _), (11, _), (45, _), (13, _), (14, _), (15, _)] ⟨rfl, rfl, rfl, rfl, rfl, rfl, rfl, rfl, rfl, rfl, rfl, rfl, rfl, rfl, rfl, trivial⟩ ?_
    refine AWP.seq ?_
    refine AWP.region ?_
    refine rC (ldA_ (cs := [_, _, _, _, _, _, _, _, _]) ty_agg_60 ty_size_60 rfl) ?_
    refine rC (Calm.move rfl) ?_
    refine ARun.call (lit_lt rfl) go_43 rfl (c4 _ _ _ hp1 hsl) ?_
    rintro _ S8 ⟨v, rfl, hS8, hp8⟩
    obtain ⟨p8', q8', r8', s8', t8', u8', rfl, hE8, hW8, hF8⟩ := id hp8
    replace hp1 := hp1.less hS8
    replace hsl := hsl.less hS8
    replace k2 := hS8.own k2
    replace k9 := hS8.own k9
    refine rC (Calm.move rfl) ?_
    refine rC (Calm.extract rfl rfl) ?_
    refine rC (Calm.extract rfl rfl) ?_
    refine ARun.alloc (lit_lt rfl) ty_zero_60 ?_
    intro b16 f16
    have g16 := f16
    repeat ((with_reducible replace g16 := fresh_set g16); obtain ⟨g16, _⟩ := g16)
    have := g16.ne k2; have := g16.ne' k2
    have := g16.ne k9; have := g16.ne' k9
    (try simp only [List.length_cons, List.length_nil, Nat.zero_add, Nat.reduceAdd])
    first | refine ARun.storeAll rfl rfl ty_size_60 own_ rfl rfl ?_ | refine ARun.store rfl rfl ty_size_60 own_ lens_ rfl ?_
    (try simp only [Mem.set_set, List.set_cons_zero, List.set_cons_succ, Nat.zero_add, Nat.reduceAdd])
    refine rC (Calm.assign rfl) ?_
    refine arun_nil ?_
    refine athen_n ?_
    refine AWP.sub [(0, _), (1, _), (2, _), (4, _), (25, _), (6, _), (7, _), (8, _), (9, _), (10, _), (11, _), (45, _), (13, _), (14, _), (15, _), (16, _), (17, _)] ⟨rfl, rfl, rfl, rfl, rfl, rfl, rfl, rfl, rfl, rfl, rfl, rfl, rfl, rfl, rfl, rfl, rfl, trivial⟩ ?_
    refine named (S := S8) (b := b16) g16.1 ?_
    intro T16 hT16 kb16
    replace hp1 := hp1.less hT16
    replace hsl := hsl.less hT16
    replace k2 := hT16.own k2
    replace k9 := hT16.own k9
    replace hp8 := hp8.less hT16
    refine AWP.seq ?_
    refine AWP.region ?_
    refine rC (ldA_ (cs := [_, _, _, _, _, _, _, _, _]) ty_agg_60 ty_size_60 rfl) ?_
    refine ARun.call (lit_lt rfl) go_41 rfl (c5 _ _ (hp8.less less_)) ?_
    rintro _ Sx ⟨rfl, h1⟩
    rw [h1]; clear h1 Sx
    refine rC (Calm.move rfl) ?_
    refine rC (Calm.extract rfl rfl) ?_
    refine rC (Calm.extract rfl rfl) ?_
    refine rC (Calm.extract rfl rfl) ?_
    refine rC (Calm.extract rfl rfl) ?_
    refine rC (Calm.assign rfl) ?_
    refine rC (Calm.assign rfl) ?_
    refine rC (Calm.assign rfl) ?_
    refine rC (Calm.assign rfl) ?_
    refine arun_nil ?_
    refine athen_n ?_
    refine AWP.sub [(0, _), (1, _), (2, _), (4, _), (25, _), (6, _), (7, _), (8, _), (9, _), (10, _), (11, _), (45, _), (13, _), (14, _), (15, _), (16, _), (17, _), (20, _), (21, _)] ⟨rfl, rfl, rfl, rfl, rfl, rfl, rfl, rfl, rfl, rfl, rfl, rfl, rfl, rfl, rfl, rfl, rfl, rfl, rfl, trivial⟩ ?_
    refine AWP.seq ?_
    refine AWP.region ?_
    refine rC (ldA_ (cs := [_, _, _, _, _, _, _, _, _]) ty_agg_60 ty_size_60 rfl) ?_
    refine rC (Calm.move rfl) ?_
    refine ARun.call (lit_lt rfl) go_43 rfl (c6 _ _ _ hp8 hsl) ?_
    rintro _ S10 ⟨v, rfl, hS10, hp10⟩
    obtain ⟨p10, q10, r10, s10, t10, u10, rfl, hE10, hW10, hF10⟩ := id hp10
    replace hp1 := hp1.less hS10
    replace hsl := hsl.less hS10
    replace k2 := hS10.own k2
    replace k9 := hS10.own k9
    replace hp8 := hp8.less hS10
    replace kb16 := hS10.own kb16
    refine rC (Calm.move rfl) ?_
    refine rC (Calm.extract rfl rfl) ?_
    refine rC (Calm.extract rfl rfl) ?_
    refine ARun.alloc (lit_lt rfl) ty_zero_60 ?_
    intro b22 f22
    have g22 := f22
    repeat ((with_reducible replace g22 := fresh_set g22); obtain ⟨g22, _⟩ := g22)
    have := g22.ne k2; have := g22.ne' k2
    have := g22.ne k9; have := g22.ne' k9
    have := g22.ne kb16; have := g22.ne' kb16
    (try simp only [List.length_cons, List.length_nil, Nat.zero_add, Nat.reduceAdd])
    first | refine ARun.storeAll rfl rfl ty_size_60 own_ rfl rfl ?_ | refine ARun.store rfl rfl ty_size_60 own_ lens_ rfl ?_
    (try simp only [Mem.set_set, List.set_cons_zero, List.set_cons_succ, Nat.zero_add, Nat.reduceAdd])
    refine rC (Calm.assign rfl) ?_
    refine arun_nil ?_
    refine athen_n ?_
    refine AWP.sub [(0, _), (1, _), (2, _), (4, _), (25, _), (6, _), (7, _), (8, _), (9, _), (10, _), (11, _), (45, _), (13, _), (14, _), (15, _), (16, _), (17, _), (20, _), (21, _), (23, _)] ⟨rfl, rfl, rfl, rfl, rfl, rfl, rfl, rfl, rfl, rfl, rfl, rfl, rfl, rfl, rfl, rfl, rfl, rfl, rfl, rfl, trivial⟩ ?_
    refine named (S := S10) (b := b22) g22.1 ?_
    intro T22 hT22 kb22
    replace hp1 := hp1.less hT22
    replace hsl := hsl.less hT22
    replace k2 := hT22.own k2
    replace k9 := hT22.own k9
    replace hp8 := hp8.less hT22
    replace kb16 := hT22.own kb16
    by_cases q : n = 0
    · refine AWP.seq ?_
      refine AWP.region ?_
      refine rC (Calm.move rfl) ?_
      refine rC (Calm.lenSl Try.underlying67 rfl) ?_
      refine rC (Calm.move rfl) ?_
      refine rC (Calm.bin rfl rfl (bin_bool (bin_eql _ _) (decide_eq_true hln))) ?_
      refine rC (Calm.move rfl) ?_
      first | refine rS 88 ?_ | refine rU 88 ?_ | refine rG 88 (Calm.move rfl) ?_
      first | refine rS 88 ?_ | refine rU 88 ?_ | refine rG 88 (Calm.bin rfl rfl b_eql) ?_
      refine rC ((by first | exact Calm.pickT rfl rfl | exact Calm.pickF rfl rfl)) ?_
      refine rC (Calm.move rfl) ?_
      first | refine rS 92 ?_ | refine rU 92 ?_ | refine rG 92 (Calm.move rfl) ?_
      first | refine rS 92 ?_ | refine rU 92 ?_ | refine rG 92 (Calm.move rfl) ?_
      first | refine rS 92 ?_ | refine rU 92 ?_ | refine rG 92 (Calm.bin rfl rfl (bin_bool (bin_eql _ _) (decide_eq_true rfl))) ?_
      refine rC ((by first | exact Calm.pickT rfl rfl | exact Calm.pickF rfl rfl)) ?_
      refine rC (Calm.move rfl) ?_
      first | refine rS 97 ?_ | refine rU 97 ?_ | refine rG 97 (Calm.move rfl) ?_
      first | refine rS 97 ?_ | refine rU 97 ?_ | refine rG 97 (Calm.move rfl) ?_
      first | refine rS 97 ?_ | refine rU 97 ?_ | refine rG 97 (Calm.bin rfl rfl b_sub_i64) ?_
      first | refine rS 97 ?_ | refine rU 97 ?_ | refine rG 97 (Calm.move rfl) ?_
      first | refine rS 97 ?_ | refine rU 97 ?_ | refine rG 97 (Calm.bin rfl rfl (bin_bool (bin_eql _ _) (decide_eq_true (by omega)))) ?_
      refine rC ((by first | exact Calm.pickT rfl rfl | exact Calm.pickF rfl rfl)) ?_
      refine rC (Calm.move rfl) ?_
      first | refine rS 104 ?_ | refine rU 104 ?_ | refine rG 104 (Calm.move rfl) ?_
      first | refine rS 104 ?_ | refine rU 104 ?_ | refine rG 104 (Calm.move rfl) ?_
      first | refine rS 104 ?_ | refine rU 104 ?_ | refine rG 104 (Calm.bin rfl rfl b_add_i64) ?_
      first | refine rS 104 ?_ | refine rU 104 ?_ | refine rG 104 (Calm.fieldAddr ty_field_60_1 rfl) ?_
      first | refine rS 104 ?_ | refine rU 104 ?_ | refine rG 104 (ld_ ty_plain_57 rfl) ?_
      first | refine rS 104 ?_ | refine rU 104 ?_ | refine rG 104 (Calm.lenSl Try.underlying57 rfl) ?_
      first | refine rS 104 ?_ | refine rU 104 ?_ | refine rG 104 (Calm.bin rfl rfl (bin_bool (bin_leq _ _) (decide_eq_true hle))) ?_
      refine rC ((by first | exact Calm.pickT rfl rfl | exact Calm.pickF rfl rfl)) ?_
      refine rC (Calm.move rfl) ?_
      first | refine rS 113 ?_ | refine rU 113 ?_ | refine rG 113 (Calm.move rfl) ?_
      first | refine rS 113 ?_ | refine rU 113 ?_ | refine rG 113 (Calm.bin rfl rfl b_eql) ?_
      refine rC ((by first | exact Calm.pickT rfl rfl | exact Calm.pickF rfl rfl)) ?_
      refine rC (Calm.move rfl) ?_
      first | refine rS 117 ?_ | refine rU 117 ?_ | refine rG 117 (Calm.move rfl) ?_
      first | refine rS 117 ?_ | refine rU 117 ?_ | refine rG 117 (Calm.bin rfl rfl b_eql) ?_
      refine rC ((by first | exact Calm.pickT rfl rfl | exact Calm.pickF rfl rfl)) ?_
      refine rC (Calm.move rfl) ?_
      first | refine rS 121 ?_ | refine rU 121 ?_ | refine rG 121 (Calm.move rfl) ?_
      first | refine rS 121 ?_ | refine rU 121 ?_ | refine rG 121 (Calm.move rfl) ?_
      first | refine rS 121 ?_ | refine rU 121 ?_ | refine rG 121 (Calm.bin rfl rfl (bin_bool (bin_eql _ _) (decide_eq_true rfl))) ?_
      refine rC ((by first | exact Calm.pickT rfl rfl | exact Calm.pickF rfl rfl)) ?_
      refine rC (Calm.move rfl) ?_
      first | refine rS 126 ?_ | refine rU 126 ?_ | refine rG 126 (Calm.move rfl) ?_
      first | refine rS 126 ?_ | refine rU 126 ?_ | refine rG 126 (Calm.bin rfl rfl (bin_bool (bin_eql _ _) (decide_eq_true q))) ?_
      first | refine rS 126 ?_ | refine rU 126 ?_ | refine rG 126 (Calm.move rfl) ?_
      first | refine rS 129 ?_ | refine rU 129 ?_ | refine rG 129 (Calm.move rfl) ?_
      first | refine rS 129 ?_ | refine rU 129 ?_ | refine rG 129 (Calm.bin rfl rfl b_eql) ?_
      first | refine rS 126 ?_ | refine rU 126 ?_ | refine rG 126 ((by first | exact Calm.pickT rfl rfl | exact Calm.pickF rfl rfl)) ?_
      refine rC ((by first | exact Calm.pickT rfl rfl | exact Calm.pickF rfl rfl)) ?_
      refine rC (Calm.assign rfl) ?_
      refine arun_nil ?_
      refine athen_n ?_
      refine AWP.sub [(0, _), (1, _), (2, _), (4, _), (25, _), (6, _), (7, _), (8, _), (9, _), (10, _), (11, _), (45, _), (13, _), (14, _), (15, _), (16, _), (17, _), (20, _), (21, _), (23, _)] ⟨rfl, rfl, rfl, rfl, rfl, rfl, rfl, rfl, rfl, rfl, rfl, rfl, rfl, rfl, rfl, rfl, rfl, rfl, rfl, rfl, trivial⟩ ?_
      refine AWP.ret ?_
      refine ⟨_, _, ⟨_, _, rfl, rfl, rfl⟩, less_, ?_⟩
      rfl
    · have her := her.resolve_left q
      refine AWP.seq ?_
      refine AWP.region ?_
      refine rC (Calm.move rfl) ?_
      refine rC (Calm.lenSl Try.underlying67 rfl) ?_
      refine rC (Calm.move rfl) ?_
      refine rC (Calm.bin rfl rfl (bin_bool (bin_eql _ _) (decide_eq_true hln))) ?_
      refine rC (Calm.move rfl) ?_
      first | refine rS 88 ?_ | refine rU 88 ?_ | refine rG 88 (Calm.move rfl) ?_
      first | refine rS 88 ?_ | refine rU 88 ?_ | refine rG 88 (Calm.bin rfl rfl b_eql) ?_
      refine rC ((by first | exact Calm.pickT rfl rfl | exact Calm.pickF rfl rfl)) ?_
      refine rC (Calm.move rfl) ?_
      first | refine rS 92 ?_ | refine rU 92 ?_ | refine rG 92 (Calm.move rfl) ?_
      first | refine rS 92 ?_ | refine rU 92 ?_ | refine rG 92 (Calm.move rfl) ?_
      first | refine rS 92 ?_ | refine rU 92 ?_ | refine rG 92 (Calm.bin rfl rfl (bin_bool (bin_eql _ _) (decide_eq_true rfl))) ?_
      refine rC ((by first | exact Calm.pickT rfl rfl | exact Calm.pickF rfl rfl)) ?_
      refine rC (Calm.move rfl) ?_
      first | refine rS 97 ?_ | refine rU 97 ?_ | refine rG 97 (Calm.move rfl) ?_
      first | refine rS 97 ?_ | refine rU 97 ?_ | refine rG 97 (Calm.move rfl) ?_
      first | refine rS 97 ?_ | refine rU 97 ?_ | refine rG 97 (Calm.bin rfl rfl b_sub_i64) ?_
      first | refine rS 97 ?_ | refine rU 97 ?_ | refine rG 97 (Calm.move rfl) ?_
      first | refine rS 97 ?_ | refine rU 97 ?_ | refine rG 97 (Calm.bin rfl rfl (bin_bool (bin_eql _ _) (decide_eq_true (by omega)))) ?_
      refine rC ((by first | exact Calm.pickT rfl rfl | exact Calm.pickF rfl rfl)) ?_
      refine rC (Calm.move rfl) ?_
      first | refine rS 104 ?_ | refine rU 104 ?_ | refine rG 104 (Calm.move rfl) ?_
      first | refine rS 104 ?_ | refine rU 104 ?_ | refine rG 104 (Calm.move rfl) ?_
      first | refine rS 104 ?_ | refine rU 104 ?_ | refine rG 104 (Calm.bin rfl rfl b_add_i64) ?_
      first | refine rS 104 ?_ | refine rU 104 ?_ | refine rG 104 (Calm.fieldAddr ty_field_60_1 rfl) ?_
      first | refine rS 104 ?_ | refine rU 104 ?_ | refine rG 104 (ld_ ty_plain_57 rfl) ?_
      first | refine rS 104 ?_ | refine rU 104 ?_ | refine rG 104 (Calm.lenSl Try.underlying57 rfl) ?_
      first | refine rS 104 ?_ | refine rU 104 ?_ | refine rG 104 (Calm.bin rfl rfl (bin_bool (bin_leq _ _) (decide_eq_true hle))) ?_
      refine rC ((by first | exact Calm.pickT rfl rfl | exact Calm.pickF rfl rfl)) ?_
      refine rC (Calm.move rfl) ?_
      first | refine rS 113 ?_ | refine rU 113 ?_ | refine rG 113 (Calm.move rfl) ?_
      first | refine rS 113 ?_ | refine rU 113 ?_ | refine rG 113 (Calm.bin rfl rfl b_eql) ?_
      refine rC ((by first | exact Calm.pickT rfl rfl | exact Calm.pickF rfl rfl)) ?_
      refine rC (Calm.move rfl) ?_
      first | refine rS 117 ?_ | refine rU 117 ?_ | refine rG 117 (Calm.move rfl) ?_
      first | refine rS 117 ?_ | refine rU 117 ?_ | refine rG 117 (Calm.bin rfl rfl b_eql) ?_
      refine rC ((by first | exact Calm.pickT rfl rfl | exact Calm.pickF rfl rfl)) ?_
      refine rC (Calm.move rfl) ?_
      first | refine rS 121 ?_ | refine rU 121 ?_ | refine rG 121 (Calm.move rfl) ?_
      first | refine rS 121 ?_ | refine rU 121 ?_ | refine rG 121 (Calm.move rfl) ?_
      first | refine rS 121 ?_ | refine rU 121 ?_ | refine rG 121 (Calm.bin rfl rfl (bin_bool (bin_eql _ _) (decide_eq_true rfl))) ?_
      refine rC ((by first | exact Calm.pickT rfl rfl | exact Calm.pickF rfl rfl)) ?_
      refine rC (Calm.move rfl) ?_
      first | refine rS 126 ?_ | refine rU 126 ?_ | refine rG 126 (Calm.move rfl) ?_
      first | refine rS 126 ?_ | refine rU 126 ?_ | refine rG 126 (Calm.bin rfl rfl (bin_bool (bin_eql _ _) (decide_eq_false q))) ?_
      first | refine rS 126 ?_ | refine rU 126 ?_ | refine rG 126 (Calm.move rfl) ?_
      first | refine rS 129 ?_ | refine rU 129 ?_ | refine rG 129 (Calm.move rfl) ?_
      first | refine rS 129 ?_ | refine rU 129 ?_ | refine rG 129 (Calm.bin rfl rfl (bin_bool (bin_eql _ _) (decide_eq_true her))) ?_
      first | refine rS 126 ?_ | refine rU 126 ?_ | refine rG 126 ((by first | exact Calm.pickT rfl rfl | exact Calm.pickF rfl rfl)) ?_
      refine rC ((by first | exact Calm.pickT rfl rfl | exact Calm.pickF rfl rfl)) ?_
      refine rC (Calm.assign rfl) ?_
      refine arun_nil ?_
      refine athen_n ?_
      refine AWP.sub [(0, _), (1, _), (2, _), (4, _), (25, _), (6, _), (7, _), (8, _), (9, _), (10, _), (11, _), (45, _), (13, _), (14, _), (15, _), (16, _), (17, _), (20, _), (21, _), (23, _)] ⟨rfl, rfl, rfl, rfl, rfl, rfl, rfl, rfl, rfl, rfl, rfl, rfl, rfl, rfl, rfl, rfl, rfl, rfl, rfl, rfl, trivial⟩ ?_
      refine AWP.ret ?_
      refine ⟨_, _, ⟨_, _, rfl, rfl, rfl⟩, less_, ?_⟩
      rfl
theorem walk_PoolLeased (cs : List Value) (y : Pl) (a1 : Int) (W : World) (h0 : PlV (roM W) cs y) (w1 : (Lit.int .i64 a1).wf = true) : Calls Try.prog 11 #[.agg cs.toArray, .int .i64 a1] W fun e w' => e = .returned (.bool true) ∧ Below W.heap.size W w' :=
  ACall.callsW (law_PoolLeased _ y a1 _ h0.1 h0.2.1)
end Go.Proofs.Ytkeiphkccnfhoaa
