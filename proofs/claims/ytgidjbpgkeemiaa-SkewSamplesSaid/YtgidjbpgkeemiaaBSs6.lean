/-
  Texts that belong together: Sort2OU, Sort3OU, OdFU, Od4, SkL4.
-/
import Derived.Test.YtgidjbpgkeemiaaBSs5
namespace Go.Proofs.Ytgidjbpgkeemiaa
open Go.RowKit
open Mv Srt
open Go.Sort (swp insInner insOuter insertionSort siftDown heapBuild heapPop heapSort scanUp scanDown partLoop partition partEqLoop partitionEqual scanSorted shiftDown shiftUp partialIns partialInsertionSort order2 median medianAdjacent choosePivot reverseLoop reverseRange breakStep breakPatterns pdq bitsLen xorNext Hint)
set_option linter.unusedVariables false
set_option linter.unusedSimpArgs false
set_option maxRecDepth 4000
set_option maxHeartbeats 4000000 in
theorem soU_rev {S : Mem} (b room n cap : Nat) (hb : Fresh S b) (hn : n ≤ 1048576) (d : Array Nat) (R : Rw (fun _ => True) n d) (ia ie : Int) (a e : Nat) (ha : ia = a) (he : ie = e) (hae : a < e) (hen : e ≤ n) :
    ACall Try.prog 187 #[.slice (some ⟨b, 0, none⟩) n cap, .int .i64 ia, .int .i64 ie] (S.set b ⟨41, (d).toList.map encU, room⟩) fun r S' => S' = S.set b ⟨41, (reverseRange d a e).toList.map encU, room⟩ ∧ Rw (fun _ => True) n (reverseRange d a e) := by
  subst ha he
  refine ACall.enter (args := [.slice (some ⟨b, 0, none⟩) n cap, .int .i64 a, .int .i64 e]) (rs := []) 32 [(0, .slice (some ⟨b, 0, none⟩) n cap), (1, .int .i64 a), (2, .int .i64 e)] Try.func187 rfl rfl (Nat.le_of_ble_eq_true rfl) rfl ⟨rfl, rfl, rfl, trivial⟩ ?_
  refine AWP.seq ?_
  refine AWP.region ?_
  refine rC (Calm.move rfl) ?_
  refine rC (Calm.assign rfl) ?_
  refine arun_nil ?_
  refine athen_n ?_
  refine AWP.sub [(0, _), (1, _), (2, _), (6, _)] ⟨rfl, rfl, rfl, rfl, trivial⟩ ?_
  refine AWP.seq ?_
  refine AWP.region ?_
  refine rC (Calm.move rfl) ?_
  refine rC (Calm.bin rfl rfl b_sub_i64) ?_
  refine rC (Calm.assign rfl) ?_
  refine arun_nil ?_
  refine athen_n ?_
  refine AWP.sub [(0, _), (1, _), (2, _), (6, _), (7, _)] ⟨rfl, rfl, rfl, rfl, rfl, trivial⟩ ?_
  refine AWP.block ?_
  refine AWP.loop (X := Nat × Nat × Array Nat) (fun x => [(0, .slice (some ⟨b, 0, none⟩) n cap), (6, .int .i64 x.1), (7, .int .i64 x.2.1)]) (fun x => S.set b ⟨41, (x.2.2).toList.map encU, room⟩) (fun x => x.1 ≤ n ∧ x.2.1 < e ∧ Rw (fun _ => True) n x.2.2 ∧ reverseLoop x.1 x.2.1 x.2.2 = reverseRange d a e) (fun x => x.2.1) ((a, e - 1, d)) ⟨sb_, sb_, sb_, trivial⟩ (Mem.Less.refl _) (⟨by dsimp only; omega, by dsimp only; omega, R, rfl⟩) ?_
  rintro ⟨i, j, d1⟩ ⟨h1, h2, R1, h3⟩
  (try dsimp only at *)
  have z1 := R1.size
  by_cases hij : i < j
  · refine AWP.seq ?_
    refine AWP.seq ?_
    refine AWP.region ?_
    refine rC (Calm.move rfl) ?_
    refine rC (Calm.move rfl) ?_
    refine rC (Calm.bin rfl rfl b_lss) ?_
    refine arun_nil ?_
    refine athen_n ?_
    refine AWP.sub [(0, _), (6, _), (7, _), (13, _)] ⟨rfl, rfl, rfl, rfl, trivial⟩ ?_
    refine AWP.condT rfl (by first | rfl | (simp; done) | (simp; omega)) ?_
    refine AWP.skip ?_
    refine athen_n ?_
    refine AWP.block ?_
    refine AWP.seq ?_
    refine AWP.draw [(0, true), (1, true), (2, true), (3, true), (4, true), (5, true), (6, true), (7, true), (8, true), (9, true), (10, true), (11, true), (12, true), (13, false), (14, true), (15, false)] [13, 15] mixed (by kernel_rfl) ?_
    refine dP (hc := fun _ => Calm.move rfl) (h := ?_)
    refine dP (hc := fun _ => Calm.move rfl) (h := ?_)
    refine dP (hc := fun _ => Calm.move rfl) (h := ?_)
    refine dP (hc := fun _ => Calm.move rfl) (h := ?_)
    refine dP (hc := fun _ => Calm.move rfl) (h := ?_)
    refine dP (hc := fun _ => Calm.move rfl) (h := ?_)
    refine dP (hc := fun _ => Calm.indexS Try.underlying22 ty_size_41 rfl rfl (by omega) (by omega)) (h := ?_)
    refine dC (hc := Calm.load ty_plain_41 rfl (rd_row (k := j) own_ rw_ rw_)) (h := ?_)
    refine dP (hc := fun _ => Calm.move rfl) (h := ?_)
    refine dP (hc := fun _ => Calm.move rfl) (h := ?_)
    refine dP (hc := fun _ => Calm.indexS Try.underlying22 ty_size_41 rfl rfl (by omega) (by omega)) (h := ?_)
    refine dC (hc := Calm.load ty_plain_41 rfl (rd_row (k := i) own_ rw_ rw_)) (h := ?_)
    refine dP (hc := fun _ => Calm.indexS Try.underlying22 ty_size_41 rfl rfl (by omega) (by omega)) (h := ?_)
    refine draw_only rfl ?_
    refine ARun.storeRow encU (i) rfl rfl ty_size_41 ⟨rfl, rfl⟩ own_ rw_ rw_ ?_
    (try simp only [Mem.set_set, List.set_cons_zero, List.set_cons_succ, Nat.zero_add, Nat.reduceAdd])
    refine arun_nil ⟨fun h => absurd h (by decide), ?_⟩
    refine dP (hc := fun _ => Calm.indexS Try.underlying22 ty_size_41 rfl rfl (by omega) (by omega)) (h := ?_)
    refine draw_only rfl ?_
    refine ARun.storeRow encU (j) rfl rfl ty_size_41 ⟨rfl, rfl⟩ own_ rw_ rw_ ?_
    (try simp only [Mem.set_set, List.set_cons_zero, List.set_cons_succ, Nat.zero_add, Nat.reduceAdd])
    refine arun_nil ⟨fun h => absurd h (by decide), ?_⟩
    refine draw_nil ?_
    refine athen_n ?_
    refine AWP.sub [(0, _), (6, _), (7, _), (13, _)] ⟨rfl, rfl, rfl, rfl, trivial⟩ ?_
    refine AWP.seq ?_
    refine AWP.region ?_
    refine rC (Calm.move rfl) ?_
    refine rC (Calm.bin rfl rfl b_add_i64) ?_
    refine rC (Calm.assign rfl) ?_
    refine arun_nil ?_
    refine athen_n ?_
    refine AWP.sub [(0, _), (6, _), (7, _), (13, _)] ⟨rfl, rfl, rfl, rfl, trivial⟩ ?_
    refine AWP.region ?_
    refine rC (Calm.move rfl) ?_
    refine rC (Calm.bin rfl rfl b_sub_i64) ?_
    refine rC (Calm.assign rfl) ?_
    refine arun_nil ?_
    refine ain_n ?_
    refine athen_n ?_
    refine ⟨(i + 1, j - 1, swp d1 i j), ?_, ?_, ?_, ?_⟩
    all_goals (try dsimp only)
    · exact ⟨sb_, sb_, sb_, trivial⟩
    · exact Mem.Less.refl _
    · exact ⟨by omega, by omega, R1.swp _ _ (by omega) (by omega), (rev_go hij).trans h3⟩
    · omega
  · refine AWP.seq ?_
    refine AWP.seq ?_
    refine AWP.region ?_
    refine rC (Calm.move rfl) ?_
    refine rC (Calm.move rfl) ?_
    refine rC (Calm.bin rfl rfl b_lss) ?_
    refine arun_nil ?_
    refine athen_n ?_
    refine AWP.sub [(0, _), (6, _), (7, _), (13, _)] ⟨rfl, rfl, rfl, rfl, trivial⟩ ?_
    refine AWP.condF rfl (by first | rfl | (simp; done) | (simp; omega)) ?_
    refine AWP.exit ?_
    refine athen_exit ?_
    refine athen_exit ?_
    refine ain_same ?_
    refine ⟨_, _, rfl, Mem.Less.refl _, ?_⟩
    rw [← h3, ← rev_end hij]; exact ⟨rfl, R1⟩
set_option maxHeartbeats 1000000 in
theorem soU_order2 {S : Mem} (b room n cap : Nat) (hb : Fresh S b) (hn : n ≤ 1048576) (d : Array Nat) (R : Rw (fun _ => True) n d) (c : Nat) (hc : Fresh S c) (hcb : c ≠ b) (ia ie : Int) (a e k : Nat) (ea : ia = a) (ee : ie = e) (ha : a < n) (he : e < n) (hk : k ≤ 1000) :
    ACall Try.prog 211 #[.slice (some ⟨b, 0, none⟩) n cap, .int .i64 ia, .int .i64 ie, .pointer (some ⟨c, 0, none⟩)] ((S.set b ⟨41, (d).toList.map encU, room⟩).set c ⟨3, [.int .i64 ((k : Nat) : Int)], 1⟩) fun r S' => r = .tuple #[.int .i64 ((order2 ltN d a e k).1 : Nat), .int .i64 ((order2 ltN d a e k).2.1 : Nat)] ∧ S' = (S.set b ⟨41, (d).toList.map encU, room⟩).set c ⟨3, [.int .i64 (((order2 ltN d a e k).2.2 : Nat) : Int)], 1⟩ := by
  subst ea ee
  have z := R.size
  refine ACall.enter (args := [.slice (some ⟨b, 0, none⟩) n cap, .int .i64 a, .int .i64 e, .pointer (some ⟨c, 0, none⟩)]) (rs := [.tmp 8, .tmp 9]) 28 [(0, .slice (some ⟨b, 0, none⟩) n cap), (1, .int .i64 a), (2, .int .i64 e), (3, .pointer (some ⟨c, 0, none⟩))] Try.func211 rfl rfl (Nat.le_of_ble_eq_true rfl) rfl ⟨rfl, rfl, rfl, rfl, trivial⟩ ?_
  refine AWP.seq ?_
  refine AWP.region ?_
  refine rC (Calm.assign rfl) ?_
  refine rC (Calm.assign rfl) ?_
  refine arun_nil ?_
  refine athen_n ?_
  refine AWP.seq ?_
  refine AWP.seq ?_
  refine AWP.draw [(0, true), (1, true), (2, true), (3, true), (4, true), (5, true), (6, true), (7, true), (8, false)] [] mixed (by kernel_rfl) ?_
  refine dP (hc := fun _ => Calm.move rfl) (h := ?_)
  refine dP (hc := fun _ => Calm.move rfl) (h := ?_)
  refine dP (hc := fun _ => Calm.indexS Try.underlying22 ty_size_41 rfl rfl (by omega) (by omega)) (h := ?_)
  refine dC (hc := Calm.load ty_plain_41 rfl (rd_row (k := e) own_ rw_ rw_)) (h := ?_)
  refine dP (hc := fun _ => Calm.move rfl) (h := ?_)
  refine dP (hc := fun _ => Calm.move rfl) (h := ?_)
  refine dP (hc := fun _ => Calm.indexS Try.underlying22 ty_size_41 rfl rfl (by omega) (by omega)) (h := ?_)
  refine dC (hc := Calm.load ty_plain_41 rfl (rd_row (k := a) own_ rw_ rw_)) (h := ?_)
  refine draw_only rfl ?_
  refine ARun.call (lit_lt rfl) go_160 rfl (soU_less _ _ _) ?_
  rintro _ _ ⟨rfl, rfl⟩
  refine arun_nil ⟨fun _ => less_, ?_⟩
  refine draw_nil ?_
  refine athen_n ?_
  refine AWP.sub [(0, _), (1, _), (2, _), (3, _), (8, _), (9, _), (18, _)] ⟨rfl, rfl, rfl, rfl, rfl, rfl, rfl, trivial⟩ ?_
  refine AWP.condB rfl (fun hl => ?_) (fun hl => ?_)
  · have hl : ltN d[e]! d[a]! = true := hl
    refine AWP.seq ?_
    refine AWP.region ?_
    refine rC (Calm.move rfl) ?_
    refine rC (Calm.nilCheck rfl) ?_
    refine rC (ld_ ty_plain_3 rfl) ?_
    refine rC (Calm.bin rfl rfl b_add_i64) ?_
    refine rC (Calm.nilCheck rfl) ?_
    refine ARun.store1 rfl rfl ty_size_3 rfl own_ lens_ rfl ?_
    (try simp only [Mem.set_set, List.set_cons_zero, List.set_cons_succ, Nat.zero_add, Nat.reduceAdd])
    refine arun_nil ?_
    refine athen_n ?_
    refine AWP.sub [(0, _), (1, _), (2, _), (3, _), (8, _), (9, _), (18, _)] ⟨rfl, rfl, rfl, rfl, rfl, rfl, rfl, trivial⟩ ?_
    refine AWP.seq ?_
    refine AWP.region ?_
    refine rC (Calm.move rfl) ?_
    refine rC (Calm.move rfl) ?_
    refine rC (Calm.assign rfl) ?_
    refine rC (Calm.assign rfl) ?_
    refine arun_nil ?_
    refine athen_n ?_
    refine AWP.sub [(0, _), (1, _), (2, _), (3, _), (8, _), (9, _), (18, _)] ⟨rfl, rfl, rfl, rfl, rfl, rfl, rfl, trivial⟩ ?_
    refine AWP.ret ?_
    refine athen_ret ?_
    refine ⟨_, _, ⟨_, _, rfl, ⟨_, _, rfl, rfl, rfl⟩, rfl⟩, Mem.Less.refl _, ?_⟩
    exact ⟨by rw [order2, if_pos hl]; rfl, by rw [order2, if_pos hl]; rfl⟩
  · have hl : ltN d[e]! d[a]! = false := hl
    refine AWP.skip ?_
    refine athen_n ?_
    refine AWP.seq ?_
    refine AWP.region ?_
    refine rC (Calm.move rfl) ?_
    refine rC (Calm.move rfl) ?_
    refine rC (Calm.assign rfl) ?_
    refine rC (Calm.assign rfl) ?_
    refine arun_nil ?_
    refine athen_n ?_
    refine AWP.sub [(0, _), (1, _), (2, _), (3, _), (8, _), (9, _), (18, _)] ⟨rfl, rfl, rfl, rfl, rfl, rfl, rfl, trivial⟩ ?_
    refine AWP.ret ?_
    refine ⟨_, _, ⟨_, _, rfl, ⟨_, _, rfl, rfl, rfl⟩, rfl⟩, Mem.Less.refl _, ?_⟩
    exact ⟨by rw [order2, if_neg (by intro h; exact Bool.noConfusion (hl.symm.trans h))]; rfl, by rw [order2, if_neg (by intro h; exact Bool.noConfusion (hl.symm.trans h))]⟩
set_option maxHeartbeats 1000000 in
theorem soU_median {S : Mem} (b room n cap : Nat) (hb : Fresh S b) (hn : n ≤ 1048576) (d : Array Nat) (R : Rw (fun _ => True) n d) (c : Nat) (hc : Fresh S c) (hcb : c ≠ b) (ia ie io : Int) (a e o k : Nat) (ea : ia = a) (ee : ie = e) (eo : io = o) (ha : a < n) (he : e < n) (ho : o < n) (hk : k ≤ 900) :
    ACall Try.prog 206 #[.slice (some ⟨b, 0, none⟩) n cap, .int .i64 ia, .int .i64 ie, .int .i64 io, .pointer (some ⟨c, 0, none⟩)] ((S.set b ⟨41, (d).toList.map encU, room⟩).set c ⟨3, [.int .i64 ((k : Nat) : Int)], 1⟩) fun r S' => r = .int .i64 ((median ltN d a e o k).1 : Nat) ∧ S' = (S.set b ⟨41, (d).toList.map encU, room⟩).set c ⟨3, [.int .i64 (((median ltN d a e o k).2 : Nat) : Int)], 1⟩ := by
  subst ea ee eo
  obtain ⟨⟨x1, y1, k1⟩, h1⟩ : ∃ q, q = order2 ltN d a e k := ⟨_, rfl⟩
  obtain ⟨⟨x2, y2, k2⟩, h2⟩ : ∃ q, q = order2 ltN d y1 o k1 := ⟨_, rfl⟩
  obtain ⟨⟨x3, y3, k3⟩, h3⟩ : ∃ q, q = order2 ltN d x1 x2 k2 := ⟨_, rfl⟩
  have m1 := ord2_lt ltN h1 ha he
  have m2 := ord2_lt ltN h2 m1.2.1 ho
  have m3 := ord2_lt ltN h3 m1.1 m2.1
  have c1 := soU_order2 b room n cap hb hn d R c hc hcb a e a e k rfl rfl ha he (by omega)
  have c2 := soU_order2 b room n cap hb hn d R c hc hcb y1 o y1 o k1 rfl rfl m1.2.1 ho (by omega)
  have c3 := soU_order2 b room n cap hb hn d R c hc hcb x1 x2 x1 x2 k2 rfl rfl m1.1 m2.1 (by omega)
  have hm : median ltN d a e o k = (y3, k3) := by
    unfold median; simp only [← h1, ← h2, ← h3]
  rw [hm]
  rw [← h1] at c1; rw [← h2] at c2; rw [← h3] at c3
  dsimp only at c1 c2 c3 ⊢
  clear h1 h2 h3 hm
  refine ACall.enter (args := [.slice (some ⟨b, 0, none⟩) n cap, .int .i64 a, .int .i64 e, .int .i64 o, .pointer (some ⟨c, 0, none⟩)]) (rs := [.tmp 10]) 36 [(0, .slice (some ⟨b, 0, none⟩) n cap), (1, .int .i64 a), (2, .int .i64 e), (3, .int .i64 o), (4, .pointer (some ⟨c, 0, none⟩))] Try.func206 rfl rfl (Nat.le_of_ble_eq_true rfl) rfl ⟨rfl, rfl, rfl, rfl, rfl, trivial⟩ ?_
  refine AWP.seq ?_
  refine AWP.region ?_
  refine rC (Calm.assign rfl) ?_
  refine arun_nil ?_
  refine athen_n ?_
  refine AWP.seq ?_
  refine AWP.region ?_
  refine rC (Calm.move rfl) ?_
  refine rC (Calm.move rfl) ?_
  refine rC (Calm.move rfl) ?_
  refine rC (Calm.move rfl) ?_
  refine ARun.call (lit_lt rfl) go_211 rfl (c1) ?_
  rintro _ _ ⟨rfl, rfl⟩
  refine rC (Calm.move rfl) ?_
  refine rC (Calm.extract rfl rfl) ?_
  refine rC (Calm.extract rfl rfl) ?_
  refine rC (Calm.assign rfl) ?_
  refine rC (Calm.assign rfl) ?_
  refine arun_nil ?_
  refine athen_n ?_
  refine AWP.sub [(0, _), (1, _), (2, _), (3, _), (4, _), (10, _)] ⟨rfl, rfl, rfl, rfl, rfl, rfl, trivial⟩ ?_
  refine AWP.seq ?_
  refine AWP.region ?_
  refine rC (Calm.move rfl) ?_
  refine rC (Calm.move rfl) ?_
  refine rC (Calm.move rfl) ?_
  refine rC (Calm.move rfl) ?_
  refine ARun.call (lit_lt rfl) go_211 rfl (c2) ?_
  rintro _ _ ⟨rfl, rfl⟩
  refine rC (Calm.move rfl) ?_
  refine rC (Calm.extract rfl rfl) ?_
  refine rC (Calm.extract rfl rfl) ?_
  refine rC (Calm.assign rfl) ?_
  refine rC (Calm.assign rfl) ?_
  refine arun_nil ?_
  refine athen_n ?_
  refine AWP.sub [(0, _), (1, _), (2, _), (3, _), (4, _), (10, _)] ⟨rfl, rfl, rfl, rfl, rfl, rfl, trivial⟩ ?_
  refine AWP.seq ?_
  refine AWP.region ?_
  refine rC (Calm.move rfl) ?_
  refine rC (Calm.move rfl) ?_
  refine rC (Calm.move rfl) ?_
  refine rC (Calm.move rfl) ?_
  refine ARun.call (lit_lt rfl) go_211 rfl (c3) ?_
  rintro _ _ ⟨rfl, rfl⟩
  refine rC (Calm.move rfl) ?_
  refine rC (Calm.extract rfl rfl) ?_
  refine rC (Calm.extract rfl rfl) ?_
  refine rC (Calm.assign rfl) ?_
  refine rC (Calm.assign rfl) ?_
  refine arun_nil ?_
  refine athen_n ?_
  refine AWP.sub [(0, _), (1, _), (2, _), (3, _), (4, _), (10, _)] ⟨rfl, rfl, rfl, rfl, rfl, rfl, trivial⟩ ?_
  refine AWP.seq ?_
  refine AWP.region ?_
  refine rC (Calm.move rfl) ?_
  refine rC (Calm.assign rfl) ?_
  refine arun_nil ?_
  refine athen_n ?_
  refine AWP.sub [(0, _), (1, _), (2, _), (3, _), (4, _), (10, _)] ⟨rfl, rfl, rfl, rfl, rfl, rfl, trivial⟩ ?_
  refine AWP.ret ?_
  refine ⟨_, _, ⟨_, _, rfl, rfl, rfl⟩, Mem.Less.refl _, ?_⟩
  exact ⟨rfl, rfl⟩
set_option maxHeartbeats 1000000 in
theorem soU_medadj {S : Mem} (b room n cap : Nat) (hb : Fresh S b) (hn : n ≤ 1048576) (d : Array Nat) (R : Rw (fun _ => True) n d) (c : Nat) (hc : Fresh S c) (hcb : c ≠ b) (ia : Int) (a k : Nat) (ea : ia = a) (ha : 0 < a) (ha2 : a + 1 < n) (hk : k ≤ 900) :
    ACall Try.prog 205 #[.slice (some ⟨b, 0, none⟩) n cap, .int .i64 ia, .pointer (some ⟨c, 0, none⟩)] ((S.set b ⟨41, (d).toList.map encU, room⟩).set c ⟨3, [.int .i64 ((k : Nat) : Int)], 1⟩) fun r S' => r = .int .i64 ((medianAdjacent ltN d a k).1 : Nat) ∧ S' = (S.set b ⟨41, (d).toList.map encU, room⟩).set c ⟨3, [.int .i64 (((medianAdjacent ltN d a k).2 : Nat) : Int)], 1⟩ := by
  subst ea
  obtain ⟨a, rfl⟩ : ∃ q, a = q + 1 := ⟨a - 1, by omega⟩
  refine ACall.enter (args := [.slice (some ⟨b, 0, none⟩) n cap, .int .i64 ((a + 1 : Nat) : Int), .pointer (some ⟨c, 0, none⟩)]) (rs := [.tmp 6]) 15 [(0, .slice (some ⟨b, 0, none⟩) n cap), (1, .int .i64 ((a + 1 : Nat) : Int)), (2, .pointer (some ⟨c, 0, none⟩))] Try.func205 rfl rfl (Nat.le_of_ble_eq_true rfl) rfl ⟨rfl, rfl, rfl, trivial⟩ ?_
  refine AWP.seq ?_
  refine AWP.region ?_
  refine rC (Calm.assign rfl) ?_
  refine arun_nil ?_
  refine athen_n ?_
  refine AWP.seq ?_
  refine AWP.region ?_
  refine rC (Calm.move rfl) ?_
  refine rC (Calm.move rfl) ?_
  refine rC (Calm.bin rfl rfl b_sub_i64) ?_
  refine rC (Calm.move rfl) ?_
  refine rC (Calm.move rfl) ?_
  refine rC (Calm.bin rfl rfl b_add_i64) ?_
  refine rC (Calm.move rfl) ?_
  refine ARun.call (lit_lt rfl) go_206 rfl (soU_median b room n cap hb hn d R c hc hcb _ _ _ a (a + 1) (a + 2) k om_ rfl om_ (by omega) (by omega) (by omega) hk) ?_
  rintro _ _ ⟨rfl, rfl⟩
  refine rC (Calm.assign rfl) ?_
  refine arun_nil ?_
  refine athen_n ?_
  refine AWP.sub [(0, _), (1, _), (2, _), (6, _)] ⟨rfl, rfl, rfl, rfl, trivial⟩ ?_
  refine AWP.ret ?_
  refine ⟨_, _, ⟨_, _, rfl, rfl, rfl⟩, Mem.Less.refl _, ?_⟩
  exact ⟨rfl, rfl⟩
set_option maxHeartbeats 4000000 in
theorem soU_pivot {S : Mem} (b room n cap : Nat) (hb : Fresh S b) (hn : n ≤ 1048576) (d : Array Nat) (R : Rw (fun _ => True) n d) (ia ie : Int) (a e : Nat) (ha : ia = a) (he : ie = e) (hae : a < e) (hen : e ≤ n) :
    ACall Try.prog 186 #[.slice (some ⟨b, 0, none⟩) n cap, .int .i64 ia, .int .i64 ie] (S.set b ⟨41, (d).toList.map encU, room⟩) fun r S' => r = .tuple #[.int .i64 ((choosePivot ltN d a e).1 : Nat), .int .i64 (hintI (choosePivot ltN d a e).2)] ∧ S' = S.set b ⟨41, (d).toList.map encU, room⟩ ∧ a ≤ (choosePivot ltN d a e).1 ∧ (choosePivot ltN d a e).1 < e := by
  subst ha he
  obtain ⟨L, rfl⟩ : ∃ L, e = a + L := ⟨e - a, by omega⟩
  have z := R.size
  refine ACall.enter (args := [.slice (some ⟨b, 0, none⟩) n cap, .int .i64 a, .int .i64 ((a + L : Nat) : Int)]) (rs := [.tmp 6, .tmp 7]) 57 [(0, .slice (some ⟨b, 0, none⟩) n cap), (1, .int .i64 a), (2, .int .i64 ((a + L : Nat) : Int))] Try.func186 rfl rfl (Nat.le_of_ble_eq_true rfl) rfl ⟨rfl, rfl, rfl, trivial⟩ ?_
  by_cases h8 : 8 ≤ L
  · refine AWP.seq ?_
    refine AWP.region ?_
    refine rC (Calm.assign rfl) ?_
    refine rC (Calm.assign rfl) ?_
    refine arun_nil ?_
    refine athen_n ?_
    refine AWP.seq ?_
    refine AWP.region ?_
    refine rC (Calm.move rfl) ?_
    refine rC (Calm.move rfl) ?_
    refine rC (Calm.bin rfl rfl b_sub_i64) ?_
    refine rC (Calm.assign rfl) ?_
    refine arun_nil ?_
    refine athen_n ?_
    refine AWP.sub [(0, _), (1, _), (2, _), (6, _), (7, _), (8, _)] ⟨rfl, rfl, rfl, rfl, rfl, rfl, trivial⟩ ?_
    refine AWP.seq ?_
    refine AWP.region ?_
    refine ARun.alloc (lit_lt rfl) ty_zero_3 ?_
    intro b9 f9
    have g9 := f9
    repeat ((with_reducible replace g9 := fresh_set g9); obtain ⟨g9, _⟩ := g9)
    (try simp only [List.length_cons, List.length_nil, Nat.zero_add, Nat.reduceAdd])
    refine arun_nil ?_
    refine athen_n ?_
    refine AWP.seq ?_
    refine AWP.region ?_
    refine rC (Calm.move rfl) ?_
    refine rC (Calm.move rfl) ?_
    refine rC (Calm.bin rfl rfl b_quo_i64) ?_
    refine rC (Calm.bin rfl rfl b_mul_i64) ?_
    refine rC (Calm.bin rfl rfl b_add_i64) ?_
    refine rC (Calm.assign rfl) ?_
    refine arun_nil ?_
    refine athen_n ?_
    refine AWP.sub [(0, _), (1, _), (2, _), (6, _), (7, _), (8, _), (9, _), (10, _)] ⟨rfl, rfl, rfl, rfl, rfl, rfl, rfl, rfl, trivial⟩ ?_
    refine AWP.seq ?_
    refine AWP.region ?_
    refine rC (Calm.move rfl) ?_
    refine rC (Calm.move rfl) ?_
    refine rC (Calm.bin rfl rfl b_quo_i64) ?_
    refine rC (Calm.bin rfl rfl b_mul_i64) ?_
    refine rC (Calm.bin rfl rfl b_add_i64) ?_
    refine rC (Calm.assign rfl) ?_
    refine arun_nil ?_
    refine athen_n ?_
    refine AWP.sub [(0, _), (1, _), (2, _), (6, _), (7, _), (8, _), (9, _), (10, _), (11, _)] ⟨rfl, rfl, rfl, rfl, rfl, rfl, rfl, rfl, rfl, trivial⟩ ?_
    refine AWP.seq ?_
    refine AWP.region ?_
    refine rC (Calm.move rfl) ?_
    refine rC (Calm.move rfl) ?_
    refine rC (Calm.bin rfl rfl b_quo_i64) ?_
    refine rC (Calm.bin rfl rfl b_mul_i64) ?_
    refine rC (Calm.bin rfl rfl b_add_i64) ?_
    refine rC (Calm.assign rfl) ?_
    refine arun_nil ?_
    refine athen_n ?_
    refine AWP.sub [(0, _), (1, _), (2, _), (6, _), (7, _), (8, _), (9, _), (10, _), (11, _), (12, _)] ⟨rfl, rfl, rfl, rfl, rfl, rfl, rfl, rfl, rfl, rfl, trivial⟩ ?_
    refine AWP.seq ?_
    refine AWP.seq ?_
    refine AWP.region ?_
    refine rC (Calm.move rfl) ?_
    refine rC (Calm.bin rfl rfl b_geq) ?_
    refine arun_nil ?_
    refine athen_n ?_
    refine AWP.sub [(0, _), (1, _), (2, _), (6, _), (7, _), (8, _), (9, _), (10, _), (11, _), (12, _), (32, _)] ⟨rfl, rfl, rfl, rfl, rfl, rfl, rfl, rfl, rfl, rfl, rfl, trivial⟩ ?_
    refine AWP.condT rfl (by first | rfl | (simp; done) | (simp; omega)) ?_
    by_cases h50 : 50 ≤ L
    · refine AWP.seq ?_
      refine AWP.seq ?_
      refine AWP.region ?_
      refine rC (Calm.move rfl) ?_
      refine rC (Calm.bin rfl rfl b_geq) ?_
      refine arun_nil ?_
      refine athen_n ?_
      refine AWP.sub [(0, _), (1, _), (2, _), (6, _), (7, _), (8, _), (9, _), (10, _), (11, _), (12, _), (32, _), (34, _)] ⟨rfl, rfl, rfl, rfl, rfl, rfl, rfl, rfl, rfl, rfl, rfl, rfl, trivial⟩ ?_
      refine AWP.condT rfl (by first | rfl | (simp; done) | (simp; omega)) ?_
      obtain ⟨⟨i1, k1⟩, q1⟩ : ∃ q, q = medianAdjacent ltN d (a + L / 4 * 1) 0 := ⟨_, rfl⟩
      obtain ⟨⟨j1, k2⟩, q2⟩ : ∃ q, q = medianAdjacent ltN d (a + L / 4 * 2) k1 := ⟨_, rfl⟩
      obtain ⟨⟨o1, k3⟩, q3⟩ : ∃ q, q = medianAdjacent ltN d (a + L / 4 * 3) k2 := ⟨_, rfl⟩
      obtain ⟨⟨pv, k⟩, q4⟩ : ∃ q, q = median ltN d i1 j1 o1 k3 := ⟨_, rfl⟩
      have m1 := medadj_lt ltN q1 (lo := a) (hi := a + L) (by omega) (by omega)
      have m2 := medadj_lt ltN q2 (lo := a) (hi := a + L) (by omega) (by omega)
      have m3 := medadj_lt ltN q3 (lo := a) (hi := a + L) (by omega) (by omega)
      have hr := median_lt ltN q4 (lo := a) (hi := a + L) m1.1 m2.1 m3.1
      have n1 := m1.2; have n2 := m2.2; have n3 := m3.2; have n4 := hr.2
      have hp : choosePivot ltN d a (a + L) = (pv, if k = 0 then .increasing else if k = 12 then .decreasing else .unknown) := by unfold choosePivot; simp only [Nat.add_sub_cancel_left, if_pos h8, if_pos h50, ← q1, ← q2, ← q3, ← q4]
      replace hr := hr.1
      refine AWP.seq ?_
      refine AWP.region ?_
      refine rC (Calm.move rfl) ?_
      refine rC (Calm.move rfl) ?_
      refine ARun.call (lit_lt rfl) go_205 rfl ((q1 ▸ soU_medadj b room n cap hb hn d R b9 g9 (by assumption) _ (a + L / 4 * 1) 0 om_ (by omega) (by omega) (by omega))) ?_
      rintro _ _ ⟨rfl, rfl⟩
      refine rC (Calm.assign rfl) ?_
      refine arun_nil ?_
      refine athen_n ?_
      refine AWP.sub [(0, _), (1, _), (2, _), (6, _), (7, _), (8, _), (9, _), (10, _), (11, _), (12, _), (32, _), (34, _)] ⟨rfl, rfl, rfl, rfl, rfl, rfl, rfl, rfl, rfl, rfl, rfl, rfl, trivial⟩ ?_
      refine AWP.seq ?_
      refine AWP.region ?_
      refine rC (Calm.move rfl) ?_
      refine rC (Calm.move rfl) ?_
      refine ARun.call (lit_lt rfl) go_205 rfl ((q2 ▸ soU_medadj b room n cap hb hn d R b9 g9 (by assumption) _ (a + L / 4 * 2) k1 om_ (by omega) (by omega) (by omega))) ?_
      rintro _ _ ⟨rfl, rfl⟩
      refine rC (Calm.assign rfl) ?_
      refine arun_nil ?_
      refine athen_n ?_
      refine AWP.sub [(0, _), (1, _), (2, _), (6, _), (7, _), (8, _), (9, _), (10, _), (11, _), (12, _), (32, _), (34, _)] ⟨rfl, rfl, rfl, rfl, rfl, rfl, rfl, rfl, rfl, rfl, rfl, rfl, trivial⟩ ?_
      refine AWP.region ?_
      refine rC (Calm.move rfl) ?_
      refine rC (Calm.move rfl) ?_
      refine ARun.call (lit_lt rfl) go_205 rfl ((q3 ▸ soU_medadj b room n cap hb hn d R b9 g9 (by assumption) _ (a + L / 4 * 3) k2 om_ (by omega) (by omega) (by omega))) ?_
      rintro _ _ ⟨rfl, rfl⟩
      refine rC (Calm.assign rfl) ?_
      refine arun_nil ?_
      refine athen_n ?_
      refine AWP.sub [(0, _), (1, _), (2, _), (6, _), (7, _), (8, _), (9, _), (10, _), (11, _), (12, _), (32, _), (34, _)] ⟨rfl, rfl, rfl, rfl, rfl, rfl, rfl, rfl, rfl, rfl, rfl, rfl, trivial⟩ ?_
      refine AWP.region ?_
      refine rC (Calm.move rfl) ?_
      refine rC (Calm.move rfl) ?_
      refine rC (Calm.move rfl) ?_
      refine rC (Calm.move rfl) ?_
      refine ARun.call (lit_lt rfl) go_206 rfl ((q4 ▸ soU_median b room n cap hb hn d R b9 g9 (by assumption) _ _ _ i1 j1 o1 k3 rfl rfl rfl (by omega) (by omega) (by omega) (by omega))) ?_
      rintro _ _ ⟨rfl, rfl⟩
      refine rC (Calm.assign rfl) ?_
      refine arun_nil ?_
      refine athen_n ?_
      refine AWP.sub [(0, _), (1, _), (2, _), (6, _), (7, _), (8, _), (9, _), (10, _), (11, _), (12, _), (32, _), (34, _)] ⟨rfl, rfl, rfl, rfl, rfl, rfl, rfl, rfl, rfl, rfl, rfl, rfl, trivial⟩ ?_
      by_cases k0 : k = 0
      · subst k0
        refine AWP.seq ?_
        refine AWP.region ?_
        refine rC (ld_ ty_plain_3 rfl) ?_
        refine arun_nil ?_
        refine athen_n ?_
        refine AWP.block ?_
        refine AWP.seq ?_
        refine AWP.region ?_
        refine rC (Calm.bin rfl rfl b_eql) ?_
        refine rC (Calm.assign rfl) ?_
        refine arun_nil ?_
        refine athen_n ?_
        refine AWP.sub [(0, _), (1, _), (2, _), (6, _), (7, _), (8, _), (9, _), (10, _), (11, _), (12, _), (32, _), (34, _), (49, _), (51, _)] ⟨rfl, rfl, rfl, rfl, rfl, rfl, rfl, rfl, rfl, rfl, rfl, rfl, rfl, rfl, trivial⟩ ?_
        refine AWP.condT rfl (by first | rfl | (simp; done) | (simp; omega)) ?_
        refine AWP.seq ?_
        refine AWP.region ?_
        refine rC (Calm.move rfl) ?_
        refine rC (Calm.assign rfl) ?_
        refine rC (Calm.assign rfl) ?_
        refine arun_nil ?_
        refine athen_n ?_
        refine AWP.sub [(0, _), (1, _), (2, _), (6, _), (7, _), (8, _), (9, _), (10, _), (11, _), (12, _), (32, _), (34, _), (49, _), (51, _)] ⟨rfl, rfl, rfl, rfl, rfl, rfl, rfl, rfl, rfl, rfl, rfl, rfl, rfl, rfl, trivial⟩ ?_
        refine AWP.ret ?_
        refine ain_ret ?_
        refine ⟨_, S.set b ⟨41, (d).toList.map encU, room⟩, ⟨_, _, rfl, ⟨_, _, rfl, rfl, rfl⟩, rfl⟩, less_, ?_⟩
        exact ⟨by rw [hp]; rfl, rfl, by rw [hp]; exact hr⟩
      · refine AWP.seq ?_
        refine AWP.region ?_
        refine rC (ld_ ty_plain_3 rfl) ?_
        refine arun_nil ?_
        refine athen_n ?_
        refine AWP.block ?_
        refine AWP.seq ?_
        refine AWP.region ?_
        refine rC (Calm.bin rfl rfl b_eql) ?_
        refine rC (Calm.assign rfl) ?_
        refine arun_nil ?_
        refine athen_n ?_
        refine AWP.sub [(0, _), (1, _), (2, _), (6, _), (7, _), (8, _), (9, _), (10, _), (11, _), (12, _), (32, _), (34, _), (49, _), (51, _)] ⟨rfl, rfl, rfl, rfl, rfl, rfl, rfl, rfl, rfl, rfl, rfl, rfl, rfl, rfl, trivial⟩ ?_
        refine AWP.condF rfl (by first | rfl | (simp; done) | (simp; omega)) ?_
        by_cases k1 : k = 12
        · subst k1
          refine AWP.seq ?_
          refine AWP.region ?_
          refine rC (Calm.bin rfl rfl b_eql) ?_
          refine rC (Calm.assign rfl) ?_
          refine arun_nil ?_
          refine athen_n ?_
          refine AWP.sub [(0, _), (1, _), (2, _), (6, _), (7, _), (8, _), (9, _), (10, _), (11, _), (12, _), (32, _), (34, _), (49, _), (51, _), (54, _)] ⟨rfl, rfl, rfl, rfl, rfl, rfl, rfl, rfl, rfl, rfl, rfl, rfl, rfl, rfl, rfl, trivial⟩ ?_
          refine AWP.condT rfl (by first | rfl | (simp; done) | (simp; omega)) ?_
          refine AWP.seq ?_
          refine AWP.region ?_
          refine rC (Calm.move rfl) ?_
          refine rC (Calm.assign rfl) ?_
          refine rC (Calm.assign rfl) ?_
          refine arun_nil ?_
          refine athen_n ?_
          refine AWP.sub [(0, _), (1, _), (2, _), (6, _), (7, _), (8, _), (9, _), (10, _), (11, _), (12, _), (32, _), (34, _), (49, _), (51, _), (54, _)] ⟨rfl, rfl, rfl, rfl, rfl, rfl, rfl, rfl, rfl, rfl, rfl, rfl, rfl, rfl, rfl, trivial⟩ ?_
          refine AWP.ret ?_
          refine ain_ret ?_
          refine ⟨_, S.set b ⟨41, (d).toList.map encU, room⟩, ⟨_, _, rfl, ⟨_, _, rfl, rfl, rfl⟩, rfl⟩, less_, ?_⟩
          exact ⟨by rw [hp]; rfl, rfl, by rw [hp]; exact hr⟩
        · refine AWP.seq ?_
          refine AWP.region ?_
          refine rC (Calm.bin rfl rfl b_eql) ?_
          refine rC (Calm.assign rfl) ?_
          refine arun_nil ?_
          refine athen_n ?_
          refine AWP.sub [(0, _), (1, _), (2, _), (6, _), (7, _), (8, _), (9, _), (10, _), (11, _), (12, _), (32, _), (34, _), (49, _), (51, _), (54, _)] ⟨rfl, rfl, rfl, rfl, rfl, rfl, rfl, rfl, rfl, rfl, rfl, rfl, rfl, rfl, rfl, trivial⟩ ?_
          refine AWP.condF rfl (by first | rfl | (simp; done) | (simp; omega)) ?_
          refine AWP.seq ?_
          refine AWP.region ?_
          refine rC (Calm.move rfl) ?_
          refine rC (Calm.assign rfl) ?_
          refine rC (Calm.assign rfl) ?_
          refine arun_nil ?_
          refine athen_n ?_
          refine AWP.sub [(0, _), (1, _), (2, _), (6, _), (7, _), (8, _), (9, _), (10, _), (11, _), (12, _), (32, _), (34, _), (49, _), (51, _), (54, _)] ⟨rfl, rfl, rfl, rfl, rfl, rfl, rfl, rfl, rfl, rfl, rfl, rfl, rfl, rfl, rfl, trivial⟩ ?_
          refine AWP.ret ?_
          refine ain_ret ?_
          refine ⟨_, S.set b ⟨41, (d).toList.map encU, room⟩, ⟨_, _, rfl, ⟨_, _, rfl, rfl, rfl⟩, rfl⟩, less_, ?_⟩
          exact ⟨by rw [hp, piv_hint k0 k1]; rfl, rfl, by rw [hp]; exact hr⟩
    · refine AWP.seq ?_
      refine AWP.seq ?_
      refine AWP.region ?_
      refine rC (Calm.move rfl) ?_
      refine rC (Calm.bin rfl rfl b_geq) ?_
      refine arun_nil ?_
      refine athen_n ?_
      refine AWP.sub [(0, _), (1, _), (2, _), (6, _), (7, _), (8, _), (9, _), (10, _), (11, _), (12, _), (32, _), (34, _)] ⟨rfl, rfl, rfl, rfl, rfl, rfl, rfl, rfl, rfl, rfl, rfl, rfl, trivial⟩ ?_
      refine AWP.condF rfl (by first | rfl | (simp; done) | (simp; omega)) ?_
      obtain ⟨⟨pv, k⟩, q4⟩ : ∃ q, q = median ltN d (a + L / 4 * 1) (a + L / 4 * 2) (a + L / 4 * 3) 0 := ⟨_, rfl⟩
      have hr := median_lt ltN q4 (lo := a) (hi := a + L) (by omega) (by omega) (by omega)
      have n4 := hr.2
      have hp : choosePivot ltN d a (a + L) = (pv, if k = 0 then .increasing else if k = 12 then .decreasing else .unknown) := by unfold choosePivot; simp only [Nat.add_sub_cancel_left, if_pos h8, if_neg h50, ← q4]
      replace hr := hr.1
      refine AWP.skip ?_
      refine athen_n ?_
      refine AWP.region ?_
      refine rC (Calm.move rfl) ?_
      refine rC (Calm.move rfl) ?_
      refine rC (Calm.move rfl) ?_
      refine rC (Calm.move rfl) ?_
      refine ARun.call (lit_lt rfl) go_206 rfl ((q4 ▸ soU_median b room n cap hb hn d R b9 g9 (by assumption) _ _ _ (a + L / 4 * 1) (a + L / 4 * 2) (a + L / 4 * 3) 0 om_ om_ om_ (by omega) (by omega) (by omega) (by omega))) ?_
      rintro _ _ ⟨rfl, rfl⟩
      refine rC (Calm.assign rfl) ?_
      refine arun_nil ?_
      refine athen_n ?_
      refine AWP.sub [(0, _), (1, _), (2, _), (6, _), (7, _), (8, _), (9, _), (10, _), (11, _), (12, _), (32, _), (34, _)] ⟨rfl, rfl, rfl, rfl, rfl, rfl, rfl, rfl, rfl, rfl, rfl, rfl, trivial⟩ ?_
      by_cases k0 : k = 0
      · subst k0
        refine AWP.seq ?_
        refine AWP.region ?_
        refine rC (ld_ ty_plain_3 rfl) ?_
        refine arun_nil ?_
        refine athen_n ?_
        refine AWP.block ?_
        refine AWP.seq ?_
        refine AWP.region ?_
        refine rC (Calm.bin rfl rfl b_eql) ?_
        refine rC (Calm.assign rfl) ?_
        refine arun_nil ?_
        refine athen_n ?_
        refine AWP.sub [(0, _), (1, _), (2, _), (6, _), (7, _), (8, _), (9, _), (10, _), (11, _), (12, _), (32, _), (34, _), (49, _), (51, _)] ⟨rfl, rfl, rfl, rfl, rfl, rfl, rfl, rfl, rfl, rfl, rfl, rfl, rfl, rfl, trivial⟩ ?_
        refine AWP.condT rfl (by first | rfl | (simp; done) | (simp; omega)) ?_
        refine AWP.seq ?_
        refine AWP.region ?_
        refine rC (Calm.move rfl) ?_
        refine rC (Calm.assign rfl) ?_
        refine rC (Calm.assign rfl) ?_
        refine arun_nil ?_
        refine athen_n ?_
        refine AWP.sub [(0, _), (1, _), (2, _), (6, _), (7, _), (8, _), (9, _), (10, _), (11, _), (12, _), (32, _), (34, _), (49, _), (51, _)] ⟨rfl, rfl, rfl, rfl, rfl, rfl, rfl, rfl, rfl, rfl, rfl, rfl, rfl, rfl, trivial⟩ ?_
        refine AWP.ret ?_
        refine ain_ret ?_
        refine ⟨_, S.set b ⟨41, (d).toList.map encU, room⟩, ⟨_, _, rfl, ⟨_, _, rfl, rfl, rfl⟩, rfl⟩, less_, ?_⟩
        exact ⟨by rw [hp]; rfl, rfl, by rw [hp]; exact hr⟩
      · refine AWP.seq ?_
        refine AWP.region ?_
        refine rC (ld_ ty_plain_3 rfl) ?_
        refine arun_nil ?_
        refine athen_n ?_
        refine AWP.block ?_
        refine AWP.seq ?_
        refine AWP.region ?_
        refine rC (Calm.bin rfl rfl b_eql) ?_
        refine rC (Calm.assign rfl) ?_
        refine arun_nil ?_
        refine athen_n ?_
        refine AWP.sub [(0, _), (1, _), (2, _), (6, _), (7, _), (8, _), (9, _), (10, _), (11, _), (12, _), (32, _), (34, _), (49, _), (51, _)] ⟨rfl, rfl, rfl, rfl, rfl, rfl, rfl, rfl, rfl, rfl, rfl, rfl, rfl, rfl, trivial⟩ ?_
        refine AWP.condF rfl (by first | rfl | (simp; done) | (simp; omega)) ?_
        by_cases k1 : k = 12
        · subst k1
          refine AWP.seq ?_
          refine AWP.region ?_
          refine rC (Calm.bin rfl rfl b_eql) ?_
          refine rC (Calm.assign rfl) ?_
          refine arun_nil ?_
          refine athen_n ?_
          refine AWP.sub [(0, _), (1, _), (2, _), (6, _), (7, _), (8, _), (9, _), (10, _), (11, _), (12, _), (32, _), (34, _), (49, _), (51, _), (54, _)] ⟨rfl, rfl, rfl, rfl, rfl, rfl, rfl, rfl, rfl, rfl, rfl, rfl, rfl, rfl, rfl, trivial⟩ ?_
          refine AWP.condT rfl (by first | rfl | (simp; done) | (simp; omega)) ?_
          refine AWP.seq ?_
          refine AWP.region ?_
          refine rC (Calm.move rfl) ?_
          refine rC (Calm.assign rfl) ?_
          refine rC (Calm.assign rfl) ?_
          refine arun_nil ?_
          refine athen_n ?_
          refine AWP.sub [(0, _), (1, _), (2, _), (6, _), (7, _), (8, _), (9, _), (10, _), (11, _), (12, _), (32, _), (34, _), (49, _), (51, _), (54, _)] ⟨rfl, rfl, rfl, rfl, rfl, rfl, rfl, rfl, rfl, rfl, rfl, rfl, rfl, rfl, rfl, trivial⟩ ?_
          refine AWP.ret ?_
          refine ain_ret ?_
          refine ⟨_, S.set b ⟨41, (d).toList.map encU, room⟩, ⟨_, _, rfl, ⟨_, _, rfl, rfl, rfl⟩, rfl⟩, less_, ?_⟩
          exact ⟨by rw [hp]; rfl, rfl, by rw [hp]; exact hr⟩
        · refine AWP.seq ?_
          refine AWP.region ?_
          refine rC (Calm.bin rfl rfl b_eql) ?_
          refine rC (Calm.assign rfl) ?_
          refine arun_nil ?_
          refine athen_n ?_
          refine AWP.sub [(0, _), (1, _), (2, _), (6, _), (7, _), (8, _), (9, _), (10, _), (11, _), (12, _), (32, _), (34, _), (49, _), (51, _), (54, _)] ⟨rfl, rfl, rfl, rfl, rfl, rfl, rfl, rfl, rfl, rfl, rfl, rfl, rfl, rfl, rfl, trivial⟩ ?_
          refine AWP.condF rfl (by first | rfl | (simp; done) | (simp; omega)) ?_
          refine AWP.seq ?_
          refine AWP.region ?_
          refine rC (Calm.move rfl) ?_
          refine rC (Calm.assign rfl) ?_
          refine rC (Calm.assign rfl) ?_
          refine arun_nil ?_
          refine athen_n ?_
          refine AWP.sub [(0, _), (1, _), (2, _), (6, _), (7, _), (8, _), (9, _), (10, _), (11, _), (12, _), (32, _), (34, _), (49, _), (51, _), (54, _)] ⟨rfl, rfl, rfl, rfl, rfl, rfl, rfl, rfl, rfl, rfl, rfl, rfl, rfl, rfl, rfl, trivial⟩ ?_
          refine AWP.ret ?_
          refine ain_ret ?_
          refine ⟨_, S.set b ⟨41, (d).toList.map encU, room⟩, ⟨_, _, rfl, ⟨_, _, rfl, rfl, rfl⟩, rfl⟩, less_, ?_⟩
          exact ⟨by rw [hp, piv_hint k0 k1]; rfl, rfl, by rw [hp]; exact hr⟩
  · refine AWP.seq ?_
    refine AWP.region ?_
    refine rC (Calm.assign rfl) ?_
    refine rC (Calm.assign rfl) ?_
    refine arun_nil ?_
    refine athen_n ?_
    refine AWP.seq ?_
    refine AWP.region ?_
    refine rC (Calm.move rfl) ?_
    refine rC (Calm.move rfl) ?_
    refine rC (Calm.bin rfl rfl b_sub_i64) ?_
    refine rC (Calm.assign rfl) ?_
    refine arun_nil ?_
    refine athen_n ?_
    refine AWP.sub [(0, _), (1, _), (2, _), (6, _), (7, _), (8, _)] ⟨rfl, rfl, rfl, rfl, rfl, rfl, trivial⟩ ?_
    refine AWP.seq ?_
    refine AWP.region ?_
    refine ARun.alloc (lit_lt rfl) ty_zero_3 ?_
    intro b9 f9
    have g9 := f9
    repeat ((with_reducible replace g9 := fresh_set g9); obtain ⟨g9, _⟩ := g9)
    (try simp only [List.length_cons, List.length_nil, Nat.zero_add, Nat.reduceAdd])
    refine arun_nil ?_
    refine athen_n ?_
    refine AWP.seq ?_
    refine AWP.region ?_
    refine rC (Calm.move rfl) ?_
    refine rC (Calm.move rfl) ?_
    refine rC (Calm.bin rfl rfl b_quo_i64) ?_
    refine rC (Calm.bin rfl rfl b_mul_i64) ?_
    refine rC (Calm.bin rfl rfl b_add_i64) ?_
    refine rC (Calm.assign rfl) ?_
    refine arun_nil ?_
    refine athen_n ?_
    refine AWP.sub [(0, _), (1, _), (2, _), (6, _), (7, _), (8, _), (9, _), (10, _)] ⟨rfl, rfl, rfl, rfl, rfl, rfl, rfl, rfl, trivial⟩ ?_
    refine AWP.seq ?_
    refine AWP.region ?_
    refine rC (Calm.move rfl) ?_
    refine rC (Calm.move rfl) ?_
    refine rC (Calm.bin rfl rfl b_quo_i64) ?_
    refine rC (Calm.bin rfl rfl b_mul_i64) ?_
    refine rC (Calm.bin rfl rfl b_add_i64) ?_
    refine rC (Calm.assign rfl) ?_
    refine arun_nil ?_
    refine athen_n ?_
    refine AWP.sub [(0, _), (1, _), (2, _), (6, _), (7, _), (8, _), (9, _), (10, _), (11, _)] ⟨rfl, rfl, rfl, rfl, rfl, rfl, rfl, rfl, rfl, trivial⟩ ?_
    refine AWP.seq ?_
    refine AWP.region ?_
    refine rC (Calm.move rfl) ?_
    refine rC (Calm.move rfl) ?_
    refine rC (Calm.bin rfl rfl b_quo_i64) ?_
    refine rC (Calm.bin rfl rfl b_mul_i64) ?_
    refine rC (Calm.bin rfl rfl b_add_i64) ?_
    refine rC (Calm.assign rfl) ?_
    refine arun_nil ?_
    refine athen_n ?_
    refine AWP.sub [(0, _), (1, _), (2, _), (6, _), (7, _), (8, _), (9, _), (10, _), (11, _), (12, _)] ⟨rfl, rfl, rfl, rfl, rfl, rfl, rfl, rfl, rfl, rfl, trivial⟩ ?_
    refine AWP.seq ?_
    refine AWP.seq ?_
    refine AWP.region ?_
    refine rC (Calm.move rfl) ?_
    refine rC (Calm.bin rfl rfl b_geq) ?_
    refine arun_nil ?_
    refine athen_n ?_
    refine AWP.sub [(0, _), (1, _), (2, _), (6, _), (7, _), (8, _), (9, _), (10, _), (11, _), (12, _), (32, _)] ⟨rfl, rfl, rfl, rfl, rfl, rfl, rfl, rfl, rfl, rfl, rfl, trivial⟩ ?_
    refine AWP.condF rfl (by first | rfl | (simp; done) | (simp; omega)) ?_
    have hp : choosePivot ltN d a (a + L) = (a + L / 4 * 2, .increasing) := by unfold choosePivot; simp only [Nat.add_sub_cancel_left, if_neg h8]; rfl
    refine AWP.skip ?_
    refine athen_n ?_
    refine AWP.seq ?_
    refine AWP.region ?_
    refine rC (ld_ ty_plain_3 rfl) ?_
    refine arun_nil ?_
    refine athen_n ?_
    refine AWP.block ?_
    refine AWP.seq ?_
    refine AWP.region ?_
    refine rC (Calm.bin rfl rfl b_eql) ?_
    refine rC (Calm.assign rfl) ?_
    refine arun_nil ?_
    refine athen_n ?_
    refine AWP.sub [(0, _), (1, _), (2, _), (6, _), (7, _), (8, _), (9, _), (10, _), (11, _), (12, _), (32, _), (49, _), (51, _)] ⟨rfl, rfl, rfl, rfl, rfl, rfl, rfl, rfl, rfl, rfl, rfl, rfl, rfl, trivial⟩ ?_
    refine AWP.condT rfl (by first | rfl | (simp; done) | (simp; omega)) ?_
    refine AWP.seq ?_
    refine AWP.region ?_
    refine rC (Calm.move rfl) ?_
    refine rC (Calm.assign rfl) ?_
    refine rC (Calm.assign rfl) ?_
    refine arun_nil ?_
    refine athen_n ?_
    refine AWP.sub [(0, _), (1, _), (2, _), (6, _), (7, _), (8, _), (9, _), (10, _), (11, _), (12, _), (32, _), (49, _), (51, _)] ⟨rfl, rfl, rfl, rfl, rfl, rfl, rfl, rfl, rfl, rfl, rfl, rfl, rfl, trivial⟩ ?_
    refine AWP.ret ?_
    refine ain_ret ?_
    refine ⟨_, S.set b ⟨41, (d).toList.map encU, room⟩, ⟨_, _, rfl, ⟨_, _, rfl, rfl, rfl⟩, rfl⟩, less_, ?_⟩
    exact ⟨by rw [hp]; exact piv_val om_, rfl, by rw [hp]; exact ⟨by show a ≤ a + L / 4 * 2; omega, by show a + L / 4 * 2 < a + L; omega⟩⟩
set_option maxHeartbeats 4000000 in
theorem soU_brk {S : Mem} (b room n cap : Nat) (hb : Fresh S b) (hn : n ≤ 1048576) (d : Array Nat) (R : Rw (fun _ => True) n d) (ia ie : Int) (a e : Nat) (ha : ia = a) (he : ie = e) (hae : a ≤ e) (hen : e ≤ n) :
    ACall Try.prog 185 #[.slice (some ⟨b, 0, none⟩) n cap, .int .i64 ia, .int .i64 ie] (S.set b ⟨41, (d).toList.map encU, room⟩) fun r S' => S' = S.set b ⟨41, (breakPatterns d a e).toList.map encU, room⟩ ∧ Rw (fun _ => True) n (breakPatterns d a e) := by
  subst ha he
  obtain ⟨L, rfl⟩ : ∃ L, e = a + L := ⟨e - a, by omega⟩
  have z := R.size
  by_cases h8 : 8 ≤ L
  · have hbp := bp_eq (d := d) (a := a) h8
    have hmb := bp_mod L (by omega) (by omega)
    generalize hmo : 1 <<< bitsLen L = mo at *
    generalize hba : a + L / 4 * 2 - 1 = ba at *
    have hoL : ((UInt64.ofNat L).toNat : Nat) = L := by rw [UInt64.toNat_ofNat']; exact Nat.mod_eq_of_lt (by omega)
    refine ACall.enter (args := [.slice (some ⟨b, 0, none⟩) n cap, .int .i64 a, .int .i64 ((a + L : Nat) : Int)]) (rs := []) 65 [(0, .slice (some ⟨b, 0, none⟩) n cap), (1, .int .i64 a), (2, .int .i64 ((a + L : Nat) : Int))] Try.func185 rfl rfl (Nat.le_of_ble_eq_true rfl) rfl ⟨rfl, rfl, rfl, trivial⟩ ?_
    refine AWP.seq ?_
    refine AWP.region ?_
    refine rC (Calm.move rfl) ?_
    refine rC (Calm.move rfl) ?_
    refine rC (Calm.bin rfl rfl b_sub_i64) ?_
    refine rC (Calm.assign rfl) ?_
    refine arun_nil ?_
    refine athen_n ?_
    refine AWP.sub [(0, _), (1, _), (2, _), (6, _)] ⟨rfl, rfl, rfl, rfl, trivial⟩ ?_
    refine AWP.seq ?_
    refine AWP.region ?_
    refine rC (Calm.move rfl) ?_
    refine rC (Calm.bin rfl rfl b_geq) ?_
    refine arun_nil ?_
    refine athen_n ?_
    refine AWP.sub [(0, _), (1, _), (2, _), (6, _), (15, _)] ⟨rfl, rfl, rfl, rfl, rfl, trivial⟩ ?_
    refine AWP.condT rfl (by first | rfl | (simp; done) | (simp; omega)) ?_
    refine AWP.seq ?_
    refine AWP.region ?_
    refine rC (Calm.move rfl) ?_
    refine rC (Calm.conv rfl (conv_intW Try.underlying3 Try.underlying188 (IntWalk.u64_in _ (by omega)))) ?_
    refine ARun.alloc (lit_lt rfl) ty_zero_188 ?_
    intro b7 f7
    have g7 := f7
    repeat ((with_reducible replace g7 := fresh_set g7); obtain ⟨g7, _⟩ := g7)
    (try simp only [List.length_cons, List.length_nil, Nat.zero_add, Nat.reduceAdd])
    refine ARun.store1 rfl rfl ty_size_188 rfl own_ lens_ rfl ?_
    (try simp only [Mem.set_set, List.set_cons_zero, List.set_cons_succ, Nat.zero_add, Nat.reduceAdd])
    refine arun_nil ?_
    refine athen_n ?_
    refine AWP.sub [(0, _), (1, _), (2, _), (6, _), (15, _), (7, _)] ⟨rfl, rfl, rfl, rfl, rfl, rfl, trivial⟩ ?_
    refine AWP.less ((S.set b ⟨41, (d).toList.map encU, room⟩).set b7 (xorB (UInt64.ofNat L).toNat)) (by unfold xorB; rw [hoL, show ((a + L : Nat) : Int) - (a : Int) = (L : Int) by omega]; exact Mem.Less.refl _) ?_
    refine AWP.seq ?_
    refine AWP.region ?_
    refine rC (Calm.move rfl) ?_
    refine ARun.call (lit_lt rfl) go_179 rfl ((hmo ▸ so_pow _ L om_ (by omega) _)) ?_
    rintro _ _ ⟨rfl, rfl⟩
    refine rC (Calm.assign rfl) ?_
    refine arun_nil ?_
    refine athen_n ?_
    refine AWP.sub [(0, _), (1, _), (2, _), (6, _), (15, _), (7, _), (8, _)] ⟨rfl, rfl, rfl, rfl, rfl, rfl, rfl, trivial⟩ ?_
    refine AWP.seq ?_
    refine AWP.region ?_
    refine rC (Calm.move rfl) ?_
    refine rC (Calm.move rfl) ?_
    refine rC (Calm.bin rfl rfl b_quo_i64) ?_
    refine rC (Calm.bin rfl rfl b_mul_i64) ?_
    refine rC (Calm.bin rfl rfl b_add_i64) ?_
    refine rC (Calm.bin rfl rfl b_sub_i64) ?_
    refine rC (Calm.assign rfl) ?_
    refine arun_nil ?_
    refine athen_n ?_
    refine AWP.sub [(0, _), (1, _), (2, _), (6, _), (15, _), (7, _), (8, _), (9, _)] ⟨rfl, rfl, rfl, rfl, rfl, rfl, rfl, rfl, trivial⟩ ?_
    refine AWP.block ?_
    refine AWP.loop (X := Nat × UInt64 × Array Nat) (fun x => [(0, .slice (some ⟨b, 0, none⟩) n cap), (1, .int .i64 a), (6, .int .i64 L), (7, .pointer (some ⟨b7, 0, none⟩)), (8, .int .u64 mo), (9, .int .i64 ((ba + (3 - x.1) : Nat) : Int))]) (fun x => (S.set b ⟨41, (x.2.2).toList.map encU, room⟩).set b7 (xorB (x.2.1).toNat)) (fun x => x.1 ≤ 3 ∧ Rw (fun _ => True) n x.2.2 ∧ bpR a L mo ba x.1 x.2 = bpR a L mo ba 3 (UInt64.ofNat L, d)) (fun x => x.1) ((3, UInt64.ofNat L, d)) ⟨sb_, sb_, sb_, sb_, sb_, sb_, trivial⟩ (Mem.Less.refl _) (⟨Nat.le_refl _, R, rfl⟩) ?_
    rintro ⟨k, r, d1⟩ ⟨h1, R1, h3⟩
    (try dsimp only at *)
    have z1 := R1.size
    by_cases hk : 0 < k
    · obtain ⟨k, rfl⟩ : ∃ q, k = q + 1 := ⟨k - 1, by omega⟩
      refine AWP.seq ?_
      refine AWP.seq ?_
      refine AWP.region ?_
      refine rC (Calm.move rfl) ?_
      refine rC (Calm.move rfl) ?_
      refine rC (Calm.move rfl) ?_
      refine rC (Calm.bin rfl rfl b_quo_i64) ?_
      refine rC (Calm.bin rfl rfl b_mul_i64) ?_
      refine rC (Calm.bin rfl rfl b_add_i64) ?_
      refine rC (Calm.bin rfl rfl b_add_i64) ?_
      refine rC (Calm.bin rfl rfl b_leq) ?_
      refine arun_nil ?_
      refine athen_n ?_
      refine AWP.sub [(0, _), (1, _), (6, _), (7, _), (8, _), (9, _), (33, _)] ⟨rfl, rfl, rfl, rfl, rfl, rfl, rfl, trivial⟩ ?_
      refine AWP.condT rfl (by first | rfl | (simp; done) | (simp; omega)) ?_
      obtain ⟨r', hr'⟩ : ∃ r', r' = xorNext r := ⟨_, rfl⟩
      obtain ⟨o, ho⟩ : ∃ o, o = r'.toNat &&& (mo - 1) := ⟨_, rfl⟩
      have ho1 : o ≤ mo - 1 := by rw [ho]; exact Nat.and_le_right
      have han := and_n64 r'.toNat (mo - 1) r'.toNat_lt (by omega)
      rw [← ho] at han
      refine AWP.skip ?_
      refine athen_n ?_
      refine AWP.seq ?_
      refine AWP.block ?_
      refine AWP.seq ?_
      refine AWP.region ?_
      refine ARun.call (lit_lt rfl) go_180 rfl ((hr' ▸ so_next b7 r _ (fresh_more g7 (by assumption)))) ?_
      rintro _ _ ⟨rfl, rfl⟩
      refine rC (Calm.move rfl) ?_
      refine rC (Calm.bin rfl rfl (bin_subW (sub_u64 mo (by omega) (by omega)))) ?_
      refine rC (Calm.bin rfl rfl (bin_andE han)) ?_
      refine rC (Calm.conv rfl (by first | exact conv_intW Try.underlying139 Try.underlying3 (IntWalk.i64_in _ (by omega)) | exact conv_int Try.underlying139 Try.underlying3)) ?_
      refine rC (Calm.assign rfl) ?_
      refine arun_nil ?_
      refine athen_n ?_
      refine AWP.sub [(0, _), (1, _), (6, _), (7, _), (8, _), (9, _), (33, _), (10, _)] ⟨rfl, rfl, rfl, rfl, rfl, rfl, rfl, rfl, trivial⟩ ?_
      by_cases hoL2 : L ≤ o
      · refine AWP.seq ?_
        refine AWP.seq ?_
        refine AWP.region ?_
        refine rC (Calm.move rfl) ?_
        refine rC (Calm.move rfl) ?_
        refine rC (Calm.bin rfl rfl b_geq) ?_
        refine arun_nil ?_
        refine athen_n ?_
        refine AWP.sub [(0, _), (1, _), (6, _), (7, _), (8, _), (9, _), (33, _), (10, _), (43, _)] ⟨rfl, rfl, rfl, rfl, rfl, rfl, rfl, rfl, rfl, trivial⟩ ?_
        refine AWP.condT rfl (by first | rfl | (simp; done) | (simp; omega)) ?_
        refine AWP.region ?_
        refine rC (Calm.move rfl) ?_
        refine rC (Calm.move rfl) ?_
        refine rC (Calm.bin rfl rfl b_sub_i64) ?_
        refine rC (Calm.assign rfl) ?_
        refine arun_nil ?_
        refine athen_n ?_
        refine AWP.sub [(0, _), (1, _), (6, _), (7, _), (8, _), (9, _), (33, _), (10, _), (43, _)] ⟨rfl, rfl, rfl, rfl, rfl, rfl, rfl, rfl, rfl, trivial⟩ ?_
        refine AWP.draw [(0, true), (1, true), (2, true), (3, true), (4, true), (5, true), (6, true), (7, true), (8, true), (9, true), (10, true), (11, true), (12, true), (13, true), (14, true), (15, true), (16, true), (17, false), (18, true), (19, false)] [17, 19] mixed (by kernel_rfl) ?_
        refine dP (hc := fun _ => Calm.move rfl) (h := ?_)
        refine dP (hc := fun _ => Calm.move rfl) (h := ?_)
        refine dP (hc := fun _ => Calm.move rfl) (h := ?_)
        refine dP (hc := fun _ => Calm.move rfl) (h := ?_)
        refine dP (hc := fun _ => Calm.move rfl) (h := ?_)
        refine dP (hc := fun _ => Calm.bin rfl rfl b_add_i64) (h := ?_)
        refine dP (hc := fun _ => Calm.move rfl) (h := ?_)
        refine dP (hc := fun _ => Calm.move rfl) (h := ?_)
        refine dP (hc := fun _ => Calm.move rfl) (h := ?_)
        refine dP (hc := fun _ => Calm.bin rfl rfl b_add_i64) (h := ?_)
        refine dP (hc := fun _ => Calm.indexS Try.underlying22 ty_size_41 rfl rfl (by omega) (by omega)) (h := ?_)
        refine dC (hc := Calm.load ty_plain_41 rfl (rd_row (k := a + (o - L)) own_ rw_ rw_)) (h := ?_)
        refine dP (hc := fun _ => Calm.move rfl) (h := ?_)
        refine dP (hc := fun _ => Calm.move rfl) (h := ?_)
        refine dP (hc := fun _ => Calm.indexS Try.underlying22 ty_size_41 rfl rfl (by omega) (by omega)) (h := ?_)
        refine dC (hc := Calm.load ty_plain_41 rfl (rd_row (k := ba + (2 - k)) own_ rw_ rw_)) (h := ?_)
        refine dP (hc := fun _ => Calm.indexS Try.underlying22 ty_size_41 rfl rfl (by omega) (by omega)) (h := ?_)
        refine draw_only rfl ?_
        refine ARun.storeRow encU (ba + (2 - k)) rfl rfl ty_size_41 ⟨rfl, rfl⟩ own_ rw_ rw_ ?_
        (try simp only [Mem.set_set, List.set_cons_zero, List.set_cons_succ, Nat.zero_add, Nat.reduceAdd])
        refine arun_nil ⟨fun h => absurd h (by decide), ?_⟩
        refine dP (hc := fun _ => Calm.indexS Try.underlying22 ty_size_41 rfl rfl (by omega) (by omega)) (h := ?_)
        refine draw_only rfl ?_
        refine ARun.storeRow encU (a + (o - L)) rfl rfl ty_size_41 ⟨rfl, rfl⟩ own_ rw_ rw_ ?_
        (try simp only [Mem.set_set, List.set_cons_zero, List.set_cons_succ, Nat.zero_add, Nat.reduceAdd])
        refine arun_nil ⟨fun h => absurd h (by decide), ?_⟩
        refine draw_nil ?_
        refine ain_n ?_
        refine athen_n ?_
        refine AWP.sub [(0, _), (1, _), (6, _), (7, _), (8, _), (9, _), (33, _), (10, _), (43, _)] ⟨rfl, rfl, rfl, rfl, rfl, rfl, rfl, rfl, rfl, trivial⟩ ?_
        refine AWP.region ?_
        refine rC (Calm.move rfl) ?_
        refine rC (Calm.bin rfl rfl b_add_i64) ?_
        refine rC (Calm.assign rfl) ?_
        refine arun_nil ?_
        refine athen_n ?_
        refine ⟨(k, r', swp d1 (ba + (2 - k)) (a + (o - L))), ?_, ?_, ?_, ?_⟩
        all_goals (try dsimp only)
        · exact ⟨sb_, sb_, sb_, sb_, sb_, sb_, trivial⟩
        · rw [set_over _ _ _ _ (by first | assumption | (apply Ne.symm; assumption))]; exact Mem.Less.refl _
        · exact ⟨by omega, R1.swp _ _ (by omega) (by omega), by rw [← h3, bpR_succ, ← hr', ← ho, if_pos hoL2]⟩
        · omega
      · refine AWP.seq ?_
        refine AWP.seq ?_
        refine AWP.region ?_
        refine rC (Calm.move rfl) ?_
        refine rC (Calm.move rfl) ?_
        refine rC (Calm.bin rfl rfl b_geq) ?_
        refine arun_nil ?_
        refine athen_n ?_
        refine AWP.sub [(0, _), (1, _), (6, _), (7, _), (8, _), (9, _), (33, _), (10, _), (43, _)] ⟨rfl, rfl, rfl, rfl, rfl, rfl, rfl, rfl, rfl, trivial⟩ ?_
        refine AWP.condF rfl (by first | rfl | (simp; done) | (simp; omega)) ?_
        refine AWP.skip ?_
        refine athen_n ?_
        refine AWP.draw [(0, true), (1, true), (2, true), (3, true), (4, true), (5, true), (6, true), (7, true), (8, true), (9, true), (10, true), (11, true), (12, true), (13, true), (14, true), (15, true), (16, true), (17, false), (18, true), (19, false)] [17, 19] mixed (by kernel_rfl) ?_
        refine dP (hc := fun _ => Calm.move rfl) (h := ?_)
        refine dP (hc := fun _ => Calm.move rfl) (h := ?_)
        refine dP (hc := fun _ => Calm.move rfl) (h := ?_)
        refine dP (hc := fun _ => Calm.move rfl) (h := ?_)
        refine dP (hc := fun _ => Calm.move rfl) (h := ?_)
        refine dP (hc := fun _ => Calm.bin rfl rfl b_add_i64) (h := ?_)
        refine dP (hc := fun _ => Calm.move rfl) (h := ?_)
        refine dP (hc := fun _ => Calm.move rfl) (h := ?_)
        refine dP (hc := fun _ => Calm.move rfl) (h := ?_)
        refine dP (hc := fun _ => Calm.bin rfl rfl b_add_i64) (h := ?_)
        refine dP (hc := fun _ => Calm.indexS Try.underlying22 ty_size_41 rfl rfl (by omega) (by omega)) (h := ?_)
        refine dC (hc := Calm.load ty_plain_41 rfl (rd_row (k := a + o) own_ rw_ rw_)) (h := ?_)
        refine dP (hc := fun _ => Calm.move rfl) (h := ?_)
        refine dP (hc := fun _ => Calm.move rfl) (h := ?_)
        refine dP (hc := fun _ => Calm.indexS Try.underlying22 ty_size_41 rfl rfl (by omega) (by omega)) (h := ?_)
        refine dC (hc := Calm.load ty_plain_41 rfl (rd_row (k := ba + (2 - k)) own_ rw_ rw_)) (h := ?_)
        refine dP (hc := fun _ => Calm.indexS Try.underlying22 ty_size_41 rfl rfl (by omega) (by omega)) (h := ?_)
        refine draw_only rfl ?_
        refine ARun.storeRow encU (ba + (2 - k)) rfl rfl ty_size_41 ⟨rfl, rfl⟩ own_ rw_ rw_ ?_
        (try simp only [Mem.set_set, List.set_cons_zero, List.set_cons_succ, Nat.zero_add, Nat.reduceAdd])
        refine arun_nil ⟨fun h => absurd h (by decide), ?_⟩
        refine dP (hc := fun _ => Calm.indexS Try.underlying22 ty_size_41 rfl rfl (by omega) (by omega)) (h := ?_)
        refine draw_only rfl ?_
        refine ARun.storeRow encU (a + o) rfl rfl ty_size_41 ⟨rfl, rfl⟩ own_ rw_ rw_ ?_
        (try simp only [Mem.set_set, List.set_cons_zero, List.set_cons_succ, Nat.zero_add, Nat.reduceAdd])
        refine arun_nil ⟨fun h => absurd h (by decide), ?_⟩
        refine draw_nil ?_
        refine ain_n ?_
        refine athen_n ?_
        refine AWP.sub [(0, _), (1, _), (6, _), (7, _), (8, _), (9, _), (33, _), (10, _), (43, _)] ⟨rfl, rfl, rfl, rfl, rfl, rfl, rfl, rfl, rfl, trivial⟩ ?_
        refine AWP.region ?_
        refine rC (Calm.move rfl) ?_
        refine rC (Calm.bin rfl rfl b_add_i64) ?_
        refine rC (Calm.assign rfl) ?_
        refine arun_nil ?_
        refine athen_n ?_
        refine ⟨(k, r', swp d1 (ba + (2 - k)) (a + o)), ?_, ?_, ?_, ?_⟩
        all_goals (try dsimp only)
        · exact ⟨sb_, sb_, sb_, sb_, sb_, sb_, trivial⟩
        · rw [set_over _ _ _ _ (by first | assumption | (apply Ne.symm; assumption))]; exact Mem.Less.refl _
        · exact ⟨by omega, R1.swp _ _ (by omega) (by omega), by rw [← h3, bpR_succ, ← hr', ← ho, if_neg hoL2]⟩
        · omega
    · obtain rfl : k = 0 := by omega
      refine AWP.seq ?_
      refine AWP.seq ?_
      refine AWP.region ?_
      refine rC (Calm.move rfl) ?_
      refine rC (Calm.move rfl) ?_
      refine rC (Calm.move rfl) ?_
      refine rC (Calm.bin rfl rfl b_quo_i64) ?_
      refine rC (Calm.bin rfl rfl b_mul_i64) ?_
      refine rC (Calm.bin rfl rfl b_add_i64) ?_
      refine rC (Calm.bin rfl rfl b_add_i64) ?_
      refine rC (Calm.bin rfl rfl b_leq) ?_
      refine arun_nil ?_
      refine athen_n ?_
      refine AWP.sub [(0, _), (1, _), (6, _), (7, _), (8, _), (9, _), (33, _)] ⟨rfl, rfl, rfl, rfl, rfl, rfl, rfl, trivial⟩ ?_
      refine AWP.condF rfl (by first | rfl | (simp; done) | (simp; omega)) ?_
      refine AWP.exit ?_
      refine athen_exit ?_
      refine athen_exit ?_
      refine ain_same ?_
      refine ⟨_, S.set b ⟨41, (d1).toList.map encU, room⟩, rfl, less_, ?_⟩
      rw [hbp, ← h3]; exact ⟨rfl, R1⟩
  · have hbp : breakPatterns d a (a + L) = d := by unfold breakPatterns; simp only [Nat.add_sub_cancel_left]; rw [if_neg (by omega)]
    rw [hbp]
    refine ACall.enter (args := [.slice (some ⟨b, 0, none⟩) n cap, .int .i64 a, .int .i64 ((a + L : Nat) : Int)]) (rs := []) 65 [(0, .slice (some ⟨b, 0, none⟩) n cap), (1, .int .i64 a), (2, .int .i64 ((a + L : Nat) : Int))] Try.func185 rfl rfl (Nat.le_of_ble_eq_true rfl) rfl ⟨rfl, rfl, rfl, trivial⟩ ?_
    refine AWP.seq ?_
    refine AWP.region ?_
    refine rC (Calm.move rfl) ?_
    refine rC (Calm.move rfl) ?_
    refine rC (Calm.bin rfl rfl b_sub_i64) ?_
    refine rC (Calm.assign rfl) ?_
    refine arun_nil ?_
    refine athen_n ?_
    refine AWP.sub [(0, _), (1, _), (2, _), (6, _)] ⟨rfl, rfl, rfl, rfl, trivial⟩ ?_
    refine AWP.seq ?_
    refine AWP.region ?_
    refine rC (Calm.move rfl) ?_
    refine rC (Calm.bin rfl rfl b_geq) ?_
    refine arun_nil ?_
    refine athen_n ?_
    refine AWP.sub [(0, _), (1, _), (2, _), (6, _), (15, _)] ⟨rfl, rfl, rfl, rfl, rfl, trivial⟩ ?_
    refine AWP.condF rfl (by first | rfl | (simp; done) | (simp; omega)) ?_
    refine AWP.skip ?_
    refine ⟨_, _, rfl, Mem.Less.refl _, ?_⟩
    exact ⟨rfl, R⟩
set_option maxHeartbeats 4000000 in
theorem soU_pins {S : Mem} (b room n cap : Nat) (hb : Fresh S b) (hn : n ≤ 1048576) (d : Array Nat) (R : Rw (fun _ => True) n d) (ia ie : Int) (a e : Nat) (ha : ia = a) (he : ie = e) (hae : a < e) (hen : e ≤ n) :
    ACall Try.prog 188 #[.slice (some ⟨b, 0, none⟩) n cap, .int .i64 ia, .int .i64 ie] (S.set b ⟨41, (d).toList.map encU, room⟩) fun r S' => r = .bool (partialInsertionSort ltN d a e).2 ∧ S' = S.set b ⟨41, ((partialInsertionSort ltN d a e).1).toList.map encU, room⟩ ∧ Rw (fun _ => True) n (partialInsertionSort ltN d a e).1 := by
  subst ha he
  refine ACall.enter (args := [.slice (some ⟨b, 0, none⟩) n cap, .int .i64 a, .int .i64 e]) (rs := [.tmp 6]) 133 [(0, .slice (some ⟨b, 0, none⟩) n cap), (1, .int .i64 a), (2, .int .i64 e)] Try.func188 rfl rfl (Nat.le_of_ble_eq_true rfl) rfl ⟨rfl, rfl, rfl, trivial⟩ ?_
  refine AWP.seq ?_
  refine AWP.region ?_
  refine rC (Calm.assign rfl) ?_
  refine arun_nil ?_
  refine athen_n ?_
  refine AWP.seq ?_
  refine AWP.region ?_
  refine rC (Calm.move rfl) ?_
  refine rC (Calm.bin rfl rfl b_add_i64) ?_
  refine rC (Calm.assign rfl) ?_
  refine arun_nil ?_
  refine athen_n ?_
  refine AWP.sub [(0, _), (1, _), (2, _), (6, _), (7, _)] ⟨rfl, rfl, rfl, rfl, rfl, trivial⟩ ?_
  refine AWP.seq ?_
  refine AWP.seq ?_
  refine AWP.region ?_
  refine rC (Calm.assign rfl) ?_
  refine arun_nil ?_
  refine athen_n ?_
  refine AWP.block ?_
  refine AWP.loop (X := Nat × Nat × Array Nat) (fun x => [(0, .slice (some ⟨b, 0, none⟩) n cap), (1, .int .i64 a), (2, .int .i64 e), (7, .int .i64 x.2.1), (8, .int .i64 ((5 - x.1 : Nat) : Int))]) (fun x => S.set b ⟨41, (x.2.2).toList.map encU, room⟩) (fun x => x.1 ≤ 5 ∧ a + 1 ≤ x.2.1 ∧ x.2.1 ≤ e ∧ Rw (fun _ => True) n x.2.2 ∧ partialIns ltN a e x.1 x.2.1 x.2.2 = partialInsertionSort ltN d a e) (fun x => x.1) ((5, a + 1, d)) ⟨sb_, sb_, sb_, sb_, sb_, trivial⟩ (Mem.Less.refl _) (⟨Nat.le_refl _, by dsimp only; omega, by dsimp only; omega, R, rfl⟩) ?_
  rintro ⟨s, i, d1⟩ ⟨h1, h2, h4, R1, h3⟩
  (try dsimp only at *)
  have z1 := R1.size
  by_cases hs : 0 < s
  · obtain ⟨s, rfl⟩ : ∃ q, s = q + 1 := ⟨s - 1, by omega⟩
    refine AWP.seq ?_
    refine AWP.seq ?_
    refine AWP.region ?_
    refine rC (Calm.move rfl) ?_
    refine rC (Calm.bin rfl rfl b_lss) ?_
    refine arun_nil ?_
    refine athen_n ?_
    refine AWP.sub [(0, _), (1, _), (2, _), (7, _), (8, _), (14, _)] ⟨rfl, rfl, rfl, rfl, rfl, rfl, trivial⟩ ?_
    refine AWP.condT rfl (by first | rfl | (simp; done) | (simp; omega)) ?_
    refine AWP.skip ?_
    refine athen_n ?_
    refine AWP.seq ?_
    refine AWP.block ?_
    refine AWP.seq ?_
    refine AWP.join (X := Nat) (fun x => [(0, .slice (some ⟨b, 0, none⟩) n cap), (1, .int .i64 a), (2, .int .i64 e), (7, .int .i64 x), (8, .int .i64 ((5 - (s + 1) : Nat) : Int))]) (fun _ => S.set b ⟨41, (d1).toList.map encU, room⟩) (fun x => a + 1 ≤ x ∧ x ≤ e ∧ x = scanSorted ltN d1 e i) ?_ ?_
    · refine AWP.block ?_
      refine AWP.loop (X := Nat) (fun x => [(0, .slice (some ⟨b, 0, none⟩) n cap), (1, .int .i64 a), (2, .int .i64 e), (7, .int .i64 x), (8, .int .i64 ((5 - (s + 1) : Nat) : Int))]) (fun _ => S.set b ⟨41, (d1).toList.map encU, room⟩) (fun x => a + 1 ≤ x ∧ x ≤ e ∧ scanSorted ltN d1 e x = scanSorted ltN d1 e i) (fun x => e - x) (i) ⟨sb_, sb_, sb_, sb_, sb_, trivial⟩ (Mem.Less.refl _) (⟨h2, h4, rfl⟩) ?_
      rintro x ⟨q1, q2, q3⟩
      (try dsimp only at *)
      by_cases hx : x < e
      · obtain ⟨x, rfl⟩ : ∃ q, x = q + 1 := ⟨x - 1, by omega⟩
        refine AWP.seq ?_
        refine AWP.seq ?_
        refine AWP.draw [(0, true), (1, true), (2, true), (3, true), (4, true), (5, true), (6, true), (7, true), (8, true), (9, true), (10, true), (11, true), (12, true), (13, false), (14, true), (15, true)] [] mixed (by kernel_rfl) ?_
        refine dP (hc := fun _ => Calm.move rfl) (h := ?_)
        refine dP (hc := fun _ => Calm.move rfl) (h := ?_)
        refine dP (hc := fun _ => Calm.bin rfl rfl b_lss) (h := ?_)
        refine dP (hc := fun _ => Calm.move rfl) (h := ?_)
        first | refine dS ?_ | refine dU ?_ | refine dG (hc := fun _ => Calm.move rfl) (h := ?_)
        first | refine dS ?_ | refine dU ?_ | refine dG (hc := fun _ => Calm.move rfl) (h := ?_)
        first | refine dS ?_ | refine dU ?_ | refine dG (hc := fun _ => Calm.indexS Try.underlying22 ty_size_41 rfl rfl (by omega) (by omega)) (h := ?_)
        first | refine dS ?_ | refine dU ?_ | refine dL (hc := Calm.load ty_plain_41 rfl (rd_row (k := x + 1) own_ rw_ rw_)) (h := ?_)
        first | refine dS ?_ | refine dU ?_ | refine dG (hc := fun _ => Calm.move rfl) (h := ?_)
        first | refine dS ?_ | refine dU ?_ | refine dG (hc := fun _ => Calm.move rfl) (h := ?_)
        first | refine dS ?_ | refine dU ?_ | refine dG (hc := fun _ => Calm.bin rfl rfl b_sub_i64) (h := ?_)
        first | refine dS ?_ | refine dU ?_ | refine dG (hc := fun _ => Calm.indexS Try.underlying22 ty_size_41 rfl rfl (by omega) (by omega)) (h := ?_)
        first | refine dS ?_ | refine dU ?_ | refine dL (hc := Calm.load ty_plain_41 rfl (rd_row (k := x) own_ rw_ rw_)) (h := ?_)
        refine draw_only rfl ?_
        refine ARun.callG 3 true 20 rfl (lit_lt rfl) rfl (lit_lt rfl) go_160 rfl (soU_less _ _ _) ?_
        rintro _ _ ⟨rfl, rfl⟩
        refine arun_nil ⟨fun _ => less_, ?_⟩
        first | refine dS ?_ | refine dU ?_ | refine dG (hc := fun _ => Calm.un rfl (una_not _)) (h := ?_)
        refine dP (hc := fun _ => (by first | exact Calm.pickT rfl rfl | exact Calm.pickF rfl rfl)) (h := ?_)
        refine draw_nil ?_
        refine athen_n ?_
        refine AWP.sub [(0, _), (1, _), (2, _), (7, _), (8, _), (32, _)] ⟨rfl, rfl, rfl, rfl, rfl, rfl, trivial⟩ ?_
        refine AWP.condB rfl (fun hl => ?_) (fun hl => ?_)
        · have hl := nt_ hl
          refine AWP.skip ?_
          refine athen_n ?_
          refine AWP.block ?_
          refine AWP.region ?_
          refine rC (Calm.move rfl) ?_
          refine rC (Calm.bin rfl rfl b_add_i64) ?_
          refine rC (Calm.assign rfl) ?_
          refine arun_nil ?_
          refine ain_n ?_
          refine athen_n ?_
          refine ⟨x + 1 + 1, ?_, ?_, ?_, ?_⟩
          all_goals (try dsimp only)
          · exact ⟨sb_, sb_, sb_, sb_, sb_, trivial⟩
          · exact Mem.Less.refl _
          · exact ⟨by omega, by omega, (ss_go ltN hx (by rw [Nat.add_sub_cancel]; exact hl)).trans q3⟩
          · omega
        · have hl := nf_ hl
          refine AWP.exit ?_
          refine athen_exit ?_
          refine athen_exit ?_
          refine ain_same ?_
          refine ⟨(x + 1), ?_, ?_, ?_⟩
          all_goals (try dsimp only)
          · exact ⟨by omega, by omega, (ss_no ltN (by rw [Nat.add_sub_cancel]; exact hl)).trans q3⟩
          · exact ⟨sb_, sb_, sb_, sb_, sb_, trivial⟩
          · exact Mem.Less.refl _
      · refine AWP.seq ?_
        refine AWP.seq ?_
        refine AWP.draw [(0, true), (1, true), (2, true), (3, true), (4, true), (5, true), (6, true), (7, true), (8, true), (9, true), (10, true), (11, true), (12, true), (13, false), (14, true), (15, true)] [] mixed (by kernel_rfl) ?_
        refine dP (hc := fun _ => Calm.move rfl) (h := ?_)
        refine dP (hc := fun _ => Calm.move rfl) (h := ?_)
        refine dP (hc := fun _ => Calm.bin rfl rfl b_lss) (h := ?_)
        refine dP (hc := fun _ => Calm.move rfl) (h := ?_)
        first | refine dS ?_ | refine dU ?_ | refine dG (hc := fun _ => Calm.move rfl) (h := ?_)
        first | refine dS ?_ | refine dU ?_ | refine dG (hc := fun _ => Calm.move rfl) (h := ?_)
        first | refine dS ?_ | refine dU ?_ | refine dG (hc := fun _ => Calm.indexS Try.underlying22 ty_size_41 rfl rfl (by omega) (by omega)) (h := ?_)
        first | refine dS ?_ | refine dU ?_ | refine dL (hc := Calm.load ty_plain_41 rfl (rd_row (k := x + 1) own_ rw_ rw_)) (h := ?_)
        first | refine dS ?_ | refine dU ?_ | refine dG (hc := fun _ => Calm.move rfl) (h := ?_)
        first | refine dS ?_ | refine dU ?_ | refine dG (hc := fun _ => Calm.move rfl) (h := ?_)
        first | refine dS ?_ | refine dU ?_ | refine dG (hc := fun _ => Calm.bin rfl rfl b_sub_i64) (h := ?_)
        first | refine dS ?_ | refine dU ?_ | refine dG (hc := fun _ => Calm.indexS Try.underlying22 ty_size_41 rfl rfl (by omega) (by omega)) (h := ?_)
        first | refine dS ?_ | refine dU ?_ | refine dL (hc := Calm.load ty_plain_41 rfl (rd_row (k := x) own_ rw_ rw_)) (h := ?_)
        refine draw_only rfl ?_
        first | refine rS 20 ?_ | refine rU 20 ?_
        refine arun_nil ⟨fun _ => less_, ?_⟩
        first | refine dS ?_ | refine dU ?_ | refine dG (hc := fun _ => Calm.un rfl (una_not _)) (h := ?_)
        refine dP (hc := fun _ => (by first | exact Calm.pickT rfl rfl | exact Calm.pickF rfl rfl)) (h := ?_)
        refine draw_nil ?_
        refine athen_n ?_
        refine AWP.sub [(0, _), (1, _), (2, _), (7, _), (8, _), (32, _)] ⟨rfl, rfl, rfl, rfl, rfl, rfl, trivial⟩ ?_
        refine AWP.condF rfl (by first | rfl | (simp; done) | (simp; omega)) ?_
        refine AWP.exit ?_
        refine athen_exit ?_
        refine athen_exit ?_
        refine ain_same ?_
        refine ⟨x, ?_, ?_, ?_⟩
        all_goals (try dsimp only)
        · exact ⟨by omega, by omega, (ss_end ltN hx).trans q3⟩
        · exact ⟨sb_, sb_, sb_, sb_, sb_, trivial⟩
        · exact Mem.Less.refl _
    rintro x ⟨b1, b2, hS⟩
    intro _ _ hs_ hl_
    (try dsimp only at *)
    refine athen_n ?_
    refine AWP.sub _ hs_ (AWP.less _ hl_ ?_)
    clear hs_ hl_
    by_cases hxe : x = e
    · refine AWP.seq ?_
      refine AWP.seq ?_
      refine AWP.region ?_
      refine rC (Calm.move rfl) ?_
      refine rC (Calm.move rfl) ?_
      refine rC (Calm.bin rfl rfl b_eql) ?_
      refine arun_nil ?_
      refine athen_n ?_
      refine AWP.sub [(0, _), (1, _), (2, _), (7, _), (8, _), (37, _)] ⟨rfl, rfl, rfl, rfl, rfl, rfl, trivial⟩ ?_
      refine AWP.condT rfl (by first | rfl | (simp; done) | (simp; omega)) ?_
      refine AWP.seq ?_
      refine AWP.region ?_
      refine rC (Calm.assign rfl) ?_
      refine arun_nil ?_
      refine athen_n ?_
      refine AWP.ret ?_
      refine athen_ret ?_
      refine ain_ret ?_
      refine athen_ret ?_
      refine athen_ret ?_
      refine ain_ret ?_
      refine athen_ret ?_
      refine ⟨_, _, ⟨_, _, rfl, rfl, rfl⟩, Mem.Less.refl _, ?_⟩
      exact pis_res (M := fun x => S.set b ⟨41, (x).toList.map encU, room⟩) ltN h3 (.inl ⟨hS ▸ hxe, rfl, rfl⟩) R1
    · refine AWP.seq ?_
      refine AWP.seq ?_
      refine AWP.region ?_
      refine rC (Calm.move rfl) ?_
      refine rC (Calm.move rfl) ?_
      refine rC (Calm.bin rfl rfl b_eql) ?_
      refine arun_nil ?_
      refine athen_n ?_
      refine AWP.sub [(0, _), (1, _), (2, _), (7, _), (8, _), (37, _)] ⟨rfl, rfl, rfl, rfl, rfl, rfl, trivial⟩ ?_
      refine AWP.condF rfl (by first | rfl | (simp; done) | (simp; omega)) ?_
      by_cases h50 : e - a < 50
      · refine AWP.skip ?_
        refine athen_n ?_
        refine AWP.seq ?_
        refine AWP.seq ?_
        refine AWP.region ?_
        refine rC (Calm.move rfl) ?_
        refine rC (Calm.move rfl) ?_
        refine rC (Calm.bin rfl rfl b_sub_i64) ?_
        refine rC (Calm.bin rfl rfl b_lss) ?_
        refine arun_nil ?_
        refine athen_n ?_
        refine AWP.sub [(0, _), (1, _), (2, _), (7, _), (8, _), (37, _), (41, _)] ⟨rfl, rfl, rfl, rfl, rfl, rfl, rfl, trivial⟩ ?_
        refine AWP.condT rfl (by first | rfl | (simp; done) | (simp; omega)) ?_
        refine AWP.seq ?_
        refine AWP.region ?_
        refine rC (Calm.assign rfl) ?_
        refine arun_nil ?_
        refine athen_n ?_
        refine AWP.ret ?_
        refine athen_ret ?_
        refine ain_ret ?_
        refine athen_ret ?_
        refine athen_ret ?_
        refine ain_ret ?_
        refine athen_ret ?_
        refine ⟨_, _, ⟨_, _, rfl, rfl, rfl⟩, Mem.Less.refl _, ?_⟩
        exact pis_res (M := fun x => S.set b ⟨41, (x).toList.map encU, room⟩) ltN h3 (.inr ⟨hS ▸ hxe, h50, rfl, rfl⟩) R1
      · refine AWP.skip ?_
        refine athen_n ?_
        refine AWP.seq ?_
        refine AWP.seq ?_
        refine AWP.region ?_
        refine rC (Calm.move rfl) ?_
        refine rC (Calm.move rfl) ?_
        refine rC (Calm.bin rfl rfl b_sub_i64) ?_
        refine rC (Calm.bin rfl rfl b_lss) ?_
        refine arun_nil ?_
        refine athen_n ?_
        refine AWP.sub [(0, _), (1, _), (2, _), (7, _), (8, _), (37, _), (41, _)] ⟨rfl, rfl, rfl, rfl, rfl, rfl, rfl, trivial⟩ ?_
        refine AWP.condF rfl (by first | rfl | (simp; done) | (simp; omega)) ?_
        obtain ⟨w, rfl⟩ : ∃ q, x = q + 1 := ⟨x - 1, by omega⟩
        refine AWP.skip ?_
        refine athen_n ?_
        refine AWP.seq ?_
        refine AWP.draw [(0, true), (1, true), (2, true), (3, true), (4, true), (5, true), (6, true), (7, true), (8, true), (9, true), (10, true), (11, true), (12, true), (13, true), (14, true), (15, false), (16, true), (17, false)] [15, 17] mixed (by kernel_rfl) ?_
        have R2 := R1.swp (w + 1) w (by omega) (by omega)
        obtain ⟨d2, hd2⟩ : ∃ d2, d2 = swp d1 (w + 1) w := ⟨_, rfl⟩
        rw [← hd2] at R2
        refine dP (hc := fun _ => Calm.move rfl) (h := ?_)
        refine dP (hc := fun _ => Calm.move rfl) (h := ?_)
        refine dP (hc := fun _ => Calm.move rfl) (h := ?_)
        refine dP (hc := fun _ => Calm.move rfl) (h := ?_)
        refine dP (hc := fun _ => Calm.bin rfl rfl b_sub_i64) (h := ?_)
        refine dP (hc := fun _ => Calm.move rfl) (h := ?_)
        refine dP (hc := fun _ => Calm.move rfl) (h := ?_)
        refine dP (hc := fun _ => Calm.bin rfl rfl b_sub_i64) (h := ?_)
        refine dP (hc := fun _ => Calm.indexS Try.underlying22 ty_size_41 rfl rfl (by omega) (by omega)) (h := ?_)
        refine dC (hc := Calm.load ty_plain_41 rfl (rd_row (k := w) own_ rw_ rw_)) (h := ?_)
        refine dP (hc := fun _ => Calm.move rfl) (h := ?_)
        refine dP (hc := fun _ => Calm.move rfl) (h := ?_)
        refine dP (hc := fun _ => Calm.indexS Try.underlying22 ty_size_41 rfl rfl (by omega) (by omega)) (h := ?_)
        refine dC (hc := Calm.load ty_plain_41 rfl (rd_row (k := w + 1) own_ rw_ rw_)) (h := ?_)
        refine dP (hc := fun _ => Calm.indexS Try.underlying22 ty_size_41 rfl rfl (by omega) (by omega)) (h := ?_)
        refine draw_only rfl ?_
        refine ARun.storeRow encU (w + 1) rfl rfl ty_size_41 ⟨rfl, rfl⟩ own_ rw_ rw_ ?_
        (try simp only [Mem.set_set, List.set_cons_zero, List.set_cons_succ, Nat.zero_add, Nat.reduceAdd])
        refine arun_nil ⟨fun h => absurd h (by decide), ?_⟩
        refine dP (hc := fun _ => Calm.indexS Try.underlying22 ty_size_41 rfl rfl (by omega) (by omega)) (h := ?_)
        refine draw_only rfl ?_
        refine ARun.storeRow encU (w) rfl rfl ty_size_41 ⟨rfl, rfl⟩ own_ rw_ rw_ ?_
        (try simp only [Mem.set_set, List.set_cons_zero, List.set_cons_succ, Nat.zero_add, Nat.reduceAdd])
        refine arun_nil ⟨fun h => absurd h (by decide), ?_⟩
        refine draw_nil ?_
        refine athen_n ?_
        refine AWP.sub [(0, _), (1, _), (2, _), (7, _), (8, _), (37, _), (41, _)] ⟨rfl, rfl, rfl, rfl, rfl, rfl, rfl, trivial⟩ ?_
        refine AWP.less (S.set b ⟨41, (d2).toList.map encU, room⟩) (by rw [hd2]; exact Mem.Less.refl _) ?_
        have z2 := R2.size
        refine AWP.seq ?_
        refine AWP.seq ?_
        refine AWP.region ?_
        refine rC (Calm.move rfl) ?_
        refine rC (Calm.move rfl) ?_
        refine rC (Calm.bin rfl rfl b_sub_i64) ?_
        refine rC (Calm.bin rfl rfl b_geq) ?_
        refine arun_nil ?_
        refine athen_n ?_
        refine AWP.sub [(0, _), (1, _), (2, _), (7, _), (8, _), (37, _), (41, _), (61, _)] ⟨rfl, rfl, rfl, rfl, rfl, rfl, rfl, rfl, trivial⟩ ?_
        refine AWP.join (X := Array Nat) (fun x => [(0, .slice (some ⟨b, 0, none⟩) n cap), (1, .int .i64 a), (2, .int .i64 e), (7, .int .i64 ((w + 1 : Nat) : Int)), (8, .int .i64 ((5 - (s + 1) : Nat) : Int))]) (fun x => S.set b ⟨41, (x).toList.map encU, room⟩) (fun x => Rw (fun _ => True) n x ∧ x = (if w + 1 - a ≥ 2 then shiftDown ltN w d2 else d2)) ?_ ?_
        · by_cases hw : 2 ≤ w + 1 - a
          · refine AWP.condT rfl (by first | rfl | (simp; done) | (simp; omega)) ?_
            refine AWP.seq ?_
            refine AWP.region ?_
            refine rC (Calm.move rfl) ?_
            refine rC (Calm.bin rfl rfl b_sub_i64) ?_
            refine rC (Calm.assign rfl) ?_
            refine arun_nil ?_
            refine athen_n ?_
            refine AWP.sub [(0, _), (1, _), (2, _), (7, _), (8, _), (37, _), (41, _), (61, _), (9, _)] ⟨rfl, rfl, rfl, rfl, rfl, rfl, rfl, rfl, rfl, trivial⟩ ?_
            refine AWP.block ?_
            refine AWP.loop (X := Nat × Array Nat) (fun x => [(0, .slice (some ⟨b, 0, none⟩) n cap), (1, .int .i64 a), (2, .int .i64 e), (7, .int .i64 ((w + 1 : Nat) : Int)), (8, .int .i64 ((5 - (s + 1) : Nat) : Int)), (9, .int .i64 x.1)]) (fun x => S.set b ⟨41, (x.2).toList.map encU, room⟩) (fun x => x.1 ≤ w ∧ Rw (fun _ => True) n x.2 ∧ shiftDown ltN x.1 x.2 = shiftDown ltN w d2) (fun x => x.1) ((w, d2)) ⟨sb_, sb_, sb_, sb_, sb_, sb_, trivial⟩ (Mem.Less.refl _) (⟨Nat.le_refl _, R2, rfl⟩) ?_
            rintro ⟨j, d3⟩ ⟨k1, R3, k3⟩
            (try dsimp only at *)
            have z3 := R3.size
            by_cases hj : 0 < j
            · obtain ⟨j, rfl⟩ : ∃ q, j = q + 1 := ⟨j - 1, by omega⟩
              refine AWP.seq ?_
              refine AWP.seq ?_
              refine AWP.region ?_
              refine rC (Calm.move rfl) ?_
              refine rC (Calm.bin rfl rfl b_geq) ?_
              refine arun_nil ?_
              refine athen_n ?_
              refine AWP.sub [(0, _), (1, _), (2, _), (7, _), (8, _), (9, _), (65, _)] ⟨rfl, rfl, rfl, rfl, rfl, rfl, rfl, trivial⟩ ?_
              refine AWP.condT rfl (by first | rfl | (simp; done) | (simp; omega)) ?_
              refine AWP.skip ?_
              refine athen_n ?_
              refine AWP.seq ?_
              refine AWP.block ?_
              refine AWP.seq ?_
              refine AWP.seq ?_
              refine AWP.draw [(0, true), (1, true), (2, true), (3, true), (4, true), (5, true), (6, true), (7, true), (8, true), (9, false), (10, true)] [] mixed (by kernel_rfl) ?_
              refine dP (hc := fun _ => Calm.move rfl) (h := ?_)
              refine dP (hc := fun _ => Calm.move rfl) (h := ?_)
              refine dP (hc := fun _ => Calm.indexS Try.underlying22 ty_size_41 rfl rfl (by omega) (by omega)) (h := ?_)
              refine dC (hc := Calm.load ty_plain_41 rfl (rd_row (k := j + 1) own_ rw_ rw_)) (h := ?_)
              refine dP (hc := fun _ => Calm.move rfl) (h := ?_)
              refine dP (hc := fun _ => Calm.move rfl) (h := ?_)
              refine dP (hc := fun _ => Calm.bin rfl rfl b_sub_i64) (h := ?_)
              refine dP (hc := fun _ => Calm.indexS Try.underlying22 ty_size_41 rfl rfl (by omega) (by omega)) (h := ?_)
              refine dC (hc := Calm.load ty_plain_41 rfl (rd_row (k := j) own_ rw_ rw_)) (h := ?_)
              refine draw_only rfl ?_
              refine ARun.call (lit_lt rfl) go_160 rfl (soU_less _ _ _) ?_
              rintro _ _ ⟨rfl, rfl⟩
              refine arun_nil ⟨fun _ => less_, ?_⟩
              refine dP (hc := fun _ => Calm.un rfl (una_not _)) (h := ?_)
              refine draw_nil ?_
              refine athen_n ?_
              refine AWP.sub [(0, _), (1, _), (2, _), (7, _), (8, _), (9, _), (65, _), (78, _)] ⟨rfl, rfl, rfl, rfl, rfl, rfl, rfl, rfl, trivial⟩ ?_
              refine AWP.condB rfl (fun hl => ?_) (fun hl => ?_)
              · have hl := nt_ hl
                refine AWP.exit ?_
                refine athen_exit ?_
                refine ain_other rfl ?_
                refine athen_exit ?_
                refine athen_exit ?_
                refine ain_same ?_
                refine ⟨d3, ?_, ?_, ?_⟩
                all_goals (try dsimp only)
                · exact ⟨R3, by rw [if_pos hw, ← k3, ← sd_no ltN hl]⟩
                · exact ⟨sb_, sb_, sb_, sb_, sb_, trivial⟩
                · exact Mem.Less.refl _
              · have hl := nf_ hl
                refine AWP.skip ?_
                refine athen_n ?_
                refine AWP.draw [(0, true), (1, true), (2, true), (3, true), (4, true), (5, true), (6, true), (7, true), (8, true), (9, true), (10, true), (11, true), (12, true), (13, true), (14, true), (15, false), (16, true), (17, false)] [15, 17] mixed (by kernel_rfl) ?_
                refine dP (hc := fun _ => Calm.move rfl) (h := ?_)
                refine dP (hc := fun _ => Calm.move rfl) (h := ?_)
                refine dP (hc := fun _ => Calm.move rfl) (h := ?_)
                refine dP (hc := fun _ => Calm.move rfl) (h := ?_)
                refine dP (hc := fun _ => Calm.bin rfl rfl b_sub_i64) (h := ?_)
                refine dP (hc := fun _ => Calm.move rfl) (h := ?_)
                refine dP (hc := fun _ => Calm.move rfl) (h := ?_)
                refine dP (hc := fun _ => Calm.bin rfl rfl b_sub_i64) (h := ?_)
                refine dP (hc := fun _ => Calm.indexS Try.underlying22 ty_size_41 rfl rfl (by omega) (by omega)) (h := ?_)
                refine dC (hc := Calm.load ty_plain_41 rfl (rd_row (k := j) own_ rw_ rw_)) (h := ?_)
                refine dP (hc := fun _ => Calm.move rfl) (h := ?_)
                refine dP (hc := fun _ => Calm.move rfl) (h := ?_)
                refine dP (hc := fun _ => Calm.indexS Try.underlying22 ty_size_41 rfl rfl (by omega) (by omega)) (h := ?_)
                refine dC (hc := Calm.load ty_plain_41 rfl (rd_row (k := j + 1) own_ rw_ rw_)) (h := ?_)
                refine dP (hc := fun _ => Calm.indexS Try.underlying22 ty_size_41 rfl rfl (by omega) (by omega)) (h := ?_)
                refine draw_only rfl ?_
                refine ARun.storeRow encU (j + 1) rfl rfl ty_size_41 ⟨rfl, rfl⟩ own_ rw_ rw_ ?_
                (try simp only [Mem.set_set, List.set_cons_zero, List.set_cons_succ, Nat.zero_add, Nat.reduceAdd])
                refine arun_nil ⟨fun h => absurd h (by decide), ?_⟩
                refine dP (hc := fun _ => Calm.indexS Try.underlying22 ty_size_41 rfl rfl (by omega) (by omega)) (h := ?_)
                refine draw_only rfl ?_
                refine ARun.storeRow encU (j) rfl rfl ty_size_41 ⟨rfl, rfl⟩ own_ rw_ rw_ ?_
                (try simp only [Mem.set_set, List.set_cons_zero, List.set_cons_succ, Nat.zero_add, Nat.reduceAdd])
                refine arun_nil ⟨fun h => absurd h (by decide), ?_⟩
                refine draw_nil ?_
                refine ain_n ?_
                refine athen_n ?_
                refine AWP.sub [(0, _), (1, _), (2, _), (7, _), (8, _), (9, _), (65, _), (78, _)] ⟨rfl, rfl, rfl, rfl, rfl, rfl, rfl, rfl, trivial⟩ ?_
                refine AWP.region ?_
                refine rC (Calm.move rfl) ?_
                refine rC (Calm.bin rfl rfl b_sub_i64) ?_
                refine rC (Calm.assign rfl) ?_
                refine arun_nil ?_
                refine athen_n ?_
                refine ⟨(j, swp d3 (j + 1) j), ?_, ?_, ?_, ?_⟩
                all_goals (try dsimp only)
                · exact ⟨sb_, sb_, sb_, sb_, sb_, sb_, trivial⟩
                · exact Mem.Less.refl _
                · exact ⟨by omega, R3.swp _ _ (by omega) (by omega), (sd_go ltN hl).trans k3⟩
                · omega
            · obtain rfl : j = 0 := by omega
              refine AWP.seq ?_
              refine AWP.seq ?_
              refine AWP.region ?_
              refine rC (Calm.move rfl) ?_
              refine rC (Calm.bin rfl rfl b_geq) ?_
              refine arun_nil ?_
              refine athen_n ?_
              refine AWP.sub [(0, _), (1, _), (2, _), (7, _), (8, _), (9, _), (65, _)] ⟨rfl, rfl, rfl, rfl, rfl, rfl, rfl, trivial⟩ ?_
              refine AWP.condF rfl (by first | rfl | (simp; done) | (simp; omega)) ?_
              refine AWP.exit ?_
              refine athen_exit ?_
              refine athen_exit ?_
              refine ain_same ?_
              refine ⟨d3, ?_, ?_, ?_⟩
              all_goals (try dsimp only)
              · exact ⟨R3, by rw [if_pos hw, ← k3]; rfl⟩
              · exact ⟨sb_, sb_, sb_, sb_, sb_, trivial⟩
              · exact Mem.Less.refl _
          · refine AWP.condF rfl (by first | rfl | (simp; done) | (simp; omega)) ?_
            refine AWP.skip ?_
            refine ⟨d2, ?_, ?_, ?_⟩
            all_goals (try dsimp only)
            · exact ⟨R2, by rw [if_neg hw]⟩
            · exact ⟨sb_, sb_, sb_, sb_, sb_, trivial⟩
            · exact Mem.Less.refl _
        rintro d3 ⟨R3, hd3⟩
        intro _ _ hs_ hl_
        (try dsimp only at *)
        refine athen_n ?_
        refine AWP.sub _ hs_ (AWP.less _ hl_ ?_)
        clear hs_ hl_
        have z3 := R3.size
        refine AWP.seq ?_
        refine AWP.region ?_
        refine rC (Calm.move rfl) ?_
        refine rC (Calm.move rfl) ?_
        refine rC (Calm.bin rfl rfl b_sub_i64) ?_
        refine rC (Calm.bin rfl rfl b_geq) ?_
        refine arun_nil ?_
        refine athen_n ?_
        refine AWP.sub [(0, _), (1, _), (2, _), (7, _), (8, _), (98, _)] ⟨rfl, rfl, rfl, rfl, rfl, rfl, trivial⟩ ?_
        refine AWP.join (X := Array Nat) (fun x => [(0, .slice (some ⟨b, 0, none⟩) n cap), (1, .int .i64 a), (2, .int .i64 e), (7, .int .i64 ((w + 1 : Nat) : Int)), (8, .int .i64 ((5 - (s + 1) : Nat) : Int))]) (fun x => S.set b ⟨41, (x).toList.map encU, room⟩) (fun x => Rw (fun _ => True) n x ∧ x = (if e - (w + 1) ≥ 2 then shiftUp ltN e (w + 1 + 1) d3 else d3)) ?_ ?_
        · by_cases hw : 2 ≤ e - (w + 1)
          · refine AWP.condT rfl (by first | rfl | (simp; done) | (simp; omega)) ?_
            refine AWP.seq ?_
            refine AWP.region ?_
            refine rC (Calm.move rfl) ?_
            refine rC (Calm.bin rfl rfl b_add_i64) ?_
            refine rC (Calm.assign rfl) ?_
            refine arun_nil ?_
            refine athen_n ?_
            refine AWP.sub [(0, _), (1, _), (2, _), (7, _), (8, _), (98, _), (10, _)] ⟨rfl, rfl, rfl, rfl, rfl, rfl, rfl, trivial⟩ ?_
            refine AWP.block ?_
            refine AWP.loop (X := Nat × Array Nat) (fun x => [(0, .slice (some ⟨b, 0, none⟩) n cap), (1, .int .i64 a), (2, .int .i64 e), (7, .int .i64 ((w + 1 : Nat) : Int)), (8, .int .i64 ((5 - (s + 1) : Nat) : Int)), (10, .int .i64 x.1)]) (fun x => S.set b ⟨41, (x.2).toList.map encU, room⟩) (fun x => w + 1 + 1 ≤ x.1 ∧ x.1 ≤ e ∧ Rw (fun _ => True) n x.2 ∧ shiftUp ltN e x.1 x.2 = shiftUp ltN e (w + 1 + 1) d3) (fun x => e - x.1) ((w + 1 + 1, d3)) ⟨sb_, sb_, sb_, sb_, sb_, sb_, trivial⟩ (Mem.Less.refl _) (⟨Nat.le_refl _, by dsimp only; omega, R3, rfl⟩) ?_
            rintro ⟨j, d4⟩ ⟨k1, k2, R4, k3⟩
            (try dsimp only at *)
            have z4 := R4.size
            by_cases hj : j < e
            · obtain ⟨j, rfl⟩ : ∃ q, j = q + 1 := ⟨j - 1, by omega⟩
              refine AWP.seq ?_
              refine AWP.seq ?_
              refine AWP.region ?_
              refine rC (Calm.move rfl) ?_
              refine rC (Calm.move rfl) ?_
              refine rC (Calm.bin rfl rfl b_lss) ?_
              refine arun_nil ?_
              refine athen_n ?_
              refine AWP.sub [(0, _), (1, _), (2, _), (7, _), (8, _), (10, _), (103, _)] ⟨rfl, rfl, rfl, rfl, rfl, rfl, rfl, trivial⟩ ?_
              refine AWP.condT rfl (by first | rfl | (simp; done) | (simp; omega)) ?_
              refine AWP.skip ?_
              refine athen_n ?_
              refine AWP.seq ?_
              refine AWP.block ?_
              refine AWP.seq ?_
              refine AWP.seq ?_
              refine AWP.draw [(0, true), (1, true), (2, true), (3, true), (4, true), (5, true), (6, true), (7, true), (8, true), (9, false), (10, true)] [] mixed (by kernel_rfl) ?_
              refine dP (hc := fun _ => Calm.move rfl) (h := ?_)
              refine dP (hc := fun _ => Calm.move rfl) (h := ?_)
              refine dP (hc := fun _ => Calm.indexS Try.underlying22 ty_size_41 rfl rfl (by omega) (by omega)) (h := ?_)
              refine dC (hc := Calm.load ty_plain_41 rfl (rd_row (k := j + 1) own_ rw_ rw_)) (h := ?_)
              refine dP (hc := fun _ => Calm.move rfl) (h := ?_)
              refine dP (hc := fun _ => Calm.move rfl) (h := ?_)
              refine dP (hc := fun _ => Calm.bin rfl rfl b_sub_i64) (h := ?_)
              refine dP (hc := fun _ => Calm.indexS Try.underlying22 ty_size_41 rfl rfl (by omega) (by omega)) (h := ?_)
              refine dC (hc := Calm.load ty_plain_41 rfl (rd_row (k := j) own_ rw_ rw_)) (h := ?_)
              refine draw_only rfl ?_
              refine ARun.call (lit_lt rfl) go_160 rfl (soU_less _ _ _) ?_
              rintro _ _ ⟨rfl, rfl⟩
              refine arun_nil ⟨fun _ => less_, ?_⟩
              refine dP (hc := fun _ => Calm.un rfl (una_not _)) (h := ?_)
              refine draw_nil ?_
              refine athen_n ?_
              refine AWP.sub [(0, _), (1, _), (2, _), (7, _), (8, _), (10, _), (103, _), (116, _)] ⟨rfl, rfl, rfl, rfl, rfl, rfl, rfl, rfl, trivial⟩ ?_
              refine AWP.condB rfl (fun hl => ?_) (fun hl => ?_)
              · have hl := nt_ hl
                refine AWP.exit ?_
                refine athen_exit ?_
                refine ain_other rfl ?_
                refine athen_exit ?_
                refine athen_exit ?_
                refine ain_same ?_
                refine ⟨d4, ?_, ?_, ?_⟩
                all_goals (try dsimp only)
                · exact ⟨R4, by rw [if_pos hw, ← k3, ← su_no ltN (by rw [Nat.add_sub_cancel]; exact hl)]⟩
                · exact ⟨sb_, sb_, sb_, sb_, sb_, trivial⟩
                · exact Mem.Less.refl _
              · have hl := nf_ hl
                refine AWP.skip ?_
                refine athen_n ?_
                refine AWP.draw [(0, true), (1, true), (2, true), (3, true), (4, true), (5, true), (6, true), (7, true), (8, true), (9, true), (10, true), (11, true), (12, true), (13, true), (14, true), (15, false), (16, true), (17, false)] [15, 17] mixed (by kernel_rfl) ?_
                refine dP (hc := fun _ => Calm.move rfl) (h := ?_)
                refine dP (hc := fun _ => Calm.move rfl) (h := ?_)
                refine dP (hc := fun _ => Calm.move rfl) (h := ?_)
                refine dP (hc := fun _ => Calm.move rfl) (h := ?_)
                refine dP (hc := fun _ => Calm.bin rfl rfl b_sub_i64) (h := ?_)
                refine dP (hc := fun _ => Calm.move rfl) (h := ?_)
                refine dP (hc := fun _ => Calm.move rfl) (h := ?_)
                refine dP (hc := fun _ => Calm.bin rfl rfl b_sub_i64) (h := ?_)
                refine dP (hc := fun _ => Calm.indexS Try.underlying22 ty_size_41 rfl rfl (by omega) (by omega)) (h := ?_)
                refine dC (hc := Calm.load ty_plain_41 rfl (rd_row (k := j) own_ rw_ rw_)) (h := ?_)
                refine dP (hc := fun _ => Calm.move rfl) (h := ?_)
                refine dP (hc := fun _ => Calm.move rfl) (h := ?_)
                refine dP (hc := fun _ => Calm.indexS Try.underlying22 ty_size_41 rfl rfl (by omega) (by omega)) (h := ?_)
                refine dC (hc := Calm.load ty_plain_41 rfl (rd_row (k := j + 1) own_ rw_ rw_)) (h := ?_)
                refine dP (hc := fun _ => Calm.indexS Try.underlying22 ty_size_41 rfl rfl (by omega) (by omega)) (h := ?_)
                refine draw_only rfl ?_
                refine ARun.storeRow encU (j + 1) rfl rfl ty_size_41 ⟨rfl, rfl⟩ own_ rw_ rw_ ?_
                (try simp only [Mem.set_set, List.set_cons_zero, List.set_cons_succ, Nat.zero_add, Nat.reduceAdd])
                refine arun_nil ⟨fun h => absurd h (by decide), ?_⟩
                refine dP (hc := fun _ => Calm.indexS Try.underlying22 ty_size_41 rfl rfl (by omega) (by omega)) (h := ?_)
                refine draw_only rfl ?_
                refine ARun.storeRow encU (j) rfl rfl ty_size_41 ⟨rfl, rfl⟩ own_ rw_ rw_ ?_
                (try simp only [Mem.set_set, List.set_cons_zero, List.set_cons_succ, Nat.zero_add, Nat.reduceAdd])
                refine arun_nil ⟨fun h => absurd h (by decide), ?_⟩
                refine draw_nil ?_
                refine ain_n ?_
                refine athen_n ?_
                refine AWP.sub [(0, _), (1, _), (2, _), (7, _), (8, _), (10, _), (103, _), (116, _)] ⟨rfl, rfl, rfl, rfl, rfl, rfl, rfl, rfl, trivial⟩ ?_
                refine AWP.region ?_
                refine rC (Calm.move rfl) ?_
                refine rC (Calm.bin rfl rfl b_add_i64) ?_
                refine rC (Calm.assign rfl) ?_
                refine arun_nil ?_
                refine athen_n ?_
                refine ⟨(j + 1 + 1, swp d4 (j + 1) j), ?_, ?_, ?_, ?_⟩
                all_goals (try dsimp only)
                · exact ⟨sb_, sb_, sb_, sb_, sb_, sb_, trivial⟩
                · exact Mem.Less.refl _
                · exact ⟨by omega, by omega, R4.swp _ _ (by omega) (by omega), (su_go ltN (j := j + 1) hj (by rw [Nat.add_sub_cancel]; exact hl)).trans k3⟩
                · omega
            · refine AWP.seq ?_
              refine AWP.seq ?_
              refine AWP.region ?_
              refine rC (Calm.move rfl) ?_
              refine rC (Calm.move rfl) ?_
              refine rC (Calm.bin rfl rfl b_lss) ?_
              refine arun_nil ?_
              refine athen_n ?_
              refine AWP.sub [(0, _), (1, _), (2, _), (7, _), (8, _), (10, _), (103, _)] ⟨rfl, rfl, rfl, rfl, rfl, rfl, rfl, trivial⟩ ?_
              refine AWP.condF rfl (by first | rfl | (simp; done) | (simp; omega)) ?_
              refine AWP.exit ?_
              refine athen_exit ?_
              refine athen_exit ?_
              refine ain_same ?_
              refine ⟨d4, ?_, ?_, ?_⟩
              all_goals (try dsimp only)
              · exact ⟨R4, by rw [if_pos hw, ← k3, ← su_end ltN hj]⟩
              · exact ⟨sb_, sb_, sb_, sb_, sb_, trivial⟩
              · exact Mem.Less.refl _
          · refine AWP.condF rfl (by first | rfl | (simp; done) | (simp; omega)) ?_
            refine AWP.skip ?_
            refine ⟨d3, ?_, ?_, ?_⟩
            all_goals (try dsimp only)
            · exact ⟨R3, by rw [if_neg hw]⟩
            · exact ⟨sb_, sb_, sb_, sb_, sb_, trivial⟩
            · exact Mem.Less.refl _
        rintro d4 ⟨R4, hd4⟩
        intro _ _ hs_ hl_
        (try dsimp only at *)
        refine ain_n ?_
        refine athen_n ?_
        refine AWP.sub _ hs_ (AWP.less _ hl_ ?_)
        clear hs_ hl_
        refine AWP.region ?_
        refine rC (Calm.move rfl) ?_
        refine rC (Calm.bin rfl rfl b_add_i64) ?_
        refine rC (Calm.assign rfl) ?_
        refine arun_nil ?_
        refine athen_n ?_
        refine ⟨(s, w + 1, d4), ?_, ?_, ?_, ?_⟩
        all_goals (try dsimp only)
        · exact ⟨sb_, sb_, sb_, sb_, sb_, trivial⟩
        · exact Mem.Less.refl _
        · exact ⟨by omega, by omega, by omega, R4, (pi_step ltN hS (by omega) h50 hd2 hd3 hd4).trans h3⟩
        · omega
  · obtain rfl : s = 0 := by omega
    refine AWP.seq ?_
    refine AWP.seq ?_
    refine AWP.region ?_
    refine rC (Calm.move rfl) ?_
    refine rC (Calm.bin rfl rfl b_lss) ?_
    refine arun_nil ?_
    refine athen_n ?_
    refine AWP.sub [(0, _), (1, _), (2, _), (7, _), (8, _), (14, _)] ⟨rfl, rfl, rfl, rfl, rfl, rfl, trivial⟩ ?_
    refine AWP.condF rfl (by first | rfl | (simp; done) | (simp; omega)) ?_
    refine AWP.exit ?_
    refine athen_exit ?_
    refine athen_exit ?_
    refine ain_same ?_
    refine athen_n ?_
    refine AWP.seq ?_
    refine AWP.region ?_
    refine rC (Calm.assign rfl) ?_
    refine arun_nil ?_
    refine athen_n ?_
    refine AWP.ret ?_
    refine ⟨_, _, ⟨_, _, rfl, rfl, rfl⟩, Mem.Less.refl _, ?_⟩
    rw [← h3]; exact ⟨rfl, rfl, R1⟩
end Go.Proofs.Ytgidjbpgkeemiaa
namespace Go.Proofs.Ytgidjbpgkeemiaa
open Go.RowKit
open Mv Srt
open Go.Sort (swp insInner insOuter insertionSort siftDown heapBuild heapPop heapSort scanUp scanDown partLoop partition partEqLoop partitionEqual scanSorted shiftDown shiftUp partialIns partialInsertionSort order2 median medianAdjacent choosePivot reverseLoop reverseRange breakStep breakPatterns pdq bitsLen xorNext Hint)
set_option linter.unusedVariables false
set_option linter.unusedSimpArgs false
set_option maxRecDepth 4000
set_option maxHeartbeats 8000000 in
theorem soU_pdq {S : Mem} (b room n cap : Nat) (hb : Fresh S b) (hn : n ≤ 1048576) : ∀ (m : Nat) (d : Array Nat) (R : Rw (fun _ => True) n d) (ia ie il : Int) (a e limit : Nat), ia = a → ie = e → il = limit → a ≤ e → e ≤ n → limit ≤ 1000 → e - a = m →
    ACall Try.prog 159 #[.slice (some ⟨b, 0, none⟩) n cap, .int .i64 ia, .int .i64 ie, .int .i64 il] (S.set b ⟨41, (d).toList.map encU, room⟩) fun r S' => S' = S.set b ⟨41, (pdq ltN d a e limit true true).toList.map encU, room⟩ ∧ Rw (fun _ => True) n (pdq ltN d a e limit true true) := by
  intro m
  induction m using Nat.strongRecOn with
  | _ m ih =>
  intro d R ia ie il a e limit ha he hl hae hen hlim hm
  subst ha he hl
  refine ACall.enter (args := [.slice (some ⟨b, 0, none⟩) n cap, .int .i64 a, .int .i64 e, .int .i64 limit]) (rs := []) 134 [(0, .slice (some ⟨b, 0, none⟩) n cap), (1, .int .i64 a), (2, .int .i64 e), (3, .int .i64 limit)] Try.func159 rfl rfl (Nat.le_of_ble_eq_true rfl) rfl ⟨rfl, rfl, rfl, rfl, trivial⟩ ?_
  refine AWP.seq ?_
  refine AWP.region ?_
  refine rC (Calm.assign rfl) ?_
  refine arun_nil ?_
  refine athen_n ?_
  refine AWP.seq ?_
  refine AWP.region ?_
  refine rC (Calm.assign rfl) ?_
  refine arun_nil ?_
  refine athen_n ?_
  refine AWP.block ?_
  refine AWP.loop (X := Nat × Nat × Nat × Bool × Bool × Array Nat) (fun x => [(0, .slice (some ⟨b, 0, none⟩) n cap), (1, .int .i64 x.1), (2, .int .i64 x.2.1), (3, .int .i64 x.2.2.1), (8, .bool x.2.2.2.1), (9, .bool x.2.2.2.2.1)]) (fun x => S.set b ⟨41, (x.2.2.2.2.2).toList.map encU, room⟩) (fun x => x.1 ≤ x.2.1 ∧ x.2.1 ≤ e ∧ Rw (fun _ => True) n x.2.2.2.2.2 ∧ x.2.1 - x.1 ≤ m ∧ x.2.2.1 ≤ limit ∧ pdq ltN x.2.2.2.2.2 x.1 x.2.1 x.2.2.1 x.2.2.2.1 x.2.2.2.2.1 = pdq ltN d a e limit true true) (fun x => x.2.1 - x.1) ((a, e, limit, true, true, d)) ⟨sb_, sb_, sb_, sb_, sb_, sb_, trivial⟩ (Mem.Less.refl _) (⟨hae, Nat.le_refl _, R, by dsimp only; omega, Nat.le_refl _, rfl⟩) ?_
  rintro ⟨a1, e1, l1, w1, w2, d0⟩ ⟨h1, h2, R0, h4, h5, hq⟩
  (try dsimp only at *)
  have z0 := R0.size
  by_cases h12 : e1 - a1 ≤ 12
  · refine AWP.block ?_
    refine AWP.seq ?_
    refine AWP.region ?_
    refine rC (Calm.move rfl) ?_
    refine rC (Calm.move rfl) ?_
    refine rC (Calm.bin rfl rfl b_sub_i64) ?_
    refine rC (Calm.assign rfl) ?_
    refine arun_nil ?_
    refine athen_n ?_
    refine AWP.sub [(0, _), (1, _), (2, _), (3, _), (8, _), (9, _), (10, _)] ⟨rfl, rfl, rfl, rfl, rfl, rfl, rfl, trivial⟩ ?_
    refine AWP.seq ?_
    refine AWP.seq ?_
    refine AWP.region ?_
    refine rC (Calm.move rfl) ?_
    refine rC (Calm.bin rfl rfl b_leq) ?_
    refine arun_nil ?_
    refine athen_n ?_
    refine AWP.sub [(0, _), (1, _), (2, _), (3, _), (8, _), (9, _), (10, _), (23, _)] ⟨rfl, rfl, rfl, rfl, rfl, rfl, rfl, rfl, trivial⟩ ?_
    refine AWP.condT rfl (by first | rfl | (simp; done) | (simp; omega)) ?_
    refine AWP.seq ?_
    refine AWP.region ?_
    refine rC (Calm.move rfl) ?_
    refine rC (Calm.move rfl) ?_
    refine rC (Calm.move rfl) ?_
    refine ARun.call (lit_lt rfl) go_183 rfl (soU_ins b room n cap hb hn d0 R0 _ _ a1 e1 rfl rfl (by omega) (by omega)) ?_
    rintro _ _ ⟨rfl, R1⟩
    refine arun_nil ?_
    refine athen_n ?_
    refine AWP.sub [(0, _), (1, _), (2, _), (3, _), (8, _), (9, _), (10, _), (23, _)] ⟨rfl, rfl, rfl, rfl, rfl, rfl, rfl, rfl, trivial⟩ ?_
    refine AWP.ret ?_
    refine athen_ret ?_
    refine ain_ret ?_
    refine athen_ret ?_
    refine ain_ret ?_
    refine ⟨_, _, rfl, Mem.Less.refl _, ?_⟩
    rw [← hq, pdq_ins ltN h12]; exact ⟨rfl, R1⟩
  · refine AWP.block ?_
    refine AWP.seq ?_
    refine AWP.region ?_
    refine rC (Calm.move rfl) ?_
    refine rC (Calm.move rfl) ?_
    refine rC (Calm.bin rfl rfl b_sub_i64) ?_
    refine rC (Calm.assign rfl) ?_
    refine arun_nil ?_
    refine athen_n ?_
    refine AWP.sub [(0, _), (1, _), (2, _), (3, _), (8, _), (9, _), (10, _)] ⟨rfl, rfl, rfl, rfl, rfl, rfl, rfl, trivial⟩ ?_
    refine AWP.seq ?_
    refine AWP.seq ?_
    refine AWP.region ?_
    refine rC (Calm.move rfl) ?_
    refine rC (Calm.bin rfl rfl b_leq) ?_
    refine arun_nil ?_
    refine athen_n ?_
    refine AWP.sub [(0, _), (1, _), (2, _), (3, _), (8, _), (9, _), (10, _), (23, _)] ⟨rfl, rfl, rfl, rfl, rfl, rfl, rfl, rfl, trivial⟩ ?_
    refine AWP.condF rfl (by first | rfl | (simp; done) | (simp; omega)) ?_
    by_cases hl0 : l1 = 0
    · refine AWP.skip ?_
      refine athen_n ?_
      refine AWP.seq ?_
      refine AWP.seq ?_
      refine AWP.region ?_
      refine rC (Calm.move rfl) ?_
      refine rC (Calm.bin rfl rfl b_eql) ?_
      refine arun_nil ?_
      refine athen_n ?_
      refine AWP.sub [(0, _), (1, _), (2, _), (3, _), (8, _), (9, _), (10, _), (23, _), (29, _)] ⟨rfl, rfl, rfl, rfl, rfl, rfl, rfl, rfl, rfl, trivial⟩ ?_
      refine AWP.condT rfl (by first | rfl | (simp; done) | (simp; omega)) ?_
      refine AWP.seq ?_
      refine AWP.region ?_
      refine rC (Calm.move rfl) ?_
      refine rC (Calm.move rfl) ?_
      refine rC (Calm.move rfl) ?_
      refine ARun.call (lit_lt rfl) go_184 rfl (soU_heap b room n cap hb hn d0 R0 _ _ a1 e1 rfl rfl (by omega) (by omega)) ?_
      rintro _ _ ⟨rfl, R1⟩
      refine arun_nil ?_
      refine athen_n ?_
      refine AWP.sub [(0, _), (1, _), (2, _), (3, _), (8, _), (9, _), (10, _), (23, _), (29, _)] ⟨rfl, rfl, rfl, rfl, rfl, rfl, rfl, rfl, rfl, trivial⟩ ?_
      refine AWP.ret ?_
      refine athen_ret ?_
      refine ain_ret ?_
      refine athen_ret ?_
      refine ain_ret ?_
      refine ⟨_, _, rfl, Mem.Less.refl _, ?_⟩
      rw [← hq, pdq_heap ltN h12 hl0]; exact ⟨rfl, R1⟩
    · refine AWP.skip ?_
      refine athen_n ?_
      refine AWP.seq ?_
      refine AWP.seq ?_
      refine AWP.region ?_
      refine rC (Calm.move rfl) ?_
      refine rC (Calm.bin rfl rfl b_eql) ?_
      refine arun_nil ?_
      refine athen_n ?_
      refine AWP.sub [(0, _), (1, _), (2, _), (3, _), (8, _), (9, _), (10, _), (23, _), (29, _)] ⟨rfl, rfl, rfl, rfl, rfl, rfl, rfl, rfl, rfl, trivial⟩ ?_
      refine AWP.condF rfl (by first | rfl | (simp; done) | (simp; omega)) ?_
      rw [pdq_1 ltN h12 hl0] at hq
      refine AWP.skip ?_
      refine athen_n ?_
      refine AWP.seq ?_
      refine AWP.seq ?_
      refine AWP.region ?_
      refine rC (Calm.move rfl) ?_
      refine rC (Calm.un rfl (una_not _)) ?_
      refine arun_nil ?_
      refine athen_n ?_
      refine AWP.sub [(0, _), (1, _), (2, _), (3, _), (8, _), (9, _), (10, _), (23, _), (29, _), (35, _)] ⟨rfl, rfl, rfl, rfl, rfl, rfl, rfl, rfl, rfl, rfl, trivial⟩ ?_
      refine AWP.join (X := Nat × Array Nat) (fun x => [(0, .slice (some ⟨b, 0, none⟩) n cap), (1, .int .i64 a1), (2, .int .i64 e1), (3, .int .i64 x.1), (8, .bool w1), (9, .bool w2), (10, .int .i64 ((e1 - a1 : Nat) : Int))]) (fun x => S.set b ⟨41, (x.2).toList.map encU, room⟩) (fun x => x.1 ≤ l1 ∧ Rw (fun _ => True) n x.2 ∧ pdq1 ltN x.2 a1 e1 x.1 w1 w2 = pdq ltN d a e limit true true) ?_ ?_
      · cases w1
        · refine AWP.condT rfl (by first | rfl | (simp; done) | (simp; omega)) ?_
          refine AWP.seq ?_
          refine AWP.region ?_
          refine rC (Calm.move rfl) ?_
          refine rC (Calm.move rfl) ?_
          refine rC (Calm.move rfl) ?_
          refine ARun.call (lit_lt rfl) go_185 rfl (soU_brk b room n cap hb hn d0 R0 _ _ a1 e1 rfl rfl (by omega) (by omega)) ?_
          rintro _ _ ⟨rfl, R1⟩
          refine arun_nil ?_
          refine athen_n ?_
          refine AWP.sub [(0, _), (1, _), (2, _), (3, _), (8, _), (9, _), (10, _), (23, _), (29, _), (35, _)] ⟨rfl, rfl, rfl, rfl, rfl, rfl, rfl, rfl, rfl, rfl, trivial⟩ ?_
          refine AWP.region ?_
          refine rC (Calm.move rfl) ?_
          refine rC (Calm.bin rfl rfl b_sub_i64) ?_
          refine rC (Calm.assign rfl) ?_
          refine arun_nil ?_
          refine ⟨(l1 - 1, breakPatterns d0 a1 e1), ?_, ?_, ?_⟩
          all_goals (try dsimp only)
          · exact ⟨by omega, R1, hq⟩
          · exact ⟨sb_, sb_, sb_, sb_, sb_, sb_, sb_, trivial⟩
          · exact Mem.Less.refl _
        · refine AWP.condF rfl (by first | rfl | (simp; done) | (simp; omega)) ?_
          refine AWP.skip ?_
          refine ⟨(l1, d0), ?_, ?_, ?_⟩
          all_goals (try dsimp only)
          · exact ⟨Nat.le_refl _, R0, hq⟩
          · exact ⟨sb_, sb_, sb_, sb_, sb_, sb_, sb_, trivial⟩
          · exact Mem.Less.refl _
      rintro ⟨l2, d1⟩ ⟨k1, R1, hq⟩
      intro _ _ hs_ hl_
      (try dsimp only at *)
      refine athen_n ?_
      refine AWP.sub _ hs_ (AWP.less _ hl_ ?_)
      clear hs_ hl_
      have z1 := R1.size
      obtain ⟨⟨p0, ht⟩, hpc⟩ : ∃ q, q = choosePivot ltN d1 a1 e1 := ⟨_, rfl⟩
      refine AWP.seq ?_
      refine AWP.region ?_
      refine rC (Calm.move rfl) ?_
      refine rC (Calm.move rfl) ?_
      refine rC (Calm.move rfl) ?_
      refine ARun.call (lit_lt rfl) go_186 rfl ((hpc ▸ soU_pivot b room n cap hb hn d1 R1 _ _ a1 e1 rfl rfl (by omega) (by omega))) ?_
      rintro _ _ ⟨rfl, rfl, g1, g2⟩
      dsimp only at g1 g2
      rw [pdq1, ← hpc] at hq
      dsimp only at hq
      refine rC (Calm.move rfl) ?_
      refine rC (Calm.extract rfl rfl) ?_
      refine rC (Calm.extract rfl rfl) ?_
      refine rC (Calm.assign rfl) ?_
      refine rC (Calm.assign rfl) ?_
      refine arun_nil ?_
      refine athen_n ?_
      refine AWP.sub [(0, _), (1, _), (2, _), (3, _), (8, _), (9, _), (10, _), (11, _), (12, _)] ⟨rfl, rfl, rfl, rfl, rfl, rfl, rfl, rfl, rfl, trivial⟩ ?_
      refine AWP.seq ?_
      refine AWP.seq ?_
      refine AWP.region ?_
      refine rC (Calm.move rfl) ?_
      refine rC (Calm.bin rfl rfl b_eql) ?_
      refine arun_nil ?_
      refine athen_n ?_
      refine AWP.sub [(0, _), (1, _), (2, _), (3, _), (8, _), (9, _), (10, _), (11, _), (12, _), (50, _)] ⟨rfl, rfl, rfl, rfl, rfl, rfl, rfl, rfl, rfl, rfl, trivial⟩ ?_
      refine AWP.join (X := Nat × Hint × Array Nat) (fun x => [(0, .slice (some ⟨b, 0, none⟩) n cap), (1, .int .i64 a1), (2, .int .i64 e1), (3, .int .i64 l2), (8, .bool w1), (9, .bool w2), (10, .int .i64 ((e1 - a1 : Nat) : Int)), (11, .int .i64 x.1), (12, .int .i64 (hintI x.2.1))]) (fun x => S.set b ⟨41, (x.2.2).toList.map encU, room⟩) (fun x => a1 ≤ x.1 ∧ x.1 < e1 ∧ Rw (fun _ => True) n x.2.2 ∧ pdq2 ltN x.2.2 a1 e1 l2 w1 w2 x.1 x.2.1 = pdq ltN d a e limit true true) ?_ ?_
      · by_cases hde : ht = .decreasing
        · subst hde
          refine AWP.condT rfl (by first | rfl | (simp; done) | (simp; omega)) ?_
          refine AWP.seq ?_
          refine AWP.region ?_
          refine rC (Calm.move rfl) ?_
          refine rC (Calm.move rfl) ?_
          refine rC (Calm.move rfl) ?_
          refine ARun.call (lit_lt rfl) go_187 rfl (soU_rev b room n cap hb hn d1 R1 _ _ a1 e1 rfl rfl (by omega) (by omega)) ?_
          rintro _ _ ⟨rfl, R2⟩
          refine arun_nil ?_
          refine athen_n ?_
          refine AWP.sub [(0, _), (1, _), (2, _), (3, _), (8, _), (9, _), (10, _), (11, _), (12, _), (50, _)] ⟨rfl, rfl, rfl, rfl, rfl, rfl, rfl, rfl, rfl, rfl, trivial⟩ ?_
          refine AWP.seq ?_
          refine AWP.region ?_
          refine rC (Calm.move rfl) ?_
          refine rC (Calm.bin rfl rfl b_sub_i64) ?_
          refine rC (Calm.move rfl) ?_
          refine rC (Calm.move rfl) ?_
          refine rC (Calm.bin rfl rfl b_sub_i64) ?_
          refine rC (Calm.bin rfl rfl b_sub_i64) ?_
          refine rC (Calm.assign rfl) ?_
          refine arun_nil ?_
          refine athen_n ?_
          refine AWP.sub [(0, _), (1, _), (2, _), (3, _), (8, _), (9, _), (10, _), (11, _), (12, _), (50, _)] ⟨rfl, rfl, rfl, rfl, rfl, rfl, rfl, rfl, rfl, rfl, trivial⟩ ?_
          refine AWP.region ?_
          refine rC (Calm.assign rfl) ?_
          refine arun_nil ?_
          refine ⟨(e1 - 1 - (p0 - a1), .increasing, reverseRange d1 a1 e1), ?_, ?_, ?_⟩
          all_goals (try dsimp only)
          · exact ⟨by omega, by omega, R2, by rw [if_pos rfl] at hq; exact hq⟩
          · exact ⟨sb_, sb_, sb_, sb_, sb_, sb_, sb_, sb_, sb_, trivial⟩
          · exact Mem.Less.refl _
        · have hni := hint_ne hde
          refine AWP.condF rfl (by first | rfl | (simp; done) | (simp; omega)) ?_
          refine AWP.skip ?_
          refine ⟨(p0, ht, d1), ?_, ?_, ?_⟩
          all_goals (try dsimp only)
          · exact ⟨g1, g2, R1, by rw [if_neg hde] at hq; exact hq⟩
          · exact ⟨sb_, sb_, sb_, sb_, sb_, sb_, sb_, sb_, sb_, trivial⟩
          · exact Mem.Less.refl _
      rintro ⟨pv, hi, d2⟩ ⟨g1, g2, R2, hq⟩
      intro _ _ hs_ hl_
      (try dsimp only at *)
      refine athen_n ?_
      refine AWP.sub _ hs_ (AWP.less _ hl_ ?_)
      clear hs_ hl_
      have z2 := R2.size
      have hh1 := hint_1 hi
      refine AWP.seq ?_
      refine AWP.seq ?_
      refine AWP.join (X := Bool) (fun x => [(0, .slice (some ⟨b, 0, none⟩) n cap), (1, .int .i64 a1), (2, .int .i64 e1), (3, .int .i64 l2), (8, .bool w1), (9, .bool w2), (10, .int .i64 ((e1 - a1 : Nat) : Int)), (11, .int .i64 pv), (68, .bool x)]) (fun x => S.set b ⟨41, (d2).toList.map encU, room⟩) (fun x => x = (w1 && w2 && decide (hi = .increasing))) ?_ ?_
      · cases w1
        · refine AWP.region ?_
          refine rC (Calm.move rfl) ?_
          refine rC (Calm.move rfl) ?_
          first | refine rS 62 ?_ | refine rU 62 ?_ | refine rG 62 (Calm.move rfl) ?_
          refine rC ((by first | exact Calm.pickT rfl rfl | exact Calm.pickF rfl rfl)) ?_
          refine rC (Calm.move rfl) ?_
          first | refine rS 65 ?_ | refine rU 65 ?_ | refine rG 65 (Calm.move rfl) ?_
          first | refine rS 65 ?_ | refine rU 65 ?_ | refine rG 65 (Calm.bin rfl rfl b_eql) ?_
          refine rC ((by first | exact Calm.pickT rfl rfl | exact Calm.pickF rfl rfl)) ?_
          refine arun_nil ?_
          refine ⟨false, ?_, ?_, ?_⟩
          all_goals (try dsimp only)
          · rfl
          · exact ⟨sb_, sb_, sb_, sb_, sb_, sb_, sb_, sb_, sb_, trivial⟩
          · exact Mem.Less.refl _
        · cases w2
          · refine AWP.region ?_
            refine rC (Calm.move rfl) ?_
            refine rC (Calm.move rfl) ?_
            first | refine rS 62 ?_ | refine rU 62 ?_ | refine rG 62 (Calm.move rfl) ?_
            refine rC ((by first | exact Calm.pickT rfl rfl | exact Calm.pickF rfl rfl)) ?_
            refine rC (Calm.move rfl) ?_
            first | refine rS 65 ?_ | refine rU 65 ?_ | refine rG 65 (Calm.move rfl) ?_
            first | refine rS 65 ?_ | refine rU 65 ?_ | refine rG 65 (Calm.bin rfl rfl b_eql) ?_
            refine rC ((by first | exact Calm.pickT rfl rfl | exact Calm.pickF rfl rfl)) ?_
            refine arun_nil ?_
            refine ⟨false, ?_, ?_, ?_⟩
            all_goals (try dsimp only)
            · rfl
            · exact ⟨sb_, sb_, sb_, sb_, sb_, sb_, sb_, sb_, sb_, trivial⟩
            · exact Mem.Less.refl _
          · refine AWP.region ?_
            refine rC (Calm.move rfl) ?_
            refine rC (Calm.move rfl) ?_
            first | refine rS 62 ?_ | refine rU 62 ?_ | refine rG 62 (Calm.move rfl) ?_
            refine rC ((by first | exact Calm.pickT rfl rfl | exact Calm.pickF rfl rfl)) ?_
            refine rC (Calm.move rfl) ?_
            first | refine rS 65 ?_ | refine rU 65 ?_ | refine rG 65 (Calm.move rfl) ?_
            first | refine rS 65 ?_ | refine rU 65 ?_ | refine rG 65 (Calm.bin rfl rfl (bin_bool (bin_eql _ _) hh1)) ?_
            refine rC ((by first | exact Calm.pickT rfl rfl | exact Calm.pickF rfl rfl)) ?_
            refine arun_nil ?_
            refine ⟨(decide (hi = .increasing)), ?_, ?_, ?_⟩
            all_goals (try dsimp only)
            · simp
            · exact ⟨sb_, sb_, sb_, sb_, sb_, sb_, sb_, sb_, sb_, trivial⟩
            · exact Mem.Less.refl _
      rintro x hx
      intro _ _ hs_ hl_
      (try dsimp only at *)
      refine athen_n ?_
      refine AWP.sub _ hs_ (AWP.less _ hl_ ?_)
      clear hs_ hl_
      rw [pdq2, ← hx] at hq
      refine AWP.join (X := Array Nat) (fun x => [(0, .slice (some ⟨b, 0, none⟩) n cap), (1, .int .i64 a1), (2, .int .i64 e1), (3, .int .i64 l2), (8, .bool w1), (9, .bool w2), (10, .int .i64 ((e1 - a1 : Nat) : Int)), (11, .int .i64 pv)]) (fun x => S.set b ⟨41, (x).toList.map encU, room⟩) (fun x => Rw (fun _ => True) n x ∧ pdq3 ltN x a1 e1 l2 w1 w2 pv = pdq ltN d a e limit true true) ?_ ?_
      · cases x
        · refine AWP.condF rfl (by first | rfl | (simp; done) | (simp; omega)) ?_
          refine AWP.skip ?_
          refine ⟨d2, ?_, ?_, ?_⟩
          all_goals (try dsimp only)
          · exact ⟨R2, hq⟩
          · exact ⟨sb_, sb_, sb_, sb_, sb_, sb_, sb_, sb_, trivial⟩
          · exact Mem.Less.refl _
        · refine AWP.condT rfl (by first | rfl | (simp; done) | (simp; omega)) ?_
          obtain ⟨⟨d3, pb⟩, hp3⟩ : ∃ q, q = partialInsertionSort ltN d2 a1 e1 := ⟨_, rfl⟩
          rw [if_pos rfl, ← hp3] at hq
          dsimp only at hq
          refine AWP.seq ?_
          refine AWP.region ?_
          refine rC (Calm.move rfl) ?_
          refine rC (Calm.move rfl) ?_
          refine rC (Calm.move rfl) ?_
          refine ARun.call (lit_lt rfl) go_188 rfl ((hp3 ▸ soU_pins b room n cap hb hn d2 R2 _ _ a1 e1 rfl rfl (by omega) (by omega))) ?_
          rintro _ _ ⟨rfl, rfl, R3⟩
          refine arun_nil ?_
          refine athen_n ?_
          refine AWP.sub [(0, _), (1, _), (2, _), (3, _), (8, _), (9, _), (10, _), (11, _), (68, _), (72, _)] ⟨rfl, rfl, rfl, rfl, rfl, rfl, rfl, rfl, rfl, rfl, trivial⟩ ?_
          cases pb
          · refine AWP.condF rfl (by first | rfl | (simp; done) | (simp; omega)) ?_
            refine AWP.skip ?_
            refine ⟨d3, ?_, ?_, ?_⟩
            all_goals (try dsimp only)
            · exact ⟨R3, hq⟩
            · exact ⟨sb_, sb_, sb_, sb_, sb_, sb_, sb_, sb_, trivial⟩
            · exact Mem.Less.refl _
          · refine AWP.condT rfl (by first | rfl | (simp; done) | (simp; omega)) ?_
            refine AWP.ret ?_
            refine join_ret ?_
            refine athen_ret ?_
            refine ain_ret ?_
            refine athen_ret ?_
            refine ain_ret ?_
            refine ⟨_, _, rfl, Mem.Less.refl _, ?_⟩
            rw [← hq]; exact ⟨rfl, R3⟩
      rintro d3 ⟨R3, hq⟩
      intro _ _ hs_ hl_
      (try dsimp only at *)
      refine athen_n ?_
      refine AWP.sub _ hs_ (AWP.less _ hl_ ?_)
      clear hs_ hl_
      clear hx
      have z3 := R3.size
      refine AWP.seq ?_
      refine AWP.seq ?_
      refine AWP.join (X := Bool) (fun x => [(0, .slice (some ⟨b, 0, none⟩) n cap), (1, .int .i64 a1), (2, .int .i64 e1), (3, .int .i64 l2), (8, .bool w1), (9, .bool w2), (10, .int .i64 ((e1 - a1 : Nat) : Int)), (11, .int .i64 pv), (87, .bool x)]) (fun x => S.set b ⟨41, (d3).toList.map encU, room⟩) (fun x => x = (decide (a1 > 0) && !ltN d3[a1 - 1]! d3[pv]!)) ?_ ?_
      · by_cases h0 : 0 < a1
        · refine AWP.draw [(0, true), (1, true), (2, true), (3, true), (4, true), (5, true), (6, true), (7, true), (8, true), (9, true), (10, true), (11, true), (12, false), (13, true), (14, true)] [] mixed (by kernel_rfl) ?_
          refine dP (hc := fun _ => Calm.move rfl) (h := ?_)
          refine dP (hc := fun _ => Calm.bin rfl rfl b_gtr) (h := ?_)
          refine dP (hc := fun _ => Calm.move rfl) (h := ?_)
          first | refine dS ?_ | refine dU ?_ | refine dG (hc := fun _ => Calm.move rfl) (h := ?_)
          first | refine dS ?_ | refine dU ?_ | refine dG (hc := fun _ => Calm.move rfl) (h := ?_)
          first | refine dS ?_ | refine dU ?_ | refine dG (hc := fun _ => Calm.bin rfl rfl b_sub_i64) (h := ?_)
          first | refine dS ?_ | refine dU ?_ | refine dG (hc := fun _ => Calm.indexS Try.underlying22 ty_size_41 rfl rfl (by omega) (by omega)) (h := ?_)
          first | refine dS ?_ | refine dU ?_ | refine dL (hc := Calm.load ty_plain_41 rfl (rd_row (k := a1 - 1) own_ rw_ rw_)) (h := ?_)
          first | refine dS ?_ | refine dU ?_ | refine dG (hc := fun _ => Calm.move rfl) (h := ?_)
          first | refine dS ?_ | refine dU ?_ | refine dG (hc := fun _ => Calm.move rfl) (h := ?_)
          first | refine dS ?_ | refine dU ?_ | refine dG (hc := fun _ => Calm.indexS Try.underlying22 ty_size_41 rfl rfl (by omega) (by omega)) (h := ?_)
          first | refine dS ?_ | refine dU ?_ | refine dL (hc := Calm.load ty_plain_41 rfl (rd_row (k := pv) own_ rw_ rw_)) (h := ?_)
          refine draw_only rfl ?_
          refine ARun.callG 2 true 75 rfl (lit_lt rfl) rfl (lit_lt rfl) go_160 rfl (soU_less _ _ _) ?_
          rintro _ _ ⟨rfl, rfl⟩
          refine arun_nil ⟨fun _ => less_, ?_⟩
          first | refine dS ?_ | refine dU ?_ | refine dG (hc := fun _ => Calm.un rfl (una_not _)) (h := ?_)
          refine dP (hc := fun _ => (by first | exact Calm.pickT rfl rfl | exact Calm.pickF rfl rfl)) (h := ?_)
          refine draw_nil ?_
          refine ⟨(!ltN d3[a1 - 1]! d3[pv]!), ?_, ?_, ?_⟩
          all_goals (try dsimp only)
          · rw [decide_eq_true h0]; rfl
          · exact ⟨sb_, sb_, sb_, sb_, sb_, sb_, sb_, sb_, sb_, trivial⟩
          · exact Mem.Less.refl _
        · refine AWP.draw [(0, true), (1, true), (2, true), (3, true), (4, true), (5, true), (6, true), (7, true), (8, true), (9, true), (10, true), (11, true), (12, false), (13, true), (14, true)] [] mixed (by kernel_rfl) ?_
          refine dP (hc := fun _ => Calm.move rfl) (h := ?_)
          refine dP (hc := fun _ => Calm.bin rfl rfl b_gtr) (h := ?_)
          refine dP (hc := fun _ => Calm.move rfl) (h := ?_)
          first | refine dS ?_ | refine dU ?_ | refine dG (hc := fun _ => Calm.move rfl) (h := ?_)
          first | refine dS ?_ | refine dU ?_ | refine dG (hc := fun _ => Calm.move rfl) (h := ?_)
          first | refine dS ?_ | refine dU ?_ | refine dG (hc := fun _ => Calm.bin rfl rfl b_sub_i64) (h := ?_)
          first | refine dS ?_ | refine dU ?_ | refine dG (hc := fun _ => Calm.indexS Try.underlying22 ty_size_41 rfl rfl (by omega) (by omega)) (h := ?_)
          first | refine dS ?_ | refine dU ?_ | refine dL (hc := Calm.load ty_plain_41 rfl (rd_row (k := a1 - 1) own_ rw_ rw_)) (h := ?_)
          first | refine dS ?_ | refine dU ?_ | refine dG (hc := fun _ => Calm.move rfl) (h := ?_)
          first | refine dS ?_ | refine dU ?_ | refine dG (hc := fun _ => Calm.move rfl) (h := ?_)
          first | refine dS ?_ | refine dU ?_ | refine dG (hc := fun _ => Calm.indexS Try.underlying22 ty_size_41 rfl rfl (by omega) (by omega)) (h := ?_)
          first | refine dS ?_ | refine dU ?_ | refine dL (hc := Calm.load ty_plain_41 rfl (rd_row (k := pv) own_ rw_ rw_)) (h := ?_)
          refine draw_only rfl ?_
          first | refine rS 75 ?_ | refine rU 75 ?_
          refine arun_nil ⟨fun _ => less_, ?_⟩
          first | refine dS ?_ | refine dU ?_ | refine dG (hc := fun _ => Calm.un rfl (una_not _)) (h := ?_)
          refine dP (hc := fun _ => (by first | exact Calm.pickT rfl rfl | exact Calm.pickF rfl rfl)) (h := ?_)
          refine draw_nil ?_
          refine ⟨false, ?_, ?_, ?_⟩
          all_goals (try dsimp only)
          · rw [decide_eq_false h0]; rfl
          · exact ⟨sb_, sb_, sb_, sb_, sb_, sb_, sb_, sb_, sb_, trivial⟩
          · exact Mem.Less.refl _
      rintro x hx
      intro _ _ hs_ hl_
      (try dsimp only at *)
      refine athen_n ?_
      refine AWP.sub _ hs_ (AWP.less _ hl_ ?_)
      clear hs_ hl_
      rw [pdq3, ← hx] at hq
      cases x
      · refine AWP.condF rfl (by first | rfl | (simp; done) | (simp; omega)) ?_
        obtain ⟨⟨md, ap, d4⟩, hp4⟩ : ∃ q, q = partition ltN d3 a1 e1 pv := ⟨_, rfl⟩
        rw [if_neg Bool.false_ne_true, ← hp4] at hq
        dsimp only at hq
        refine AWP.skip ?_
        refine athen_n ?_
        refine AWP.seq ?_
        refine AWP.region ?_
        refine rC (Calm.move rfl) ?_
        refine rC (Calm.move rfl) ?_
        refine rC (Calm.move rfl) ?_
        refine rC (Calm.move rfl) ?_
        refine ARun.call (lit_lt rfl) go_190 rfl ((hp4 ▸ soU_part b room n cap hb hn d3 R3 _ _ _ a1 e1 pv rfl rfl rfl (by omega) (by omega) (by omega))) ?_
        rintro _ _ ⟨rfl, rfl, R4, g3, g4⟩
        dsimp only at R4 g3 g4
        rw [if_pos ⟨g3, g4⟩] at hq
        refine rC (Calm.move rfl) ?_
        refine rC (Calm.extract rfl rfl) ?_
        refine rC (Calm.extract rfl rfl) ?_
        refine rC (Calm.assign rfl) ?_
        refine rC (Calm.assign rfl) ?_
        refine arun_nil ?_
        refine athen_n ?_
        refine AWP.sub [(0, _), (1, _), (2, _), (3, _), (8, _), (9, _), (10, _), (11, _), (87, _), (14, _), (15, _)] ⟨rfl, rfl, rfl, rfl, rfl, rfl, rfl, rfl, rfl, rfl, rfl, trivial⟩ ?_
        by_cases hmd : md - a1 < e1 - md
        · rw [if_pos hmd] at hq
          refine AWP.seq ?_
          refine AWP.region ?_
          refine rC (Calm.move rfl) ?_
          refine rC (Calm.assign rfl) ?_
          refine arun_nil ?_
          refine athen_n ?_
          refine AWP.sub [(0, _), (1, _), (2, _), (3, _), (8, _), (9, _), (10, _), (11, _), (87, _), (14, _), (15, _)] ⟨rfl, rfl, rfl, rfl, rfl, rfl, rfl, rfl, rfl, rfl, rfl, trivial⟩ ?_
          refine AWP.seq ?_
          refine AWP.region ?_
          refine rC (Calm.move rfl) ?_
          refine rC (Calm.move rfl) ?_
          refine rC (Calm.bin rfl rfl b_sub_i64) ?_
          refine rC (Calm.move rfl) ?_
          refine rC (Calm.move rfl) ?_
          refine rC (Calm.bin rfl rfl b_sub_i64) ?_
          refine rC (Calm.assign rfl) ?_
          refine rC (Calm.assign rfl) ?_
          refine arun_nil ?_
          refine athen_n ?_
          refine AWP.sub [(0, _), (1, _), (2, _), (3, _), (8, _), (9, _), (10, _), (11, _), (87, _), (14, _), (15, _), (16, _), (17, _)] ⟨rfl, rfl, rfl, rfl, rfl, rfl, rfl, rfl, rfl, rfl, rfl, rfl, rfl, trivial⟩ ?_
          refine AWP.seq ?_
          refine AWP.region ?_
          refine rC (Calm.move rfl) ?_
          refine rC (Calm.bin rfl rfl b_quo_i64) ?_
          refine rC (Calm.assign rfl) ?_
          refine arun_nil ?_
          refine athen_n ?_
          refine AWP.sub [(0, _), (1, _), (2, _), (3, _), (8, _), (9, _), (10, _), (11, _), (87, _), (14, _), (15, _), (16, _), (17, _), (18, _)] ⟨rfl, rfl, rfl, rfl, rfl, rfl, rfl, rfl, rfl, rfl, rfl, rfl, rfl, rfl, trivial⟩ ?_
          refine AWP.seq ?_
          refine AWP.region ?_
          refine rC (Calm.move rfl) ?_
          refine rC (Calm.move rfl) ?_
          refine rC (Calm.bin rfl rfl b_lss) ?_
          refine arun_nil ?_
          refine athen_n ?_
          refine AWP.sub [(0, _), (1, _), (2, _), (3, _), (8, _), (9, _), (10, _), (11, _), (87, _), (14, _), (15, _), (16, _), (17, _), (18, _), (113, _)] ⟨rfl, rfl, rfl, rfl, rfl, rfl, rfl, rfl, rfl, rfl, rfl, rfl, rfl, rfl, rfl, trivial⟩ ?_
          refine AWP.condT rfl (by first | rfl | (simp; done) | (simp; omega)) ?_
          refine AWP.seq ?_
          refine AWP.region ?_
          refine rC (Calm.move rfl) ?_
          refine rC (Calm.move rfl) ?_
          refine rC (Calm.bin rfl rfl b_geq) ?_
          refine rC (Calm.assign rfl) ?_
          refine arun_nil ?_
          refine athen_n ?_
          refine AWP.sub [(0, _), (1, _), (2, _), (3, _), (8, _), (9, _), (10, _), (11, _), (87, _), (14, _), (15, _), (16, _), (17, _), (18, _), (113, _)] ⟨rfl, rfl, rfl, rfl, rfl, rfl, rfl, rfl, rfl, rfl, rfl, rfl, rfl, rfl, rfl, trivial⟩ ?_
          refine AWP.seq ?_
          refine AWP.region ?_
          refine rC (Calm.move rfl) ?_
          refine rC (Calm.move rfl) ?_
          refine rC (Calm.move rfl) ?_
          refine rC (Calm.move rfl) ?_
          refine ARun.call (lit_lt rfl) go_159 rfl (ih (md - a1) (by omega) d4 R4 _ _ _ a1 md l2 rfl rfl rfl (by omega) (by omega) (by omega) rfl) ?_
          rintro _ _ ⟨rfl, R5⟩
          refine arun_nil ?_
          refine athen_n ?_
          refine AWP.sub [(0, _), (1, _), (2, _), (3, _), (8, _), (9, _), (10, _), (11, _), (87, _), (14, _), (15, _), (16, _), (17, _), (18, _), (113, _)] ⟨rfl, rfl, rfl, rfl, rfl, rfl, rfl, rfl, rfl, rfl, rfl, rfl, rfl, rfl, rfl, trivial⟩ ?_
          refine AWP.region ?_
          refine rC (Calm.move rfl) ?_
          refine rC (Calm.bin rfl rfl b_add_i64) ?_
          refine rC (Calm.assign rfl) ?_
          refine arun_nil ?_
          refine ain_n ?_
          refine athen_n ?_
          refine ⟨(md + 1, e1, l2, decide (md - a1 ≥ (e1 - a1) / 8), ap, pdq ltN d4 a1 md l2 true true), ?_, ?_, ?_, ?_⟩
          all_goals (try dsimp only)
          · exact ⟨sb_, sb_, sb_, sb_, wbv_ (by omega), sb_, trivial⟩
          · exact Mem.Less.refl _
          · exact ⟨by omega, by omega, R5, by omega, by omega, hq⟩
          · omega
        · rw [if_neg hmd] at hq
          refine AWP.seq ?_
          refine AWP.region ?_
          refine rC (Calm.move rfl) ?_
          refine rC (Calm.assign rfl) ?_
          refine arun_nil ?_
          refine athen_n ?_
          refine AWP.sub [(0, _), (1, _), (2, _), (3, _), (8, _), (9, _), (10, _), (11, _), (87, _), (14, _), (15, _)] ⟨rfl, rfl, rfl, rfl, rfl, rfl, rfl, rfl, rfl, rfl, rfl, trivial⟩ ?_
          refine AWP.seq ?_
          refine AWP.region ?_
          refine rC (Calm.move rfl) ?_
          refine rC (Calm.move rfl) ?_
          refine rC (Calm.bin rfl rfl b_sub_i64) ?_
          refine rC (Calm.move rfl) ?_
          refine rC (Calm.move rfl) ?_
          refine rC (Calm.bin rfl rfl b_sub_i64) ?_
          refine rC (Calm.assign rfl) ?_
          refine rC (Calm.assign rfl) ?_
          refine arun_nil ?_
          refine athen_n ?_
          refine AWP.sub [(0, _), (1, _), (2, _), (3, _), (8, _), (9, _), (10, _), (11, _), (87, _), (14, _), (15, _), (16, _), (17, _)] ⟨rfl, rfl, rfl, rfl, rfl, rfl, rfl, rfl, rfl, rfl, rfl, rfl, rfl, trivial⟩ ?_
          refine AWP.seq ?_
          refine AWP.region ?_
          refine rC (Calm.move rfl) ?_
          refine rC (Calm.bin rfl rfl b_quo_i64) ?_
          refine rC (Calm.assign rfl) ?_
          refine arun_nil ?_
          refine athen_n ?_
          refine AWP.sub [(0, _), (1, _), (2, _), (3, _), (8, _), (9, _), (10, _), (11, _), (87, _), (14, _), (15, _), (16, _), (17, _), (18, _)] ⟨rfl, rfl, rfl, rfl, rfl, rfl, rfl, rfl, rfl, rfl, rfl, rfl, rfl, rfl, trivial⟩ ?_
          refine AWP.seq ?_
          refine AWP.region ?_
          refine rC (Calm.move rfl) ?_
          refine rC (Calm.move rfl) ?_
          refine rC (Calm.bin rfl rfl b_lss) ?_
          refine arun_nil ?_
          refine athen_n ?_
          refine AWP.sub [(0, _), (1, _), (2, _), (3, _), (8, _), (9, _), (10, _), (11, _), (87, _), (14, _), (15, _), (16, _), (17, _), (18, _), (113, _)] ⟨rfl, rfl, rfl, rfl, rfl, rfl, rfl, rfl, rfl, rfl, rfl, rfl, rfl, rfl, rfl, trivial⟩ ?_
          refine AWP.condF rfl (by first | rfl | (simp; done) | (simp; omega)) ?_
          refine AWP.seq ?_
          refine AWP.region ?_
          refine rC (Calm.move rfl) ?_
          refine rC (Calm.move rfl) ?_
          refine rC (Calm.bin rfl rfl b_geq) ?_
          refine rC (Calm.assign rfl) ?_
          refine arun_nil ?_
          refine athen_n ?_
          refine AWP.sub [(0, _), (1, _), (2, _), (3, _), (8, _), (9, _), (10, _), (11, _), (87, _), (14, _), (15, _), (16, _), (17, _), (18, _), (113, _)] ⟨rfl, rfl, rfl, rfl, rfl, rfl, rfl, rfl, rfl, rfl, rfl, rfl, rfl, rfl, rfl, trivial⟩ ?_
          refine AWP.seq ?_
          refine AWP.region ?_
          refine rC (Calm.move rfl) ?_
          refine rC (Calm.move rfl) ?_
          refine rC (Calm.bin rfl rfl b_add_i64) ?_
          refine rC (Calm.move rfl) ?_
          refine rC (Calm.move rfl) ?_
          refine ARun.call (lit_lt rfl) go_159 rfl (ih (e1 - (md + 1)) (by omega) d4 R4 _ _ _ (md + 1) e1 l2 om_ rfl rfl (by omega) (by omega) (by omega) rfl) ?_
          rintro _ _ ⟨rfl, R5⟩
          refine arun_nil ?_
          refine athen_n ?_
          refine AWP.sub [(0, _), (1, _), (2, _), (3, _), (8, _), (9, _), (10, _), (11, _), (87, _), (14, _), (15, _), (16, _), (17, _), (18, _), (113, _)] ⟨rfl, rfl, rfl, rfl, rfl, rfl, rfl, rfl, rfl, rfl, rfl, rfl, rfl, rfl, rfl, trivial⟩ ?_
          refine AWP.region ?_
          refine rC (Calm.move rfl) ?_
          refine rC (Calm.assign rfl) ?_
          refine arun_nil ?_
          refine ain_n ?_
          refine athen_n ?_
          refine ⟨(a1, md, l2, decide (e1 - md ≥ (e1 - a1) / 8), ap, pdq ltN d4 (md + 1) e1 l2 true true), ?_, ?_, ?_, ?_⟩
          all_goals (try dsimp only)
          · exact ⟨sb_, sb_, sb_, sb_, wbv_ (by omega), sb_, trivial⟩
          · exact Mem.Less.refl _
          · exact ⟨by omega, by omega, R5, by omega, by omega, hq⟩
          · omega
      · refine AWP.condT rfl (by first | rfl | (simp; done) | (simp; omega)) ?_
        obtain ⟨⟨md, d4⟩, hp4⟩ : ∃ q, q = partitionEqual ltN d3 a1 e1 pv := ⟨_, rfl⟩
        rw [if_pos rfl, ← hp4] at hq
        dsimp only at hq
        refine AWP.seq ?_
        refine AWP.region ?_
        refine rC (Calm.move rfl) ?_
        refine rC (Calm.move rfl) ?_
        refine rC (Calm.move rfl) ?_
        refine rC (Calm.move rfl) ?_
        refine ARun.call (lit_lt rfl) go_189 rfl ((hp4 ▸ soU_parteq b room n cap hb hn d3 R3 _ _ _ a1 e1 pv rfl rfl rfl (by omega) (by omega) (by omega))) ?_
        rintro _ _ ⟨rfl, rfl, R4, g3, g4⟩
        dsimp only at R4 g3 g4
        rw [if_pos ⟨g3, g4⟩] at hq
        refine rC (Calm.assign rfl) ?_
        refine arun_nil ?_
        refine athen_n ?_
        refine AWP.sub [(0, _), (1, _), (2, _), (3, _), (8, _), (9, _), (10, _), (11, _), (87, _), (13, _)] ⟨rfl, rfl, rfl, rfl, rfl, rfl, rfl, rfl, rfl, rfl, trivial⟩ ?_
        refine AWP.seq ?_
        refine AWP.region ?_
        refine rC (Calm.move rfl) ?_
        refine rC (Calm.assign rfl) ?_
        refine arun_nil ?_
        refine athen_n ?_
        refine AWP.sub [(0, _), (1, _), (2, _), (3, _), (8, _), (9, _), (10, _), (11, _), (87, _), (13, _)] ⟨rfl, rfl, rfl, rfl, rfl, rfl, rfl, rfl, rfl, rfl, trivial⟩ ?_
        refine AWP.exit ?_
        refine athen_exit ?_
        refine ain_same ?_
        refine athen_n ?_
        refine ⟨(md, e1, l2, w1, w2, d4), ?_, ?_, ?_, ?_⟩
        all_goals (try dsimp only)
        · exact ⟨sb_, sb_, sb_, sb_, sb_, sb_, trivial⟩
        · exact Mem.Less.refl _
        · exact ⟨by omega, by omega, R4, by omega, by omega, hq⟩
        · omega
set_option maxHeartbeats 1000000 in
theorem soU_sort {S : Mem} (b room n cap : Nat) (hb : Fresh S b) (hn : n ≤ 1048576) (d : Array Nat) (R : Rw (fun _ => True) n d) :
    ACall Try.prog 126 #[.slice (some ⟨b, 0, none⟩) n cap] (S.set b ⟨41, (d).toList.map encU, room⟩) fun r S' => S' = S.set b ⟨41, (pdq ltN d 0 n (bitsLen n) true true).toList.map encU, room⟩ ∧ Rw (fun _ => True) n (pdq ltN d 0 n (bitsLen n) true true) := by
  have hbl := bitsLen_small n hn
  refine ACall.enter (args := [.slice (some ⟨b, 0, none⟩) n cap]) (rs := []) 11 [(0, .slice (some ⟨b, 0, none⟩) n cap)] Try.func126 rfl rfl (Nat.le_of_ble_eq_true rfl) rfl ⟨rfl, trivial⟩ ?_
  refine AWP.seq ?_
  refine AWP.region ?_
  refine rC (Calm.move rfl) ?_
  refine rC (Calm.lenSl Try.underlying22 rfl) ?_
  refine rC (Calm.assign rfl) ?_
  refine arun_nil ?_
  refine athen_n ?_
  refine AWP.sub [(0, _), (2, _)] ⟨rfl, rfl, trivial⟩ ?_
  refine AWP.region ?_
  refine rC (Calm.move rfl) ?_
  refine rC (Calm.move rfl) ?_
  refine rC (Calm.move rfl) ?_
  refine rC (Calm.conv rfl (by first | exact conv_intW Try.underlying3 Try.underlying139 (IntWalk.u64_in _ (by omega)) | exact conv_int Try.underlying3 Try.underlying139)) ?_
  refine ARun.call (lit_lt rfl) go_122 rfl (so_Len n (by omega) _) ?_
  rintro _ _ ⟨rfl, rfl⟩
  refine ARun.call (lit_lt rfl) go_159 rfl (soU_pdq b room n cap hb hn (n - 0) d R _ _ _ 0 n (bitsLen n) rfl rfl rfl (Nat.zero_le _) (Nat.le_refl _) (by omega) rfl) ?_
  rintro _ _ ⟨rfl, R1⟩
  refine arun_nil ?_
  refine ⟨_, _, rfl, Mem.Less.refl _, ?_⟩
  exact ⟨rfl, R1⟩
theorem soU_ins0 (S : Mem) : ACall Try.prog 183 #[.slice none 0 0, .int .i64 0, .int .i64 0] S fun r S' => S' = S := by
  refine ACall.enter (args := [.slice none 0 0, .int .i64 0, .int .i64 0]) (rs := []) 49 [(0, .slice none 0 0), (1, .int .i64 0), (2, .int .i64 0)] Try.func183 rfl rfl (Nat.le_of_ble_eq_true rfl) rfl ⟨rfl, rfl, rfl, trivial⟩ ?_
  refine AWP.seq ?_
  refine AWP.region ?_
  refine rC (Calm.move rfl) ?_
  refine rC (Calm.bin rfl rfl b_add_i64) ?_
  refine rC (Calm.assign rfl) ?_
  refine arun_nil ?_
  refine athen_n ?_
  refine AWP.sub [(0, _), (1, _), (2, _), (6, _)] ⟨rfl, rfl, rfl, rfl, trivial⟩ ?_
  refine AWP.block ?_
  refine AWP.loop (X := Unit) (fun _ => [(0, .slice none 0 0), (2, .int .i64 0), (6, .int .i64 1)]) (fun _ => S) (fun _ => True) (fun _ => 0) (()) ⟨sb_, sb_, sb_, trivial⟩ (Mem.Less.refl _) (trivial) ?_
  rintro _ _
  (try dsimp only at *)
  refine AWP.seq ?_
  refine AWP.seq ?_
  refine AWP.region ?_
  refine rC (Calm.move rfl) ?_
  refine rC (Calm.move rfl) ?_
  refine rC (Calm.bin rfl rfl b_lss) ?_
  refine arun_nil ?_
  refine athen_n ?_
  refine AWP.sub [(0, _), (2, _), (6, _), (12, _)] ⟨rfl, rfl, rfl, rfl, trivial⟩ ?_
  refine AWP.condF rfl (by first | rfl | (simp; done) | (simp; omega)) ?_
  refine AWP.exit ?_
  refine athen_exit ?_
  refine athen_exit ?_
  refine ain_same ?_
  refine ⟨_, S, rfl, Mem.Less.refl _, ?_⟩
  exact rfl
theorem soU_pdq0 (S : Mem) : ACall Try.prog 159 #[.slice none 0 0, .int .i64 0, .int .i64 0, .int .i64 0] S fun r S' => S' = S := by
  refine ACall.enter (args := [.slice none 0 0, .int .i64 0, .int .i64 0, .int .i64 0]) (rs := []) 134 [(0, .slice none 0 0), (1, .int .i64 0), (2, .int .i64 0), (3, .int .i64 0)] Try.func159 rfl rfl (Nat.le_of_ble_eq_true rfl) rfl ⟨rfl, rfl, rfl, rfl, trivial⟩ ?_
  refine AWP.seq ?_
  refine AWP.region ?_
  refine rC (Calm.assign rfl) ?_
  refine arun_nil ?_
  refine athen_n ?_
  refine AWP.seq ?_
  refine AWP.region ?_
  refine rC (Calm.assign rfl) ?_
  refine arun_nil ?_
  refine athen_n ?_
  refine AWP.block ?_
  refine AWP.loop (X := Unit) (fun _ => [(0, .slice none 0 0), (1, .int .i64 0), (2, .int .i64 0)]) (fun _ => S) (fun _ => True) (fun _ => 0) (()) ⟨rfl, rfl, rfl, trivial⟩ (Mem.Less.refl _) (trivial) ?_
  rintro _ _
  (try dsimp only at *)
  refine AWP.block ?_
  refine AWP.seq ?_
  refine AWP.region ?_
  refine rC (Calm.move rfl) ?_
  refine rC (Calm.move rfl) ?_
  refine rC (Calm.bin rfl rfl b_sub_i64) ?_
  refine rC (Calm.assign rfl) ?_
  refine arun_nil ?_
  refine athen_n ?_
  refine AWP.sub [(0, _), (1, _), (2, _), (10, _)] ⟨rfl, rfl, rfl, rfl, trivial⟩ ?_
  refine AWP.seq ?_
  refine AWP.seq ?_
  refine AWP.region ?_
  refine rC (Calm.move rfl) ?_
  refine rC (Calm.bin rfl rfl b_leq) ?_
  refine arun_nil ?_
  refine athen_n ?_
  refine AWP.sub [(0, _), (1, _), (2, _), (10, _), (23, _)] ⟨rfl, rfl, rfl, rfl, rfl, trivial⟩ ?_
  refine AWP.condT rfl (by first | rfl | (simp; done) | (simp; omega)) ?_
  refine AWP.seq ?_
  refine AWP.region ?_
  refine rC (Calm.move rfl) ?_
  refine rC (Calm.move rfl) ?_
  refine rC (Calm.move rfl) ?_
  refine ARun.call (lit_lt rfl) go_183 rfl (soU_ins0 S) ?_
  rintro _ S1 h1
  rw [h1]; clear h1 S1
  refine arun_nil ?_
  refine athen_n ?_
  refine AWP.sub [(0, _), (1, _), (2, _), (10, _), (23, _)] ⟨rfl, rfl, rfl, rfl, rfl, trivial⟩ ?_
  refine AWP.ret ?_
  refine athen_ret ?_
  refine ain_ret ?_
  refine athen_ret ?_
  refine ain_ret ?_
  refine ⟨_, S, rfl, Mem.Less.refl _, ?_⟩
  exact rfl
theorem soU_sort0 (S : Mem) : ACall Try.prog 126 #[.slice none 0 0] S fun r S' => S' = S := by
  refine ACall.enter (args := [.slice none 0 0]) (rs := []) 11 [(0, .slice none 0 0)] Try.func126 rfl rfl (Nat.le_of_ble_eq_true rfl) rfl ⟨rfl, trivial⟩ ?_
  refine AWP.seq ?_
  refine AWP.region ?_
  refine rC (Calm.move rfl) ?_
  refine rC (Calm.lenSl Try.underlying22 rfl) ?_
  refine rC (Calm.assign rfl) ?_
  refine arun_nil ?_
  refine athen_n ?_
  refine AWP.sub [(0, _), (2, _)] ⟨rfl, rfl, trivial⟩ ?_
  refine AWP.region ?_
  refine rC (Calm.move rfl) ?_
  refine rC (Calm.move rfl) ?_
  refine rC (Calm.move rfl) ?_
  refine rC (Calm.conv rfl (by first | exact conv_intW Try.underlying3 Try.underlying139 (IntWalk.u64_in _ (by omega)) | exact conv_int Try.underlying3 Try.underlying139)) ?_
  refine ARun.call (lit_lt rfl) go_122 rfl (so_Len 0 (by omega) _) ?_
  rintro _ S1 ⟨rfl, h1⟩
  rw [h1]; clear h1 S1
  refine ARun.call (lit_lt rfl) go_159 rfl (soU_pdq0 S) ?_
  rintro _ S1 h1
  rw [h1]; clear h1 S1
  refine arun_nil ?_
  refine ⟨_, S, rfl, Mem.Less.refl _, ?_⟩
  exact rfl
end Go.Proofs.Ytgidjbpgkeemiaa
namespace Go.Proofs.Ytgidjbpgkeemiaa
open Go.RowKit
open Mv Num Loser Srt
set_option linter.unusedVariables false
set_option linter.unusedSimpArgs false
set_option maxRecDepth 4000
set_option maxHeartbeats 2000000 in
theorem odU_search (v : Value) (x : Nat) (D : List Nat) (S : Mem) (hv : Sl 1 (fun y => [encU y]) S v D) (hs : D.Pairwise (· < ·)) (hx : x ∈ D) (hl : D.length ≤ 1048576) :
    ACall Try.prog 128 #[v, encU x] S fun r S' => r = .tuple #[.int .i64 (cntL D x : Nat), .bool true] ∧ S' = S := by
  obtain ⟨a, cap, rfl, h1, h2, h3⟩ := id hv
  obtain ⟨b, o, rfl, hk⟩ := h3.resolve_left (fun e => by rw [e] at hx; cases hx)
  refine ACall.enter (args := [.slice (some ⟨b, o, none⟩) D.length cap, encU x]) (rs := [.tmp 4, .tmp 5]) 54 [(0, .slice (some ⟨b, o, none⟩) D.length cap), (1, encU x)] Try.func128 rfl rfl (Nat.le_of_ble_eq_true rfl) rfl ⟨rfl, rfl, trivial⟩ ?_
  refine AWP.seq ?_
  refine AWP.region ?_
  refine rC (Calm.assign rfl) ?_
  refine rC (Calm.assign rfl) ?_
  refine arun_nil ?_
  refine athen_n ?_
  refine AWP.seq ?_
  refine AWP.region ?_
  refine rC (Calm.move rfl) ?_
  refine rC (Calm.lenSl Try.underlying22 rfl) ?_
  refine rC (Calm.assign rfl) ?_
  refine arun_nil ?_
  refine athen_n ?_
  refine AWP.sub [(0, _), (1, _), (4, _), (5, _), (6, _)] ⟨rfl, rfl, rfl, rfl, rfl, trivial⟩ ?_
  refine AWP.seq ?_
  refine AWP.region ?_
  refine rC (Calm.move rfl) ?_
  refine rC (Calm.assign rfl) ?_
  refine rC (Calm.assign rfl) ?_
  refine arun_nil ?_
  refine athen_n ?_
  refine AWP.sub [(0, _), (1, _), (4, _), (5, _), (6, _), (7, _), (8, _)] ⟨rfl, rfl, rfl, rfl, rfl, rfl, rfl, trivial⟩ ?_
  refine AWP.seq ?_
  refine AWP.block ?_
  refine AWP.loop (X := Nat × Nat) (fun y => [(0, .slice (some ⟨b, o, none⟩) D.length cap), (1, encU x), (6, .int .i64 D.length), (7, .int .i64 y.1), (8, .int .i64 y.2)]) (fun y => S) (fun y => y.1 ≤ y.2 ∧ y.2 ≤ D.length ∧ (∀ k (hk : k < D.length), k < y.1 → D[k] < x) ∧ ∀ k (hk : k < D.length), y.2 ≤ k → x ≤ D[k]) (fun y => y.2 - y.1) ((0, D.length)) ⟨rfl, rfl, rfl, rfl, rfl, trivial⟩ (Mem.Less.refl _) (⟨Nat.zero_le _, Nat.le_refl _, fun k _ h => absurd h (Nat.not_lt_zero _), fun k hk h => absurd hk (Nat.not_lt.2 h)⟩) ?_
  rintro ⟨i, j⟩ ⟨q1, q2, q3, q4⟩
  (try dsimp only at *)
  by_cases hij : i < j
  · refine AWP.seq ?_
    refine AWP.seq ?_
    refine AWP.region ?_
    refine rC (Calm.move rfl) ?_
    refine rC (Calm.move rfl) ?_
    refine rC (Calm.bin rfl rfl b_lss) ?_
    refine arun_nil ?_
    refine athen_n ?_
    refine AWP.sub [(0, _), (1, _), (6, _), (7, _), (8, _), (15, _)] ⟨rfl, rfl, rfl, rfl, rfl, rfl, trivial⟩ ?_
    refine AWP.condT rfl (by first | rfl | (simp; done) | (simp; omega)) ?_
    obtain ⟨m, hm⟩ : ∃ m, m = (i + j) / 2 := ⟨_, rfl⟩
    have hml : m < D.length := by omega
    have hkm : S.Knows ⟨b, o + m * 1, none⟩ [encU D[m]] := hk m hml
    have e2 : ((i : Int) + j) / 2 ^ Int.toNat 1 = (m : Int) := by rw [hm]; show ((i : Int) + j) / 2 = _; omega
    have e3 : IntKind.i64.wrap (((i : Int) + j) / 2 ^ Int.toNat 1) = (m : Int) := by rw [e2]; exact IntWalk.i64_in _ (by omega)
    refine AWP.skip ?_
    refine athen_n ?_
    refine AWP.block ?_
    refine AWP.seq ?_
    refine AWP.region ?_
    refine rC (Calm.move rfl) ?_
    refine rC (Calm.move rfl) ?_
    refine rC (Calm.bin rfl rfl b_add_i64) ?_
    refine rC (Calm.conv rfl (by first | exact conv_intW Try.underlying3 Try.underlying139 (IntWalk.u64_in _ (by omega)) | exact conv_int Try.underlying3 Try.underlying139)) ?_
    refine rC (Calm.bin rfl rfl b_shr) ?_
    refine rC (Calm.conv rfl (by first | exact conv_intW Try.underlying139 Try.underlying3 (IntWalk.i64_in _ (by omega)) | exact conv_int Try.underlying139 Try.underlying3)) ?_
    refine rC (Calm.assign rfl) ?_
    refine arun_nil ?_
    refine athen_n ?_
    refine AWP.sub [(0, _), (1, _), (6, _), (7, _), (8, _), (15, _), (9, _)] ⟨rfl, rfl, rfl, rfl, rfl, rfl, rfl, trivial⟩ ?_
    refine AWP.sub [(0, .slice (some ⟨b, o, none⟩) D.length cap), (1, encU x), (6, .int .i64 D.length), (7, .int .i64 i), (8, .int .i64 j), (9, .int .i64 m), (15, .bool true)] ⟨rfl, rfl, rfl, rfl, rfl, by first | exact congrArg (fun q => some (Value.int .i64 q)) e2 | exact congrArg (fun q => some (Value.int .i64 q)) e3, rfl, trivial⟩ ?_
    refine AWP.seq ?_
    refine AWP.region ?_
    refine rC (Calm.move rfl) ?_
    refine rC (Calm.move rfl) ?_
    refine rC (Calm.indexS Try.underlying22 ty_size_41 rfl rfl (by omega) (by omega)) ?_
    refine rC (ld_ ty_plain_41 rfl) ?_
    refine rC (Calm.move rfl) ?_
    refine ARun.call (lit_lt rfl) go_160 rfl (soU_less D[m] x _) ?_
    rintro _ S1 ⟨rfl, e1⟩
    rw [e1]; clear e1 S1
    refine arun_nil ?_
    refine athen_n ?_
    refine AWP.sub [(0, _), (1, _), (6, _), (7, _), (8, _), (15, _), (9, _), (27, _)] ⟨rfl, rfl, rfl, rfl, rfl, rfl, rfl, rfl, trivial⟩ ?_
    refine AWP.condB rfl (fun hlt => ?_) (fun hlt => ?_)
    · refine AWP.region ?_
      refine rC (Calm.move rfl) ?_
      refine rC (Calm.bin rfl rfl b_add_i64) ?_
      refine rC (Calm.assign rfl) ?_
      refine arun_nil ?_
      refine ain_n ?_
      refine athen_n ?_
      refine ⟨(m + 1, j), ?_, ?_, ?_, ?_⟩
      all_goals (try dsimp only)
      · exact ⟨sq_, sq_, sq_, sq_, sq_, trivial⟩
      · exact Mem.Less.refl _
      · exact ⟨by omega, q2, fun k hk h => by have hd : D[m] < x := of_decide_eq_true hlt; rcases Nat.lt_or_ge k m with h' | h'; (have := List.pairwise_iff_getElem.1 hs k m hk hml h'; omega); (obtain rfl : k = m := (by omega); exact hd), q4⟩
      · omega
    · refine AWP.region ?_
      refine rC (Calm.move rfl) ?_
      refine rC (Calm.assign rfl) ?_
      refine arun_nil ?_
      refine ain_n ?_
      refine athen_n ?_
      refine ⟨(i, m), ?_, ?_, ?_, ?_⟩
      all_goals (try dsimp only)
      · exact ⟨sq_, sq_, sq_, sq_, sq_, trivial⟩
      · exact Mem.Less.refl _
      · exact ⟨by omega, by omega, q3, fun k hk h => by have hd : ¬ D[m] < x := of_decide_eq_false hlt; rcases Nat.lt_or_ge m k with h' | h'; (have := List.pairwise_iff_getElem.1 hs m k hml hk h'; omega); (obtain rfl : k = m := (by omega); omega)⟩
      · omega
  · obtain rfl : i = j := by omega
    refine AWP.seq ?_
    refine AWP.seq ?_
    refine AWP.region ?_
    refine rC (Calm.move rfl) ?_
    refine rC (Calm.move rfl) ?_
    refine rC (Calm.bin rfl rfl b_lss) ?_
    refine arun_nil ?_
    refine athen_n ?_
    refine AWP.sub [(0, _), (1, _), (6, _), (7, _), (8, _), (15, _)] ⟨rfl, rfl, rfl, rfl, rfl, rfl, trivial⟩ ?_
    refine AWP.condF rfl (by first | rfl | (simp; done) | (simp; omega)) ?_
    have hci := cnt_of D x i q2 q3 q4
    obtain ⟨k, hk', hkx⟩ := List.getElem_of_mem hx
    have hin : i < D.length := by rcases Nat.lt_or_ge i D.length with h | h; (exact h); (have := q3 k hk' (by omega); omega)
    have hDi : D[i] = x := by rcases Nat.lt_trichotomy i k with h | h | h; (have := List.pairwise_iff_getElem.1 hs i k hin hk' h; have := q4 i hin (Nat.le_refl _); omega); (subst h; exact hkx); (have := q3 k hk' h; omega)
    have hki : S.Knows ⟨b, o + i * 1, none⟩ [encU x] := by rw [← hDi]; exact hk i hin
    rw [hci]
    unfold encU at *
    refine AWP.exit ?_
    refine athen_exit ?_
    refine athen_exit ?_
    refine ain_same ?_
    refine athen_n ?_
    refine AWP.seq ?_
    refine AWP.region ?_
    refine rC (Calm.move rfl) ?_
    refine rC (Calm.move rfl) ?_
    refine rC (Calm.move rfl) ?_
    refine rC (Calm.bin rfl rfl b_lss) ?_
    refine rC (Calm.move rfl) ?_
    first | refine rS 35 ?_ | refine rU 35 ?_ | refine rG 35 (Calm.move rfl) ?_
    first | refine rS 35 ?_ | refine rU 35 ?_ | refine rG 35 (Calm.move rfl) ?_
    first | refine rS 35 ?_ | refine rU 35 ?_ | refine rG 35 (Calm.indexS Try.underlying22 ty_size_41 rfl rfl (by omega) (by omega)) ?_
    first | refine rS 35 ?_ | refine rU 35 ?_ | refine rG 35 (ld_ ty_plain_41 rfl) ?_
    first | refine rS 35 ?_ | refine rU 35 ?_ | refine rG 35 (Calm.move rfl) ?_
    first | refine rS 35 ?_ | refine rU 35 ?_ | refine rG 35 (Calm.bin rfl rfl b_eql) ?_
    first | refine rS 35 ?_ | refine rU 35 ?_ | refine rG 35 (Calm.move rfl) ?_
    first | refine rS 42 ?_ | refine rU 42 ?_ | refine rG 42 (Calm.move rfl) ?_
    first | refine rS 42 ?_ | refine rU 42 ?_ | refine rG 42 (Calm.move rfl) ?_
    first | refine rS 42 ?_ | refine rU 42 ?_ | refine rG 42 (Calm.indexS Try.underlying22 ty_size_41 rfl rfl (by omega) (by omega)) ?_
    first | refine rS 42 ?_ | refine rU 42 ?_ | refine rG 42 (ld_ ty_plain_41 rfl) ?_
    first | refine rS 42 ?_ | refine rU 42 ?_
    first | refine rS 42 ?_ | refine rU 42 ?_ | refine rG 42 (Calm.move rfl) ?_
    first | refine rS 48 ?_ | refine rU 48 ?_ | refine rG 48 (Calm.move rfl) ?_
    first | refine rS 48 ?_ | refine rU 48 ?_
    first | refine rS 42 ?_ | refine rU 42 ?_ | refine rG 42 ((by first | exact Calm.pickT rfl rfl | exact Calm.pickF rfl rfl)) ?_
    first | refine rS 35 ?_ | refine rU 35 ?_ | refine rG 35 ((by first | exact Calm.pickT rfl rfl | exact Calm.pickF rfl rfl)) ?_
    refine rC ((by first | exact Calm.pickT rfl rfl | exact Calm.pickF rfl rfl)) ?_
    refine rC (Calm.assign rfl) ?_
    refine rC (Calm.assign rfl) ?_
    refine arun_nil ?_
    refine athen_n ?_
    refine AWP.sub [(0, _), (1, _), (6, _), (7, _), (8, _), (15, _), (4, _), (5, _)] ⟨rfl, rfl, rfl, rfl, rfl, rfl, rfl, rfl, trivial⟩ ?_
    refine AWP.ret ?_
    refine ⟨_, S, ⟨_, _, rfl, ⟨_, _, rfl, rfl, rfl⟩, rfl⟩, less_, ?_⟩
    exact ⟨rfl, rfl⟩
set_option maxHeartbeats 1000000 in
theorem odU_clone (v : Value) (l : List Nat) (S : Mem) (hv : Sl 1 (fun y => [encU y]) S v l) (hl : l.length ≤ 4096) :
    ACall Try.prog 125 #[v] S fun r S' => ∃ o, OkO S o l.length ∧ r = outV o l.length ∧ S' = outM S o 41 (l.map encU) := by
  obtain ⟨a, cap, rfl, h1, h2, h3⟩ := id hv
  cases a with
  | none =>
    obtain rfl : l = [] := h3.resolve_right (fun ⟨b, o, e, _⟩ => by cases e)
    refine ACall.enter (args := [.slice none 0 cap]) (rs := [.tmp 2]) 8 [(0, .slice none 0 cap)] Try.func125 rfl rfl (Nat.le_of_ble_eq_true rfl) rfl ⟨rfl, trivial⟩ ?_
    refine AWP.seq ?_
    refine AWP.region ?_
    refine rC (Calm.assign rfl) ?_
    refine arun_nil ?_
    refine athen_n ?_
    refine AWP.seq ?_
    refine AWP.seq ?_
    refine AWP.region ?_
    refine rC (Calm.move rfl) ?_
    refine rC (Calm.bin rfl rfl (bin_nil_eql Try.underlying22)) ?_
    refine arun_nil ?_
    refine athen_n ?_
    refine AWP.sub [(0, _), (2, _), (4, _)] ⟨rfl, rfl, rfl, trivial⟩ ?_
    refine AWP.condT rfl (by first | rfl | (simp; done) | (simp; omega)) ?_
    refine AWP.seq ?_
    refine AWP.region ?_
    refine rC (Calm.assign rfl) ?_
    refine arun_nil ?_
    refine athen_n ?_
    refine AWP.ret ?_
    refine athen_ret ?_
    refine ⟨_, S, ⟨_, _, rfl, rfl, rfl⟩, less_, ?_⟩
    exact ⟨none, okO_nil _, rfl, rfl⟩
  | some ad =>
    have hsrc := src_sl hv
    refine ACall.enter (args := [.slice (some ad) l.length cap]) (rs := [.tmp 2]) 8 [(0, .slice (some ad) l.length cap)] Try.func125 rfl rfl (Nat.le_of_ble_eq_true rfl) rfl ⟨rfl, trivial⟩ ?_
    refine AWP.seq ?_
    refine AWP.region ?_
    refine rC (Calm.assign rfl) ?_
    refine arun_nil ?_
    refine athen_n ?_
    refine AWP.seq ?_
    refine AWP.seq ?_
    refine AWP.region ?_
    refine rC (Calm.move rfl) ?_
    refine rC (Calm.bin rfl rfl (bin_nil_eql Try.underlying22)) ?_
    refine arun_nil ?_
    refine athen_n ?_
    refine AWP.sub [(0, _), (2, _), (4, _)] ⟨rfl, rfl, rfl, trivial⟩ ?_
    refine AWP.condF rfl (by first | rfl | (simp; done) | (simp; omega)) ?_
    refine AWP.skip ?_
    refine athen_n ?_
    refine AWP.seq ?_
    refine AWP.region ?_
    refine ARun.build0 (lit_lt rfl) ty_sl_22 ?_
    intro b5 f5
    have g5 := f5
    repeat ((with_reducible replace g5 := fresh_set g5); obtain ⟨g5, _⟩ := g5)
    refine rC (Calm.move rfl) ?_
    refine ARun.appendOK (n := 1) (o := some (b5, 0)) (k := 0) (m := l.length) (cs := []) (news := l.map encU) (lit_lt rfl) ty_sl_22 rfl rfl rfl (okO_own f5 (Nat.zero_le _)) (appN1 (okO_own f5 (Nat.zero_le _)) rfl) rfl (hsrc.less (Mem.less_set _ _ _ f5.1)) (by rw [List.length_map, Nat.mul_one]) (one_cells (fun _ => rfl) _) (by omega) (by omega) ?_
    intro o1 ho1
    rw [Nat.zero_add] at ho1
    refine rC (Calm.assign rfl) ?_
    refine arun_nil ?_
    refine athen_n ?_
    refine AWP.sub [(0, _), (2, _), (4, _)] ⟨rfl, rfl, rfl, trivial⟩ ?_
    refine AWP.ret ?_
    refine ⟨_, _, ⟨_, _, rfl, rfl, rfl⟩, Mem.Less.refl _, ?_⟩
    exact ⟨o1, ho1, by show outV o1 (0 + l.length) = _; rw [Nat.zero_add], by rw [outN_one]; rfl⟩
theorem odU_tail (A : List Nat) (k : Nat) (zs : List Value) (h : zs.length = A.length - k) : spl (A.map encU) k zs = (A.take k).map encU ++ zs := by
  unfold spl
  rw [List.drop_of_length_le (by rw [List.length_map]; omega), List.append_nil, List.map_take]
set_option maxHeartbeats 4000000 in
theorem odU_compact (b room cap : Nat) (L : List Nat) (n : Nat) (hn : L.length = n) (S : Mem) (hb : Fresh S b) (hL : L.Pairwise (· ≤ ·)) (hn2 : n ≤ 4096) (hc : n ≤ cap) :
    ACall Try.prog 127 #[.slice (some ⟨b, 0, none⟩) n cap] (S.set b ⟨41, L.map encU, room⟩) fun r S' => ∃ (D : List Nat) (zs : List Value), r = .slice (some ⟨b, 0, none⟩) D.length cap ∧ S' = S.set b ⟨41, D.map encU ++ zs, room⟩ ∧ D.Pairwise (· < ·) ∧ (∀ x ∈ L, x ∈ D) ∧ D.length ≤ n := by
  have hLg : ∀ i j (hi : i < L.length) (hj : j < L.length), i < j → L.getD i 0 ≤ L.getD j 0 := fun i j hi hj hij => by rw [getD_get _ _ _ hi, getD_get _ _ _ hj]; exact List.pairwise_iff_getElem.1 hL i j hi hj hij
  have hob : ∀ (c : List Value), (S.set b ⟨41, c, room⟩).own b = some ⟨41, c, room⟩ := fun c => Mem.own_set_same _ _ _
  by_cases h2 : n < 2
  · skip
    refine ACall.enter (args := [.slice (some ⟨b, 0, none⟩) n cap]) (rs := [.tmp 2]) 61 [(0, .slice (some ⟨b, 0, none⟩) n cap)] Try.func127 rfl rfl (Nat.le_of_ble_eq_true rfl) rfl ⟨rfl, trivial⟩ ?_
    refine AWP.seq ?_
    refine AWP.region ?_
    refine rC (Calm.assign rfl) ?_
    refine arun_nil ?_
    refine athen_n ?_
    refine AWP.seq ?_
    refine AWP.seq ?_
    refine AWP.region ?_
    refine rC (Calm.move rfl) ?_
    refine rC (Calm.lenSl Try.underlying22 rfl) ?_
    refine rC (Calm.bin rfl rfl b_lss) ?_
    refine arun_nil ?_
    refine athen_n ?_
    refine AWP.sub [(0, _), (2, _), (8, _)] ⟨rfl, rfl, rfl, trivial⟩ ?_
    refine AWP.condT rfl (by first | rfl | (simp; done) | (simp; omega)) ?_
    refine AWP.seq ?_
    refine AWP.region ?_
    refine rC (Calm.move rfl) ?_
    refine rC (Calm.assign rfl) ?_
    refine arun_nil ?_
    refine athen_n ?_
    refine AWP.sub [(0, _), (2, _), (8, _)] ⟨rfl, rfl, rfl, trivial⟩ ?_
    refine AWP.ret ?_
    refine athen_ret ?_
    refine ⟨_, _, ⟨_, _, rfl, rfl, rfl⟩, Mem.Less.refl _, ?_⟩
    exact ⟨L, [], by rw [hn]; rfl, by rw [List.append_nil], by (match L, hn with | [], _ => exact List.Pairwise.nil | [x], _ => exact List.pairwise_singleton _ _ | _ :: _ :: _, h => simp at h; omega), fun x hx => hx, by omega⟩
  refine ACall.enter (args := [.slice (some ⟨b, 0, none⟩) n cap]) (rs := [.tmp 2]) 61 [(0, .slice (some ⟨b, 0, none⟩) n cap)] Try.func127 rfl rfl (Nat.le_of_ble_eq_true rfl) rfl ⟨rfl, trivial⟩ ?_
  refine AWP.seq ?_
  refine AWP.region ?_
  refine rC (Calm.assign rfl) ?_
  refine arun_nil ?_
  refine athen_n ?_
  refine AWP.seq ?_
  refine AWP.seq ?_
  refine AWP.region ?_
  refine rC (Calm.move rfl) ?_
  refine rC (Calm.lenSl Try.underlying22 rfl) ?_
  refine rC (Calm.bin rfl rfl b_lss) ?_
  refine arun_nil ?_
  refine athen_n ?_
  refine AWP.sub [(0, _), (2, _), (8, _)] ⟨rfl, rfl, rfl, trivial⟩ ?_
  refine AWP.condF rfl (by first | rfl | (simp; done) | (simp; omega)) ?_
  refine AWP.skip ?_
  refine athen_n ?_
  refine AWP.seq ?_
  refine AWP.seq ?_
  refine AWP.region ?_
  refine rC (Calm.assign rfl) ?_
  refine arun_nil ?_
  refine athen_n ?_
  refine AWP.block ?_
  refine AWP.loop (X := Nat) (fun k => [(0, .slice (some ⟨b, 0, none⟩) n cap), (3, .int .i64 k)]) (fun k => S.set b ⟨41, L.map encU, room⟩) (fun k => 1 ≤ k ∧ k ≤ n ∧ ∀ i, i + 1 < k → L.getD i 0 < L.getD (i + 1) 0) (fun k => n - k) (1) ⟨rfl, rfl, trivial⟩ (Mem.Less.refl _) (⟨Nat.le_refl _, by omega, fun i h => by have h' : i + 1 < 1 := h; omega⟩) ?_
  rintro k ⟨q1, q2, q3⟩
  (try dsimp only at *)
  by_cases hk : k < n
  · refine AWP.seq ?_
    refine AWP.seq ?_
    refine AWP.region ?_
    refine rC (Calm.move rfl) ?_
    refine rC (Calm.move rfl) ?_
    refine rC (Calm.lenSl Try.underlying22 rfl) ?_
    refine rC (Calm.bin rfl rfl b_lss) ?_
    refine arun_nil ?_
    refine athen_n ?_
    refine AWP.sub [(0, _), (3, _), (13, _)] ⟨rfl, rfl, rfl, trivial⟩ ?_
    refine AWP.condT rfl (by first | rfl | (simp; done) | (simp; omega)) ?_
    obtain ⟨j, rfl⟩ : ∃ j, k = j + 1 := ⟨k - 1, by omega⟩
    obtain ⟨x, hx⟩ : ∃ x, x = L.getD (j + 1) 0 := ⟨_, rfl⟩
    obtain ⟨y, hy⟩ : ∃ y, y = L.getD j 0 := ⟨_, rfl⟩
    have hxe : L[j + 1]'(by omega) = x := by rw [hx, getD_get _ _ _ (by omega)]
    have hye : L[j]'(by omega) = y := by rw [hy, getD_get _ _ _ (by omega)]
    have hyx : y ≤ x := by rw [hx, hy]; exact hLg j (j + 1) (by omega) (by omega) (by omega)
    refine AWP.skip ?_
    refine athen_n ?_
    refine AWP.seq ?_
    refine AWP.block ?_
    refine AWP.seq ?_
    refine AWP.draw [(0, true), (1, true), (2, true), (3, true), (4, true), (5, true), (6, true), (7, true), (8, true), (9, true)] [] mixed (by kernel_rfl) ?_
    refine dP (hc := fun _ => Calm.move rfl) (h := ?_)
    refine dP (hc := fun _ => Calm.move rfl) (h := ?_)
    refine dP (hc := fun _ => Calm.indexS Try.underlying22 ty_size_41 rfl rfl (by omega) (by omega)) (h := ?_)
    refine dC (hc := Calm.as (show encU (L[j + 1]'(by omega)) = .int .u64 (x : Int) by rw [hxe]; rfl) (Calm.load ty_plain_41 rfl (rd_list (g := encU) (j + 1) (by omega) (hob _) rw_))) (h := ?_)
    refine dP (hc := fun _ => Calm.move rfl) (h := ?_)
    refine dP (hc := fun _ => Calm.move rfl) (h := ?_)
    refine dP (hc := fun _ => Calm.bin rfl rfl b_sub_i64) (h := ?_)
    refine dP (hc := fun _ => Calm.indexS Try.underlying22 ty_size_41 rfl rfl (by omega) (by omega)) (h := ?_)
    refine dC (hc := Calm.as (show encU (L[j]'(by omega)) = .int .u64 (y : Int) by rw [hye]; rfl) (Calm.load ty_plain_41 rfl (rd_list (g := encU) j (by omega) (hob _) rw_))) (h := ?_)
    refine dP (hc := fun _ => Calm.bin rfl rfl b_eql) (h := ?_)
    refine draw_nil ?_
    refine athen_n ?_
    refine AWP.sub [(0, _), (3, _), (13, _), (25, _)] ⟨rfl, rfl, rfl, rfl, trivial⟩ ?_
    by_cases he : x = y
    · refine AWP.condT rfl (by first | rfl | (simp; done) | (simp; omega)) ?_
      have hst := CpI.start (L := L) (k := j + 1) (by omega) (by omega) q3 (by rw [← hx, he, hy]; rfl)
      refine AWP.seq ?_
      refine AWP.region ?_
      refine rC (Calm.move rfl) ?_
      refine rC (Calm.move rfl) ?_
      refine rC ((by first | exact Calm.sliceSl Try.underlying22 ty_size_41 rfl (bnd_none _ _) (by simp) (bnd_none _ _) (bnd_some _ _ rfl (by omega) (by omega)) | exact Calm.sliceNil Try.underlying22 ty_size_41 rfl (bnd_none _ _) (by simp) (bnd_none _ _) (bnd_zero _ _ rfl))) ?_
      refine rC (Calm.assign rfl) ?_
      refine arun_nil ?_
      refine athen_n ?_
      refine AWP.sub [(0, _), (3, _), (13, _), (25, _), (4, _)] ⟨rfl, rfl, rfl, rfl, rfl, trivial⟩ ?_
      refine AWP.sub [(0, .slice (some ⟨b, 0, none⟩) n cap), (3, .int .i64 ((j + 1 : Nat) : Int)), (4, .slice (some ⟨b, j + 1, none⟩) (n - (j + 1)) (cap - (j + 1)))] ⟨rfl, rfl, by show some _ = some _; rw [Int.toNat_natCast, if_neg (by omega), Nat.zero_add, Nat.mul_one], trivial⟩ ?_
      refine AWP.seq ?_
      refine AWP.seq ?_
      refine AWP.region ?_
      refine rC (Calm.assign rfl) ?_
      refine arun_nil ?_
      refine athen_n ?_
      refine AWP.block ?_
      refine AWP.loop (X := List Nat × Nat × Nat) (fun z => [(0, .slice (some ⟨b, 0, none⟩) n cap), (3, .int .i64 z.2.1), (4, .slice (some ⟨b, j + 1, none⟩) (n - (j + 1)) (cap - (j + 1))), (5, .int .i64 z.2.2)]) (fun z => S.set b ⟨41, z.1.map encU, room⟩) (fun z => 1 ≤ z.2.2 ∧ j + 1 + z.2.2 ≤ n ∧ CpI L z.1 z.2.1 (j + 1 + z.2.2)) (fun z => n - z.2.2) ((L, j + 1, 1)) ⟨rfl, rfl, rfl, rfl, trivial⟩ (Mem.Less.refl _) (⟨Nat.le_refl _, hk, hst⟩) ?_
      rintro ⟨A, k, c⟩ ⟨r1, r2, r3⟩
      (try dsimp only at *)
      have rA := r3.1
      have rk := r3.2.2.1
      by_cases hcn : c < n - (j + 1)
      · refine AWP.seq ?_
        refine AWP.seq ?_
        refine AWP.region ?_
        refine rC (Calm.move rfl) ?_
        refine rC (Calm.move rfl) ?_
        refine rC (Calm.lenSl Try.underlying22 rfl) ?_
        refine rC (Calm.bin rfl rfl b_lss) ?_
        refine arun_nil ?_
        refine athen_n ?_
        refine AWP.sub [(0, _), (3, _), (4, _), (5, _), (32, _)] ⟨rfl, rfl, rfl, rfl, rfl, trivial⟩ ?_
        refine AWP.condT rfl (by first | rfl | (simp; done) | (simp; omega)) ?_
        obtain ⟨q, hq⟩ : ∃ q, q = j + c := ⟨_, rfl⟩
        have hq1 : j + 1 + c = q + 1 := by omega
        rw [hq1] at r3 rk
        have hqn : q + 1 < L.length := by omega
        obtain ⟨w, hw⟩ : ∃ w, w = L.getD (q + 1) 0 := ⟨_, rfl⟩
        obtain ⟨u, hu⟩ : ∃ u, u = L.getD q 0 := ⟨_, rfl⟩
        have hwe : A[q + 1]'(by omega) = w := by rw [hw, ← r3.2.2.2.2.1 (q + 1) (by omega), getD_get _ _ _ (by omega)]
        have hue : A[q]'(by omega) = u := by rw [hu, ← r3.2.2.2.2.1 q (by omega), getD_get _ _ _ (by omega)]
        have huw : u ≤ w := by rw [hw, hu]; exact hLg q (q + 1) (by omega) (by omega) (by omega)
        refine AWP.skip ?_
        refine athen_n ?_
        refine AWP.seq ?_
        refine AWP.block ?_
        refine AWP.seq ?_
        refine AWP.draw [(0, true), (1, true), (2, true), (3, true), (4, true), (5, true), (6, true), (7, true), (8, true), (9, true)] [] mixed (by kernel_rfl) ?_
        refine dP (hc := fun _ => Calm.move rfl) (h := ?_)
        refine dP (hc := fun _ => Calm.move rfl) (h := ?_)
        refine dP (hc := fun _ => Calm.indexS Try.underlying22 ty_size_41 rfl rfl (by omega) (by omega)) (h := ?_)
        refine dC (hc := Calm.as (show encU (A[q + 1]'(by omega)) = .int .u64 (w : Int) by rw [hwe]; rfl) (Calm.load ty_plain_41 rfl (rd_list (g := encU) (q + 1) (by omega) (hob _) (by omega)))) (h := ?_)
        refine dP (hc := fun _ => Calm.move rfl) (h := ?_)
        refine dP (hc := fun _ => Calm.move rfl) (h := ?_)
        refine dP (hc := fun _ => Calm.bin rfl rfl b_sub_i64) (h := ?_)
        refine dP (hc := fun _ => Calm.indexS Try.underlying22 ty_size_41 rfl rfl (by omega) (by omega)) (h := ?_)
        refine dC (hc := Calm.as (show encU (A[q]'(by omega)) = .int .u64 (u : Int) by rw [hue]; rfl) (Calm.load ty_plain_41 rfl (rd_list (g := encU) q (by omega) (hob _) (by omega)))) (h := ?_)
        refine dP (hc := fun _ => Calm.bin rfl rfl b_neq) (h := ?_)
        refine draw_nil ?_
        refine athen_n ?_
        refine AWP.sub [(0, _), (3, _), (4, _), (5, _), (32, _), (44, _)] ⟨rfl, rfl, rfl, rfl, rfl, rfl, trivial⟩ ?_
        by_cases hwu : w = u
        · refine AWP.condF rfl (by first | rfl | (simp; done) | (simp; omega)) ?_
          refine AWP.skip ?_
          refine ain_n ?_
          refine athen_n ?_
          refine AWP.region ?_
          refine rC (Calm.move rfl) ?_
          refine rC (Calm.bin rfl rfl b_add_i64) ?_
          refine rC (Calm.assign rfl) ?_
          refine arun_nil ?_
          refine athen_n ?_
          refine ⟨(A, k, c + 1), ?_, ?_, ?_, ?_⟩
          all_goals (try dsimp only)
          · exact ⟨sq_, sq_, sq_, sq_, trivial⟩
          · exact Mem.Less.refl _
          · exact ⟨by omega, by omega, by rw [show j + 1 + (c + 1) = q + 1 + 1 by omega]; exact r3.same hqn (by rw [← hw, hwu, hu]; rfl)⟩
          · omega
        · refine AWP.condT rfl (by first | rfl | (simp; done) | (simp; omega)) ?_
          refine AWP.seq ?_
          refine AWP.region ?_
          refine rC (Calm.move rfl) ?_
          refine rC (Calm.move rfl) ?_
          refine rC (Calm.move rfl) ?_
          refine rC (Calm.move rfl) ?_
          refine rC (Calm.indexS Try.underlying22 ty_size_41 rfl rfl (by omega) (by omega)) ?_
          refine rC (Calm.as (show encU (A[q + 1]'(by omega)) = .int .u64 (w : Int) by rw [hwe]; rfl) (Calm.load ty_plain_41 rfl (rd_list (g := encU) (q + 1) (by omega) (hob _) (by omega)))) ?_
          refine rC (Calm.indexS Try.underlying22 ty_size_41 rfl rfl (by omega) (by omega)) ?_
          refine ARun.store1 rfl rfl ty_size_41 rfl own_ lens_ rfl ?_
          (try simp only [Mem.set_set, List.set_cons_zero, List.set_cons_succ, Nat.zero_add, Nat.reduceAdd])
          refine arun_nil ?_
          refine athen_n ?_
          refine AWP.sub [(0, _), (3, _), (4, _), (5, _), (32, _), (44, _)] ⟨rfl, rfl, rfl, rfl, rfl, rfl, trivial⟩ ?_
          rw [Int.toNat_natCast, Nat.mul_one]
          refine AWP.region ?_
          refine rC (Calm.move rfl) ?_
          refine rC (Calm.bin rfl rfl b_add_i64) ?_
          refine rC (Calm.assign rfl) ?_
          refine arun_nil ?_
          refine ain_n ?_
          refine athen_n ?_
          refine AWP.sub [(0, _), (3, _), (4, _), (5, _), (32, _), (44, _)] ⟨rfl, rfl, rfl, rfl, rfl, rfl, trivial⟩ ?_
          refine AWP.region ?_
          refine rC (Calm.move rfl) ?_
          refine rC (Calm.bin rfl rfl b_add_i64) ?_
          refine rC (Calm.assign rfl) ?_
          refine arun_nil ?_
          refine athen_n ?_
          refine ⟨(A.set k w, k + 1, c + 1), ?_, ?_, ?_, ?_⟩
          all_goals (try dsimp only)
          · exact ⟨sq_, sq_, sq_, sq_, trivial⟩
          · rw [List.map_set]; exact Mem.Less.refl _
          · exact ⟨by omega, by omega, by rw [show j + 1 + (c + 1) = q + 1 + 1 by omega, hw]; exact r3.more hqn (by rw [← hw, Nat.add_sub_cancel, ← hu]; omega)⟩
          · omega
      · refine AWP.seq ?_
        refine AWP.seq ?_
        refine AWP.region ?_
        refine rC (Calm.move rfl) ?_
        refine rC (Calm.move rfl) ?_
        refine rC (Calm.lenSl Try.underlying22 rfl) ?_
        refine rC (Calm.bin rfl rfl b_lss) ?_
        refine arun_nil ?_
        refine athen_n ?_
        refine AWP.sub [(0, _), (3, _), (4, _), (5, _), (32, _)] ⟨rfl, rfl, rfl, rfl, rfl, trivial⟩ ?_
        refine AWP.condF rfl (by first | rfl | (simp; done) | (simp; omega)) ?_
        have hqn : j + 1 + c = L.length := by omega
        rw [hqn] at r3
        obtain ⟨d1, d2, d3, d4⟩ := r3.done
        refine AWP.exit ?_
        refine athen_exit ?_
        refine athen_exit ?_
        refine ain_same ?_
        refine athen_n ?_
        refine AWP.seq ?_
        refine AWP.region ?_
        refine rC (Calm.move rfl) ?_
        refine rC (Calm.move rfl) ?_
        refine rC ((by first | exact Calm.sliceSl Try.underlying22 ty_size_41 rfl (bnd_none _ _) (by simp) (bnd_none _ _) (bnd_some _ _ rfl (by omega) (by omega)) | exact Calm.sliceNil Try.underlying22 ty_size_41 rfl (bnd_none _ _) (by simp) (bnd_none _ _) (bnd_zero _ _ rfl))) ?_
        refine ARun.clearK (b := b) (o := k) (k := n - k) (c := cap - k) ty_sl_22 rfl (fun v hv => by simp at hv; rw [hv]; rfl) (by show some _ = some _; rw [Int.toNat_natCast, if_neg (by omega), Nat.zero_add, Nat.mul_one]) (hob _) (by simp; omega) (.inl (by simp; omega)) ?_
        intro zs hzs
        refine arun_nil ?_
        refine athen_n ?_
        refine AWP.sub [(0, _), (3, _), (4, _), (5, _), (32, _)] ⟨rfl, rfl, rfl, rfl, rfl, trivial⟩ ?_
        refine AWP.seq ?_
        refine AWP.region ?_
        refine rC (Calm.move rfl) ?_
        refine rC (Calm.move rfl) ?_
        refine rC ((by first | exact Calm.sliceHead Try.underlying22 ty_size_41 rfl (bnd_none _ _) (fun _ => rfl) (bnd_some _ _ rfl (by omega) (by omega)) | exact Calm.sliceNil Try.underlying22 ty_size_41 rfl (bnd_none _ _) (by simp) (bnd_zero _ _ rfl) (bnd_none _ _))) ?_
        refine rC (Calm.assign rfl) ?_
        refine arun_nil ?_
        refine athen_n ?_
        refine AWP.sub [(0, _), (3, _), (4, _), (5, _), (32, _), (2, _)] ⟨rfl, rfl, rfl, rfl, rfl, rfl, trivial⟩ ?_
        refine AWP.ret ?_
        refine ain_ret ?_
        refine athen_ret ?_
        refine athen_ret ?_
        refine ain_ret ?_
        refine athen_ret ?_
        refine ⟨_, _, ⟨_, _, rfl, rfl, rfl⟩, Mem.Less.refl _, ?_⟩
        exact ⟨A.take k, zs, by rw [d3]; rfl, by rw [odU_tail A k zs (by rw [Nat.mul_one] at hzs; omega), Mem.set_set], d1, d2, by omega⟩
    · refine AWP.condF rfl (by first | rfl | (simp; done) | (simp; omega)) ?_
      refine AWP.skip ?_
      refine ain_n ?_
      refine athen_n ?_
      refine AWP.region ?_
      refine rC (Calm.move rfl) ?_
      refine rC (Calm.bin rfl rfl b_add_i64) ?_
      refine rC (Calm.assign rfl) ?_
      refine arun_nil ?_
      refine athen_n ?_
      refine ⟨j + 2, ?_, ?_, ?_, ?_⟩
      all_goals (try dsimp only)
      · exact ⟨sq_, sq_, trivial⟩
      · exact Mem.Less.refl _
      · exact ⟨by omega, hk, fun i hi => by rcases Nat.lt_or_ge (i + 1) (j + 1) with h | h; (exact q3 i h); (obtain rfl : i = j := (by omega); rw [← hx, ← hy]; omega)⟩
      · omega
  · obtain rfl : k = n := by omega
    refine AWP.seq ?_
    refine AWP.seq ?_
    refine AWP.region ?_
    refine rC (Calm.move rfl) ?_
    refine rC (Calm.move rfl) ?_
    refine rC (Calm.lenSl Try.underlying22 rfl) ?_
    refine rC (Calm.bin rfl rfl b_lss) ?_
    refine arun_nil ?_
    refine athen_n ?_
    refine AWP.sub [(0, _), (3, _), (13, _)] ⟨rfl, rfl, rfl, trivial⟩ ?_
    refine AWP.condF rfl (by first | rfl | (simp; done) | (simp; omega)) ?_
    refine AWP.exit ?_
    refine athen_exit ?_
    refine athen_exit ?_
    refine ain_same ?_
    refine athen_n ?_
    refine AWP.seq ?_
    refine AWP.region ?_
    refine rC (Calm.move rfl) ?_
    refine rC (Calm.assign rfl) ?_
    refine arun_nil ?_
    refine athen_n ?_
    refine AWP.sub [(0, _), (3, _), (13, _), (2, _)] ⟨rfl, rfl, rfl, rfl, trivial⟩ ?_
    refine AWP.ret ?_
    refine ⟨_, _, ⟨_, _, rfl, rfl, rfl⟩, Mem.Less.refl _, ?_⟩
    exact ⟨L, [], by rw [hn]; rfl, by rw [List.append_nil], up_pairwise L (by rw [hn]; exact q3), fun x hx => hx, by omega⟩
theorem odU_compact0 (S : Mem) : ACall Try.prog 127 #[.slice none 0 0] S fun r S' => r = .slice none 0 0 ∧ S' = S := by
  refine ACall.enter (args := [.slice none 0 0]) (rs := [.tmp 2]) 61 [(0, .slice none 0 0)] Try.func127 rfl rfl (Nat.le_of_ble_eq_true rfl) rfl ⟨rfl, trivial⟩ ?_
  refine AWP.seq ?_
  refine AWP.region ?_
  refine rC (Calm.assign rfl) ?_
  refine arun_nil ?_
  refine athen_n ?_
  refine AWP.seq ?_
  refine AWP.seq ?_
  refine AWP.region ?_
  refine rC (Calm.move rfl) ?_
  refine rC (Calm.lenSl Try.underlying22 rfl) ?_
  refine rC (Calm.bin rfl rfl b_lss) ?_
  refine arun_nil ?_
  refine athen_n ?_
  refine AWP.sub [(0, _), (2, _), (8, _)] ⟨rfl, rfl, rfl, trivial⟩ ?_
  refine AWP.condT rfl (by first | rfl | (simp; done) | (simp; omega)) ?_
  refine AWP.seq ?_
  refine AWP.region ?_
  refine rC (Calm.move rfl) ?_
  refine rC (Calm.assign rfl) ?_
  refine arun_nil ?_
  refine athen_n ?_
  refine AWP.sub [(0, _), (2, _), (8, _)] ⟨rfl, rfl, rfl, trivial⟩ ?_
  refine AWP.ret ?_
  refine athen_ret ?_
  refine ⟨_, S, ⟨_, _, rfl, rfl, rfl⟩, less_, ?_⟩
  exact ⟨rfl, rfl⟩
set_option maxHeartbeats 4000000 in
theorem odU_ranks (v : Value) (l : List Nat) (S : Mem) (hv : Sl 1 (fun y => [encU y]) S v l) (hl : l.length ≤ 4096) :
    ACall Try.prog 90 #[v] S fun r S' => ∃ D : List Nat, (∀ x ∈ l, x ∈ D) ∧ D.length ≤ l.length ∧ RdL gI (l.map (cntL D)) S r S' := by
  obtain ⟨a, cap, rfl, h1, h2, h3⟩ := id hv
  obtain ⟨n, hn⟩ : ∃ n, n = l.length := ⟨_, rfl⟩
  have hcl := odU_clone _ l S hv hl
  rw [← hn] at hcl hl h1 ⊢
  refine ACall.enter (args := [.slice a n cap]) (rs := [.tmp 2]) 34 [(0, .slice a n cap)] Try.func90 rfl rfl (Nat.le_of_ble_eq_true rfl) rfl ⟨rfl, trivial⟩ ?_
  refine AWP.seq ?_
  refine AWP.region ?_
  refine rC (Calm.assign rfl) ?_
  refine arun_nil ?_
  refine athen_n ?_
  refine AWP.seq ?_
  refine AWP.region ?_
  refine rC (Calm.move rfl) ?_
  refine ARun.call (lit_lt rfl) go_125 rfl (hcl) ?_
  rintro _ _ ⟨o, ho, rfl, rfl⟩
  refine rC (Calm.assign rfl) ?_
  refine arun_nil ?_
  refine athen_n ?_
  refine AWP.sub [(0, _), (2, _), (3, _)] ⟨rfl, rfl, rfl, trivial⟩ ?_
  cases o
  · obtain rfl : n = 0 := ho.nil rfl
    have hl0 : l = [] := List.length_eq_zero_iff.1 hn.symm
    refine AWP.seq ?_
    refine AWP.region ?_
    refine rC (Calm.move rfl) ?_
    refine ARun.call (lit_lt rfl) go_126 rfl (soU_sort0 _) ?_
    rintro _ S1 e1
    rw [e1]; clear e1 S1
    refine arun_nil ?_
    refine athen_n ?_
    refine AWP.sub [(0, _), (2, _), (3, _)] ⟨rfl, rfl, rfl, trivial⟩ ?_
    refine AWP.seq ?_
    refine AWP.region ?_
    refine rC (Calm.move rfl) ?_
    refine ARun.call (lit_lt rfl) go_127 rfl (odU_compact0 _) ?_
    rintro _ S1 ⟨rfl, e1⟩
    rw [e1]; clear e1 S1
    refine rC (Calm.assign rfl) ?_
    refine arun_nil ?_
    refine athen_n ?_
    refine AWP.sub [(0, _), (2, _), (3, _)] ⟨rfl, rfl, rfl, trivial⟩ ?_
    refine AWP.seq ?_
    refine AWP.region ?_
    refine rC (Calm.move rfl) ?_
    refine rC (Calm.lenSl Try.underlying22 rfl) ?_
    refine ARun.makeSlice (lit_lt rfl) ty_sl_24 rfl rfl (by omega) (by omega) (by omega) (by omega) ?_
    intro b15 f15
    have g15 := f15
    repeat ((with_reducible replace g15 := fresh_set g15); obtain ⟨g15, _⟩ := g15)
    refine rC (Calm.assign rfl) ?_
    refine arun_nil ?_
    refine athen_n ?_
    refine AWP.sub [(0, _), (2, _), (3, _), (4, _)] ⟨rfl, rfl, rfl, rfl, trivial⟩ ?_
    refine AWP.seq ?_
    refine AWP.seq ?_
    refine AWP.region ?_
    refine rC (Calm.move rfl) ?_
    refine rC (Calm.lenSl Try.underlying22 rfl) ?_
    refine rC (Calm.move rfl) ?_
    refine arun_nil ?_
    refine athen_n ?_
    refine AWP.block ?_
    refine AWP.loop (X := Unit) (fun x => [(4, .slice (some ⟨b15, 0, none⟩) 0 0), (17, .int .i64 0), (18, .int .i64 0)]) (fun x => S.set b15 ⟨3, [], 0⟩) (fun x => l = []) (fun x => 0) (()) ⟨rfl, rfl, rfl, trivial⟩ (by rw [madeL_one]; exact Mem.Less.refl _) (hl0) ?_
    rintro _ _
    (try dsimp only at *)
    refine AWP.seq ?_
    refine AWP.region ?_
    refine rC (Calm.bin rfl rfl b_lss) ?_
    refine arun_nil ?_
    refine athen_n ?_
    refine AWP.seq ?_
    refine AWP.condF rfl (by first | rfl | (simp; done) | (simp; omega)) ?_
    refine AWP.exit ?_
    refine athen_exit ?_
    refine athen_exit ?_
    refine ain_same ?_
    refine athen_n ?_
    refine AWP.seq ?_
    refine AWP.region ?_
    refine rC (Calm.move rfl) ?_
    refine rC (Calm.assign rfl) ?_
    refine arun_nil ?_
    refine athen_n ?_
    refine AWP.sub [(4, _), (17, _), (18, _), (19, _), (2, _)] ⟨rfl, rfl, rfl, rfl, rfl, trivial⟩ ?_
    refine AWP.ret ?_
    refine ⟨_, _, ⟨_, _, rfl, rfl, rfl⟩, Mem.Less.refl _, ?_⟩
    exact ⟨[], (fun x hx => absurd (hl0 ▸ hx : x ∈ ([] : List Nat)) (List.not_mem_nil)), Nat.zero_le _, Mem.less_set _ _ _ f15.1, by rw [hl0]; exact Sl.own1 (g := gI) (l := []) (Mem.own_set_same _ _ _) List.prefix_rfl rfl (Nat.le_refl _) (by decide)⟩
  · rename_i q
    obtain ⟨b, c⟩ := q
    obtain ⟨fb, hbc⟩ := ho.own b c rfl
    have hR : Rw (fun _ => True) n l.toArray := ⟨by simp [hn], fun _ _ => trivial⟩
    have hsort := soU_sort (S := S) b c n c fb (by omega) l.toArray hR
    obtain ⟨d', hd'⟩ : ∃ d', d' = Go.Sort.pdq ltN l.toArray 0 n (Go.Sort.bitsLen n) true true := ⟨_, rfl⟩
    obtain ⟨hp, hs⟩ := sorted_num l n hn.symm d' hd'
    rw [← hd'] at hsort
    obtain ⟨L, hL⟩ : ∃ L, L = d'.toList := ⟨_, rfl⟩
    rw [← hL] at hsort hp hs
    have hLn : L.length = n := by rw [hp.length_eq]; exact hn.symm
    clear hd' hR hL
    refine AWP.seq ?_
    refine AWP.region ?_
    refine rC (Calm.move rfl) ?_
    refine ARun.call (lit_lt rfl) go_126 rfl (hsort) ?_
    rintro _ _ ⟨rfl, _⟩
    refine arun_nil ?_
    refine athen_n ?_
    refine AWP.sub [(0, _), (2, _), (3, _)] ⟨rfl, rfl, rfl, trivial⟩ ?_
    refine AWP.seq ?_
    refine AWP.region ?_
    refine rC (Calm.move rfl) ?_
    refine ARun.call (lit_lt rfl) go_127 rfl (odU_compact b c c L n hLn S fb hs hl hbc) ?_
    rintro _ _ ⟨D, zs, rfl, rfl, hD1, hD2, hD3⟩
    have hlD : ∀ x ∈ l, x ∈ D := fun x hx => hD2 x (hp.mem_iff.2 hx)
    obtain ⟨M, hM⟩ : ∃ M, M = S.set b ⟨41, D.map encU ++ zs, c⟩ := ⟨_, rfl⟩
    have hSM : S.Less M := by rw [hM]; exact Mem.less_set _ _ _ fb.1
    have hvD : Sl 1 (fun y => [encU y]) M (.slice (some ⟨b, 0, none⟩) D.length c) D := by rw [hM]; exact Sl.own1 (g := encU) (l := D) (Mem.own_set_same _ _ _) (List.prefix_append _ _) rfl (by omega) (by omega)
    rw [← hM]
    refine rC (Calm.assign rfl) ?_
    refine arun_nil ?_
    refine athen_n ?_
    refine AWP.sub [(0, _), (2, _), (3, _)] ⟨rfl, rfl, rfl, trivial⟩ ?_
    refine AWP.seq ?_
    refine AWP.region ?_
    refine rC (Calm.move rfl) ?_
    refine rC (Calm.lenSl Try.underlying22 rfl) ?_
    refine ARun.makeSlice (lit_lt rfl) ty_sl_24 rfl rfl (by omega) (by omega) (by omega) (by omega) ?_
    intro b15 f15
    have g15 := f15
    repeat ((with_reducible replace g15 := fresh_set g15); obtain ⟨g15, _⟩ := g15)
    refine rC (Calm.assign rfl) ?_
    refine arun_nil ?_
    refine athen_n ?_
    refine AWP.sub [(0, _), (2, _), (3, _), (4, _)] ⟨rfl, rfl, rfl, rfl, trivial⟩ ?_
    rw [show madeL [Value.int .i64 0] (((n : Nat) : Int).toNat * 1) = ([] : List Nat).map gI ++ List.replicate (n - 0) (gI 0) by rw [madeL_one, Nat.mul_one]; rfl, Nat.mul_one, Int.toNat_natCast]
    refine AWP.seq ?_
    refine AWP.seq ?_
    refine AWP.region ?_
    refine rC (Calm.move rfl) ?_
    refine rC (Calm.lenSl Try.underlying22 rfl) ?_
    refine rC (Calm.move rfl) ?_
    refine arun_nil ?_
    refine athen_n ?_
    refine AWP.block ?_
    refine AWP.loop (X := Nat) (fun x => [(3, .slice (some ⟨b, 0, none⟩) D.length c), (4, .slice (some ⟨b15, 0, none⟩) n n), (16, .slice a n cap), (17, .int .i64 n), (18, .int .i64 x)]) (fun x => M.set b15 ⟨3, ((l.take x).map (cntL D)).map gI ++ List.replicate (n - x) (gI 0), n⟩) (fun x => x ≤ n) (fun x => n - x) (0) ⟨rfl, rfl, rfl, rfl, rfl, trivial⟩ (Mem.Less.refl _) (Nat.zero_le _) ?_
    rintro i hi
    (try dsimp only at *)
    by_cases hc : i < n
    · refine AWP.seq ?_
      refine AWP.region ?_
      refine rC (Calm.bin rfl rfl b_lss) ?_
      refine arun_nil ?_
      refine athen_n ?_
      refine AWP.seq ?_
      refine AWP.condT rfl (by first | rfl | (simp; done) | (simp; omega)) ?_
      have hil : i < l.length := by omega
      obtain ⟨vb, vo, rfl, hk⟩ := h3.resolve_left (fun e => by rw [e] at hil; exact absurd hil (Nat.not_lt_zero _))
      have hMM : M.Less (M.set b15 ⟨3, ((l.take i).map (cntL D)).map gI ++ List.replicate (n - i) (gI 0), n⟩) := Mem.less_set _ _ _ f15.1
      have hki : Mem.Knows (M.set b15 ⟨3, ((l.take i).map (cntL D)).map gI ++ List.replicate (n - i) (gI 0), n⟩) ⟨vb, vo + i * 1, none⟩ [encU l[i]] := (hk i hil).less (hSM.trans hMM)
      have hlr : (((l.take i).map (cntL D)).map gI ++ List.replicate (n - i) (gI 0)).length = n := by simp; omega
      refine AWP.skip ?_
      refine athen_n ?_
      refine AWP.seq ?_
      refine AWP.block ?_
      refine AWP.seq ?_
      refine AWP.region ?_
      refine rC (Calm.move rfl) ?_
      refine rC (Calm.indexS Try.underlying22 ty_size_41 rfl rfl (by omega) (by omega)) ?_
      refine rC (ld_ ty_plain_41 rfl) ?_
      refine rC (Calm.assign rfl) ?_
      refine rC (Calm.assign rfl) ?_
      refine arun_nil ?_
      refine athen_n ?_
      refine AWP.sub [(3, _), (4, _), (16, _), (17, _), (18, _), (19, _), (5, _), (6, _)] ⟨rfl, rfl, rfl, rfl, rfl, rfl, rfl, rfl, trivial⟩ ?_
      refine AWP.region ?_
      refine rC (Calm.move rfl) ?_
      refine rC (Calm.move rfl) ?_
      refine rC (Calm.move rfl) ?_
      refine rC (Calm.move rfl) ?_
      refine ARun.call (lit_lt rfl) go_128 rfl (odU_search _ l[i] D _ (hvD.less hMM) hD1 (hlD _ (List.getElem_mem hil)) (by omega)) ?_
      rintro _ S1 ⟨rfl, e1⟩
      rw [e1]; clear e1 S1
      refine rC (Calm.move rfl) ?_
      refine rC (Calm.extract rfl rfl) ?_
      refine rC (Calm.extract rfl rfl) ?_
      refine rC (Calm.indexS Try.underlying24 ty_size_3 rfl rfl (by omega) (by omega)) ?_
      refine ARun.store1 rfl rfl ty_size_3 rfl own_ lens_ rfl ?_
      (try simp only [Mem.set_set, List.set_cons_zero, List.set_cons_succ, Nat.zero_add, Nat.reduceAdd])
      refine arun_nil ?_
      refine ain_n ?_
      refine athen_n ?_
      refine AWP.sub [(3, _), (4, _), (16, _), (17, _), (18, _), (19, _), (5, _), (6, _)] ⟨rfl, rfl, rfl, rfl, rfl, rfl, rfl, rfl, trivial⟩ ?_
      simp only [Nat.zero_add, Nat.mul_one, Int.toNat_natCast]
      have key : (((l.take i).map (cntL D)).map gI ++ List.replicate (n - i) (gI 0)).set i (gI (cntL D l[i])) = ((l.take (i + 1)).map (cntL D)).map gI ++ List.replicate (n - (i + 1)) (gI 0) := by rw [fill_map gI ((l.take i).map (cntL D)) 0 n i (cntL D l[i]) (by simp; omega) hc, show (l.take i).map (cntL D) ++ [cntL D l[i]] = (l.take (i + 1)).map (cntL D) by rw [List.take_succ_eq_append_getElem hil, List.map_append]; rfl]
      refine AWP.less (M.set b15 ⟨3, ((l.take (i + 1)).map (cntL D)).map gI ++ List.replicate (n - (i + 1)) (gI 0), n⟩) (by rw [← key]; exact Mem.Less.refl _) ?_
      refine AWP.region ?_
      refine rC (Calm.bin rfl rfl b_add_i64) ?_
      refine rC (Calm.move rfl) ?_
      refine arun_nil ?_
      refine athen_n ?_
      refine ⟨i + 1, ?_, ?_, ?_, ?_⟩
      all_goals (try dsimp only)
      · exact ⟨sq_, sq_, sq_, sq_, sq_, trivial⟩
      · exact Mem.Less.refl _
      · exact hc
      · omega
    · obtain rfl : i = n := by omega
      refine AWP.seq ?_
      refine AWP.region ?_
      refine rC (Calm.bin rfl rfl b_lss) ?_
      refine arun_nil ?_
      refine athen_n ?_
      refine AWP.seq ?_
      refine AWP.condF rfl (by first | rfl | (simp; done) | (simp; omega)) ?_
      rw [Nat.sub_self, List.replicate_zero, List.append_nil, List.take_of_length_le (by omega)]
      refine AWP.exit ?_
      refine athen_exit ?_
      refine athen_exit ?_
      refine ain_same ?_
      refine athen_n ?_
      refine AWP.seq ?_
      refine AWP.region ?_
      refine rC (Calm.move rfl) ?_
      refine rC (Calm.assign rfl) ?_
      refine arun_nil ?_
      refine athen_n ?_
      refine AWP.sub [(3, _), (4, _), (16, _), (17, _), (18, _), (19, _), (2, _)] ⟨rfl, rfl, rfl, rfl, rfl, rfl, rfl, trivial⟩ ?_
      refine AWP.ret ?_
      refine ⟨_, _, ⟨_, _, rfl, rfl, rfl⟩, Mem.Less.refl _, ?_⟩
      exact ⟨D, hlD, hD3, hSM.trans (Mem.less_set _ _ _ f15.1), Sl.own1 (g := gI) (l := l.map (cntL D)) (Mem.own_set_same _ _ _) List.prefix_rfl (by rw [List.length_map]; exact hn.symm) (Nat.le_refl _) (by omega)⟩
end Go.Proofs.Ytgidjbpgkeemiaa
namespace Go.Proofs.Ytgidjbpgkeemiaa
open Go.RowKit
open Mv Num Loser Srt
set_option linter.unusedVariables false
set_option linter.unusedSimpArgs false
set_option maxRecDepth 4000
theorem od_Ends (v : Value) (l : List Nat) (S : Mem) (hv : RowR S v l) :
    ACall Try.prog 47 #[v] S (EndsR l S) := by
  obtain ⟨va, vc, rfl, v1, v2, v3⟩ := id hv
  by_cases hbig : 4096 < l.length
  · skip
    refine ACall.enter (args := [.slice va l.length vc]) (rs := [.tmp 2, .tmp 3]) 10 [(0, .slice va l.length vc)] Try.func47 rfl rfl (Nat.le_of_ble_eq_true rfl) rfl ⟨rfl, trivial⟩ ?_
    refine AWP.seq ?_
    refine AWP.region ?_
    refine rC (Calm.assign rfl) ?_
    refine rC (Calm.assign rfl) ?_
    refine arun_nil ?_
    refine athen_n ?_
    refine AWP.seq ?_
    refine AWP.seq ?_
    refine AWP.region ?_
    refine rC (Calm.move rfl) ?_
    refine rC (Calm.lenSl Try.underlying22 rfl) ?_
    refine rC (Calm.bin rfl rfl b_gtr) ?_
    refine arun_nil ?_
    refine athen_n ?_
    refine AWP.sub [(0, _), (2, _), (3, _), (6, _)] ⟨rfl, rfl, rfl, rfl, trivial⟩ ?_
    refine AWP.condT rfl (by first | rfl | (simp; done) | (simp; omega)) ?_
    refine AWP.seq ?_
    refine AWP.region ?_
    refine rC (Calm.assign rfl) ?_
    refine rC (Calm.assign rfl) ?_
    refine arun_nil ?_
    refine athen_n ?_
    refine AWP.ret ?_
    refine athen_ret ?_
    refine ⟨_, S, ⟨_, _, rfl, ⟨_, _, rfl, rfl, rfl⟩, rfl⟩, less_, ?_⟩
    exact .inr ⟨hbig, rfl, rfl⟩
  · skip
    refine ACall.enter (args := [.slice va l.length vc]) (rs := [.tmp 2, .tmp 3]) 10 [(0, .slice va l.length vc)] Try.func47 rfl rfl (Nat.le_of_ble_eq_true rfl) rfl ⟨rfl, trivial⟩ ?_
    refine AWP.seq ?_
    refine AWP.region ?_
    refine rC (Calm.assign rfl) ?_
    refine rC (Calm.assign rfl) ?_
    refine arun_nil ?_
    refine athen_n ?_
    refine AWP.seq ?_
    refine AWP.seq ?_
    refine AWP.region ?_
    refine rC (Calm.move rfl) ?_
    refine rC (Calm.lenSl Try.underlying22 rfl) ?_
    refine rC (Calm.bin rfl rfl b_gtr) ?_
    refine arun_nil ?_
    refine athen_n ?_
    refine AWP.sub [(0, _), (2, _), (3, _), (6, _)] ⟨rfl, rfl, rfl, rfl, trivial⟩ ?_
    refine AWP.condF rfl (by first | rfl | (simp; done) | (simp; omega)) ?_
    refine AWP.skip ?_
    refine athen_n ?_
    refine AWP.seq ?_
    refine AWP.region ?_
    refine rC (Calm.move rfl) ?_
    refine ARun.call (lit_lt rfl) go_90 rfl (odU_ranks _ l S hv (by omega)) ?_
    rintro u S1 ⟨D, hD, hDl, hS1, hu⟩
    refine ARun.call (lit_lt rfl) go_89 rfl (od_ends u l (l.map (cntL D)) S1 hu (by rw [List.length_map]) (by omega) (fun x hx => by obtain ⟨y, _, rfl⟩ := List.mem_map.1 hx; have := cnt_le D y; omega) (rk_cnt l D hD)) ?_
    rintro u2 S2 ⟨hS2, hu2⟩
    refine rC (Calm.assign rfl) ?_
    refine rC (Calm.assign rfl) ?_
    refine arun_nil ?_
    refine athen_n ?_
    refine AWP.sub [(0, _), (2, _), (3, _), (6, _)] ⟨rfl, rfl, rfl, rfl, trivial⟩ ?_
    refine AWP.ret ?_
    refine ⟨_, S2, ⟨_, _, rfl, ⟨_, _, rfl, rfl, rfl⟩, rfl⟩, Mem.Less.refl _, ?_⟩
    exact .inl ⟨by omega, u2, rfl, hS1.trans hS2, hu2⟩
end Go.Proofs.Ytgidjbpgkeemiaa
namespace Go.Proofs.Ytgidjbpgkeemiaa
open Go.RowKit
open Mv Num Loser Skew Srt
set_option linter.unusedVariables false
set_option linter.unusedSimpArgs false
set_option maxRecDepth 4000
set_option maxHeartbeats 4000000 in
theorem law_SkewSamples (v : Value) (l : List Nat) (S : Mem) (hl : RowR S v l) :
    ACall Try.prog 13 #[v] S fun r S' => r = .bool true := by
  obtain ⟨a, cap, rfl, _, _, v3⟩ := id hl
  by_cases hb : 300 < l.length
  · skip
    refine ACall.enter (args := [.slice a l.length cap]) (rs := [.tmp 2]) 111 [(0, .slice a l.length cap)] Try.func13 rfl rfl (Nat.le_of_ble_eq_true rfl) rfl ⟨rfl, trivial⟩ ?_
    refine AWP.seq ?_
    refine AWP.region ?_
    refine rC (Calm.assign rfl) ?_
    refine arun_nil ?_
    refine athen_n ?_
    refine AWP.seq ?_
    refine AWP.seq ?_
    refine AWP.region ?_
    refine ARun.call (lit_lt rfl) go_14 rfl (sk_lives _) ?_
    rintro _ S8 ⟨rfl, e1⟩
    rw [e1]; clear e1 S8
    refine rC (Calm.un rfl (una_not _)) ?_
    refine arun_nil ?_
    refine athen_n ?_
    refine AWP.sub [(0, _), (2, _), (16, _)] ⟨rfl, rfl, rfl, trivial⟩ ?_
    refine AWP.condF rfl (by first | rfl | (simp; done) | (simp; omega)) ?_
    refine AWP.skip ?_
    refine athen_n ?_
    refine AWP.seq ?_
    refine AWP.seq ?_
    refine AWP.region ?_
    refine rC (Calm.move rfl) ?_
    refine rC (Calm.lenSl Try.underlying22 rfl) ?_
    refine rC (Calm.bin rfl rfl b_gtr) ?_
    refine arun_nil ?_
    refine athen_n ?_
    refine AWP.sub [(0, _), (2, _), (16, _), (19, _)] ⟨rfl, rfl, rfl, rfl, trivial⟩ ?_
    refine AWP.condT rfl (by first | rfl | (simp; done) | (simp; omega)) ?_
    refine AWP.seq ?_
    refine AWP.region ?_
    refine rC (Calm.assign rfl) ?_
    refine arun_nil ?_
    refine athen_n ?_
    refine AWP.ret ?_
    refine athen_ret ?_
    refine ⟨_, _, ⟨_, _, rfl, rfl, rfl⟩, less_, ?_⟩
    rfl
  by_cases hc : chkL l = 0
  · have er : redP l = red l := if_pos hc
    have es : smpL l = places l.length := if_pos hc
    have h1 := (chk_ok hc).2.1
    have hm3 : numP l.length ≤ 3000 := places_le l.length (chk_ok hc).1
    have hrl := red_length l
    obtain ⟨m, hm⟩ : ∃ m, m = numP l.length := ⟨_, rfl⟩
    have hpm : (places l.length).length = m := hm.symm
    rw [← hm] at hm3 hrl
    have hso := Ord.endsR_ok (red l)
    obtain ⟨e, he⟩ : ∃ e, e = Ord.endsR (red l) (red l).length := ⟨_, rfl⟩
    rw [← he] at hso
    have hel : e.length = m := by rw [hso.len, hrl]
    have hex : expP l (e.map (fun k : Nat => (k : Int))) = (Ord.endsR l l.length, 0) := expP_yes hc ⟨e, rfl, hso⟩
    have hall : (Ord.endsR l l.length).length = l.length := (Ord.endsR_ok l).len
    refine ACall.enter (args := [.slice a l.length cap]) (rs := [.tmp 2]) 111 [(0, .slice a l.length cap)] Try.func13 rfl rfl (Nat.le_of_ble_eq_true rfl) rfl ⟨rfl, trivial⟩ ?_
    refine AWP.seq ?_
    refine AWP.region ?_
    refine rC (Calm.assign rfl) ?_
    refine arun_nil ?_
    refine athen_n ?_
    refine AWP.seq ?_
    refine AWP.seq ?_
    refine AWP.region ?_
    refine ARun.call (lit_lt rfl) go_14 rfl (sk_lives _) ?_
    rintro _ S8 ⟨rfl, e1⟩
    rw [e1]; clear e1 S8
    refine rC (Calm.un rfl (una_not _)) ?_
    refine arun_nil ?_
    refine athen_n ?_
    refine AWP.sub [(0, _), (2, _), (16, _)] ⟨rfl, rfl, rfl, trivial⟩ ?_
    refine AWP.condF rfl (by first | rfl | (simp; done) | (simp; omega)) ?_
    refine AWP.skip ?_
    refine athen_n ?_
    refine AWP.seq ?_
    refine AWP.seq ?_
    refine AWP.region ?_
    refine rC (Calm.move rfl) ?_
    refine rC (Calm.lenSl Try.underlying22 rfl) ?_
    refine rC (Calm.bin rfl rfl b_gtr) ?_
    refine arun_nil ?_
    refine athen_n ?_
    refine AWP.sub [(0, _), (2, _), (16, _), (19, _)] ⟨rfl, rfl, rfl, rfl, trivial⟩ ?_
    refine AWP.condF rfl (by first | rfl | (simp; done) | (simp; omega)) ?_
    refine AWP.skip ?_
    refine athen_n ?_
    refine AWP.seq ?_
    refine AWP.region ?_
    refine rC (Calm.move rfl) ?_
    refine ARun.call (lit_lt rfl) go_19 rfl (sk_Reduce _ l _ hl) ?_
    rintro _ S2 ⟨u2, rfl, hS2, hu2⟩
    rw [er] at hu2; rw [hc]
    obtain ⟨a2, c2, rfl, _⟩ := id hu2
    replace hl := hl.less hS2
    refine rC (Calm.move rfl) ?_
    refine rC (Calm.extract rfl rfl) ?_
    refine rC (Calm.extract rfl rfl) ?_
    refine rC (Calm.extract rfl rfl) ?_
    refine rC (Calm.assign rfl) ?_
    refine rC (Calm.assign rfl) ?_
    refine rC (Calm.assign rfl) ?_
    refine arun_nil ?_
    refine athen_n ?_
    refine AWP.sub [(0, _), (2, _), (16, _), (19, _), (3, _), (5, _)] ⟨rfl, rfl, rfl, rfl, rfl, rfl, trivial⟩ ?_
    refine AWP.seq ?_
    refine AWP.region ?_
    refine rC (Calm.move rfl) ?_
    refine ARun.call (lit_lt rfl) go_15 rfl (sk_Samples _ l _ hl) ?_
    rintro _ S3 ⟨u3, rfl, hS3, hu3⟩
    rw [es] at hu3; rw [hc]
    obtain ⟨a3, c3, rfl, _, _, k3⟩ := id hu3
    rw [hpm]
    replace hl := hl.less hS3
    replace hu2 := hu2.less hS3
    refine rC (Calm.move rfl) ?_
    refine rC (Calm.extract rfl rfl) ?_
    refine rC (Calm.extract rfl rfl) ?_
    refine rC (Calm.assign rfl) ?_
    refine rC (Calm.assign rfl) ?_
    refine arun_nil ?_
    refine athen_n ?_
    refine AWP.sub [(0, _), (2, _), (16, _), (19, _), (3, _), (5, _), (6, _), (7, _)] ⟨rfl, rfl, rfl, rfl, rfl, rfl, rfl, rfl, trivial⟩ ?_
    refine AWP.seq ?_
    refine AWP.seq ?_
    refine AWP.region ?_
    refine rC (Calm.move rfl) ?_
    refine rC (Calm.bin rfl rfl b_neq) ?_
    refine rC (Calm.move rfl) ?_
    first | refine rS 33 ?_ | refine rU 33 ?_ | refine rG 33 (Calm.move rfl) ?_
    first | refine rS 33 ?_ | refine rU 33 ?_ | refine rG 33 (Calm.bin rfl rfl b_neq) ?_
    refine rC ((by first | exact Calm.pickT rfl rfl | exact Calm.pickF rfl rfl)) ?_
    refine arun_nil ?_
    refine athen_n ?_
    refine AWP.sub [(0, _), (2, _), (16, _), (19, _), (3, _), (5, _), (6, _), (7, _), (36, _)] ⟨rfl, rfl, rfl, rfl, rfl, rfl, rfl, rfl, rfl, trivial⟩ ?_
    refine AWP.condF rfl (by first | rfl | (simp; done) | (simp; omega)) ?_
    refine AWP.skip ?_
    refine athen_n ?_
    refine AWP.seq ?_
    refine AWP.region ?_
    refine rC (Calm.move rfl) ?_
    refine ARun.call (lit_lt rfl) go_47 rfl (od_Ends _ (red l) _ hu2) ?_
    rintro _ S4 hE
    obtain ⟨_, u4, rfl, hS4, hu4⟩ := hE.resolve_right (fun h => by have := h.1; omega)
    rw [← he] at hu4
    obtain ⟨a4, c4, rfl, _, _, k4⟩ := id hu4
    rw [hel]
    replace hl := hl.less hS4
    rw [hel] at hu4
    refine rC (Calm.move rfl) ?_
    refine rC (Calm.extract rfl rfl) ?_
    refine rC (Calm.extract rfl rfl) ?_
    refine rC (Calm.assign rfl) ?_
    refine rC (Calm.assign rfl) ?_
    refine arun_nil ?_
    refine athen_n ?_
    refine AWP.sub [(0, _), (2, _), (16, _), (19, _), (3, _), (5, _), (6, _), (7, _), (36, _), (8, _), (9, _)] ⟨rfl, rfl, rfl, rfl, rfl, rfl, rfl, rfl, rfl, rfl, rfl, trivial⟩ ?_
    refine AWP.seq ?_
    refine AWP.region ?_
    refine rC (Calm.move rfl) ?_
    refine rC (Calm.move rfl) ?_
    refine ARun.call (lit_lt rfl) go_28 rfl (sk_Expand _ _ l (e.map (fun k : Nat => (k : Int))) _ hl (idx_ints hu4) (by rw [List.length_map]; omega)) ?_
    rintro _ S5 ⟨u5, rfl, hS5, hu5⟩
    rw [hex] at hu5 ⊢
    obtain ⟨a5, c5, rfl, _⟩ := id hu5
    replace hl := hl.less hS5
    refine rC (Calm.move rfl) ?_
    refine rC (Calm.extract rfl rfl) ?_
    refine rC (Calm.extract rfl rfl) ?_
    refine rC (Calm.assign rfl) ?_
    refine rC (Calm.assign rfl) ?_
    refine arun_nil ?_
    refine athen_n ?_
    refine AWP.sub [(0, _), (2, _), (16, _), (19, _), (3, _), (5, _), (6, _), (7, _), (36, _), (8, _), (9, _), (10, _), (11, _)] ⟨rfl, rfl, rfl, rfl, rfl, rfl, rfl, rfl, rfl, rfl, rfl, rfl, rfl, trivial⟩ ?_
    refine AWP.seq ?_
    refine AWP.seq ?_
    refine AWP.region ?_
    refine rC (Calm.move rfl) ?_
    refine rC (Calm.bin rfl rfl b_neq) ?_
    refine rC (Calm.move rfl) ?_
    first | refine rS 58 ?_ | refine rU 58 ?_ | refine rG 58 (Calm.move rfl) ?_
    first | refine rS 58 ?_ | refine rU 58 ?_ | refine rG 58 (Calm.bin rfl rfl b_neq) ?_
    refine rC ((by first | exact Calm.pickT rfl rfl | exact Calm.pickF rfl rfl)) ?_
    refine rC (Calm.move rfl) ?_
    first | refine rS 62 ?_ | refine rU 62 ?_ | refine rG 62 (Calm.move rfl) ?_
    first | refine rS 62 ?_ | refine rU 62 ?_ | refine rG 62 (Calm.move rfl) ?_
    refine ARun.callG 6 false 62 rfl (lit_lt rfl) rfl (lit_lt rfl) go_53 rfl (or_Right _ _ l ((Ord.endsR l l.length).map (fun k : Nat => (k : Int))) _ hl (idx_ints hu5) (by rw [List.length_map]; omega)) ?_
    rintro _ S8 ⟨⟨t, rfl, ht⟩, e1⟩
    rw [e1]; clear e1 S8
    obtain rfl := ht.2 ⟨_, rfl, Ord.endsR_ok l⟩
    first | refine rS 62 ?_ | refine rU 62 ?_ | refine rG 62 (Calm.un rfl (una_not _)) ?_
    refine rC ((by first | exact Calm.pickT rfl rfl | exact Calm.pickF rfl rfl)) ?_
    refine arun_nil ?_
    refine athen_n ?_
    refine AWP.sub [(0, _), (2, _), (16, _), (19, _), (3, _), (5, _), (6, _), (7, _), (36, _), (8, _), (9, _), (10, _), (11, _), (67, _)] ⟨rfl, rfl, rfl, rfl, rfl, rfl, rfl, rfl, rfl, rfl, rfl, rfl, rfl, rfl, trivial⟩ ?_
    refine AWP.condF rfl (by first | rfl | (simp; done) | (simp; omega)) ?_
    refine AWP.skip ?_
    refine athen_n ?_
    refine AWP.seq ?_
    refine AWP.seq ?_
    refine AWP.region ?_
    refine rC (Calm.move rfl) ?_
    refine rC (Calm.lenSl Try.underlying24 rfl) ?_
    refine rC (Calm.move rfl) ?_
    refine arun_nil ?_
    refine athen_n ?_
    refine AWP.sub [(0, _), (2, _), (16, _), (19, _), (3, _), (5, _), (6, _), (7, _), (36, _), (8, _), (9, _), (10, _), (11, _), (67, _), (69, _), (70, _)] ⟨rfl, rfl, rfl, rfl, rfl, rfl, rfl, rfl, rfl, rfl, rfl, rfl, rfl, rfl, rfl, rfl, trivial⟩ ?_
    refine AWP.block ?_
    refine AWP.loop (X := Nat) (fun x => [(0, .slice a l.length cap), (6, .slice a3 m c3), (8, .slice a4 m c4), (69, .int .i64 m), (70, .int .i64 x)]) (fun x => S5) (fun x => x ≤ m) (fun x => m - x) (0) ⟨rfl, rfl, rfl, rfl, rfl, trivial⟩ (Mem.Less.refl _) (Nat.zero_le _) ?_
    rintro i hi
    (try dsimp only at *)
    by_cases hi2 : i < m
    · refine AWP.seq ?_
      refine AWP.region ?_
      refine rC (Calm.bin rfl rfl b_lss) ?_
      refine arun_nil ?_
      refine athen_n ?_
      refine AWP.seq ?_
      refine AWP.condT rfl (by first | rfl | (simp; done) | (simp; omega)) ?_
      by_cases h0 : i = 0
      · refine AWP.skip ?_
        refine athen_n ?_
        refine AWP.seq ?_
        refine AWP.block ?_
        refine AWP.seq ?_
        refine AWP.region ?_
        refine rC (Calm.move rfl) ?_
        refine rC (Calm.assign rfl) ?_
        refine arun_nil ?_
        refine athen_n ?_
        refine AWP.sub [(0, _), (6, _), (8, _), (69, _), (70, _), (71, _), (12, _)] ⟨rfl, rfl, rfl, rfl, rfl, rfl, rfl, trivial⟩ ?_
        refine AWP.seq ?_
        refine AWP.seq ?_
        refine AWP.region ?_
        refine rC (Calm.move rfl) ?_
        refine rC (Calm.bin rfl rfl b_eql) ?_
        refine arun_nil ?_
        refine athen_n ?_
        refine AWP.sub [(0, _), (6, _), (8, _), (69, _), (70, _), (71, _), (12, _), (74, _)] ⟨rfl, rfl, rfl, rfl, rfl, rfl, rfl, rfl, trivial⟩ ?_
        refine AWP.condT rfl (by first | rfl | (simp; done) | (simp; omega)) ?_
        refine AWP.exit ?_
        refine athen_exit ?_
        refine ain_same ?_
        refine athen_n ?_
        refine AWP.region ?_
        refine rC (Calm.bin rfl rfl b_add_i64) ?_
        refine rC (Calm.move rfl) ?_
        refine arun_nil ?_
        refine athen_n ?_
        refine ⟨i + 1, ?_, ?_, ?_, ?_⟩
        all_goals (try dsimp only)
        · exact ⟨sq_, sq_, sq_, sq_, sq_, trivial⟩
        · exact Mem.Less.refl _
        · exact hi2
        · omega
      · refine AWP.skip ?_
        refine athen_n ?_
        refine AWP.seq ?_
        refine AWP.block ?_
        refine AWP.seq ?_
        refine AWP.region ?_
        refine rC (Calm.move rfl) ?_
        refine rC (Calm.assign rfl) ?_
        refine arun_nil ?_
        refine athen_n ?_
        refine AWP.sub [(0, _), (6, _), (8, _), (69, _), (70, _), (71, _), (12, _)] ⟨rfl, rfl, rfl, rfl, rfl, rfl, rfl, trivial⟩ ?_
        refine AWP.seq ?_
        refine AWP.seq ?_
        refine AWP.region ?_
        refine rC (Calm.move rfl) ?_
        refine rC (Calm.bin rfl rfl b_eql) ?_
        refine arun_nil ?_
        refine athen_n ?_
        refine AWP.sub [(0, _), (6, _), (8, _), (69, _), (70, _), (71, _), (12, _), (74, _)] ⟨rfl, rfl, rfl, rfl, rfl, rfl, rfl, rfl, trivial⟩ ?_
        refine AWP.condF rfl (by first | rfl | (simp; done) | (simp; omega)) ?_
        obtain ⟨j, rfl⟩ : ∃ j, i = j + 1 := ⟨i - 1, by omega⟩
        have hjl : j + 1 < e.length := by omega
        obtain ⟨pb, po, rfl, kp⟩ := k3.resolve_left (fun h => by rw [h] at hpm; simp at hpm; omega)
        obtain ⟨eb, eo, rfl, ke⟩ := k4.resolve_left (fun h => by rw [h] at hjl; exact absurd hjl (Nat.not_lt_zero _))
        have hx1 : e[j]'(by omega) < numP l.length := by have := hso.lt (List.getElem_mem (show j < e.length by omega)); omega
        have hx2 : e[j + 1] < numP l.length := by have := hso.lt (List.getElem_mem hjl); omega
        have k1 : S5.Knows ⟨eb, eo + j * 1, none⟩ [.int .i64 (e[j]'(by omega) : Int)] := (ke j (by omega)).less hS5
        have k2 : S5.Knows ⟨eb, eo + (j + 1) * 1, none⟩ [.int .i64 (e[j + 1] : Int)] := (ke (j + 1) hjl).less hS5
        have k5 : S5.Knows ⟨pb, po + e[j] * 1, none⟩ [.int .i64 (plc l.length e[j] : Int)] := by rw [places_getD hx1]; exact (kp _ hx1).less (hS4.trans hS5)
        have k6 : S5.Knows ⟨pb, po + e[j + 1] * 1, none⟩ [.int .i64 (plc l.length e[j + 1] : Int)] := by rw [places_getD hx2]; exact (kp _ hx2).less (hS4.trans hS5)
        have hsl : Ord.sl l (plc l.length e[j]) (plc l.length e[j + 1]) = true := by rw [← sl_red l h1 l.length _ _ hx1 hx2 (by omega)]; exact List.pairwise_iff_getElem.1 hso.2 j (j + 1) (by omega) hjl (by omega)
        have hxm1 : e[j]'(by omega) < m := by omega
        have hxm2 : e[j + 1] < m := by omega
        have hp1 := (plc_lt l.length _ hx1).2.2
        have hp2 := (plc_lt l.length _ hx2).2.2
        generalize e[j]'(by omega) = x1 at *
        generalize e[j + 1]'(by omega) = x2 at *
        generalize plc l.length x1 = p1 at *
        generalize plc l.length x2 = p2 at *
        have hpp : p2 < l.length := by rcases Nat.lt_or_ge p2 l.length with h | h; (exact h); (rw [Ord.sl_no l _ _ h] at hsl; cases hsl)
        refine AWP.skip ?_
        refine athen_n ?_
        refine AWP.seq ?_
        refine AWP.draw [(0, true), (1, true), (2, true), (3, true), (4, true), (5, true), (6, true), (7, true), (8, true), (9, true), (10, true), (11, true), (12, true), (13, true), (14, true), (15, true), (16, true)] [] mixed (by kernel_rfl) ?_
        refine dP (hc := fun _ => Calm.move rfl) (h := ?_)
        refine dP (hc := fun _ => Calm.move rfl) (h := ?_)
        refine dP (hc := fun _ => Calm.move rfl) (h := ?_)
        refine dP (hc := fun _ => Calm.bin rfl rfl b_sub_i64) (h := ?_)
        refine dP (hc := fun _ => Calm.indexS Try.underlying24 ty_size_3 rfl rfl (by omega) (by omega)) (h := ?_)
        refine dC (hc := Calm.loadK ty_plain_3 rfl (by rw [show (((j + 1 : Nat) : Int) - 1).toNat = j by omega]; exact k1)) (h := ?_)
        refine dP (hc := fun _ => Calm.indexS Try.underlying24 ty_size_3 rfl rfl (by omega) (by omega)) (h := ?_)
        refine dC (hc := ld_ ty_plain_3 rfl) (h := ?_)
        refine dP (hc := fun _ => Calm.move rfl) (h := ?_)
        refine dP (hc := fun _ => Calm.move rfl) (h := ?_)
        refine dP (hc := fun _ => Calm.move rfl) (h := ?_)
        refine dP (hc := fun _ => Calm.indexS Try.underlying24 ty_size_3 rfl rfl (by omega) (by omega)) (h := ?_)
        refine dC (hc := ld_ ty_plain_3 rfl) (h := ?_)
        refine dP (hc := fun _ => Calm.indexS Try.underlying24 ty_size_3 rfl rfl (by omega) (by omega)) (h := ?_)
        refine dC (hc := ld_ ty_plain_3 rfl) (h := ?_)
        refine dP (hc := fun _ => Calm.assign rfl) (h := ?_)
        refine dP (hc := fun _ => Calm.assign rfl) (h := ?_)
        refine draw_nil ?_
        refine athen_n ?_
        refine AWP.sub [(0, _), (6, _), (8, _), (69, _), (70, _), (71, _), (12, _), (74, _), (13, _), (14, _)] ⟨rfl, rfl, rfl, rfl, rfl, rfl, rfl, rfl, rfl, rfl, trivial⟩ ?_
        by_cases hpa : p1 < l.length
        · obtain ⟨vb, vo, rfl, _⟩ := v3.resolve_left (fun h => by rw [h] at hpa; exact absurd hpa (Nat.not_lt_zero _))
          refine AWP.seq ?_
          refine AWP.draw [(0, true), (1, true), (2, true), (3, true), (4, true), (5, true), (6, true), (7, true), (8, true), (9, true), (10, true), (11, true), (12, true), (13, true), (14, true), (15, true), (16, false), (17, true), (18, true), (19, true)] [] mixed (by kernel_rfl) ?_
          refine dP (hc := fun _ => Calm.move rfl) (h := ?_)
          refine dP (hc := fun _ => Calm.move rfl) (h := ?_)
          refine dC (hc := Calm.lenSl Try.underlying22 rfl) (h := ?_)
          refine dP (hc := fun _ => Calm.bin rfl rfl b_lss) (h := ?_)
          refine dP (hc := fun _ => Calm.move rfl) (h := ?_)
          first | refine dS ?_ | refine dU ?_ | refine dG (hc := fun _ => Calm.move rfl) (h := ?_)
          first | refine dS ?_ | refine dU ?_ | refine dG (hc := fun _ => Calm.move rfl) (h := ?_)
          first | refine dS ?_ | refine dU ?_ | refine dL (hc := Calm.lenSl Try.underlying22 rfl) (h := ?_)
          first | refine dS ?_ | refine dU ?_ | refine dG (hc := fun _ => Calm.bin rfl rfl b_geq) (h := ?_)
          first | refine dS ?_ | refine dU ?_ | refine dG (hc := fun _ => Calm.move rfl) (h := ?_)
          first | refine dS ?_ | refine dU ?_ | refine dG (hc := fun _ => Calm.move rfl) (h := ?_)
          first | refine dS ?_ | refine dU ?_ | refine dG (hc := fun _ => Calm.move rfl) (h := ?_)
          first | refine dS ?_ | refine dU ?_ | refine dG (hc := fun _ => (by first | exact Calm.sliceSl Try.underlying22 ty_size_41 rfl (bnd_none _ _) (by simp) (bnd_none _ _) (bnd_some _ _ rfl (by omega) (by omega)) | exact Calm.sliceNil Try.underlying22 ty_size_41 rfl (bnd_none _ _) (by simp) (bnd_none _ _) (bnd_zero _ _ rfl))) (h := ?_)
          first | refine dS ?_ | refine dU ?_ | refine dG (hc := fun _ => Calm.move rfl) (h := ?_)
          first | refine dS ?_ | refine dU ?_ | refine dG (hc := fun _ => Calm.move rfl) (h := ?_)
          first | refine dS ?_ | refine dU ?_ | refine dG (hc := fun _ => (by first | exact Calm.sliceSl Try.underlying22 ty_size_41 rfl (bnd_none _ _) (by simp) (bnd_none _ _) (bnd_some _ _ rfl (by omega) (by omega)) | exact Calm.sliceNil Try.underlying22 ty_size_41 rfl (bnd_none _ _) (by simp) (bnd_none _ _) (bnd_zero _ _ rfl))) (h := ?_)
          refine draw_only rfl ?_
          refine ARun.callG 9 false 99 rfl (lit_lt rfl) rfl (lit_lt rfl) go_30 rfl (numV_Less (l.drop p1) (l.drop p2) _ _ _ (Sl.drop1 hl p1 (by omega)) (Sl.drop1 hl p2 (by omega))) ?_
          rintro _ S8 ⟨rfl, e1⟩
          rw [e1, show lessB (l.drop p1) (l.drop p2) = true from hsl]; clear e1 S8
          refine arun_nil ⟨fun _ => less_, ?_⟩
          first | refine dS ?_ | refine dU ?_ | refine dG (hc := fun _ => Calm.un rfl (una_not _)) (h := ?_)
          first | refine dS ?_ | refine dU ?_ | refine dG (hc := fun _ => (by first | exact Calm.pickT rfl rfl | exact Calm.pickF rfl rfl)) (h := ?_)
          refine dP (hc := fun _ => (by first | exact Calm.pickT rfl rfl | exact Calm.pickF rfl rfl)) (h := ?_)
          refine draw_nil ?_
          refine athen_n ?_
          refine AWP.sub [(0, _), (6, _), (8, _), (69, _), (70, _), (71, _), (12, _), (74, _), (13, _), (14, _), (109, _)] ⟨rfl, rfl, rfl, rfl, rfl, rfl, rfl, rfl, rfl, rfl, rfl, trivial⟩ ?_
          refine AWP.condF rfl (by first | rfl | (simp; done) | (simp; omega)) ?_
          refine AWP.skip ?_
          refine ain_n ?_
          refine athen_n ?_
          refine AWP.region ?_
          refine rC (Calm.bin rfl rfl b_add_i64) ?_
          refine rC (Calm.move rfl) ?_
          refine arun_nil ?_
          refine athen_n ?_
          refine ⟨j + 2, ?_, ?_, ?_, ?_⟩
          all_goals (try dsimp only)
          · exact ⟨sq_, sq_, sq_, sq_, sq_, trivial⟩
          · exact Mem.Less.refl _
          · exact hi2
          · omega
        · refine AWP.seq ?_
          refine AWP.draw [(0, true), (1, true), (2, true), (3, true), (4, true), (5, true), (6, true), (7, true), (8, true), (9, true), (10, true), (11, true), (12, true), (13, true), (14, true), (15, true), (16, false), (17, true), (18, true), (19, true)] [] mixed (by kernel_rfl) ?_
          refine dP (hc := fun _ => Calm.move rfl) (h := ?_)
          refine dP (hc := fun _ => Calm.move rfl) (h := ?_)
          refine dC (hc := Calm.lenSl Try.underlying22 rfl) (h := ?_)
          refine dP (hc := fun _ => Calm.bin rfl rfl b_lss) (h := ?_)
          refine dP (hc := fun _ => Calm.move rfl) (h := ?_)
          first | refine dS ?_ | refine dU ?_ | refine dG (hc := fun _ => Calm.move rfl) (h := ?_)
          first | refine dS ?_ | refine dU ?_ | refine dG (hc := fun _ => Calm.move rfl) (h := ?_)
          first | refine dS ?_ | refine dU ?_ | refine dL (hc := Calm.lenSl Try.underlying22 rfl) (h := ?_)
          first | refine dS ?_ | refine dU ?_ | refine dG (hc := fun _ => Calm.bin rfl rfl b_geq) (h := ?_)
          first | refine dS ?_ | refine dU ?_ | refine dG (hc := fun _ => Calm.move rfl) (h := ?_)
          first | refine dS ?_ | refine dU ?_ | refine dG (hc := fun _ => Calm.move rfl) (h := ?_)
          first | refine dS ?_ | refine dU ?_ | refine dG (hc := fun _ => Calm.move rfl) (h := ?_)
          first | refine dS ?_ | refine dU ?_ | refine dG (hc := fun _ => (by first | exact Calm.sliceSl Try.underlying22 ty_size_41 rfl (bnd_none _ _) (by simp) (bnd_none _ _) (bnd_some _ _ rfl (by omega) (by omega)) | exact Calm.sliceNil Try.underlying22 ty_size_41 rfl (bnd_none _ _) (by simp) (bnd_none _ _) (bnd_zero _ _ rfl))) (h := ?_)
          first | refine dS ?_ | refine dU ?_ | refine dG (hc := fun _ => Calm.move rfl) (h := ?_)
          first | refine dS ?_ | refine dU ?_ | refine dG (hc := fun _ => Calm.move rfl) (h := ?_)
          first | refine dS ?_ | refine dU ?_ | refine dG (hc := fun _ => (by first | exact Calm.sliceSl Try.underlying22 ty_size_41 rfl (bnd_none _ _) (by simp) (bnd_none _ _) (bnd_some _ _ rfl (by omega) (by omega)) | exact Calm.sliceNil Try.underlying22 ty_size_41 rfl (bnd_none _ _) (by simp) (bnd_none _ _) (bnd_zero _ _ rfl))) (h := ?_)
          refine draw_only rfl ?_
          first | refine rS 99 ?_ | refine rU 99 ?_
          refine arun_nil ⟨fun _ => less_, ?_⟩
          first | refine dS ?_ | refine dU ?_ | refine dG (hc := fun _ => Calm.un rfl (una_not _)) (h := ?_)
          first | refine dS ?_ | refine dU ?_ | refine dG (hc := fun _ => (by first | exact Calm.pickT rfl rfl | exact Calm.pickF rfl rfl)) (h := ?_)
          refine dP (hc := fun _ => (by first | exact Calm.pickT rfl rfl | exact Calm.pickF rfl rfl)) (h := ?_)
          refine draw_nil ?_
          refine athen_n ?_
          refine AWP.sub [(0, _), (6, _), (8, _), (69, _), (70, _), (71, _), (12, _), (74, _), (13, _), (14, _), (109, _)] ⟨rfl, rfl, rfl, rfl, rfl, rfl, rfl, rfl, rfl, rfl, rfl, trivial⟩ ?_
          refine AWP.condF rfl (by first | rfl | (simp; done) | (simp; omega)) ?_
          refine AWP.skip ?_
          refine ain_n ?_
          refine athen_n ?_
          refine AWP.region ?_
          refine rC (Calm.bin rfl rfl b_add_i64) ?_
          refine rC (Calm.move rfl) ?_
          refine arun_nil ?_
          refine athen_n ?_
          refine ⟨j + 2, ?_, ?_, ?_, ?_⟩
          all_goals (try dsimp only)
          · exact ⟨sq_, sq_, sq_, sq_, sq_, trivial⟩
          · exact Mem.Less.refl _
          · exact hi2
          · omega
    · refine AWP.seq ?_
      refine AWP.region ?_
      refine rC (Calm.bin rfl rfl b_lss) ?_
      refine arun_nil ?_
      refine athen_n ?_
      refine AWP.seq ?_
      refine AWP.condF rfl (by first | rfl | (simp; done) | (simp; omega)) ?_
      refine AWP.exit ?_
      refine athen_exit ?_
      refine athen_exit ?_
      refine ain_same ?_
      refine athen_n ?_
      refine AWP.seq ?_
      refine AWP.region ?_
      refine rC (Calm.assign rfl) ?_
      refine arun_nil ?_
      refine athen_n ?_
      refine AWP.ret ?_
      refine ⟨_, _, ⟨_, _, rfl, rfl, rfl⟩, less_, ?_⟩
      rfl
  · have er : redP l = [] := if_neg hc
    have es : smpL l = [] := if_neg hc
    have e1 := chk_no hc
    refine ACall.enter (args := [.slice a l.length cap]) (rs := [.tmp 2]) 111 [(0, .slice a l.length cap)] Try.func13 rfl rfl (Nat.le_of_ble_eq_true rfl) rfl ⟨rfl, trivial⟩ ?_
    refine AWP.seq ?_
    refine AWP.region ?_
    refine rC (Calm.assign rfl) ?_
    refine arun_nil ?_
    refine athen_n ?_
    refine AWP.seq ?_
    refine AWP.seq ?_
    refine AWP.region ?_
    refine ARun.call (lit_lt rfl) go_14 rfl (sk_lives _) ?_
    rintro _ S8 ⟨rfl, e2⟩
    rw [e2]; clear e2 S8
    refine rC (Calm.un rfl (una_not _)) ?_
    refine arun_nil ?_
    refine athen_n ?_
    refine AWP.sub [(0, _), (2, _), (16, _)] ⟨rfl, rfl, rfl, trivial⟩ ?_
    refine AWP.condF rfl (by first | rfl | (simp; done) | (simp; omega)) ?_
    refine AWP.skip ?_
    refine athen_n ?_
    refine AWP.seq ?_
    refine AWP.seq ?_
    refine AWP.region ?_
    refine rC (Calm.move rfl) ?_
    refine rC (Calm.lenSl Try.underlying22 rfl) ?_
    refine rC (Calm.bin rfl rfl b_gtr) ?_
    refine arun_nil ?_
    refine athen_n ?_
    refine AWP.sub [(0, _), (2, _), (16, _), (19, _)] ⟨rfl, rfl, rfl, rfl, trivial⟩ ?_
    refine AWP.condF rfl (by first | rfl | (simp; done) | (simp; omega)) ?_
    refine AWP.skip ?_
    refine athen_n ?_
    refine AWP.seq ?_
    refine AWP.region ?_
    refine rC (Calm.move rfl) ?_
    refine ARun.call (lit_lt rfl) go_19 rfl (sk_Reduce _ l _ hl) ?_
    rintro _ S2 ⟨u2, rfl, hS2, hu2⟩
    rw [er] at hu2; rw [e1]
    obtain ⟨a2, c2, rfl, _⟩ := id hu2
    refine rC (Calm.move rfl) ?_
    refine rC (Calm.extract rfl rfl) ?_
    refine rC (Calm.extract rfl rfl) ?_
    refine rC (Calm.extract rfl rfl) ?_
    refine rC (Calm.assign rfl) ?_
    refine rC (Calm.assign rfl) ?_
    refine rC (Calm.assign rfl) ?_
    refine arun_nil ?_
    refine athen_n ?_
    refine AWP.sub [(0, _), (2, _), (16, _), (19, _), (3, _), (5, _)] ⟨rfl, rfl, rfl, rfl, rfl, rfl, trivial⟩ ?_
    refine AWP.seq ?_
    refine AWP.region ?_
    refine rC (Calm.move rfl) ?_
    refine ARun.call (lit_lt rfl) go_15 rfl (sk_Samples _ l _ (hl.less hS2)) ?_
    rintro _ S3 ⟨u3, rfl, hS3, hu3⟩
    rw [es] at hu3; rw [e1]
    obtain ⟨a3, c3, rfl, _⟩ := id hu3
    rw [show ([] : List Nat).length = 0 from rfl]
    refine rC (Calm.move rfl) ?_
    refine rC (Calm.extract rfl rfl) ?_
    refine rC (Calm.extract rfl rfl) ?_
    refine rC (Calm.assign rfl) ?_
    refine rC (Calm.assign rfl) ?_
    refine arun_nil ?_
    refine athen_n ?_
    refine AWP.sub [(0, _), (2, _), (16, _), (19, _), (3, _), (5, _), (6, _), (7, _)] ⟨rfl, rfl, rfl, rfl, rfl, rfl, rfl, rfl, trivial⟩ ?_
    refine AWP.seq ?_
    refine AWP.seq ?_
    refine AWP.region ?_
    refine rC (Calm.move rfl) ?_
    refine rC (Calm.bin rfl rfl b_neq) ?_
    refine rC (Calm.move rfl) ?_
    first | refine rS 33 ?_ | refine rU 33 ?_ | refine rG 33 (Calm.move rfl) ?_
    first | refine rS 33 ?_ | refine rU 33 ?_ | refine rG 33 (Calm.bin rfl rfl b_neq) ?_
    refine rC ((by first | exact Calm.pickT rfl rfl | exact Calm.pickF rfl rfl)) ?_
    refine arun_nil ?_
    refine athen_n ?_
    refine AWP.sub [(0, _), (2, _), (16, _), (19, _), (3, _), (5, _), (6, _), (7, _), (36, _)] ⟨rfl, rfl, rfl, rfl, rfl, rfl, rfl, rfl, rfl, trivial⟩ ?_
    refine AWP.condT rfl (by first | rfl | (simp; done) | (simp; omega)) ?_
    refine AWP.seq ?_
    refine AWP.region ?_
    refine rC (Calm.move rfl) ?_
    refine rC (Calm.lenSl Try.underlying22 rfl) ?_
    refine rC (Calm.bin rfl rfl b_eql) ?_
    refine rC (Calm.move rfl) ?_
    first | refine rS 40 ?_ | refine rU 40 ?_ | refine rG 40 (Calm.move rfl) ?_
    first | refine rS 40 ?_ | refine rU 40 ?_ | refine rG 40 (Calm.lenSl Try.underlying24 rfl) ?_
    first | refine rS 40 ?_ | refine rU 40 ?_ | refine rG 40 (Calm.bin rfl rfl b_eql) ?_
    refine rC ((by first | exact Calm.pickT rfl rfl | exact Calm.pickF rfl rfl)) ?_
    refine rC (Calm.assign rfl) ?_
    refine arun_nil ?_
    refine athen_n ?_
    refine AWP.sub [(0, _), (2, _), (16, _), (19, _), (3, _), (5, _), (6, _), (7, _), (36, _)] ⟨rfl, rfl, rfl, rfl, rfl, rfl, rfl, rfl, rfl, trivial⟩ ?_
    refine AWP.ret ?_
    refine athen_ret ?_
    refine ⟨_, _, ⟨_, _, rfl, rfl, rfl⟩, less_, ?_⟩
    rfl
theorem walk_SkewSamples (p : Option Addr) (n c : Nat) (l : List Nat) (w : World) (w0 : Sl 1 (fun x : Nat => [.int .u64 (x : Int)]) (roM w) (.slice p n c) l) (wb : ∀ x ∈ l, x < 18446744073709551616) (zl : l.length ≤ 17592186043904) :
    Calls Try.prog 13 #[.slice p n c] w fun e w' => e = .returned (.bool true) ∧ Below w.heap.size w w' :=
  ACall.callsW (law_SkewSamples _ l _ w0)
end Go.Proofs.Ytgidjbpgkeemiaa
