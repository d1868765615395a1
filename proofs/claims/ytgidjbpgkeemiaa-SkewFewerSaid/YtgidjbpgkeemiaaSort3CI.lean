/-
  Sorting: the walk of slices.pdqsortCmpFunc[int], and of what calls it, printed by sort-gen.py.
-/
import Derived.Test.YtgidjbpgkeemiaaSort2CI
namespace Go.Proofs.Ytgidjbpgkeemiaa
open Go.RowKit
open Mv Srt
open Go.Sort (swp insInner insOuter insertionSort siftDown heapBuild heapPop heapSort scanUp scanDown partLoop partition partEqLoop partitionEqual scanSorted shiftDown shiftUp partialIns partialInsertionSort order2 median medianAdjacent choosePivot reverseLoop reverseRange breakStep breakPatterns pdq bitsLen xorNext Hint)
set_option linter.unusedVariables false
set_option linter.unusedSimpArgs false
set_option maxRecDepth 4000
set_option maxHeartbeats 8000000 in
theorem soC_pdq {α : Type} [Inhabited α] {enc : α → Value} {cf : α → α → Int} {okP : α → Prop} {g : Nat} {cb : List Value} {S : Mem} (C : CmpC Try.prog enc cf okP g cb S) (b room n cap : Nat) (hb : Fresh S b) (hn : n ≤ 1048576) : ∀ (m : Nat) (d : Array α) (R : Rw okP n d) (ia ie il : Int) (a e limit : Nat), ia = a → ie = e → il = limit → a ≤ e → e ≤ n → limit ≤ 1000 → e - a = m →
    ACall Try.prog 136 #[.slice (some ⟨b, 0, none⟩) n cap, .int .i64 ia, .int .i64 ie, .int .i64 il, .func (.func g) #[] cb.toArray] (S.set b ⟨3, (d).toList.map enc, room⟩) fun r S' => S' = S.set b ⟨3, (pdq (lq cf) d a e limit true true).toList.map enc, room⟩ ∧ Rw okP n (pdq (lq cf) d a e limit true true) := by
  intro m
  induction m using Nat.strongRecOn with
  | _ m ih =>
  intro d R ia ie il a e limit ha he hl hae hen hlim hm
  subst ha he hl
  refine ACall.enter (args := [.slice (some ⟨b, 0, none⟩) n cap, .int .i64 a, .int .i64 e, .int .i64 limit, .func (.func g) #[] cb.toArray]) (rs := []) 148 [(0, .slice (some ⟨b, 0, none⟩) n cap), (1, .int .i64 a), (2, .int .i64 e), (3, .int .i64 limit), (4, .func (.func g) #[] cb.toArray)] Try.func136 rfl rfl (Nat.le_of_ble_eq_true rfl) rfl ⟨rfl, rfl, rfl, rfl, rfl, trivial⟩ ?_
  refine AWP.seq ?_
  refine AWP.region ?_
  refine rC (Calm.assign rfl) ?_
  refine arun_nil ?_
  refine athen_n ?_
  refine AWP.seq ?_
  refine AWP.region ?_
  refine rC (Calm.assign rfl) ?_
  refine arun_nil ?_
  refine athen_n ?_
  refine AWP.block ?_
  refine AWP.loop (X := Nat × Nat × Nat × Bool × Bool × Array α) (fun x => [(0, .slice (some ⟨b, 0, none⟩) n cap), (1, .int .i64 x.1), (2, .int .i64 x.2.1), (3, .int .i64 x.2.2.1), (4, .func (.func g) #[] cb.toArray), (10, .bool x.2.2.2.1), (11, .bool x.2.2.2.2.1)]) (fun x => S.set b ⟨3, (x.2.2.2.2.2).toList.map enc, room⟩) (fun x => x.1 ≤ x.2.1 ∧ x.2.1 ≤ e ∧ Rw okP n x.2.2.2.2.2 ∧ x.2.1 - x.1 ≤ m ∧ x.2.2.1 ≤ limit ∧ pdq (lq cf) x.2.2.2.2.2 x.1 x.2.1 x.2.2.1 x.2.2.2.1 x.2.2.2.2.1 = pdq (lq cf) d a e limit true true) (fun x => x.2.1 - x.1) ((a, e, limit, true, true, d)) ⟨sb_, sb_, sb_, sb_, sb_, sb_, sb_, trivial⟩ (Mem.Less.refl _) (⟨hae, Nat.le_refl _, R, by dsimp only; omega, Nat.le_refl _, rfl⟩) ?_
  rintro ⟨a1, e1, l1, w1, w2, d0⟩ ⟨h1, h2, R0, h4, h5, hq⟩
  (try dsimp only at *)
  have z0 := R0.size
  by_cases h12 : e1 - a1 ≤ 12
  · refine AWP.block ?_
    refine AWP.seq ?_
    refine AWP.region ?_
    refine rC (Calm.move rfl) ?_
    refine rC (Calm.move rfl) ?_
    refine rC (Calm.bin rfl rfl b_sub_i64) ?_
    refine rC (Calm.assign rfl) ?_
    refine arun_nil ?_
    refine athen_n ?_
    refine AWP.sub [(0, _), (1, _), (2, _), (3, _), (4, _), (10, _), (11, _), (12, _)] ⟨rfl, rfl, rfl, rfl, rfl, rfl, rfl, rfl, trivial⟩ ?_
    refine AWP.seq ?_
    refine AWP.seq ?_
    refine AWP.region ?_
    refine rC (Calm.move rfl) ?_
    refine rC (Calm.bin rfl rfl b_leq) ?_
    refine arun_nil ?_
    refine athen_n ?_
    refine AWP.sub [(0, _), (1, _), (2, _), (3, _), (4, _), (10, _), (11, _), (12, _), (25, _)] ⟨rfl, rfl, rfl, rfl, rfl, rfl, rfl, rfl, rfl, trivial⟩ ?_
    refine AWP.condT rfl (by first | rfl | (simp; done) | (simp; omega)) ?_
    refine AWP.seq ?_
    refine AWP.region ?_
    refine rC (Calm.move rfl) ?_
    refine rC (Calm.move rfl) ?_
    refine rC (Calm.move rfl) ?_
    refine rC (Calm.move rfl) ?_
    refine ARun.call (lit_lt rfl) go_167 rfl (soC_ins C b room n cap hb hn d0 R0 _ _ a1 e1 rfl rfl (by omega) (by omega)) ?_
    rintro _ _ ⟨rfl, R1⟩
    refine arun_nil ?_
    refine athen_n ?_
    refine AWP.sub [(0, _), (1, _), (2, _), (3, _), (4, _), (10, _), (11, _), (12, _), (25, _)] ⟨rfl, rfl, rfl, rfl, rfl, rfl, rfl, rfl, rfl, trivial⟩ ?_
    refine AWP.ret ?_
    refine athen_ret ?_
    refine ain_ret ?_
    refine athen_ret ?_
    refine ain_ret ?_
    refine ⟨_, _, rfl, Mem.Less.refl _, ?_⟩
    rw [← hq, pdq_ins (lq cf) h12]; exact ⟨rfl, R1⟩
  · refine AWP.block ?_
    refine AWP.seq ?_
    refine AWP.region ?_
    refine rC (Calm.move rfl) ?_
    refine rC (Calm.move rfl) ?_
    refine rC (Calm.bin rfl rfl b_sub_i64) ?_
    refine rC (Calm.assign rfl) ?_
    refine arun_nil ?_
    refine athen_n ?_
    refine AWP.sub [(0, _), (1, _), (2, _), (3, _), (4, _), (10, _), (11, _), (12, _)] ⟨rfl, rfl, rfl, rfl, rfl, rfl, rfl, rfl, trivial⟩ ?_
    refine AWP.seq ?_
    refine AWP.seq ?_
    refine AWP.region ?_
    refine rC (Calm.move rfl) ?_
    refine rC (Calm.bin rfl rfl b_leq) ?_
    refine arun_nil ?_
    refine athen_n ?_
    refine AWP.sub [(0, _), (1, _), (2, _), (3, _), (4, _), (10, _), (11, _), (12, _), (25, _)] ⟨rfl, rfl, rfl, rfl, rfl, rfl, rfl, rfl, rfl, trivial⟩ ?_
    refine AWP.condF rfl (by first | rfl | (simp; done) | (simp; omega)) ?_
    by_cases hl0 : l1 = 0
    · refine AWP.skip ?_
      refine athen_n ?_
      refine AWP.seq ?_
      refine AWP.seq ?_
      refine AWP.region ?_
      refine rC (Calm.move rfl) ?_
      refine rC (Calm.bin rfl rfl b_eql) ?_
      refine arun_nil ?_
      refine athen_n ?_
      refine AWP.sub [(0, _), (1, _), (2, _), (3, _), (4, _), (10, _), (11, _), (12, _), (25, _), (32, _)] ⟨rfl, rfl, rfl, rfl, rfl, rfl, rfl, rfl, rfl, rfl, trivial⟩ ?_
      refine AWP.condT rfl (by first | rfl | (simp; done) | (simp; omega)) ?_
      refine AWP.seq ?_
      refine AWP.region ?_
      refine rC (Calm.move rfl) ?_
      refine rC (Calm.move rfl) ?_
      refine rC (Calm.move rfl) ?_
      refine rC (Calm.move rfl) ?_
      refine ARun.call (lit_lt rfl) go_168 rfl (soC_heap C b room n cap hb hn d0 R0 _ _ a1 e1 rfl rfl (by omega) (by omega)) ?_
      rintro _ _ ⟨rfl, R1⟩
      refine arun_nil ?_
      refine athen_n ?_
      refine AWP.sub [(0, _), (1, _), (2, _), (3, _), (4, _), (10, _), (11, _), (12, _), (25, _), (32, _)] ⟨rfl, rfl, rfl, rfl, rfl, rfl, rfl, rfl, rfl, rfl, trivial⟩ ?_
      refine AWP.ret ?_
      refine athen_ret ?_
      refine ain_ret ?_
      refine athen_ret ?_
      refine ain_ret ?_
      refine ⟨_, _, rfl, Mem.Less.refl _, ?_⟩
      rw [← hq, pdq_heap (lq cf) h12 hl0]; exact ⟨rfl, R1⟩
    · refine AWP.skip ?_
      refine athen_n ?_
      refine AWP.seq ?_
      refine AWP.seq ?_
      refine AWP.region ?_
      refine rC (Calm.move rfl) ?_
      refine rC (Calm.bin rfl rfl b_eql) ?_
      refine arun_nil ?_
      refine athen_n ?_
      refine AWP.sub [(0, _), (1, _), (2, _), (3, _), (4, _), (10, _), (11, _), (12, _), (25, _), (32, _)] ⟨rfl, rfl, rfl, rfl, rfl, rfl, rfl, rfl, rfl, rfl, trivial⟩ ?_
      refine AWP.condF rfl (by first | rfl | (simp; done) | (simp; omega)) ?_
      rw [pdq_1 (lq cf) h12 hl0] at hq
      refine AWP.skip ?_
      refine athen_n ?_
      refine AWP.seq ?_
      refine AWP.seq ?_
      refine AWP.region ?_
      refine rC (Calm.move rfl) ?_
      refine rC (Calm.un rfl (una_not _)) ?_
      refine arun_nil ?_
      refine athen_n ?_
      refine AWP.sub [(0, _), (1, _), (2, _), (3, _), (4, _), (10, _), (11, _), (12, _), (25, _), (32, _), (39, _)] ⟨rfl, rfl, rfl, rfl, rfl, rfl, rfl, rfl, rfl, rfl, rfl, trivial⟩ ?_
      refine AWP.join (X := Nat × Array α) (fun x => [(0, .slice (some ⟨b, 0, none⟩) n cap), (1, .int .i64 a1), (2, .int .i64 e1), (3, .int .i64 x.1), (4, .func (.func g) #[] cb.toArray), (10, .bool w1), (11, .bool w2), (12, .int .i64 ((e1 - a1 : Nat) : Int))]) (fun x => S.set b ⟨3, (x.2).toList.map enc, room⟩) (fun x => x.1 ≤ l1 ∧ Rw okP n x.2 ∧ pdq1 (lq cf) x.2 a1 e1 x.1 w1 w2 = pdq (lq cf) d a e limit true true) ?_ ?_
      · cases w1
        · refine AWP.condT rfl (by first | rfl | (simp; done) | (simp; omega)) ?_
          refine AWP.seq ?_
          refine AWP.region ?_
          refine rC (Calm.move rfl) ?_
          refine rC (Calm.move rfl) ?_
          refine rC (Calm.move rfl) ?_
          refine rC (Calm.move rfl) ?_
          refine ARun.call (lit_lt rfl) go_169 rfl (soC_brk C b room n cap hb hn d0 R0 _ _ a1 e1 rfl rfl (by omega) (by omega)) ?_
          rintro _ _ ⟨rfl, R1⟩
          refine arun_nil ?_
          refine athen_n ?_
          refine AWP.sub [(0, _), (1, _), (2, _), (3, _), (4, _), (10, _), (11, _), (12, _), (25, _), (32, _), (39, _)] ⟨rfl, rfl, rfl, rfl, rfl, rfl, rfl, rfl, rfl, rfl, rfl, trivial⟩ ?_
          refine AWP.region ?_
          refine rC (Calm.move rfl) ?_
          refine rC (Calm.bin rfl rfl b_sub_i64) ?_
          refine rC (Calm.assign rfl) ?_
          refine arun_nil ?_
          refine ⟨(l1 - 1, breakPatterns d0 a1 e1), ?_, ?_, ?_⟩
          all_goals (try dsimp only)
          · exact ⟨by omega, R1, hq⟩
          · exact ⟨sb_, sb_, sb_, sb_, sb_, sb_, sb_, sb_, trivial⟩
          · exact Mem.Less.refl _
        · refine AWP.condF rfl (by first | rfl | (simp; done) | (simp; omega)) ?_
          refine AWP.skip ?_
          refine ⟨(l1, d0), ?_, ?_, ?_⟩
          all_goals (try dsimp only)
          · exact ⟨Nat.le_refl _, R0, hq⟩
          · exact ⟨sb_, sb_, sb_, sb_, sb_, sb_, sb_, sb_, trivial⟩
          · exact Mem.Less.refl _
      rintro ⟨l2, d1⟩ ⟨k1, R1, hq⟩
      intro _ _ hs_ hl_
      (try dsimp only at *)
      refine athen_n ?_
      refine AWP.sub _ hs_ (AWP.less _ hl_ ?_)
      clear hs_ hl_
      have z1 := R1.size
      obtain ⟨⟨p0, ht⟩, hpc⟩ : ∃ q, q = choosePivot (lq cf) d1 a1 e1 := ⟨_, rfl⟩
      refine AWP.seq ?_
      refine AWP.region ?_
      refine rC (Calm.move rfl) ?_
      refine rC (Calm.move rfl) ?_
      refine rC (Calm.move rfl) ?_
      refine rC (Calm.move rfl) ?_
      refine ARun.call (lit_lt rfl) go_170 rfl ((hpc ▸ soC_pivot C b room n cap hb hn d1 R1 _ _ a1 e1 rfl rfl (by omega) (by omega))) ?_
      rintro _ _ ⟨rfl, rfl, g1, g2⟩
      dsimp only at g1 g2
      rw [pdq1, ← hpc] at hq
      dsimp only at hq
      refine rC (Calm.move rfl) ?_
      refine rC (Calm.extract rfl rfl) ?_
      refine rC (Calm.extract rfl rfl) ?_
      refine rC (Calm.assign rfl) ?_
      refine rC (Calm.assign rfl) ?_
      refine arun_nil ?_
      refine athen_n ?_
      refine AWP.sub [(0, _), (1, _), (2, _), (3, _), (4, _), (10, _), (11, _), (12, _), (13, _), (14, _)] ⟨rfl, rfl, rfl, rfl, rfl, rfl, rfl, rfl, rfl, rfl, trivial⟩ ?_
      refine AWP.seq ?_
      refine AWP.seq ?_
      refine AWP.region ?_
      refine rC (Calm.move rfl) ?_
      refine rC (Calm.bin rfl rfl b_eql) ?_
      refine arun_nil ?_
      refine athen_n ?_
      refine AWP.sub [(0, _), (1, _), (2, _), (3, _), (4, _), (10, _), (11, _), (12, _), (13, _), (14, _), (56, _)] ⟨rfl, rfl, rfl, rfl, rfl, rfl, rfl, rfl, rfl, rfl, rfl, trivial⟩ ?_
      refine AWP.join (X := Nat × Hint × Array α) (fun x => [(0, .slice (some ⟨b, 0, none⟩) n cap), (1, .int .i64 a1), (2, .int .i64 e1), (3, .int .i64 l2), (4, .func (.func g) #[] cb.toArray), (10, .bool w1), (11, .bool w2), (12, .int .i64 ((e1 - a1 : Nat) : Int)), (13, .int .i64 x.1), (14, .int .i64 (hintI x.2.1))]) (fun x => S.set b ⟨3, (x.2.2).toList.map enc, room⟩) (fun x => a1 ≤ x.1 ∧ x.1 < e1 ∧ Rw okP n x.2.2 ∧ pdq2 (lq cf) x.2.2 a1 e1 l2 w1 w2 x.1 x.2.1 = pdq (lq cf) d a e limit true true) ?_ ?_
      · by_cases hde : ht = .decreasing
        · subst hde
          refine AWP.condT rfl (by first | rfl | (simp; done) | (simp; omega)) ?_
          refine AWP.seq ?_
          refine AWP.region ?_
          refine rC (Calm.move rfl) ?_
          refine rC (Calm.move rfl) ?_
          refine rC (Calm.move rfl) ?_
          refine rC (Calm.move rfl) ?_
          refine ARun.call (lit_lt rfl) go_171 rfl (soC_rev C b room n cap hb hn d1 R1 _ _ a1 e1 rfl rfl (by omega) (by omega)) ?_
          rintro _ _ ⟨rfl, R2⟩
          refine arun_nil ?_
          refine athen_n ?_
          refine AWP.sub [(0, _), (1, _), (2, _), (3, _), (4, _), (10, _), (11, _), (12, _), (13, _), (14, _), (56, _)] ⟨rfl, rfl, rfl, rfl, rfl, rfl, rfl, rfl, rfl, rfl, rfl, trivial⟩ ?_
          refine AWP.seq ?_
          refine AWP.region ?_
          refine rC (Calm.move rfl) ?_
          refine rC (Calm.bin rfl rfl b_sub_i64) ?_
          refine rC (Calm.move rfl) ?_
          refine rC (Calm.move rfl) ?_
          refine rC (Calm.bin rfl rfl b_sub_i64) ?_
          refine rC (Calm.bin rfl rfl b_sub_i64) ?_
          refine rC (Calm.assign rfl) ?_
          refine arun_nil ?_
          refine athen_n ?_
          refine AWP.sub [(0, _), (1, _), (2, _), (3, _), (4, _), (10, _), (11, _), (12, _), (13, _), (14, _), (56, _)] ⟨rfl, rfl, rfl, rfl, rfl, rfl, rfl, rfl, rfl, rfl, rfl, trivial⟩ ?_
          refine AWP.region ?_
          refine rC (Calm.assign rfl) ?_
          refine arun_nil ?_
          refine ⟨(e1 - 1 - (p0 - a1), .increasing, reverseRange d1 a1 e1), ?_, ?_, ?_⟩
          all_goals (try dsimp only)
          · exact ⟨by omega, by omega, R2, by rw [if_pos rfl] at hq; exact hq⟩
          · exact ⟨sb_, sb_, sb_, sb_, sb_, sb_, sb_, sb_, sb_, sb_, trivial⟩
          · exact Mem.Less.refl _
        · have hni := hint_ne hde
          refine AWP.condF rfl (by first | rfl | (simp; done) | (simp; omega)) ?_
          refine AWP.skip ?_
          refine ⟨(p0, ht, d1), ?_, ?_, ?_⟩
          all_goals (try dsimp only)
          · exact ⟨g1, g2, R1, by rw [if_neg hde] at hq; exact hq⟩
          · exact ⟨sb_, sb_, sb_, sb_, sb_, sb_, sb_, sb_, sb_, sb_, trivial⟩
          · exact Mem.Less.refl _
      rintro ⟨pv, hi, d2⟩ ⟨g1, g2, R2, hq⟩
      intro _ _ hs_ hl_
      (try dsimp only at *)
      refine athen_n ?_
      refine AWP.sub _ hs_ (AWP.less _ hl_ ?_)
      clear hs_ hl_
      have z2 := R2.size
      have hh1 := hint_1 hi
      refine AWP.seq ?_
      refine AWP.seq ?_
      refine AWP.join (X := Bool) (fun x => [(0, .slice (some ⟨b, 0, none⟩) n cap), (1, .int .i64 a1), (2, .int .i64 e1), (3, .int .i64 l2), (4, .func (.func g) #[] cb.toArray), (10, .bool w1), (11, .bool w2), (12, .int .i64 ((e1 - a1 : Nat) : Int)), (13, .int .i64 pv), (75, .bool x)]) (fun x => S.set b ⟨3, (d2).toList.map enc, room⟩) (fun x => x = (w1 && w2 && decide (hi = .increasing))) ?_ ?_
      · cases w1
        · refine AWP.region ?_
          refine rC (Calm.move rfl) ?_
          refine rC (Calm.move rfl) ?_
          first | refine rS 69 ?_ | refine rU 69 ?_ | refine rG 69 (Calm.move rfl) ?_
          refine rC ((by first | exact Calm.pickT rfl rfl | exact Calm.pickF rfl rfl)) ?_
          refine rC (Calm.move rfl) ?_
          first | refine rS 72 ?_ | refine rU 72 ?_ | refine rG 72 (Calm.move rfl) ?_
          first | refine rS 72 ?_ | refine rU 72 ?_ | refine rG 72 (Calm.bin rfl rfl b_eql) ?_
          refine rC ((by first | exact Calm.pickT rfl rfl | exact Calm.pickF rfl rfl)) ?_
          refine arun_nil ?_
          refine ⟨false, ?_, ?_, ?_⟩
          all_goals (try dsimp only)
          · rfl
          · exact ⟨sb_, sb_, sb_, sb_, sb_, sb_, sb_, sb_, sb_, sb_, trivial⟩
          · exact Mem.Less.refl _
        · cases w2
          · refine AWP.region ?_
            refine rC (Calm.move rfl) ?_
            refine rC (Calm.move rfl) ?_
            first | refine rS 69 ?_ | refine rU 69 ?_ | refine rG 69 (Calm.move rfl) ?_
            refine rC ((by first | exact Calm.pickT rfl rfl | exact Calm.pickF rfl rfl)) ?_
            refine rC (Calm.move rfl) ?_
            first | refine rS 72 ?_ | refine rU 72 ?_ | refine rG 72 (Calm.move rfl) ?_
            first | refine rS 72 ?_ | refine rU 72 ?_ | refine rG 72 (Calm.bin rfl rfl b_eql) ?_
            refine rC ((by first | exact Calm.pickT rfl rfl | exact Calm.pickF rfl rfl)) ?_
            refine arun_nil ?_
            refine ⟨false, ?_, ?_, ?_⟩
            all_goals (try dsimp only)
            · rfl
            · exact ⟨sb_, sb_, sb_, sb_, sb_, sb_, sb_, sb_, sb_, sb_, trivial⟩
            · exact Mem.Less.refl _
          · refine AWP.region ?_
            refine rC (Calm.move rfl) ?_
            refine rC (Calm.move rfl) ?_
            first | refine rS 69 ?_ | refine rU 69 ?_ | refine rG 69 (Calm.move rfl) ?_
            refine rC ((by first | exact Calm.pickT rfl rfl | exact Calm.pickF rfl rfl)) ?_
            refine rC (Calm.move rfl) ?_
            first | refine rS 72 ?_ | refine rU 72 ?_ | refine rG 72 (Calm.move rfl) ?_
            first | refine rS 72 ?_ | refine rU 72 ?_ | refine rG 72 (Calm.bin rfl rfl (bin_bool (bin_eql _ _) hh1)) ?_
            refine rC ((by first | exact Calm.pickT rfl rfl | exact Calm.pickF rfl rfl)) ?_
            refine arun_nil ?_
            refine ⟨(decide (hi = .increasing)), ?_, ?_, ?_⟩
            all_goals (try dsimp only)
            · simp
            · exact ⟨sb_, sb_, sb_, sb_, sb_, sb_, sb_, sb_, sb_, sb_, trivial⟩
            · exact Mem.Less.refl _
      rintro x hx
      intro _ _ hs_ hl_
      (try dsimp only at *)
      refine athen_n ?_
      refine AWP.sub _ hs_ (AWP.less _ hl_ ?_)
      clear hs_ hl_
      rw [pdq2, ← hx] at hq
      refine AWP.join (X := Array α) (fun x => [(0, .slice (some ⟨b, 0, none⟩) n cap), (1, .int .i64 a1), (2, .int .i64 e1), (3, .int .i64 l2), (4, .func (.func g) #[] cb.toArray), (10, .bool w1), (11, .bool w2), (12, .int .i64 ((e1 - a1 : Nat) : Int)), (13, .int .i64 pv)]) (fun x => S.set b ⟨3, (x).toList.map enc, room⟩) (fun x => Rw okP n x ∧ pdq3 (lq cf) x a1 e1 l2 w1 w2 pv = pdq (lq cf) d a e limit true true) ?_ ?_
      · cases x
        · refine AWP.condF rfl (by first | rfl | (simp; done) | (simp; omega)) ?_
          refine AWP.skip ?_
          refine ⟨d2, ?_, ?_, ?_⟩
          all_goals (try dsimp only)
          · exact ⟨R2, hq⟩
          · exact ⟨sb_, sb_, sb_, sb_, sb_, sb_, sb_, sb_, sb_, trivial⟩
          · exact Mem.Less.refl _
        · refine AWP.condT rfl (by first | rfl | (simp; done) | (simp; omega)) ?_
          obtain ⟨⟨d3, pb⟩, hp3⟩ : ∃ q, q = partialInsertionSort (lq cf) d2 a1 e1 := ⟨_, rfl⟩
          rw [if_pos rfl, ← hp3] at hq
          dsimp only at hq
          refine AWP.seq ?_
          refine AWP.region ?_
          refine rC (Calm.move rfl) ?_
          refine rC (Calm.move rfl) ?_
          refine rC (Calm.move rfl) ?_
          refine rC (Calm.move rfl) ?_
          refine ARun.call (lit_lt rfl) go_172 rfl ((hp3 ▸ soC_pins C b room n cap hb hn d2 R2 _ _ a1 e1 rfl rfl (by omega) (by omega))) ?_
          rintro _ _ ⟨rfl, rfl, R3⟩
          refine arun_nil ?_
          refine athen_n ?_
          refine AWP.sub [(0, _), (1, _), (2, _), (3, _), (4, _), (10, _), (11, _), (12, _), (13, _), (75, _), (80, _)] ⟨rfl, rfl, rfl, rfl, rfl, rfl, rfl, rfl, rfl, rfl, rfl, trivial⟩ ?_
          cases pb
          · refine AWP.condF rfl (by first | rfl | (simp; done) | (simp; omega)) ?_
            refine AWP.skip ?_
            refine ⟨d3, ?_, ?_, ?_⟩
            all_goals (try dsimp only)
            · exact ⟨R3, hq⟩
            · exact ⟨sb_, sb_, sb_, sb_, sb_, sb_, sb_, sb_, sb_, trivial⟩
            · exact Mem.Less.refl _
          · refine AWP.condT rfl (by first | rfl | (simp; done) | (simp; omega)) ?_
            refine AWP.ret ?_
            refine join_ret ?_
            refine athen_ret ?_
            refine ain_ret ?_
            refine athen_ret ?_
            refine ain_ret ?_
            refine ⟨_, _, rfl, Mem.Less.refl _, ?_⟩
            rw [← hq]; exact ⟨rfl, R3⟩
      rintro d3 ⟨R3, hq⟩
      intro _ _ hs_ hl_
      (try dsimp only at *)
      refine athen_n ?_
      refine AWP.sub _ hs_ (AWP.less _ hl_ ?_)
      clear hs_ hl_
      clear hx
      have z3 := R3.size
      refine AWP.seq ?_
      refine AWP.seq ?_
      refine AWP.join (X := Bool) (fun x => [(0, .slice (some ⟨b, 0, none⟩) n cap), (1, .int .i64 a1), (2, .int .i64 e1), (3, .int .i64 l2), (4, .func (.func g) #[] cb.toArray), (10, .bool w1), (11, .bool w2), (12, .int .i64 ((e1 - a1 : Nat) : Int)), (13, .int .i64 pv), (97, .bool x)]) (fun x => S.set b ⟨3, (d3).toList.map enc, room⟩) (fun x => x = (decide (a1 > 0) && !(lq cf) d3[a1 - 1]! d3[pv]!)) ?_ ?_
      · by_cases h0 : 0 < a1
        · refine AWP.draw [(0, true), (1, true), (2, true), (3, true), (4, true), (5, true), (6, true), (7, true), (8, true), (9, true), (10, true), (11, true), (12, true), (13, false), (14, true), (15, true), (16, true)] [] mixed (by kernel_rfl) ?_
          refine dP (hc := fun _ => Calm.move rfl) (h := ?_)
          refine dP (hc := fun _ => Calm.bin rfl rfl b_gtr) (h := ?_)
          refine dP (hc := fun _ => Calm.move rfl) (h := ?_)
          first | refine dS ?_ | refine dU ?_ | refine dG (hc := fun _ => Calm.move rfl) (h := ?_)
          first | refine dS ?_ | refine dU ?_ | refine dG (hc := fun _ => Calm.move rfl) (h := ?_)
          first | refine dS ?_ | refine dU ?_ | refine dG (hc := fun _ => Calm.move rfl) (h := ?_)
          first | refine dS ?_ | refine dU ?_ | refine dG (hc := fun _ => Calm.bin rfl rfl b_sub_i64) (h := ?_)
          first | refine dS ?_ | refine dU ?_ | refine dG (hc := fun _ => Calm.indexS Try.underlying24 ty_size_3 rfl rfl (by omega) (by omega)) (h := ?_)
          first | refine dS ?_ | refine dU ?_ | refine dL (hc := Calm.load ty_plain_3 rfl (rd_row (k := a1 - 1) own_ rw_ rw_)) (h := ?_)
          first | refine dS ?_ | refine dU ?_ | refine dG (hc := fun _ => Calm.move rfl) (h := ?_)
          first | refine dS ?_ | refine dU ?_ | refine dG (hc := fun _ => Calm.move rfl) (h := ?_)
          first | refine dS ?_ | refine dU ?_ | refine dG (hc := fun _ => Calm.indexS Try.underlying24 ty_size_3 rfl rfl (by omega) (by omega)) (h := ?_)
          first | refine dS ?_ | refine dU ?_ | refine dL (hc := Calm.load ty_plain_3 rfl (rd_row (k := pv) own_ rw_ rw_)) (h := ?_)
          refine draw_only rfl ?_
          refine rUn 83 ?_
          refine ARun.callV (first := []) (cap := cb) (lit_lt rfl) C.go rfl rfl (C.call less_ (R3.ok (a1 - 1) rw_) (R3.ok (pv) rw_)) ?_
          rintro _ _ ⟨rfl, rfl⟩
          refine arun_nil ⟨fun _ => less_, ?_⟩
          first | refine dS ?_ | refine dU ?_ | refine dG (hc := fun _ => Calm.bin rfl rfl b_lss) (h := ?_)
          first | refine dS ?_ | refine dU ?_ | refine dG (hc := fun _ => Calm.un rfl (una_not _)) (h := ?_)
          refine dP (hc := fun _ => (by first | exact Calm.pickT rfl rfl | exact Calm.pickF rfl rfl)) (h := ?_)
          refine draw_nil ?_
          refine ⟨(!(lq cf) d3[a1 - 1]! d3[pv]!), ?_, ?_, ?_⟩
          all_goals (try dsimp only)
          · rw [decide_eq_true h0]; rfl
          · exact ⟨sb_, sb_, sb_, sb_, sb_, sb_, sb_, sb_, sb_, sb_, trivial⟩
          · exact Mem.Less.refl _
        · refine AWP.draw [(0, true), (1, true), (2, true), (3, true), (4, true), (5, true), (6, true), (7, true), (8, true), (9, true), (10, true), (11, true), (12, true), (13, false), (14, true), (15, true), (16, true)] [] mixed (by kernel_rfl) ?_
          refine dP (hc := fun _ => Calm.move rfl) (h := ?_)
          refine dP (hc := fun _ => Calm.bin rfl rfl b_gtr) (h := ?_)
          refine dP (hc := fun _ => Calm.move rfl) (h := ?_)
          first | refine dS ?_ | refine dU ?_ | refine dG (hc := fun _ => Calm.move rfl) (h := ?_)
          first | refine dS ?_ | refine dU ?_ | refine dG (hc := fun _ => Calm.move rfl) (h := ?_)
          first | refine dS ?_ | refine dU ?_ | refine dG (hc := fun _ => Calm.move rfl) (h := ?_)
          first | refine dS ?_ | refine dU ?_ | refine dG (hc := fun _ => Calm.bin rfl rfl b_sub_i64) (h := ?_)
          first | refine dS ?_ | refine dU ?_ | refine dG (hc := fun _ => Calm.indexS Try.underlying24 ty_size_3 rfl rfl (by omega) (by omega)) (h := ?_)
          first | refine dS ?_ | refine dU ?_ | refine dL (hc := Calm.load ty_plain_3 rfl (rd_row (k := a1 - 1) own_ rw_ rw_)) (h := ?_)
          first | refine dS ?_ | refine dU ?_ | refine dG (hc := fun _ => Calm.move rfl) (h := ?_)
          first | refine dS ?_ | refine dU ?_ | refine dG (hc := fun _ => Calm.move rfl) (h := ?_)
          first | refine dS ?_ | refine dU ?_ | refine dG (hc := fun _ => Calm.indexS Try.underlying24 ty_size_3 rfl rfl (by omega) (by omega)) (h := ?_)
          first | refine dS ?_ | refine dU ?_ | refine dL (hc := Calm.load ty_plain_3 rfl (rd_row (k := pv) own_ rw_ rw_)) (h := ?_)
          refine draw_only rfl ?_
          first | refine rS 83 ?_ | refine rU 83 ?_
          refine arun_nil ⟨fun _ => less_, ?_⟩
          first | refine dS ?_ | refine dU ?_ | refine dG (hc := fun _ => Calm.bin rfl rfl b_lss) (h := ?_)
          first | refine dS ?_ | refine dU ?_ | refine dG (hc := fun _ => Calm.un rfl (una_not _)) (h := ?_)
          refine dP (hc := fun _ => (by first | exact Calm.pickT rfl rfl | exact Calm.pickF rfl rfl)) (h := ?_)
          refine draw_nil ?_
          refine ⟨false, ?_, ?_, ?_⟩
          all_goals (try dsimp only)
          · rw [decide_eq_false h0]; rfl
          · exact ⟨sb_, sb_, sb_, sb_, sb_, sb_, sb_, sb_, sb_, sb_, trivial⟩
          · exact Mem.Less.refl _
      rintro x hx
      intro _ _ hs_ hl_
      (try dsimp only at *)
      refine athen_n ?_
      refine AWP.sub _ hs_ (AWP.less _ hl_ ?_)
      clear hs_ hl_
      rw [pdq3, ← hx] at hq
      cases x
      · refine AWP.condF rfl (by first | rfl | (simp; done) | (simp; omega)) ?_
        obtain ⟨⟨md, ap, d4⟩, hp4⟩ : ∃ q, q = partition (lq cf) d3 a1 e1 pv := ⟨_, rfl⟩
        rw [if_neg Bool.false_ne_true, ← hp4] at hq
        dsimp only at hq
        refine AWP.skip ?_
        refine athen_n ?_
        refine AWP.seq ?_
        refine AWP.region ?_
        refine rC (Calm.move rfl) ?_
        refine rC (Calm.move rfl) ?_
        refine rC (Calm.move rfl) ?_
        refine rC (Calm.move rfl) ?_
        refine rC (Calm.move rfl) ?_
        refine ARun.call (lit_lt rfl) go_174 rfl ((hp4 ▸ soC_part C b room n cap hb hn d3 R3 _ _ _ a1 e1 pv rfl rfl rfl (by omega) (by omega) (by omega))) ?_
        rintro _ _ ⟨rfl, rfl, R4, g3, g4⟩
        dsimp only at R4 g3 g4
        rw [if_pos ⟨g3, g4⟩] at hq
        refine rC (Calm.move rfl) ?_
        refine rC (Calm.extract rfl rfl) ?_
        refine rC (Calm.extract rfl rfl) ?_
        refine rC (Calm.assign rfl) ?_
        refine rC (Calm.assign rfl) ?_
        refine arun_nil ?_
        refine athen_n ?_
        refine AWP.sub [(0, _), (1, _), (2, _), (3, _), (4, _), (10, _), (11, _), (12, _), (13, _), (97, _), (16, _), (17, _)] ⟨rfl, rfl, rfl, rfl, rfl, rfl, rfl, rfl, rfl, rfl, rfl, rfl, trivial⟩ ?_
        by_cases hmd : md - a1 < e1 - md
        · rw [if_pos hmd] at hq
          refine AWP.seq ?_
          refine AWP.region ?_
          refine rC (Calm.move rfl) ?_
          refine rC (Calm.assign rfl) ?_
          refine arun_nil ?_
          refine athen_n ?_
          refine AWP.sub [(0, _), (1, _), (2, _), (3, _), (4, _), (10, _), (11, _), (12, _), (13, _), (97, _), (16, _), (17, _)] ⟨rfl, rfl, rfl, rfl, rfl, rfl, rfl, rfl, rfl, rfl, rfl, rfl, trivial⟩ ?_
          refine AWP.seq ?_
          refine AWP.region ?_
          refine rC (Calm.move rfl) ?_
          refine rC (Calm.move rfl) ?_
          refine rC (Calm.bin rfl rfl b_sub_i64) ?_
          refine rC (Calm.move rfl) ?_
          refine rC (Calm.move rfl) ?_
          refine rC (Calm.bin rfl rfl b_sub_i64) ?_
          refine rC (Calm.assign rfl) ?_
          refine rC (Calm.assign rfl) ?_
          refine arun_nil ?_
          refine athen_n ?_
          refine AWP.sub [(0, _), (1, _), (2, _), (3, _), (4, _), (10, _), (11, _), (12, _), (13, _), (97, _), (16, _), (17, _), (18, _), (19, _)] ⟨rfl, rfl, rfl, rfl, rfl, rfl, rfl, rfl, rfl, rfl, rfl, rfl, rfl, rfl, trivial⟩ ?_
          refine AWP.seq ?_
          refine AWP.region ?_
          refine rC (Calm.move rfl) ?_
          refine rC (Calm.bin rfl rfl b_quo_i64) ?_
          refine rC (Calm.assign rfl) ?_
          refine arun_nil ?_
          refine athen_n ?_
          refine AWP.sub [(0, _), (1, _), (2, _), (3, _), (4, _), (10, _), (11, _), (12, _), (13, _), (97, _), (16, _), (17, _), (18, _), (19, _), (20, _)] ⟨rfl, rfl, rfl, rfl, rfl, rfl, rfl, rfl, rfl, rfl, rfl, rfl, rfl, rfl, rfl, trivial⟩ ?_
          refine AWP.seq ?_
          refine AWP.region ?_
          refine rC (Calm.move rfl) ?_
          refine rC (Calm.move rfl) ?_
          refine rC (Calm.bin rfl rfl b_lss) ?_
          refine arun_nil ?_
          refine athen_n ?_
          refine AWP.sub [(0, _), (1, _), (2, _), (3, _), (4, _), (10, _), (11, _), (12, _), (13, _), (97, _), (16, _), (17, _), (18, _), (19, _), (20, _), (125, _)] ⟨rfl, rfl, rfl, rfl, rfl, rfl, rfl, rfl, rfl, rfl, rfl, rfl, rfl, rfl, rfl, rfl, trivial⟩ ?_
          refine AWP.condT rfl (by first | rfl | (simp; done) | (simp; omega)) ?_
          refine AWP.seq ?_
          refine AWP.region ?_
          refine rC (Calm.move rfl) ?_
          refine rC (Calm.move rfl) ?_
          refine rC (Calm.bin rfl rfl b_geq) ?_
          refine rC (Calm.assign rfl) ?_
          refine arun_nil ?_
          refine athen_n ?_
          refine AWP.sub [(0, _), (1, _), (2, _), (3, _), (4, _), (10, _), (11, _), (12, _), (13, _), (97, _), (16, _), (17, _), (18, _), (19, _), (20, _), (125, _)] ⟨rfl, rfl, rfl, rfl, rfl, rfl, rfl, rfl, rfl, rfl, rfl, rfl, rfl, rfl, rfl, rfl, trivial⟩ ?_
          refine AWP.seq ?_
          refine AWP.region ?_
          refine rC (Calm.move rfl) ?_
          refine rC (Calm.move rfl) ?_
          refine rC (Calm.move rfl) ?_
          refine rC (Calm.move rfl) ?_
          refine rC (Calm.move rfl) ?_
          refine ARun.call (lit_lt rfl) go_136 rfl (ih (md - a1) (by omega) d4 R4 _ _ _ a1 md l2 rfl rfl rfl (by omega) (by omega) (by omega) rfl) ?_
          rintro _ _ ⟨rfl, R5⟩
          refine arun_nil ?_
          refine athen_n ?_
          refine AWP.sub [(0, _), (1, _), (2, _), (3, _), (4, _), (10, _), (11, _), (12, _), (13, _), (97, _), (16, _), (17, _), (18, _), (19, _), (20, _), (125, _)] ⟨rfl, rfl, rfl, rfl, rfl, rfl, rfl, rfl, rfl, rfl, rfl, rfl, rfl, rfl, rfl, rfl, trivial⟩ ?_
          refine AWP.region ?_
          refine rC (Calm.move rfl) ?_
          refine rC (Calm.bin rfl rfl b_add_i64) ?_
          refine rC (Calm.assign rfl) ?_
          refine arun_nil ?_
          refine ain_n ?_
          refine athen_n ?_
          refine ⟨(md + 1, e1, l2, decide (md - a1 ≥ (e1 - a1) / 8), ap, pdq (lq cf) d4 a1 md l2 true true), ?_, ?_, ?_, ?_⟩
          all_goals (try dsimp only)
          · exact ⟨sb_, sb_, sb_, sb_, sb_, wbv_ (by omega), sb_, trivial⟩
          · exact Mem.Less.refl _
          · exact ⟨by omega, by omega, R5, by omega, by omega, hq⟩
          · omega
        · rw [if_neg hmd] at hq
          refine AWP.seq ?_
          refine AWP.region ?_
          refine rC (Calm.move rfl) ?_
          refine rC (Calm.assign rfl) ?_
          refine arun_nil ?_
          refine athen_n ?_
          refine AWP.sub [(0, _), (1, _), (2, _), (3, _), (4, _), (10, _), (11, _), (12, _), (13, _), (97, _), (16, _), (17, _)] ⟨rfl, rfl, rfl, rfl, rfl, rfl, rfl, rfl, rfl, rfl, rfl, rfl, trivial⟩ ?_
          refine AWP.seq ?_
          refine AWP.region ?_
          refine rC (Calm.move rfl) ?_
          refine rC (Calm.move rfl) ?_
          refine rC (Calm.bin rfl rfl b_sub_i64) ?_
          refine rC (Calm.move rfl) ?_
          refine rC (Calm.move rfl) ?_
          refine rC (Calm.bin rfl rfl b_sub_i64) ?_
          refine rC (Calm.assign rfl) ?_
          refine rC (Calm.assign rfl) ?_
          refine arun_nil ?_
          refine athen_n ?_
          refine AWP.sub [(0, _), (1, _), (2, _), (3, _), (4, _), (10, _), (11, _), (12, _), (13, _), (97, _), (16, _), (17, _), (18, _), (19, _)] ⟨rfl, rfl, rfl, rfl, rfl, rfl, rfl, rfl, rfl, rfl, rfl, rfl, rfl, rfl, trivial⟩ ?_
          refine AWP.seq ?_
          refine AWP.region ?_
          refine rC (Calm.move rfl) ?_
          refine rC (Calm.bin rfl rfl b_quo_i64) ?_
          refine rC (Calm.assign rfl) ?_
          refine arun_nil ?_
          refine athen_n ?_
          refine AWP.sub [(0, _), (1, _), (2, _), (3, _), (4, _), (10, _), (11, _), (12, _), (13, _), (97, _), (16, _), (17, _), (18, _), (19, _), (20, _)] ⟨rfl, rfl, rfl, rfl, rfl, rfl, rfl, rfl, rfl, rfl, rfl, rfl, rfl, rfl, rfl, trivial⟩ ?_
          refine AWP.seq ?_
          refine AWP.region ?_
          refine rC (Calm.move rfl) ?_
          refine rC (Calm.move rfl) ?_
          refine rC (Calm.bin rfl rfl b_lss) ?_
          refine arun_nil ?_
          refine athen_n ?_
          refine AWP.sub [(0, _), (1, _), (2, _), (3, _), (4, _), (10, _), (11, _), (12, _), (13, _), (97, _), (16, _), (17, _), (18, _), (19, _), (20, _), (125, _)] ⟨rfl, rfl, rfl, rfl, rfl, rfl, rfl, rfl, rfl, rfl, rfl, rfl, rfl, rfl, rfl, rfl, trivial⟩ ?_
          refine AWP.condF rfl (by first | rfl | (simp; done) | (simp; omega)) ?_
          refine AWP.seq ?_
          refine AWP.region ?_
          refine rC (Calm.move rfl) ?_
          refine rC (Calm.move rfl) ?_
          refine rC (Calm.bin rfl rfl b_geq) ?_
          refine rC (Calm.assign rfl) ?_
          refine arun_nil ?_
          refine athen_n ?_
          refine AWP.sub [(0, _), (1, _), (2, _), (3, _), (4, _), (10, _), (11, _), (12, _), (13, _), (97, _), (16, _), (17, _), (18, _), (19, _), (20, _), (125, _)] ⟨rfl, rfl, rfl, rfl, rfl, rfl, rfl, rfl, rfl, rfl, rfl, rfl, rfl, rfl, rfl, rfl, trivial⟩ ?_
          refine AWP.seq ?_
          refine AWP.region ?_
          refine rC (Calm.move rfl) ?_
          refine rC (Calm.move rfl) ?_
          refine rC (Calm.bin rfl rfl b_add_i64) ?_
          refine rC (Calm.move rfl) ?_
          refine rC (Calm.move rfl) ?_
          refine rC (Calm.move rfl) ?_
          refine ARun.call (lit_lt rfl) go_136 rfl (ih (e1 - (md + 1)) (by omega) d4 R4 _ _ _ (md + 1) e1 l2 om_ rfl rfl (by omega) (by omega) (by omega) rfl) ?_
          rintro _ _ ⟨rfl, R5⟩
          refine arun_nil ?_
          refine athen_n ?_
          refine AWP.sub [(0, _), (1, _), (2, _), (3, _), (4, _), (10, _), (11, _), (12, _), (13, _), (97, _), (16, _), (17, _), (18, _), (19, _), (20, _), (125, _)] ⟨rfl, rfl, rfl, rfl, rfl, rfl, rfl, rfl, rfl, rfl, rfl, rfl, rfl, rfl, rfl, rfl, trivial⟩ ?_
          refine AWP.region ?_
          refine rC (Calm.move rfl) ?_
          refine rC (Calm.assign rfl) ?_
          refine arun_nil ?_
          refine ain_n ?_
          refine athen_n ?_
          refine ⟨(a1, md, l2, decide (e1 - md ≥ (e1 - a1) / 8), ap, pdq (lq cf) d4 (md + 1) e1 l2 true true), ?_, ?_, ?_, ?_⟩
          all_goals (try dsimp only)
          · exact ⟨sb_, sb_, sb_, sb_, sb_, wbv_ (by omega), sb_, trivial⟩
          · exact Mem.Less.refl _
          · exact ⟨by omega, by omega, R5, by omega, by omega, hq⟩
          · omega
      · refine AWP.condT rfl (by first | rfl | (simp; done) | (simp; omega)) ?_
        obtain ⟨⟨md, d4⟩, hp4⟩ : ∃ q, q = partitionEqual (lq cf) d3 a1 e1 pv := ⟨_, rfl⟩
        rw [if_pos rfl, ← hp4] at hq
        dsimp only at hq
        refine AWP.seq ?_
        refine AWP.region ?_
        refine rC (Calm.move rfl) ?_
        refine rC (Calm.move rfl) ?_
        refine rC (Calm.move rfl) ?_
        refine rC (Calm.move rfl) ?_
        refine rC (Calm.move rfl) ?_
        refine ARun.call (lit_lt rfl) go_173 rfl ((hp4 ▸ soC_parteq C b room n cap hb hn d3 R3 _ _ _ a1 e1 pv rfl rfl rfl (by omega) (by omega) (by omega))) ?_
        rintro _ _ ⟨rfl, rfl, R4, g3, g4⟩
        dsimp only at R4 g3 g4
        rw [if_pos ⟨g3, g4⟩] at hq
        refine rC (Calm.assign rfl) ?_
        refine arun_nil ?_
        refine athen_n ?_
        refine AWP.sub [(0, _), (1, _), (2, _), (3, _), (4, _), (10, _), (11, _), (12, _), (13, _), (97, _), (15, _)] ⟨rfl, rfl, rfl, rfl, rfl, rfl, rfl, rfl, rfl, rfl, rfl, trivial⟩ ?_
        refine AWP.seq ?_
        refine AWP.region ?_
        refine rC (Calm.move rfl) ?_
        refine rC (Calm.assign rfl) ?_
        refine arun_nil ?_
        refine athen_n ?_
        refine AWP.sub [(0, _), (1, _), (2, _), (3, _), (4, _), (10, _), (11, _), (12, _), (13, _), (97, _), (15, _)] ⟨rfl, rfl, rfl, rfl, rfl, rfl, rfl, rfl, rfl, rfl, rfl, trivial⟩ ?_
        refine AWP.exit ?_
        refine athen_exit ?_
        refine ain_same ?_
        refine athen_n ?_
        refine ⟨(md, e1, l2, w1, w2, d4), ?_, ?_, ?_, ?_⟩
        all_goals (try dsimp only)
        · exact ⟨sb_, sb_, sb_, sb_, sb_, sb_, sb_, trivial⟩
        · exact Mem.Less.refl _
        · exact ⟨by omega, by omega, R4, by omega, by omega, hq⟩
        · omega
set_option maxHeartbeats 1000000 in
theorem soC_sort {α : Type} [Inhabited α] {enc : α → Value} {cf : α → α → Int} {okP : α → Prop} {g : Nat} {cb : List Value} {S : Mem} (C : CmpC Try.prog enc cf okP g cb S) (b room n cap : Nat) (hb : Fresh S b) (hn : n ≤ 1048576) (d : Array α) (R : Rw okP n d) :
    ACall Try.prog 101 #[.slice (some ⟨b, 0, none⟩) n cap, .func (.func g) #[] cb.toArray] (S.set b ⟨3, (d).toList.map enc, room⟩) fun r S' => S' = S.set b ⟨3, (pdq (lq cf) d 0 n (bitsLen n) true true).toList.map enc, room⟩ ∧ Rw okP n (pdq (lq cf) d 0 n (bitsLen n) true true) := by
  have hbl := bitsLen_small n hn
  refine ACall.enter (args := [.slice (some ⟨b, 0, none⟩) n cap, .func (.func g) #[] cb.toArray]) (rs := []) 14 [(0, .slice (some ⟨b, 0, none⟩) n cap), (1, .func (.func g) #[] cb.toArray)] Try.func101 rfl rfl (Nat.le_of_ble_eq_true rfl) rfl ⟨rfl, rfl, trivial⟩ ?_
  refine AWP.seq ?_
  refine AWP.region ?_
  refine rC (Calm.move rfl) ?_
  refine rC (Calm.lenSl Try.underlying24 rfl) ?_
  refine rC (Calm.assign rfl) ?_
  refine arun_nil ?_
  refine athen_n ?_
  refine AWP.sub [(0, _), (1, _), (4, _)] ⟨rfl, rfl, rfl, trivial⟩ ?_
  refine AWP.region ?_
  refine rC (Calm.move rfl) ?_
  refine rC (Calm.move rfl) ?_
  refine rC (Calm.move rfl) ?_
  refine rC (Calm.conv rfl (by first | exact conv_intW Try.underlying3 Try.underlying139 (IntWalk.u64_in _ (by omega)) | exact conv_int Try.underlying3 Try.underlying139)) ?_
  refine ARun.call (lit_lt rfl) go_122 rfl (so_Len n (by omega) _) ?_
  rintro _ _ ⟨rfl, rfl⟩
  refine rC (Calm.move rfl) ?_
  refine ARun.call (lit_lt rfl) go_136 rfl (soC_pdq C b room n cap hb hn (n - 0) d R _ _ _ 0 n (bitsLen n) rfl rfl rfl (Nat.zero_le _) (Nat.le_refl _) (by omega) rfl) ?_
  rintro _ _ ⟨rfl, R1⟩
  refine arun_nil ?_
  refine ⟨_, _, rfl, Mem.Less.refl _, ?_⟩
  exact ⟨rfl, R1⟩
theorem soC_ins0 (fv : Value) (S : Mem) : ACall Try.prog 167 #[.slice none 0 0, .int .i64 0, .int .i64 0, fv] S fun r S' => S' = S := by
  refine ACall.enter (args := [.slice none 0 0, .int .i64 0, .int .i64 0, fv]) (rs := []) 53 [(0, .slice none 0 0), (1, .int .i64 0), (2, .int .i64 0), (3, fv)] Try.func167 rfl rfl (Nat.le_of_ble_eq_true rfl) rfl ⟨rfl, rfl, rfl, rfl, trivial⟩ ?_
  refine AWP.seq ?_
  refine AWP.region ?_
  refine rC (Calm.move rfl) ?_
  refine rC (Calm.bin rfl rfl b_add_i64) ?_
  refine rC (Calm.assign rfl) ?_
  refine arun_nil ?_
  refine athen_n ?_
  refine AWP.sub [(0, _), (1, _), (2, _), (3, _), (8, _)] ⟨rfl, rfl, rfl, rfl, rfl, trivial⟩ ?_
  refine AWP.block ?_
  refine AWP.loop (X := Unit) (fun _ => [(0, .slice none 0 0), (2, .int .i64 0), (8, .int .i64 1)]) (fun _ => S) (fun _ => True) (fun _ => 0) (()) ⟨sb_, sb_, sb_, trivial⟩ (Mem.Less.refl _) (trivial) ?_
  rintro _ _
  (try dsimp only at *)
  refine AWP.seq ?_
  refine AWP.seq ?_
  refine AWP.region ?_
  refine rC (Calm.move rfl) ?_
  refine rC (Calm.move rfl) ?_
  refine rC (Calm.bin rfl rfl b_lss) ?_
  refine arun_nil ?_
  refine athen_n ?_
  refine AWP.sub [(0, _), (2, _), (8, _), (14, _)] ⟨rfl, rfl, rfl, rfl, trivial⟩ ?_
  refine AWP.condF rfl (by first | rfl | (simp; done) | (simp; omega)) ?_
  refine AWP.exit ?_
  refine athen_exit ?_
  refine athen_exit ?_
  refine ain_same ?_
  refine ⟨_, S, rfl, Mem.Less.refl _, ?_⟩
  exact rfl
theorem soC_pdq0 (fv : Value) (S : Mem) : ACall Try.prog 136 #[.slice none 0 0, .int .i64 0, .int .i64 0, .int .i64 0, fv] S fun r S' => S' = S := by
  refine ACall.enter (args := [.slice none 0 0, .int .i64 0, .int .i64 0, .int .i64 0, fv]) (rs := []) 148 [(0, .slice none 0 0), (1, .int .i64 0), (2, .int .i64 0), (3, .int .i64 0), (4, fv)] Try.func136 rfl rfl (Nat.le_of_ble_eq_true rfl) rfl ⟨rfl, rfl, rfl, rfl, rfl, trivial⟩ ?_
  refine AWP.seq ?_
  refine AWP.region ?_
  refine rC (Calm.assign rfl) ?_
  refine arun_nil ?_
  refine athen_n ?_
  refine AWP.seq ?_
  refine AWP.region ?_
  refine rC (Calm.assign rfl) ?_
  refine arun_nil ?_
  refine athen_n ?_
  refine AWP.block ?_
  refine AWP.loop (X := Unit) (fun _ => [(0, .slice none 0 0), (1, .int .i64 0), (2, .int .i64 0), (4, fv)]) (fun _ => S) (fun _ => True) (fun _ => 0) (()) ⟨rfl, rfl, rfl, rfl, trivial⟩ (Mem.Less.refl _) (trivial) ?_
  rintro _ _
  (try dsimp only at *)
  refine AWP.block ?_
  refine AWP.seq ?_
  refine AWP.region ?_
  refine rC (Calm.move rfl) ?_
  refine rC (Calm.move rfl) ?_
  refine rC (Calm.bin rfl rfl b_sub_i64) ?_
  refine rC (Calm.assign rfl) ?_
  refine arun_nil ?_
  refine athen_n ?_
  refine AWP.sub [(0, _), (1, _), (2, _), (4, _), (12, _)] ⟨rfl, rfl, rfl, rfl, rfl, trivial⟩ ?_
  refine AWP.seq ?_
  refine AWP.seq ?_
  refine AWP.region ?_
  refine rC (Calm.move rfl) ?_
  refine rC (Calm.bin rfl rfl b_leq) ?_
  refine arun_nil ?_
  refine athen_n ?_
  refine AWP.sub [(0, _), (1, _), (2, _), (4, _), (12, _), (25, _)] ⟨rfl, rfl, rfl, rfl, rfl, rfl, trivial⟩ ?_
  refine AWP.condT rfl (by first | rfl | (simp; done) | (simp; omega)) ?_
  refine AWP.seq ?_
  refine AWP.region ?_
  refine rC (Calm.move rfl) ?_
  refine rC (Calm.move rfl) ?_
  refine rC (Calm.move rfl) ?_
  refine rC (Calm.move rfl) ?_
  refine ARun.call (lit_lt rfl) go_167 rfl (soC_ins0 fv S) ?_
  rintro _ S1 h1
  rw [h1]; clear h1 S1
  refine arun_nil ?_
  refine athen_n ?_
  refine AWP.sub [(0, _), (1, _), (2, _), (4, _), (12, _), (25, _)] ⟨rfl, rfl, rfl, rfl, rfl, rfl, trivial⟩ ?_
  refine AWP.ret ?_
  refine athen_ret ?_
  refine ain_ret ?_
  refine athen_ret ?_
  refine ain_ret ?_
  refine ⟨_, S, rfl, Mem.Less.refl _, ?_⟩
  exact rfl
theorem soC_sort0 (fv : Value) (S : Mem) : ACall Try.prog 101 #[.slice none 0 0, fv] S fun r S' => S' = S := by
  refine ACall.enter (args := [.slice none 0 0, fv]) (rs := []) 14 [(0, .slice none 0 0), (1, fv)] Try.func101 rfl rfl (Nat.le_of_ble_eq_true rfl) rfl ⟨rfl, rfl, trivial⟩ ?_
  refine AWP.seq ?_
  refine AWP.region ?_
  refine rC (Calm.move rfl) ?_
  refine rC (Calm.lenSl Try.underlying24 rfl) ?_
  refine rC (Calm.assign rfl) ?_
  refine arun_nil ?_
  refine athen_n ?_
  refine AWP.sub [(0, _), (1, _), (4, _)] ⟨rfl, rfl, rfl, trivial⟩ ?_
  refine AWP.region ?_
  refine rC (Calm.move rfl) ?_
  refine rC (Calm.move rfl) ?_
  refine rC (Calm.move rfl) ?_
  refine rC (Calm.conv rfl (by first | exact conv_intW Try.underlying3 Try.underlying139 (IntWalk.u64_in _ (by omega)) | exact conv_int Try.underlying3 Try.underlying139)) ?_
  refine ARun.call (lit_lt rfl) go_122 rfl (so_Len 0 (by omega) _) ?_
  rintro _ S1 ⟨rfl, h1⟩
  rw [h1]; clear h1 S1
  refine rC (Calm.move rfl) ?_
  refine ARun.call (lit_lt rfl) go_136 rfl (soC_pdq0 fv S) ?_
  rintro _ S1 h1
  rw [h1]; clear h1 S1
  refine arun_nil ?_
  refine ⟨_, S, rfl, Mem.Less.refl _, ?_⟩
  exact rfl
end Go.Proofs.Ytgidjbpgkeemiaa
