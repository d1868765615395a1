/-
  Texts that belong together: Sort3CI, Sk4, Sk5, Sk6, Sk7, SkewMath4, Rf, RfB, Sk9, Sk10, SkL1, Od1.
-/
import Derived.Test.YtgidjbpgkeemiaaBSs3
import Derived.Laws.StructEq
import Derived.RangeFuncNested
import Derived.RangeFuncBound
import Derived.RangeFuncCalls
import Derived.RangeFuncLeaves
import Derived.Shelf.RegionOpen
import Derived.WalkKit
import Derived.OwnWalkIn
import Derived.TacticsInMore
import Derived.LoopNIn
import Derived.LoopIn
namespace Go.Proofs.Ytgidjbpgkeemiaa
open Go.RowKit
open Mv Srt
open Go.Sort (swp insInner insOuter insertionSort siftDown heapBuild heapPop heapSort scanUp scanDown partLoop partition partEqLoop partitionEqual scanSorted shiftDown shiftUp partialIns partialInsertionSort order2 median medianAdjacent choosePivot reverseLoop reverseRange breakStep breakPatterns pdq bitsLen xorNext Hint)
set_option linter.unusedVariables false
set_option linter.unusedSimpArgs false
set_option maxRecDepth 4000
set_option maxHeartbeats 8000000 in
theorem soC_pdq {α : Type} [Inhabited α] {enc : α → Value} {cf : α → α → Int} {okP : α → Prop} {g : Nat} {cb : List Value} {S : Mem} (C : CmpC Try.prog enc cf okP g cb S) (b room n cap : Nat) (hb : Fresh S b) (hn : n ≤ 1048576) : ∀ (m : Nat) (d : Array α) (R : Rw okP n d) (ia ie il : Int) (a e limit : Nat), ia = a → ie = e → il = limit → a ≤ e → e ≤ n → limit ≤ 1000 → e - a = m →
    ACall Try.prog 136 #[.slice (some ⟨b, 0, none⟩) n cap, .int .i64 ia, .int .i64 ie, .int .i64 il, .func (.func g) #[] cb.toArray] (S.set b ⟨3, (d).toList.map enc, room⟩) fun r S' => S' = S.set b ⟨3, (pdq (lq cf) d a e limit true true).toList.map enc, room⟩ ∧ Rw okP n (pdq (lq cf) d a e limit true true) := by
  intro m
  induction m using Nat.strongRecOn with
  | _ m ih =>
  intro d R ia ie il a e limit ha he hl hae hen hlim hm
  subst ha he hl
  refine ACall.enter (args := [.slice (some ⟨b, 0, none⟩) n cap, .int .i64 a, .int .i64 e, .int .i64 limit, .func (.func g) #[] cb.toArray]) (rs := []) 148 [(0, .slice (some ⟨b, 0, none⟩) n cap), (1, .int .i64 a), (2, .int .i64 e), (3, .int .i64 limit), (4, .func (.func g) #[] cb.toArray)] Try.func136 rfl rfl (Nat.le_of_ble_eq_true rfl) rfl ⟨rfl, rfl, rfl, rfl, rfl, trivial⟩ ?_
  refine AWP.seq ?_
  refine AWP.region ?_
  refine rC (Calm.assign rfl) ?_
  refine arun_nil ?_
  refine athen_n ?_
  refine AWP.seq ?_
  refine AWP.region ?_
  refine rC (Calm.assign rfl) ?_
  refine arun_nil ?_
  refine athen_n ?_
  refine AWP.block ?_
  refine AWP.loop (X := Nat × Nat × Nat × Bool × Bool × Array α) (fun x => [(0, .slice (some ⟨b, 0, none⟩) n cap), (1, .int .i64 x.1), (2, .int .i64 x.2.1), (3, .int .i64 x.2.2.1), (4, .func (.func g) #[] cb.toArray), (10, .bool x.2.2.2.1), (11, .bool x.2.2.2.2.1)]) (fun x => S.set b ⟨3, (x.2.2.2.2.2).toList.map enc, room⟩) (fun x => x.1 ≤ x.2.1 ∧ x.2.1 ≤ e ∧ Rw okP n x.2.2.2.2.2 ∧ x.2.1 - x.1 ≤ m ∧ x.2.2.1 ≤ limit ∧ pdq (lq cf) x.2.2.2.2.2 x.1 x.2.1 x.2.2.1 x.2.2.2.1 x.2.2.2.2.1 = pdq (lq cf) d a e limit true true) (fun x => x.2.1 - x.1) ((a, e, limit, true, true, d)) ⟨sb_, sb_, sb_, sb_, sb_, sb_, sb_, trivial⟩ (Mem.Less.refl _) (⟨hae, Nat.le_refl _, R, by dsimp only; omega, Nat.le_refl _, rfl⟩) ?_
  rintro ⟨a1, e1, l1, w1, w2, d0⟩ ⟨h1, h2, R0, h4, h5, hq⟩
  (try dsimp only at *)
  have z0 := R0.size
  by_cases h12 : e1 - a1 ≤ 12
  · refine AWP.block ?_
    refine AWP.seq ?_
    refine AWP.region ?_
    refine rC (Calm.move rfl) ?_
    refine rC (Calm.move rfl) ?_
    refine rC (Calm.bin rfl rfl b_sub_i64) ?_
    refine rC (Calm.assign rfl) ?_
    refine arun_nil ?_
    refine athen_n ?_
    refine AWP.sub [(0, _), (1, _), (2, _), (3, _), (4, _), (10, _), (11, _), (12, _)] ⟨rfl, rfl, rfl, rfl, rfl, rfl, rfl, rfl, trivial⟩ ?_
    refine AWP.seq ?_
    refine AWP.seq ?_
    refine AWP.region ?_
    refine rC (Calm.move rfl) ?_
    refine rC (Calm.bin rfl rfl b_leq) ?_
    refine arun_nil ?_
    refine athen_n ?_
    refine AWP.sub [(0, _), (1, _), (2, _), (3, _), (4, _), (10, _), (11, _), (12, _), (25, _)] ⟨rfl, rfl, rfl, rfl, rfl, rfl, rfl, rfl, rfl, trivial⟩ ?_
    refine AWP.condT rfl (by first | rfl | (simp; done) | (simp; omega)) ?_
    refine AWP.seq ?_
    refine AWP.region ?_
    refine rC (Calm.move rfl) ?_
    refine rC (Calm.move rfl) ?_
    refine rC (Calm.move rfl) ?_
    refine rC (Calm.move rfl) ?_
    refine ARun.call (lit_lt rfl) go_167 rfl (soC_ins C b room n cap hb hn d0 R0 _ _ a1 e1 rfl rfl (by omega) (by omega)) ?_
    rintro _ _ ⟨rfl, R1⟩
    refine arun_nil ?_
    refine athen_n ?_
    refine AWP.sub [(0, _), (1, _), (2, _), (3, _), (4, _), (10, _), (11, _), (12, _), (25, _)] ⟨rfl, rfl, rfl, rfl, rfl, rfl, rfl, rfl, rfl, trivial⟩ ?_
    refine AWP.ret ?_
    refine athen_ret ?_
    refine ain_ret ?_
    refine athen_ret ?_
    refine ain_ret ?_
    refine ⟨_, _, rfl, Mem.Less.refl _, ?_⟩
    rw [← hq, pdq_ins (lq cf) h12]; exact ⟨rfl, R1⟩
  · refine AWP.block ?_
    refine AWP.seq ?_
    refine AWP.region ?_
    refine rC (Calm.move rfl) ?_
    refine rC (Calm.move rfl) ?_
    refine rC (Calm.bin rfl rfl b_sub_i64) ?_
    refine rC (Calm.assign rfl) ?_
    refine arun_nil ?_
    refine athen_n ?_
    refine AWP.sub [(0, _), (1, _), (2, _), (3, _), (4, _), (10, _), (11, _), (12, _)] ⟨rfl, rfl, rfl, rfl, rfl, rfl, rfl, rfl, trivial⟩ ?_
    refine AWP.seq ?_
    refine AWP.seq ?_
    refine AWP.region ?_
    refine rC (Calm.move rfl) ?_
    refine rC (Calm.bin rfl rfl b_leq) ?_
    refine arun_nil ?_
    refine athen_n ?_
    refine AWP.sub [(0, _), (1, _), (2, _), (3, _), (4, _), (10, _), (11, _), (12, _), (25, _)] ⟨rfl, rfl, rfl, rfl, rfl, rfl, rfl, rfl, rfl, trivial⟩ ?_
    refine AWP.condF rfl (by first | rfl | (simp; done) | (simp; omega)) ?_
    by_cases hl0 : l1 = 0
    · refine AWP.skip ?_
      refine athen_n ?_
      refine AWP.seq ?_
      refine AWP.seq ?_
      refine AWP.region ?_
      refine rC (Calm.move rfl) ?_
      refine rC (Calm.bin rfl rfl b_eql) ?_
      refine arun_nil ?_
      refine athen_n ?_
      refine AWP.sub [(0, _), (1, _), (2, _), (3, _), (4, _), (10, _), (11, _), (12, _), (25, _), (32, _)] ⟨rfl, rfl, rfl, rfl, rfl, rfl, rfl, rfl, rfl, rfl, trivial⟩ ?_
      refine AWP.condT rfl (by first | rfl | (simp; done) | (simp; omega)) ?_
      refine AWP.seq ?_
      refine AWP.region ?_
      refine rC (Calm.move rfl) ?_
      refine rC (Calm.move rfl) ?_
      refine rC (Calm.move rfl) ?_
      refine rC (Calm.move rfl) ?_
      refine ARun.call (lit_lt rfl) go_168 rfl (soC_heap C b room n cap hb hn d0 R0 _ _ a1 e1 rfl rfl (by omega) (by omega)) ?_
      rintro _ _ ⟨rfl, R1⟩
      refine arun_nil ?_
      refine athen_n ?_
      refine AWP.sub [(0, _), (1, _), (2, _), (3, _), (4, _), (10, _), (11, _), (12, _), (25, _), (32, _)] ⟨rfl, rfl, rfl, rfl, rfl, rfl, rfl, rfl, rfl, rfl, trivial⟩ ?_
      refine AWP.ret ?_
      refine athen_ret ?_
      refine ain_ret ?_
      refine athen_ret ?_
      refine ain_ret ?_
      refine ⟨_, _, rfl, Mem.Less.refl _, ?_⟩
      rw [← hq, pdq_heap (lq cf) h12 hl0]; exact ⟨rfl, R1⟩
    · refine AWP.skip ?_
      refine athen_n ?_
      refine AWP.seq ?_
      refine AWP.seq ?_
      refine AWP.region ?_
      refine rC (Calm.move rfl) ?_
      refine rC (Calm.bin rfl rfl b_eql) ?_
      refine arun_nil ?_
      refine athen_n ?_
      refine AWP.sub [(0, _), (1, _), (2, _), (3, _), (4, _), (10, _), (11, _), (12, _), (25, _), (32, _)] ⟨rfl, rfl, rfl, rfl, rfl, rfl, rfl, rfl, rfl, rfl, trivial⟩ ?_
      refine AWP.condF rfl (by first | rfl | (simp; done) | (simp; omega)) ?_
      rw [pdq_1 (lq cf) h12 hl0] at hq
      refine AWP.skip ?_
      refine athen_n ?_
      refine AWP.seq ?_
      refine AWP.seq ?_
      refine AWP.region ?_
      refine rC (Calm.move rfl) ?_
      refine rC (Calm.un rfl (una_not _)) ?_
      refine arun_nil ?_
      refine athen_n ?_
      refine AWP.sub [(0, _), (1, _), (2, _), (3, _), (4, _), (10, _), (11, _), (12, _), (25, _), (32, _), (39, _)] ⟨rfl, rfl, rfl, rfl, rfl, rfl, rfl, rfl, rfl, rfl, rfl, trivial⟩ ?_
      refine AWP.join (X := Nat × Array α) (fun x => [(0, .slice (some ⟨b, 0, none⟩) n cap), (1, .int .i64 a1), (2, .int .i64 e1), (3, .int .i64 x.1), (4, .func (.func g) #[] cb.toArray), (10, .bool w1), (11, .bool w2), (12, .int .i64 ((e1 - a1 : Nat) : Int))]) (fun x => S.set b ⟨3, (x.2).toList.map enc, room⟩) (fun x => x.1 ≤ l1 ∧ Rw okP n x.2 ∧ pdq1 (lq cf) x.2 a1 e1 x.1 w1 w2 = pdq (lq cf) d a e limit true true) ?_ ?_
      · cases w1
        · refine AWP.condT rfl (by first | rfl | (simp; done) | (simp; omega)) ?_
          refine AWP.seq ?_
          refine AWP.region ?_
          refine rC (Calm.move rfl) ?_
          refine rC (Calm.move rfl) ?_
          refine rC (Calm.move rfl) ?_
          refine rC (Calm.move rfl) ?_
          refine ARun.call (lit_lt rfl) go_169 rfl (soC_brk C b room n cap hb hn d0 R0 _ _ a1 e1 rfl rfl (by omega) (by omega)) ?_
          rintro _ _ ⟨rfl, R1⟩
          refine arun_nil ?_
          refine athen_n ?_
          refine AWP.sub [(0, _), (1, _), (2, _), (3, _), (4, _), (10, _), (11, _), (12, _), (25, _), (32, _), (39, _)] ⟨rfl, rfl, rfl, rfl, rfl, rfl, rfl, rfl, rfl, rfl, rfl, trivial⟩ ?_
          refine AWP.region ?_
          refine rC (Calm.move rfl) ?_
          refine rC (Calm.bin rfl rfl b_sub_i64) ?_
          refine rC (Calm.assign rfl) ?_
          refine arun_nil ?_
          refine ⟨(l1 - 1, breakPatterns d0 a1 e1), ?_, ?_, ?_⟩
          all_goals (try dsimp only)
          · exact ⟨by omega, R1, hq⟩
          · exact ⟨sb_, sb_, sb_, sb_, sb_, sb_, sb_, sb_, trivial⟩
          · exact Mem.Less.refl _
        · refine AWP.condF rfl (by first | rfl | (simp; done) | (simp; omega)) ?_
          refine AWP.skip ?_
          refine ⟨(l1, d0), ?_, ?_, ?_⟩
          all_goals (try dsimp only)
          · exact ⟨Nat.le_refl _, R0, hq⟩
          · exact ⟨sb_, sb_, sb_, sb_, sb_, sb_, sb_, sb_, trivial⟩
          · exact Mem.Less.refl _
      rintro ⟨l2, d1⟩ ⟨k1, R1, hq⟩
      intro _ _ hs_ hl_
      (try dsimp only at *)
      refine athen_n ?_
      refine AWP.sub _ hs_ (AWP.less _ hl_ ?_)
      clear hs_ hl_
      have z1 := R1.size
      obtain ⟨⟨p0, ht⟩, hpc⟩ : ∃ q, q = choosePivot (lq cf) d1 a1 e1 := ⟨_, rfl⟩
      refine AWP.seq ?_
      refine AWP.region ?_
      refine rC (Calm.move rfl) ?_
      refine rC (Calm.move rfl) ?_
      refine rC (Calm.move rfl) ?_
      refine rC (Calm.move rfl) ?_
      refine ARun.call (lit_lt rfl) go_170 rfl ((hpc ▸ soC_pivot C b room n cap hb hn d1 R1 _ _ a1 e1 rfl rfl (by omega) (by omega))) ?_
      rintro _ _ ⟨rfl, rfl, g1, g2⟩
      dsimp only at g1 g2
      rw [pdq1, ← hpc] at hq
      dsimp only at hq
      refine rC (Calm.move rfl) ?_
      refine rC (Calm.extract rfl rfl) ?_
      refine rC (Calm.extract rfl rfl) ?_
      refine rC (Calm.assign rfl) ?_
      refine rC (Calm.assign rfl) ?_
      refine arun_nil ?_
      refine athen_n ?_
      refine AWP.sub [(0, _), (1, _), (2, _), (3, _), (4, _), (10, _), (11, _), (12, _), (13, _), (14, _)] ⟨rfl, rfl, rfl, rfl, rfl, rfl, rfl, rfl, rfl, rfl, trivial⟩ ?_
      refine AWP.seq ?_
      refine AWP.seq ?_
      refine AWP.region ?_
      refine rC (Calm.move rfl) ?_
      refine rC (Calm.bin rfl rfl b_eql) ?_
      refine arun_nil ?_
      refine athen_n ?_
      refine AWP.sub [(0, _), (1, _), (2, _), (3, _), (4, _), (10, _), (11, _), (12, _), (13, _), (14, _), (56, _)] ⟨rfl, rfl, rfl, rfl, rfl, rfl, rfl, rfl, rfl, rfl, rfl, trivial⟩ ?_
      refine AWP.join (X := Nat × Hint × Array α) (fun x => [(0, .slice (some ⟨b, 0, none⟩) n cap), (1, .int .i64 a1), (2, .int .i64 e1), (3, .int .i64 l2), (4, .func (.func g) #[] cb.toArray), (10, .bool w1), (11, .bool w2), (12, .int .i64 ((e1 - a1 : Nat) : Int)), (13, .int .i64 x.1), (14, .int .i64 (hintI x.2.1))]) (fun x => S.set b ⟨3, (x.2.2).toList.map enc, room⟩) (fun x => a1 ≤ x.1 ∧ x.1 < e1 ∧ Rw okP n x.2.2 ∧ pdq2 (lq cf) x.2.2 a1 e1 l2 w1 w2 x.1 x.2.1 = pdq (lq cf) d a e limit true true) ?_ ?_
      · by_cases hde : ht = .decreasing
        · subst hde
          refine AWP.condT rfl (by first | rfl | (simp; done) | (simp; omega)) ?_
          refine AWP.seq ?_
          refine AWP.region ?_
          refine rC (Calm.move rfl) ?_
          refine rC (Calm.move rfl) ?_
          refine rC (Calm.move rfl) ?_
          refine rC (Calm.move rfl) ?_
          refine ARun.call (lit_lt rfl) go_171 rfl (soC_rev C b room n cap hb hn d1 R1 _ _ a1 e1 rfl rfl (by omega) (by omega)) ?_
          rintro _ _ ⟨rfl, R2⟩
          refine arun_nil ?_
          refine athen_n ?_
          refine AWP.sub [(0, _), (1, _), (2, _), (3, _), (4, _), (10, _), (11, _), (12, _), (13, _), (14, _), (56, _)] ⟨rfl, rfl, rfl, rfl, rfl, rfl, rfl, rfl, rfl, rfl, rfl, trivial⟩ ?_
          refine AWP.seq ?_
          refine AWP.region ?_
          refine rC (Calm.move rfl) ?_
          refine rC (Calm.bin rfl rfl b_sub_i64) ?_
          refine rC (Calm.move rfl) ?_
          refine rC (Calm.move rfl) ?_
          refine rC (Calm.bin rfl rfl b_sub_i64) ?_
          refine rC (Calm.bin rfl rfl b_sub_i64) ?_
          refine rC (Calm.assign rfl) ?_
          refine arun_nil ?_
          refine athen_n ?_
          refine AWP.sub [(0, _), (1, _), (2, _), (3, _), (4, _), (10, _), (11, _), (12, _), (13, _), (14, _), (56, _)] ⟨rfl, rfl, rfl, rfl, rfl, rfl, rfl, rfl, rfl, rfl, rfl, trivial⟩ ?_
          refine AWP.region ?_
          refine rC (Calm.assign rfl) ?_
          refine arun_nil ?_
          refine ⟨(e1 - 1 - (p0 - a1), .increasing, reverseRange d1 a1 e1), ?_, ?_, ?_⟩
          all_goals (try dsimp only)
          · exact ⟨by omega, by omega, R2, by rw [if_pos rfl] at hq; exact hq⟩
          · exact ⟨sb_, sb_, sb_, sb_, sb_, sb_, sb_, sb_, sb_, sb_, trivial⟩
          · exact Mem.Less.refl _
        · have hni := hint_ne hde
          refine AWP.condF rfl (by first | rfl | (simp; done) | (simp; omega)) ?_
          refine AWP.skip ?_
          refine ⟨(p0, ht, d1), ?_, ?_, ?_⟩
          all_goals (try dsimp only)
          · exact ⟨g1, g2, R1, by rw [if_neg hde] at hq; exact hq⟩
          · exact ⟨sb_, sb_, sb_, sb_, sb_, sb_, sb_, sb_, sb_, sb_, trivial⟩
          · exact Mem.Less.refl _
      rintro ⟨pv, hi, d2⟩ ⟨g1, g2, R2, hq⟩
      intro _ _ hs_ hl_
      (try dsimp only at *)
      refine athen_n ?_
      refine AWP.sub _ hs_ (AWP.less _ hl_ ?_)
      clear hs_ hl_
      have z2 := R2.size
      have hh1 := hint_1 hi
      refine AWP.seq ?_
      refine AWP.seq ?_
      refine AWP.join (X := Bool) (fun x => [(0, .slice (some ⟨b, 0, none⟩) n cap), (1, .int .i64 a1), (2, .int .i64 e1), (3, .int .i64 l2), (4, .func (.func g) #[] cb.toArray), (10, .bool w1), (11, .bool w2), (12, .int .i64 ((e1 - a1 : Nat) : Int)), (13, .int .i64 pv), (75, .bool x)]) (fun x => S.set b ⟨3, (d2).toList.map enc, room⟩) (fun x => x = (w1 && w2 && decide (hi = .increasing))) ?_ ?_
      · cases w1
        · refine AWP.region ?_
          refine rC (Calm.move rfl) ?_
          refine rC (Calm.move rfl) ?_
          first | refine rS 69 ?_ | refine rU 69 ?_ | refine rG 69 (Calm.move rfl) ?_
          refine rC ((by first | exact Calm.pickT rfl rfl | exact Calm.pickF rfl rfl)) ?_
          refine rC (Calm.move rfl) ?_
          first | refine rS 72 ?_ | refine rU 72 ?_ | refine rG 72 (Calm.move rfl) ?_
          first | refine rS 72 ?_ | refine rU 72 ?_ | refine rG 72 (Calm.bin rfl rfl b_eql) ?_
          refine rC ((by first | exact Calm.pickT rfl rfl | exact Calm.pickF rfl rfl)) ?_
          refine arun_nil ?_
          refine ⟨false, ?_, ?_, ?_⟩
          all_goals (try dsimp only)
          · rfl
          · exact ⟨sb_, sb_, sb_, sb_, sb_, sb_, sb_, sb_, sb_, sb_, trivial⟩
          · exact Mem.Less.refl _
        · cases w2
          · refine AWP.region ?_
            refine rC (Calm.move rfl) ?_
            refine rC (Calm.move rfl) ?_
            first | refine rS 69 ?_ | refine rU 69 ?_ | refine rG 69 (Calm.move rfl) ?_
            refine rC ((by first | exact Calm.pickT rfl rfl | exact Calm.pickF rfl rfl)) ?_
            refine rC (Calm.move rfl) ?_
            first | refine rS 72 ?_ | refine rU 72 ?_ | refine rG 72 (Calm.move rfl) ?_
            first | refine rS 72 ?_ | refine rU 72 ?_ | refine rG 72 (Calm.bin rfl rfl b_eql) ?_
            refine rC ((by first | exact Calm.pickT rfl rfl | exact Calm.pickF rfl rfl)) ?_
            refine arun_nil ?_
            refine ⟨false, ?_, ?_, ?_⟩
            all_goals (try dsimp only)
            · rfl
            · exact ⟨sb_, sb_, sb_, sb_, sb_, sb_, sb_, sb_, sb_, sb_, trivial⟩
            · exact Mem.Less.refl _
          · refine AWP.region ?_
            refine rC (Calm.move rfl) ?_
            refine rC (Calm.move rfl) ?_
            first | refine rS 69 ?_ | refine rU 69 ?_ | refine rG 69 (Calm.move rfl) ?_
            refine rC ((by first | exact Calm.pickT rfl rfl | exact Calm.pickF rfl rfl)) ?_
            refine rC (Calm.move rfl) ?_
            first | refine rS 72 ?_ | refine rU 72 ?_ | refine rG 72 (Calm.move rfl) ?_
            first | refine rS 72 ?_ | refine rU 72 ?_ | refine rG 72 (Calm.bin rfl rfl (bin_bool (bin_eql _ _) hh1)) ?_
            refine rC ((by first | exact Calm.pickT rfl rfl | exact Calm.pickF rfl rfl)) ?_
            refine arun_nil ?_
            refine ⟨(decide (hi = .increasing)), ?_, ?_, ?_⟩
            all_goals (try dsimp only)
            · simp
            · exact ⟨sb_, sb_, sb_, sb_, sb_, sb_, sb_, sb_, sb_, sb_, trivial⟩
            · exact Mem.Less.refl _
      rintro x hx
      intro _ _ hs_ hl_
      (try dsimp only at *)
      refine athen_n ?_
      refine AWP.sub _ hs_ (AWP.less _ hl_ ?_)
      clear hs_ hl_
      rw [pdq2, ← hx] at hq
      refine AWP.join (X := Array α) (fun x => [(0, .slice (some ⟨b, 0, none⟩) n cap), (1, .int .i64 a1), (2, .int .i64 e1), (3, .int .i64 l2), (4, .func (.func g) #[] cb.toArray), (10, .bool w1), (11, .bool w2), (12, .int .i64 ((e1 - a1 : Nat) : Int)), (13, .int .i64 pv)]) (fun x => S.set b ⟨3, (x).toList.map enc, room⟩) (fun x => Rw okP n x ∧ pdq3 (lq cf) x a1 e1 l2 w1 w2 pv = pdq (lq cf) d a e limit true true) ?_ ?_
      · cases x
        · refine AWP.condF rfl (by first | rfl | (simp; done) | (simp; omega)) ?_
          refine AWP.skip ?_
          refine ⟨d2, ?_, ?_, ?_⟩
          all_goals (try dsimp only)
          · exact ⟨R2, hq⟩
          · exact ⟨sb_, sb_, sb_, sb_, sb_, sb_, sb_, sb_, sb_, trivial⟩
          · exact Mem.Less.refl _
        · refine AWP.condT rfl (by first | rfl | (simp; done) | (simp; omega)) ?_
          obtain ⟨⟨d3, pb⟩, hp3⟩ : ∃ q, q = partialInsertionSort (lq cf) d2 a1 e1 := ⟨_, rfl⟩
          rw [if_pos rfl, ← hp3] at hq
          dsimp only at hq
          refine AWP.seq ?_
          refine AWP.region ?_
          refine rC (Calm.move rfl) ?_
          refine rC (Calm.move rfl) ?_
          refine rC (Calm.move rfl) ?_
          refine rC (Calm.move rfl) ?_
          refine ARun.call (lit_lt rfl) go_172 rfl ((hp3 ▸ soC_pins C b room n cap hb hn d2 R2 _ _ a1 e1 rfl rfl (by omega) (by omega))) ?_
          rintro _ _ ⟨rfl, rfl, R3⟩
          refine arun_nil ?_
          refine athen_n ?_
          refine AWP.sub [(0, _), (1, _), (2, _), (3, _), (4, _), (10, _), (11, _), (12, _), (13, _), (75, _), (80, _)] ⟨rfl, rfl, rfl, rfl, rfl, rfl, rfl, rfl, rfl, rfl, rfl, trivial⟩ ?_
          cases pb
          · refine AWP.condF rfl (by first | rfl | (simp; done) | (simp; omega)) ?_
            refine AWP.skip ?_
            refine ⟨d3, ?_, ?_, ?_⟩
            all_goals (try dsimp only)
            · exact ⟨R3, hq⟩
            · exact ⟨sb_, sb_, sb_, sb_, sb_, sb_, sb_, sb_, sb_, trivial⟩
            · exact Mem.Less.refl _
          · refine AWP.condT rfl (by first | rfl | (simp; done) | (simp; omega)) ?_
            refine AWP.ret ?_
            refine join_ret ?_
            refine athen_ret ?_
            refine ain_ret ?_
            refine athen_ret ?_
            refine ain_ret ?_
            refine ⟨_, _, rfl, Mem.Less.refl _, ?_⟩
            rw [← hq]; exact ⟨rfl, R3⟩
      rintro d3 ⟨R3, hq⟩
      intro _ _ hs_ hl_
      (try dsimp only at *)
      refine athen_n ?_
      refine AWP.sub _ hs_ (AWP.less _ hl_ ?_)
      clear hs_ hl_
      clear hx
      have z3 := R3.size
      refine AWP.seq ?_
      refine AWP.seq ?_
      refine AWP.join (X := Bool) (fun x => [(0, .slice (some ⟨b, 0, none⟩) n cap), (1, .int .i64 a1), (2, .int .i64 e1), (3, .int .i64 l2), (4, .func (.func g) #[] cb.toArray), (10, .bool w1), (11, .bool w2), (12, .int .i64 ((e1 - a1 : Nat) : Int)), (13, .int .i64 pv), (97, .bool x)]) (fun x => S.set b ⟨3, (d3).toList.map enc, room⟩) (fun x => x = (decide (a1 > 0) && !(lq cf) d3[a1 - 1]! d3[pv]!)) ?_ ?_
      · by_cases h0 : 0 < a1
        · refine AWP.draw [(0, true), (1, true), (2, true), (3, true), (4, true), (5, true), (6, true), (7, true), (8, true), (9, true), (10, true), (11, true), (12, true), (13, false), (14, true), (15, true), (16, true)] [] mixed (by kernel_rfl) ?_
          refine dP (hc := fun _ => Calm.move rfl) (h := ?_)
          refine dP (hc := fun _ => Calm.bin rfl rfl b_gtr) (h := ?_)
          refine dP (hc := fun _ => Calm.move rfl) (h := ?_)
          first | refine dS ?_ | refine dU ?_ | refine dG (hc := fun _ => Calm.move rfl) (h := ?_)
          first | refine dS ?_ | refine dU ?_ | refine dG (hc := fun _ => Calm.move rfl) (h := ?_)
          first | refine dS ?_ | refine dU ?_ | refine dG (hc := fun _ => Calm.move rfl) (h := ?_)
          first | refine dS ?_ | refine dU ?_ | refine dG (hc := fun _ => Calm.bin rfl rfl b_sub_i64) (h := ?_)
          first | refine dS ?_ | refine dU ?_ | refine dG (hc := fun _ => Calm.indexS Try.underlying24 ty_size_3 rfl rfl (by omega) (by omega)) (h := ?_)
          first | refine dS ?_ | refine dU ?_ | refine dL (hc := Calm.load ty_plain_3 rfl (rd_row (k := a1 - 1) own_ rw_ rw_)) (h := ?_)
          first | refine dS ?_ | refine dU ?_ | refine dG (hc := fun _ => Calm.move rfl) (h := ?_)
          first | refine dS ?_ | refine dU ?_ | refine dG (hc := fun _ => Calm.move rfl) (h := ?_)
          first | refine dS ?_ | refine dU ?_ | refine dG (hc := fun _ => Calm.indexS Try.underlying24 ty_size_3 rfl rfl (by omega) (by omega)) (h := ?_)
          first | refine dS ?_ | refine dU ?_ | refine dL (hc := Calm.load ty_plain_3 rfl (rd_row (k := pv) own_ rw_ rw_)) (h := ?_)
          refine draw_only rfl ?_
          refine rUn 83 ?_
          refine ARun.callV (first := []) (cap := cb) (lit_lt rfl) C.go rfl rfl (C.call less_ (R3.ok (a1 - 1) rw_) (R3.ok (pv) rw_)) ?_
          rintro _ _ ⟨rfl, rfl⟩
          refine arun_nil ⟨fun _ => less_, ?_⟩
          first | refine dS ?_ | refine dU ?_ | refine dG (hc := fun _ => Calm.bin rfl rfl b_lss) (h := ?_)
          first | refine dS ?_ | refine dU ?_ | refine dG (hc := fun _ => Calm.un rfl (una_not _)) (h := ?_)
          refine dP (hc := fun _ => (by first | exact Calm.pickT rfl rfl | exact Calm.pickF rfl rfl)) (h := ?_)
          refine draw_nil ?_
          refine ⟨(!(lq cf) d3[a1 - 1]! d3[pv]!), ?_, ?_, ?_⟩
          all_goals (try dsimp only)
          · rw [decide_eq_true h0]; rfl
          · exact ⟨sb_, sb_, sb_, sb_, sb_, sb_, sb_, sb_, sb_, sb_, trivial⟩
          · exact Mem.Less.refl _
        · refine AWP.draw [(0, true), (1, true), (2, true), (3, true), (4, true), (5, true), (6, true), (7, true), (8, true), (9, true), (10, true), (11, true), (12, true), (13, false), (14, true), (15, true), (16, true)] [] mixed (by kernel_rfl) ?_
          refine dP (hc := fun _ => Calm.move rfl) (h := ?_)
          refine dP (hc := fun _ => Calm.bin rfl rfl b_gtr) (h := ?_)
          refine dP (hc := fun _ => Calm.move rfl) (h := ?_)
          first | refine dS ?_ | refine dU ?_ | refine dG (hc := fun _ => Calm.move rfl) (h := ?_)
          first | refine dS ?_ | refine dU ?_ | refine dG (hc := fun _ => Calm.move rfl) (h := ?_)
          first | refine dS ?_ | refine dU ?_ | refine dG (hc := fun _ => Calm.move rfl) (h := ?_)
          first | refine dS ?_ | refine dU ?_ | refine dG (hc := fun _ => Calm.bin rfl rfl b_sub_i64) (h := ?_)
          first | refine dS ?_ | refine dU ?_ | refine dG (hc := fun _ => Calm.indexS Try.underlying24 ty_size_3 rfl rfl (by omega) (by omega)) (h := ?_)
          first | refine dS ?_ | refine dU ?_ | refine dL (hc := Calm.load ty_plain_3 rfl (rd_row (k := a1 - 1) own_ rw_ rw_)) (h := ?_)
          first | refine dS ?_ | refine dU ?_ | refine dG (hc := fun _ => Calm.move rfl) (h := ?_)
          first | refine dS ?_ | refine dU ?_ | refine dG (hc := fun _ => Calm.move rfl) (h := ?_)
          first | refine dS ?_ | refine dU ?_ | refine dG (hc := fun _ => Calm.indexS Try.underlying24 ty_size_3 rfl rfl (by omega) (by omega)) (h := ?_)
          first | refine dS ?_ | refine dU ?_ | refine dL (hc := Calm.load ty_plain_3 rfl (rd_row (k := pv) own_ rw_ rw_)) (h := ?_)
          refine draw_only rfl ?_
          first | refine rS 83 ?_ | refine rU 83 ?_
          refine arun_nil ⟨fun _ => less_, ?_⟩
          first | refine dS ?_ | refine dU ?_ | refine dG (hc := fun _ => Calm.bin rfl rfl b_lss) (h := ?_)
          first | refine dS ?_ | refine dU ?_ | refine dG (hc := fun _ => Calm.un rfl (una_not _)) (h := ?_)
          refine dP (hc := fun _ => (by first | exact Calm.pickT rfl rfl | exact Calm.pickF rfl rfl)) (h := ?_)
          refine draw_nil ?_
          refine ⟨false, ?_, ?_, ?_⟩
          all_goals (try dsimp only)
          · rw [decide_eq_false h0]; rfl
          · exact ⟨sb_, sb_, sb_, sb_, sb_, sb_, sb_, sb_, sb_, sb_, trivial⟩
          · exact Mem.Less.refl _
      rintro x hx
      intro _ _ hs_ hl_
      (try dsimp only at *)
      refine athen_n ?_
      refine AWP.sub _ hs_ (AWP.less _ hl_ ?_)
      clear hs_ hl_
      rw [pdq3, ← hx] at hq
      cases x
      · refine AWP.condF rfl (by first | rfl | (simp; done) | (simp; omega)) ?_
        obtain ⟨⟨md, ap, d4⟩, hp4⟩ : ∃ q, q = partition (lq cf) d3 a1 e1 pv := ⟨_, rfl⟩
        rw [if_neg Bool.false_ne_true, ← hp4] at hq
        dsimp only at hq
        refine AWP.skip ?_
        refine athen_n ?_
        refine AWP.seq ?_
        refine AWP.region ?_
        refine rC (Calm.move rfl) ?_
        refine rC (Calm.move rfl) ?_
        refine rC (Calm.move rfl) ?_
        refine rC (Calm.move rfl) ?_
        refine rC (Calm.move rfl) ?_
        refine ARun.call (lit_lt rfl) go_174 rfl ((hp4 ▸ soC_part C b room n cap hb hn d3 R3 _ _ _ a1 e1 pv rfl rfl rfl (by omega) (by omega) (by omega))) ?_
        rintro _ _ ⟨rfl, rfl, R4, g3, g4⟩
        dsimp only at R4 g3 g4
        rw [if_pos ⟨g3, g4⟩] at hq
        refine rC (Calm.move rfl) ?_
        refine rC (Calm.extract rfl rfl) ?_
        refine rC (Calm.extract rfl rfl) ?_
        refine rC (Calm.assign rfl) ?_
        refine rC (Calm.assign rfl) ?_
        refine arun_nil ?_
        refine athen_n ?_
        refine AWP.sub [(0, _), (1, _), (2, _), (3, _), (4, _), (10, _), (11, _), (12, _), (13, _), (97, _), (16, _), (17, _)] ⟨rfl, rfl, rfl, rfl, rfl, rfl, rfl, rfl, rfl, rfl, rfl, rfl, trivial⟩ ?_
        by_cases hmd : md - a1 < e1 - md
        · rw [if_pos hmd] at hq
          refine AWP.seq ?_
          refine AWP.region ?_
          refine rC (Calm.move rfl) ?_
          refine rC (Calm.assign rfl) ?_
          refine arun_nil ?_
          refine athen_n ?_
          refine AWP.sub [(0, _), (1, _), (2, _), (3, _), (4, _), (10, _), (11, _), (12, _), (13, _), (97, _), (16, _), (17, _)] ⟨rfl, rfl, rfl, rfl, rfl, rfl, rfl, rfl, rfl, rfl, rfl, rfl, trivial⟩ ?_
          refine AWP.seq ?_
          refine AWP.region ?_
          refine rC (Calm.move rfl) ?_
          refine rC (Calm.move rfl) ?_
          refine rC (Calm.bin rfl rfl b_sub_i64) ?_
          refine rC (Calm.move rfl) ?_
          refine rC (Calm.move rfl) ?_
          refine rC (Calm.bin rfl rfl b_sub_i64) ?_
          refine rC (Calm.assign rfl) ?_
          refine rC (Calm.assign rfl) ?_
          refine arun_nil ?_
          refine athen_n ?_
          refine AWP.sub [(0, _), (1, _), (2, _), (3, _), (4, _), (10, _), (11, _), (12, _), (13, _), (97, _), (16, _), (17, _), (18, _), (19, _)] ⟨rfl, rfl, rfl, rfl, rfl, rfl, rfl, rfl, rfl, rfl, rfl, rfl, rfl, rfl, trivial⟩ ?_
          refine AWP.seq ?_
          refine AWP.region ?_
          refine rC (Calm.move rfl) ?_
          refine rC (Calm.bin rfl rfl b_quo_i64) ?_
          refine rC (Calm.assign rfl) ?_
          refine arun_nil ?_
          refine athen_n ?_
          refine AWP.sub [(0, _), (1, _), (2, _), (3, _), (4, _), (10, _), (11, _), (12, _), (13, _), (97, _), (16, _), (17, _), (18, _), (19, _), (20, _)] ⟨rfl, rfl, rfl, rfl, rfl, rfl, rfl, rfl, rfl, rfl, rfl, rfl, rfl, rfl, rfl, trivial⟩ ?_
          refine AWP.seq ?_
          refine AWP.region ?_
          refine rC (Calm.move rfl) ?_
          refine rC (Calm.move rfl) ?_
          refine rC (Calm.bin rfl rfl b_lss) ?_
          refine arun_nil ?_
          refine athen_n ?_
          refine AWP.sub [(0, _), (1, _), (2, _), (3, _), (4, _), (10, _), (11, _), (12, _), (13, _), (97, _), (16, _), (17, _), (18, _), (19, _), (20, _), (125, _)] ⟨rfl, rfl, rfl, rfl, rfl, rfl, rfl, rfl, rfl, rfl, rfl, rfl, rfl, rfl, rfl, rfl, trivial⟩ ?_
          refine AWP.condT rfl (by first | rfl | (simp; done) | (simp; omega)) ?_
          refine AWP.seq ?_
          refine AWP.region ?_
          refine rC (Calm.move rfl) ?_
          refine rC (Calm.move rfl) ?_
          refine rC (Calm.bin rfl rfl b_geq) ?_
          refine rC (Calm.assign rfl) ?_
          refine arun_nil ?_
          refine athen_n ?_
          refine AWP.sub [(0, _), (1, _), (2, _), (3, _), (4, _), (10, _), (11, _), (12, _), (13, _), (97, _), (16, _), (17, _), (18, _), (19, _), (20, _), (125, _)] ⟨rfl, rfl, rfl, rfl, rfl, rfl, rfl, rfl, rfl, rfl, rfl, rfl, rfl, rfl, rfl, rfl, trivial⟩ ?_
          refine AWP.seq ?_
          refine AWP.region ?_
          refine rC (Calm.move rfl) ?_
          refine rC (Calm.move rfl) ?_
          refine rC (Calm.move rfl) ?_
          refine rC (Calm.move rfl) ?_
          refine rC (Calm.move rfl) ?_
          refine ARun.call (lit_lt rfl) go_136 rfl (ih (md - a1) (by omega) d4 R4 _ _ _ a1 md l2 rfl rfl rfl (by omega) (by omega) (by omega) rfl) ?_
          rintro _ _ ⟨rfl, R5⟩
          refine arun_nil ?_
          refine athen_n ?_
          refine AWP.sub [(0, _), (1, _), (2, _), (3, _), (4, _), (10, _), (11, _), (12, _), (13, _), (97, _), (16, _), (17, _), (18, _), (19, _), (20, _), (125, _)] ⟨rfl, rfl, rfl, rfl, rfl, rfl, rfl, rfl, rfl, rfl, rfl, rfl, rfl, rfl, rfl, rfl, trivial⟩ ?_
          refine AWP.region ?_
          refine rC (Calm.move rfl) ?_
          refine rC (Calm.bin rfl rfl b_add_i64) ?_
          refine rC (Calm.assign rfl) ?_
          refine arun_nil ?_
          refine ain_n ?_
          refine athen_n ?_
          refine ⟨(md + 1, e1, l2, decide (md - a1 ≥ (e1 - a1) / 8), ap, pdq (lq cf) d4 a1 md l2 true true), ?_, ?_, ?_, ?_⟩
          all_goals (try dsimp only)
          · exact ⟨sb_, sb_, sb_, sb_, sb_, wbv_ (by omega), sb_, trivial⟩
          · exact Mem.Less.refl _
          · exact ⟨by omega, by omega, R5, by omega, by omega, hq⟩
          · omega
        · rw [if_neg hmd] at hq
          refine AWP.seq ?_
          refine AWP.region ?_
          refine rC (Calm.move rfl) ?_
          refine rC (Calm.assign rfl) ?_
          refine arun_nil ?_
          refine athen_n ?_
          refine AWP.sub [(0, _), (1, _), (2, _), (3, _), (4, _), (10, _), (11, _), (12, _), (13, _), (97, _), (16, _), (17, _)] ⟨rfl, rfl, rfl, rfl, rfl, rfl, rfl, rfl, rfl, rfl, rfl, rfl, trivial⟩ ?_
          refine AWP.seq ?_
          refine AWP.region ?_
          refine rC (Calm.move rfl) ?_
          refine rC (Calm.move rfl) ?_
          refine rC (Calm.bin rfl rfl b_sub_i64) ?_
          refine rC (Calm.move rfl) ?_
          refine rC (Calm.move rfl) ?_
          refine rC (Calm.bin rfl rfl b_sub_i64) ?_
          refine rC (Calm.assign rfl) ?_
          refine rC (Calm.assign rfl) ?_
          refine arun_nil ?_
          refine athen_n ?_
          refine AWP.sub [(0, _), (1, _), (2, _), (3, _), (4, _), (10, _), (11, _), (12, _), (13, _), (97, _), (16, _), (17, _), (18, _), (19, _)] ⟨rfl, rfl, rfl, rfl, rfl, rfl, rfl, rfl, rfl, rfl, rfl, rfl, rfl, rfl, trivial⟩ ?_
          refine AWP.seq ?_
          refine AWP.region ?_
          refine rC (Calm.move rfl) ?_
          refine rC (Calm.bin rfl rfl b_quo_i64) ?_
          refine rC (Calm.assign rfl) ?_
          refine arun_nil ?_
          refine athen_n ?_
          refine AWP.sub [(0, _), (1, _), (2, _), (3, _), (4, _), (10, _), (11, _), (12, _), (13, _), (97, _), (16, _), (17, _), (18, _), (19, _), (20, _)] ⟨rfl, rfl, rfl, rfl, rfl, rfl, rfl, rfl, rfl, rfl, rfl, rfl, rfl, rfl, rfl, trivial⟩ ?_
          refine AWP.seq ?_
          refine AWP.region ?_
          refine rC (Calm.move rfl) ?_
          refine rC (Calm.move rfl) ?_
          refine rC (Calm.bin rfl rfl b_lss) ?_
          refine arun_nil ?_
          refine athen_n ?_
          refine AWP.sub [(0, _), (1, _), (2, _), (3, _), (4, _), (10, _), (11, _), (12, _), (13, _), (97, _), (16, _), (17, _), (18, _), (19, _), (20, _), (125, _)] ⟨rfl, rfl, rfl, rfl, rfl, rfl, rfl, rfl, rfl, rfl, rfl, rfl, rfl, rfl, rfl, rfl, trivial⟩ ?_
          refine AWP.condF rfl (by first | rfl | (simp; done) | (simp; omega)) ?_
          refine AWP.seq ?_
          refine AWP.region ?_
          refine rC (Calm.move rfl) ?_
          refine rC (Calm.move rfl) ?_
          refine rC (Calm.bin rfl rfl b_geq) ?_
          refine rC (Calm.assign rfl) ?_
          refine arun_nil ?_
          refine athen_n ?_
          refine AWP.sub [(0, _), (1, _), (2, _), (3, _), (4, _), (10, _), (11, _), (12, _), (13, _), (97, _), (16, _), (17, _), (18, _), (19, _), (20, _), (125, _)] ⟨rfl, rfl, rfl, rfl, rfl, rfl, rfl, rfl, rfl, rfl, rfl, rfl, rfl, rfl, rfl, rfl, trivial⟩ ?_
          refine AWP.seq ?_
          refine AWP.region ?_
          refine rC (Calm.move rfl) ?_
          refine rC (Calm.move rfl) ?_
          refine rC (Calm.bin rfl rfl b_add_i64) ?_
          refine rC (Calm.move rfl) ?_
          refine rC (Calm.move rfl) ?_
          refine rC (Calm.move rfl) ?_
          refine ARun.call (lit_lt rfl) go_136 rfl (ih (e1 - (md + 1)) (by omega) d4 R4 _ _ _ (md + 1) e1 l2 om_ rfl rfl (by omega) (by omega) (by omega) rfl) ?_
          rintro _ _ ⟨rfl, R5⟩
          refine arun_nil ?_
          refine athen_n ?_
          refine AWP.sub [(0, _), (1, _), (2, _), (3, _), (4, _), (10, _), (11, _), (12, _), (13, _), (97, _), (16, _), (17, _), (18, _), (19, _), (20, _), (125, _)] ⟨rfl, rfl, rfl, rfl, rfl, rfl, rfl, rfl, rfl, rfl, rfl, rfl, rfl, rfl, rfl, rfl, trivial⟩ ?_
          refine AWP.region ?_
          refine rC (Calm.move rfl) ?_
          refine rC (Calm.assign rfl) ?_
          refine arun_nil ?_
          refine ain_n ?_
          refine athen_n ?_
          refine ⟨(a1, md, l2, decide (e1 - md ≥ (e1 - a1) / 8), ap, pdq (lq cf) d4 (md + 1) e1 l2 true true), ?_, ?_, ?_, ?_⟩
          all_goals (try dsimp only)
          · exact ⟨sb_, sb_, sb_, sb_, sb_, wbv_ (by omega), sb_, trivial⟩
          · exact Mem.Less.refl _
          · exact ⟨by omega, by omega, R5, by omega, by omega, hq⟩
          · omega
      · refine AWP.condT rfl (by first | rfl | (simp; done) | (simp; omega)) ?_
        obtain ⟨⟨md, d4⟩, hp4⟩ : ∃ q, q = partitionEqual (lq cf) d3 a1 e1 pv := ⟨_, rfl⟩
        rw [if_pos rfl, ← hp4] at hq
        dsimp only at hq
        refine AWP.seq ?_
        refine AWP.region ?_
        refine rC (Calm.move rfl) ?_
        refine rC (Calm.move rfl) ?_
        refine rC (Calm.move rfl) ?_
        refine rC (Calm.move rfl) ?_
        refine rC (Calm.move rfl) ?_
        refine ARun.call (lit_lt rfl) go_173 rfl ((hp4 ▸ soC_parteq C b room n cap hb hn d3 R3 _ _ _ a1 e1 pv rfl rfl rfl (by omega) (by omega) (by omega))) ?_
        rintro _ _ ⟨rfl, rfl, R4, g3, g4⟩
        dsimp only at R4 g3 g4
        rw [if_pos ⟨g3, g4⟩] at hq
        refine rC (Calm.assign rfl) ?_
        refine arun_nil ?_
        refine athen_n ?_
        refine AWP.sub [(0, _), (1, _), (2, _), (3, _), (4, _), (10, _), (11, _), (12, _), (13, _), (97, _), (15, _)] ⟨rfl, rfl, rfl, rfl, rfl, rfl, rfl, rfl, rfl, rfl, rfl, trivial⟩ ?_
        refine AWP.seq ?_
        refine AWP.region ?_
        refine rC (Calm.move rfl) ?_
        refine rC (Calm.assign rfl) ?_
        refine arun_nil ?_
        refine athen_n ?_
        refine AWP.sub [(0, _), (1, _), (2, _), (3, _), (4, _), (10, _), (11, _), (12, _), (13, _), (97, _), (15, _)] ⟨rfl, rfl, rfl, rfl, rfl, rfl, rfl, rfl, rfl, rfl, rfl, trivial⟩ ?_
        refine AWP.exit ?_
        refine athen_exit ?_
        refine ain_same ?_
        refine athen_n ?_
        refine ⟨(md, e1, l2, w1, w2, d4), ?_, ?_, ?_, ?_⟩
        all_goals (try dsimp only)
        · exact ⟨sb_, sb_, sb_, sb_, sb_, sb_, sb_, trivial⟩
        · exact Mem.Less.refl _
        · exact ⟨by omega, by omega, R4, by omega, by omega, hq⟩
        · omega
set_option maxHeartbeats 1000000 in
theorem soC_sort {α : Type} [Inhabited α] {enc : α → Value} {cf : α → α → Int} {okP : α → Prop} {g : Nat} {cb : List Value} {S : Mem} (C : CmpC Try.prog enc cf okP g cb S) (b room n cap : Nat) (hb : Fresh S b) (hn : n ≤ 1048576) (d : Array α) (R : Rw okP n d) :
    ACall Try.prog 101 #[.slice (some ⟨b, 0, none⟩) n cap, .func (.func g) #[] cb.toArray] (S.set b ⟨3, (d).toList.map enc, room⟩) fun r S' => S' = S.set b ⟨3, (pdq (lq cf) d 0 n (bitsLen n) true true).toList.map enc, room⟩ ∧ Rw okP n (pdq (lq cf) d 0 n (bitsLen n) true true) := by
  have hbl := bitsLen_small n hn
  refine ACall.enter (args := [.slice (some ⟨b, 0, none⟩) n cap, .func (.func g) #[] cb.toArray]) (rs := []) 14 [(0, .slice (some ⟨b, 0, none⟩) n cap), (1, .func (.func g) #[] cb.toArray)] Try.func101 rfl rfl (Nat.le_of_ble_eq_true rfl) rfl ⟨rfl, rfl, trivial⟩ ?_
  refine AWP.seq ?_
  refine AWP.region ?_
  refine rC (Calm.move rfl) ?_
  refine rC (Calm.lenSl Try.underlying24 rfl) ?_
  refine rC (Calm.assign rfl) ?_
  refine arun_nil ?_
  refine athen_n ?_
  refine AWP.sub [(0, _), (1, _), (4, _)] ⟨rfl, rfl, rfl, trivial⟩ ?_
  refine AWP.region ?_
  refine rC (Calm.move rfl) ?_
  refine rC (Calm.move rfl) ?_
  refine rC (Calm.move rfl) ?_
  refine rC (Calm.conv rfl (by first | exact conv_intW Try.underlying3 Try.underlying139 (IntWalk.u64_in _ (by omega)) | exact conv_int Try.underlying3 Try.underlying139)) ?_
  refine ARun.call (lit_lt rfl) go_122 rfl (so_Len n (by omega) _) ?_
  rintro _ _ ⟨rfl, rfl⟩
  refine rC (Calm.move rfl) ?_
  refine ARun.call (lit_lt rfl) go_136 rfl (soC_pdq C b room n cap hb hn (n - 0) d R _ _ _ 0 n (bitsLen n) rfl rfl rfl (Nat.zero_le _) (Nat.le_refl _) (by omega) rfl) ?_
  rintro _ _ ⟨rfl, R1⟩
  refine arun_nil ?_
  refine ⟨_, _, rfl, Mem.Less.refl _, ?_⟩
  exact ⟨rfl, R1⟩
theorem soC_ins0 (fv : Value) (S : Mem) : ACall Try.prog 167 #[.slice none 0 0, .int .i64 0, .int .i64 0, fv] S fun r S' => S' = S := by
  refine ACall.enter (args := [.slice none 0 0, .int .i64 0, .int .i64 0, fv]) (rs := []) 53 [(0, .slice none 0 0), (1, .int .i64 0), (2, .int .i64 0), (3, fv)] Try.func167 rfl rfl (Nat.le_of_ble_eq_true rfl) rfl ⟨rfl, rfl, rfl, rfl, trivial⟩ ?_
  refine AWP.seq ?_
  refine AWP.region ?_
  refine rC (Calm.move rfl) ?_
  refine rC (Calm.bin rfl rfl b_add_i64) ?_
  refine rC (Calm.assign rfl) ?_
  refine arun_nil ?_
  refine athen_n ?_
  refine AWP.sub [(0, _), (1, _), (2, _), (3, _), (8, _)] ⟨rfl, rfl, rfl, rfl, rfl, trivial⟩ ?_
  refine AWP.block ?_
  refine AWP.loop (X := Unit) (fun _ => [(0, .slice none 0 0), (2, .int .i64 0), (8, .int .i64 1)]) (fun _ => S) (fun _ => True) (fun _ => 0) (()) ⟨sb_, sb_, sb_, trivial⟩ (Mem.Less.refl _) (trivial) ?_
  rintro _ _
  (try dsimp only at *)
  refine AWP.seq ?_
  refine AWP.seq ?_
  refine AWP.region ?_
  refine rC (Calm.move rfl) ?_
  refine rC (Calm.move rfl) ?_
  refine rC (Calm.bin rfl rfl b_lss) ?_
  refine arun_nil ?_
  refine athen_n ?_
  refine AWP.sub [(0, _), (2, _), (8, _), (14, _)] ⟨rfl, rfl, rfl, rfl, trivial⟩ ?_
  refine AWP.condF rfl (by first | rfl | (simp; done) | (simp; omega)) ?_
  refine AWP.exit ?_
  refine athen_exit ?_
  refine athen_exit ?_
  refine ain_same ?_
  refine ⟨_, S, rfl, Mem.Less.refl _, ?_⟩
  exact rfl
theorem soC_pdq0 (fv : Value) (S : Mem) : ACall Try.prog 136 #[.slice none 0 0, .int .i64 0, .int .i64 0, .int .i64 0, fv] S fun r S' => S' = S := by
  refine ACall.enter (args := [.slice none 0 0, .int .i64 0, .int .i64 0, .int .i64 0, fv]) (rs := []) 148 [(0, .slice none 0 0), (1, .int .i64 0), (2, .int .i64 0), (3, .int .i64 0), (4, fv)] Try.func136 rfl rfl (Nat.le_of_ble_eq_true rfl) rfl ⟨rfl, rfl, rfl, rfl, rfl, trivial⟩ ?_
  refine AWP.seq ?_
  refine AWP.region ?_
  refine rC (Calm.assign rfl) ?_
  refine arun_nil ?_
  refine athen_n ?_
  refine AWP.seq ?_
  refine AWP.region ?_
  refine rC (Calm.assign rfl) ?_
  refine arun_nil ?_
  refine athen_n ?_
  refine AWP.block ?_
  refine AWP.loop (X := Unit) (fun _ => [(0, .slice none 0 0), (1, .int .i64 0), (2, .int .i64 0), (4, fv)]) (fun _ => S) (fun _ => True) (fun _ => 0) (()) ⟨rfl, rfl, rfl, rfl, trivial⟩ (Mem.Less.refl _) (trivial) ?_
  rintro _ _
  (try dsimp only at *)
  refine AWP.block ?_
  refine AWP.seq ?_
  refine AWP.region ?_
  refine rC (Calm.move rfl) ?_
  refine rC (Calm.move rfl) ?_
  refine rC (Calm.bin rfl rfl b_sub_i64) ?_
  refine rC (Calm.assign rfl) ?_
  refine arun_nil ?_
  refine athen_n ?_
  refine AWP.sub [(0, _), (1, _), (2, _), (4, _), (12, _)] ⟨rfl, rfl, rfl, rfl, rfl, trivial⟩ ?_
  refine AWP.seq ?_
  refine AWP.seq ?_
  refine AWP.region ?_
  refine rC (Calm.move rfl) ?_
  refine rC (Calm.bin rfl rfl b_leq) ?_
  refine arun_nil ?_
  refine athen_n ?_
  refine AWP.sub [(0, _), (1, _), (2, _), (4, _), (12, _), (25, _)] ⟨rfl, rfl, rfl, rfl, rfl, rfl, trivial⟩ ?_
  refine AWP.condT rfl (by first | rfl | (simp; done) | (simp; omega)) ?_
  refine AWP.seq ?_
  refine AWP.region ?_
  refine rC (Calm.move rfl) ?_
  refine rC (Calm.move rfl) ?_
  refine rC (Calm.move rfl) ?_
  refine rC (Calm.move rfl) ?_
  refine ARun.call (lit_lt rfl) go_167 rfl (soC_ins0 fv S) ?_
  rintro _ S1 h1
  rw [h1]; clear h1 S1
  refine arun_nil ?_
  refine athen_n ?_
  refine AWP.sub [(0, _), (1, _), (2, _), (4, _), (12, _), (25, _)] ⟨rfl, rfl, rfl, rfl, rfl, rfl, trivial⟩ ?_
  refine AWP.ret ?_
  refine athen_ret ?_
  refine ain_ret ?_
  refine athen_ret ?_
  refine ain_ret ?_
  refine ⟨_, S, rfl, Mem.Less.refl _, ?_⟩
  exact rfl
theorem soC_sort0 (fv : Value) (S : Mem) : ACall Try.prog 101 #[.slice none 0 0, fv] S fun r S' => S' = S := by
  refine ACall.enter (args := [.slice none 0 0, fv]) (rs := []) 14 [(0, .slice none 0 0), (1, fv)] Try.func101 rfl rfl (Nat.le_of_ble_eq_true rfl) rfl ⟨rfl, rfl, trivial⟩ ?_
  refine AWP.seq ?_
  refine AWP.region ?_
  refine rC (Calm.move rfl) ?_
  refine rC (Calm.lenSl Try.underlying24 rfl) ?_
  refine rC (Calm.assign rfl) ?_
  refine arun_nil ?_
  refine athen_n ?_
  refine AWP.sub [(0, _), (1, _), (4, _)] ⟨rfl, rfl, rfl, trivial⟩ ?_
  refine AWP.region ?_
  refine rC (Calm.move rfl) ?_
  refine rC (Calm.move rfl) ?_
  refine rC (Calm.move rfl) ?_
  refine rC (Calm.conv rfl (by first | exact conv_intW Try.underlying3 Try.underlying139 (IntWalk.u64_in _ (by omega)) | exact conv_int Try.underlying3 Try.underlying139)) ?_
  refine ARun.call (lit_lt rfl) go_122 rfl (so_Len 0 (by omega) _) ?_
  rintro _ S1 ⟨rfl, h1⟩
  rw [h1]; clear h1 S1
  refine rC (Calm.move rfl) ?_
  refine ARun.call (lit_lt rfl) go_136 rfl (soC_pdq0 fv S) ?_
  rintro _ S1 h1
  rw [h1]; clear h1 S1
  refine arun_nil ?_
  refine ⟨_, S, rfl, Mem.Less.refl _, ?_⟩
  exact rfl
end Go.Proofs.Ytgidjbpgkeemiaa
namespace Go.Proofs.Ytgidjbpgkeemiaa
open Go.RowKit
open Mv Num Loser Skew
set_option linter.unusedVariables false
set_option linter.unusedSimpArgs false
set_option maxRecDepth 4000
/-- A level behind a pointer. -/
def LvR (S : Mem) (p : Nat) (l : List Nat) : Prop := ∃ vt vs, S.Knows ⟨p, 0, none⟩ [vt] ∧ S.Knows ⟨p, 1, none⟩ [vs] ∧ RowR S vt l ∧ IdxR S vs (places l.length)
theorem LvR.less {S S' : Mem} {p : Nat} {l : List Nat} (h : LvR S p l) (hl : S.Less S') : LvR S' p l := by
  obtain ⟨vt, vs, h1, h2, h3, h4⟩ := h
  exact ⟨vt, vs, h1.less hl, h2.less hl, h3.less hl, h4.less hl⟩
theorem places_getD {n k : Nat} (hk : k < numP n) : plc n k = (places n)[k]'hk := by
  unfold plc; rw [List.getD_eq_getElem?_getD, List.getElem?_eq_getElem hk]; rfl
set_option maxHeartbeats 1000000 in
theorem sk_key (ii : Int) (k c p : Nat) (l : List Nat) (ei : ii = k) (S : Mem) (hc : S.Knows ⟨c, 0, none⟩ [.pointer (some ⟨p, 0, none⟩)]) (hv : LvR S p l) (hk : k < numP l.length) (hl : l.length ≤ 4096) :
    ACall Try.prog 100 #[.int .i64 ii, .pointer (some ⟨c, 0, none⟩)] S fun r S' => S.Less S' ∧ RowR S' r (tkey l k) := by
  subst ei
  obtain ⟨vt, vs, h1, h2, h3, h4⟩ := hv
  obtain ⟨ps, pc, rfl, p1, p2, p3⟩ := id h4
  obtain ⟨pb, po, rfl, hkn⟩ := p3.resolve_left (fun e => by unfold numP at hk; rw [e] at hk; exact absurd hk (Nat.not_lt_zero _))
  have hki : S.Knows ⟨pb, po + k * 1, none⟩ [.int .i64 (plc l.length k : Int)] := by rw [places_getD hk]; exact hkn k hk
  have hkl : (k : Int) < ((places l.length).length : Nat) := by unfold numP at hk; omega
  have hpl := (plc_lt l.length k hk).2.2
  unfold tkey
  refine ACall.enter (args := [.int .i64 (k : Int), .pointer (some ⟨c, 0, none⟩)]) (rs := [.tmp 3]) 18 [(0, .int .i64 (k : Int)), (1, .pointer (some ⟨c, 0, none⟩))] Try.func100 rfl rfl (Nat.le_of_ble_eq_true rfl) rfl ⟨rfl, rfl, trivial⟩ ?_
  refine AWP.seq ?_
  refine AWP.region ?_
  refine rC (Calm.assign rfl) ?_
  refine arun_nil ?_
  refine athen_n ?_
  refine AWP.seq ?_
  refine AWP.drawG [13] mixed ?_
  refine DG.look 0 (by kernel_rfl) (by kernel_rfl) rfl rfl rfl rfl (lit_lt rfl) less_ (ld_ ty_plain_76 rfl) ?_
  refine DG.pure 1 (by kernel_rfl) (by kernel_rfl) rfl rfl rfl rfl (lit_lt rfl) (fun _ => Calm.nilCheck rfl) ?_
  refine DG.pure 2 (by kernel_rfl) (by kernel_rfl) rfl rfl rfl rfl (lit_lt rfl) (fun _ => Calm.fieldAddr ty_field_78_0 rfl) ?_
  refine DG.look 3 (by kernel_rfl) (by kernel_rfl) rfl rfl rfl rfl (lit_lt rfl) less_ (ld_ ty_plain_72 rfl) ?_
  refine DG.look 4 (by kernel_rfl) (by kernel_rfl) rfl rfl rfl rfl (lit_lt rfl) less_ (ld_ ty_plain_76 rfl) ?_
  refine DG.pure 5 (by kernel_rfl) (by kernel_rfl) rfl rfl rfl rfl (lit_lt rfl) (fun _ => Calm.nilCheck rfl) ?_
  refine DG.pure 6 (by kernel_rfl) (by kernel_rfl) rfl rfl rfl rfl (lit_lt rfl) (fun _ => Calm.fieldAddr ty_field_78_1 rfl) ?_
  refine DG.look 7 (by kernel_rfl) (by kernel_rfl) rfl rfl rfl rfl (lit_lt rfl) less_ (ld_ ty_plain_24 rfl) ?_
  refine DG.pure 8 (by kernel_rfl) (by kernel_rfl) rfl rfl rfl rfl (lit_lt rfl) (fun _ => Calm.move rfl) ?_
  refine DG.pure 9 (by kernel_rfl) (by kernel_rfl) rfl rfl rfl rfl (lit_lt rfl) (fun _ => Calm.indexS Try.underlying24 ty_size_3 rfl rfl (by omega) (by omega)) ?_
  refine DG.look 10 (by kernel_rfl) (by kernel_rfl) rfl rfl rfl rfl (lit_lt rfl) less_ (ld_ ty_plain_3 rfl) ?_
  refine DG.two 11 12 (by kernel_rfl) rfl ?_ rfl ?_
  · refine ARun.call (lit_lt rfl) go_61 rfl (sk_triple vt l _ (plc l.length k) rfl _ (h3.less less_) (by omega)) ?_
    rintro _ S1 ⟨rfl, h5⟩
    rw [h5]; clear h5 S1
    unfold triV
    refine arun_nil ⟨fun _ => less_, ?_⟩
    refine DG.only 12 (by kernel_rfl) rfl ?_
    refine ARun.alloc (lit_lt rfl) ty_zero_71 ?_
    intro b4 f4
    have g4 := f4
    repeat ((with_reducible replace g4 := fresh_set g4); obtain ⟨g4, _⟩ := g4)
    (try simp only [List.length_cons, List.length_nil, Nat.zero_add, Nat.reduceAdd])
    refine arun_nil ⟨fun _ => less_, ?_⟩
    refine DG.only 13 (by kernel_rfl) rfl ?_
    first | refine ARun.storeAll rfl rfl ty_size_71 own_ rfl rfl ?_ | refine ARun.store rfl rfl ty_size_71 own_ lens_ rfl ?_
    (try simp only [Mem.set_set, List.set_cons_zero, List.set_cons_succ, Nat.zero_add, Nat.reduceAdd])
    refine arun_nil ⟨fun h => absurd h (by decide), ?_⟩
    refine DG.end_ (by kernel_rfl) ?_
    refine athen_n ?_
    refine AWP.sub [(0, _), (1, _), (3, _), (4, _)] ⟨rfl, rfl, rfl, rfl, trivial⟩ ?_
    refine AWP.seq ?_
    refine AWP.region ?_
    refine rC (Calm.sliceArr Try.underlying71 ty_size_41 rfl (bnd_none _ _)) ?_
    refine rC (Calm.assign rfl) ?_
    refine arun_nil ?_
    refine athen_n ?_
    refine AWP.sub [(0, _), (1, _), (3, _), (4, _)] ⟨rfl, rfl, rfl, rfl, trivial⟩ ?_
    refine AWP.ret ?_
    refine ⟨_, _, ⟨_, _, rfl, rfl, rfl⟩, Mem.Less.refl _, ?_⟩
    exact ⟨less_, Sl.own1 (g := gU) (l := tri l (plc l.length k)) (Mem.own_set_same _ _ _) List.prefix_rfl rfl (Nat.le_refl _) (by decide)⟩
  · refine ARun.alloc (lit_lt rfl) ty_zero_71 ?_
    intro b4 f4
    have g4 := f4
    repeat ((with_reducible replace g4 := fresh_set g4); obtain ⟨g4, _⟩ := g4)
    (try simp only [List.length_cons, List.length_nil, Nat.zero_add, Nat.reduceAdd])
    refine arun_nil ⟨fun _ => less_, ?_⟩
    refine DG.only 11 (by kernel_rfl) rfl ?_
    refine ARun.call (lit_lt rfl) go_61 rfl (sk_triple vt l _ (plc l.length k) rfl _ (h3.less less_) (by omega)) ?_
    rintro _ _ ⟨rfl, rfl⟩
    unfold triV
    refine arun_nil ⟨fun _ => less_, ?_⟩
    refine DG.only 13 (by kernel_rfl) rfl ?_
    first | refine ARun.storeAll rfl rfl ty_size_71 own_ rfl rfl ?_ | refine ARun.store rfl rfl ty_size_71 own_ lens_ rfl ?_
    (try simp only [Mem.set_set, List.set_cons_zero, List.set_cons_succ, Nat.zero_add, Nat.reduceAdd])
    refine arun_nil ⟨fun h => absurd h (by decide), ?_⟩
    refine DG.end_ (by kernel_rfl) ?_
    refine athen_n ?_
    refine AWP.sub [(0, _), (1, _), (3, _), (4, _)] ⟨rfl, rfl, rfl, rfl, trivial⟩ ?_
    refine AWP.seq ?_
    refine AWP.region ?_
    refine rC (Calm.sliceArr Try.underlying71 ty_size_41 rfl (bnd_none _ _)) ?_
    refine rC (Calm.assign rfl) ?_
    refine arun_nil ?_
    refine athen_n ?_
    refine AWP.sub [(0, _), (1, _), (3, _), (4, _)] ⟨rfl, rfl, rfl, rfl, trivial⟩ ?_
    refine AWP.ret ?_
    refine ⟨_, _, ⟨_, _, rfl, rfl, rfl⟩, Mem.Less.refl _, ?_⟩
    exact ⟨less_, Sl.own1 (g := gU) (l := tri l (plc l.length k)) (Mem.own_set_same _ _ _) List.prefix_rfl rfl (Nat.le_refl _) (by decide)⟩
def keyF (c : Nat) : Value := .func (.func 100) #[] #[.pointer (some ⟨c, 0, none⟩)]
set_option maxHeartbeats 1000000 in
theorem sk_kcmp (a b c6 c p : Nat) (l : List Nat) (S : Mem) (h6 : S.Knows ⟨c6, 0, none⟩ [keyF c]) (hc : S.Knows ⟨c, 0, none⟩ [.pointer (some ⟨p, 0, none⟩)]) (hv : LvR S p l) (ha : a < numP l.length) (hb : b < numP l.length) (hl : l.length ≤ 4096) :
    ACall Try.prog 102 #[gI a, gI b, .pointer (some ⟨c6, 0, none⟩)] S fun r S' => r = .int .i64 (cmpB (tkey l a) (tkey l b)) ∧ S' = S := by
  unfold gI keyF at *
  refine ACall.enter (args := [.int .i64 (a : Int), .int .i64 (b : Int), .pointer (some ⟨c6, 0, none⟩)]) (rs := [.tmp 5]) 13 [(0, .int .i64 (a : Int)), (1, .int .i64 (b : Int)), (2, .pointer (some ⟨c6, 0, none⟩))] Try.func102 rfl rfl (Nat.le_of_ble_eq_true rfl) rfl ⟨rfl, rfl, rfl, trivial⟩ ?_
  refine AWP.seq ?_
  refine AWP.region ?_
  refine rC (Calm.assign rfl) ?_
  refine arun_nil ?_
  refine athen_n ?_
  refine AWP.seq ?_
  refine AWP.draw [(0, true), (1, true), (3, true), (4, true), (2, false), (5, false), (6, false), (7, true)] [] mixed (by kernel_rfl) ?_
  refine dC (hc := ld_ ty_plain_118 rfl) (h := ?_)
  refine dP (hc := fun _ => Calm.move rfl) (h := ?_)
  refine dC (hc := ld_ ty_plain_118 rfl) (h := ?_)
  refine dP (hc := fun _ => Calm.move rfl) (h := ?_)
  refine draw_only rfl ?_
  refine ARun.callV (lit_lt rfl) go_100 rfl rfl (sk_key _ a c p l rfl _ hc hv ha hl) ?_
  rintro va S1 ⟨hS1, hva⟩
  refine arun_nil ⟨fun _ => less_, ?_⟩
  refine draw_only rfl ?_
  refine ARun.callV (lit_lt rfl) go_100 rfl rfl (sk_key _ b c p l rfl _ (hc.less hS1) (hv.less hS1) hb hl) ?_
  rintro vb S2 ⟨hS12, hvb⟩
  have hS2 := hS1.trans hS12
  refine arun_nil ⟨fun _ => less_, ?_⟩
  refine draw_only rfl ?_
  refine ARun.call (lit_lt rfl) go_69 rfl (numV_Compare _ _ va vb _ (hva.less hS12) hvb) ?_
  rintro _ S3 ⟨rfl, h3⟩
  rw [h3]; clear h3 S3
  refine arun_nil ⟨fun _ => less_, ?_⟩
  refine dP (hc := fun _ => Calm.assign rfl) (h := ?_)
  refine draw_nil ?_
  refine athen_n ?_
  refine AWP.sub [(0, _), (1, _), (2, _), (5, _)] ⟨rfl, rfl, rfl, rfl, trivial⟩ ?_
  refine AWP.ret ?_
  refine ⟨_, S, ⟨_, _, rfl, rfl, rfl⟩, hS2, ?_⟩
  exact ⟨rfl, rfl⟩
end Go.Proofs.Ytgidjbpgkeemiaa
namespace Go.Proofs.Ytgidjbpgkeemiaa
open Go.RowKit
open Mv Num Loser Skew Srt
set_option linter.unusedVariables false
set_option linter.unusedSimpArgs false
set_option maxRecDepth 4000
theorem bin_arr3 {P : Program} {t e : TypeId} {x y : Operand} (ht : P.underlying t = some (.array 3 e)) (he : sizeT P e = some 1) (hi : P.underlying e = some (.int .u64)) (hg : P.eqGuardType P.depth t = false) (a0 a1 a2 b0 b1 b2 : Nat) :
    Bin P .neq t x y (.agg #[gU a0, gU a1, gU a2]) (.agg #[gU b0, gU b1, gU b2]) (.bool (!decide ([a0, a1, a2] = [b0, b1, b2]))) := fun w => by
  have hs := run_sizeT he w
  have h1 : ∀ d a b, (Op.equalIn (d + 1) e (gU a) (gU b)).run P w = .ok (decide (a = b)) w := fun d a b => by
    unfold gU
    rw [run_equalIn_int w d e .u64 .u64 _ _ hi]
    congr 1
    rw [Bool.eq_iff_iff]; simp only [beq_iff_eq, decide_eq_true_eq]; omega
  simp only [Sem.run_bind, run_eqGuard_agg w .neq t x y _ _ hg, Result.andThen_ok, run_neq_struct]
  have hE : ∀ d, (Op.equalIn (d + 1 + 1) t (.agg #[gU a0, gU a1, gU a2]) (.agg #[gU b0, gU b1, gU b2])).run P w = .ok (decide ([a0, a1, a2] = [b0, b1, b2])) w := fun d => by
    have hp : ∀ (cs : Array Value) (k : Nat) (v : Value), cs[k]? = some v → (part e cs k).run P w = .ok v w := fun cs k v hv => by
      have hpl : plainT P e = true := by unfold plainT; rw [hi]
      simp only [part, Sem.run_bind, run_isAgg_f hpl, Result.andThen_ok, Bool.false_eq_true, if_false, hv, Sem.run_pure]
    rw [Op.equalIn]
    simp only [Sem.run_bind, run_underlying ht, Result.andThen_ok, hs, Std.Legacy.Range.forIn_eq_forIn_range', Std.Legacy.Range.size, Nat.sub_zero, Nat.add_sub_cancel, Nat.div_one, List.range'_succ, List.range'_zero, List.forIn_cons, List.forIn_nil]
    have p0 : ∀ u0 u1 u2 : Value, (part e #[u0, u1, u2] 0).run P w = .ok u0 w := fun u0 u1 u2 => hp _ 0 _ rfl
    have p1 : ∀ u0 u1 u2 : Value, (part e #[u0, u1, u2] 1).run P w = .ok u1 w := fun u0 u1 u2 => hp _ 1 _ rfl
    have p2 : ∀ u0 u1 u2 : Value, (part e #[u0, u1, u2] 2).run P w = .ok u2 w := fun u0 u1 u2 => hp _ 2 _ rfl
    by_cases c0 : a0 = b0 <;> by_cases c1 : a1 = b1 <;> by_cases c2 : a2 = b2 <;> simp [c0, c1, c2, p0, p1, p2, h1]
  rw [hE 9998]; rfl
def redM (S : Mem) (b1 b6 p : Nat) : Mem := (S.set b1 ⟨76, [.pointer (some ⟨p, 0, none⟩)], 1⟩).set b6 ⟨118, [keyF b1], 1⟩
/-- What the sort hands back. -/
theorem sorted_keys (l : List Nat) (m : Nat) (d' : Array Nat) (hd : d' = Go.Sort.pdq (lq fun a b => cmpB (tkey l a) (tkey l b)) (List.range m).toArray 0 m (Go.Sort.bitsLen m) true true) :
    d'.toList.Perm (List.range m) ∧ ∀ i j, i < j → j < d'.toList.length → lessB (tkey l (d'.toList.getD j 0)) (tkey l (d'.toList.getD i 0)) = false := by
  have hO : Go.Sort.SWO (lq fun a b => cmpB (tkey l a) (tkey l b)) := by
    have e : ∀ a b, lq (fun a b => cmpB (tkey l a) (tkey l b)) a b = lessB (tkey l a) (tkey l b) := fun a b => cmpB_lt _ _
    exact ⟨fun a => by rw [e]; exact lessB_irrefl _, fun a b c => by rw [e, e, e]; exact lessB_trans _ _ _, fun a b c => by rw [e, e, e]; exact Ord.lessB_neg _ _ _⟩
  have hsz : (List.range m).toArray.size = m := by simp
  obtain ⟨h1, h2⟩ := Go.Sort.pdq_sorts _ hO (List.range m).toArray 0 m (Go.Sort.bitsLen m) true true (Nat.zero_le _) (by rw [hsz]; exact Nat.le_refl _) (Or.inl rfl)
  rw [← hd] at h1 h2
  have hs : d'.size = m := by rw [h1.1, hsz]
  have hp : d'.toList.Perm (List.range m) := by
    have := h1.2.2
    rw [show d'.extract 0 m = d' by rw [← hs]; simp, show (List.range m).toArray.extract 0 m = (List.range m).toArray by simp] at this
    simpa using this
  refine ⟨hp, fun i j hij hj => ?_⟩
  have hj' : j < m := by simpa [hs] using hj
  have := h2 i j (Nat.zero_le _) hij hj'
  unfold lq at this
  rw [cmpB_lt] at this
  rw [getD_get _ _ _ hj, getD_get _ _ _ (by omega)]
  rw [getElem!_pos d' j (by omega), getElem!_pos d' i (by omega)] at this
  simpa using this
theorem names_out (l e o : List Nat) (hp : e.Perm (List.range (numP l.length))) (hs : ∀ i j, i < j → j < e.length → lessB (tkey l (e.getD j 0)) (tkey l (e.getD i 0)) = false) (ho : o.length = numP l.length)
    (hat : ∀ j, j < e.length → o.getD (e.getD j 0) 0 = 1 + Ord.ups (fun a b => lessB (tkey l a) (tkey l b)) e j) : o = red l := by
  have hn := ups_names (tkey l) _ e hp hs
  refine List.ext_getElem (by rw [ho, red_length]) fun k h1 h2 => ?_
  obtain ⟨j, hj, e1⟩ := List.getElem_of_mem (hp.mem_iff.2 (List.mem_range.2 (by rw [← ho]; exact h1)))
  have hj2 : e.getD j 0 = k := by rw [getD_get _ _ _ hj]; exact e1
  have := hat j hj
  rw [hn j hj, hj2, getD_get _ _ _ h1] at this
  rw [this, red_at]; rfl
theorem names_next (l e : List Nat) (i : Nat) (hs : ∀ i j, i < j → j < e.length → lessB (tkey l (e.getD j 0)) (tkey l (e.getD i 0)) = false) (hi : i < e.length) :
    (if (decide (i = 0) || !decide (tkey l (e.getD (i - 1) 0) = tkey l (e.getD i 0))) = true then (if i = 0 then 0 else 1 + Ord.ups (fun a b => lessB (tkey l a) (tkey l b)) e (i - 1)) + 1 else (if i = 0 then 0 else 1 + Ord.ups (fun a b => lessB (tkey l a) (tkey l b)) e (i - 1))) = 1 + Ord.ups (fun a b => lessB (tkey l a) (tkey l b)) e i := by
  cases i with
  | zero => rfl
  | succ i =>
    rw [if_neg (Nat.succ_ne_zero i), Nat.add_sub_cancel, Ord.ups]
    have h1 := hs i (i + 1) (by omega) hi
    by_cases hk : tkey l (e.getD i 0) = tkey l (e.getD (i + 1) 0)
    · rw [decide_eq_false (Nat.succ_ne_zero i), Bool.false_or, decide_eq_true hk, hk, lessB_irrefl]; rfl
    · have h2 : lessB (tkey l (e.getD i 0)) (tkey l (e.getD (i + 1) 0)) = true := by
        cases hc : lessB (tkey l (e.getD i 0)) (tkey l (e.getD (i + 1) 0)) with
        | true => rfl
        | false => exact absurd (lessB_total _ _ hc h1) hk
      rw [decide_eq_false (Nat.succ_ne_zero i), Bool.false_or, decide_eq_false hk, h2, if_pos rfl]; show 1 + _ + 1 = _; omega
theorem names_set (l e o : List Nat) {m i k nx : Nat} (hp : e.Perm (List.range m)) (ho : o.length = m) (hi : i < e.length) (q4 : ∀ j, j < i → o.getD (e.getD j 0) 0 = 1 + Ord.ups (fun a b => lessB (tkey l a) (tkey l b)) e j) (hek : e.getD i 0 = k) (hnn : nx = 1 + Ord.ups (fun a b => lessB (tkey l a) (tkey l b)) e i) :
    ∀ j, j < i + 1 → (o.set k nx).getD (e.getD j 0) 0 = 1 + Ord.ups (fun a b => lessB (tkey l a) (tkey l b)) e j := by
  intro j hj
  have hlt : ∀ q, q < e.length → e.getD q 0 < m := fun q hq => by rw [getD_get e q 0 hq]; exact List.mem_range.1 (hp.mem_iff.1 (List.getElem_mem hq))
  have hk := hlt i hi
  rcases Nat.lt_or_ge j i with h | h
  · have hne : k ≠ e.getD j 0 := fun h' => by
      have hnd : e.Nodup := hp.nodup_iff.2 List.nodup_range
      rw [← hek, getD_get e i 0 hi, getD_get e j 0 (by omega)] at h'
      exact absurd h'.symm (List.pairwise_iff_getElem.1 hnd j i (by omega) hi h)
    rw [List.getD_eq_getElem?_getD, List.getElem?_set_ne hne, ← List.getD_eq_getElem?_getD, q4 j h]
  · obtain rfl : j = i := by omega
    rw [hek, List.getD_eq_getElem?_getD, List.getElem?_set_self (by omega), hnn]; rfl
theorem many_zero (l : List Nat) (h : numP l.length = 0) : many l = 0 := many_of l 0 (fun y hy => by have := red_le l y hy; omega) (.inr rfl)
set_option maxHeartbeats 4000000 in
theorem sk_reduced (p : Nat) (l : List Nat) (S : Mem) (hv : LvR S p l) (hl : l.length ≤ 4096) :
    ACall Try.prog 63 #[.pointer (some ⟨p, 0, none⟩)] S fun r S' => ∃ u, r = .tuple #[u, .int .i64 (many l : Nat)] ∧ RdL gU (red l) S u S' := by
  have hv0 := hv
  obtain ⟨vt, vs, h1, h2, h3, h4⟩ := hv
  obtain ⟨ps, pc, rfl, p1, p2, p3⟩ := id h4
  have hml := places_le l.length hl
  obtain ⟨m, hmm⟩ : ∃ m, m = (places l.length).length := ⟨_, rfl⟩
  have hnp : numP l.length = m := hmm.symm
  rw [← hmm] at h2 p1 p2 hml
  refine ACall.enter (args := [.pointer (some ⟨p, 0, none⟩)]) (rs := [.tmp 2, .tmp 3]) 84 [(0, .pointer (some ⟨p, 0, none⟩))] Try.func63 rfl rfl (Nat.le_of_ble_eq_true rfl) rfl ⟨rfl, trivial⟩ ?_
  refine AWP.seq ?_
  refine AWP.region ?_
  refine ARun.box1 (lit_lt rfl) rfl rfl ?_
  intro b1 f1
  have g1 := f1
  repeat ((with_reducible replace g1 := fresh_set g1); obtain ⟨g1, _⟩ := g1)
  (try simp only [List.length_cons, List.length_nil, Nat.zero_add, Nat.reduceAdd])
  refine rC (Calm.assign rfl) ?_
  refine rC (Calm.assign rfl) ?_
  refine arun_nil ?_
  refine athen_n ?_
  refine AWP.seq ?_
  refine AWP.region ?_
  refine rC (ld_ ty_plain_76 rfl) ?_
  refine rC (Calm.nilCheck rfl) ?_
  refine rC (Calm.fieldAddr ty_field_78_1 rfl) ?_
  refine rC (ld_ ty_plain_24 rfl) ?_
  refine rC (Calm.lenSl Try.underlying24 rfl) ?_
  refine ARun.makeSlice (lit_lt rfl) ty_sl_24 rfl rfl (by omega) (by omega) (by omega) (by omega) ?_
  intro b16 f16
  have g16 := f16
  repeat ((with_reducible replace g16 := fresh_set g16); obtain ⟨g16, _⟩ := g16)
  refine rC (Calm.assign rfl) ?_
  refine arun_nil ?_
  refine athen_n ?_
  refine AWP.sub [(0, _), (1, _), (2, _), (3, _), (4, _)] ⟨rfl, rfl, rfl, rfl, rfl, trivial⟩ ?_
  simp only [Nat.mul_one, madeL_one, Int.toNat_natCast]
  refine AWP.seq ?_
  refine AWP.seq ?_
  refine AWP.region ?_
  refine rC (Calm.move rfl) ?_
  refine rC (Calm.lenSl Try.underlying24 rfl) ?_
  refine rC (Calm.move rfl) ?_
  refine arun_nil ?_
  refine athen_n ?_
  refine AWP.sub [(0, _), (1, _), (2, _), (3, _), (4, _), (18, _), (19, _)] ⟨rfl, rfl, rfl, rfl, rfl, rfl, rfl, trivial⟩ ?_
  refine AWP.block ?_
  refine AWP.loop (X := Nat) (fun x => [(1, .pointer (some ⟨b1, 0, none⟩)), (4, .slice (some ⟨b16, 0, none⟩) m m), (18, .int .i64 m), (19, .int .i64 x)]) (fun x => (S.set b1 ⟨76, [.pointer (some ⟨p, 0, none⟩)], 1⟩).set b16 ⟨3, (List.range x).map gI ++ List.replicate (m - x) (gI 0), m⟩) (fun x => x ≤ m) (fun x => m - x) (0) ⟨rfl, rfl, rfl, rfl, trivial⟩ (Mem.Less.refl _) (Nat.zero_le _) ?_
  rintro i hi
  (try dsimp only at *)
  by_cases hc : i < m
  · refine AWP.seq ?_
    refine AWP.region ?_
    refine rC (Calm.bin rfl rfl b_lss) ?_
    refine arun_nil ?_
    refine athen_n ?_
    refine AWP.seq ?_
    refine AWP.condT rfl (by first | rfl | (simp; done) | (simp; omega)) ?_
    have hlr : ((List.range i).map gI ++ List.replicate (m - i) (gI 0)).length = m := by simp; omega
    refine AWP.skip ?_
    refine athen_n ?_
    refine AWP.seq ?_
    refine AWP.block ?_
    refine AWP.seq ?_
    refine AWP.region ?_
    refine rC (Calm.move rfl) ?_
    refine rC (Calm.assign rfl) ?_
    refine arun_nil ?_
    refine athen_n ?_
    refine AWP.sub [(1, _), (4, _), (18, _), (19, _), (20, _), (5, _)] ⟨rfl, rfl, rfl, rfl, rfl, rfl, trivial⟩ ?_
    refine AWP.region ?_
    refine rC (Calm.move rfl) ?_
    refine rC (Calm.move rfl) ?_
    refine rC (Calm.move rfl) ?_
    refine rC (Calm.indexS Try.underlying24 ty_size_3 rfl rfl (by omega) (by omega)) ?_
    refine ARun.store1 rfl rfl ty_size_3 rfl own_ lens_ rfl ?_
    (try simp only [Mem.set_set, List.set_cons_zero, List.set_cons_succ, Nat.zero_add, Nat.reduceAdd])
    refine arun_nil ?_
    refine ain_n ?_
    refine athen_n ?_
    refine AWP.sub [(1, _), (4, _), (18, _), (19, _), (20, _), (5, _)] ⟨rfl, rfl, rfl, rfl, rfl, rfl, trivial⟩ ?_
    simp only [Nat.zero_add, Nat.mul_one, Int.toNat_natCast]
    rw [show (Value.int .i64 (i : Int)) = gI i from rfl, fill_map gI (List.range i) 0 m i i (by simp) hc, ← List.range_succ]
    refine AWP.region ?_
    refine rC (Calm.bin rfl rfl b_add_i64) ?_
    refine rC (Calm.move rfl) ?_
    refine arun_nil ?_
    refine athen_n ?_
    refine ⟨i + 1, ?_, ?_, ?_, ?_⟩
    all_goals (try dsimp only)
    · exact ⟨sq_, sq_, sq_, sq_, trivial⟩
    · exact Mem.Less.refl _
    · exact hc
    · omega
  · obtain rfl : m = i := by omega
    refine AWP.seq ?_
    refine AWP.region ?_
    refine rC (Calm.bin rfl rfl b_lss) ?_
    refine arun_nil ?_
    refine athen_n ?_
    refine AWP.seq ?_
    refine AWP.condF rfl (by first | rfl | (simp; done) | (simp; omega)) ?_
    rw [Nat.sub_self, List.replicate_zero, List.append_nil]
    refine AWP.exit ?_
    refine athen_exit ?_
    refine athen_exit ?_
    refine ain_same ?_
    refine athen_n ?_
    refine AWP.seq ?_
    refine AWP.region ?_
    refine rC (Calm.makeFunc rfl rfl) ?_
    refine ARun.alloc (lit_lt rfl) ty_zero_118 ?_
    intro b6 f6
    have g6 := f6
    repeat ((with_reducible replace g6 := fresh_set g6); obtain ⟨g6, _⟩ := g6)
    (try simp only [List.length_cons, List.length_nil, Nat.zero_add, Nat.reduceAdd])
    refine ARun.store1 rfl rfl ty_size_118 rfl own_ lens_ rfl ?_
    (try simp only [Mem.set_set, List.set_cons_zero, List.set_cons_succ, Nat.zero_add, Nat.reduceAdd])
    refine arun_nil ?_
    refine athen_n ?_
    refine AWP.sub [(1, _), (4, _), (18, _), (19, _), (20, _), (6, _)] ⟨rfl, rfl, rfl, rfl, rfl, rfl, trivial⟩ ?_
    refine AWP.less ((redM S b1 b6 p).set b16 ⟨3, (List.range m).toArray.toList.map gI, m⟩) (by unfold redM keyF; exact less_) ?_
    have fr1 : Fresh (redM S b1 b6 p) b16 := fresh_more (fresh_more g16 ne_) ne_
    have o1 : (redM S b1 b6 p).own b1 = some ⟨76, [.pointer (some ⟨p, 0, none⟩)], 1⟩ := by unfold redM; exact own_
    have o6 : (redM S b1 b6 p).own b6 = some ⟨118, [keyF b1], 1⟩ := by unfold redM; exact own_
    have hless : S.Less (redM S b1 b6 p) := by unfold redM; exact less_
    obtain ⟨S0, hS0⟩ : ∃ S0, S0 = redM S b1 b6 p := ⟨_, rfl⟩
    rw [← hS0] at fr1 o1 o6 hless ⊢
    have hC : CmpC Try.prog gI (fun a b => cmpB (tkey l a) (tkey l b)) (fun k => k < m) 102 [.pointer (some ⟨b6, 0, none⟩)] S0 := ⟨fun x => ⟨rfl, rfl⟩, go_102, fun x y hx hy => sk_kcmp x y b6 b1 p l S0 (Mem.own_knows o6 0 _ (fun j v hj => by rw [Nat.zero_add]; exact hj)) (Mem.own_knows o1 0 _ (fun j v hj => by rw [Nat.zero_add]; exact hj)) (hv0.less hless) (by omega) (by omega) hl⟩
    have hR : Rw (fun k => k < m) m (List.range m).toArray := ⟨by simp, fun i hi => by rw [getElem!_pos _ i (by simpa using hi)]; simpa using hi⟩
    have hsort := soC_sort hC b16 m m m fr1 (by omega) (List.range m).toArray hR
    obtain ⟨d', hd'⟩ : ∃ d', d' = Go.Sort.pdq (lq fun a b => cmpB (tkey l a) (tkey l b)) (List.range m).toArray 0 m (Go.Sort.bitsLen m) true true := ⟨_, rfl⟩
    rw [← hd'] at hsort
    obtain ⟨hp, hs⟩ := sorted_keys l m d' hd'
    obtain ⟨e, he⟩ : ∃ e, e = d'.toList := ⟨_, rfl⟩
    rw [← he] at hsort hp hs
    have hel : e.length = m := by rw [hp.length_eq, List.length_range]
    clear hR hC hd'
    refine AWP.seq ?_
    refine AWP.region ?_
    refine rC (Calm.move rfl) ?_
    refine rC (Calm.makeFunc rfl rfl) ?_
    refine ARun.call (lit_lt rfl) go_101 rfl (hsort) ?_
    rintro _ _ ⟨rfl, _⟩
    obtain ⟨T, hT⟩ : ∃ T, T = S0.set b16 ⟨3, e.map gI, m⟩ := ⟨_, rfl⟩
    have hST : S0.Less T := by rw [hT]; exact Mem.less_set _ _ _ fr1.1
    have oe : T.own b16 = some ⟨3, e.map gI, m⟩ := by rw [hT]; exact Mem.own_set_same _ _ _
    rw [← hT]
    replace o1 := hST.own o1
    replace hless := hless.trans hST
    clear hsort fr1 o6 hST hS0 hT he f6 g6 f16
    refine arun_nil ?_
    refine athen_n ?_
    refine AWP.sub [(1, _), (4, _), (18, _), (19, _), (20, _), (6, _)] ⟨rfl, rfl, rfl, rfl, rfl, rfl, trivial⟩ ?_
    refine AWP.seq ?_
    refine AWP.region ?_
    refine rC (Calm.move rfl) ?_
    refine rC (Calm.lenSl Try.underlying24 rfl) ?_
    refine ARun.makeSlice (lit_lt rfl) ty_sl_22 rfl rfl (by omega) (by omega) (by omega) (by omega) ?_
    intro b33 f33
    have g33 := f33
    repeat ((with_reducible replace g33 := fresh_set g33); obtain ⟨g33, _⟩ := g33)
    refine rC (Calm.assign rfl) ?_
    refine arun_nil ?_
    refine athen_n ?_
    refine AWP.sub [(1, _), (4, _), (18, _), (19, _), (20, _), (6, _), (7, _)] ⟨rfl, rfl, rfl, rfl, rfl, rfl, rfl, trivial⟩ ?_
    simp only [Nat.mul_one, madeL_one, Int.toNat_natCast]
    refine AWP.seq ?_
    refine AWP.region ?_
    refine rC (Calm.assign rfl) ?_
    refine arun_nil ?_
    refine athen_n ?_
    refine AWP.seq ?_
    refine AWP.seq ?_
    refine AWP.region ?_
    refine rC (Calm.move rfl) ?_
    refine rC (Calm.lenSl Try.underlying24 rfl) ?_
    refine rC (Calm.move rfl) ?_
    refine arun_nil ?_
    refine athen_n ?_
    refine AWP.block ?_
    refine AWP.loop (X := Nat × List Nat × Nat) (fun x => [(1, .pointer (some ⟨b1, 0, none⟩)), (4, .slice (some ⟨b16, 0, none⟩) m m), (7, .slice (some ⟨b33, 0, none⟩) m m), (8, .int .i64 x.2.2), (34, .slice (some ⟨b16, 0, none⟩) m m), (35, .int .i64 m), (36, .int .i64 x.1)]) (fun x => T.set b33 ⟨41, x.2.1.map gU, m⟩) (fun x => x.1 ≤ m ∧ x.2.1.length = m ∧ x.2.2 = (if x.1 = 0 then 0 else 1 + Ord.ups (fun a b => lessB (tkey l a) (tkey l b)) e (x.1 - 1)) ∧ ∀ j, j < x.1 → x.2.1.getD (e.getD j 0) 0 = 1 + Ord.ups (fun a b => lessB (tkey l a) (tkey l b)) e j) (fun x => m - x.1) ((0, List.replicate m 0, 0)) ⟨sq_, sq_, sq_, sq_, sq_, sq_, sq_, trivial⟩ (by dsimp only; rw [List.map_replicate]; exact Mem.Less.refl _) (⟨Nat.zero_le _, by simp, rfl, fun j h => absurd h (Nat.not_lt_zero _)⟩) ?_
    rintro ⟨i, o, nm⟩ ⟨q1, q2, q3, q4⟩
    (try dsimp only at *)
    by_cases hc : i < m
    · refine AWP.seq ?_
      refine AWP.region ?_
      refine rC (Calm.bin rfl rfl b_lss) ?_
      refine arun_nil ?_
      refine athen_n ?_
      refine AWP.seq ?_
      refine AWP.condT rfl (by first | rfl | (simp; done) | (simp; omega)) ?_
      have hT2 : T.Less (T.set b33 ⟨41, o.map gU, m⟩) := Mem.less_set _ _ _ f33.1
      have oe2 := hT2.own oe
      have hm2 := hless.trans hT2
      have o12 := hT2.own o1
      have hei : e[i]'(by omega) < m := List.mem_range.1 (hp.mem_iff.1 (List.getElem_mem _))
      refine AWP.skip ?_
      refine athen_n ?_
      refine AWP.seq ?_
      refine AWP.block ?_
      refine AWP.seq ?_
      refine AWP.region ?_
      refine rC (Calm.move rfl) ?_
      refine rC (Calm.indexS Try.underlying24 ty_size_3 rfl rfl (by omega) (by omega)) ?_
      refine rC (Calm.load ty_plain_3 rfl (rd_list (g := gI) i (by omega) oe2 rw_)) ?_
      refine rC (Calm.assign rfl) ?_
      refine rC (Calm.assign rfl) ?_
      refine arun_nil ?_
      refine athen_n ?_
      refine AWP.sub [(1, _), (4, _), (7, _), (8, _), (34, _), (35, _), (36, _), (37, _), (9, _), (10, _)] ⟨rfl, rfl, rfl, rfl, rfl, rfl, rfl, rfl, rfl, rfl, trivial⟩ ?_
      obtain ⟨k, hk⟩ : ∃ k, k = e[i]'(by omega) := ⟨_, rfl⟩
      rw [← hk] at hei ⊢
      unfold gI
      refine AWP.seq ?_
      refine AWP.seq ?_
      refine AWP.join (X := Bool) (fun x => [(1, .pointer (some ⟨b1, 0, none⟩)), (4, .slice (some ⟨b16, 0, none⟩) m m), (7, .slice (some ⟨b33, 0, none⟩) m m), (8, .int .i64 nm), (9, .int .i64 i), (10, .int .i64 k), (34, .slice (some ⟨b16, 0, none⟩) m m), (35, .int .i64 m), (36, .int .i64 i), (73, .bool x)]) (fun _ => T.set b33 ⟨41, o.map gU, m⟩) (fun x => x = (decide (i = 0) || !decide (tkey l (e.getD (i - 1) 0) = tkey l k))) ?_ ?_
      · by_cases h0 : i = 0
        · refine AWP.draw [(0, true), (1, true), (2, true), (3, true), (4, true), (5, true), (6, true), (7, true), (8, true), (9, true), (10, true), (11, true), (12, true), (13, true), (14, true), (15, true), (16, true), (17, true), (19, true), (20, true), (21, true), (22, true), (23, true), (24, true), (25, true), (26, true), (27, true), (28, true), (29, true), (18, false), (30, false), (31, true), (32, true)] [] mixed (by kernel_rfl) ?_
          refine dP (hc := fun _ => Calm.move rfl) (h := ?_)
          refine dP (hc := fun _ => Calm.bin rfl rfl b_eql) (h := ?_)
          refine dP (hc := fun _ => Calm.move rfl) (h := ?_)
          first | refine dS ?_ | refine dU ?_ | refine dL (hc := ld_ ty_plain_76 rfl) (h := ?_)
          first | refine dS ?_ | refine dU ?_ | refine dG (hc := fun _ => Calm.nilCheck rfl) (h := ?_)
          first | refine dS ?_ | refine dU ?_ | refine dG (hc := fun _ => Calm.fieldAddr ty_field_78_0 rfl) (h := ?_)
          first | refine dS ?_ | refine dU ?_ | refine dL (hc := ld_ ty_plain_72 rfl) (h := ?_)
          first | refine dS ?_ | refine dU ?_ | refine dL (hc := ld_ ty_plain_76 rfl) (h := ?_)
          first | refine dS ?_ | refine dU ?_ | refine dG (hc := fun _ => Calm.nilCheck rfl) (h := ?_)
          first | refine dS ?_ | refine dU ?_ | refine dG (hc := fun _ => Calm.fieldAddr ty_field_78_1 rfl) (h := ?_)
          first | refine dS ?_ | refine dU ?_ | refine dL (hc := ld_ ty_plain_24 rfl) (h := ?_)
          first | refine dS ?_ | refine dU ?_ | refine dG (hc := fun _ => Calm.move rfl) (h := ?_)
          first | refine dS ?_ | refine dU ?_ | refine dG (hc := fun _ => Calm.move rfl) (h := ?_)
          first | refine dS ?_ | refine dU ?_ | refine dG (hc := fun _ => Calm.bin rfl rfl b_sub_i64) (h := ?_)
          first | refine dS ?_ | refine dU ?_ | refine dG (hc := fun _ => Calm.indexS Try.underlying24 ty_size_3 rfl rfl (by omega) (by omega)) (h := ?_)
          first | refine dS ?_ | refine dU ?_ | refine dL (hc := ld_ ty_plain_3 rfl) (h := ?_)
          first | refine dS ?_ | refine dU ?_ | refine dG (hc := fun _ => Calm.indexS Try.underlying24 ty_size_3 rfl rfl (by omega) (by omega)) (h := ?_)
          first | refine dS ?_ | refine dU ?_ | refine dL (hc := ld_ ty_plain_3 rfl) (h := ?_)
          first | refine dS ?_ | refine dU ?_ | refine dL (hc := ld_ ty_plain_76 rfl) (h := ?_)
          first | refine dS ?_ | refine dU ?_ | refine dG (hc := fun _ => Calm.nilCheck rfl) (h := ?_)
          first | refine dS ?_ | refine dU ?_ | refine dG (hc := fun _ => Calm.fieldAddr ty_field_78_0 rfl) (h := ?_)
          first | refine dS ?_ | refine dU ?_ | refine dL (hc := ld_ ty_plain_72 rfl) (h := ?_)
          first | refine dS ?_ | refine dU ?_ | refine dL (hc := ld_ ty_plain_76 rfl) (h := ?_)
          first | refine dS ?_ | refine dU ?_ | refine dG (hc := fun _ => Calm.nilCheck rfl) (h := ?_)
          first | refine dS ?_ | refine dU ?_ | refine dG (hc := fun _ => Calm.fieldAddr ty_field_78_1 rfl) (h := ?_)
          first | refine dS ?_ | refine dU ?_ | refine dL (hc := ld_ ty_plain_24 rfl) (h := ?_)
          first | refine dS ?_ | refine dU ?_ | refine dG (hc := fun _ => Calm.move rfl) (h := ?_)
          first | refine dS ?_ | refine dU ?_ | refine dG (hc := fun _ => Calm.indexS Try.underlying24 ty_size_3 rfl rfl (by omega) (by omega)) (h := ?_)
          first | refine dS ?_ | refine dU ?_ | refine dL (hc := ld_ ty_plain_3 rfl) (h := ?_)
          refine draw_only rfl ?_
          first | refine rS 43 ?_ | refine rU 43 ?_
          refine arun_nil ⟨fun _ => less_, ?_⟩
          refine draw_only rfl ?_
          first | refine rS 43 ?_ | refine rU 43 ?_
          refine arun_nil ⟨fun _ => less_, ?_⟩
          first | refine dS ?_ | refine dU ?_ | refine dG (hc := fun _ => Calm.bin rfl rfl (BIN_array)) (h := ?_)
          refine dP (hc := fun _ => (by first | exact Calm.pickT rfl rfl | exact Calm.pickF rfl rfl)) (h := ?_)
          refine draw_nil ?_
          refine ⟨true, ?_, ?_, ?_⟩
          all_goals (try dsimp only)
          · rw [decide_eq_true h0]; rfl
          · exact ⟨sq_, sq_, sq_, sq_, sq_, sq_, sq_, sq_, sq_, sq_, trivial⟩
          · exact Mem.Less.refl _
        · obtain ⟨j, rfl⟩ : ∃ q, i = q + 1 := ⟨i - 1, by omega⟩
          obtain ⟨pb, po, rfl, hkn⟩ := p3.resolve_left (fun e => by rw [e] at hmm; simp at hmm; omega)
          have hej : e[j]'(by omega) < m := List.mem_range.1 (hp.mem_iff.1 (List.getElem_mem _))
          obtain ⟨k', hk'⟩ : ∃ k', k' = e[j]'(by omega) := ⟨_, rfl⟩
          rw [← hk'] at hej
          have k1 : T.Knows ⟨pb, po + k * 1, none⟩ [.int .i64 (plc l.length k : Int)] := by rw [places_getD (by omega)]; exact (hkn k (by omega)).less hless
          have k2 : T.Knows ⟨pb, po + k' * 1, none⟩ [.int .i64 (plc l.length k' : Int)] := by rw [places_getD (by omega)]; exact (hkn k' (by omega)).less hless
          have b1_ := (plc_lt l.length k (by omega)).2.2
          have b2_ := (plc_lt l.length k' (by omega)).2.2
          refine AWP.draw [(0, true), (1, true), (2, true), (3, true), (4, true), (5, true), (6, true), (7, true), (8, true), (9, true), (10, true), (11, true), (12, true), (13, true), (14, true), (15, true), (16, true), (17, true), (19, true), (20, true), (21, true), (22, true), (23, true), (24, true), (25, true), (26, true), (27, true), (28, true), (29, true), (18, false), (30, false), (31, true), (32, true)] [] mixed (by kernel_rfl) ?_
          refine dP (hc := fun _ => Calm.move rfl) (h := ?_)
          refine dP (hc := fun _ => Calm.bin rfl rfl b_eql) (h := ?_)
          refine dP (hc := fun _ => Calm.move rfl) (h := ?_)
          first | refine dS ?_ | refine dU ?_ | refine dL (hc := ld_ ty_plain_76 rfl) (h := ?_)
          first | refine dS ?_ | refine dU ?_ | refine dG (hc := fun _ => Calm.nilCheck rfl) (h := ?_)
          first | refine dS ?_ | refine dU ?_ | refine dG (hc := fun _ => Calm.fieldAddr ty_field_78_0 rfl) (h := ?_)
          first | refine dS ?_ | refine dU ?_ | refine dL (hc := ld_ ty_plain_72 rfl) (h := ?_)
          first | refine dS ?_ | refine dU ?_ | refine dL (hc := ld_ ty_plain_76 rfl) (h := ?_)
          first | refine dS ?_ | refine dU ?_ | refine dG (hc := fun _ => Calm.nilCheck rfl) (h := ?_)
          first | refine dS ?_ | refine dU ?_ | refine dG (hc := fun _ => Calm.fieldAddr ty_field_78_1 rfl) (h := ?_)
          first | refine dS ?_ | refine dU ?_ | refine dL (hc := ld_ ty_plain_24 rfl) (h := ?_)
          first | refine dS ?_ | refine dU ?_ | refine dG (hc := fun _ => Calm.move rfl) (h := ?_)
          first | refine dS ?_ | refine dU ?_ | refine dG (hc := fun _ => Calm.move rfl) (h := ?_)
          first | refine dS ?_ | refine dU ?_ | refine dG (hc := fun _ => Calm.bin rfl rfl b_sub_i64) (h := ?_)
          first | refine dS ?_ | refine dU ?_ | refine dG (hc := fun _ => Calm.indexS Try.underlying24 ty_size_3 rfl rfl (by omega) (by omega)) (h := ?_)
          first | refine dS ?_ | refine dU ?_ | refine dL (hc := Calm.as (show gI (e[j]'(by omega)) = .int .i64 (k' : Int) by rw [← hk']; rfl) (Calm.load ty_plain_3 rfl (rd_list (g := gI) j (by omega) oe2 rw_))) (h := ?_)
          first | refine dS ?_ | refine dU ?_ | refine dG (hc := fun _ => Calm.indexS Try.underlying24 ty_size_3 rfl rfl (by omega) (by omega)) (h := ?_)
          first | refine dS ?_ | refine dU ?_ | refine dL (hc := ld_ ty_plain_3 rfl) (h := ?_)
          first | refine dS ?_ | refine dU ?_ | refine dL (hc := ld_ ty_plain_76 rfl) (h := ?_)
          first | refine dS ?_ | refine dU ?_ | refine dG (hc := fun _ => Calm.nilCheck rfl) (h := ?_)
          first | refine dS ?_ | refine dU ?_ | refine dG (hc := fun _ => Calm.fieldAddr ty_field_78_0 rfl) (h := ?_)
          first | refine dS ?_ | refine dU ?_ | refine dL (hc := ld_ ty_plain_72 rfl) (h := ?_)
          first | refine dS ?_ | refine dU ?_ | refine dL (hc := ld_ ty_plain_76 rfl) (h := ?_)
          first | refine dS ?_ | refine dU ?_ | refine dG (hc := fun _ => Calm.nilCheck rfl) (h := ?_)
          first | refine dS ?_ | refine dU ?_ | refine dG (hc := fun _ => Calm.fieldAddr ty_field_78_1 rfl) (h := ?_)
          first | refine dS ?_ | refine dU ?_ | refine dL (hc := ld_ ty_plain_24 rfl) (h := ?_)
          first | refine dS ?_ | refine dU ?_ | refine dG (hc := fun _ => Calm.move rfl) (h := ?_)
          first | refine dS ?_ | refine dU ?_ | refine dG (hc := fun _ => Calm.indexS Try.underlying24 ty_size_3 rfl rfl (by omega) (by omega)) (h := ?_)
          first | refine dS ?_ | refine dU ?_ | refine dL (hc := ld_ ty_plain_3 rfl) (h := ?_)
          refine draw_only rfl ?_
          refine ARun.callG 2 false 43 rfl (lit_lt rfl) rfl (lit_lt rfl) go_61 rfl (sk_triple vt l _ (plc l.length k') rfl _ (h3.less (hless.trans hT2)) (by omega)) ?_
          rintro _ _ ⟨rfl, rfl⟩
          refine arun_nil ⟨fun _ => less_, ?_⟩
          refine draw_only rfl ?_
          refine ARun.callG 2 false 43 rfl (lit_lt rfl) rfl (lit_lt rfl) go_61 rfl (sk_triple vt l _ (plc l.length k) rfl _ (h3.less (hless.trans hT2)) (by omega)) ?_
          rintro _ _ ⟨rfl, rfl⟩
          refine arun_nil ⟨fun _ => less_, ?_⟩
          first | refine dS ?_ | refine dU ?_ | refine dG (hc := fun _ => Calm.bin rfl rfl (bin_arr3 Try.underlying71 ty_size_41 Try.underlying41 (by kernel_rfl) _ _ _ _ _ _)) (h := ?_)
          refine dP (hc := fun _ => (by first | exact Calm.pickT rfl rfl | exact Calm.pickF rfl rfl)) (h := ?_)
          refine draw_nil ?_
          refine ⟨(!decide (tkey l k' = tkey l k)), ?_, ?_, ?_⟩
          all_goals (try dsimp only)
          · rw [decide_eq_false h0, Nat.add_sub_cancel, getD_get e j 0 (by omega), ← hk']; rfl
          · exact ⟨sq_, sq_, sq_, sq_, sq_, sq_, sq_, sq_, sq_, sq_, trivial⟩
          · exact Mem.Less.refl _
      rintro x hx
      intro _ _ hs_ hl_
      (try dsimp only at *)
      refine athen_n ?_
      refine AWP.sub _ hs_ (AWP.less _ hl_ ?_)
      clear hs_ hl_
      have hnx : (if x = true then nm + 1 else nm) = 1 + Ord.ups (fun a b => lessB (tkey l a) (tkey l b)) e i := by rw [hx, q3, hk, ← getD_get e i 0 (by omega)]; exact names_next l e i hs (by omega)
      have hek : e.getD i 0 = k := by rw [getD_get e i 0 (by omega)]; exact hk.symm
      have hul := ups_le (fun a b => lessB (tkey l a) (tkey l b)) e i
      refine AWP.join (X := Unit) (fun _ => [(1, .pointer (some ⟨b1, 0, none⟩)), (4, .slice (some ⟨b16, 0, none⟩) m m), (7, .slice (some ⟨b33, 0, none⟩) m m), (8, .int .i64 ((1 + Ord.ups (fun a b => lessB (tkey l a) (tkey l b)) e i : Nat) : Int)), (10, .int .i64 k), (34, .slice (some ⟨b16, 0, none⟩) m m), (35, .int .i64 m), (36, .int .i64 i)]) (fun _ => T.set b33 ⟨41, o.map gU, m⟩) (fun _ => i < m) ?_ ?_
      · cases x
        · simp only [Bool.false_eq_true, if_false] at hnx
          refine AWP.condF rfl (by first | rfl | (simp; done) | (simp; omega)) ?_
          refine AWP.skip ?_
          refine ⟨(), ?_, ?_, ?_⟩
          all_goals (try dsimp only)
          · exact hc
          · exact ⟨sq_, sq_, sq_, sq_, sq_, sq_, sq_, sq_, trivial⟩
          · exact Mem.Less.refl _
        · simp only [if_true] at hnx
          refine AWP.condT rfl (by first | rfl | (simp; done) | (simp; omega)) ?_
          refine AWP.region ?_
          refine rC (Calm.move rfl) ?_
          refine rC (Calm.bin rfl rfl b_add_i64) ?_
          refine rC (Calm.assign rfl) ?_
          refine arun_nil ?_
          refine ⟨(), ?_, ?_, ?_⟩
          all_goals (try dsimp only)
          · exact hc
          · exact ⟨sq_, sq_, sq_, sq_, sq_, sq_, sq_, sq_, trivial⟩
          · exact Mem.Less.refl _
      rintro _ _
      intro _ _ hs_ hl_
      (try dsimp only at *)
      refine athen_n ?_
      refine AWP.sub _ hs_ (AWP.less _ hl_ ?_)
      clear hs_ hl_
      obtain ⟨nx, hnn⟩ : ∃ nx, nx = 1 + Ord.ups (fun a b => lessB (tkey l a) (tkey l b)) e i := ⟨_, rfl⟩
      rw [← hnn] at hnx ⊢
      refine AWP.region ?_
      refine rC (Calm.move rfl) ?_
      refine rC (Calm.move rfl) ?_
      refine rC (Calm.move rfl) ?_
      refine rC (Calm.conv rfl (by first | exact conv_intW Try.underlying3 Try.underlying41 (IntWalk.u64_in _ (by omega)) | exact conv_int Try.underlying3 Try.underlying41)) ?_
      refine rC (Calm.indexS Try.underlying22 ty_size_41 rfl rfl (by omega) (by omega)) ?_
      refine ARun.store1 rfl rfl ty_size_41 rfl own_ lens_ rfl ?_
      (try simp only [Mem.set_set, List.set_cons_zero, List.set_cons_succ, Nat.zero_add, Nat.reduceAdd])
      refine arun_nil ?_
      refine ain_n ?_
      refine athen_n ?_
      refine AWP.sub [(1, _), (4, _), (7, _), (8, _), (10, _), (34, _), (35, _), (36, _)] ⟨rfl, rfl, rfl, rfl, rfl, rfl, rfl, rfl, trivial⟩ ?_
      simp only [Nat.zero_add, Nat.mul_one, Int.toNat_natCast]
      refine AWP.region ?_
      refine rC (Calm.bin rfl rfl b_add_i64) ?_
      refine rC (Calm.move rfl) ?_
      refine arun_nil ?_
      refine athen_n ?_
      refine ⟨(i + 1, o.set k nx, nx), ?_, ?_, ?_, ?_⟩
      all_goals (try dsimp only)
      · exact ⟨sq_, sq_, sq_, sq_, sq_, sq_, sq_, trivial⟩
      · rw [List.map_set]; exact Mem.Less.refl _
      · exact ⟨hc, by rw [List.length_set]; exact q2, by rw [if_neg (by omega), Nat.add_sub_cancel]; exact hnn, fun j hj => names_set l e o hp (by omega) (by omega) q4 hek hnn j hj⟩
      · omega
    · obtain rfl : i = m := by omega
      refine AWP.seq ?_
      refine AWP.region ?_
      refine rC (Calm.bin rfl rfl b_lss) ?_
      refine arun_nil ?_
      refine athen_n ?_
      refine AWP.seq ?_
      refine AWP.condF rfl (by first | rfl | (simp; done) | (simp; omega)) ?_
      have hor := names_out l e o (by rw [hnp]; exact hp) hs (by omega) (by rw [hel]; exact q4)
      have hmn : nm = many l := by rw [q3]; split; (exact (many_zero l (by omega)).symm); (rw [many_ups l e (by rw [hnp]; exact hp) hs (by omega), hel])
      rw [hor, hmn]
      refine AWP.exit ?_
      refine athen_exit ?_
      refine athen_exit ?_
      refine ain_same ?_
      refine athen_n ?_
      refine AWP.seq ?_
      refine AWP.region ?_
      refine rC (Calm.move rfl) ?_
      refine rC (Calm.move rfl) ?_
      refine rC (Calm.assign rfl) ?_
      refine rC (Calm.assign rfl) ?_
      refine arun_nil ?_
      refine athen_n ?_
      refine AWP.sub [(1, _), (4, _), (7, _), (8, _), (34, _), (35, _), (36, _), (37, _), (2, _), (3, _)] ⟨rfl, rfl, rfl, rfl, rfl, rfl, rfl, rfl, rfl, rfl, trivial⟩ ?_
      refine AWP.ret ?_
      refine ⟨_, _, ⟨_, _, rfl, ⟨_, _, rfl, rfl, rfl⟩, rfl⟩, Mem.Less.refl _, ?_⟩
      exact ⟨_, rfl, (hless.trans (Mem.less_set _ _ _ f33.1)), Sl.own1 (g := gU) (l := red l) (Mem.own_set_same _ _ _) List.prefix_rfl (by rw [red_length, hnp]) (Nat.le_refl _) (by omega)⟩
def redP (l : List Nat) : List Nat := if chkL l = 0 then red l else []
def manyP (l : List Nat) : Nat := if chkL l = 0 then many l else 0
theorem lvR_box {S : Mem} {b : Nat} {T : TypeId} {vt vs : Value} {l : List Nat} {room : Nat} (hb : S.own b = some ⟨T, [vt, vs], room⟩) (h1 : RowR S vt l) (h2 : IdxR S vs (places l.length)) : LvR S b l :=
  ⟨vt, vs, Mem.own_knows hb 0 _ (fun j v hj => by cases j with | zero => exact hj | succ j => simp at hj), Mem.own_knows hb 1 _ (fun j v hj => by cases j with | zero => exact hj | succ j => simp at hj), h1, h2⟩
theorem sk_Reduce (v : Value) (l : List Nat) (S : Mem) (hl : RowR S v l) :
    ACall Try.prog 19 #[v] S fun r S' => ∃ u, r = .tuple #[u, .int .i64 (manyP l : Nat), .int .i64 (chkL l)] ∧ RdL gU (redP l) S u S' := by
  have hS := sk_Samples v l S hl
  obtain ⟨a, cap, rfl, h1, h2, h3⟩ := id hl
  by_cases hc : chkL l = 0
  · have hlen := (chk_ok hc).1
    have es : smpL l = places l.length := if_pos hc
    have er : redP l = red l := if_pos hc
    have em : manyP l = many l := if_pos hc
    rw [er, em, hc]
    rw [es, hc] at hS
    refine ACall.enter (args := [.slice a l.length cap]) (rs := [.tmp 2, .tmp 3, .tmp 4]) 27 [(0, .slice a l.length cap)] Try.func19 rfl rfl (Nat.le_of_ble_eq_true rfl) rfl ⟨rfl, trivial⟩ ?_
    refine AWP.seq ?_
    refine AWP.region ?_
    refine rC (Calm.assign rfl) ?_
    refine rC (Calm.assign rfl) ?_
    refine rC (Calm.assign rfl) ?_
    refine arun_nil ?_
    refine athen_n ?_
    refine AWP.seq ?_
    refine AWP.region ?_
    refine rC (Calm.move rfl) ?_
    refine ARun.call (lit_lt rfl) go_15 rfl (hS) ?_
    rintro vs S1 ⟨u, rfl, hSS, hu⟩
    obtain ⟨pa, pc, rfl, _⟩ := id hu
    refine rC (Calm.move rfl) ?_
    refine rC (Calm.extract rfl rfl) ?_
    refine rC (Calm.extract rfl rfl) ?_
    refine rC (Calm.assign rfl) ?_
    refine rC (Calm.assign rfl) ?_
    refine arun_nil ?_
    refine athen_n ?_
    refine AWP.sub [(0, _), (2, _), (3, _), (4, _), (5, _), (6, _)] ⟨rfl, rfl, rfl, rfl, rfl, rfl, trivial⟩ ?_
    refine AWP.seq ?_
    refine AWP.seq ?_
    refine AWP.region ?_
    refine rC (Calm.move rfl) ?_
    refine rC (Calm.bin rfl rfl b_neq) ?_
    refine arun_nil ?_
    refine athen_n ?_
    refine AWP.sub [(0, _), (2, _), (3, _), (4, _), (5, _), (6, _), (15, _)] ⟨rfl, rfl, rfl, rfl, rfl, rfl, rfl, trivial⟩ ?_
    refine AWP.condF rfl (by first | rfl | (simp; done) | (simp; omega)) ?_
    refine AWP.skip ?_
    refine athen_n ?_
    refine AWP.seq ?_
    refine AWP.region ?_
    refine rC (Calm.move rfl) ?_
    refine rC (Calm.move rfl) ?_
    refine rC (Calm.build (cs := [_, _]) ty_bld_78 rfl rfl) ?_
    refine ARun.boxA (cs := [_, _]) (lit_lt rfl) rfl ?_
    intro b21 f21
    have g21 := f21
    repeat ((with_reducible replace g21 := fresh_set g21); obtain ⟨g21, _⟩ := g21)
    (try simp only [List.length_cons, List.length_nil, Nat.zero_add, Nat.reduceAdd])
    refine ARun.call (lit_lt rfl) go_63 rfl (sk_reduced b21 l _ (lvR_box own_ (hl.less (hSS.trans less_)) (idxR_less _ _ _ _ hu less_)) hlen) ?_
    rintro _ S2 ⟨u2, rfl, hS2, hu2⟩
    refine rC (Calm.move rfl) ?_
    refine rC (Calm.extract rfl rfl) ?_
    refine rC (Calm.extract rfl rfl) ?_
    refine rC (Calm.assign rfl) ?_
    refine rC (Calm.assign rfl) ?_
    refine arun_nil ?_
    refine athen_n ?_
    refine AWP.sub [(0, _), (2, _), (3, _), (4, _), (5, _), (6, _), (15, _), (7, _), (8, _)] ⟨rfl, rfl, rfl, rfl, rfl, rfl, rfl, rfl, rfl, trivial⟩ ?_
    refine AWP.seq ?_
    refine AWP.region ?_
    refine rC (Calm.move rfl) ?_
    refine rC (Calm.move rfl) ?_
    refine rC (Calm.assign rfl) ?_
    refine rC (Calm.assign rfl) ?_
    refine rC (Calm.assign rfl) ?_
    refine arun_nil ?_
    refine athen_n ?_
    refine AWP.sub [(0, _), (2, _), (3, _), (4, _), (5, _), (6, _), (15, _), (7, _), (8, _)] ⟨rfl, rfl, rfl, rfl, rfl, rfl, rfl, rfl, rfl, trivial⟩ ?_
    refine AWP.ret ?_
    refine ⟨_, S2, ⟨_, _, rfl, ⟨_, _, rfl, ⟨_, _, rfl, rfl, rfl⟩, rfl⟩, rfl⟩, Mem.Less.refl _, ?_⟩
    exact ⟨u2, rfl, hSS.trans ((Mem.less_set _ _ _ f21.1).trans hS2), hu2⟩
  · have es : smpL l = [] := if_neg hc
    have er : redP l = [] := if_neg hc
    have em : manyP l = 0 := if_neg hc
    have e1 := chk_no hc
    rw [er, em, e1]
    rw [es, e1] at hS
    refine ACall.enter (args := [.slice a l.length cap]) (rs := [.tmp 2, .tmp 3, .tmp 4]) 27 [(0, .slice a l.length cap)] Try.func19 rfl rfl (Nat.le_of_ble_eq_true rfl) rfl ⟨rfl, trivial⟩ ?_
    refine AWP.seq ?_
    refine AWP.region ?_
    refine rC (Calm.assign rfl) ?_
    refine rC (Calm.assign rfl) ?_
    refine rC (Calm.assign rfl) ?_
    refine arun_nil ?_
    refine athen_n ?_
    refine AWP.seq ?_
    refine AWP.region ?_
    refine rC (Calm.move rfl) ?_
    refine ARun.call (lit_lt rfl) go_15 rfl (hS) ?_
    rintro vs S1 ⟨u, rfl, hSS, hu⟩
    refine rC (Calm.move rfl) ?_
    refine rC (Calm.extract rfl rfl) ?_
    refine rC (Calm.extract rfl rfl) ?_
    refine rC (Calm.assign rfl) ?_
    refine rC (Calm.assign rfl) ?_
    refine arun_nil ?_
    refine athen_n ?_
    refine AWP.sub [(0, _), (2, _), (3, _), (4, _), (5, _), (6, _)] ⟨rfl, rfl, rfl, rfl, rfl, rfl, trivial⟩ ?_
    refine AWP.seq ?_
    refine AWP.seq ?_
    refine AWP.region ?_
    refine rC (Calm.move rfl) ?_
    refine rC (Calm.bin rfl rfl b_neq) ?_
    refine arun_nil ?_
    refine athen_n ?_
    refine AWP.sub [(0, _), (2, _), (3, _), (4, _), (5, _), (6, _), (15, _)] ⟨rfl, rfl, rfl, rfl, rfl, rfl, rfl, trivial⟩ ?_
    refine AWP.condT rfl (by first | rfl | (simp; done) | (simp; omega)) ?_
    refine AWP.seq ?_
    refine AWP.region ?_
    refine rC (Calm.move rfl) ?_
    refine rC (Calm.assign rfl) ?_
    refine rC (Calm.assign rfl) ?_
    refine rC (Calm.assign rfl) ?_
    refine arun_nil ?_
    refine athen_n ?_
    refine AWP.sub [(0, _), (2, _), (3, _), (4, _), (5, _), (6, _), (15, _)] ⟨rfl, rfl, rfl, rfl, rfl, rfl, rfl, trivial⟩ ?_
    refine AWP.ret ?_
    refine athen_ret ?_
    refine ⟨_, S, ⟨_, _, rfl, ⟨_, _, rfl, ⟨_, _, rfl, rfl, rfl⟩, rfl⟩, rfl⟩, hSS, ?_⟩
    exact ⟨_, rfl, Mem.Less.refl _, Sl.nil _ _ _⟩
end Go.Proofs.Ytgidjbpgkeemiaa
namespace Go.Proofs.Ytgidjbpgkeemiaa
open Go.RowKit
open Mv Num Loser Skew Srt
set_option linter.unusedVariables false
set_option linter.unusedSimpArgs false
set_option maxRecDepth 4000

set_option maxHeartbeats 1000000 in
theorem sk_ranks (p : Nat) (ve : Value) (l e : List Nat) (S : Mem) (hv : LvR S p l) (he : IdxR S ve e) (hp : e.Perm (List.range (numP l.length))) (hl : l.length ≤ 4096) :
    ACall Try.prog 105 #[.pointer (some ⟨p, 0, none⟩), ve] S fun r S' => ∃ x, Rk l e x ∧ RdL gZ x S r S' := by
  obtain ⟨vt, vs, h1, h2, h3, h4⟩ := hv
  obtain ⟨ta, tc, rfl, _⟩ := id h3
  obtain ⟨ea, ec, rfl, e1, e2, e3⟩ := id he
  obtain ⟨pa, pc, rfl, p1, p2, p3⟩ := id h4
  have hel : e.length = numP l.length := by rw [hp.length_eq, List.length_range]
  have hml : numP l.length ≤ 3000 := places_le l.length hl
  have hmm : (places l.length).length = numP l.length := rfl
  rw [hmm] at p1 p2 h2
  refine ACall.enter (args := [.pointer (some ⟨p, 0, none⟩), .slice ea e.length ec]) (rs := [.tmp 4]) 35 [(0, .pointer (some ⟨p, 0, none⟩)), (1, .slice ea e.length ec)] Try.func105 rfl rfl (Nat.le_of_ble_eq_true rfl) rfl ⟨rfl, rfl, trivial⟩ ?_
  refine AWP.seq ?_
  refine AWP.region ?_
  refine rC (Calm.assign rfl) ?_
  refine arun_nil ?_
  refine athen_n ?_
  refine AWP.seq ?_
  refine AWP.region ?_
  refine rC (Calm.move rfl) ?_
  refine rC (Calm.nilCheck rfl) ?_
  refine rC (Calm.fieldAddr ty_field_78_0 rfl) ?_
  refine rC (ld_ ty_plain_72 rfl) ?_
  refine rC (Calm.lenSl Try.underlying72 rfl) ?_
  refine rC (Calm.bin rfl rfl b_add_i64) ?_
  refine ARun.makeSlice (lit_lt rfl) ty_sl_24 rfl rfl (by omega) (by omega) (by omega) (by omega) ?_
  intro b14 f14
  have g14 := f14
  repeat ((with_reducible replace g14 := fresh_set g14); obtain ⟨g14, _⟩ := g14)
  refine rC (Calm.assign rfl) ?_
  refine arun_nil ?_
  refine athen_n ?_
  refine AWP.sub [(0, _), (1, _), (4, _), (5, _)] ⟨rfl, rfl, rfl, rfl, trivial⟩ ?_
  have hz : List.replicate (l.length + 3) (Value.int .i64 0) = (List.replicate (l.length + 3) (0 : Int)).map gZ := by rw [List.map_replicate]; rfl
  rw [show ((l.length : Int) + 3).toNat = l.length + 3 by omega, Nat.mul_one, madeL_one, hz]
  refine AWP.seq ?_
  refine AWP.seq ?_
  refine AWP.region ?_
  refine rC (Calm.move rfl) ?_
  refine rC (Calm.lenSl Try.underlying24 rfl) ?_
  refine rC (Calm.move rfl) ?_
  refine arun_nil ?_
  refine athen_n ?_
  refine AWP.block ?_
  refine AWP.loop (X := Nat × List Int) (fun x => [(0, .pointer (some ⟨p, 0, none⟩)), (5, .slice (some ⟨b14, 0, none⟩) (l.length + 3) (l.length + 3)), (15, .slice ea e.length ec), (16, .int .i64 e.length), (17, .int .i64 x.1)]) (fun x => S.set b14 ⟨3, x.2.map gZ, l.length + 3⟩) (fun x => x.1 ≤ e.length ∧ RkI l.length e x.1 x.2) (fun x => e.length - x.1) ((0, List.replicate (l.length + 3) 0)) ⟨rfl, rfl, rfl, rfl, rfl, trivial⟩ (Mem.Less.refl _) (⟨Nat.zero_le _, RkI.start _ _⟩) ?_
  rintro ⟨i, x⟩ ⟨hi, hr⟩
  (try dsimp only at *)
  by_cases hc : i < e.length
  · refine AWP.seq ?_
    refine AWP.region ?_
    refine rC (Calm.bin rfl rfl b_lss) ?_
    refine arun_nil ?_
    refine athen_n ?_
    refine AWP.seq ?_
    refine AWP.condT rfl (by first | rfl | (simp; done) | (simp; omega)) ?_
    have hxl := hr.len
    obtain ⟨eb, eo, rfl, hke⟩ := e3.resolve_left (fun h => by rw [h] at hc; exact absurd hc (Nat.not_lt_zero _))
    have hei : e[i] < numP l.length := List.mem_range.1 (hp.mem_iff.1 (List.getElem_mem hc))
    obtain ⟨pb, po, rfl, hkn⟩ := p3.resolve_left (fun h => by rw [← hmm, h] at hei; exact absurd hei (Nat.not_lt_zero _))
    have k0 : S.Knows ⟨eb, eo + i * 1, none⟩ [.int .i64 (e[i] : Int)] := hke i hc
    have k1 : S.Knows ⟨pb, po + e[i] * 1, none⟩ [.int .i64 (plc l.length e[i] : Int)] := by rw [places_getD hei]; exact hkn e[i] hei
    have hb := (plc_lt l.length e[i] hei).2.2
    have hst := hr.step hp hc
    rw [getD_get e i 0 hc] at hst
    refine AWP.skip ?_
    refine athen_n ?_
    refine AWP.seq ?_
    refine AWP.block ?_
    refine AWP.seq ?_
    refine AWP.region ?_
    refine rC (Calm.move rfl) ?_
    refine rC (Calm.indexS Try.underlying24 ty_size_3 rfl rfl (by omega) (by omega)) ?_
    refine rC (ld_ ty_plain_3 rfl) ?_
    refine rC (Calm.assign rfl) ?_
    refine rC (Calm.assign rfl) ?_
    refine arun_nil ?_
    refine athen_n ?_
    refine AWP.sub [(0, _), (5, _), (15, _), (16, _), (17, _), (18, _), (6, _), (7, _)] ⟨rfl, rfl, rfl, rfl, rfl, rfl, rfl, rfl, trivial⟩ ?_
    refine AWP.region ?_
    refine rC (Calm.move rfl) ?_
    refine rC (Calm.move rfl) ?_
    refine rC (Calm.nilCheck rfl) ?_
    refine rC (Calm.fieldAddr ty_field_78_1 rfl) ?_
    refine rC (ld_ ty_plain_24 rfl) ?_
    refine rC (Calm.move rfl) ?_
    refine rC (Calm.indexS Try.underlying24 ty_size_3 rfl rfl (by omega) (by omega)) ?_
    refine rC (ld_ ty_plain_3 rfl) ?_
    refine rC (Calm.move rfl) ?_
    refine rC (Calm.bin rfl rfl b_add_i64) ?_
    refine rC (Calm.indexS Try.underlying24 ty_size_3 rfl rfl (by omega) (by omega)) ?_
    refine ARun.store1 rfl rfl ty_size_3 rfl own_ lens_ rfl ?_
    (try simp only [Mem.set_set, List.set_cons_zero, List.set_cons_succ, Nat.zero_add, Nat.reduceAdd])
    refine arun_nil ?_
    refine ain_n ?_
    refine athen_n ?_
    refine AWP.sub [(0, _), (5, _), (15, _), (16, _), (17, _), (18, _), (6, _), (7, _)] ⟨rfl, rfl, rfl, rfl, rfl, rfl, rfl, rfl, trivial⟩ ?_
    simp only [Nat.zero_add, Nat.mul_one, Int.toNat_natCast]
    refine AWP.region ?_
    refine rC (Calm.bin rfl rfl b_add_i64) ?_
    refine rC (Calm.move rfl) ?_
    refine arun_nil ?_
    refine athen_n ?_
    refine ⟨(i + 1, x.set (plc l.length e[i]) ((i + 1 : Nat) : Int)), ?_, ?_, ?_, ?_⟩
    all_goals (try dsimp only)
    · exact ⟨sq_, sq_, sq_, sq_, sq_, trivial⟩
    · rw [List.map_set]; exact Mem.Less.refl _
    · exact ⟨hc, hst⟩
    · omega
  · obtain rfl : i = e.length := by omega
    refine AWP.seq ?_
    refine AWP.region ?_
    refine rC (Calm.bin rfl rfl b_lss) ?_
    refine arun_nil ?_
    refine athen_n ?_
    refine AWP.seq ?_
    refine AWP.condF rfl (by first | rfl | (simp; done) | (simp; omega)) ?_
    refine AWP.exit ?_
    refine athen_exit ?_
    refine athen_exit ?_
    refine ain_same ?_
    refine athen_n ?_
    refine AWP.seq ?_
    refine AWP.region ?_
    refine rC (Calm.move rfl) ?_
    refine rC (Calm.assign rfl) ?_
    refine arun_nil ?_
    refine athen_n ?_
    refine AWP.sub [(0, _), (5, _), (15, _), (16, _), (17, _), (18, _), (4, _)] ⟨rfl, rfl, rfl, rfl, rfl, rfl, rfl, trivial⟩ ?_
    refine AWP.ret ?_
    refine ⟨_, _, ⟨_, _, rfl, rfl, rfl⟩, Mem.Less.refl _, ?_⟩
    exact ⟨x, hr, Mem.less_set _ _ _ f14.1, Sl.own1 (g := gZ) (l := x) (Mem.own_set_same _ _ _) List.prefix_rfl hr.len (Nat.le_refl _) (by omega)⟩
def cf2 (l : List Nat) (x : List Int) (a b : Nat) : Int := orL [cmpU (at0 l a) (at0 l b), cmpZ (x.getD (a + 1) 0) (x.getD (b + 1) 0)]
def cf3 (l : List Nat) (x : List Int) (a b : Nat) : Int := orL [cmpU (at0 l a) (at0 l b), cmpU (at0 l (a + 1)) (at0 l (b + 1)), cmpZ (x.getD (a + 2) 0) (x.getD (b + 2) 0)]
theorem cf2_neg (l : List Nat) (x : List Int) (a b : Nat) : cf2 l x a b < 0 ↔ at0 l a < at0 l b ∨ at0 l a = at0 l b ∧ x.getD (a + 1) 0 < x.getD (b + 1) 0 := by
  unfold cf2 orL orL orL
  have h1 := cmpU_neg (at0 l a) (at0 l b)
  have h2 := cmpU_zero (at0 l a) (at0 l b)
  have h3 := cmpZ_neg (x.getD (a + 1) 0) (x.getD (b + 1) 0)
  have h4 := cmpZ_zero (x.getD (a + 1) 0) (x.getD (b + 1) 0)
  split
  · split <;> omega
  · omega
theorem cf3_neg (l : List Nat) (x : List Int) (a b : Nat) : cf3 l x a b < 0 ↔ at0 l a < at0 l b ∨ at0 l a = at0 l b ∧ (at0 l (a + 1) < at0 l (b + 1) ∨ at0 l (a + 1) = at0 l (b + 1) ∧ x.getD (a + 2) 0 < x.getD (b + 2) 0) := by
  unfold cf3 orL orL orL orL
  have h1 := cmpU_neg (at0 l a) (at0 l b)
  have h2 := cmpU_zero (at0 l a) (at0 l b)
  have h5 := cmpU_neg (at0 l (a + 1)) (at0 l (b + 1))
  have h6 := cmpU_zero (at0 l (a + 1)) (at0 l (b + 1))
  have h3 := cmpZ_neg (x.getD (a + 2) 0) (x.getD (b + 2) 0)
  have h4 := cmpZ_zero (x.getD (a + 2) 0) (x.getD (b + 2) 0)
  split
  · split
    · split <;> omega
    · omega
  · omega
set_option maxHeartbeats 1000000 in
theorem sk_rcmp (a b c2 c3 p : Nat) (vx : Value) (l : List Nat) (x : List Int) (S : Mem) (h2 : S.Knows ⟨c2, 0, none⟩ [.pointer (some ⟨p, 0, none⟩)]) (h3 : S.Knows ⟨c3, 0, none⟩ [vx]) (hv : LvR S p l) (hx : Sl 1 i64s S vx x) (hxl : x.length = l.length + 3) (ha : a < l.length) (hb : b < l.length) (hl : l.length ≤ 4096) :
    ACall Try.prog 138 #[gI a, gI b, .pointer (some ⟨c2, 0, none⟩), .pointer (some ⟨c3, 0, none⟩)] S fun r S' => r = .int .i64 (cf2 l x a b) ∧ S' = S := by
  unfold gI at *
  obtain ⟨vt, vs, v1, v2, v3, v4⟩ := hv
  obtain ⟨xa, xc, rfl, x1, x2, x3⟩ := id hx
  obtain ⟨xb, xo, rfl, hkx⟩ := x3.resolve_left (fun h => by rw [h] at hxl; simp at hxl)
  have k1 : S.Knows ⟨xb, xo + (a + 1) * 1, none⟩ [.int .i64 (x.getD (a + 1) 0)] := by rw [getD_get x (a + 1) 0 (by omega)]; exact hkx (a + 1) (by omega)
  have k2 : S.Knows ⟨xb, xo + (b + 1) * 1, none⟩ [.int .i64 (x.getD (b + 1) 0)] := by rw [getD_get x (b + 1) 0 (by omega)]; exact hkx (b + 1) (by omega)
  refine ACall.enter (args := [.int .i64 (a : Int), .int .i64 (b : Int), .pointer (some ⟨c2, 0, none⟩), .pointer (some ⟨c3, 0, none⟩)]) (rs := [.tmp 6]) 33 [(0, .int .i64 (a : Int)), (1, .int .i64 (b : Int)), (2, .pointer (some ⟨c2, 0, none⟩)), (3, .pointer (some ⟨c3, 0, none⟩))] Try.func138 rfl rfl (Nat.le_of_ble_eq_true rfl) rfl ⟨rfl, rfl, rfl, rfl, trivial⟩ ?_
  refine AWP.seq ?_
  refine AWP.region ?_
  refine rC (Calm.assign rfl) ?_
  refine arun_nil ?_
  refine athen_n ?_
  refine AWP.seq ?_
  refine AWP.draw [(0, true), (1, true), (2, true), (3, true), (4, true), (6, true), (7, true), (8, true), (9, true), (10, true), (13, true), (14, true), (15, true), (16, true), (17, true), (18, true), (19, true), (20, true), (21, true), (22, true), (5, false), (11, false), (12, false), (23, false), (24, false), (25, false), (26, true)] [] mixed (by kernel_rfl) ?_
  refine dC (hc := ld_ ty_plain_76 rfl) (h := ?_)
  refine dP (hc := fun _ => Calm.nilCheck rfl) (h := ?_)
  refine dP (hc := fun _ => Calm.fieldAddr ty_field_78_0 rfl) (h := ?_)
  refine dC (hc := ld_ ty_plain_72 rfl) (h := ?_)
  refine dP (hc := fun _ => Calm.move rfl) (h := ?_)
  refine dC (hc := ld_ ty_plain_76 rfl) (h := ?_)
  refine dP (hc := fun _ => Calm.nilCheck rfl) (h := ?_)
  refine dP (hc := fun _ => Calm.fieldAddr ty_field_78_0 rfl) (h := ?_)
  refine dC (hc := ld_ ty_plain_72 rfl) (h := ?_)
  refine dP (hc := fun _ => Calm.move rfl) (h := ?_)
  refine dC (hc := ld_ ty_plain_24 rfl) (h := ?_)
  refine dP (hc := fun _ => Calm.move rfl) (h := ?_)
  refine dP (hc := fun _ => Calm.bin rfl rfl b_add_i64) (h := ?_)
  refine dP (hc := fun _ => Calm.indexS Try.underlying24 ty_size_3 rfl rfl (by omega) (by omega)) (h := ?_)
  refine dC (hc := ld_ ty_plain_3 rfl) (h := ?_)
  refine dC (hc := ld_ ty_plain_24 rfl) (h := ?_)
  refine dP (hc := fun _ => Calm.move rfl) (h := ?_)
  refine dP (hc := fun _ => Calm.bin rfl rfl b_add_i64) (h := ?_)
  refine dP (hc := fun _ => Calm.indexS Try.underlying24 ty_size_3 rfl rfl (by omega) (by omega)) (h := ?_)
  refine dC (hc := ld_ ty_plain_3 rfl) (h := ?_)
  refine draw_only rfl ?_
  refine ARun.call (lit_lt rfl) go_98 rfl (sk_at vt l _ a rfl _ v3) ?_
  rintro _ S1 ⟨rfl, h5⟩
  rw [h5]; clear h5 S1
  refine arun_nil ⟨fun _ => less_, ?_⟩
  refine draw_only rfl ?_
  refine ARun.call (lit_lt rfl) go_98 rfl (sk_at vt l _ b rfl _ v3) ?_
  rintro _ S1 ⟨rfl, h5⟩
  rw [h5]; clear h5 S1
  refine arun_nil ⟨fun _ => less_, ?_⟩
  refine draw_only rfl ?_
  refine ARun.call (lit_lt rfl) go_94 rfl (numV_cmp2 (at0 l a) (at0 l b) _) ?_
  rintro _ S1 ⟨rfl, h5⟩
  rw [h5]; clear h5 S1
  refine arun_nil ⟨fun _ => less_, ?_⟩
  refine draw_only rfl ?_
  refine ARun.call (lit_lt rfl) go_95 rfl (si_cmp (x.getD (a + 1) 0) (x.getD (b + 1) 0) _) ?_
  rintro _ S1 ⟨rfl, h5⟩
  rw [h5]; clear h5 S1
  refine arun_nil ⟨fun _ => less_, ?_⟩
  refine draw_only rfl ?_
  refine ARun.buildN (cs := [_, _]) (lit_lt rfl) ty_sl_24 rfl rfl rfl rfl ?_
  intro b31 f31
  have g31 := f31
  repeat ((with_reducible replace g31 := fresh_set g31); obtain ⟨g31, _⟩ := g31)
  refine arun_nil ⟨fun _ => less_, ?_⟩
  refine draw_only rfl ?_
  refine ARun.call (lit_lt rfl) go_93 rfl (si_Or _ _ _ (sl_own2 own_)) ?_
  rintro _ _ ⟨rfl, rfl⟩
  refine arun_nil ⟨fun _ => less_, ?_⟩
  refine dP (hc := fun _ => Calm.assign rfl) (h := ?_)
  refine draw_nil ?_
  refine athen_n ?_
  refine AWP.sub [(0, _), (1, _), (2, _), (3, _), (6, _)] ⟨rfl, rfl, rfl, rfl, rfl, trivial⟩ ?_
  refine AWP.ret ?_
  refine ⟨_, S, ⟨_, _, rfl, rfl, rfl⟩, less_, ?_⟩
  exact ⟨rfl, rfl⟩
set_option maxHeartbeats 2000000 in
theorem sk_ahead (p s z : Nat) (iS iz : Int) (es : iS = s) (ez : iz = z) (vx : Value) (l e : List Nat) (x : List Int) (S : Mem) (hv : LvR S p l) (hx : Sl 1 i64s S vx x) (h1 : ∀ y ∈ l, 1 ≤ y) (he : Ord.SortedE (red l) e) (hr : Rk l e x) (hs : s < l.length) (hz : z < l.length) (hs3 : s % 3 ≠ 0) (hz3 : z % 3 = 0) (hl : l.length ≤ 4096) :
    ACall Try.prog 107 #[.pointer (some ⟨p, 0, none⟩), vx, .int .i64 iS, .int .i64 iz] S fun r S' => r = .bool (Ord.sl l s z) ∧ S' = S := by
  subst es ez
  have hxl := hr.len
  obtain ⟨vt, vs, v1, v2, v3, v4⟩ := hv
  obtain ⟨xa, xc, rfl, x1, x2, x3⟩ := id hx
  obtain ⟨xb, xo, rfl, hkx⟩ := x3.resolve_left (fun h => by rw [h] at hxl; simp at hxl)
  have kx : ∀ k, k < x.length → S.Knows ⟨xb, xo + k * 1, none⟩ [.int .i64 (x.getD k 0)] := fun k hk => by rw [getD_get x k 0 hk]; exact hkx k hk
  have k1 := kx (s + 1) (by omega)
  have k2 := kx (z + 1) (by omega)
  have k3 := kx (s + 2) (by omega)
  have k4 := kx (z + 2) (by omega)
  clear kx hkx
  by_cases h3 : s % 3 = 1
  · have hans : decide (cf2 l x s z < 0) = Ord.sl l s z := by rw [Bool.eq_iff_iff, decide_eq_true_eq, cf2_neg, sl_one l e x h1 he hr s z hs hz (by omega) (by omega) (by omega)]
    refine ACall.enter (args := [.pointer (some ⟨p, 0, none⟩), .slice (some ⟨xb, xo, none⟩) x.length xc, .int .i64 (s : Int), .int .i64 (z : Int)]) (rs := [.tmp 8]) 81 [(0, .pointer (some ⟨p, 0, none⟩)), (1, .slice (some ⟨xb, xo, none⟩) x.length xc), (2, .int .i64 (s : Int)), (3, .int .i64 (z : Int))] Try.func107 rfl rfl (Nat.le_of_ble_eq_true rfl) rfl ⟨rfl, rfl, rfl, rfl, trivial⟩ ?_
    refine AWP.seq ?_
    refine AWP.region ?_
    refine rC (Calm.assign rfl) ?_
    refine arun_nil ?_
    refine athen_n ?_
    refine AWP.seq ?_
    refine AWP.seq ?_
    refine AWP.region ?_
    refine rC (Calm.move rfl) ?_
    refine rC (Calm.bin rfl rfl b_rem) ?_
    refine rC (Calm.bin rfl rfl b_eql) ?_
    refine arun_nil ?_
    refine athen_n ?_
    refine AWP.sub [(0, _), (1, _), (2, _), (3, _), (8, _), (11, _)] ⟨rfl, rfl, rfl, rfl, rfl, rfl, trivial⟩ ?_
    refine AWP.condT rfl (by first | rfl | (simp; done) | (simp; omega)) ?_
    refine AWP.seq ?_
    refine AWP.draw [(0, true), (1, true), (2, true), (3, true), (4, true), (6, true), (7, true), (8, true), (9, true), (10, true), (13, true), (14, true), (15, true), (16, true), (17, true), (18, true), (19, true), (20, true), (21, true), (22, true), (5, false), (11, false), (12, false), (23, false), (24, false), (25, false), (26, true), (27, true)] [] mixed (by kernel_rfl) ?_
    refine dP (hc := fun _ => Calm.move rfl) (h := ?_)
    refine dP (hc := fun _ => Calm.nilCheck rfl) (h := ?_)
    refine dP (hc := fun _ => Calm.fieldAddr ty_field_78_0 rfl) (h := ?_)
    refine dC (hc := ld_ ty_plain_72 rfl) (h := ?_)
    refine dP (hc := fun _ => Calm.move rfl) (h := ?_)
    refine dP (hc := fun _ => Calm.move rfl) (h := ?_)
    refine dP (hc := fun _ => Calm.nilCheck rfl) (h := ?_)
    refine dP (hc := fun _ => Calm.fieldAddr ty_field_78_0 rfl) (h := ?_)
    refine dC (hc := ld_ ty_plain_72 rfl) (h := ?_)
    refine dP (hc := fun _ => Calm.move rfl) (h := ?_)
    refine dP (hc := fun _ => Calm.move rfl) (h := ?_)
    refine dP (hc := fun _ => Calm.move rfl) (h := ?_)
    refine dP (hc := fun _ => Calm.bin rfl rfl b_add_i64) (h := ?_)
    refine dP (hc := fun _ => Calm.indexS Try.underlying24 ty_size_3 rfl rfl (by omega) (by omega)) (h := ?_)
    refine dC (hc := ld_ ty_plain_3 rfl) (h := ?_)
    refine dP (hc := fun _ => Calm.move rfl) (h := ?_)
    refine dP (hc := fun _ => Calm.move rfl) (h := ?_)
    refine dP (hc := fun _ => Calm.bin rfl rfl b_add_i64) (h := ?_)
    refine dP (hc := fun _ => Calm.indexS Try.underlying24 ty_size_3 rfl rfl (by omega) (by omega)) (h := ?_)
    refine dC (hc := ld_ ty_plain_3 rfl) (h := ?_)
    refine draw_only rfl ?_
    refine ARun.call (lit_lt rfl) go_98 rfl (sk_at vt l _ s rfl _ v3) ?_
    rintro _ S1 ⟨rfl, h5⟩
    rw [h5]; clear h5 S1
    refine arun_nil ⟨fun _ => less_, ?_⟩
    refine draw_only rfl ?_
    refine ARun.call (lit_lt rfl) go_98 rfl (sk_at vt l _ z rfl _ v3) ?_
    rintro _ S1 ⟨rfl, h5⟩
    rw [h5]; clear h5 S1
    refine arun_nil ⟨fun _ => less_, ?_⟩
    refine draw_only rfl ?_
    refine ARun.call (lit_lt rfl) go_94 rfl (numV_cmp2 (at0 l s) (at0 l z) _) ?_
    rintro _ S1 ⟨rfl, h5⟩
    rw [h5]; clear h5 S1
    refine arun_nil ⟨fun _ => less_, ?_⟩
    refine draw_only rfl ?_
    refine ARun.call (lit_lt rfl) go_95 rfl (si_cmp (x.getD (s + 1) 0) (x.getD (z + 1) 0) _) ?_
    rintro _ S1 ⟨rfl, h5⟩
    rw [h5]; clear h5 S1
    refine arun_nil ⟨fun _ => less_, ?_⟩
    refine draw_only rfl ?_
    refine ARun.buildN (cs := [_, _]) (lit_lt rfl) ty_sl_24 rfl rfl rfl rfl ?_
    intro b36 f36
    have g36 := f36
    repeat ((with_reducible replace g36 := fresh_set g36); obtain ⟨g36, _⟩ := g36)
    refine arun_nil ⟨fun _ => less_, ?_⟩
    refine draw_only rfl ?_
    refine ARun.call (lit_lt rfl) go_93 rfl (si_Or _ _ _ (sl_own2 own_)) ?_
    rintro _ _ ⟨rfl, rfl⟩
    refine arun_nil ⟨fun _ => less_, ?_⟩
    refine dP (hc := fun _ => Calm.bin rfl rfl (bin_bool (bin_lss _ _) hans)) (h := ?_)
    refine dP (hc := fun _ => Calm.assign rfl) (h := ?_)
    refine draw_nil ?_
    refine athen_n ?_
    refine AWP.sub [(0, _), (1, _), (2, _), (3, _), (8, _), (11, _)] ⟨rfl, rfl, rfl, rfl, rfl, rfl, trivial⟩ ?_
    refine AWP.ret ?_
    refine athen_ret ?_
    refine ⟨_, S, ⟨_, _, rfl, rfl, rfl⟩, less_, ?_⟩
    exact ⟨rfl, rfl⟩
  · have hans : decide (cf3 l x s z < 0) = Ord.sl l s z := by rw [Bool.eq_iff_iff, decide_eq_true_eq, cf3_neg, sl_two l e x h1 he hr s z hs hz (by omega) (by omega) (by omega)]
    refine ACall.enter (args := [.pointer (some ⟨p, 0, none⟩), .slice (some ⟨xb, xo, none⟩) x.length xc, .int .i64 (s : Int), .int .i64 (z : Int)]) (rs := [.tmp 8]) 81 [(0, .pointer (some ⟨p, 0, none⟩)), (1, .slice (some ⟨xb, xo, none⟩) x.length xc), (2, .int .i64 (s : Int)), (3, .int .i64 (z : Int))] Try.func107 rfl rfl (Nat.le_of_ble_eq_true rfl) rfl ⟨rfl, rfl, rfl, rfl, trivial⟩ ?_
    refine AWP.seq ?_
    refine AWP.region ?_
    refine rC (Calm.assign rfl) ?_
    refine arun_nil ?_
    refine athen_n ?_
    refine AWP.seq ?_
    refine AWP.seq ?_
    refine AWP.region ?_
    refine rC (Calm.move rfl) ?_
    refine rC (Calm.bin rfl rfl b_rem) ?_
    refine rC (Calm.bin rfl rfl b_eql) ?_
    refine arun_nil ?_
    refine athen_n ?_
    refine AWP.sub [(0, _), (1, _), (2, _), (3, _), (8, _), (11, _)] ⟨rfl, rfl, rfl, rfl, rfl, rfl, trivial⟩ ?_
    refine AWP.condF rfl (by first | rfl | (simp; done) | (simp; omega)) ?_
    refine AWP.skip ?_
    refine athen_n ?_
    refine AWP.seq ?_
    refine AWP.draw [(0, true), (1, true), (2, true), (3, true), (4, true), (6, true), (7, true), (8, true), (9, true), (10, true), (13, true), (14, true), (15, true), (16, true), (17, true), (18, true), (20, true), (21, true), (22, true), (23, true), (24, true), (25, true), (28, true), (29, true), (30, true), (31, true), (32, true), (33, true), (34, true), (35, true), (36, true), (37, true), (5, false), (11, false), (12, false), (19, false), (26, false), (27, false), (38, false), (39, false), (40, false), (41, true), (42, true)] [] mixed (by kernel_rfl) ?_
    refine dP (hc := fun _ => Calm.move rfl) (h := ?_)
    refine dP (hc := fun _ => Calm.nilCheck rfl) (h := ?_)
    refine dP (hc := fun _ => Calm.fieldAddr ty_field_78_0 rfl) (h := ?_)
    refine dC (hc := ld_ ty_plain_72 rfl) (h := ?_)
    refine dP (hc := fun _ => Calm.move rfl) (h := ?_)
    refine dP (hc := fun _ => Calm.move rfl) (h := ?_)
    refine dP (hc := fun _ => Calm.nilCheck rfl) (h := ?_)
    refine dP (hc := fun _ => Calm.fieldAddr ty_field_78_0 rfl) (h := ?_)
    refine dC (hc := ld_ ty_plain_72 rfl) (h := ?_)
    refine dP (hc := fun _ => Calm.move rfl) (h := ?_)
    refine dP (hc := fun _ => Calm.move rfl) (h := ?_)
    refine dP (hc := fun _ => Calm.nilCheck rfl) (h := ?_)
    refine dP (hc := fun _ => Calm.fieldAddr ty_field_78_0 rfl) (h := ?_)
    refine dC (hc := ld_ ty_plain_72 rfl) (h := ?_)
    refine dP (hc := fun _ => Calm.move rfl) (h := ?_)
    refine dP (hc := fun _ => Calm.bin rfl rfl b_add_i64) (h := ?_)
    refine dP (hc := fun _ => Calm.move rfl) (h := ?_)
    refine dP (hc := fun _ => Calm.nilCheck rfl) (h := ?_)
    refine dP (hc := fun _ => Calm.fieldAddr ty_field_78_0 rfl) (h := ?_)
    refine dC (hc := ld_ ty_plain_72 rfl) (h := ?_)
    refine dP (hc := fun _ => Calm.move rfl) (h := ?_)
    refine dP (hc := fun _ => Calm.bin rfl rfl b_add_i64) (h := ?_)
    refine dP (hc := fun _ => Calm.move rfl) (h := ?_)
    refine dP (hc := fun _ => Calm.move rfl) (h := ?_)
    refine dP (hc := fun _ => Calm.bin rfl rfl b_add_i64) (h := ?_)
    refine dP (hc := fun _ => Calm.indexS Try.underlying24 ty_size_3 rfl rfl (by omega) (by omega)) (h := ?_)
    refine dC (hc := ld_ ty_plain_3 rfl) (h := ?_)
    refine dP (hc := fun _ => Calm.move rfl) (h := ?_)
    refine dP (hc := fun _ => Calm.move rfl) (h := ?_)
    refine dP (hc := fun _ => Calm.bin rfl rfl b_add_i64) (h := ?_)
    refine dP (hc := fun _ => Calm.indexS Try.underlying24 ty_size_3 rfl rfl (by omega) (by omega)) (h := ?_)
    refine dC (hc := ld_ ty_plain_3 rfl) (h := ?_)
    refine draw_only rfl ?_
    refine ARun.call (lit_lt rfl) go_98 rfl (sk_at vt l _ s rfl _ v3) ?_
    rintro _ S1 ⟨rfl, h5⟩
    rw [h5]; clear h5 S1
    refine arun_nil ⟨fun _ => less_, ?_⟩
    refine draw_only rfl ?_
    refine ARun.call (lit_lt rfl) go_98 rfl (sk_at vt l _ z rfl _ v3) ?_
    rintro _ S1 ⟨rfl, h5⟩
    rw [h5]; clear h5 S1
    refine arun_nil ⟨fun _ => less_, ?_⟩
    refine draw_only rfl ?_
    refine ARun.call (lit_lt rfl) go_94 rfl (numV_cmp2 (at0 l s) (at0 l z) _) ?_
    rintro _ S1 ⟨rfl, h5⟩
    rw [h5]; clear h5 S1
    refine arun_nil ⟨fun _ => less_, ?_⟩
    refine draw_only rfl ?_
    refine ARun.call (lit_lt rfl) go_98 rfl (sk_at vt l _ (s + 1) om_ _ v3) ?_
    rintro _ S1 ⟨rfl, h5⟩
    rw [h5]; clear h5 S1
    refine arun_nil ⟨fun _ => less_, ?_⟩
    refine draw_only rfl ?_
    refine ARun.call (lit_lt rfl) go_98 rfl (sk_at vt l _ (z + 1) om_ _ v3) ?_
    rintro _ S1 ⟨rfl, h5⟩
    rw [h5]; clear h5 S1
    refine arun_nil ⟨fun _ => less_, ?_⟩
    refine draw_only rfl ?_
    refine ARun.call (lit_lt rfl) go_94 rfl (numV_cmp2 (at0 l (s + 1)) (at0 l (z + 1)) _) ?_
    rintro _ S1 ⟨rfl, h5⟩
    rw [h5]; clear h5 S1
    refine arun_nil ⟨fun _ => less_, ?_⟩
    refine draw_only rfl ?_
    refine ARun.call (lit_lt rfl) go_95 rfl (si_cmp (x.getD (s + 2) 0) (x.getD (z + 2) 0) _) ?_
    rintro _ S1 ⟨rfl, h5⟩
    rw [h5]; clear h5 S1
    refine arun_nil ⟨fun _ => less_, ?_⟩
    refine draw_only rfl ?_
    refine ARun.buildN (cs := [_, _, _]) (lit_lt rfl) ty_sl_24 rfl rfl rfl rfl ?_
    intro b78 f78
    have g78 := f78
    repeat ((with_reducible replace g78 := fresh_set g78); obtain ⟨g78, _⟩ := g78)
    refine arun_nil ⟨fun _ => less_, ?_⟩
    refine draw_only rfl ?_
    refine ARun.call (lit_lt rfl) go_93 rfl (si_Or _ _ _ (sl_own3 own_)) ?_
    rintro _ _ ⟨rfl, rfl⟩
    refine arun_nil ⟨fun _ => less_, ?_⟩
    refine dP (hc := fun _ => Calm.bin rfl rfl (bin_bool (bin_lss _ _) hans)) (h := ?_)
    refine dP (hc := fun _ => Calm.assign rfl) (h := ?_)
    refine draw_nil ?_
    refine athen_n ?_
    refine AWP.sub [(0, _), (1, _), (2, _), (3, _), (8, _), (11, _)] ⟨rfl, rfl, rfl, rfl, rfl, rfl, trivial⟩ ?_
    refine AWP.ret ?_
    refine ⟨_, S, ⟨_, _, rfl, rfl, rfl⟩, less_, ?_⟩
    exact ⟨rfl, rfl⟩
end Go.Proofs.Ytgidjbpgkeemiaa
namespace Go.Proofs.Ytgidjbpgkeemiaa
open Go.RowKit
open Mv Num Loser Skew Srt
set_option linter.unusedVariables false
set_option linter.unusedSimpArgs false
set_option maxRecDepth 4000
theorem swo2 (l : List Nat) (x : List Int) : Go.Sort.SWO (lq (cf2 l x)) := by
  have e : ∀ a b, lq (cf2 l x) a b = true ↔ at0 l a < at0 l b ∨ at0 l a = at0 l b ∧ x.getD (a + 1) 0 < x.getD (b + 1) 0 := fun a b => by unfold lq; rw [decide_eq_true_eq, cf2_neg]
  have e0 : ∀ a b, lq (cf2 l x) a b = false ↔ ¬ (at0 l a < at0 l b ∨ at0 l a = at0 l b ∧ x.getD (a + 1) 0 < x.getD (b + 1) 0) := fun a b => by rw [← e]; simp
  exact ⟨fun a => by rw [e0]; omega, fun a b c h1 h2 => by rw [e] at *; omega, fun a b c h1 h2 => by rw [e0] at *; omega⟩
theorem sorted_rest (l e : List Nat) (x : List Int) (h1 : ∀ y ∈ l, 1 ≤ y) (he : Ord.SortedE (red l) e) (hr : Rk l e x) (L : List Nat) (hL : L = restP 0 l.length) (d' : Array Nat) (hd : d' = Go.Sort.pdq (lq (cf2 l x)) L.toArray 0 L.length (Go.Sort.bitsLen L.length) true true) :
    d'.toList.Perm (restP 0 l.length) ∧ d'.toList.Pairwise (fun a b => Ord.sl l a b = true) := by
  obtain ⟨p1, p2⟩ := Go.Sort.pdq_sorts _ (swo2 l x) L.toArray 0 L.length (Go.Sort.bitsLen L.length) true true (Nat.zero_le _) (by simp) (Or.inl rfl)
  rw [← hd] at p1 p2
  have hs : d'.size = L.length := by rw [p1.1]; simp
  have hp : d'.toList.Perm L := by
    have := p1.2.2
    rw [show d'.extract 0 L.length = d' by rw [← hs]; simp, show L.toArray.extract 0 L.length = L.toArray by simp] at this
    simpa using this
  rw [hL] at hp
  refine ⟨hp, rest_sorted l e x h1 he hr _ hp fun i j hij hj => ?_⟩
  have hj' : j < L.length := by simpa [hs] using hj
  have := p2 i j (Nat.zero_le _) hij hj'
  unfold lq at this
  rw [decide_eq_false_iff_not, cf2_neg] at this
  rw [getD_get _ _ _ hj, getD_get _ _ _ (by omega)]
  rw [getElem!_pos d' j (by omega), getElem!_pos d' i (by omega)] at this
  simpa using this
set_option maxHeartbeats 2000000 in
theorem sk_rest (p : Nat) (vx : Value) (l e : List Nat) (x : List Int) (S : Mem) (hv : LvR S p l) (hx : Sl 1 i64s S vx x) (h1 : ∀ y ∈ l, 1 ≤ y) (he : Ord.SortedE (red l) e) (hr : Rk l e x) (hl : l.length ≤ 4096) :
    ACall Try.prog 106 #[.pointer (some ⟨p, 0, none⟩), vx] S fun r S' => ∃ zs, zs.Perm (restP 0 l.length) ∧ zs.Pairwise (fun a b => Ord.sl l a b = true) ∧ RdL gI zs S r S' := by
  have hv0 := hv
  obtain ⟨vt, vs, v1, v2, v3, v4⟩ := hv
  obtain ⟨ta, tc, rfl, _⟩ := id v3
  obtain ⟨xa, xc, rfl, _⟩ := id hx
  refine ACall.enter (args := [.pointer (some ⟨p, 0, none⟩), .slice xa x.length xc]) (rs := [.tmp 4]) 24 [(0, .pointer (some ⟨p, 0, none⟩)), (1, .slice xa x.length xc)] Try.func106 rfl rfl (Nat.le_of_ble_eq_true rfl) rfl ⟨rfl, rfl, trivial⟩ ?_
  refine AWP.seq ?_
  refine AWP.region ?_
  refine ARun.box1 (lit_lt rfl) rfl rfl ?_
  intro b2 f2
  have g2 := f2
  repeat ((with_reducible replace g2 := fresh_set g2); obtain ⟨g2, _⟩ := g2)
  (try simp only [List.length_cons, List.length_nil, Nat.zero_add, Nat.reduceAdd])
  refine ARun.box1 (lit_lt rfl) rfl rfl ?_
  intro b3 f3
  have g3 := f3
  repeat ((with_reducible replace g3 := fresh_set g3); obtain ⟨g3, _⟩ := g3)
  (try simp only [List.length_cons, List.length_nil, Nat.zero_add, Nat.reduceAdd])
  refine rC (Calm.assign rfl) ?_
  refine arun_nil ?_
  refine athen_n ?_
  obtain ⟨B, hB⟩ : ∃ B, B = (S.set b2 ⟨76, [.pointer (some ⟨p, 0, none⟩)], 1⟩).set b3 ⟨24, [.slice xa x.length xc], 1⟩ := ⟨_, rfl⟩
  have hSB : S.Less B := by rw [hB]; exact less_
  have o2 : B.own b2 = some ⟨76, [.pointer (some ⟨p, 0, none⟩)], 1⟩ := by rw [hB]; exact own_
  have o3 : B.own b3 = some ⟨24, [.slice xa x.length xc], 1⟩ := by rw [hB]; exact own_
  rw [← hB]
  clear hB f2 f3 g2 g3
  refine AWP.seq ?_
  refine AWP.region ?_
  refine rC (Calm.assign rfl) ?_
  refine arun_nil ?_
  refine athen_n ?_
  refine AWP.seq ?_
  refine AWP.seq ?_
  refine AWP.region ?_
  refine rC (Calm.assign rfl) ?_
  refine arun_nil ?_
  refine athen_n ?_
  refine AWP.block ?_
  refine AWP.loop (X := Nat × List Nat × Option (Nat × Nat)) (fun x => [(2, .pointer (some ⟨b2, 0, none⟩)), (3, .pointer (some ⟨b3, 0, none⟩)), (5, outV x.2.2 x.2.1.length), (6, .int .i64 x.1)]) (fun x => outM B x.2.2 3 (x.2.1.map gI)) (fun x => x.1 % 3 = 0 ∧ x.1 < l.length + 3 ∧ x.2.1 = restP 0 x.1 ∧ OkO B x.2.2 x.2.1.length) (fun x => l.length + 3 - x.1) ((0, [], none)) ⟨rfl, rfl, rfl, rfl, trivial⟩ (Mem.Less.refl _) (⟨rfl, by dsimp only; omega, rfl, okO_nil _⟩) ?_
  rintro ⟨i, L, o⟩ ⟨k1, k2, k3, k4⟩
  (try dsimp only at *)
  have q2 := own_outM (e := 3) (cs := L.map gI) k4 o2
  have hSo : S.Less (outM B o 3 (L.map gI)) := hSB.trans (outM_over k4)
  have hLl : L.length ≤ l.length + 3 := by rw [k3, restP_length 0 (by omega)]; omega
  by_cases hi : i < l.length
  · refine AWP.seq ?_
    refine AWP.seq ?_
    refine AWP.region ?_
    refine rC (Calm.move rfl) ?_
    refine rC (ld_ ty_plain_76 rfl) ?_
    refine rC (Calm.nilCheck rfl) ?_
    refine rC (Calm.fieldAddr ty_field_78_0 rfl) ?_
    refine rC (ld_ ty_plain_72 rfl) ?_
    refine rC (Calm.lenSl Try.underlying72 rfl) ?_
    refine rC (Calm.bin rfl rfl b_lss) ?_
    refine arun_nil ?_
    refine athen_n ?_
    refine AWP.sub [(2, _), (3, _), (5, _), (6, _), (13, _)] ⟨rfl, rfl, rfl, rfl, rfl, trivial⟩ ?_
    refine AWP.condT rfl (by first | rfl | (simp; done) | (simp; omega)) ?_
    refine AWP.skip ?_
    refine athen_n ?_
    refine AWP.seq ?_
    refine AWP.block ?_
    refine AWP.region ?_
    refine rC (Calm.move rfl) ?_
    refine rC (Calm.move rfl) ?_
    refine ARun.build1s (lit_lt rfl) ty_sl_24 rfl rfl ?_
    intro b18 f18
    have g18 := f18
    repeat ((with_reducible replace g18 := fresh_set g18); obtain ⟨g18, _⟩ := g18)
    refine ARun.appendO (lit_lt rfl) ty_sl_24 rfl map_len (appO_of k4 map_len f18) rfl (news := [_]) rds_ rfl (by omega) (by simp [Value.oneCell']) (by omega) (by omega) ?_
    intro b19 c19 ho2
    refine rC (Calm.assign rfl) ?_
    refine arun_nil ?_
    refine ain_n ?_
    refine athen_n ?_
    refine AWP.sub [(2, _), (3, _), (5, _), (6, _), (13, _)] ⟨rfl, rfl, rfl, rfl, rfl, trivial⟩ ?_
    refine AWP.region ?_
    refine rC (Calm.move rfl) ?_
    refine rC (Calm.bin rfl rfl b_add_i64) ?_
    refine rC (Calm.assign rfl) ?_
    refine arun_nil ?_
    refine athen_n ?_
    refine ⟨(i + 3, L ++ [i], some (b19, c19)), ?_, ?_, ?_, ?_⟩
    all_goals (try dsimp only)
    · exact ⟨sq_, sq_, sq_, sq_, trivial⟩
    · exact push_less rfl
    · exact ⟨by omega, by omega, by rw [k3, restP_step 0 i k1], push_ok ho2 rfl⟩
    · omega
  · refine AWP.seq ?_
    refine AWP.seq ?_
    refine AWP.region ?_
    refine rC (Calm.move rfl) ?_
    refine rC (ld_ ty_plain_76 rfl) ?_
    refine rC (Calm.nilCheck rfl) ?_
    refine rC (Calm.fieldAddr ty_field_78_0 rfl) ?_
    refine rC (ld_ ty_plain_72 rfl) ?_
    refine rC (Calm.lenSl Try.underlying72 rfl) ?_
    refine rC (Calm.bin rfl rfl b_lss) ?_
    refine arun_nil ?_
    refine athen_n ?_
    refine AWP.sub [(2, _), (3, _), (5, _), (6, _), (13, _)] ⟨rfl, rfl, rfl, rfl, rfl, trivial⟩ ?_
    refine AWP.condF rfl (by first | rfl | (simp; done) | (simp; omega)) ?_
    have hL : L = restP 0 l.length := by rw [k3, restP_over 0 l.length (by omega) i (by omega) k2 k1]
    have hLm : ∀ k ∈ L, k < l.length := fun k hk => by rw [hL] at hk; unfold restP at hk; simp at hk; exact hk.1
    cases o
    · have hn : L = [] := List.length_eq_zero_iff.1 (k4.nil rfl)
      rw [hn]
      refine AWP.exit ?_
      refine athen_exit ?_
      refine athen_exit ?_
      refine ain_same ?_
      refine athen_n ?_
      refine AWP.seq ?_
      refine AWP.region ?_
      refine rC (Calm.move rfl) ?_
      refine rC (Calm.makeFunc rfl rfl) ?_
      refine ARun.call (lit_lt rfl) go_101 rfl (soC_sort0 _ _) ?_
      rintro _ S1 h5
      rw [h5]; clear h5 S1
      refine arun_nil ?_
      refine athen_n ?_
      refine AWP.sub [(2, _), (3, _), (5, _), (6, _), (13, _)] ⟨rfl, rfl, rfl, rfl, rfl, trivial⟩ ?_
      refine AWP.seq ?_
      refine AWP.region ?_
      refine rC (Calm.move rfl) ?_
      refine rC (Calm.assign rfl) ?_
      refine arun_nil ?_
      refine athen_n ?_
      refine AWP.sub [(2, _), (3, _), (5, _), (6, _), (13, _), (4, _)] ⟨rfl, rfl, rfl, rfl, rfl, rfl, trivial⟩ ?_
      refine AWP.ret ?_
      refine ⟨_, _, ⟨_, _, rfl, rfl, rfl⟩, Mem.Less.refl _, ?_⟩
      exact ⟨[], by rw [← hL, hn], List.Pairwise.nil, hSB, Sl.nil _ _ _⟩
    · rename_i q
      obtain ⟨b, c⟩ := q
      obtain ⟨fb, hbc⟩ := k4.own b c rfl
      have hC : CmpC Try.prog gI (cf2 l x) (fun k => k < l.length) 138 [.pointer (some ⟨b2, 0, none⟩), .pointer (some ⟨b3, 0, none⟩)] B := ⟨fun x => ⟨rfl, rfl⟩, go_138, fun a b ha hb => sk_rcmp a b b2 b3 p _ l x B (Mem.own_knows o2 0 _ (fun j v hj => by rw [Nat.zero_add]; exact hj)) (Mem.own_knows o3 0 _ (fun j v hj => by rw [Nat.zero_add]; exact hj)) (hv0.less hSB) (hx.less hSB) hr.len ha hb hl⟩
      have hR : Rw (fun k => k < l.length) L.length L.toArray := ⟨by simp, fun i hi => by rw [getElem!_pos _ i (by simpa using hi)]; exact hLm _ (by simp)⟩
      have hsort := soC_sort hC b c L.length c fb (by omega) L.toArray hR
      obtain ⟨d', hd'⟩ : ∃ d', d' = Go.Sort.pdq (lq (cf2 l x)) L.toArray 0 L.length (Go.Sort.bitsLen L.length) true true := ⟨_, rfl⟩
      obtain ⟨hp, hs⟩ := sorted_rest l e x h1 he hr L hL d' hd'
      rw [← hd'] at hsort
      have hdl : d'.toList.length = L.length := by rw [hp.length_eq, ← hL]
      clear hd' hC hR
      refine AWP.exit ?_
      refine athen_exit ?_
      refine athen_exit ?_
      refine ain_same ?_
      refine athen_n ?_
      refine AWP.seq ?_
      refine AWP.region ?_
      refine rC (Calm.move rfl) ?_
      refine rC (Calm.makeFunc rfl rfl) ?_
      refine ARun.call (lit_lt rfl) go_101 rfl (hsort) ?_
      rintro _ _ ⟨rfl, _⟩
      refine arun_nil ?_
      refine athen_n ?_
      refine AWP.sub [(2, _), (3, _), (5, _), (6, _), (13, _)] ⟨rfl, rfl, rfl, rfl, rfl, trivial⟩ ?_
      refine AWP.seq ?_
      refine AWP.region ?_
      refine rC (Calm.move rfl) ?_
      refine rC (Calm.assign rfl) ?_
      refine arun_nil ?_
      refine athen_n ?_
      refine AWP.sub [(2, _), (3, _), (5, _), (6, _), (13, _), (4, _)] ⟨rfl, rfl, rfl, rfl, rfl, rfl, trivial⟩ ?_
      refine AWP.ret ?_
      refine ⟨_, _, ⟨_, _, rfl, rfl, rfl⟩, Mem.Less.refl _, ?_⟩
      exact ⟨d'.toList, hp, hs, hSB.trans (Mem.less_set _ _ _ fb.1), Sl.own1 (g := gI) (l := d'.toList) (Mem.own_set_same _ _ _) List.prefix_rfl hdl hbc (by omega)⟩
/-- A sample's place as it stands in the list that is told. -/
theorem tw_cons (l : List Nat) (s z : Nat) (zs : List Nat) (h : Ord.sl l s z = false) : (z :: zs).takeWhile (fun z => !Ord.sl l s z) = z :: zs.takeWhile (fun z => !Ord.sl l s z) ∧ (z :: zs).dropWhile (fun z => !Ord.sl l s z) = zs.dropWhile (fun z => !Ord.sl l s z) := by
  constructor
  · rw [List.takeWhile_cons_of_pos (by simp [h])]
  · rw [List.dropWhile_cons_of_pos (by simp [h])]
theorem tw_stop (l : List Nat) (s z : Nat) (zs : List Nat) (h : Ord.sl l s z = true) : (z :: zs).takeWhile (fun z => !Ord.sl l s z) = [] ∧ (z :: zs).dropWhile (fun z => !Ord.sl l s z) = z :: zs := by
  constructor
  · rw [List.takeWhile_cons_of_neg (by simp [h])]
  · rw [List.dropWhile_cons_of_neg (by simp [h])]
/-- What is still to be told: out, then the zeros that are less than s, s, and the rest. -/
def mgS (l : List Nat) (s : Nat) (ks zs : List Nat) : List Nat := zs.takeWhile (fun z => !Ord.sl l s z) ++ s :: mg l ks (zs.dropWhile (fun z => !Ord.sl l s z))
theorem src1 {S : Mem} {v : Value} {L : List Nat} (h : IdxR S v L) : Src S v L.length (L.map gI) := src_sl h
set_option maxHeartbeats 4000000 in
theorem sk_expanded (p : Nat) (ve : Value) (l e : List Nat) (S : Mem) (hv : LvR S p l) (hve : IdxR S ve e) (h1 : ∀ y ∈ l, 1 ≤ y) (he : Ord.SortedE (red l) e) (hl : l.length ≤ 4096) :
    ACall Try.prog 68 #[.pointer (some ⟨p, 0, none⟩), ve] S (RdL gI (Ord.endsR l l.length) S) := by
  have hv0 := hv
  obtain ⟨vt, vs, v1, v2, v3, v4⟩ := hv
  obtain ⟨ta, tc, rfl, _⟩ := id v3
  obtain ⟨ea, ec, rfl, e1, e2, e3⟩ := id hve
  obtain ⟨pa, pc, rfl, p1, p2, p3⟩ := id v4
  have hperm : e.Perm (List.range (numP l.length)) := by have := he.1; rw [red_length] at this; exact this
  have hel : e.length = numP l.length := by rw [hperm.length_eq, List.length_range]
  have hml : numP l.length ≤ 3000 := places_le l.length hl
  have hmm : (places l.length).length = numP l.length := rfl
  rw [hmm] at p1 p2 v2
  refine ACall.enter (args := [.pointer (some ⟨p, 0, none⟩), .slice ea e.length ec]) (rs := [.tmp 4]) 72 [(0, .pointer (some ⟨p, 0, none⟩)), (1, .slice ea e.length ec)] Try.func68 rfl rfl (Nat.le_of_ble_eq_true rfl) rfl ⟨rfl, rfl, trivial⟩ ?_
  refine AWP.seq ?_
  refine AWP.region ?_
  refine rC (Calm.assign rfl) ?_
  refine arun_nil ?_
  refine athen_n ?_
  refine AWP.seq ?_
  refine AWP.region ?_
  refine rC (Calm.move rfl) ?_
  refine rC (Calm.move rfl) ?_
  refine ARun.call (lit_lt rfl) go_105 rfl (sk_ranks p _ l e S hv0 hve hperm hl) ?_
  rintro vx S1 ⟨x, hr, hS1, hx⟩
  refine rC (Calm.assign rfl) ?_
  refine arun_nil ?_
  refine athen_n ?_
  refine AWP.sub [(0, _), (1, _), (4, _), (5, _)] ⟨rfl, rfl, rfl, rfl, trivial⟩ ?_
  refine AWP.seq ?_
  refine AWP.region ?_
  refine rC (Calm.move rfl) ?_
  refine rC (Calm.move rfl) ?_
  refine ARun.call (lit_lt rfl) go_106 rfl (sk_rest p vx l e x S1 (hv0.less hS1) hx h1 he hr hl) ?_
  rintro vz S2 ⟨zs, hzp, hzs, hS12, hz⟩
  have hres := Ord.sortedE_one (mg_ok l e zs h1 he hzp hzs) (Ord.endsR_ok l)
  have hzm : ∀ z ∈ zs, z < l.length ∧ z % 3 = 0 := fun z hz => by have := hzp.mem_iff.1 hz; unfold restP at this; simpa using this
  have hzl : zs.length ≤ l.length + 3 := by rw [hzp.length_eq, restP_length 0 (by omega)]; omega
  have hS2 := hS1.trans hS12
  replace hx := hx.less hS12
  clear hS12 hzp hzs
  refine rC (Calm.assign rfl) ?_
  refine arun_nil ?_
  refine athen_n ?_
  refine AWP.sub [(0, _), (1, _), (4, _), (5, _), (6, _)] ⟨rfl, rfl, rfl, rfl, rfl, trivial⟩ ?_
  refine AWP.seq ?_
  refine AWP.region ?_
  refine rC (Calm.move rfl) ?_
  refine rC (Calm.nilCheck rfl) ?_
  refine rC (Calm.fieldAddr ty_field_78_0 rfl) ?_
  refine rC (ld_ ty_plain_72 rfl) ?_
  refine rC (Calm.lenSl Try.underlying72 rfl) ?_
  refine ARun.makeSliceP (lit_lt rfl) ty_sl_24 rfl rfl (by omega) (by omega) (by omega) (by omega) ?_
  intro b22 f22
  have g22 := f22
  repeat ((with_reducible replace g22 := fresh_set g22); obtain ⟨g22, _⟩ := g22)
  refine rC (Calm.assign rfl) ?_
  refine arun_nil ?_
  refine athen_n ?_
  refine AWP.sub [(0, _), (1, _), (4, _), (5, _), (6, _), (7, _)] ⟨rfl, rfl, rfl, rfl, rfl, rfl, trivial⟩ ?_
  refine AWP.seq ?_
  refine AWP.seq ?_
  refine AWP.region ?_
  refine rC (Calm.move rfl) ?_
  refine rC (Calm.lenSl Try.underlying24 rfl) ?_
  refine rC (Calm.move rfl) ?_
  refine arun_nil ?_
  refine athen_n ?_
  refine AWP.block ?_
  refine AWP.loop (X := Nat × List Nat × Option (Nat × Nat) × List Nat × Value) (fun y => [(0, .pointer (some ⟨p, 0, none⟩)), (5, vx), (6, y.2.2.2.2), (7, outV y.2.2.1 y.2.1.length), (23, .slice ea e.length ec), (24, .int .i64 e.length), (25, .int .i64 y.1)]) (fun y => outM S2 y.2.2.1 3 (y.2.1.map gI)) (fun y => y.1 ≤ e.length ∧ y.2.1.length + y.2.2.2.1.length ≤ l.length + 3 + y.1 ∧ (∀ z ∈ y.2.2.2.1, z < l.length ∧ z % 3 = 0) ∧ IdxR S2 y.2.2.2.2 y.2.2.2.1 ∧ OkO S2 y.2.2.1 y.2.1.length ∧ y.2.1 ++ mg l (e.drop y.1) y.2.2.2.1 = Ord.endsR l l.length) (fun y => e.length - y.1) ((0, [], some (b22, l.length), zs, vz)) ⟨rfl, rfl, rfl, rfl, rfl, rfl, rfl, trivial⟩ (by show (S2.set b22 _).Less _; simp only [List.map_nil]; rw [show ((l.length : Int)).toNat * 1 = l.length by omega, show madeL [Value.int .i64 0] (Int.toNat 0 * 1) = [] from List.length_eq_zero_iff.1 (madeL_length _ _)]; exact Mem.Less.refl _) (⟨Nat.zero_le _, by show 0 + zs.length ≤ _; omega, hzm, hz, okO_own f22 (Nat.zero_le _), hres⟩) ?_
  rintro ⟨i, L, o, Z, uz⟩ ⟨q1, q2, q3, q4, q5, q6⟩
  (try dsimp only at *)
  have hSo : S2.Less (outM S2 o 3 (L.map gI)) := outM_over q5
  have hSS : S.Less (outM S2 o 3 (L.map gI)) := hS2.trans hSo
  by_cases hc : i < e.length
  · refine AWP.seq ?_
    refine AWP.region ?_
    refine rC (Calm.bin rfl rfl b_lss) ?_
    refine arun_nil ?_
    refine athen_n ?_
    refine AWP.seq ?_
    refine AWP.condT rfl (by first | rfl | (simp; done) | (simp; omega)) ?_
    obtain ⟨eb, eo, rfl, hke⟩ := e3.resolve_left (fun h => by rw [h] at hc; exact absurd hc (Nat.not_lt_zero _))
    have hei : e[i] < numP l.length := List.mem_range.1 (hperm.mem_iff.1 (List.getElem_mem hc))
    obtain ⟨pb, po, rfl, hkn⟩ := p3.resolve_left (fun h => by rw [← hmm, h] at hei; exact absurd hei (Nat.not_lt_zero _))
    have k0 : S.Knows ⟨eb, eo + i * 1, none⟩ [.int .i64 (e[i] : Int)] := hke i hc
    have k1 : S.Knows ⟨pb, po + e[i] * 1, none⟩ [.int .i64 (plc l.length e[i] : Int)] := by rw [places_getD hei]; exact hkn e[i] hei
    have hb := plc_lt l.length e[i] hei
    rw [List.drop_eq_getElem_cons hc, mg] at q6
    obtain ⟨s, hs⟩ : ∃ s, s = plc l.length e[i] := ⟨_, rfl⟩
    rw [← hs] at k1 hb q6
    by_cases hsl : l.length ≤ s
    · refine AWP.skip ?_
      refine athen_n ?_
      refine AWP.seq ?_
      refine AWP.block ?_
      refine AWP.seq ?_
      refine AWP.region ?_
      refine rC (Calm.indexS Try.underlying24 ty_size_3 rfl rfl (by omega) (by omega)) ?_
      refine rC (ld_ ty_plain_3 rfl) ?_
      refine rC (Calm.assign rfl) ?_
      refine arun_nil ?_
      refine athen_n ?_
      refine AWP.sub [(0, _), (5, _), (6, _), (7, _), (23, _), (24, _), (25, _), (26, _), (9, _)] ⟨rfl, rfl, rfl, rfl, rfl, rfl, rfl, rfl, rfl, trivial⟩ ?_
      refine AWP.seq ?_
      refine AWP.region ?_
      refine rC (Calm.move rfl) ?_
      refine rC (Calm.nilCheck rfl) ?_
      refine rC (Calm.fieldAddr ty_field_78_1 rfl) ?_
      refine rC (ld_ ty_plain_24 rfl) ?_
      refine rC (Calm.move rfl) ?_
      refine rC (Calm.indexS Try.underlying24 ty_size_3 rfl rfl (by omega) (by omega)) ?_
      refine rC (ld_ ty_plain_3 rfl) ?_
      refine rC (Calm.assign rfl) ?_
      refine arun_nil ?_
      refine athen_n ?_
      refine AWP.sub [(0, _), (5, _), (6, _), (7, _), (23, _), (24, _), (25, _), (26, _), (9, _), (10, _)] ⟨rfl, rfl, rfl, rfl, rfl, rfl, rfl, rfl, rfl, rfl, trivial⟩ ?_
      refine AWP.seq ?_
      refine AWP.seq ?_
      refine AWP.region ?_
      refine rC (Calm.move rfl) ?_
      refine rC (Calm.move rfl) ?_
      refine rC (Calm.nilCheck rfl) ?_
      refine rC (Calm.fieldAddr ty_field_78_0 rfl) ?_
      refine rC (ld_ ty_plain_72 rfl) ?_
      refine rC (Calm.lenSl Try.underlying72 rfl) ?_
      refine rC (Calm.bin rfl rfl b_geq) ?_
      refine arun_nil ?_
      refine athen_n ?_
      refine AWP.sub [(0, _), (5, _), (6, _), (7, _), (23, _), (24, _), (25, _), (26, _), (9, _), (10, _), (42, _)] ⟨rfl, rfl, rfl, rfl, rfl, rfl, rfl, rfl, rfl, rfl, rfl, trivial⟩ ?_
      refine AWP.condT rfl (by first | rfl | (simp; done) | (simp; omega)) ?_
      rw [if_pos hsl] at q6
      refine AWP.exit ?_
      refine athen_exit ?_
      refine ain_same ?_
      refine athen_n ?_
      refine AWP.region ?_
      refine rC (Calm.bin rfl rfl b_add_i64) ?_
      refine rC (Calm.move rfl) ?_
      refine arun_nil ?_
      refine athen_n ?_
      refine ⟨(i + 1, L, o, Z, uz), ?_, ?_, ?_, ?_⟩
      all_goals (try dsimp only)
      · exact ⟨sq_, sq_, sq_, sq_, sq_, sq_, sq_, trivial⟩
      · exact Mem.Less.refl _
      · exact ⟨hc, by omega, q3, q4, q5, q6⟩
      · omega
    · refine AWP.skip ?_
      refine athen_n ?_
      refine AWP.seq ?_
      refine AWP.block ?_
      refine AWP.seq ?_
      refine AWP.region ?_
      refine rC (Calm.indexS Try.underlying24 ty_size_3 rfl rfl (by omega) (by omega)) ?_
      refine rC (ld_ ty_plain_3 rfl) ?_
      refine rC (Calm.assign rfl) ?_
      refine arun_nil ?_
      refine athen_n ?_
      refine AWP.sub [(0, _), (5, _), (6, _), (7, _), (23, _), (24, _), (25, _), (26, _), (9, _)] ⟨rfl, rfl, rfl, rfl, rfl, rfl, rfl, rfl, rfl, trivial⟩ ?_
      refine AWP.seq ?_
      refine AWP.region ?_
      refine rC (Calm.move rfl) ?_
      refine rC (Calm.nilCheck rfl) ?_
      refine rC (Calm.fieldAddr ty_field_78_1 rfl) ?_
      refine rC (ld_ ty_plain_24 rfl) ?_
      refine rC (Calm.move rfl) ?_
      refine rC (Calm.indexS Try.underlying24 ty_size_3 rfl rfl (by omega) (by omega)) ?_
      refine rC (ld_ ty_plain_3 rfl) ?_
      refine rC (Calm.assign rfl) ?_
      refine arun_nil ?_
      refine athen_n ?_
      refine AWP.sub [(0, _), (5, _), (6, _), (7, _), (23, _), (24, _), (25, _), (26, _), (9, _), (10, _)] ⟨rfl, rfl, rfl, rfl, rfl, rfl, rfl, rfl, rfl, rfl, trivial⟩ ?_
      refine AWP.seq ?_
      refine AWP.seq ?_
      refine AWP.region ?_
      refine rC (Calm.move rfl) ?_
      refine rC (Calm.move rfl) ?_
      refine rC (Calm.nilCheck rfl) ?_
      refine rC (Calm.fieldAddr ty_field_78_0 rfl) ?_
      refine rC (ld_ ty_plain_72 rfl) ?_
      refine rC (Calm.lenSl Try.underlying72 rfl) ?_
      refine rC (Calm.bin rfl rfl b_geq) ?_
      refine arun_nil ?_
      refine athen_n ?_
      refine AWP.sub [(0, _), (5, _), (6, _), (7, _), (23, _), (24, _), (25, _), (26, _), (9, _), (10, _), (42, _)] ⟨rfl, rfl, rfl, rfl, rfl, rfl, rfl, rfl, rfl, rfl, rfl, trivial⟩ ?_
      refine AWP.condF rfl (by first | rfl | (simp; done) | (simp; omega)) ?_
      rw [if_neg hsl] at q6
      refine AWP.skip ?_
      refine athen_n ?_
      refine AWP.seq ?_
      refine AWP.join (X := List Nat × Option (Nat × Nat) × List Nat × Value) (fun y => [(0, .pointer (some ⟨p, 0, none⟩)), (5, vx), (6, y.2.2.2), (7, outV y.2.1 y.1.length), (10, .int .i64 s), (23, .slice (some ⟨eb, eo, none⟩) e.length ec), (24, .int .i64 e.length), (25, .int .i64 i)]) (fun y => outM S2 y.2.1 3 (y.1.map gI)) (fun y => y.1.length + y.2.2.1.length ≤ l.length + 3 + i ∧ (∀ z ∈ y.2.2.1, z < l.length ∧ z % 3 = 0) ∧ IdxR S2 y.2.2.2 y.2.2.1 ∧ OkO S2 y.2.1 y.1.length ∧ y.1 ++ s :: mg l (e.drop (i + 1)) y.2.2.1 = Ord.endsR l l.length) ?_ ?_
      · refine AWP.block ?_
        refine AWP.loop (X := List Nat × Option (Nat × Nat) × List Nat × Value) (fun y => [(0, .pointer (some ⟨p, 0, none⟩)), (5, vx), (6, y.2.2.2), (7, outV y.2.1 y.1.length), (10, .int .i64 s), (23, .slice (some ⟨eb, eo, none⟩) e.length ec), (24, .int .i64 e.length), (25, .int .i64 i)]) (fun y => outM S2 y.2.1 3 (y.1.map gI)) (fun y => y.1.length + y.2.2.1.length ≤ l.length + 3 + i ∧ (∀ z ∈ y.2.2.1, z < l.length ∧ z % 3 = 0) ∧ IdxR S2 y.2.2.2 y.2.2.1 ∧ OkO S2 y.2.1 y.1.length ∧ y.1 ++ mgS l s (e.drop (i + 1)) y.2.2.1 = Ord.endsR l l.length) (fun y => y.2.2.1.length) ((L, o, Z, uz)) ⟨rfl, rfl, rfl, rfl, rfl, rfl, rfl, rfl, trivial⟩ (Mem.Less.refl _) (⟨q2, q3, q4, q5, q6⟩) ?_
        rintro ⟨L2, o2, Z2, uz2⟩ ⟨r2, r3, r4, r5, r6⟩
        (try dsimp only at *)
        unfold mgS at r6
        cases Z2
        · obtain ⟨za, zc, rfl, _⟩ := id r4
          refine AWP.seq ?_
          refine AWP.seq ?_
          refine AWP.region ?_
          refine rC (Calm.move rfl) ?_
          refine rC (Calm.lenSl Try.underlying24 rfl) ?_
          refine rC (Calm.bin rfl rfl b_gtr) ?_
          refine rC (Calm.move rfl) ?_
          first | refine rS 46 ?_ | refine rU 46 ?_ | refine rG 46 (Calm.move rfl) ?_
          first | refine rS 46 ?_ | refine rU 46 ?_ | refine rG 46 (Calm.move rfl) ?_
          first | refine rS 46 ?_ | refine rU 46 ?_ | refine rG 46 (Calm.move rfl) ?_
          first | refine rS 46 ?_ | refine rU 46 ?_ | refine rG 46 (Calm.move rfl) ?_
          first | refine rS 46 ?_ | refine rU 46 ?_ | refine rG 46 (Calm.indexS Try.underlying24 ty_size_3 rfl rfl (by omega) (by omega)) ?_
          first | refine rS 46 ?_ | refine rU 46 ?_ | refine rG 46 (ld_ ty_plain_3 rfl) ?_
          first | refine rS 46 ?_ | refine rU 46 ?_
          first | refine rS 46 ?_ | refine rU 46 ?_ | refine rG 46 (Calm.un rfl (una_not _)) ?_
          refine rC ((by first | exact Calm.pickT rfl rfl | exact Calm.pickF rfl rfl)) ?_
          refine arun_nil ?_
          refine athen_n ?_
          refine AWP.sub [(0, _), (5, _), (6, _), (7, _), (10, _), (23, _), (24, _), (25, _), (55, _)] ⟨rfl, rfl, rfl, rfl, rfl, rfl, rfl, rfl, rfl, trivial⟩ ?_
          refine AWP.condF rfl (by first | rfl | (simp; done) | (simp; omega)) ?_
          refine AWP.exit ?_
          refine athen_exit ?_
          refine athen_exit ?_
          refine ain_same ?_
          refine ⟨(L2, o2, [], .slice za 0 zc), ?_, ?_, ?_⟩
          all_goals (try dsimp only)
          · exact ⟨r2, r3, r4, r5, r6⟩
          · exact ⟨sq_, sq_, sq_, sq_, sq_, sq_, sq_, sq_, trivial⟩
          · exact Mem.Less.refl _
        · rename_i z Z2
          obtain ⟨zb, zo, zc, rfl, hzc, _⟩ := Sl.cons_addr r4
          have hzh := (Sl.head1 r4).1
          have hSo2 : S2.Less (outM S2 o2 3 (L2.map gI)) := outM_over r5
          have kz : Mem.Knows (outM S2 o2 3 (L2.map gI)) ⟨zb, zo + 0 * 1, none⟩ [.int .i64 (z : Int)] := hzh.less hSo2
          obtain ⟨hz1, hz2⟩ := r3 z (List.mem_cons_self ..)
          refine AWP.seq ?_
          refine AWP.seq ?_
          refine AWP.region ?_
          refine rC (Calm.move rfl) ?_
          refine rC (Calm.lenSl Try.underlying24 rfl) ?_
          refine rC (Calm.bin rfl rfl b_gtr) ?_
          refine rC (Calm.move rfl) ?_
          first | refine rS 46 ?_ | refine rU 46 ?_ | refine rG 46 (Calm.move rfl) ?_
          first | refine rS 46 ?_ | refine rU 46 ?_ | refine rG 46 (Calm.move rfl) ?_
          first | refine rS 46 ?_ | refine rU 46 ?_ | refine rG 46 (Calm.move rfl) ?_
          first | refine rS 46 ?_ | refine rU 46 ?_ | refine rG 46 (Calm.move rfl) ?_
          first | refine rS 46 ?_ | refine rU 46 ?_ | refine rG 46 (Calm.indexS Try.underlying24 ty_size_3 rfl rfl (by omega) (by omega)) ?_
          first | refine rS 46 ?_ | refine rU 46 ?_ | refine rG 46 (ld_ ty_plain_3 rfl) ?_
          refine ARun.callG 3 true 46 rfl (lit_lt rfl) rfl (lit_lt rfl) go_107 rfl (sk_ahead p s z _ _ rfl rfl vx l e x _ (hv0.less (hS2.trans hSo2)) (hx.less hSo2) h1 he hr (by omega) hz1 hb.2.1 hz2 hl) ?_
          rintro _ _ ⟨rfl, rfl⟩
          first | refine rS 46 ?_ | refine rU 46 ?_ | refine rG 46 (Calm.un rfl (una_not _)) ?_
          refine rC ((by first | exact Calm.pickT rfl rfl | exact Calm.pickF rfl rfl)) ?_
          refine arun_nil ?_
          refine athen_n ?_
          refine AWP.sub [(0, _), (5, _), (6, _), (7, _), (10, _), (23, _), (24, _), (25, _), (55, _)] ⟨rfl, rfl, rfl, rfl, rfl, rfl, rfl, rfl, rfl, trivial⟩ ?_
          refine AWP.condB rfl (fun hah => ?_) (fun hah => ?_)
          · have hah : Ord.sl l s z = false := nt_ hah
            obtain ⟨w1, w2⟩ := tw_cons l s z Z2 hah
            rw [w1, w2] at r6
            have hL2 : (L2.map gI).length = L2.length := List.length_map ..
            refine AWP.skip ?_
            refine athen_n ?_
            refine AWP.block ?_
            refine AWP.draw [(0, true), (1, true), (2, true), (3, true), (6, true), (7, true), (4, false), (5, false), (8, true), (9, true)] [5] mixed (by kernel_rfl) ?_
            refine dP (hc := fun _ => Calm.move rfl) (h := ?_)
            refine dP (hc := fun _ => Calm.move rfl) (h := ?_)
            refine dP (hc := fun _ => Calm.indexS Try.underlying24 ty_size_3 rfl rfl (by omega) (by omega)) (h := ?_)
            refine dC (hc := ld_ ty_plain_3 rfl) (h := ?_)
            refine dP (hc := fun _ => Calm.move rfl) (h := ?_)
            refine dP (hc := fun _ => (by first | exact Calm.sliceSl Try.underlying24 ty_size_3 rfl (bnd_none _ _) (by simp) (bnd_none _ _) (bnd_some _ _ rfl (by omega) (by omega)) | exact Calm.sliceNil Try.underlying24 ty_size_3 rfl (bnd_none _ _) (by simp) (bnd_none _ _) (bnd_zero _ _ rfl))) (h := ?_)
            refine draw_only rfl ?_
            refine ARun.build1s (lit_lt rfl) ty_sl_24 rfl rfl ?_
            intro b60 f60
            have g60 := f60
            repeat ((with_reducible replace g60 := fresh_set g60); obtain ⟨g60, _⟩ := g60)
            refine arun_nil ⟨fun _ => less_, ?_⟩
            refine draw_only rfl ?_
            refine ARun.appendO (lit_lt rfl) ty_sl_24 rfl map_len (appO_of r5 map_len f60) rfl (news := [_]) rds_ rfl (by omega) (by simp [Value.oneCell']) (by simp at r2; omega) (by simp at r2; omega) ?_
            intro b61 c61 ho2
            refine arun_nil ⟨fun h => absurd h (by decide), ?_⟩
            refine dP (hc := fun _ => Calm.assign rfl) (h := ?_)
            refine dP (hc := fun _ => Calm.assign rfl) (h := ?_)
            refine draw_nil ?_
            refine ain_n ?_
            refine athen_n ?_
            refine ⟨(L2 ++ [z], some (b61, c61), Z2, .slice (some ⟨zb, if zc = 1 then zo else zo + 1 * 1, none⟩) (Z2.length + 1 - 1) (zc - 1)), ?_, ?_, ?_, ?_⟩
            all_goals (try dsimp only)
            · exact ⟨sq_, sq_, sq_, sq_, sq_, sq_, sq_, sq_, trivial⟩
            · exact push_less rfl
            · exact ⟨by simp at r2 ⊢; omega, fun y hy => r3 y (List.mem_cons_of_mem _ hy), Sl.tail1 r4, push_ok ho2 rfl, by unfold mgS; rw [List.append_assoc]; exact r6⟩
            · simp
          · have hah : Ord.sl l s z = true := nf_ hah
            obtain ⟨w1, w2⟩ := tw_stop l s z Z2 hah
            rw [w1, w2] at r6
            refine AWP.exit ?_
            refine athen_exit ?_
            refine athen_exit ?_
            refine ain_same ?_
            refine ⟨(L2, o2, z :: Z2, .slice (some ⟨zb, zo, none⟩) (Z2.length + 1) zc), ?_, ?_, ?_⟩
            all_goals (try dsimp only)
            · exact ⟨r2, r3, r4, r5, r6⟩
            · exact ⟨sq_, sq_, sq_, sq_, sq_, sq_, sq_, sq_, trivial⟩
            · exact Mem.Less.refl _
      rintro ⟨L2, o2, Z2, uz2⟩ ⟨r2, r3, r4, r5, r6⟩
      intro _ _ hs_ hl_
      (try dsimp only at *)
      refine athen_n ?_
      refine AWP.sub _ hs_ (AWP.less _ hl_ ?_)
      clear hs_ hl_
      refine AWP.region ?_
      refine rC (Calm.move rfl) ?_
      refine rC (Calm.move rfl) ?_
      refine ARun.build1s (lit_lt rfl) ty_sl_24 rfl rfl ?_
      intro b66 f66
      have g66 := f66
      repeat ((with_reducible replace g66 := fresh_set g66); obtain ⟨g66, _⟩ := g66)
      refine ARun.appendO (lit_lt rfl) ty_sl_24 rfl map_len (appO_of r5 map_len f66) rfl (news := [_]) rds_ rfl (by omega) (by simp [Value.oneCell']) (by omega) (by omega) ?_
      intro b67 c67 ho2
      refine rC (Calm.assign rfl) ?_
      refine arun_nil ?_
      refine ain_n ?_
      refine athen_n ?_
      refine AWP.sub [(0, _), (5, _), (6, _), (7, _), (10, _), (23, _), (24, _), (25, _)] ⟨rfl, rfl, rfl, rfl, rfl, rfl, rfl, rfl, trivial⟩ ?_
      refine AWP.region ?_
      refine rC (Calm.bin rfl rfl b_add_i64) ?_
      refine rC (Calm.move rfl) ?_
      refine arun_nil ?_
      refine athen_n ?_
      refine ⟨(i + 1, L2 ++ [s], some (b67, c67), Z2, uz2), ?_, ?_, ?_, ?_⟩
      all_goals (try dsimp only)
      · exact ⟨sq_, sq_, sq_, sq_, sq_, sq_, sq_, trivial⟩
      · exact push_less rfl
      · exact ⟨hc, by rw [List.length_append]; show L2.length + 1 + _ ≤ _; omega, r3, r4, push_ok ho2 rfl, by rw [List.append_assoc]; exact r6⟩
      · omega
  · obtain rfl : i = e.length := by omega
    refine AWP.seq ?_
    refine AWP.region ?_
    refine rC (Calm.bin rfl rfl b_lss) ?_
    refine arun_nil ?_
    refine athen_n ?_
    refine AWP.seq ?_
    refine AWP.condF rfl (by first | rfl | (simp; done) | (simp; omega)) ?_
    rw [List.drop_eq_nil_of_le (Nat.le_refl _), mg] at q6
    have hlen : L.length + Z.length = l.length := by have := congrArg List.length q6; rw [List.length_append, (Ord.endsR_ok l).len] at this; exact this
    refine AWP.exit ?_
    refine athen_exit ?_
    refine athen_exit ?_
    refine ain_same ?_
    refine athen_n ?_
    refine AWP.seq ?_
    refine AWP.region ?_
    refine rC (Calm.move rfl) ?_
    refine rC (Calm.move rfl) ?_
    refine ARun.appendOK (n := 1) (o := o) (k := L.length) (m := Z.length) (cs := L.map gI) (news := Z.map gI) (lit_lt rfl) ty_sl_24 rfl rfl (by rw [List.length_map, Nat.mul_one]) q5 (appN1 q5 map_len) rfl ((src1 q4).less hSo) (by rw [List.length_map, Nat.mul_one]) (fun v hv => by obtain ⟨y, _, rfl⟩ := List.mem_map.1 hv; rfl) (by omega) (by omega) ?_
    intro o' ho'
    rw [outN_one, ← List.map_append, q6]
    refine rC (Calm.assign rfl) ?_
    refine arun_nil ?_
    refine athen_n ?_
    refine AWP.sub [(0, _), (5, _), (6, _), (7, _), (23, _), (24, _), (25, _), (26, _), (4, _)] ⟨rfl, rfl, rfl, rfl, rfl, rfl, rfl, rfl, rfl, trivial⟩ ?_
    refine AWP.ret ?_
    refine ⟨_, _, ⟨_, _, rfl, rfl, rfl⟩, Mem.Less.refl _, ?_⟩
    exact ⟨hS2.trans (outM_over ho'), sl_outV ho' (by rw [(Ord.endsR_ok l).len, hlen]) (by omega)⟩
end Go.Proofs.Ytgidjbpgkeemiaa
namespace Go.Proofs.Ytgidjbpgkeemiaa
open Go.RowKit
open Mv Num Loser Skew Srt
namespace Skew
/-- The list of a level. -/
def Mi (l : List Nat) : Nat → List Nat
  | 0 => l
  | n + 1 => red (Mi l n)
theorem Mi_pos (l : List Nat) (h : ∀ x ∈ l, 1 ≤ x) : ∀ n, ∀ x ∈ Mi l n, 1 ≤ x
  | 0 => h
  | _ + 1 => red_pos _
/-- There is an order of the triples. -/
theorem some_order (l : List Nat) : ∃ e : List Nat, e.Perm (List.range (numP l.length)) ∧ ∀ i j, i < j → j < e.length → lessB (tkey l (e.getD j 0)) (tkey l (e.getD i 0)) = false :=
  ⟨_, sorted_keys l _ _ rfl⟩
theorem red_inj (l : List Nat) (hm : many l = numP l.length) (j k : Nat) (hj : j < numP l.length) (hk : k < numP l.length) (h : (red l).getD j 0 = (red l).getD k 0) : j = k := by
  obtain ⟨e, hp, hs⟩ := some_order l
  have hel : e.length = numP l.length := by rw [hp.length_eq, List.length_range]
  have hn := ups_names (tkey l) _ e hp hs
  have hname : ∀ i, i < e.length → nameOf (tkey l) (numP l.length) (e.getD i 0) = i + 1 := by
    intro i hi
    have hmu := many_ups l e hp hs (by omega)
    have := ups_all (fun a b => lessB (tkey l a) (tkey l b)) e (e.length - 1) (by omega) i (by omega)
    unfold nameOf; rw [← hn i hi, this]; omega
  have hall : ∀ a, a < numP l.length → ∃ i, i < e.length ∧ e.getD i 0 = a := by
    intro a ha
    obtain ⟨i, hi, rfl⟩ := List.getElem_of_mem (hp.mem_iff.2 (List.mem_range.2 ha))
    exact ⟨i, hi, by rw [List.getD_eq_getElem?_getD, List.getElem?_eq_getElem hi]; rfl⟩
  have hr : ∀ a, a < numP l.length → (red l).getD a 0 = nameOf (tkey l) (numP l.length) a := fun a ha => by
    rw [List.getD_eq_getElem?_getD, List.getElem?_eq_getElem (by rw [red_length]; exact ha), Option.getD_some, red_at]
  obtain ⟨i, hi, rfl⟩ := hall j hj
  obtain ⟨i', hi', rfl⟩ := hall k hk
  rw [hr _ hj, hr _ hk, hname i hi, hname i' hi'] at h
  have : i = i' := by omega
  rw [this]
/-- The order of the last level, as it is laid. -/
theorem lay_step (l o : List Nat) (m i x : Nat) (hm : many l = numP l.length) (hmm : numP l.length = m) (ho : o.length = m) (hi : i < m) (hx : x = (red l).getD i 0) (h : ∀ j, j < i → o.getD ((red l).getD j 0 - 1) 0 = j) : ∀ j, j < i + 1 → (o.set (x - 1) i).getD ((red l).getD j 0 - 1) 0 = j := by
  intro j hj
  have hb : ∀ k, k < m → 1 ≤ (red l).getD k 0 ∧ (red l).getD k 0 ≤ m := fun k hk => by
    have hk' : k < (red l).length := by rw [red_length]; omega
    rw [List.getD_eq_getElem?_getD, List.getElem?_eq_getElem hk', Option.getD_some]
    exact ⟨red_pos l _ (List.getElem_mem hk'), by rw [← hmm]; exact red_le l _ (List.getElem_mem hk')⟩
  have b1 := hb i hi
  have b2 := hb j (by omega)
  rcases Nat.lt_or_ge j i with h' | h'
  · have hne : x - 1 ≠ (red l).getD j 0 - 1 := fun e => by
      have := red_inj l hm i j (by omega) (by omega) (by omega)
      omega
    rw [List.getD_eq_getElem?_getD, List.getElem?_set_ne hne, ← List.getD_eq_getElem?_getD, h j h']
  · obtain rfl : j = i := by omega
    rw [← hx, List.getD_eq_getElem?_getD, List.getElem?_set_self (by omega)]; rfl
theorem lay_done (l o : List Nat) (hm : many l = numP l.length) (ho : o.length = numP l.length) (h : ∀ j, j < numP l.length → o.getD ((red l).getD j 0 - 1) 0 = j) : Ord.SortedE (red l) o := by
  obtain ⟨e, hp, hs⟩ := some_order l
  exact bottom l e o hp hs hm ho h
end Skew
end Go.Proofs.Ytgidjbpgkeemiaa
namespace Go.Proofs.Ytgidjbpgkeemiaa
open Go.RowKit Go.Shelf
set_option linter.unusedVariables false
namespace Mv
/-- A block that holds no cells has changed, or a new one has come. -/
theorem Step.grown {S S' : Mem} {w W W' : World} {row : Option Nat} (h : Step S w S' W) (hg : W.grownBy W' row) (hr : ∀ r, row = some r → w.heap.size ≤ r ∧ ∃ o : Obj, W.heap[r]? = some o ∧ o.isCells = false) : Step S w S' W' := by
  have hc : ∀ (b : Nat) (cur : Array Value) (e : TypeId) (fz : Nat × Nat), W.heap[b]? = some (.cells cur e fz) → W'.heap[b]? = W.heap[b]? := fun b cur e fz hb =>
    hg.block b (Array.getElem?_eq_some_iff.1 hb).1 (fun e' => by obtain ⟨_, o, ho, hn⟩ := hr b e'.symm; rw [hb] at ho; cases ho; cases hn)
  refine ⟨⟨fun b r hb => ?_, fun a v ha => ?_⟩, hg.os.trans h.os, hg.tape.trans h.tape, hg.output.trans h.output, Nat.le_trans h.size hg.size, fun k hk hn => ?_, h.dom, h.ro⟩
  · obtain ⟨cur, fz, h1, h2⟩ := h.view.own b r hb
    exact ⟨cur, fz, (hc b _ _ _ h1).trans h1, h2⟩
  · obtain ⟨h1, h2⟩ := h.view.ro a v ha
    exact ⟨cell_kept h1 hg (fun r e => (hr r e).2), h2⟩
  · exact (hg.block k (Nat.lt_of_lt_of_le hk h.size) (fun e => by have := (hr k e.symm).1; omega)).trans (h.block k hk hn)
/-- What is no cells lies as it lay. -/
theorem Step.others {S S' : Mem} {w w' : World} (hv : View S w) (h : Step S w S' w') : KeepsOthers w w' :=
  ⟨h.size, fun k o hk ho => (h.block k (Array.getElem?_eq_some_iff.1 hk).1 (by
    cases e : S.own k with
    | none => rfl
    | some r => obtain ⟨cur, fz, h1, _⟩ := hv.own k r e; rw [hk] at h1; cases h1; cases ho)).trans hk⟩
theorem View.box {S : Mem} {w : World} (h : View S w) {b : Nat} {T : TypeId} {v : Value} (hb : S.own b = some ⟨T, [v], 1⟩) : w.cell? ⟨b, 0, none⟩ = some v ∧ w.frozen? ⟨b, 0, none⟩ = false := by
  obtain ⟨cur, fz, h1, h2, h3, h4⟩ := h.own b _ hb
  refine ⟨h.rd (a := ⟨b, 0, none⟩) (by unfold Mem.rd; simp [hb]), ?_⟩
  have := h4 0 (.inl (by have := h3; simp only at this; omega))
  simp only [World.frozen?, h1]
  simpa using this
theorem Step.boxset {S : Mem} {w : World} (h : View S w) {b : Nat} {T : TypeId} {v : Value} (hb : S.own b = some ⟨T, [v], 1⟩) (u : Value) (hu : u.oneCell' = true) : Step S w (S.set b ⟨T, [u], 1⟩) (w.setCell ⟨b, 0, none⟩ u) := by
  have := (store_cells (P := default) h (vs := [u]) (o := 0) hb (by simp) (.inl (by simp)) (by simpa using hu)).2
  simpa [spl, World.setCells] using this
/-- Code of a function that ranges over a function: what is asked of the world at its end. -/
def AWPM (P : Program) (N : Nat) (c : Code) (Q : Mem → World → Exit → Act → World → Prop) (E : Env) (S : Mem) : Prop :=
  ∀ S0 w0 a w, Step S0 w0 S w → Good N E a → c.wpIn Fence.wide 6 P (Q S0 w0) a w
section
variable {P : Program} {N : Nat} {Q : Mem → World → Exit → Act → World → Prop} {E : Env} {S : Mem}
theorem AWPM.seq {x y : Code} (h : AWP P N x (Athen (AWPM P N y Q) fun _ _ _ => False) E S) : AWPM P N (.seq x y) Q E S := fun S0 w0 a w hs hg => by
  refine wpIn_seq (wpIn_mono (wpIn_wide.2 (h a w hg hs.view)) fun e a1 w1 ⟨E1, S1, k, g, s⟩ => ?_)
  cases e with
  | normal => exact k S0 w0 a1 w1 (hs.trans s) g
  | exit id => exact k.elim
  | goto l => exact k.elim
  | ret => exact k.elim
  | panic c => exact k.elim
  | outgrown => exact k.elim
theorem AWPM.seqM {x y : Code} (h : AWPM P N x (fun S0 w0 => Exit.then (y.wpIn Fence.wide 6 P (Q S0 w0)) (Q S0 w0)) E S) : AWPM P N (.seq x y) Q E S := fun S0 w0 a w hs hg => wpIn_seq (h S0 w0 a w hs hg)
theorem AWPM.sub (E' : Env) (hs : Sub E' E) {c : Code} (h : AWPM P N c Q E' S) : AWPM P N c Q E S := fun S0 w0 a w hv hg => h S0 w0 a w hv (hg.sub hs)
theorem AWPM.less (S' : Mem) (hl : S'.Less S) {c : Code} (h : AWPM P N c Q E S') : AWPM P N c Q E S := fun S0 w0 a w hv hg => h S0 w0 a w (hv.less hl) hg
end
/-- A function that ranges over a function is entered. -/
theorem ACall.enterM {P : Program} {S : Mem} {f : FuncId} {fn : Func} {c : Code} {args : List Value} {rs : List ResultVar} {R : Value → Mem → Prop} (n : Nat) (E0 : Env) (hf : P.funcs[f]? = some fn) (hb : fn.body = some c) (hn : fn.ntmps = n) (hl : args.length ≤ n) (hr : fn.results = rs.toArray) (hE : SubA E0 args)
    (h : AWPM P n c (fun S0 w0 => bodyPostM Fence.wide 6 P fn (fun e w' => ∃ v S', e = .returned v ∧ R v S' ∧ Step S0 w0 S' w')) E0 S) : ACall P f args.toArray S R := fun w hv => by
  refine (callsIn_wide (n := 6)).1 (callsIn_of_wp_marks hf hb trivial (h S w _ w (Step.refl hv) ⟨?_, rfl, fun d v hd => ?_⟩) rfl)
  · simp only [Array.size_append, List.size_toArray, Array.size_replicate]; omega
  · have := hE.lk hd
    have hlt : d < args.length := by
      rcases Nat.lt_or_ge d args.length with h | h
      · exact h
      · rw [List.getElem?_eq_none h] at this; cases this
    simp only [Array.getD_eq_getD_getElem?, Array.getElem?_append, List.size_toArray, hlt, if_true, List.getElem?_toArray, this, Option.getD_some]
theorem tmps_lit (t : Array Value) (n : Nat) (h : t.size = n) : t = ((List.range n).map fun i => t.getD i undef).toArray := by
  subst h
  apply Array.ext
  · simp
  · intro i h1 h2
    simp [h1]
/-- A range over a function, in the view: what memory is behind so many rounds; the iterator's promise; one round's code. -/
theorem range_view {P : Program} {g : Operand} {ps : Array Tmp} {assign body : Code} {Q : Exit → Act → World → Prop} {a : Act} {w w0 : World} {S0 : Mem} {gf : Nat} {lb : Array Value} (n : Nat) (encs : Nat → Array Value) (I : Nat → Mem → Prop) (a₁ : Nat → Act)
    (hg : a.eval g = .func (.func gf) #[] lb) (eg : ∀ args w, (callFunc gf args).run P w = .ok (.enter gf args) w) (hps : ∀ k, (encs k).size = ps.size)
    (h0 : ∃ S, I 0 S ∧ Step S0 w0 S w)
    (hit : ∀ (l : Nat) (J : Nat → World → Prop) (W : World), (∀ k W, J k W → ∃ S, I k S ∧ View S W) → (∀ k W, k < n → J k W → YieldAt Fence.wide 4 P l (encs k) W fun e W' => e = .returned (.bool true) ∧ J (k + 1) W') → J 0 W →
      CallsIn Fence.wide 5 P gf (#[.func (.yield l) #[] #[]] ++ lb) W fun e W' => (∃ v, e = .returned v) ∧ J n W')
    (hassign : ∀ (l k : Nat) (W : World) (K : Act → World → Prop), K (a₁ k) W → assign.wpIn (Fence.wide.inRound l) 4 P (Exit.then K (fun _ _ _ => False)) { tmps := (ps.zip (encs k)).foldl (fun t (p, v) => t.setIfInBounds p v) a.tmps, defers := [] } W)
    (hbody : ∀ (l k : Nat) (S : Mem) (W : World), k < n → I k S → View S W → body.wpIn (Fence.wide.inRound l) 4 P (fun e _ W' => e = .normal ∧ ∃ S', I (k + 1) S' ∧ Step S W S' W') (a₁ k) W)
    (hdone : ∀ (D : Nat) (S : Mem) (W : World), I n S → Step S0 w0 S W → w0.heap.size ≤ D → W.heap[D]? = some (.deferred (some [])) → Q .normal { a with defers := { target := .collected D, args := #[] } :: a.defers } W) :
    (Code.rangeFunc g ps assign body).wpIn Fence.wide 6 P Q a w := by
  obtain ⟨Sw, hI0, hs0⟩ := h0
  have hle := hs0.size
  refine wpIn_rangeFunc fun fn hfn => ?_
  obtain ⟨rec, hrec⟩ : ∃ rec : LoopState → Loop, rec = fun st => { state := st, pending := none, fn, tmps := a.tmps, params := ps, assign, body, defers := w.heap.size } := ⟨_, rfl⟩
  have put : ∀ {S : Mem} {W : World} {l : Nat} {o : Obj} (o' : Obj), Step S0 w0 S W → w.heap.size ≤ l → W.heap[l]? = some o → o.isCells = false → Step S0 w0 S (W.putObj l o') := fun o' h hl ho hc =>
    h.grown (grownBy_putObj' _ _ o') fun r e => by cases e; exact ⟨Nat.le_trans hle hl, _, ho, hc⟩
  obtain ⟨J, hJ⟩ : ∃ J : Nat → World → Prop, J = fun k W => ∃ S, I k S ∧ Step S0 w0 S W ∧ W.heap[w.heap.size + 1]? = some (.loop (rec .ready)) ∧ W.heap[w.heap.size]? = some (.deferred (some [])) := ⟨_, rfl⟩
  obtain ⟨Wl, hWl⟩ : ∃ Wl, Wl = (w.alloc (.deferred (some []))).alloc (.loop (rec .ready)) := ⟨_, rfl⟩
  refine ⟨w.heap.size + 1, [{ target := .collected w.heap.size, args := #[] }], Wl, { target := .fn (.func gf) lb, args := #[.func (.yield (w.heap.size + 1)) #[] #[]] }, Wl, gf, #[.func (.yield (w.heap.size + 1)) #[] #[]] ++ lb, Wl, by rw [hWl, hrec]; exact run_enterLoop_outer _ _ _ _ _, ?_, fun _ _ => trivial, ?_, fun _ => by omega, ?_⟩
  · simp only [resolve, hg]
    simp [go_sem]
  · simp [invoke, go_sem, eg]
  · refine (hit (w.heap.size + 1) J _ (fun k W hk => by rw [hJ] at hk; obtain ⟨S, h1, h2, _⟩ := hk; exact ⟨S, h1, h2.view⟩) ?_ ?_).mono ?_
    · intro k W hk hj
      rw [hJ] at hj
      obtain ⟨S, h1, h2, hl, hd⟩ := hj
      have hlt : w.heap.size + 1 < W.heap.size := (Array.getElem?_eq_some_iff.1 hl).1
      have hy := run_yield (P := P) (args := encs k) hl (by rw [hrec]; exact hps k)
      rw [hrec] at hy
      refine ⟨fn, _, assign, body, hy, roundIn_of_wpIn hfn (hassign _ k W _ ⟨_, run_beginRound hl (by rw [hrec]), ?_⟩)⟩
      obtain ⟨W1, hW1⟩ : ∃ W1, W1 = W.putObj (w.heap.size + 1) (.loop { rec .ready with state := .busy }) := ⟨_, rfl⟩
      have l1 : W1.heap[w.heap.size + 1]? = some (.loop { rec .ready with state := .busy }) := by rw [hW1]; exact World.putObj_heap_same hlt
      have d1 : W1.heap[w.heap.size]? = some (.deferred (some [])) := by rw [hW1]; exact (World.putObj_heap_other (by omega)).trans hd
      have s1 : Step S0 w0 S W1 := by rw [hW1]; exact put _ h2 (by omega) hl rfl
      rw [← hW1]
      refine wpIn_mono (hbody _ k S W1 hk h1 s1.view) fun e a3 W3 hp => ?_
      obtain ⟨rfl, S3, i3, s3⟩ := hp
      have ho := s3.others s1.view
      have l3 := ho.same _ _ l1 rfl
      have d3 := ho.same _ _ d1 rfl
      have hlt3 : w.heap.size + 1 < W3.heap.size := (Array.getElem?_eq_some_iff.1 l3).1
      refine ⟨_, _, run_endRound (P := P) none l3, rfl, ?_⟩
      rw [hJ]
      refine ⟨S3, i3, put _ (s1.trans s3) (by omega) l3 rfl, ?_, (World.putObj_heap_other (by omega)).trans d3⟩
      rw [World.putObj_heap_same hlt3, hrec]
      rfl
    · rw [hJ, hWl]
      refine ⟨Sw, hI0, (hs0.grown (World.grownBy_alloc w _ none) (fun r e => by cases e)).grown (World.grownBy_alloc _ _ none) (fun r e => by cases e), ?_, ?_⟩
      · rw [hrec]; have := World.alloc_heap_new (w.alloc (.deferred (some []))) (.loop { state := .ready, pending := none, fn, tmps := a.tmps, params := ps, assign, body, defers := w.heap.size }); rwa [World.size_alloc] at this
      · exact (Below.heap_alloc _ _ _ (by simp)).trans (World.alloc_heap_new w _)
    · rintro e W2 ⟨⟨v, rfl⟩, hj⟩
      rw [hJ] at hj
      obtain ⟨S, h1, h2, hl, hd⟩ := hj
      refine ⟨none, _, by have := run_endLoop (P := P) hl (by rw [hrec]; simp); rw [hrec] at this; exact this, ?_⟩
      exact hdone _ S _ h1 (put _ h2 (by omega) hl rfl) hle ((World.putObj_heap_other (by omega)).trans hd)
end Mv
end Go.Proofs.Ytgidjbpgkeemiaa
namespace Go.Proofs.Ytgidjbpgkeemiaa
open Go.RowKit Go.Shelf
open Mv
set_option linter.unusedVariables false
set_option linter.unusedSimpArgs false
attribute [local go_sem] Oper.semAt_some
def pV (p : Nat) : Value := .pointer (some ⟨p, 0, none⟩)
set_option maxRecDepth 100000 in
set_option maxHeartbeats 2000000 in
theorem back_it (l Bs b off cap n : Nat) (ix : Nat → Nat) (hreach : n ≤ 16384) (J : Nat → World → Prop) (W : World)
    (hK : ∀ k W, J k W → W.cell? ⟨Bs, 0, none⟩ = some (.slice (some ⟨b, off, none⟩) n cap) ∧ ∀ j, j < n → W.cell? ⟨b, off + j, none⟩ = some (pV (ix j)))
    (hY : ∀ k W, k < n → J k W → YieldAt Fence.wide 4 Try.prog l #[.int .i64 ((n - 1 - k : Nat) : Int), pV (ix (n - 1 - k))] W fun e W' => e = .returned (.bool true) ∧ J (k + 1) W') (h0 : J 0 W) :
    CallsIn Fence.wide 5 Try.prog 137 #[.func (.yield l) #[] #[], .pointer (some ⟨Bs, 0, none⟩)] W fun e W' => (∃ v, e = .returned v) ∧ J n W' := by
  refine callsIn_of_wp Try.func137 rfl trivial ?_ rfl
  simp only [Try.ntmps137, List.size_toArray, List.length_cons, List.length_nil, Nat.reduceAdd, Nat.reduceSub, Array.replicate_succ, Array.replicate_zero, List.push_toArray, List.append_toArray, List.nil_append, List.cons_append]
  have hBs := (hK 0 W h0).1
  gi_wp2
  gi_loopw [3] (fun i wr => ∃ k : Nat, k ≤ n ∧ i = .int .i64 ((n : Int) - 1 - k) ∧ J k wr)
    (fun i _ => (intOf i + 1).toNat)
  case atStart => exact ⟨0, Nat.zero_le _, by simp, h0⟩
  case round =>
    obtain ⟨k, hk, rfl, hJs⟩ := hrel
    by_cases hlt : k < n
    · obtain ⟨m, hm⟩ : ∃ m, n - 1 - k = m := ⟨_, rfl⟩
      have hm' : (n : Int) - 1 - k = m := by omega
      have hml : m < n := by omega
      obtain ⟨fn, tmps, assign, body, hy, hR⟩ := hY k wr hlt hJs
      rw [hm] at hy
      dsimp only [pV] at hy
      rw [hm']
      have hc0 : wr.cell? ⟨b, off + m, none⟩ = some (.pointer (some ⟨ix m, 0, none⟩)) := (hK k wr hJs).2 m hml
      have hBs' := (hK k wr hJs).1
      gi_wp2
      refine hR.mono ?_
      rintro e W3 ⟨rfl, hJ3⟩
      gi_wp2
      go_roundw
      case rel => exact ⟨k + 1, by omega, by simp; omega, hJ3⟩
      case measure => simp [intOf]
    · obtain rfl : k = n := by omega
      have e1 : (k : Int) - 1 - k = -1 := by omega
      rw [e1]
      gi_wp2
      go_end0
      exact ⟨⟨_, rfl⟩, hJs⟩
set_option maxHeartbeats 1000000 in
theorem sk_Backward (a : Option Addr) (n c : Nat) (S : Mem) : ACall Try.prog 104 #[.slice a n c] S fun r S' => ∃ b, Fresh S b ∧ r = .func (.func 137) #[] #[.pointer (some ⟨b, 0, none⟩)] ∧ S' = S.set b ⟨121, [.slice a n c], 1⟩ := by
  refine ACall.enter (args := [.slice a n c]) (rs := [.tmp 2]) 4 [(0, .slice a n c)] Try.func104 rfl rfl (Nat.le_of_ble_eq_true rfl) rfl ⟨rfl, trivial⟩ ?_
  refine AWP.seq ?_
  refine AWP.region ?_
  refine ARun.box1 (lit_lt rfl) rfl rfl ?_
  intro b1 f1
  have g1 := f1
  repeat ((with_reducible replace g1 := fresh_set g1); obtain ⟨g1, _⟩ := g1)
  (try simp only [List.length_cons, List.length_nil, Nat.zero_add, Nat.reduceAdd])
  refine rC (Calm.assign rfl) ?_
  refine arun_nil ?_
  refine athen_n ?_
  refine AWP.seq ?_
  refine AWP.region ?_
  refine rC (Calm.makeFunc rfl rfl) ?_
  refine rC (Calm.assign rfl) ?_
  refine arun_nil ?_
  refine athen_n ?_
  refine AWP.sub [(0, _), (1, _), (2, _)] ⟨rfl, rfl, rfl, trivial⟩ ?_
  refine AWP.ret ?_
  refine ⟨_, _, ⟨_, _, rfl, rfl, rfl⟩, Mem.Less.refl _, ?_⟩
  exact ⟨b1, f1, rfl, rfl⟩
/-- The slots of skew.Of, one by one. -/
theorem tmps56 (t : Array Value) (h : t.size = 56) : ∃ (x0 : Value) (x1 : Value) (x2 : Value) (x3 : Value) (x4 : Value) (x5 : Value) (x6 : Value) (x7 : Value) (x8 : Value) (x9 : Value) (x10 : Value) (x11 : Value) (x12 : Value) (x13 : Value) (x14 : Value) (x15 : Value) (x16 : Value) (x17 : Value) (x18 : Value) (x19 : Value) (x20 : Value) (x21 : Value) (x22 : Value) (x23 : Value) (x24 : Value) (x25 : Value) (x26 : Value) (x27 : Value) (x28 : Value) (x29 : Value) (x30 : Value) (x31 : Value) (x32 : Value) (x33 : Value) (x34 : Value) (x35 : Value) (x36 : Value) (x37 : Value) (x38 : Value) (x39 : Value) (x40 : Value) (x41 : Value) (x42 : Value) (x43 : Value) (x44 : Value) (x45 : Value) (x46 : Value) (x47 : Value) (x48 : Value) (x49 : Value) (x50 : Value) (x51 : Value) (x52 : Value) (x53 : Value) (x54 : Value) (x55 : Value), t = #[x0, x1, x2, x3, x4, x5, x6, x7, x8, x9, x10, x11, x12, x13, x14, x15, x16, x17, x18, x19, x20, x21, x22, x23, x24, x25, x26, x27, x28, x29, x30, x31, x32, x33, x34, x35, x36, x37, x38, x39, x40, x41, x42, x43, x44, x45, x46, x47, x48, x49, x50, x51, x52, x53, x54, x55] := by
  have := tmps_lit t 56 h
  simp only [List.range, List.range.loop, List.map_cons, List.map_nil] at this
  exact ⟨_, _, _, _, _, _, _, _, _, _, _, _, _, _, _, _, _, _, _, _, _, _, _, _, _, _, _, _, _, _, _, _, _, _, _, _, _, _, _, _, _, _, _, _, _, _, _, _, _, _, _, _, _, _, _, _, this⟩
end Go.Proofs.Ytgidjbpgkeemiaa
namespace Go.Proofs.Ytgidjbpgkeemiaa
open Go.RowKit Go.Shelf
open Mv Num Loser Skew
set_option linter.unusedVariables false
set_option linter.unusedSimpArgs false
attribute [local go_sem] Oper.semAt_some
set_option maxRecDepth 8000
theorem outM_setc {S : Mem} {o : Option (Nat × Nat)} {e : TypeId} {cs : List Value} {b : Nat} {r : Blk} (h : Fresh (outM S o e cs) b) : (outM S o e cs).set b r = outM (S.set b r) o e cs := by
  have := (fresh_outM h).2
  cases o with
  | none => rfl
  | some q => exact Mem.set_comm _ _ _ (Ne.symm (this q.1 q.2 rfl))
theorem okO_setc {S : Mem} {o : Option (Nat × Nat)} {n : Nat} {e : TypeId} {cs : List Value} {b : Nat} {r : Blk} (ho : OkO S o n) (h : Fresh (outM S o e cs) b) : OkO (S.set b r) o n := ho.set (fresh_outM h).2
def nilB : Blk := ⟨24, [.slice none 0 0], 1⟩
def boxB (v : Value) : Blk := ⟨24, [v], 1⟩
/-- A level behind a pointer, not too long. -/
def LvB (S : Mem) (p : Nat) (l : List Nat) : Prop := LvR S p l ∧ l.length ≤ 4096
theorem LvB.less {S S' : Mem} {p : Nat} {l : List Nat} (h : LvB S p l) (hl : S.Less S') : LvB S' p l := ⟨h.1.less hl, h.2⟩
theorem lv_push {M : Mem} {ps : List Nat} {l : List Nat} {b : Nat} (h : ∀ i, i < ps.length → LvB M (ps.getD i 0) (Mi l i)) (hb : LvB M b (Mi l ps.length)) : ∀ i, i < (ps ++ [b]).length → LvB M ((ps ++ [b]).getD i 0) (Mi l i) := fun i hi => by
  rcases Nat.lt_or_ge i ps.length with h' | h'
  · rw [List.getD_eq_getElem?_getD, List.getElem?_append_left h', ← List.getD_eq_getElem?_getD]; exact h i h'
  · obtain rfl : i = ps.length := by simp at hi; omega
    simpa using hb
set_option maxHeartbeats 4000000 in
theorem sk_Of (v : Value) (l : List Nat) (S : Mem) (hv : RowR S v l) (h1 : ∀ y ∈ l, 1 ≤ y) (hl : l.length ≤ 4096) :
    ACall Try.prog 67 #[v] S (RdL gI (Ord.endsR l l.length) S) := by
  obtain ⟨va, vc, rfl, _⟩ := id hv
  refine ACall.enterM (args := [.slice va l.length vc]) (rs := [.tmp 2]) 56 [(0, .slice va l.length vc)] Try.func67 rfl rfl (Nat.le_of_ble_eq_true rfl) rfl ⟨rfl, trivial⟩ ?_
  refine AWPM.seq ?_
  refine AWP.region ?_
  refine rC (Calm.assign rfl) ?_
  refine arun_nil ?_
  refine athen_n ?_
  refine AWPM.seq ?_
  refine AWP.region ?_
  refine rC (Calm.assign rfl) ?_
  refine arun_nil ?_
  refine athen_n ?_
  refine AWPM.seq ?_
  refine AWP.region ?_
  refine ARun.alloc (lit_lt rfl) ty_zero_24 ?_
  intro b4 f4
  have g4 := f4
  repeat ((with_reducible replace g4 := fresh_set g4); obtain ⟨g4, _⟩ := g4)
  (try simp only [List.length_cons, List.length_nil, Nat.zero_add, Nat.reduceAdd])
  refine arun_nil ?_
  refine athen_n ?_
  refine AWPM.seq ?_
  refine AWP.block ?_
  refine AWP.loop (X := Mem × List Nat × Option (Nat × Nat) × Value) (fun x => [(0, x.2.2.2), (3, outV x.2.2.1 x.2.1.length), (4, .pointer (some ⟨b4, 0, none⟩))]) (fun x => outM (x.1.set b4 nilB) x.2.2.1 76 (x.2.1.map pV)) (fun x => S.Less x.1 ∧ Fresh x.1 b4 ∧ OkO (x.1.set b4 nilB) x.2.2.1 x.2.1.length ∧ (∀ i, i < x.2.1.length → LvB x.1 (x.2.1.getD i 0) (Mi l i)) ∧ RowR x.1 x.2.2.2 (Mi l x.2.1.length) ∧ x.2.1.length + (Mi l x.2.1.length).length ≤ l.length) (fun x => (Mi l x.2.1.length).length) ((S, [], none, .slice va l.length vc)) ⟨rfl, rfl, rfl, trivial⟩ (Mem.Less.refl _) (⟨Mem.Less.refl _, f4, okO_nil _, fun i h => absurd h (Nat.not_lt_zero _), hv, by show 0 + l.length ≤ _; omega⟩) ?_
  rintro ⟨M, ps, o, vl⟩ ⟨q1, q2, q3, q4, q5, q6⟩
  (try dsimp only at *)
  obtain ⟨L, hL⟩ : ∃ L, L = Mi l ps.length := ⟨_, rfl⟩
  rw [← hL] at q5 q6
  have hL1 : ∀ y ∈ L, 1 ≤ y := by rw [hL]; exact Mi_pos l h1 _
  obtain ⟨la, lc, rfl, _⟩ := id q5
  refine AWP.block ?_
  refine AWP.seq ?_
  refine AWP.region ?_
  refine rC (Calm.move rfl) ?_
  refine rC (Calm.move rfl) ?_
  refine rC (Calm.lenSl Try.underlying22 rfl) ?_
  refine ARun.call (lit_lt rfl) go_59 rfl ((frameM ((sk_Places _ L.length rfl (by omega) M).frame q2) q3)) ?_
  rintro vp _ ⟨_, ⟨M1, ⟨hM1, hvp⟩, hf1, rfl⟩, ho1, rfl⟩
  obtain ⟨pa, pc, rfl, _⟩ := id hvp
  refine rC (Calm.build (cs := [_, _]) ty_bld_78 rfl rfl) ?_
  refine ARun.boxA (cs := [_, _]) (lit_lt rfl) rfl ?_
  intro b17 f17
  have g17 := f17
  repeat ((with_reducible replace g17 := fresh_set g17); obtain ⟨g17, _⟩ := g17)
  (try simp only [List.length_cons, List.length_nil, Nat.zero_add, Nat.reduceAdd])
  refine rC (Calm.assign rfl) ?_
  refine arun_nil ?_
  refine athen_n ?_
  refine AWP.sub [(0, _), (3, _), (4, _), (5, _)] ⟨rfl, rfl, rfl, rfl, trivial⟩ ?_
  have hne : b4 ≠ b17 := f17.ne (own_outM ho1 (Mem.own_set_same _ _ _))
  have hf17 : Fresh M1 b17 := (fresh_outM f17).1.less (Mem.less_set _ _ _ hf1.1)
  have ho2 := okO_setc (r := ⟨78, [.slice la L.length lc, .slice pa (places L.length).length pc], 2⟩) ho1 f17
  rw [outM_setc f17]
  rw [Mem.set_comm _ _ _ hne] at ho2 ⊢
  have hlv : LvR (M1.set b17 ⟨78, [.slice la L.length lc, .slice pa (places L.length).length pc], 2⟩) b17 L := lvR_box (Mem.own_set_same _ _ _) (q5.less (hM1.trans (Mem.less_set _ _ _ hf17.1))) (idxR_less _ _ _ _ hvp (Mem.less_set _ _ _ hf17.1))
  have hM2 : M.Less (M1.set b17 ⟨78, [.slice la L.length lc, .slice pa (places L.length).length pc], 2⟩) := hM1.trans (Mem.less_set _ _ _ hf17.1)
  have hf2 : Fresh (M1.set b17 ⟨78, [.slice la L.length lc, .slice pa (places L.length).length pc], 2⟩) b4 := fresh_more hf1 hne
  generalize M1.set b17 ⟨78, [.slice la L.length lc, .slice pa (places L.length).length pc], 2⟩ = M2 at *
  refine AWP.seq ?_
  refine AWP.region ?_
  refine rC (Calm.move rfl) ?_
  refine ARun.call (lit_lt rfl) go_63 rfl ((frameM ((sk_reduced b17 L _ hlv (by omega)).frame hf2) ho2)) ?_
  rintro _ _ ⟨_, ⟨M3, ⟨u, rfl, hM3, hu⟩, hf3, rfl⟩, ho3, rfl⟩
  obtain ⟨ua, uc, rfl, _, _, u3⟩ := id hu
  have hMM := hM2.trans hM3
  have hpl : (ps.map pV).length = ps.length := List.length_map ..
  refine rC (Calm.move rfl) ?_
  refine rC (Calm.extract rfl rfl) ?_
  refine rC (Calm.extract rfl rfl) ?_
  refine rC (Calm.assign rfl) ?_
  refine rC (Calm.assign rfl) ?_
  refine arun_nil ?_
  refine athen_n ?_
  refine AWP.sub [(0, _), (3, _), (4, _), (5, _), (6, _), (7, _)] ⟨rfl, rfl, rfl, rfl, rfl, rfl, trivial⟩ ?_
  refine AWP.seq ?_
  refine AWP.region ?_
  refine rC (Calm.move rfl) ?_
  refine rC (Calm.move rfl) ?_
  refine ARun.build1s (lit_lt rfl) ty_sl_121 rfl rfl ?_
  intro b25 f25
  have g25 := f25
  repeat ((with_reducible replace g25 := fresh_set g25); obtain ⟨g25, _⟩ := g25)
  refine ARun.appendO (lit_lt rfl) ty_sl_121 rfl hpl (appO_of ho3 hpl f25) rfl (news := [_]) rds_ rfl (by omega) (by simp [Value.oneCell']) (by omega) (by omega) ?_
  intro b26 c26 ho4
  refine rC (Calm.assign rfl) ?_
  refine arun_nil ?_
  refine athen_n ?_
  refine AWP.sub [(0, _), (3, _), (4, _), (5, _), (6, _), (7, _)] ⟨rfl, rfl, rfl, rfl, rfl, rfl, trivial⟩ ?_
  refine AWP.less (outM (M3.set b4 nilB) (some (b26, c26)) 76 ((ps ++ [b17]).map pV)) (push_less rfl) ?_
  have hrl := red_length L
  have hq4 := lv_push (fun i hi => (q4 i hi).less hMM) (by rw [← hL]; exact ⟨hlv.less hM3, by omega⟩)
  by_cases hmany : many L = numP L.length
  · refine AWP.seq ?_
    refine AWP.seq ?_
    refine AWP.region ?_
    refine rC (Calm.move rfl) ?_
    refine rC (Calm.move rfl) ?_
    refine rC (Calm.lenSl Try.underlying22 rfl) ?_
    refine rC (Calm.bin rfl rfl b_eql) ?_
    refine arun_nil ?_
    refine athen_n ?_
    refine AWP.sub [(0, _), (3, _), (4, _), (5, _), (6, _), (7, _), (30, _)] ⟨rfl, rfl, rfl, rfl, rfl, rfl, rfl, trivial⟩ ?_
    refine AWP.condT rfl (by first | rfl | (simp; done) | (simp; omega)) ?_
    obtain ⟨hF26, hc26⟩ := ho4.own _ _ rfl
    have hne26 : b26 ≠ b4 := hF26.ne' (Mem.own_set_same _ _ _)
    have hf26 : Fresh M3 b26 := hF26.less (Mem.less_set _ _ _ hf3.1)
    rw [show outM (M3.set b4 nilB) (some (b26, c26)) 76 ((ps ++ [b17]).map pV) = (M3.set b26 ⟨76, (ps ++ [b17]).map pV, c26⟩).set b4 nilB from Mem.set_comm _ _ _ hne26.symm]
    have hM4 : M3.Less (M3.set b26 ⟨76, (ps ++ [b17]).map pV, c26⟩) := Mem.less_set _ _ _ hf26.1
    have hf4 : Fresh (M3.set b26 ⟨76, (ps ++ [b17]).map pV, c26⟩) b4 := fresh_more hf3 hne26.symm
    have hown : (M3.set b26 ⟨76, (ps ++ [b17]).map pV, c26⟩).own b26 = some ⟨76, (ps ++ [b17]).map pV, c26⟩ := Mem.own_set_same _ _ _
    have hlev : ∀ j (h : j < (ps ++ [b17]).length), (M3.set b26 ⟨76, (ps ++ [b17]).map pV, c26⟩).Knows ⟨b26, 0 + j * 1, none⟩ [pV (ps ++ [b17])[j]] := fun j h => kn_cell hown j (by rw [List.getElem?_map, List.getElem?_eq_getElem h]; rfl)
    generalize M3.set b26 ⟨76, (ps ++ [b17]).map pV, c26⟩ = M4 at *
    replace hq4 := fun i hi => (hq4 i hi).less hM4
    replace hu := hu.less hM4
    replace hMM := hMM.trans hM4
    clear hown hF26 hf26 ho4
    have hm3 : numP L.length ≤ 3000 := places_le L.length (by omega)
    obtain ⟨m, hm⟩ : ∃ m, m = (red L).length := ⟨_, rfl⟩
    rw [← hm] at hu hrl ⊢
    rw [← hrl] at hmany hm3
    have hmz : madeL [Value.int .i64 0] m = List.replicate m (gI 0) := madeL_one _ _
    unfold nilB
    refine AWP.seq ?_
    refine AWP.region ?_
    refine rC (Calm.move rfl) ?_
    refine rC (Calm.lenSl Try.underlying22 rfl) ?_
    refine ARun.makeSlice (lit_lt rfl) ty_sl_24 rfl rfl (by omega) (by omega) (by omega) (by omega) ?_
    intro b33 f33
    have g33 := f33
    repeat ((with_reducible replace g33 := fresh_set g33); obtain ⟨g33, _⟩ := g33)
    refine ARun.store1 rfl rfl ty_size_24 rfl own_ lens_ rfl ?_
    (try simp only [Mem.set_set, List.set_cons_zero, List.set_cons_succ, Nat.zero_add, Nat.reduceAdd])
    refine arun_nil ?_
    refine athen_n ?_
    refine AWP.sub [(0, _), (3, _), (4, _), (5, _), (6, _), (7, _), (30, _)] ⟨rfl, rfl, rfl, rfl, rfl, rfl, rfl, trivial⟩ ?_
    rw [Mem.set_comm _ _ _ (by assumption : b33 ≠ b4), Mem.set_set, Nat.mul_one, Int.toNat_natCast, hmz]
    refine AWP.seq ?_
    refine AWP.seq ?_
    refine AWP.region ?_
    refine rC (Calm.move rfl) ?_
    refine rC (Calm.lenSl Try.underlying22 rfl) ?_
    refine rC (Calm.move rfl) ?_
    refine arun_nil ?_
    refine athen_n ?_
    refine AWP.block ?_
    refine AWP.loop (X := Nat × List Nat) (fun x => [(3, .slice (some ⟨b26, 0, none⟩) (ps.length + 1) c26), (4, .pointer (some ⟨b4, 0, none⟩)), (34, .slice ua m uc), (35, .int .i64 m), (36, .int .i64 x.1)]) (fun x => (M4.set b4 ⟨24, [.slice (some ⟨b33, 0, none⟩) m m], 1⟩).set b33 ⟨3, x.2.map gI, m⟩) (fun x => x.1 ≤ m ∧ x.2.length = m ∧ ∀ j, j < x.1 → x.2.getD ((red L).getD j 0 - 1) 0 = j) (fun x => m - x.1) ((0, List.replicate m 0)) ⟨rfl, rfl, rfl, rfl, rfl, trivial⟩ (by dsimp only; rw [List.map_replicate]; exact Mem.Less.refl _) (⟨Nat.zero_le _, by simp, fun j h => absurd h (Nat.not_lt_zero _)⟩) ?_
    rintro ⟨i, o2⟩ ⟨k1, k2, k3⟩
    (try dsimp only at *)
    by_cases hi : i < m
    · refine AWP.seq ?_
      refine AWP.region ?_
      refine rC (Calm.bin rfl rfl b_lss) ?_
      refine arun_nil ?_
      refine athen_n ?_
      refine AWP.seq ?_
      refine AWP.condT rfl (by first | rfl | (simp; done) | (simp; omega)) ?_
      have hiL : i < (red L).length := by omega
      obtain ⟨ub, uo, rfl, hkn⟩ := u3.resolve_left (fun h => by rw [h] at hiL; exact absurd hiL (Nat.not_lt_zero _))
      have b1_ := red_pos L _ (List.getElem_mem hiL)
      have b2_ := red_le L _ (List.getElem_mem hiL)
      have hx : (red L)[i] = (red L).getD i 0 := (getD_get _ _ _ hiL).symm
      have hki : M4.Knows ⟨ub, uo + i * 1, none⟩ [.int .u64 ((red L)[i] : Int)] := (hkn i hiL).less hM4
      generalize (red L)[i] = x at *
      have hk : Mem.Knows ((M4.set b4 ⟨24, [.slice (some ⟨b33, 0, none⟩) m m], 1⟩).set b33 ⟨3, o2.map gI, m⟩) ⟨ub, uo + i * 1, none⟩ [.int .u64 (x : Int)] := hki.less ((Mem.less_set _ _ _ hf4.1).trans (Mem.less_set _ _ _ (fresh_more g33 (by assumption : b33 ≠ b4)).1))
      obtain ⟨y, rfl⟩ : ∃ y, x = y + 1 := ⟨x - 1, by omega⟩
      have hxy : ((y + 1 : Nat) : Int) - 1 = (y : Int) := by omega
      refine AWP.skip ?_
      refine athen_n ?_
      refine AWP.seq ?_
      refine AWP.block ?_
      refine AWP.seq ?_
      refine AWP.region ?_
      refine rC (Calm.move rfl) ?_
      refine rC (Calm.indexS Try.underlying22 ty_size_41 rfl rfl (by omega) (by omega)) ?_
      refine rC (ld_ ty_plain_41 rfl) ?_
      refine rC (Calm.assign rfl) ?_
      refine rC (Calm.assign rfl) ?_
      refine arun_nil ?_
      refine athen_n ?_
      refine AWP.sub [(3, _), (4, _), (34, _), (35, _), (36, _), (37, _), (8, _), (9, _)] ⟨rfl, rfl, rfl, rfl, rfl, rfl, rfl, rfl, trivial⟩ ?_
      refine AWP.region ?_
      refine rC (ld_ ty_plain_24 rfl) ?_
      refine rC (Calm.move rfl) ?_
      refine rC (Calm.bin rfl rfl b_sub_u64) ?_
      refine rC (Calm.move rfl) ?_
      refine rC (Calm.indexS Try.underlying24 ty_size_3 rfl rfl (by omega) (by omega)) ?_
      refine ARun.store1 rfl rfl ty_size_3 rfl own_ lens_ rfl ?_
      (try simp only [Mem.set_set, List.set_cons_zero, List.set_cons_succ, Nat.zero_add, Nat.reduceAdd])
      refine arun_nil ?_
      refine ain_n ?_
      refine athen_n ?_
      refine AWP.sub [(3, _), (4, _), (34, _), (35, _), (36, _), (37, _), (8, _), (9, _)] ⟨rfl, rfl, rfl, rfl, rfl, rfl, rfl, rfl, trivial⟩ ?_
      rw [hxy, Int.toNat_natCast, Nat.mul_one]
      refine AWP.region ?_
      refine rC (Calm.bin rfl rfl b_add_i64) ?_
      refine rC (Calm.move rfl) ?_
      refine arun_nil ?_
      refine athen_n ?_
      refine ⟨(i + 1, o2.set y i), ?_, ?_, ?_, ?_⟩
      all_goals (try dsimp only)
      · exact ⟨sq_, sq_, sq_, sq_, sq_, trivial⟩
      · rw [List.map_set]; exact Mem.Less.refl _
      · exact ⟨hi, by rw [List.length_set]; exact k2, lay_step L o2 m i (y + 1) (by omega) hrl.symm k2 hi hx k3⟩
      · omega
    · obtain rfl : m = i := by omega
      have hsort : Ord.SortedE (red L) o2 := lay_done L o2 (by omega) (by omega) (by rw [← hrl]; exact k3)
      rw [Mem.set_comm _ _ _ (by apply Ne.symm; assumption : b4 ≠ b33)]
      have hM5 : M4.Less (M4.set b33 ⟨3, o2.map gI, m⟩) := Mem.less_set _ _ _ g33.1
      have hf5 : Fresh (M4.set b33 ⟨3, o2.map gI, m⟩) b4 := fresh_more hf4 (by apply Ne.symm; assumption)
      have hix : IdxR (M4.set b33 ⟨3, o2.map gI, m⟩) (.slice (some ⟨b33, 0, none⟩) m m) o2 := Sl.own1 (g := gI) (l := o2) (Mem.own_set_same _ _ _) List.prefix_rfl k2 (Nat.le_refl _) (by omega)
      generalize M4.set b33 ⟨3, o2.map gI, m⟩ = M5 at *
      refine AWP.seq ?_
      refine AWP.region ?_
      refine rC (Calm.bin rfl rfl b_lss) ?_
      refine arun_nil ?_
      refine athen_n ?_
      refine AWP.seq ?_
      refine AWP.condF rfl (by first | rfl | (simp; done) | (simp; omega)) ?_
      refine AWP.exit ?_
      refine athen_exit ?_
      refine athen_exit ?_
      refine ain_same ?_
      refine athen_n ?_
      refine AWP.exit ?_
      refine athen_exit ?_
      refine ain_other rfl ?_
      refine athen_exit ?_
      refine ain_same ?_
      refine athen_n ?_
      refine AWPM.seqM ?_
      refine AWPM.seq ?_
      refine AWP.region ?_
      refine rC (Calm.move rfl) ?_
      refine ARun.call (lit_lt rfl) go_104 rfl (sk_Backward _ _ _ _) ?_
      rintro _ _ ⟨Bb, hBf, rfl, rfl⟩
      intro S0 w0 a w hs hg
      obtain ⟨tm, df⟩ := a
      obtain rfl : df = [] := hg.defers
      obtain ⟨x0, x1, x2, x3, x4, x5, x6, x7, x8, x9, x10, x11, x12, x13, x14, x15, x16, x17, x18, x19, x20, x21, x22, x23, x24, x25, x26, x27, x28, x29, x30, x31, x32, x33, x34, x35, x36, x37, x38, x39, x40, x41, x42, x43, x44, x45, x46, x47, x48, x49, x50, x51, x52, x53, x54, x55, rfl⟩ := tmps56 tm hg.size
      have e4 : x4 = .pointer (some ⟨b4, 0, none⟩) := hg.at_ 4 _ rfl
      have e49 : x49 = .func (.func 137) #[] #[.pointer (some ⟨Bb, 0, none⟩)] := hg.at_ 49 _ rfl
      subst e4 e49
      clear hg
      have hnB : b4 ≠ Bb := hBf.ne (Mem.own_set_same _ _ _)
      have hB5 : Fresh M5 Bb := hBf.less (Mem.less_set _ _ _ hf5.1)
      rw [Mem.set_comm _ _ _ hnB] at hs
      have hM6 : M5.Less (M5.set Bb ⟨121, [.slice (some ⟨b26, 0, none⟩) (ps.length + 1) c26], 1⟩) := Mem.less_set _ _ _ hB5.1
      have hf6 : Fresh (M5.set Bb ⟨121, [.slice (some ⟨b26, 0, none⟩) (ps.length + 1) c26], 1⟩) b4 := fresh_more hf5 hnB
      have hkB : (M5.set Bb ⟨121, [.slice (some ⟨b26, 0, none⟩) (ps.length + 1) c26], 1⟩).Knows ⟨Bb, 0, none⟩ [.slice (some ⟨b26, 0, none⟩) (ps.length + 1) c26] := Mem.own_knows (Mem.own_set_same _ _ _) 0 _ (fun j v hj => by rw [Nat.zero_add]; exact hj)
      generalize M5.set Bb ⟨121, [.slice (some ⟨b26, 0, none⟩) (ps.length + 1) c26], 1⟩ = M6 at *
      have hM56 := hM6
      replace hM6 := hM5.trans hM6
      have hlen : (ps ++ [b17]).length = ps.length + 1 := by simp
      replace hix := idxR_less _ _ _ _ hix (show M5.Less M6 from hM56)
      have hS6 : S.Less M6 := q1.trans (hMM.trans hM6)
      clear u3 hM56
      refine wpIn_block ?_
      refine range_view (S0 := S0) (w0 := w0) (gf := 137) (lb := #[.pointer (some ⟨Bb, 0, none⟩)]) (ps.length + 1) (fun k => #[.int .i64 ((ps.length + 1 - 1 - k : Nat) : Int), pV ((ps ++ [b17]).getD (ps.length + 1 - 1 - k) 0)]) (fun k T => ∃ M v e, T = M.set b4 (boxB v) ∧ M6.Less M ∧ Fresh M b4 ∧ IdxR M v e ∧ Ord.SortedE (Mi l (ps.length + 1 - k)) e) (fun k => { tmps := #[x0, x1, x2, x3, .pointer (some ⟨b4, 0, none⟩), x5, x6, x7, x8, x9, x10, pV ((ps ++ [b17]).getD (ps.length + 1 - 1 - k) 0), x12, x13, x14, x15, x16, x17, x18, x19, x20, x21, x22, x23, x24, x25, x26, x27, x28, x29, x30, x31, x32, x33, x34, x35, x36, x37, x38, x39, x40, x41, x42, x43, x44, x45, x46, x47, x48, .func (.func 137) #[] #[.pointer (some ⟨Bb, 0, none⟩)], .int .i64 ((ps.length + 1 - 1 - k : Nat) : Int), pV ((ps ++ [b17]).getD (ps.length + 1 - 1 - k) 0), x52, x53, x54, x55], defers := [] }) rfl (enters_of Try.func137 (by kernel_rfl) rfl) (fun _ => rfl) ?start ?it ?assign ?body ?done
      case start => exact ⟨_, ⟨M6, _, o2, rfl, Mem.Less.refl _, hf6, hix, by show Ord.SortedE (red (Mi l ps.length)) o2; rw [← hL]; exact hsort⟩, hs⟩
      case it =>
        intro l' J W hK hY h0
        refine back_it l' Bb b26 0 c26 (ps.length + 1) (fun j => (ps ++ [b17]).getD j 0) (by omega) J W (fun k W hj => ?_) hY h0
        obtain ⟨T, ⟨M, v, e, rfl, hM, hf, _⟩, hvw⟩ := hK k W hj
        have hl := hM.trans (Mem.less_set _ _ (boxB v) hf.1)
        refine ⟨by have := (hkB.less hl) W hvw 0 _ rfl; simpa [Addr.add] using this, fun j hj => ?_⟩
        have := ((hlev j (by omega)).less (hM6.trans hl)) W hvw 0 _ rfl
        rw [getD_get _ _ _ (by omega)]
        simpa [Addr.add] using this
      case assign =>
        intro l' k W K hK
        simp only [pV] at hK ⊢
        gi_wp2
        exact hK
      case body =>
        rintro l' k T W hk ⟨M, v, e, rfl, hM, hf, hi, hse⟩ hvw
        obtain ⟨ea, ec, rfl, _⟩ := id hi
        have e1 : ps.length + 1 - k = (ps.length - k) + 1 := by omega
        have e2 : ps.length + 1 - 1 - k = ps.length - k := by omega
        have e3 : ps.length + 1 - (k + 1) = ps.length - k := by omega
        rw [e1] at hse
        rw [e2, e3]
        have hlv := (hq4 (ps.length - k) (by omega)).less (hM6.trans hM)
        have hc := (sk_expanded ((ps ++ [b17]).getD (ps.length - k) 0) _ (Mi l (ps.length - k)) e M hlv.1 hi (Mi_pos l h1 _) hse hlv.2).frame (r := boxB (.slice ea e.length ec)) hf
        have c1 := (View.box hvw (Mem.own_set_same _ _ _)).1
        simp only [pV] at hc ⊢
        gi_wp2_with (refine ⟨trivial, ?_⟩; gi_at_call 68; refine (CallsIn.inRound l' (callsIn_wide.2 (hc W hvw))).mono ?_; rintro e' w2 ⟨r, S2, rfl, ⟨M1, ⟨hM1, hr⟩, hf1, rfl⟩, st2⟩; obtain ⟨ra, rc, rfl, _⟩ := id hr; have bx := View.box st2.view (Mem.own_set_same _ _ _); have c2 := bx.1; have z2 := bx.2)
        refine ⟨_, ⟨M1, .slice ra _ rc, rfl, hM.trans hM1, hf1, _, hr, Ord.endsR_ok _⟩, ?_⟩
        have := st2.trans (Step.boxset st2.view (Mem.own_set_same _ _ _) (.slice ra (Ord.endsR (Mi l (ps.length - k)) (Mi l (ps.length - k)).length).length rc) rfl)
        rw [Mem.set_set] at this
        exact this
      case done =>
        rintro D T W ⟨M, v, e, rfl, hM, hf, hi, hse⟩ hst hD hK
        obtain ⟨ea, ec, rfl, _⟩ := id hi
        have c1 := (View.box hst.view (Mem.own_set_same _ _ _)).1
        rw [Nat.sub_self] at hse
        obtain rfl := Ord.sortedE_one hse (Ord.endsR_ok l)
        gi_wp2
        refine ⟨by simp, .inl ⟨_, _, rfl, run_takeDeferred hK, ?_⟩⟩
        refine ⟨.slice ea _ ec, ?_, _, M, rfl, ⟨hS6.trans hM, hi⟩, ((hst.less (Mem.less_set _ _ _ hf.1)).grown (grownBy_putObj' _ D (.deferred none)) (fun r e => by cases e; exact ⟨hD, _, hK, rfl⟩))⟩
        simp [results, Try.f67, go_sem]
  · refine AWP.seq ?_
    refine AWP.seq ?_
    refine AWP.region ?_
    refine rC (Calm.move rfl) ?_
    refine rC (Calm.move rfl) ?_
    refine rC (Calm.lenSl Try.underlying22 rfl) ?_
    refine rC (Calm.bin rfl rfl b_eql) ?_
    refine arun_nil ?_
    refine athen_n ?_
    refine AWP.sub [(0, _), (3, _), (4, _), (5, _), (6, _), (7, _), (30, _)] ⟨rfl, rfl, rfl, rfl, rfl, rfl, rfl, trivial⟩ ?_
    refine AWP.condF rfl (by first | rfl | (simp; done) | (simp; omega)) ?_
    have hMi : Mi l (ps ++ [b17]).length = red L := by rw [List.length_append]; show red (Mi l ps.length) = _; rw [hL]
    refine AWP.skip ?_
    refine athen_n ?_
    refine AWP.region ?_
    refine rC (Calm.move rfl) ?_
    refine rC (Calm.assign rfl) ?_
    refine arun_nil ?_
    refine ain_n ?_
    refine athen_n ?_
    refine ⟨(M3, ps ++ [b17], some (b26, c26), .slice ua (red L).length uc), ?_, ?_, ?_, ?_⟩
    all_goals (try dsimp only)
    · exact ⟨sq_, sq_, sq_, trivial⟩
    · exact Mem.Less.refl _
    · exact ⟨q1.trans hMM, hf3, push_ok ho4 rfl, hq4, by rw [hMi]; exact hu, by rw [hMi, List.length_append]; have := less_long L hL1 hmany; show ps.length + 1 + _ ≤ _; omega⟩
    · rw [hMi, ← hL]; exact less_long L hL1 hmany
end Go.Proofs.Ytgidjbpgkeemiaa
namespace Go.Proofs.Ytgidjbpgkeemiaa
open Go.RowKit
open Mv Num Loser Skew
set_option linter.unusedVariables false
set_option linter.unusedSimpArgs false
set_option maxRecDepth 4000
def endsP (l : List Nat) : List Nat := if chkL l = 0 then Ord.endsR l l.length else []
theorem sk_Ends (v : Value) (l : List Nat) (S : Mem) (hl : RowR S v l) :
    ACall Try.prog 26 #[v] S fun r S' => ∃ u, r = .tuple #[u, .int .i64 (chkL l)] ∧ RdL gI (endsP l) S u S' := by
  obtain ⟨a, cap, rfl, h1, h2, h3⟩ := id hl
  by_cases hc : chkL l = 0
  · have hok := chk_ok hc
    have es : endsP l = Ord.endsR l l.length := if_pos hc
    rw [es]
    refine ACall.enter (args := [.slice a l.length cap]) (rs := [.tmp 2, .tmp 3]) 12 [(0, .slice a l.length cap)] Try.func26 rfl rfl (Nat.le_of_ble_eq_true rfl) rfl ⟨rfl, trivial⟩ ?_
    refine AWP.seq ?_
    refine AWP.region ?_
    refine rC (Calm.assign rfl) ?_
    refine rC (Calm.assign rfl) ?_
    refine arun_nil ?_
    refine athen_n ?_
    refine AWP.seq ?_
    refine AWP.seq ?_
    refine AWP.region ?_
    refine rC (Calm.move rfl) ?_
    refine ARun.call (lit_lt rfl) go_24 rfl (sk_Check _ l _ hl) ?_
    rintro _ S1 ⟨rfl, h1⟩
    rw [h1]; clear h1 S1
    rw [hc]
    refine rC (Calm.assign rfl) ?_
    refine arun_nil ?_
    refine athen_n ?_
    refine AWP.sub [(0, _), (2, _), (3, _), (4, _)] ⟨rfl, rfl, rfl, rfl, trivial⟩ ?_
    refine AWP.seq ?_
    refine AWP.region ?_
    refine rC (Calm.move rfl) ?_
    refine rC (Calm.bin rfl rfl b_neq) ?_
    refine arun_nil ?_
    refine athen_n ?_
    refine AWP.sub [(0, _), (2, _), (3, _), (4, _), (8, _)] ⟨rfl, rfl, rfl, rfl, rfl, trivial⟩ ?_
    refine AWP.condF rfl (by first | rfl | (simp; done) | (simp; omega)) ?_
    refine AWP.skip ?_
    refine athen_n ?_
    refine AWP.seq ?_
    refine AWP.region ?_
    refine rC (Calm.move rfl) ?_
    refine ARun.call (lit_lt rfl) go_67 rfl (sk_Of _ l S hl hok.2.1 hok.1) ?_
    rintro u S1 hP
    refine rC (Calm.assign rfl) ?_
    refine rC (Calm.assign rfl) ?_
    refine arun_nil ?_
    refine athen_n ?_
    refine AWP.sub [(0, _), (2, _), (3, _), (4, _), (8, _)] ⟨rfl, rfl, rfl, rfl, rfl, trivial⟩ ?_
    refine AWP.ret ?_
    refine ⟨_, S1, ⟨_, _, rfl, ⟨_, _, rfl, rfl, rfl⟩, rfl⟩, Mem.Less.refl _, ?_⟩
    exact ⟨u, rfl, hP⟩
  · have es : endsP l = [] := if_neg hc
    rw [es]
    have e1 := chk_no hc
    refine ACall.enter (args := [.slice a l.length cap]) (rs := [.tmp 2, .tmp 3]) 12 [(0, .slice a l.length cap)] Try.func26 rfl rfl (Nat.le_of_ble_eq_true rfl) rfl ⟨rfl, trivial⟩ ?_
    refine AWP.seq ?_
    refine AWP.region ?_
    refine rC (Calm.assign rfl) ?_
    refine rC (Calm.assign rfl) ?_
    refine arun_nil ?_
    refine athen_n ?_
    refine AWP.seq ?_
    refine AWP.seq ?_
    refine AWP.region ?_
    refine rC (Calm.move rfl) ?_
    refine ARun.call (lit_lt rfl) go_24 rfl (sk_Check _ l _ hl) ?_
    rintro _ S1 ⟨rfl, h1⟩
    rw [h1]; clear h1 S1
    rw [e1]
    refine rC (Calm.assign rfl) ?_
    refine arun_nil ?_
    refine athen_n ?_
    refine AWP.sub [(0, _), (2, _), (3, _), (4, _)] ⟨rfl, rfl, rfl, rfl, trivial⟩ ?_
    refine AWP.seq ?_
    refine AWP.region ?_
    refine rC (Calm.move rfl) ?_
    refine rC (Calm.bin rfl rfl b_neq) ?_
    refine arun_nil ?_
    refine athen_n ?_
    refine AWP.sub [(0, _), (2, _), (3, _), (4, _), (8, _)] ⟨rfl, rfl, rfl, rfl, rfl, trivial⟩ ?_
    refine AWP.condT rfl (by first | rfl | (simp; done) | (simp; omega)) ?_
    refine AWP.seq ?_
    refine AWP.region ?_
    refine rC (Calm.move rfl) ?_
    refine rC (Calm.assign rfl) ?_
    refine rC (Calm.assign rfl) ?_
    refine arun_nil ?_
    refine athen_n ?_
    refine AWP.sub [(0, _), (2, _), (3, _), (4, _), (8, _)] ⟨rfl, rfl, rfl, rfl, rfl, trivial⟩ ?_
    refine AWP.ret ?_
    refine athen_ret ?_
    refine ⟨_, S, ⟨_, _, rfl, ⟨_, _, rfl, rfl, rfl⟩, rfl⟩, less_, ?_⟩
    exact ⟨_, rfl, Mem.Less.refl _, sl_nilI _⟩
open Classical in
/-- What Expand tells: the order, why not. -/
noncomputable def expP (l : List Nat) (ends : List Int) : List Nat × Nat := if chkL l ≠ 0 then ([], 1) else if RightE (red l) ends then (Ord.endsR l l.length, 0) else ([], 2)
theorem expP_no {l : List Nat} {ends : List Int} (hc : chkL l ≠ 0) : expP l ends = ([], 1) := if_pos hc
theorem expP_yes {l : List Nat} {ends : List Int} (hc : chkL l = 0) (h : RightE (red l) ends) : expP l ends = (Ord.endsR l l.length, 0) := by
  unfold expP; rw [if_neg (by simp [hc]), if_pos h]
theorem expP_bad {l : List Nat} {ends : List Int} (hc : chkL l = 0) (h : ¬ RightE (red l) ends) : expP l ends = ([], 2) := by
  unfold expP; rw [if_neg (by simp [hc]), if_neg h]
set_option maxHeartbeats 1000000 in
theorem sk_Expand (v ve : Value) (l : List Nat) (ends : List Int) (S : Mem) (hl : RowR S v l) (hve : Sl 1 i64s S ve ends) (hel : ends.length ≤ 17592186043904) :
    ACall Try.prog 28 #[v, ve] S fun r S' => ∃ u, r = .tuple #[u, .int .i64 (expP l ends).2] ∧ RdL gI (expP l ends).1 S u S' := by
  obtain ⟨a, cap, rfl, h1, h2, h3⟩ := id hl
  obtain ⟨ea, ec, rfl, _⟩ := id hve
  have hS := sk_Samples _ l S hl
  by_cases hc : chkL l = 0
  · have hok := chk_ok hc
    have es : smpL l = places l.length := if_pos hc
    rw [es, hc] at hS
    refine ACall.enter (args := [.slice a l.length cap, .slice ea ends.length ec]) (rs := [.tmp 4, .tmp 5]) 35 [(0, .slice a l.length cap), (1, .slice ea ends.length ec)] Try.func28 rfl rfl (Nat.le_of_ble_eq_true rfl) rfl ⟨rfl, rfl, trivial⟩ ?_
    refine AWP.seq ?_
    refine AWP.region ?_
    refine rC (Calm.assign rfl) ?_
    refine rC (Calm.assign rfl) ?_
    refine arun_nil ?_
    refine athen_n ?_
    refine AWP.seq ?_
    refine AWP.region ?_
    refine rC (Calm.move rfl) ?_
    refine ARun.call (lit_lt rfl) go_15 rfl (hS) ?_
    rintro vs S1 ⟨u, rfl, hSS, hu⟩
    obtain ⟨pa, pc, rfl, _⟩ := id hu
    refine rC (Calm.move rfl) ?_
    refine rC (Calm.extract rfl rfl) ?_
    refine rC (Calm.extract rfl rfl) ?_
    refine rC (Calm.assign rfl) ?_
    refine rC (Calm.assign rfl) ?_
    refine arun_nil ?_
    refine athen_n ?_
    refine AWP.sub [(0, _), (1, _), (4, _), (5, _), (6, _), (7, _)] ⟨rfl, rfl, rfl, rfl, rfl, rfl, trivial⟩ ?_
    refine AWP.seq ?_
    refine AWP.seq ?_
    refine AWP.region ?_
    refine rC (Calm.move rfl) ?_
    refine rC (Calm.bin rfl rfl b_neq) ?_
    refine arun_nil ?_
    refine athen_n ?_
    refine AWP.sub [(0, _), (1, _), (4, _), (5, _), (6, _), (7, _), (17, _)] ⟨rfl, rfl, rfl, rfl, rfl, rfl, rfl, trivial⟩ ?_
    refine AWP.condF rfl (by first | rfl | (simp; done) | (simp; omega)) ?_
    refine AWP.skip ?_
    refine athen_n ?_
    refine AWP.seq ?_
    refine AWP.region ?_
    refine rC (Calm.move rfl) ?_
    refine rC (Calm.move rfl) ?_
    refine rC (Calm.build (cs := [_, _]) ty_bld_78 rfl rfl) ?_
    refine ARun.boxA (cs := [_, _]) (lit_lt rfl) rfl ?_
    intro b22 f22
    have g22 := f22
    repeat ((with_reducible replace g22 := fresh_set g22); obtain ⟨g22, _⟩ := g22)
    (try simp only [List.length_cons, List.length_nil, Nat.zero_add, Nat.reduceAdd])
    refine rC (Calm.assign rfl) ?_
    refine arun_nil ?_
    refine athen_n ?_
    refine AWP.sub [(0, _), (1, _), (4, _), (5, _), (6, _), (7, _), (17, _), (8, _)] ⟨rfl, rfl, rfl, rfl, rfl, rfl, rfl, rfl, trivial⟩ ?_
    refine AWP.seq ?_
    refine AWP.region ?_
    refine rC (Calm.move rfl) ?_
    refine ARun.call (lit_lt rfl) go_63 rfl (sk_reduced b22 l _ (lvR_box own_ (hl.less (hSS.trans less_)) (idxR_less _ _ _ _ hu less_)) hok.1) ?_
    rintro _ S2 ⟨u2, rfl, hS2, hu2⟩
    have hSS2 : S.Less S2 := hSS.trans ((Mem.less_set _ _ _ f22.1).trans hS2)
    have hlv : LvR S2 b22 l := (lvR_box (Mem.own_set_same _ _ _) (hl.less (hSS.trans (Mem.less_set _ _ _ f22.1))) (idxR_less _ _ _ _ hu (Mem.less_set _ _ _ f22.1))).less hS2
    obtain ⟨ua, uc, rfl, _⟩ := id hu2
    refine rC (Calm.move rfl) ?_
    refine rC (Calm.extract rfl rfl) ?_
    refine rC (Calm.extract rfl rfl) ?_
    refine rC (Calm.assign rfl) ?_
    refine rC (Calm.assign rfl) ?_
    refine arun_nil ?_
    refine athen_n ?_
    refine AWP.sub [(0, _), (1, _), (4, _), (5, _), (6, _), (7, _), (17, _), (8, _), (9, _)] ⟨rfl, rfl, rfl, rfl, rfl, rfl, rfl, rfl, rfl, trivial⟩ ?_
    refine AWP.seq ?_
    refine AWP.seq ?_
    refine AWP.region ?_
    refine rC (Calm.move rfl) ?_
    refine rC (Calm.move rfl) ?_
    refine ARun.call (lit_lt rfl) go_53 rfl (or_Right _ _ (red l) ends S2 hu2 (hve.less hSS2) hel) ?_
    rintro _ S3 ⟨⟨t, rfl, ht⟩, h5⟩
    rw [h5]; clear h5 S3
    refine rC (Calm.un rfl (una_not _)) ?_
    refine arun_nil ?_
    refine athen_n ?_
    refine AWP.sub [(0, _), (1, _), (4, _), (5, _), (6, _), (7, _), (17, _), (8, _), (9, _), (31, _)] ⟨rfl, rfl, rfl, rfl, rfl, rfl, rfl, rfl, rfl, rfl, trivial⟩ ?_
    cases t
    · refine AWP.condT rfl (by first | rfl | (simp; done) | (simp; omega)) ?_
      have hn : ¬ RightE (red l) ends := fun h => by have := ht.2 h; cases this
      rw [expP_bad hc hn]
      refine AWP.seq ?_
      refine AWP.region ?_
      refine rC (Calm.assign rfl) ?_
      refine rC (Calm.assign rfl) ?_
      refine arun_nil ?_
      refine athen_n ?_
      refine AWP.ret ?_
      refine athen_ret ?_
      refine ⟨_, S2, ⟨_, _, rfl, ⟨_, _, rfl, rfl, rfl⟩, rfl⟩, Mem.Less.refl _, ?_⟩
      exact ⟨_, rfl, hSS2, sl_nilI _⟩
    · refine AWP.condF rfl (by first | rfl | (simp; done) | (simp; omega)) ?_
      have hy := ht.1 rfl
      rw [expP_yes hc hy]
      obtain ⟨e, rfl, hse⟩ := hy
      refine AWP.skip ?_
      refine athen_n ?_
      refine AWP.seq ?_
      refine AWP.region ?_
      refine rC (Calm.move rfl) ?_
      refine rC (Calm.move rfl) ?_
      refine ARun.call (lit_lt rfl) go_68 rfl (sk_expanded b22 _ l e S2 hlv (ints_idx (hve.less hSS2)) hok.2.1 hse hok.1) ?_
      rintro u4 S4 ⟨hS4, hu4⟩
      refine rC (Calm.assign rfl) ?_
      refine rC (Calm.assign rfl) ?_
      refine arun_nil ?_
      refine athen_n ?_
      refine AWP.sub [(0, _), (1, _), (4, _), (5, _), (6, _), (7, _), (17, _), (8, _), (9, _), (31, _)] ⟨rfl, rfl, rfl, rfl, rfl, rfl, rfl, rfl, rfl, rfl, trivial⟩ ?_
      refine AWP.ret ?_
      refine ⟨_, S4, ⟨_, _, rfl, ⟨_, _, rfl, rfl, rfl⟩, rfl⟩, Mem.Less.refl _, ?_⟩
      exact ⟨_, rfl, hSS2.trans hS4, hu4⟩
  · have es : smpL l = [] := if_neg hc
    have e1 := chk_no hc
    rw [expP_no hc]
    rw [es, e1] at hS
    refine ACall.enter (args := [.slice a l.length cap, .slice ea ends.length ec]) (rs := [.tmp 4, .tmp 5]) 35 [(0, .slice a l.length cap), (1, .slice ea ends.length ec)] Try.func28 rfl rfl (Nat.le_of_ble_eq_true rfl) rfl ⟨rfl, rfl, trivial⟩ ?_
    refine AWP.seq ?_
    refine AWP.region ?_
    refine rC (Calm.assign rfl) ?_
    refine rC (Calm.assign rfl) ?_
    refine arun_nil ?_
    refine athen_n ?_
    refine AWP.seq ?_
    refine AWP.region ?_
    refine rC (Calm.move rfl) ?_
    refine ARun.call (lit_lt rfl) go_15 rfl (hS) ?_
    rintro vs S1 ⟨u, rfl, hSS, hu⟩
    refine rC (Calm.move rfl) ?_
    refine rC (Calm.extract rfl rfl) ?_
    refine rC (Calm.extract rfl rfl) ?_
    refine rC (Calm.assign rfl) ?_
    refine rC (Calm.assign rfl) ?_
    refine arun_nil ?_
    refine athen_n ?_
    refine AWP.sub [(0, _), (1, _), (4, _), (5, _), (6, _), (7, _)] ⟨rfl, rfl, rfl, rfl, rfl, rfl, trivial⟩ ?_
    refine AWP.seq ?_
    refine AWP.seq ?_
    refine AWP.region ?_
    refine rC (Calm.move rfl) ?_
    refine rC (Calm.bin rfl rfl b_neq) ?_
    refine arun_nil ?_
    refine athen_n ?_
    refine AWP.sub [(0, _), (1, _), (4, _), (5, _), (6, _), (7, _), (17, _)] ⟨rfl, rfl, rfl, rfl, rfl, rfl, rfl, trivial⟩ ?_
    refine AWP.condT rfl (by first | rfl | (simp; done) | (simp; omega)) ?_
    refine AWP.seq ?_
    refine AWP.region ?_
    refine rC (Calm.move rfl) ?_
    refine rC (Calm.assign rfl) ?_
    refine rC (Calm.assign rfl) ?_
    refine arun_nil ?_
    refine athen_n ?_
    refine AWP.sub [(0, _), (1, _), (4, _), (5, _), (6, _), (7, _), (17, _)] ⟨rfl, rfl, rfl, rfl, rfl, rfl, rfl, trivial⟩ ?_
    refine AWP.ret ?_
    refine athen_ret ?_
    refine ⟨_, S1, ⟨_, _, rfl, ⟨_, _, rfl, rfl, rfl⟩, rfl⟩, Mem.Less.refl _, ?_⟩
    exact ⟨_, rfl, hSS, sl_nilI _⟩
end Go.Proofs.Ytgidjbpgkeemiaa
namespace Go.Proofs.Ytgidjbpgkeemiaa
open Go.RowKit
open Mv Num Loser Skew
set_option linter.unusedVariables false
set_option linter.unusedSimpArgs false
set_option maxRecDepth 8000
def exL : List Nat := [2, 1, 4, 1, 4, 1]
theorem ex_chk : chkL exL = 0 := by decide +kernel
theorem ex_smp : smpL exL = [1, 4, 2, 5] := by decide +kernel
theorem ex_tri : triL exL = [[1, 4, 1], [4, 1, 0], [4, 1, 4], [1, 0, 0]] := by decide +kernel
theorem ex_red : redP exL = [2, 3, 4, 1] := by decide +kernel
theorem ex_many : manyP exL = 4 := by decide +kernel
theorem ex_ends : endsP exL = [5, 3, 1, 0, 4, 2] := by decide +kernel
theorem ex_no (w : List Int) (h : w ≠ [3, 0, 1, 2]) : expP exL w = ([], 2) := by
  refine expP_bad ex_chk ?_
  rintro ⟨e, he, hs⟩
  have hr : red exL = [2, 3, 4, 1] := by decide +kernel
  have h2 : Ord.endsR (red exL) (red exL).length = [3, 0, 1, 2] := by decide +kernel
  have := Ord.sortedE_one hs (Ord.endsR_ok _)
  rw [this, h2] at he
  exact h he
theorem ex_bad0 : chkL [0] = 1 := by decide +kernel
theorem rows_at {S : Mem} {v : Value} {l : List (List Nat)} (n : Nat) (hn : l.length = n) (h : SlOf RowR S v l) (i : Nat) (hi : i < l.length) : ∃ pb po cap, v = .slice (some ⟨pb, po, none⟩) n cap ∧ ∃ u, S.Knows ⟨pb, po + i * 1, none⟩ [u] ∧ RowR S u l[i] := by
  subst hn
  obtain ⟨hs, e, ⟨a, cap, rfl, _, _, h3⟩, h4⟩ := h
  obtain ⟨pb, po, rfl, hk⟩ := h3.resolve_left (fun e' => by rw [e'] at e; simp at e; omega)
  exact ⟨pb, po, cap, by rw [e], hs[i], hk i (by omega), h4 i hi (by omega)⟩
theorem row_at {S : Mem} {v : Value} {l : List Nat} (n : Nat) (hn : l.length = n) (h : RowR S v l) (h0 : l ≠ []) : ∃ b o cap, v = .slice (some ⟨b, o, none⟩) n cap ∧ ∀ i (hi : i < l.length), S.Knows ⟨b, o + i * 1, none⟩ [.int .u64 (l[i] : Int)] := by
  subst hn
  obtain ⟨a, cap, rfl, _, _, h3⟩ := h
  obtain ⟨b, o, rfl, hk⟩ := h3.resolve_left h0
  exact ⟨b, o, cap, rfl, hk⟩
set_option maxHeartbeats 4000000 in
theorem sk_lives (S : Mem) : ACall Try.prog 14 #[] S fun r S' => r = .bool true ∧ S' = S := by
  refine ACall.enter (args := []) (rs := [.tmp 0]) 152 [] Try.func14 rfl rfl (Nat.le_of_ble_eq_true rfl) rfl trivial ?_
  refine AWP.seq ?_
  refine AWP.region ?_
  refine rC (Calm.assign rfl) ?_
  refine arun_nil ?_
  refine athen_n ?_
  refine AWP.seq ?_
  refine AWP.region ?_
  refine ARun.buildN (cs := [_, _, _, _, _, _]) (lit_lt rfl) ty_sl_22 rfl rfl rfl rfl ?_
  intro b15 f15
  have g15 := f15
  repeat ((with_reducible replace g15 := fresh_set g15); obtain ⟨g15, _⟩ := g15)
  refine rC (Calm.assign rfl) ?_
  refine arun_nil ?_
  refine athen_n ?_
  refine AWP.sub [(0, _), (1, _)] ⟨rfl, rfl, trivial⟩ ?_
  refine named (S := S) (b := b15) g15.1 ?_
  intro T1 hT1 kb15
  have hl : RowR T1 (.slice (some ⟨b15, 0, none⟩) 6 6) exL := Sl.own1 (g := gU) (l := exL) kb15 List.prefix_rfl rfl (Nat.le_refl _) (by decide)
  refine AWP.seq ?_
  refine AWP.region ?_
  refine rC (Calm.move rfl) ?_
  refine ARun.call (lit_lt rfl) go_15 rfl (sk_Samples _ exL _ hl) ?_
  rintro _ S2 ⟨u2, rfl, hS2, hu2⟩
  rw [ex_smp] at hu2; rw [ex_chk]
  obtain ⟨a2, c2, rfl, _⟩ := id hu2
  replace hl := hl.less hS2
  refine rC (Calm.move rfl) ?_
  refine rC (Calm.extract rfl rfl) ?_
  refine rC (Calm.extract rfl rfl) ?_
  refine rC (Calm.assign rfl) ?_
  refine rC (Calm.assign rfl) ?_
  refine arun_nil ?_
  refine athen_n ?_
  refine AWP.sub [(0, _), (1, _), (2, _), (3, _)] ⟨rfl, rfl, rfl, rfl, trivial⟩ ?_
  refine AWP.seq ?_
  refine AWP.region ?_
  refine rC (Calm.move rfl) ?_
  refine ARun.call (lit_lt rfl) go_17 rfl (sk_Triples _ exL _ hl) ?_
  rintro _ S3 ⟨u3, rfl, hS3, hu3⟩
  rw [ex_tri] at hu3; rw [ex_chk]
  replace hl := hl.less hS3
  replace hu2 := hu2.less hS3
  refine rC (Calm.move rfl) ?_
  refine rC (Calm.extract rfl rfl) ?_
  refine rC (Calm.extract rfl rfl) ?_
  refine rC (Calm.assign rfl) ?_
  refine rC (Calm.assign rfl) ?_
  refine arun_nil ?_
  refine athen_n ?_
  refine AWP.sub [(0, _), (1, _), (2, _), (3, _), (4, _), (5, _)] ⟨rfl, rfl, rfl, rfl, rfl, rfl, trivial⟩ ?_
  refine AWP.seq ?_
  refine AWP.region ?_
  refine rC (Calm.move rfl) ?_
  refine ARun.call (lit_lt rfl) go_19 rfl (sk_Reduce _ exL _ hl) ?_
  rintro _ S4 ⟨u4, rfl, hS4, hu4⟩
  rw [ex_red] at hu4; rw [ex_chk, ex_many]
  obtain ⟨pb4, po4, c4, rfl, k4⟩ := row_at 4 rfl hu4 (by decide)
  replace hl := hl.less hS4
  replace hu2 := hu2.less hS4
  replace hu3 := hu3.less rowR_less hS4
  refine rC (Calm.move rfl) ?_
  refine rC (Calm.extract rfl rfl) ?_
  refine rC (Calm.extract rfl rfl) ?_
  refine rC (Calm.extract rfl rfl) ?_
  refine rC (Calm.assign rfl) ?_
  refine rC (Calm.assign rfl) ?_
  refine rC (Calm.assign rfl) ?_
  refine arun_nil ?_
  refine athen_n ?_
  refine AWP.sub [(0, _), (1, _), (2, _), (3, _), (4, _), (5, _), (6, _), (7, _), (8, _)] ⟨rfl, rfl, rfl, rfl, rfl, rfl, rfl, rfl, rfl, trivial⟩ ?_
  refine AWP.seq ?_
  refine AWP.region ?_
  refine rC (Calm.move rfl) ?_
  refine ARun.call (lit_lt rfl) go_26 rfl (sk_Ends _ exL _ hl) ?_
  rintro _ S5 ⟨u5, rfl, hS5, hu5⟩
  rw [ex_ends] at hu5; rw [ex_chk]
  obtain ⟨a5, c5, rfl, _⟩ := id hu5
  have hS15 := hT1.trans (hS2.trans (hS3.trans (hS4.trans hS5)))
  replace hl := hl.less hS5
  replace hu2 := hu2.less hS5
  replace hu3 := hu3.less rowR_less hS5
  replace k4 := fun i hi => (k4 i hi).less hS5
  refine rC (Calm.move rfl) ?_
  refine rC (Calm.extract rfl rfl) ?_
  refine rC (Calm.extract rfl rfl) ?_
  refine rC (Calm.assign rfl) ?_
  refine rC (Calm.assign rfl) ?_
  refine arun_nil ?_
  refine athen_n ?_
  refine AWP.sub [(0, _), (1, _), (2, _), (3, _), (4, _), (5, _), (6, _), (7, _), (8, _), (9, _), (10, _)] ⟨rfl, rfl, rfl, rfl, rfl, rfl, rfl, rfl, rfl, rfl, rfl, trivial⟩ ?_
  refine AWP.seq ?_
  refine AWP.region ?_
  refine rC (Calm.move rfl) ?_
  refine ARun.buildN (cs := [_, _, _, _]) (lit_lt rfl) ty_sl_24 rfl rfl rfl rfl ?_
  intro b39 f39
  have g39 := f39
  repeat ((with_reducible replace g39 := fresh_set g39); obtain ⟨g39, _⟩ := g39)
  refine ARun.call (lit_lt rfl) go_28 rfl (sk_Expand _ _ exL [0, 3, 2, 1] _ (hl.less (Mem.less_set _ _ _ f39.1)) (Sl.own1 (g := gZ) (l := [0, 3, 2, 1]) (Mem.own_set_same _ _ _) List.prefix_rfl rfl (Nat.le_refl _) (by decide)) (by decide)) ?_
  rintro _ S6 ⟨u6, rfl, hS6, hu6⟩
  rw [ex_no _ (by decide)] at hu6 ⊢
  obtain ⟨a6, c6, rfl, _⟩ := id hu6
  replace hS6 := (Mem.less_set _ _ _ f39.1).trans hS6
  replace hl := hl.less hS6
  replace hu2 := hu2.less hS6
  replace hu3 := hu3.less rowR_less hS6
  replace k4 := fun i hi => (k4 i hi).less hS6
  replace hu5 := hu5.less hS6
  refine rC (Calm.move rfl) ?_
  refine rC (Calm.extract rfl rfl) ?_
  refine rC (Calm.extract rfl rfl) ?_
  refine rC (Calm.assign rfl) ?_
  refine rC (Calm.assign rfl) ?_
  refine arun_nil ?_
  refine athen_n ?_
  refine AWP.sub [(0, _), (1, _), (2, _), (3, _), (4, _), (5, _), (6, _), (7, _), (8, _), (9, _), (10, _), (11, _), (12, _)] ⟨rfl, rfl, rfl, rfl, rfl, rfl, rfl, rfl, rfl, rfl, rfl, rfl, rfl, trivial⟩ ?_
  refine AWP.seq ?_
  refine AWP.region ?_
  refine rC (Calm.move rfl) ?_
  refine ARun.buildN (cs := [_, _, _, _]) (lit_lt rfl) ty_sl_24 rfl rfl rfl rfl ?_
  intro b45 f45
  have g45 := f45
  repeat ((with_reducible replace g45 := fresh_set g45); obtain ⟨g45, _⟩ := g45)
  refine ARun.call (lit_lt rfl) go_28 rfl (sk_Expand _ _ exL [0, 1, 2, 3] _ (hl.less (Mem.less_set _ _ _ f45.1)) (Sl.own1 (g := gZ) (l := [0, 1, 2, 3]) (Mem.own_set_same _ _ _) List.prefix_rfl rfl (Nat.le_refl _) (by decide)) (by decide)) ?_
  rintro _ S7 ⟨u7, rfl, hS7, hu7⟩
  rw [ex_no _ (by decide)] at hu7 ⊢
  obtain ⟨a7, c7, rfl, _⟩ := id hu7
  replace hS7 := (Mem.less_set _ _ _ f45.1).trans hS7
  replace hu2 := hu2.less hS7
  replace hu3 := hu3.less rowR_less hS7
  replace k4 := fun i hi => (k4 i hi).less hS7
  replace hu5 := hu5.less hS7
  have hSS := hS15.trans (hS6.trans hS7)
  obtain ⟨pb3, po3, c3, rfl, u33, k3, hu33⟩ := rows_at 4 rfl hu3 3 (by decide)
  obtain ⟨pb33, po33, c33, rfl, k33⟩ := row_at 3 rfl hu33 (by decide)
  have k330 : Mem.Knows _ ⟨pb33, po33 + 0 * 1, none⟩ [.int .u64 1] := k33 0 (by decide)
  have k331 : Mem.Knows _ ⟨pb33, po33 + 1 * 1, none⟩ [.int .u64 0] := k33 1 (by decide)
  have k40 : Mem.Knows _ ⟨pb4, po4 + 0 * 1, none⟩ [.int .u64 2] := k4 0 (by decide)
  have k41 : Mem.Knows _ ⟨pb4, po4 + 1 * 1, none⟩ [.int .u64 3] := k4 1 (by decide)
  have k42 : Mem.Knows _ ⟨pb4, po4 + 2 * 1, none⟩ [.int .u64 4] := k4 2 (by decide)
  have k43 : Mem.Knows _ ⟨pb4, po4 + 3 * 1, none⟩ [.int .u64 1] := k4 3 (by decide)
  refine rC (Calm.move rfl) ?_
  refine rC (Calm.extract rfl rfl) ?_
  refine rC (Calm.extract rfl rfl) ?_
  refine rC (Calm.assign rfl) ?_
  refine rC (Calm.assign rfl) ?_
  refine arun_nil ?_
  refine athen_n ?_
  refine AWP.sub [(0, _), (1, _), (2, _), (3, _), (4, _), (5, _), (6, _), (7, _), (8, _), (9, _), (10, _), (11, _), (12, _), (14, _)] ⟨rfl, rfl, rfl, rfl, rfl, rfl, rfl, rfl, rfl, rfl, rfl, rfl, rfl, rfl, trivial⟩ ?_
  refine AWP.seq ?_
  refine AWP.region ?_
  refine rC (Calm.move rfl) ?_
  refine ARun.buildN (cs := [_, _, _, _]) (lit_lt rfl) ty_sl_24 rfl rfl rfl rfl ?_
  intro b50 f50
  have g50 := f50
  repeat ((with_reducible replace g50 := fresh_set g50); obtain ⟨g50, _⟩ := g50)
  refine ARun.call (lit_lt rfl) go_21 rfl (si_SameNumbers [1, 4, 2, 5] [1, 4, 2, 5] _ _ _ (idx_ints (hu2.less (Mem.less_set _ _ _ f50.1))) (Sl.own1 (g := gZ) (l := [1, 4, 2, 5]) (Mem.own_set_same _ _ _) List.prefix_rfl rfl (Nat.le_refl _) (by decide))) ?_
  rintro _ S8 ⟨rfl, e1⟩
  rw [e1, decide_eq_true (Eq.refl _)]; clear e1 S8
  refine rC (Calm.move rfl) ?_
  first | refine rS 52 ?_ | refine rU 52 ?_ | refine rG 52 (Calm.move rfl) ?_
  first | refine rS 52 ?_ | refine rU 52 ?_ | refine rG 52 (Calm.bin rfl rfl b_eql) ?_
  refine rC ((by first | exact Calm.pickT rfl rfl | exact Calm.pickF rfl rfl)) ?_
  refine rC (Calm.move rfl) ?_
  first | refine rS 56 ?_ | refine rU 56 ?_ | refine rG 56 (Calm.move rfl) ?_
  first | refine rS 56 ?_ | refine rU 56 ?_ | refine rG 56 (Calm.lenSl Try.underlying28 rfl) ?_
  first | refine rS 56 ?_ | refine rU 56 ?_ | refine rG 56 (Calm.bin rfl rfl b_eql) ?_
  refine rC ((by first | exact Calm.pickT rfl rfl | exact Calm.pickF rfl rfl)) ?_
  refine rC (Calm.move rfl) ?_
  first | refine rS 61 ?_ | refine rU 61 ?_ | refine rG 61 (Calm.move rfl) ?_
  first | refine rS 61 ?_ | refine rU 61 ?_ | refine rG 61 (Calm.indexS Try.underlying28 ty_size_22 rfl rfl (by omega) (by omega)) ?_
  first | refine rS 61 ?_ | refine rU 61 ?_ | refine rG 61 (ld_ ty_plain_22 rfl) ?_
  first | refine rS 61 ?_ | refine rU 61 ?_ | refine rG 61 (Calm.lenSl Try.underlying22 rfl) ?_
  first | refine rS 61 ?_ | refine rU 61 ?_ | refine rG 61 (Calm.bin rfl rfl b_eql) ?_
  refine rC ((by first | exact Calm.pickT rfl rfl | exact Calm.pickF rfl rfl)) ?_
  refine rC (Calm.move rfl) ?_
  first | refine rS 68 ?_ | refine rU 68 ?_ | refine rG 68 (Calm.move rfl) ?_
  first | refine rS 68 ?_ | refine rU 68 ?_ | refine rG 68 (Calm.indexS Try.underlying28 ty_size_22 rfl rfl (by omega) (by omega)) ?_
  first | refine rS 68 ?_ | refine rU 68 ?_ | refine rG 68 (ld_ ty_plain_22 rfl) ?_
  first | refine rS 68 ?_ | refine rU 68 ?_ | refine rG 68 (Calm.indexS Try.underlying22 ty_size_41 rfl rfl (by omega) (by omega)) ?_
  first | refine rS 68 ?_ | refine rU 68 ?_ | refine rG 68 (ld_ ty_plain_41 rfl) ?_
  first | refine rS 68 ?_ | refine rU 68 ?_ | refine rG 68 (Calm.bin rfl rfl b_eql) ?_
  refine rC ((by first | exact Calm.pickT rfl rfl | exact Calm.pickF rfl rfl)) ?_
  refine rC (Calm.move rfl) ?_
  first | refine rS 76 ?_ | refine rU 76 ?_ | refine rG 76 (Calm.move rfl) ?_
  first | refine rS 76 ?_ | refine rU 76 ?_ | refine rG 76 (Calm.indexS Try.underlying28 ty_size_22 rfl rfl (by omega) (by omega)) ?_
  first | refine rS 76 ?_ | refine rU 76 ?_ | refine rG 76 (ld_ ty_plain_22 rfl) ?_
  first | refine rS 76 ?_ | refine rU 76 ?_ | refine rG 76 (Calm.indexS Try.underlying22 ty_size_41 rfl rfl (by omega) (by omega)) ?_
  first | refine rS 76 ?_ | refine rU 76 ?_ | refine rG 76 (ld_ ty_plain_41 rfl) ?_
  first | refine rS 76 ?_ | refine rU 76 ?_ | refine rG 76 (Calm.bin rfl rfl b_eql) ?_
  refine rC ((by first | exact Calm.pickT rfl rfl | exact Calm.pickF rfl rfl)) ?_
  refine rC (Calm.move rfl) ?_
  first | refine rS 84 ?_ | refine rU 84 ?_ | refine rG 84 (Calm.move rfl) ?_
  first | refine rS 84 ?_ | refine rU 84 ?_ | refine rG 84 (Calm.bin rfl rfl b_eql) ?_
  refine rC ((by first | exact Calm.pickT rfl rfl | exact Calm.pickF rfl rfl)) ?_
  refine rC (Calm.move rfl) ?_
  first | refine rS 88 ?_ | refine rU 88 ?_ | refine rG 88 (Calm.move rfl) ?_
  first | refine rS 88 ?_ | refine rU 88 ?_ | refine rG 88 (Calm.lenSl Try.underlying22 rfl) ?_
  first | refine rS 88 ?_ | refine rU 88 ?_ | refine rG 88 (Calm.bin rfl rfl b_eql) ?_
  refine rC ((by first | exact Calm.pickT rfl rfl | exact Calm.pickF rfl rfl)) ?_
  refine rC (Calm.move rfl) ?_
  first | refine rS 93 ?_ | refine rU 93 ?_ | refine rG 93 (Calm.move rfl) ?_
  first | refine rS 93 ?_ | refine rU 93 ?_ | refine rG 93 (Calm.indexS Try.underlying22 ty_size_41 rfl rfl (by omega) (by omega)) ?_
  first | refine rS 93 ?_ | refine rU 93 ?_ | refine rG 93 (ld_ ty_plain_41 rfl) ?_
  first | refine rS 93 ?_ | refine rU 93 ?_ | refine rG 93 (Calm.bin rfl rfl b_eql) ?_
  refine rC ((by first | exact Calm.pickT rfl rfl | exact Calm.pickF rfl rfl)) ?_
  refine rC (Calm.move rfl) ?_
  first | refine rS 99 ?_ | refine rU 99 ?_ | refine rG 99 (Calm.move rfl) ?_
  first | refine rS 99 ?_ | refine rU 99 ?_ | refine rG 99 (Calm.indexS Try.underlying22 ty_size_41 rfl rfl (by omega) (by omega)) ?_
  first | refine rS 99 ?_ | refine rU 99 ?_ | refine rG 99 (ld_ ty_plain_41 rfl) ?_
  first | refine rS 99 ?_ | refine rU 99 ?_ | refine rG 99 (Calm.bin rfl rfl b_eql) ?_
  refine rC ((by first | exact Calm.pickT rfl rfl | exact Calm.pickF rfl rfl)) ?_
  refine rC (Calm.move rfl) ?_
  first | refine rS 105 ?_ | refine rU 105 ?_ | refine rG 105 (Calm.move rfl) ?_
  first | refine rS 105 ?_ | refine rU 105 ?_ | refine rG 105 (Calm.indexS Try.underlying22 ty_size_41 rfl rfl (by omega) (by omega)) ?_
  first | refine rS 105 ?_ | refine rU 105 ?_ | refine rG 105 (ld_ ty_plain_41 rfl) ?_
  first | refine rS 105 ?_ | refine rU 105 ?_ | refine rG 105 (Calm.bin rfl rfl b_eql) ?_
  refine rC ((by first | exact Calm.pickT rfl rfl | exact Calm.pickF rfl rfl)) ?_
  refine rC (Calm.move rfl) ?_
  first | refine rS 111 ?_ | refine rU 111 ?_ | refine rG 111 (Calm.move rfl) ?_
  first | refine rS 111 ?_ | refine rU 111 ?_ | refine rG 111 (Calm.indexS Try.underlying22 ty_size_41 rfl rfl (by omega) (by omega)) ?_
  first | refine rS 111 ?_ | refine rU 111 ?_ | refine rG 111 (ld_ ty_plain_41 rfl) ?_
  first | refine rS 111 ?_ | refine rU 111 ?_ | refine rG 111 (Calm.bin rfl rfl b_eql) ?_
  refine rC ((by first | exact Calm.pickT rfl rfl | exact Calm.pickF rfl rfl)) ?_
  refine rC (Calm.move rfl) ?_
  first | refine rS 117 ?_ | refine rU 117 ?_ | refine rG 117 (Calm.move rfl) ?_
  first | refine rS 117 ?_ | refine rU 117 ?_ | refine rG 117 (Calm.bin rfl rfl b_eql) ?_
  refine rC ((by first | exact Calm.pickT rfl rfl | exact Calm.pickF rfl rfl)) ?_
  refine rC (Calm.move rfl) ?_
  first | refine rS 121 ?_ | refine rU 121 ?_ | refine rG 121 (Calm.move rfl) ?_
  first | refine rS 121 ?_ | refine rU 121 ?_ | refine rG 121 (Calm.bin rfl rfl b_eql) ?_
  refine rC ((by first | exact Calm.pickT rfl rfl | exact Calm.pickF rfl rfl)) ?_
  refine rC (Calm.move rfl) ?_
  first | refine rS 125 ?_ | refine rU 125 ?_ | refine rG 125 (Calm.move rfl) ?_
  refine rUn 125 ?_
  refine ARun.buildN (cs := [_, _, _, _, _, _]) (lit_lt rfl) ty_sl_24 rfl rfl rfl rfl ?_
  intro b127 f127
  have g127 := f127
  repeat ((with_reducible replace g127 := fresh_set g127); obtain ⟨g127, _⟩ := g127)
  refine ARun.callG 76 true 125 rfl (lit_lt rfl) rfl (lit_lt rfl) go_21 rfl (si_SameNumbers [5, 3, 1, 0, 4, 2] [5, 3, 1, 0, 4, 2] _ _ _ (idx_ints (hu5.less less_)) (Sl.own1 (g := gZ) (l := [5, 3, 1, 0, 4, 2]) own_ List.prefix_rfl rfl (Nat.le_refl _) (by decide))) ?_
  rintro _ S8 ⟨rfl, e1⟩
  rw [e1, decide_eq_true (Eq.refl _)]; clear e1 S8
  refine rC ((by first | exact Calm.pickT rfl rfl | exact Calm.pickF rfl rfl)) ?_
  refine rC (Calm.move rfl) ?_
  first | refine rS 130 ?_ | refine rU 130 ?_ | refine rG 130 (Calm.move rfl) ?_
  first | refine rS 130 ?_ | refine rU 130 ?_ | refine rG 130 (Calm.bin rfl rfl b_eql) ?_
  refine rC ((by first | exact Calm.pickT rfl rfl | exact Calm.pickF rfl rfl)) ?_
  refine rC (Calm.move rfl) ?_
  first | refine rS 134 ?_ | refine rU 134 ?_ | refine rG 134 (Calm.move rfl) ?_
  first | refine rS 134 ?_ | refine rU 134 ?_ | refine rG 134 (Calm.bin rfl rfl b_eql) ?_
  first | refine rS 134 ?_ | refine rU 134 ?_ | refine rG 134 (Calm.move rfl) ?_
  first | refine rS 137 ?_ | refine rU 137 ?_ | refine rG 137 (Calm.move rfl) ?_
  first | refine rS 137 ?_ | refine rU 137 ?_ | refine rG 137 (Calm.move rfl) ?_
  first | refine rS 137 ?_ | refine rU 137 ?_
  first | refine rS 134 ?_ | refine rU 134 ?_ | refine rG 134 ((by first | exact Calm.pickT rfl rfl | exact Calm.pickF rfl rfl)) ?_
  refine rC ((by first | exact Calm.pickT rfl rfl | exact Calm.pickF rfl rfl)) ?_
  refine rC (Calm.move rfl) ?_
  first | refine rS 143 ?_ | refine rU 143 ?_ | refine rG 143 (Calm.move rfl) ?_
  first | refine rS 143 ?_ | refine rU 143 ?_ | refine rG 143 (Calm.bin rfl rfl b_eql) ?_
  refine rC ((by first | exact Calm.pickT rfl rfl | exact Calm.pickF rfl rfl)) ?_
  refine rC (Calm.move rfl) ?_
  refine rUn 147 ?_
  refine ARun.build1s (lit_lt rfl) ty_sl_22 rfl rfl ?_
  intro b148 f148
  have g148 := f148
  repeat ((with_reducible replace g148 := fresh_set g148); obtain ⟨g148, _⟩ := g148)
  refine ARun.callG 98 true 147 rfl (lit_lt rfl) rfl (lit_lt rfl) go_24 rfl (sk_Check _ [0] _ (Sl.own1 (g := gU) (l := [0]) own_ List.prefix_rfl rfl (Nat.le_refl _) (by decide))) ?_
  rintro _ S8 ⟨rfl, e1⟩
  rw [e1, ex_bad0]; clear e1 S8
  first | refine rS 147 ?_ | refine rU 147 ?_ | refine rG 147 (Calm.bin rfl rfl b_eql) ?_
  refine rC ((by first | exact Calm.pickT rfl rfl | exact Calm.pickF rfl rfl)) ?_
  refine rC (Calm.assign rfl) ?_
  refine arun_nil ?_
  refine athen_n ?_
  refine AWP.sub [(0, _), (1, _), (2, _), (3, _), (4, _), (5, _), (6, _), (7, _), (8, _), (9, _), (10, _), (11, _), (12, _), (14, _)] ⟨rfl, rfl, rfl, rfl, rfl, rfl, rfl, rfl, rfl, rfl, rfl, rfl, rfl, rfl, trivial⟩ ?_
  refine AWP.ret ?_
  refine ⟨_, S, ⟨_, _, rfl, rfl, rfl⟩, hSS.trans less_, ?_⟩
  exact ⟨rfl, rfl⟩
end Go.Proofs.Ytgidjbpgkeemiaa
namespace Go.Proofs.Ytgidjbpgkeemiaa
open Go.RowKit
open Mv Num Loser Srt
set_option linter.unusedVariables false
set_option linter.unusedSimpArgs false
set_option maxRecDepth 4000
/-- What a place's number so far behind is ranked, and one. -/
def bhd (r : List Nat) (k a : Nat) : Nat := Ord.beh r.length (fun j => r.getD j 0) k a
def cfD (r : List Nat) (k a b : Nat) : Int := orL [cmpZ (r.getD a 0 : Nat) (r.getD b 0 : Nat), cmpZ (bhd r k a : Nat) (bhd r k b : Nat)]
theorem cfD_neg (r : List Nat) (k a b : Nat) : cfD r k a b < 0 ↔ r.getD a 0 < r.getD b 0 ∨ r.getD a 0 = r.getD b 0 ∧ bhd r k a < bhd r k b := by
  unfold cfD orL orL orL
  have h1 := cmpZ_neg (r.getD a 0 : Nat) (r.getD b 0 : Nat)
  have h2 := cmpZ_zero (r.getD a 0 : Nat) (r.getD b 0 : Nat)
  have h3 := cmpZ_neg (bhd r k a : Nat) (bhd r k b : Nat)
  have h4 := cmpZ_zero (bhd r k a : Nat) (bhd r k b : Nat)
  split
  · split <;> omega
  · omega
theorem od_behind (ii : Int) (a k c1 c2 : Nat) (ei : ii = a) (vr : Value) (r : List Nat) (S : Mem) (h1 : S.Knows ⟨c1, 0, none⟩ [.int .i64 (k : Int)]) (h2 : S.Knows ⟨c2, 0, none⟩ [vr]) (hr : IdxR S vr r) (ha : a ≤ 8192) (hk : k ≤ 8192) (hb : ∀ x ∈ r, x ≤ 8192) :
    ACall Try.prog 157 #[.int .i64 ii, .pointer (some ⟨c1, 0, none⟩), .pointer (some ⟨c2, 0, none⟩)] S fun v S' => v = .int .i64 (bhd r k a : Nat) ∧ S' = S := by
  subst ei
  obtain ⟨ra, rc, rfl, r1, r2, r3⟩ := id hr
  unfold bhd Ord.beh
  by_cases h : a + k < r.length
  · rw [if_pos h]
    dsimp only
    obtain ⟨rb, ro, rfl, hkn⟩ := r3.resolve_left (fun e => by rw [e] at h; exact absurd h (Nat.not_lt_zero _))
    have hx := hb _ (List.getElem_mem h)
    have k1 : S.Knows ⟨rb, ro + (a + k) * 1, none⟩ [.int .i64 (r.getD (a + k) 0 : Nat)] := by rw [getD_get r _ 0 h]; exact hkn _ h
    rw [← getD_get r _ 0 h] at hx
    generalize r.getD (a + k) 0 = x at *
    refine ACall.enter (args := [.int .i64 (a : Int), .pointer (some ⟨c1, 0, none⟩), .pointer (some ⟨c2, 0, none⟩)]) (rs := [.tmp 4]) 18 [(0, .int .i64 (a : Int)), (1, .pointer (some ⟨c1, 0, none⟩)), (2, .pointer (some ⟨c2, 0, none⟩))] Try.func157 rfl rfl (Nat.le_of_ble_eq_true rfl) rfl ⟨rfl, rfl, rfl, trivial⟩ ?_
    refine AWP.seq ?_
    refine AWP.region ?_
    refine rC (Calm.assign rfl) ?_
    refine arun_nil ?_
    refine athen_n ?_
    refine AWP.seq ?_
    refine AWP.seq ?_
    refine AWP.region ?_
    refine rC (Calm.move rfl) ?_
    refine rC (ld_ ty_plain_3 rfl) ?_
    refine rC (Calm.bin rfl rfl b_add_i64) ?_
    refine rC (ld_ ty_plain_24 rfl) ?_
    refine rC (Calm.lenSl Try.underlying24 rfl) ?_
    refine rC (Calm.bin rfl rfl b_lss) ?_
    refine arun_nil ?_
    refine athen_n ?_
    refine AWP.sub [(0, _), (1, _), (2, _), (4, _), (10, _)] ⟨rfl, rfl, rfl, rfl, rfl, trivial⟩ ?_
    refine AWP.condT rfl (by first | rfl | (simp; done) | (simp; omega)) ?_
    refine AWP.seq ?_
    refine AWP.region ?_
    refine rC (ld_ ty_plain_24 rfl) ?_
    refine rC (Calm.move rfl) ?_
    refine rC (ld_ ty_plain_3 rfl) ?_
    refine rC (Calm.bin rfl rfl b_add_i64) ?_
    refine rC (Calm.indexS Try.underlying24 ty_size_3 rfl rfl (by omega) (by omega)) ?_
    refine rC (ld_ ty_plain_3 rfl) ?_
    refine rC (Calm.bin rfl rfl b_add_i64) ?_
    refine rC (Calm.assign rfl) ?_
    refine arun_nil ?_
    refine athen_n ?_
    refine AWP.sub [(0, _), (1, _), (2, _), (4, _), (10, _)] ⟨rfl, rfl, rfl, rfl, rfl, trivial⟩ ?_
    refine AWP.ret ?_
    refine athen_ret ?_
    refine ⟨_, S, ⟨_, _, rfl, rfl, rfl⟩, less_, ?_⟩
    exact ⟨rfl, rfl⟩
  · rw [if_neg h]
    refine ACall.enter (args := [.int .i64 (a : Int), .pointer (some ⟨c1, 0, none⟩), .pointer (some ⟨c2, 0, none⟩)]) (rs := [.tmp 4]) 18 [(0, .int .i64 (a : Int)), (1, .pointer (some ⟨c1, 0, none⟩)), (2, .pointer (some ⟨c2, 0, none⟩))] Try.func157 rfl rfl (Nat.le_of_ble_eq_true rfl) rfl ⟨rfl, rfl, rfl, trivial⟩ ?_
    refine AWP.seq ?_
    refine AWP.region ?_
    refine rC (Calm.assign rfl) ?_
    refine arun_nil ?_
    refine athen_n ?_
    refine AWP.seq ?_
    refine AWP.seq ?_
    refine AWP.region ?_
    refine rC (Calm.move rfl) ?_
    refine rC (ld_ ty_plain_3 rfl) ?_
    refine rC (Calm.bin rfl rfl b_add_i64) ?_
    refine rC (ld_ ty_plain_24 rfl) ?_
    refine rC (Calm.lenSl Try.underlying24 rfl) ?_
    refine rC (Calm.bin rfl rfl b_lss) ?_
    refine arun_nil ?_
    refine athen_n ?_
    refine AWP.sub [(0, _), (1, _), (2, _), (4, _), (10, _)] ⟨rfl, rfl, rfl, rfl, rfl, trivial⟩ ?_
    refine AWP.condF rfl (by first | rfl | (simp; done) | (simp; omega)) ?_
    refine AWP.skip ?_
    refine athen_n ?_
    refine AWP.seq ?_
    refine AWP.region ?_
    refine rC (Calm.assign rfl) ?_
    refine arun_nil ?_
    refine athen_n ?_
    refine AWP.ret ?_
    refine ⟨_, S, ⟨_, _, rfl, rfl, rfl⟩, less_, ?_⟩
    exact ⟨rfl, rfl⟩
def behF (c5 c4 : Nat) : Value := .func (.func 157) #[] #[.pointer (some ⟨c5, 0, none⟩), .pointer (some ⟨c4, 0, none⟩)]
set_option maxHeartbeats 2000000 in
theorem od_cmp (a b k c4 c5 c7 : Nat) (vr : Value) (r : List Nat) (S : Mem) (h4 : S.Knows ⟨c4, 0, none⟩ [vr]) (h5 : S.Knows ⟨c5, 0, none⟩ [.int .i64 (k : Int)]) (h7 : S.Knows ⟨c7, 0, none⟩ [behF c5 c4]) (hr : IdxR S vr r) (ha : a < r.length) (hb : b < r.length) (hrl : r.length ≤ 4096) (hk : k ≤ 8192) (hbd : ∀ x ∈ r, x ≤ 8192) :
    ACall Try.prog 158 #[gI a, gI b, .pointer (some ⟨c4, 0, none⟩), .pointer (some ⟨c7, 0, none⟩)] S fun v S' => v = .int .i64 (cfD r k a b) ∧ S' = S := by
  unfold gI behF at *
  obtain ⟨ra, rc, rfl, r1, r2, r3⟩ := id hr
  obtain ⟨rb, ro, rfl, hkn⟩ := r3.resolve_left (fun e => by rw [e] at ha; exact absurd ha (Nat.not_lt_zero _))
  have k1 : S.Knows ⟨rb, ro + a * 1, none⟩ [.int .i64 (r.getD a 0 : Nat)] := by rw [getD_get r _ 0 ha]; exact hkn _ ha
  have k2 : S.Knows ⟨rb, ro + b * 1, none⟩ [.int .i64 (r.getD b 0 : Nat)] := by rw [getD_get r _ 0 hb]; exact hkn _ hb
  refine ACall.enter (args := [.int .i64 (a : Int), .int .i64 (b : Int), .pointer (some ⟨c4, 0, none⟩), .pointer (some ⟨c7, 0, none⟩)]) (rs := [.tmp 6]) 25 [(0, .int .i64 (a : Int)), (1, .int .i64 (b : Int)), (2, .pointer (some ⟨c4, 0, none⟩)), (3, .pointer (some ⟨c7, 0, none⟩))] Try.func158 rfl rfl (Nat.le_of_ble_eq_true rfl) rfl ⟨rfl, rfl, rfl, rfl, trivial⟩ ?_
  refine AWP.seq ?_
  refine AWP.region ?_
  refine rC (Calm.assign rfl) ?_
  refine arun_nil ?_
  refine athen_n ?_
  refine AWP.seq ?_
  refine AWP.draw [(0, true), (1, true), (2, true), (3, true), (4, true), (5, true), (6, true), (7, true), (9, true), (10, true), (12, true), (13, true), (8, false), (11, false), (14, false), (15, false), (16, false), (17, false), (18, true)] [] mixed (by kernel_rfl) ?_
  refine dC (hc := ld_ ty_plain_24 rfl) (h := ?_)
  refine dP (hc := fun _ => Calm.move rfl) (h := ?_)
  refine dP (hc := fun _ => Calm.indexS Try.underlying24 ty_size_3 rfl rfl (by omega) (by omega)) (h := ?_)
  refine dC (hc := ld_ ty_plain_3 rfl) (h := ?_)
  refine dC (hc := ld_ ty_plain_24 rfl) (h := ?_)
  refine dP (hc := fun _ => Calm.move rfl) (h := ?_)
  refine dP (hc := fun _ => Calm.indexS Try.underlying24 ty_size_3 rfl rfl (by omega) (by omega)) (h := ?_)
  refine dC (hc := ld_ ty_plain_3 rfl) (h := ?_)
  refine dC (hc := ld_ ty_plain_105 rfl) (h := ?_)
  refine dP (hc := fun _ => Calm.move rfl) (h := ?_)
  refine dC (hc := ld_ ty_plain_105 rfl) (h := ?_)
  refine dP (hc := fun _ => Calm.move rfl) (h := ?_)
  refine draw_only rfl ?_
  refine ARun.call (lit_lt rfl) go_95 rfl (si_cmp (r.getD a 0 : Nat) (r.getD b 0 : Nat) _) ?_
  rintro _ S1 ⟨rfl, e1⟩
  rw [e1]; clear e1 S1
  refine arun_nil ⟨fun _ => less_, ?_⟩
  refine draw_only rfl ?_
  refine ARun.callV (lit_lt rfl) go_157 rfl rfl (od_behind _ a k c5 c4 rfl _ r _ h5 h4 hr (by omega) hk hbd) ?_
  rintro _ S1 ⟨rfl, e1⟩
  rw [e1]; clear e1 S1
  refine arun_nil ⟨fun _ => less_, ?_⟩
  refine draw_only rfl ?_
  refine ARun.callV (lit_lt rfl) go_157 rfl rfl (od_behind _ b k c5 c4 rfl _ r _ h5 h4 hr (by omega) hk hbd) ?_
  rintro _ S1 ⟨rfl, e1⟩
  rw [e1]; clear e1 S1
  refine arun_nil ⟨fun _ => less_, ?_⟩
  refine draw_only rfl ?_
  refine ARun.call (lit_lt rfl) go_95 rfl (si_cmp (bhd r k a : Nat) (bhd r k b : Nat) _) ?_
  rintro _ S1 ⟨rfl, e1⟩
  rw [e1]; clear e1 S1
  refine arun_nil ⟨fun _ => less_, ?_⟩
  refine draw_only rfl ?_
  refine ARun.buildN (cs := [_, _]) (lit_lt rfl) ty_sl_24 rfl rfl rfl rfl ?_
  intro b23 f23
  have g23 := f23
  repeat ((with_reducible replace g23 := fresh_set g23); obtain ⟨g23, _⟩ := g23)
  refine arun_nil ⟨fun _ => less_, ?_⟩
  refine draw_only rfl ?_
  refine ARun.call (lit_lt rfl) go_93 rfl (si_Or _ _ _ (sl_own2 own_)) ?_
  rintro _ _ ⟨rfl, rfl⟩
  refine arun_nil ⟨fun _ => less_, ?_⟩
  refine dP (hc := fun _ => Calm.assign rfl) (h := ?_)
  refine draw_nil ?_
  refine athen_n ?_
  refine AWP.sub [(0, _), (1, _), (2, _), (3, _), (6, _)] ⟨rfl, rfl, rfl, rfl, rfl, trivial⟩ ?_
  refine AWP.ret ?_
  refine ⟨_, S, ⟨_, _, rfl, rfl, rfl⟩, less_, ?_⟩
  exact ⟨rfl, rfl⟩
end Go.Proofs.Ytgidjbpgkeemiaa
