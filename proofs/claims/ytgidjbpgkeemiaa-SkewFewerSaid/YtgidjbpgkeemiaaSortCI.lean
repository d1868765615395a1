/-
  Sorting: the walks of pdqsort's functions CmpFunc[int], printed by sort-gen.py.
-/
import Derived.Test.YtgidjbpgkeemiaaTypes
import Derived.Test.YtgidjbpgkeemiaaSortX
namespace Go.Proofs.Ytgidjbpgkeemiaa
open Go.RowKit
open Mv Srt
open Go.Sort (swp insInner insOuter insertionSort siftDown heapBuild heapPop heapSort scanUp scanDown partLoop partition partEqLoop partitionEqual scanSorted shiftDown shiftUp partialIns partialInsertionSort order2 median medianAdjacent choosePivot reverseLoop reverseRange breakStep breakPatterns pdq bitsLen xorNext Hint)
set_option linter.unusedVariables false
set_option linter.unusedSimpArgs false
set_option maxRecDepth 4000
set_option maxHeartbeats 4000000 in
theorem soC_ins {α : Type} [Inhabited α] {enc : α → Value} {cf : α → α → Int} {okP : α → Prop} {g : Nat} {cb : List Value} {S : Mem} (C : CmpC Try.prog enc cf okP g cb S) (b room n cap : Nat) (hb : Fresh S b) (hn : n ≤ 1048576) (d : Array α) (R : Rw okP n d) (ia ie : Int) (a e : Nat) (ha : ia = a) (he : ie = e) (han : a ≤ n) (hen : e ≤ n) :
    ACall Try.prog 167 #[.slice (some ⟨b, 0, none⟩) n cap, .int .i64 ia, .int .i64 ie, .func (.func g) #[] cb.toArray] (S.set b ⟨3, (d).toList.map enc, room⟩) fun r S' => S' = S.set b ⟨3, (insertionSort (lq cf) d a e).toList.map enc, room⟩ ∧ Rw okP n (insertionSort (lq cf) d a e) := by
  subst ha he
  refine ACall.enter (args := [.slice (some ⟨b, 0, none⟩) n cap, .int .i64 a, .int .i64 e, .func (.func g) #[] cb.toArray]) (rs := []) 53 [(0, .slice (some ⟨b, 0, none⟩) n cap), (1, .int .i64 a), (2, .int .i64 e), (3, .func (.func g) #[] cb.toArray)] Try.func167 rfl rfl (Nat.le_of_ble_eq_true rfl) rfl ⟨rfl, rfl, rfl, rfl, trivial⟩ ?_
  refine AWP.seq ?_
  refine AWP.region ?_
  refine rC (Calm.move rfl) ?_
  refine rC (Calm.bin rfl rfl b_add_i64) ?_
  refine rC (Calm.assign rfl) ?_
  refine arun_nil ?_
  refine athen_n ?_
  refine AWP.sub [(0, _), (1, _), (2, _), (3, _), (8, _)] ⟨rfl, rfl, rfl, rfl, rfl, trivial⟩ ?_
  refine AWP.block ?_
  refine AWP.loop (X := Nat × Array α) (fun x => [(0, .slice (some ⟨b, 0, none⟩) n cap), (1, .int .i64 a), (2, .int .i64 e), (3, .func (.func g) #[] cb.toArray), (8, .int .i64 x.1)]) (fun x => S.set b ⟨3, (x.2).toList.map enc, room⟩) (fun x => a < x.1 ∧ (x.1 ≤ n ∨ e ≤ x.1) ∧ Rw okP n x.2 ∧ insOuter (lq cf) a e x.1 x.2 = insertionSort (lq cf) d a e) (fun x => e - x.1) ((a + 1, d)) ⟨sb_, sb_, sb_, sb_, sb_, trivial⟩ (Mem.Less.refl _) (⟨by omega, by omega, R, rfl⟩) ?_
  rintro ⟨i, d1⟩ ⟨h1, h2, R1, h3⟩
  (try dsimp only at *)
  have z1 := R1.size
  by_cases hi : i < e
  · refine AWP.seq ?_
    refine AWP.seq ?_
    refine AWP.region ?_
    refine rC (Calm.move rfl) ?_
    refine rC (Calm.move rfl) ?_
    refine rC (Calm.bin rfl rfl b_lss) ?_
    refine arun_nil ?_
    refine athen_n ?_
    refine AWP.sub [(0, _), (1, _), (2, _), (3, _), (8, _), (14, _)] ⟨rfl, rfl, rfl, rfl, rfl, rfl, trivial⟩ ?_
    refine AWP.condT rfl (by first | rfl | (simp; done) | (simp; omega)) ?_
    refine AWP.skip ?_
    refine athen_n ?_
    refine AWP.seq ?_
    refine AWP.block ?_
    refine AWP.seq ?_
    refine AWP.region ?_
    refine rC (Calm.move rfl) ?_
    refine rC (Calm.assign rfl) ?_
    refine arun_nil ?_
    refine athen_n ?_
    refine AWP.sub [(0, _), (1, _), (2, _), (3, _), (8, _), (14, _), (9, _)] ⟨rfl, rfl, rfl, rfl, rfl, rfl, rfl, trivial⟩ ?_
    refine AWP.block ?_
    refine AWP.loop (X := Nat × Array α) (fun x => [(0, .slice (some ⟨b, 0, none⟩) n cap), (1, .int .i64 a), (2, .int .i64 e), (3, .func (.func g) #[] cb.toArray), (8, .int .i64 i), (9, .int .i64 x.1)]) (fun x => S.set b ⟨3, (x.2).toList.map enc, room⟩) (fun x => x.1 ≤ i ∧ Rw okP n x.2 ∧ insInner (lq cf) a x.1 x.2 = insInner (lq cf) a i d1) (fun x => x.1) ((i, d1)) ⟨rfl, rfl, rfl, rfl, rfl, rfl, trivial⟩ (Mem.Less.refl _) (⟨Nat.le_refl _, R1, rfl⟩) ?_
    rintro ⟨j, d2⟩ ⟨k1, R2, k3⟩
    (try dsimp only at *)
    have z2 := R2.size
    have q0 := outer_go (lq cf) (a := a) (d := d1) hi
    by_cases ha : a < j
    · obtain ⟨j, rfl⟩ : ∃ q, j = q + 1 := ⟨j - 1, by omega⟩
      refine AWP.seq ?_
      refine AWP.seq ?_
      refine AWP.draw [(0, true), (1, true), (2, true), (3, true), (4, true), (5, true), (6, true), (7, true), (8, true), (9, true), (10, true), (11, true), (12, true), (13, true), (14, false), (15, true), (16, true)] [] mixed (by kernel_rfl) ?_
      refine dP (hc := fun _ => Calm.move rfl) (h := ?_)
      refine dP (hc := fun _ => Calm.move rfl) (h := ?_)
      refine dP (hc := fun _ => Calm.bin rfl rfl b_gtr) (h := ?_)
      refine dP (hc := fun _ => Calm.move rfl) (h := ?_)
      first | refine dS ?_ | refine dU ?_ | refine dG (hc := fun _ => Calm.move rfl) (h := ?_)
      first | refine dS ?_ | refine dU ?_ | refine dG (hc := fun _ => Calm.move rfl) (h := ?_)
      first | refine dS ?_ | refine dU ?_ | refine dG (hc := fun _ => Calm.move rfl) (h := ?_)
      first | refine dS ?_ | refine dU ?_ | refine dG (hc := fun _ => Calm.indexS Try.underlying24 ty_size_3 rfl rfl (by omega) (by omega)) (h := ?_)
      first | refine dS ?_ | refine dU ?_ | refine dL (hc := Calm.load ty_plain_3 rfl (rd_row (k := j + 1) own_ rw_ rw_)) (h := ?_)
      first | refine dS ?_ | refine dU ?_ | refine dG (hc := fun _ => Calm.move rfl) (h := ?_)
      first | refine dS ?_ | refine dU ?_ | refine dG (hc := fun _ => Calm.move rfl) (h := ?_)
      first | refine dS ?_ | refine dU ?_ | refine dG (hc := fun _ => Calm.bin rfl rfl b_sub_i64) (h := ?_)
      first | refine dS ?_ | refine dU ?_ | refine dG (hc := fun _ => Calm.indexS Try.underlying24 ty_size_3 rfl rfl (by omega) (by omega)) (h := ?_)
      first | refine dS ?_ | refine dU ?_ | refine dL (hc := Calm.load ty_plain_3 rfl (rd_row (k := j) own_ rw_ rw_)) (h := ?_)
      refine draw_only rfl ?_
      refine rUn 21 ?_
      refine ARun.callV (first := []) (cap := cb) (lit_lt rfl) C.go rfl rfl (C.call less_ (R2.ok (j + 1) rw_) (R2.ok (j) rw_)) ?_
      rintro _ _ ⟨rfl, rfl⟩
      refine arun_nil ⟨fun _ => less_, ?_⟩
      first | refine dS ?_ | refine dU ?_ | refine dG (hc := fun _ => Calm.bin rfl rfl b_lss) (h := ?_)
      refine dP (hc := fun _ => (by first | exact Calm.pickT rfl rfl | exact Calm.pickF rfl rfl)) (h := ?_)
      refine draw_nil ?_
      refine athen_n ?_
      refine AWP.sub [(0, _), (1, _), (2, _), (3, _), (8, _), (9, _), (34, _)] ⟨rfl, rfl, rfl, rfl, rfl, rfl, rfl, trivial⟩ ?_
      refine AWP.condB rfl (fun hl => ?_) (fun hl => ?_)
      · refine AWP.skip ?_
        refine athen_n ?_
        refine AWP.seq ?_
        refine AWP.block ?_
        refine AWP.draw [(0, true), (1, true), (2, true), (3, true), (4, true), (5, true), (6, true), (7, true), (8, true), (9, true), (10, true), (11, true), (12, true), (13, true), (14, true), (15, false), (16, true), (17, false)] [15, 17] mixed (by kernel_rfl) ?_
        refine dP (hc := fun _ => Calm.move rfl) (h := ?_)
        refine dP (hc := fun _ => Calm.move rfl) (h := ?_)
        refine dP (hc := fun _ => Calm.move rfl) (h := ?_)
        refine dP (hc := fun _ => Calm.move rfl) (h := ?_)
        refine dP (hc := fun _ => Calm.bin rfl rfl b_sub_i64) (h := ?_)
        refine dP (hc := fun _ => Calm.move rfl) (h := ?_)
        refine dP (hc := fun _ => Calm.move rfl) (h := ?_)
        refine dP (hc := fun _ => Calm.bin rfl rfl b_sub_i64) (h := ?_)
        refine dP (hc := fun _ => Calm.indexS Try.underlying24 ty_size_3 rfl rfl (by omega) (by omega)) (h := ?_)
        refine dC (hc := Calm.load ty_plain_3 rfl (rd_row (k := j) own_ rw_ rw_)) (h := ?_)
        refine dP (hc := fun _ => Calm.move rfl) (h := ?_)
        refine dP (hc := fun _ => Calm.move rfl) (h := ?_)
        refine dP (hc := fun _ => Calm.indexS Try.underlying24 ty_size_3 rfl rfl (by omega) (by omega)) (h := ?_)
        refine dC (hc := Calm.load ty_plain_3 rfl (rd_row (k := j + 1) own_ rw_ rw_)) (h := ?_)
        refine dP (hc := fun _ => Calm.indexS Try.underlying24 ty_size_3 rfl rfl (by omega) (by omega)) (h := ?_)
        refine draw_only rfl ?_
        refine ARun.storeRow enc (j + 1) rfl rfl ty_size_3 (C.one _) own_ rw_ rw_ ?_
        (try simp only [Mem.set_set, List.set_cons_zero, List.set_cons_succ, Nat.zero_add, Nat.reduceAdd])
        refine arun_nil ⟨fun h => absurd h (by decide), ?_⟩
        refine dP (hc := fun _ => Calm.indexS Try.underlying24 ty_size_3 rfl rfl (by omega) (by omega)) (h := ?_)
        refine draw_only rfl ?_
        refine ARun.storeRow enc (j) rfl rfl ty_size_3 (C.one _) own_ rw_ rw_ ?_
        (try simp only [Mem.set_set, List.set_cons_zero, List.set_cons_succ, Nat.zero_add, Nat.reduceAdd])
        refine arun_nil ⟨fun h => absurd h (by decide), ?_⟩
        refine draw_nil ?_
        refine ain_n ?_
        refine athen_n ?_
        refine AWP.sub [(0, _), (1, _), (2, _), (3, _), (8, _), (9, _), (34, _)] ⟨rfl, rfl, rfl, rfl, rfl, rfl, rfl, trivial⟩ ?_
        refine AWP.region ?_
        refine rC (Calm.move rfl) ?_
        refine rC (Calm.bin rfl rfl b_sub_i64) ?_
        refine rC (Calm.assign rfl) ?_
        refine arun_nil ?_
        refine athen_n ?_
        refine ⟨(j, swp d2 (j + 1) j), ?_, ?_, ?_, ?_⟩
        all_goals (try dsimp only)
        · exact ⟨sb_, sb_, sb_, sb_, sb_, sb_, trivial⟩
        · exact Mem.Less.refl _
        · exact ⟨by omega, R2.swp _ _ (by omega) (by omega), (ins_go (lq cf) ha hl).trans k3⟩
        · omega
      · refine AWP.exit ?_
        refine athen_exit ?_
        refine athen_exit ?_
        refine ain_same ?_
        refine ain_n ?_
        refine athen_n ?_
        refine AWP.region ?_
        refine rC (Calm.move rfl) ?_
        refine rC (Calm.bin rfl rfl b_add_i64) ?_
        refine rC (Calm.assign rfl) ?_
        refine arun_nil ?_
        refine athen_n ?_
        refine ⟨(i + 1, d2), ?_, ?_, ?_, ?_⟩
        all_goals (try dsimp only)
        · exact ⟨sb_, sb_, sb_, sb_, sb_, trivial⟩
        · exact Mem.Less.refl _
        · exact ⟨by omega, by omega, R2, by rw [← k3, ← ins_no (lq cf) hl] at q0; exact q0.trans h3⟩
        · omega
    · refine AWP.seq ?_
      refine AWP.seq ?_
      refine AWP.draw [(0, true), (1, true), (2, true), (3, true), (4, true), (5, true), (6, true), (7, true), (8, true), (9, true), (10, true), (11, true), (12, true), (13, true), (14, false), (15, true), (16, true)] [] mixed (by kernel_rfl) ?_
      refine dP (hc := fun _ => Calm.move rfl) (h := ?_)
      refine dP (hc := fun _ => Calm.move rfl) (h := ?_)
      refine dP (hc := fun _ => Calm.bin rfl rfl b_gtr) (h := ?_)
      refine dP (hc := fun _ => Calm.move rfl) (h := ?_)
      first | refine dS ?_ | refine dU ?_ | refine dG (hc := fun _ => Calm.move rfl) (h := ?_)
      first | refine dS ?_ | refine dU ?_ | refine dG (hc := fun _ => Calm.move rfl) (h := ?_)
      first | refine dS ?_ | refine dU ?_ | refine dG (hc := fun _ => Calm.move rfl) (h := ?_)
      first | refine dS ?_ | refine dU ?_ | refine dG (hc := fun _ => Calm.indexS Try.underlying24 ty_size_3 rfl rfl (by omega) (by omega)) (h := ?_)
      first | refine dS ?_ | refine dU ?_ | refine dL (hc := Calm.load ty_plain_3 rfl (rd_row (k := j + 1) own_ rw_ rw_)) (h := ?_)
      first | refine dS ?_ | refine dU ?_ | refine dG (hc := fun _ => Calm.move rfl) (h := ?_)
      first | refine dS ?_ | refine dU ?_ | refine dG (hc := fun _ => Calm.move rfl) (h := ?_)
      first | refine dS ?_ | refine dU ?_ | refine dG (hc := fun _ => Calm.bin rfl rfl b_sub_i64) (h := ?_)
      first | refine dS ?_ | refine dU ?_ | refine dG (hc := fun _ => Calm.indexS Try.underlying24 ty_size_3 rfl rfl (by omega) (by omega)) (h := ?_)
      first | refine dS ?_ | refine dU ?_ | refine dL (hc := Calm.load ty_plain_3 rfl (rd_row (k := j) own_ rw_ rw_)) (h := ?_)
      refine draw_only rfl ?_
      first | refine rS 21 ?_ | refine rU 21 ?_
      refine arun_nil ⟨fun _ => less_, ?_⟩
      first | refine dS ?_ | refine dU ?_ | refine dG (hc := fun _ => Calm.bin rfl rfl b_lss) (h := ?_)
      refine dP (hc := fun _ => (by first | exact Calm.pickT rfl rfl | exact Calm.pickF rfl rfl)) (h := ?_)
      refine draw_nil ?_
      refine athen_n ?_
      refine AWP.sub [(0, _), (1, _), (2, _), (3, _), (8, _), (9, _), (34, _)] ⟨rfl, rfl, rfl, rfl, rfl, rfl, rfl, trivial⟩ ?_
      refine AWP.condF rfl (by first | rfl | (simp; done) | (simp; omega)) ?_
      refine AWP.exit ?_
      refine athen_exit ?_
      refine athen_exit ?_
      refine ain_same ?_
      refine ain_n ?_
      refine athen_n ?_
      refine AWP.region ?_
      refine rC (Calm.move rfl) ?_
      refine rC (Calm.bin rfl rfl b_add_i64) ?_
      refine rC (Calm.assign rfl) ?_
      refine arun_nil ?_
      refine athen_n ?_
      refine ⟨(i + 1, d2), ?_, ?_, ?_, ?_⟩
      all_goals (try dsimp only)
      · exact ⟨sb_, sb_, sb_, sb_, sb_, trivial⟩
      · exact Mem.Less.refl _
      · exact ⟨by omega, by omega, R2, by rw [← k3, ← ins_end (lq cf) ha] at q0; exact q0.trans h3⟩
      · omega
  · refine AWP.seq ?_
    refine AWP.seq ?_
    refine AWP.region ?_
    refine rC (Calm.move rfl) ?_
    refine rC (Calm.move rfl) ?_
    refine rC (Calm.bin rfl rfl b_lss) ?_
    refine arun_nil ?_
    refine athen_n ?_
    refine AWP.sub [(0, _), (1, _), (2, _), (3, _), (8, _), (14, _)] ⟨rfl, rfl, rfl, rfl, rfl, rfl, trivial⟩ ?_
    refine AWP.condF rfl (by first | rfl | (simp; done) | (simp; omega)) ?_
    refine AWP.exit ?_
    refine athen_exit ?_
    refine athen_exit ?_
    refine ain_same ?_
    refine ⟨_, _, rfl, Mem.Less.refl _, ?_⟩
    rw [← h3, ← outer_end (lq cf) hi]; exact ⟨rfl, R1⟩
set_option maxHeartbeats 4000000 in
theorem soC_sift {α : Type} [Inhabited α] {enc : α → Value} {cf : α → α → Int} {okP : α → Prop} {g : Nat} {cb : List Value} {S : Mem} (C : CmpC Try.prog enc cf okP g cb S) (b room n cap : Nat) (hb : Fresh S b) (hn : n ≤ 1048576) (d : Array α) (R : Rw okP n d) (il ih iF : Int) (lo hi first : Nat) (el : il = lo) (eh : ih = hi) (ef : iF = first) (hlo : lo ≤ n) (hfn : first + hi ≤ n) :
    ACall Try.prog 200 #[.slice (some ⟨b, 0, none⟩) n cap, .int .i64 il, .int .i64 ih, .int .i64 iF, .func (.func g) #[] cb.toArray] (S.set b ⟨3, (d).toList.map enc, room⟩) fun r S' => S' = S.set b ⟨3, (siftDown (lq cf) hi first lo d).toList.map enc, room⟩ ∧ Rw okP n (siftDown (lq cf) hi first lo d) := by
  subst el eh ef
  refine ACall.enter (args := [.slice (some ⟨b, 0, none⟩) n cap, .int .i64 lo, .int .i64 hi, .int .i64 first, .func (.func g) #[] cb.toArray]) (rs := []) 82 [(0, .slice (some ⟨b, 0, none⟩) n cap), (1, .int .i64 lo), (2, .int .i64 hi), (3, .int .i64 first), (4, .func (.func g) #[] cb.toArray)] Try.func200 rfl rfl (Nat.le_of_ble_eq_true rfl) rfl ⟨rfl, rfl, rfl, rfl, rfl, trivial⟩ ?_
  refine AWP.seq ?_
  refine AWP.region ?_
  refine rC (Calm.move rfl) ?_
  refine rC (Calm.assign rfl) ?_
  refine arun_nil ?_
  refine athen_n ?_
  refine AWP.sub [(0, _), (1, _), (2, _), (3, _), (4, _), (10, _)] ⟨rfl, rfl, rfl, rfl, rfl, rfl, trivial⟩ ?_
  refine AWP.block ?_
  refine AWP.loop (X := Nat × Array α) (fun x => [(0, .slice (some ⟨b, 0, none⟩) n cap), (2, .int .i64 hi), (3, .int .i64 first), (4, .func (.func g) #[] cb.toArray), (10, .int .i64 x.1)]) (fun x => S.set b ⟨3, (x.2).toList.map enc, room⟩) (fun x => x.1 ≤ n ∧ Rw okP n x.2 ∧ siftDown (lq cf) hi first x.1 x.2 = siftDown (lq cf) hi first lo d) (fun x => n + 1 - x.1) ((lo, d)) ⟨rfl, rfl, rfl, rfl, rfl, trivial⟩ (Mem.Less.refl _) (⟨hlo, R, rfl⟩) ?_
  rintro ⟨r, d1⟩ ⟨h1, R1, h3⟩
  (try dsimp only at *)
  have z1 := R1.size
  by_cases hc : hi ≤ 2 * r + 1
  · refine AWP.block ?_
    refine AWP.seq ?_
    refine AWP.region ?_
    refine rC (Calm.move rfl) ?_
    refine rC (Calm.bin rfl rfl b_mul_i64) ?_
    refine rC (Calm.bin rfl rfl b_add_i64) ?_
    refine rC (Calm.assign rfl) ?_
    refine arun_nil ?_
    refine athen_n ?_
    refine AWP.sub [(0, _), (2, _), (3, _), (4, _), (10, _), (11, _)] ⟨rfl, rfl, rfl, rfl, rfl, rfl, trivial⟩ ?_
    refine AWP.seq ?_
    refine AWP.seq ?_
    refine AWP.region ?_
    refine rC (Calm.move rfl) ?_
    refine rC (Calm.move rfl) ?_
    refine rC (Calm.bin rfl rfl b_geq) ?_
    refine arun_nil ?_
    refine athen_n ?_
    refine AWP.sub [(0, _), (2, _), (3, _), (4, _), (10, _), (11, _), (18, _)] ⟨rfl, rfl, rfl, rfl, rfl, rfl, rfl, trivial⟩ ?_
    refine AWP.condT rfl (by first | rfl | (simp; done) | (simp; omega)) ?_
    refine AWP.exit ?_
    refine athen_exit ?_
    refine ain_other rfl ?_
    refine athen_exit ?_
    refine ain_same ?_
    refine ⟨_, _, rfl, Mem.Less.refl _, ?_⟩
    rw [← h3, ← sift_leaf (lq cf) hc]; exact ⟨rfl, R1⟩
  · refine AWP.block ?_
    refine AWP.seq ?_
    refine AWP.region ?_
    refine rC (Calm.move rfl) ?_
    refine rC (Calm.bin rfl rfl b_mul_i64) ?_
    refine rC (Calm.bin rfl rfl b_add_i64) ?_
    refine rC (Calm.assign rfl) ?_
    refine arun_nil ?_
    refine athen_n ?_
    refine AWP.sub [(0, _), (2, _), (3, _), (4, _), (10, _), (11, _)] ⟨rfl, rfl, rfl, rfl, rfl, rfl, trivial⟩ ?_
    refine AWP.seq ?_
    refine AWP.seq ?_
    refine AWP.region ?_
    refine rC (Calm.move rfl) ?_
    refine rC (Calm.move rfl) ?_
    refine rC (Calm.bin rfl rfl b_geq) ?_
    refine arun_nil ?_
    refine athen_n ?_
    refine AWP.sub [(0, _), (2, _), (3, _), (4, _), (10, _), (11, _), (18, _)] ⟨rfl, rfl, rfl, rfl, rfl, rfl, rfl, trivial⟩ ?_
    refine AWP.condF rfl (by first | rfl | (simp; done) | (simp; omega)) ?_
    by_cases h2 : 2 * r + 2 < hi
    · refine AWP.skip ?_
      refine athen_n ?_
      refine AWP.seq ?_
      refine AWP.seq ?_
      refine AWP.draw [(0, true), (1, true), (2, true), (3, true), (4, true), (5, true), (6, true), (7, true), (8, true), (9, true), (10, true), (11, true), (12, true), (13, true), (14, true), (15, true), (16, true), (17, true), (18, true), (19, false), (20, true), (21, true)] [] mixed (by kernel_rfl) ?_
      refine dP (hc := fun _ => Calm.move rfl) (h := ?_)
      refine dP (hc := fun _ => Calm.bin rfl rfl b_add_i64) (h := ?_)
      refine dP (hc := fun _ => Calm.move rfl) (h := ?_)
      refine dP (hc := fun _ => Calm.bin rfl rfl b_lss) (h := ?_)
      refine dP (hc := fun _ => Calm.move rfl) (h := ?_)
      first | refine dS ?_ | refine dU ?_ | refine dG (hc := fun _ => Calm.move rfl) (h := ?_)
      first | refine dS ?_ | refine dU ?_ | refine dG (hc := fun _ => Calm.move rfl) (h := ?_)
      first | refine dS ?_ | refine dU ?_ | refine dG (hc := fun _ => Calm.move rfl) (h := ?_)
      first | refine dS ?_ | refine dU ?_ | refine dG (hc := fun _ => Calm.move rfl) (h := ?_)
      first | refine dS ?_ | refine dU ?_ | refine dG (hc := fun _ => Calm.bin rfl rfl b_add_i64) (h := ?_)
      first | refine dS ?_ | refine dU ?_ | refine dG (hc := fun _ => Calm.indexS Try.underlying24 ty_size_3 rfl rfl (by omega) (by omega)) (h := ?_)
      first | refine dS ?_ | refine dU ?_ | refine dL (hc := Calm.load ty_plain_3 rfl (rd_row (k := first + (2 * r + 1)) own_ rw_ rw_)) (h := ?_)
      first | refine dS ?_ | refine dU ?_ | refine dG (hc := fun _ => Calm.move rfl) (h := ?_)
      first | refine dS ?_ | refine dU ?_ | refine dG (hc := fun _ => Calm.move rfl) (h := ?_)
      first | refine dS ?_ | refine dU ?_ | refine dG (hc := fun _ => Calm.move rfl) (h := ?_)
      first | refine dS ?_ | refine dU ?_ | refine dG (hc := fun _ => Calm.bin rfl rfl b_add_i64) (h := ?_)
      first | refine dS ?_ | refine dU ?_ | refine dG (hc := fun _ => Calm.bin rfl rfl b_add_i64) (h := ?_)
      first | refine dS ?_ | refine dU ?_ | refine dG (hc := fun _ => Calm.indexS Try.underlying24 ty_size_3 rfl rfl (by omega) (by omega)) (h := ?_)
      first | refine dS ?_ | refine dU ?_ | refine dL (hc := Calm.load ty_plain_3 rfl (rd_row (k := first + (2 * r + 2)) own_ rw_ rw_)) (h := ?_)
      refine draw_only rfl ?_
      refine rUn 23 ?_
      refine ARun.callV (first := []) (cap := cb) (lit_lt rfl) C.go rfl rfl (C.call less_ (R1.ok (first + (2 * r + 1)) rw_) (R1.ok (first + (2 * r + 2)) rw_)) ?_
      rintro _ _ ⟨rfl, rfl⟩
      refine arun_nil ⟨fun _ => less_, ?_⟩
      first | refine dS ?_ | refine dU ?_ | refine dG (hc := fun _ => Calm.bin rfl rfl b_lss) (h := ?_)
      refine dP (hc := fun _ => (by first | exact Calm.pickT rfl rfl | exact Calm.pickF rfl rfl)) (h := ?_)
      refine draw_nil ?_
      refine athen_n ?_
      refine AWP.sub [(0, _), (2, _), (3, _), (4, _), (10, _), (11, _), (18, _), (40, _)] ⟨rfl, rfl, rfl, rfl, rfl, rfl, rfl, rfl, trivial⟩ ?_
      refine AWP.condB rfl (fun hl => ?_) (fun hl => ?_)
      · have ch : child (lq cf) hi first r d1 = 2 * r + 2 := if_pos ⟨h2, hl⟩
        refine AWP.region ?_
        refine rC (Calm.move rfl) ?_
        refine rC (Calm.bin rfl rfl b_add_i64) ?_
        refine rC (Calm.assign rfl) ?_
        refine arun_nil ?_
        refine athen_n ?_
        refine AWP.sub [(0, _), (2, _), (3, _), (4, _), (10, _), (11, _), (18, _), (40, _)] ⟨rfl, rfl, rfl, rfl, rfl, rfl, rfl, rfl, trivial⟩ ?_
        refine AWP.seq ?_
        refine AWP.seq ?_
        refine AWP.draw [(0, true), (1, true), (2, true), (3, true), (4, true), (5, true), (6, true), (7, true), (8, true), (9, true), (10, true), (11, true), (12, true), (13, false), (14, true), (15, true)] [] mixed (by kernel_rfl) ?_
        refine dP (hc := fun _ => Calm.move rfl) (h := ?_)
        refine dP (hc := fun _ => Calm.move rfl) (h := ?_)
        refine dP (hc := fun _ => Calm.move rfl) (h := ?_)
        refine dP (hc := fun _ => Calm.move rfl) (h := ?_)
        refine dP (hc := fun _ => Calm.bin rfl rfl b_add_i64) (h := ?_)
        refine dP (hc := fun _ => Calm.indexS Try.underlying24 ty_size_3 rfl rfl (by omega) (by omega)) (h := ?_)
        refine dC (hc := Calm.load ty_plain_3 rfl (rd_row (k := first + r) own_ rw_ rw_)) (h := ?_)
        refine dP (hc := fun _ => Calm.move rfl) (h := ?_)
        refine dP (hc := fun _ => Calm.move rfl) (h := ?_)
        refine dP (hc := fun _ => Calm.move rfl) (h := ?_)
        refine dP (hc := fun _ => Calm.bin rfl rfl b_add_i64) (h := ?_)
        refine dP (hc := fun _ => Calm.indexS Try.underlying24 ty_size_3 rfl rfl (by omega) (by omega)) (h := ?_)
        refine dC (hc := Calm.load ty_plain_3 rfl (rd_row (k := first + (2 * r + 2)) own_ rw_ rw_)) (h := ?_)
        refine draw_only rfl ?_
        refine ARun.callV (first := []) (cap := cb) (lit_lt rfl) C.go rfl rfl (C.call less_ (R1.ok (first + r) rw_) (R1.ok (first + (2 * r + 2)) rw_)) ?_
        rintro _ _ ⟨rfl, rfl⟩
        refine arun_nil ⟨fun _ => less_, ?_⟩
        refine dP (hc := fun _ => Calm.bin rfl rfl b_lss) (h := ?_)
        refine dP (hc := fun _ => Calm.un rfl (una_not _)) (h := ?_)
        refine draw_nil ?_
        refine athen_n ?_
        refine AWP.sub [(0, _), (2, _), (3, _), (4, _), (10, _), (11, _), (18, _), (40, _), (58, _)] ⟨rfl, rfl, rfl, rfl, rfl, rfl, rfl, rfl, rfl, trivial⟩ ?_
        refine AWP.condB rfl (fun hl2 => ?_) (fun hl2 => ?_)
        · have hl2 := nt_ hl2
          refine AWP.ret ?_
          refine athen_ret ?_
          refine ain_ret ?_
          refine athen_ret ?_
          refine ain_ret ?_
          refine ⟨_, _, rfl, Mem.Less.refl _, ?_⟩
          rw [← h3, ← sift_stop (lq cf) hc (by rw [ch]; exact hl2)]; exact ⟨rfl, R1⟩
        · have hl2 := nf_ hl2
          refine AWP.skip ?_
          refine athen_n ?_
          refine AWP.seq ?_
          refine AWP.draw [(0, true), (1, true), (2, true), (3, true), (4, true), (5, true), (6, true), (7, true), (8, true), (9, true), (10, true), (11, true), (12, true), (13, true), (14, true), (15, true), (16, true), (17, true), (18, true), (19, true), (20, true), (21, false), (22, true), (23, false)] [21, 23] mixed (by kernel_rfl) ?_
          refine dP (hc := fun _ => Calm.move rfl) (h := ?_)
          refine dP (hc := fun _ => Calm.move rfl) (h := ?_)
          refine dP (hc := fun _ => Calm.move rfl) (h := ?_)
          refine dP (hc := fun _ => Calm.bin rfl rfl b_add_i64) (h := ?_)
          refine dP (hc := fun _ => Calm.move rfl) (h := ?_)
          refine dP (hc := fun _ => Calm.move rfl) (h := ?_)
          refine dP (hc := fun _ => Calm.move rfl) (h := ?_)
          refine dP (hc := fun _ => Calm.bin rfl rfl b_add_i64) (h := ?_)
          refine dP (hc := fun _ => Calm.move rfl) (h := ?_)
          refine dP (hc := fun _ => Calm.move rfl) (h := ?_)
          refine dP (hc := fun _ => Calm.move rfl) (h := ?_)
          refine dP (hc := fun _ => Calm.bin rfl rfl b_add_i64) (h := ?_)
          refine dP (hc := fun _ => Calm.indexS Try.underlying24 ty_size_3 rfl rfl (by omega) (by omega)) (h := ?_)
          refine dC (hc := Calm.load ty_plain_3 rfl (rd_row (k := first + (2 * r + 2)) own_ rw_ rw_)) (h := ?_)
          refine dP (hc := fun _ => Calm.move rfl) (h := ?_)
          refine dP (hc := fun _ => Calm.move rfl) (h := ?_)
          refine dP (hc := fun _ => Calm.move rfl) (h := ?_)
          refine dP (hc := fun _ => Calm.bin rfl rfl b_add_i64) (h := ?_)
          refine dP (hc := fun _ => Calm.indexS Try.underlying24 ty_size_3 rfl rfl (by omega) (by omega)) (h := ?_)
          refine dC (hc := Calm.load ty_plain_3 rfl (rd_row (k := first + r) own_ rw_ rw_)) (h := ?_)
          refine dP (hc := fun _ => Calm.indexS Try.underlying24 ty_size_3 rfl rfl (by omega) (by omega)) (h := ?_)
          refine draw_only rfl ?_
          refine ARun.storeRow enc (first + r) rfl rfl ty_size_3 (C.one _) own_ rw_ rw_ ?_
          (try simp only [Mem.set_set, List.set_cons_zero, List.set_cons_succ, Nat.zero_add, Nat.reduceAdd])
          refine arun_nil ⟨fun h => absurd h (by decide), ?_⟩
          refine dP (hc := fun _ => Calm.indexS Try.underlying24 ty_size_3 rfl rfl (by omega) (by omega)) (h := ?_)
          refine draw_only rfl ?_
          refine ARun.storeRow enc (first + (2 * r + 2)) rfl rfl ty_size_3 (C.one _) own_ rw_ rw_ ?_
          (try simp only [Mem.set_set, List.set_cons_zero, List.set_cons_succ, Nat.zero_add, Nat.reduceAdd])
          refine arun_nil ⟨fun h => absurd h (by decide), ?_⟩
          refine draw_nil ?_
          refine athen_n ?_
          refine AWP.sub [(0, _), (2, _), (3, _), (4, _), (10, _), (11, _), (18, _), (40, _), (58, _)] ⟨rfl, rfl, rfl, rfl, rfl, rfl, rfl, rfl, rfl, trivial⟩ ?_
          refine AWP.region ?_
          refine rC (Calm.move rfl) ?_
          refine rC (Calm.assign rfl) ?_
          refine arun_nil ?_
          refine ain_n ?_
          refine athen_n ?_
          refine ⟨(2 * r + 2, swp d1 (first + r) (first + (2 * r + 2))), ?_, ?_, ?_, ?_⟩
          all_goals (try dsimp only)
          · exact ⟨sb_, sb_, sb_, sb_, sb_, trivial⟩
          · exact Mem.Less.refl _
          · exact ⟨by omega, R1.swp _ _ (by omega) (by omega), by have q0 := sift_go (lq cf) hc (by rw [ch]; exact hl2); rw [ch] at q0; exact q0.trans h3⟩
          · omega
      · have ch : child (lq cf) hi first r d1 = 2 * r + 1 := if_neg (fun h => Bool.noConfusion (hl.symm.trans h.2))
        refine AWP.skip ?_
        refine athen_n ?_
        refine AWP.seq ?_
        refine AWP.seq ?_
        refine AWP.draw [(0, true), (1, true), (2, true), (3, true), (4, true), (5, true), (6, true), (7, true), (8, true), (9, true), (10, true), (11, true), (12, true), (13, false), (14, true), (15, true)] [] mixed (by kernel_rfl) ?_
        refine dP (hc := fun _ => Calm.move rfl) (h := ?_)
        refine dP (hc := fun _ => Calm.move rfl) (h := ?_)
        refine dP (hc := fun _ => Calm.move rfl) (h := ?_)
        refine dP (hc := fun _ => Calm.move rfl) (h := ?_)
        refine dP (hc := fun _ => Calm.bin rfl rfl b_add_i64) (h := ?_)
        refine dP (hc := fun _ => Calm.indexS Try.underlying24 ty_size_3 rfl rfl (by omega) (by omega)) (h := ?_)
        refine dC (hc := Calm.load ty_plain_3 rfl (rd_row (k := first + r) own_ rw_ rw_)) (h := ?_)
        refine dP (hc := fun _ => Calm.move rfl) (h := ?_)
        refine dP (hc := fun _ => Calm.move rfl) (h := ?_)
        refine dP (hc := fun _ => Calm.move rfl) (h := ?_)
        refine dP (hc := fun _ => Calm.bin rfl rfl b_add_i64) (h := ?_)
        refine dP (hc := fun _ => Calm.indexS Try.underlying24 ty_size_3 rfl rfl (by omega) (by omega)) (h := ?_)
        refine dC (hc := Calm.load ty_plain_3 rfl (rd_row (k := first + (2 * r + 1)) own_ rw_ rw_)) (h := ?_)
        refine draw_only rfl ?_
        refine ARun.callV (first := []) (cap := cb) (lit_lt rfl) C.go rfl rfl (C.call less_ (R1.ok (first + r) rw_) (R1.ok (first + (2 * r + 1)) rw_)) ?_
        rintro _ _ ⟨rfl, rfl⟩
        refine arun_nil ⟨fun _ => less_, ?_⟩
        refine dP (hc := fun _ => Calm.bin rfl rfl b_lss) (h := ?_)
        refine dP (hc := fun _ => Calm.un rfl (una_not _)) (h := ?_)
        refine draw_nil ?_
        refine athen_n ?_
        refine AWP.sub [(0, _), (2, _), (3, _), (4, _), (10, _), (11, _), (18, _), (40, _), (58, _)] ⟨rfl, rfl, rfl, rfl, rfl, rfl, rfl, rfl, rfl, trivial⟩ ?_
        refine AWP.condB rfl (fun hl2 => ?_) (fun hl2 => ?_)
        · have hl2 := nt_ hl2
          refine AWP.ret ?_
          refine athen_ret ?_
          refine ain_ret ?_
          refine athen_ret ?_
          refine ain_ret ?_
          refine ⟨_, _, rfl, Mem.Less.refl _, ?_⟩
          rw [← h3, ← sift_stop (lq cf) hc (by rw [ch]; exact hl2)]; exact ⟨rfl, R1⟩
        · have hl2 := nf_ hl2
          refine AWP.skip ?_
          refine athen_n ?_
          refine AWP.seq ?_
          refine AWP.draw [(0, true), (1, true), (2, true), (3, true), (4, true), (5, true), (6, true), (7, true), (8, true), (9, true), (10, true), (11, true), (12, true), (13, true), (14, true), (15, true), (16, true), (17, true), (18, true), (19, true), (20, true), (21, false), (22, true), (23, false)] [21, 23] mixed (by kernel_rfl) ?_
          refine dP (hc := fun _ => Calm.move rfl) (h := ?_)
          refine dP (hc := fun _ => Calm.move rfl) (h := ?_)
          refine dP (hc := fun _ => Calm.move rfl) (h := ?_)
          refine dP (hc := fun _ => Calm.bin rfl rfl b_add_i64) (h := ?_)
          refine dP (hc := fun _ => Calm.move rfl) (h := ?_)
          refine dP (hc := fun _ => Calm.move rfl) (h := ?_)
          refine dP (hc := fun _ => Calm.move rfl) (h := ?_)
          refine dP (hc := fun _ => Calm.bin rfl rfl b_add_i64) (h := ?_)
          refine dP (hc := fun _ => Calm.move rfl) (h := ?_)
          refine dP (hc := fun _ => Calm.move rfl) (h := ?_)
          refine dP (hc := fun _ => Calm.move rfl) (h := ?_)
          refine dP (hc := fun _ => Calm.bin rfl rfl b_add_i64) (h := ?_)
          refine dP (hc := fun _ => Calm.indexS Try.underlying24 ty_size_3 rfl rfl (by omega) (by omega)) (h := ?_)
          refine dC (hc := Calm.load ty_plain_3 rfl (rd_row (k := first + (2 * r + 1)) own_ rw_ rw_)) (h := ?_)
          refine dP (hc := fun _ => Calm.move rfl) (h := ?_)
          refine dP (hc := fun _ => Calm.move rfl) (h := ?_)
          refine dP (hc := fun _ => Calm.move rfl) (h := ?_)
          refine dP (hc := fun _ => Calm.bin rfl rfl b_add_i64) (h := ?_)
          refine dP (hc := fun _ => Calm.indexS Try.underlying24 ty_size_3 rfl rfl (by omega) (by omega)) (h := ?_)
          refine dC (hc := Calm.load ty_plain_3 rfl (rd_row (k := first + r) own_ rw_ rw_)) (h := ?_)
          refine dP (hc := fun _ => Calm.indexS Try.underlying24 ty_size_3 rfl rfl (by omega) (by omega)) (h := ?_)
          refine draw_only rfl ?_
          refine ARun.storeRow enc (first + r) rfl rfl ty_size_3 (C.one _) own_ rw_ rw_ ?_
          (try simp only [Mem.set_set, List.set_cons_zero, List.set_cons_succ, Nat.zero_add, Nat.reduceAdd])
          refine arun_nil ⟨fun h => absurd h (by decide), ?_⟩
          refine dP (hc := fun _ => Calm.indexS Try.underlying24 ty_size_3 rfl rfl (by omega) (by omega)) (h := ?_)
          refine draw_only rfl ?_
          refine ARun.storeRow enc (first + (2 * r + 1)) rfl rfl ty_size_3 (C.one _) own_ rw_ rw_ ?_
          (try simp only [Mem.set_set, List.set_cons_zero, List.set_cons_succ, Nat.zero_add, Nat.reduceAdd])
          refine arun_nil ⟨fun h => absurd h (by decide), ?_⟩
          refine draw_nil ?_
          refine athen_n ?_
          refine AWP.sub [(0, _), (2, _), (3, _), (4, _), (10, _), (11, _), (18, _), (40, _), (58, _)] ⟨rfl, rfl, rfl, rfl, rfl, rfl, rfl, rfl, rfl, trivial⟩ ?_
          refine AWP.region ?_
          refine rC (Calm.move rfl) ?_
          refine rC (Calm.assign rfl) ?_
          refine arun_nil ?_
          refine ain_n ?_
          refine athen_n ?_
          refine ⟨(2 * r + 1, swp d1 (first + r) (first + (2 * r + 1))), ?_, ?_, ?_, ?_⟩
          all_goals (try dsimp only)
          · exact ⟨sb_, sb_, sb_, sb_, sb_, trivial⟩
          · exact Mem.Less.refl _
          · exact ⟨by omega, R1.swp _ _ (by omega) (by omega), by have q0 := sift_go (lq cf) hc (by rw [ch]; exact hl2); rw [ch] at q0; exact q0.trans h3⟩
          · omega
    · refine AWP.skip ?_
      refine athen_n ?_
      refine AWP.seq ?_
      refine AWP.seq ?_
      refine AWP.draw [(0, true), (1, true), (2, true), (3, true), (4, true), (5, true), (6, true), (7, true), (8, true), (9, true), (10, true), (11, true), (12, true), (13, true), (14, true), (15, true), (16, true), (17, true), (18, true), (19, false), (20, true), (21, true)] [] mixed (by kernel_rfl) ?_
      refine dP (hc := fun _ => Calm.move rfl) (h := ?_)
      refine dP (hc := fun _ => Calm.bin rfl rfl b_add_i64) (h := ?_)
      refine dP (hc := fun _ => Calm.move rfl) (h := ?_)
      refine dP (hc := fun _ => Calm.bin rfl rfl b_lss) (h := ?_)
      refine dP (hc := fun _ => Calm.move rfl) (h := ?_)
      first | refine dS ?_ | refine dU ?_ | refine dG (hc := fun _ => Calm.move rfl) (h := ?_)
      first | refine dS ?_ | refine dU ?_ | refine dG (hc := fun _ => Calm.move rfl) (h := ?_)
      first | refine dS ?_ | refine dU ?_ | refine dG (hc := fun _ => Calm.move rfl) (h := ?_)
      first | refine dS ?_ | refine dU ?_ | refine dG (hc := fun _ => Calm.move rfl) (h := ?_)
      first | refine dS ?_ | refine dU ?_ | refine dG (hc := fun _ => Calm.bin rfl rfl b_add_i64) (h := ?_)
      first | refine dS ?_ | refine dU ?_ | refine dG (hc := fun _ => Calm.indexS Try.underlying24 ty_size_3 rfl rfl (by omega) (by omega)) (h := ?_)
      first | refine dS ?_ | refine dU ?_ | refine dL (hc := Calm.load ty_plain_3 rfl (rd_row (k := first + (2 * r + 1)) own_ rw_ rw_)) (h := ?_)
      first | refine dS ?_ | refine dU ?_ | refine dG (hc := fun _ => Calm.move rfl) (h := ?_)
      first | refine dS ?_ | refine dU ?_ | refine dG (hc := fun _ => Calm.move rfl) (h := ?_)
      first | refine dS ?_ | refine dU ?_ | refine dG (hc := fun _ => Calm.move rfl) (h := ?_)
      first | refine dS ?_ | refine dU ?_ | refine dG (hc := fun _ => Calm.bin rfl rfl b_add_i64) (h := ?_)
      first | refine dS ?_ | refine dU ?_ | refine dG (hc := fun _ => Calm.bin rfl rfl b_add_i64) (h := ?_)
      first | refine dS ?_ | refine dU ?_ | refine dG (hc := fun _ => Calm.indexS Try.underlying24 ty_size_3 rfl rfl (by omega) (by omega)) (h := ?_)
      first | refine dS ?_ | refine dU ?_ | refine dL (hc := Calm.load ty_plain_3 rfl (rd_row (k := first + (2 * r + 2)) own_ rw_ rw_)) (h := ?_)
      refine draw_only rfl ?_
      first | refine rS 23 ?_ | refine rU 23 ?_
      refine arun_nil ⟨fun _ => less_, ?_⟩
      first | refine dS ?_ | refine dU ?_ | refine dG (hc := fun _ => Calm.bin rfl rfl b_lss) (h := ?_)
      refine dP (hc := fun _ => (by first | exact Calm.pickT rfl rfl | exact Calm.pickF rfl rfl)) (h := ?_)
      refine draw_nil ?_
      refine athen_n ?_
      refine AWP.sub [(0, _), (2, _), (3, _), (4, _), (10, _), (11, _), (18, _), (40, _)] ⟨rfl, rfl, rfl, rfl, rfl, rfl, rfl, rfl, trivial⟩ ?_
      refine AWP.condF rfl (by first | rfl | (simp; done) | (simp; omega)) ?_
      have ch : child (lq cf) hi first r d1 = 2 * r + 1 := if_neg (fun h => h2 h.1)
      refine AWP.skip ?_
      refine athen_n ?_
      refine AWP.seq ?_
      refine AWP.seq ?_
      refine AWP.draw [(0, true), (1, true), (2, true), (3, true), (4, true), (5, true), (6, true), (7, true), (8, true), (9, true), (10, true), (11, true), (12, true), (13, false), (14, true), (15, true)] [] mixed (by kernel_rfl) ?_
      refine dP (hc := fun _ => Calm.move rfl) (h := ?_)
      refine dP (hc := fun _ => Calm.move rfl) (h := ?_)
      refine dP (hc := fun _ => Calm.move rfl) (h := ?_)
      refine dP (hc := fun _ => Calm.move rfl) (h := ?_)
      refine dP (hc := fun _ => Calm.bin rfl rfl b_add_i64) (h := ?_)
      refine dP (hc := fun _ => Calm.indexS Try.underlying24 ty_size_3 rfl rfl (by omega) (by omega)) (h := ?_)
      refine dC (hc := Calm.load ty_plain_3 rfl (rd_row (k := first + r) own_ rw_ rw_)) (h := ?_)
      refine dP (hc := fun _ => Calm.move rfl) (h := ?_)
      refine dP (hc := fun _ => Calm.move rfl) (h := ?_)
      refine dP (hc := fun _ => Calm.move rfl) (h := ?_)
      refine dP (hc := fun _ => Calm.bin rfl rfl b_add_i64) (h := ?_)
      refine dP (hc := fun _ => Calm.indexS Try.underlying24 ty_size_3 rfl rfl (by omega) (by omega)) (h := ?_)
      refine dC (hc := Calm.load ty_plain_3 rfl (rd_row (k := first + (2 * r + 1)) own_ rw_ rw_)) (h := ?_)
      refine draw_only rfl ?_
      refine ARun.callV (first := []) (cap := cb) (lit_lt rfl) C.go rfl rfl (C.call less_ (R1.ok (first + r) rw_) (R1.ok (first + (2 * r + 1)) rw_)) ?_
      rintro _ _ ⟨rfl, rfl⟩
      refine arun_nil ⟨fun _ => less_, ?_⟩
      refine dP (hc := fun _ => Calm.bin rfl rfl b_lss) (h := ?_)
      refine dP (hc := fun _ => Calm.un rfl (una_not _)) (h := ?_)
      refine draw_nil ?_
      refine athen_n ?_
      refine AWP.sub [(0, _), (2, _), (3, _), (4, _), (10, _), (11, _), (18, _), (40, _), (58, _)] ⟨rfl, rfl, rfl, rfl, rfl, rfl, rfl, rfl, rfl, trivial⟩ ?_
      refine AWP.condB rfl (fun hl2 => ?_) (fun hl2 => ?_)
      · have hl2 := nt_ hl2
        refine AWP.ret ?_
        refine athen_ret ?_
        refine ain_ret ?_
        refine athen_ret ?_
        refine ain_ret ?_
        refine ⟨_, _, rfl, Mem.Less.refl _, ?_⟩
        rw [← h3, ← sift_stop (lq cf) hc (by rw [ch]; exact hl2)]; exact ⟨rfl, R1⟩
      · have hl2 := nf_ hl2
        refine AWP.skip ?_
        refine athen_n ?_
        refine AWP.seq ?_
        refine AWP.draw [(0, true), (1, true), (2, true), (3, true), (4, true), (5, true), (6, true), (7, true), (8, true), (9, true), (10, true), (11, true), (12, true), (13, true), (14, true), (15, true), (16, true), (17, true), (18, true), (19, true), (20, true), (21, false), (22, true), (23, false)] [21, 23] mixed (by kernel_rfl) ?_
        refine dP (hc := fun _ => Calm.move rfl) (h := ?_)
        refine dP (hc := fun _ => Calm.move rfl) (h := ?_)
        refine dP (hc := fun _ => Calm.move rfl) (h := ?_)
        refine dP (hc := fun _ => Calm.bin rfl rfl b_add_i64) (h := ?_)
        refine dP (hc := fun _ => Calm.move rfl) (h := ?_)
        refine dP (hc := fun _ => Calm.move rfl) (h := ?_)
        refine dP (hc := fun _ => Calm.move rfl) (h := ?_)
        refine dP (hc := fun _ => Calm.bin rfl rfl b_add_i64) (h := ?_)
        refine dP (hc := fun _ => Calm.move rfl) (h := ?_)
        refine dP (hc := fun _ => Calm.move rfl) (h := ?_)
        refine dP (hc := fun _ => Calm.move rfl) (h := ?_)
        refine dP (hc := fun _ => Calm.bin rfl rfl b_add_i64) (h := ?_)
        refine dP (hc := fun _ => Calm.indexS Try.underlying24 ty_size_3 rfl rfl (by omega) (by omega)) (h := ?_)
        refine dC (hc := Calm.load ty_plain_3 rfl (rd_row (k := first + (2 * r + 1)) own_ rw_ rw_)) (h := ?_)
        refine dP (hc := fun _ => Calm.move rfl) (h := ?_)
        refine dP (hc := fun _ => Calm.move rfl) (h := ?_)
        refine dP (hc := fun _ => Calm.move rfl) (h := ?_)
        refine dP (hc := fun _ => Calm.bin rfl rfl b_add_i64) (h := ?_)
        refine dP (hc := fun _ => Calm.indexS Try.underlying24 ty_size_3 rfl rfl (by omega) (by omega)) (h := ?_)
        refine dC (hc := Calm.load ty_plain_3 rfl (rd_row (k := first + r) own_ rw_ rw_)) (h := ?_)
        refine dP (hc := fun _ => Calm.indexS Try.underlying24 ty_size_3 rfl rfl (by omega) (by omega)) (h := ?_)
        refine draw_only rfl ?_
        refine ARun.storeRow enc (first + r) rfl rfl ty_size_3 (C.one _) own_ rw_ rw_ ?_
        (try simp only [Mem.set_set, List.set_cons_zero, List.set_cons_succ, Nat.zero_add, Nat.reduceAdd])
        refine arun_nil ⟨fun h => absurd h (by decide), ?_⟩
        refine dP (hc := fun _ => Calm.indexS Try.underlying24 ty_size_3 rfl rfl (by omega) (by omega)) (h := ?_)
        refine draw_only rfl ?_
        refine ARun.storeRow enc (first + (2 * r + 1)) rfl rfl ty_size_3 (C.one _) own_ rw_ rw_ ?_
        (try simp only [Mem.set_set, List.set_cons_zero, List.set_cons_succ, Nat.zero_add, Nat.reduceAdd])
        refine arun_nil ⟨fun h => absurd h (by decide), ?_⟩
        refine draw_nil ?_
        refine athen_n ?_
        refine AWP.sub [(0, _), (2, _), (3, _), (4, _), (10, _), (11, _), (18, _), (40, _), (58, _)] ⟨rfl, rfl, rfl, rfl, rfl, rfl, rfl, rfl, rfl, trivial⟩ ?_
        refine AWP.region ?_
        refine rC (Calm.move rfl) ?_
        refine rC (Calm.assign rfl) ?_
        refine arun_nil ?_
        refine ain_n ?_
        refine athen_n ?_
        refine ⟨(2 * r + 1, swp d1 (first + r) (first + (2 * r + 1))), ?_, ?_, ?_, ?_⟩
        all_goals (try dsimp only)
        · exact ⟨sb_, sb_, sb_, sb_, sb_, trivial⟩
        · exact Mem.Less.refl _
        · exact ⟨by omega, R1.swp _ _ (by omega) (by omega), by have q0 := sift_go (lq cf) hc (by rw [ch]; exact hl2); rw [ch] at q0; exact q0.trans h3⟩
        · omega
set_option maxHeartbeats 4000000 in
theorem soC_heap {α : Type} [Inhabited α] {enc : α → Value} {cf : α → α → Int} {okP : α → Prop} {g : Nat} {cb : List Value} {S : Mem} (C : CmpC Try.prog enc cf okP g cb S) (b room n cap : Nat) (hb : Fresh S b) (hn : n ≤ 1048576) (d : Array α) (R : Rw okP n d) (ia ie : Int) (a e : Nat) (ha : ia = a) (he : ie = e) (hae : a < e) (hen : e ≤ n) :
    ACall Try.prog 168 #[.slice (some ⟨b, 0, none⟩) n cap, .int .i64 ia, .int .i64 ie, .func (.func g) #[] cb.toArray] (S.set b ⟨3, (d).toList.map enc, room⟩) fun r S' => S' = S.set b ⟨3, (heapSort (lq cf) d a e).toList.map enc, room⟩ ∧ Rw okP n (heapSort (lq cf) d a e) := by
  subst ha he
  obtain ⟨L, rfl⟩ : ∃ L, e = a + L := ⟨e - a, by omega⟩
  have hH : heapPop (lq cf) a L (heapBuild (lq cf) L a ((L - 1) / 2 + 1) d) = heapSort (lq cf) d a (a + L) := by unfold heapSort; rw [Nat.add_sub_cancel_left]
  refine ACall.enter (args := [.slice (some ⟨b, 0, none⟩) n cap, .int .i64 a, .int .i64 ((a + L : Nat) : Int), .func (.func g) #[] cb.toArray]) (rs := []) 60 [(0, .slice (some ⟨b, 0, none⟩) n cap), (1, .int .i64 a), (2, .int .i64 ((a + L : Nat) : Int)), (3, .func (.func g) #[] cb.toArray)] Try.func168 rfl rfl (Nat.le_of_ble_eq_true rfl) rfl ⟨rfl, rfl, rfl, rfl, trivial⟩ ?_
  refine AWP.seq ?_
  refine AWP.region ?_
  refine rC (Calm.move rfl) ?_
  refine rC (Calm.assign rfl) ?_
  refine arun_nil ?_
  refine athen_n ?_
  refine AWP.sub [(0, _), (1, _), (2, _), (3, _), (8, _)] ⟨rfl, rfl, rfl, rfl, rfl, trivial⟩ ?_
  refine AWP.seq ?_
  refine AWP.region ?_
  refine rC (Calm.assign rfl) ?_
  refine arun_nil ?_
  refine athen_n ?_
  refine AWP.seq ?_
  refine AWP.region ?_
  refine rC (Calm.move rfl) ?_
  refine rC (Calm.move rfl) ?_
  refine rC (Calm.bin rfl rfl b_sub_i64) ?_
  refine rC (Calm.assign rfl) ?_
  refine arun_nil ?_
  refine athen_n ?_
  refine AWP.sub [(0, _), (1, _), (2, _), (3, _), (8, _), (9, _), (10, _)] ⟨rfl, rfl, rfl, rfl, rfl, rfl, rfl, trivial⟩ ?_
  refine AWP.seq ?_
  refine AWP.seq ?_
  refine AWP.region ?_
  refine rC (Calm.move rfl) ?_
  refine rC (Calm.bin rfl rfl b_sub_i64) ?_
  refine rC (Calm.bin rfl rfl b_quo_i64) ?_
  refine rC (Calm.assign rfl) ?_
  refine arun_nil ?_
  refine athen_n ?_
  refine AWP.sub [(0, _), (1, _), (2, _), (3, _), (8, _), (9, _), (10, _), (11, _)] ⟨rfl, rfl, rfl, rfl, rfl, rfl, rfl, rfl, trivial⟩ ?_
  refine AWP.block ?_
  refine AWP.loop (X := Nat × Array α) (fun x => [(0, .slice (some ⟨b, 0, none⟩) n cap), (3, .func (.func g) #[] cb.toArray), (8, .int .i64 a), (9, .int .i64 0), (10, .int .i64 L), (11, .int .i64 ((x.1 : Int) - 1))]) (fun x => S.set b ⟨3, (x.2).toList.map enc, room⟩) (fun x => x.1 ≤ L ∧ Rw okP n x.2 ∧ heapPop (lq cf) a L (heapBuild (lq cf) L a x.1 x.2) = heapSort (lq cf) d a (a + L)) (fun x => x.1) (((L - 1) / 2 + 1, d)) ⟨sb_, sb_, sb_, sb_, sb_, sb_, trivial⟩ (Mem.Less.refl _) (⟨by omega, R, hH⟩) ?_
  rintro ⟨k, d1⟩ ⟨h1, R1, h3⟩
  (try dsimp only at *)
  by_cases hk : 0 < k
  · obtain ⟨k, rfl⟩ : ∃ q, k = q + 1 := ⟨k - 1, by omega⟩
    refine AWP.seq ?_
    refine AWP.seq ?_
    refine AWP.region ?_
    refine rC (Calm.move rfl) ?_
    refine rC (Calm.bin rfl rfl b_geq) ?_
    refine arun_nil ?_
    refine athen_n ?_
    refine AWP.sub [(0, _), (3, _), (8, _), (9, _), (10, _), (11, _), (21, _)] ⟨rfl, rfl, rfl, rfl, rfl, rfl, rfl, trivial⟩ ?_
    refine AWP.condT rfl (by first | rfl | (simp; done) | (simp; omega)) ?_
    refine AWP.skip ?_
    refine athen_n ?_
    refine AWP.seq ?_
    refine AWP.block ?_
    refine AWP.region ?_
    refine rC (Calm.move rfl) ?_
    refine rC (Calm.move rfl) ?_
    refine rC (Calm.move rfl) ?_
    refine rC (Calm.move rfl) ?_
    refine rC (Calm.move rfl) ?_
    refine ARun.call (lit_lt rfl) go_200 rfl (soC_sift C b room n cap hb hn d1 R1 _ _ _ k L a rw_ rw_ rfl (by omega) (by omega)) ?_
    rintro _ _ ⟨rfl, R2⟩
    refine arun_nil ?_
    refine ain_n ?_
    refine athen_n ?_
    refine AWP.sub [(0, _), (3, _), (8, _), (9, _), (10, _), (11, _), (21, _)] ⟨rfl, rfl, rfl, rfl, rfl, rfl, rfl, trivial⟩ ?_
    refine AWP.region ?_
    refine rC (Calm.move rfl) ?_
    refine rC (Calm.bin rfl rfl b_sub_i64) ?_
    refine rC (Calm.assign rfl) ?_
    refine arun_nil ?_
    refine athen_n ?_
    refine ⟨(k, siftDown (lq cf) L a k d1), ?_, ?_, ?_, ?_⟩
    all_goals (try dsimp only)
    · exact ⟨sb_, sb_, sb_, sb_, sb_, sb_, trivial⟩
    · exact Mem.Less.refl _
    · exact ⟨by omega, R2, h3⟩
    · omega
  · obtain rfl : k = 0 := by omega
    refine AWP.seq ?_
    refine AWP.seq ?_
    refine AWP.region ?_
    refine rC (Calm.move rfl) ?_
    refine rC (Calm.bin rfl rfl b_geq) ?_
    refine arun_nil ?_
    refine athen_n ?_
    refine AWP.sub [(0, _), (3, _), (8, _), (9, _), (10, _), (11, _), (21, _)] ⟨rfl, rfl, rfl, rfl, rfl, rfl, rfl, trivial⟩ ?_
    refine AWP.condF rfl (by first | rfl | (simp; done) | (simp; omega)) ?_
    refine AWP.exit ?_
    refine athen_exit ?_
    refine athen_exit ?_
    refine ain_same ?_
    refine athen_n ?_
    refine AWP.seq ?_
    refine AWP.region ?_
    refine rC (Calm.move rfl) ?_
    refine rC (Calm.bin rfl rfl b_sub_i64) ?_
    refine rC (Calm.assign rfl) ?_
    refine arun_nil ?_
    refine athen_n ?_
    refine AWP.sub [(0, _), (3, _), (8, _), (9, _), (10, _), (11, _), (21, _), (12, _)] ⟨rfl, rfl, rfl, rfl, rfl, rfl, rfl, rfl, trivial⟩ ?_
    refine AWP.block ?_
    refine AWP.loop (X := Nat × Array α) (fun x => [(0, .slice (some ⟨b, 0, none⟩) n cap), (3, .func (.func g) #[] cb.toArray), (8, .int .i64 a), (9, .int .i64 0), (12, .int .i64 ((x.1 : Int) - 1))]) (fun x => S.set b ⟨3, (x.2).toList.map enc, room⟩) (fun x => x.1 ≤ L ∧ Rw okP n x.2 ∧ heapPop (lq cf) a x.1 x.2 = heapSort (lq cf) d a (a + L)) (fun x => x.1) ((L, d1)) ⟨sb_, sb_, sb_, sb_, sb_, trivial⟩ (Mem.Less.refl _) (⟨Nat.le_refl _, R1, h3⟩) ?_
    rintro ⟨k, d2⟩ ⟨k1, R2, k3⟩
    (try dsimp only at *)
    have z2 := R2.size
    by_cases hk : 0 < k
    · obtain ⟨k, rfl⟩ : ∃ q, k = q + 1 := ⟨k - 1, by omega⟩
      refine AWP.seq ?_
      refine AWP.seq ?_
      refine AWP.region ?_
      refine rC (Calm.move rfl) ?_
      refine rC (Calm.bin rfl rfl b_geq) ?_
      refine arun_nil ?_
      refine athen_n ?_
      refine AWP.sub [(0, _), (3, _), (8, _), (9, _), (12, _), (33, _)] ⟨rfl, rfl, rfl, rfl, rfl, rfl, trivial⟩ ?_
      refine AWP.condT rfl (by first | rfl | (simp; done) | (simp; omega)) ?_
      refine AWP.skip ?_
      refine athen_n ?_
      refine AWP.seq ?_
      refine AWP.block ?_
      refine AWP.seq ?_
      refine AWP.draw [(0, true), (1, true), (2, true), (3, true), (4, true), (5, true), (6, true), (7, true), (8, true), (9, true), (10, true), (11, true), (12, true), (13, true), (14, true), (15, true), (16, true), (17, false), (18, true), (19, false)] [17, 19] mixed (by kernel_rfl) ?_
      refine dP (hc := fun _ => Calm.move rfl) (h := ?_)
      refine dP (hc := fun _ => Calm.move rfl) (h := ?_)
      refine dP (hc := fun _ => Calm.move rfl) (h := ?_)
      refine dP (hc := fun _ => Calm.move rfl) (h := ?_)
      refine dP (hc := fun _ => Calm.move rfl) (h := ?_)
      refine dP (hc := fun _ => Calm.bin rfl rfl b_add_i64) (h := ?_)
      refine dP (hc := fun _ => Calm.move rfl) (h := ?_)
      refine dP (hc := fun _ => Calm.move rfl) (h := ?_)
      refine dP (hc := fun _ => Calm.move rfl) (h := ?_)
      refine dP (hc := fun _ => Calm.bin rfl rfl b_add_i64) (h := ?_)
      refine dP (hc := fun _ => Calm.indexS Try.underlying24 ty_size_3 rfl rfl (by omega) (by omega)) (h := ?_)
      refine dC (hc := Calm.load ty_plain_3 rfl (rd_row (k := a + k) own_ rw_ rw_)) (h := ?_)
      refine dP (hc := fun _ => Calm.move rfl) (h := ?_)
      refine dP (hc := fun _ => Calm.move rfl) (h := ?_)
      refine dP (hc := fun _ => Calm.indexS Try.underlying24 ty_size_3 rfl rfl (by omega) (by omega)) (h := ?_)
      refine dC (hc := Calm.load ty_plain_3 rfl (rd_row (k := a) own_ rw_ rw_)) (h := ?_)
      refine dP (hc := fun _ => Calm.indexS Try.underlying24 ty_size_3 rfl rfl (by omega) (by omega)) (h := ?_)
      refine draw_only rfl ?_
      refine ARun.storeRow enc (a) rfl rfl ty_size_3 (C.one _) own_ rw_ rw_ ?_
      (try simp only [Mem.set_set, List.set_cons_zero, List.set_cons_succ, Nat.zero_add, Nat.reduceAdd])
      refine arun_nil ⟨fun h => absurd h (by decide), ?_⟩
      refine dP (hc := fun _ => Calm.indexS Try.underlying24 ty_size_3 rfl rfl (by omega) (by omega)) (h := ?_)
      refine draw_only rfl ?_
      refine ARun.storeRow enc (a + k) rfl rfl ty_size_3 (C.one _) own_ rw_ rw_ ?_
      (try simp only [Mem.set_set, List.set_cons_zero, List.set_cons_succ, Nat.zero_add, Nat.reduceAdd])
      refine arun_nil ⟨fun h => absurd h (by decide), ?_⟩
      refine draw_nil ?_
      refine athen_n ?_
      refine AWP.sub [(0, _), (3, _), (8, _), (9, _), (12, _), (33, _)] ⟨rfl, rfl, rfl, rfl, rfl, rfl, trivial⟩ ?_
      refine AWP.region ?_
      refine rC (Calm.move rfl) ?_
      refine rC (Calm.move rfl) ?_
      refine rC (Calm.move rfl) ?_
      refine rC (Calm.move rfl) ?_
      refine rC (Calm.move rfl) ?_
      refine ARun.call (lit_lt rfl) go_200 rfl (soC_sift C b room n cap hb hn (swp d2 a (a + k)) (R2.swp _ _ (by omega) (by omega)) _ _ _ 0 k a rfl rw_ rfl (by omega) (by omega)) ?_
      rintro _ _ ⟨rfl, R3⟩
      refine arun_nil ?_
      refine ain_n ?_
      refine athen_n ?_
      refine AWP.sub [(0, _), (3, _), (8, _), (9, _), (12, _), (33, _)] ⟨rfl, rfl, rfl, rfl, rfl, rfl, trivial⟩ ?_
      refine AWP.region ?_
      refine rC (Calm.move rfl) ?_
      refine rC (Calm.bin rfl rfl b_sub_i64) ?_
      refine rC (Calm.assign rfl) ?_
      refine arun_nil ?_
      refine athen_n ?_
      refine ⟨(k, siftDown (lq cf) k a 0 (swp d2 a (a + k))), ?_, ?_, ?_, ?_⟩
      all_goals (try dsimp only)
      · exact ⟨sb_, sb_, sb_, sb_, sb_, trivial⟩
      · exact Mem.Less.refl _
      · exact ⟨by omega, R3, k3⟩
      · omega
    · obtain rfl : k = 0 := by omega
      refine AWP.seq ?_
      refine AWP.seq ?_
      refine AWP.region ?_
      refine rC (Calm.move rfl) ?_
      refine rC (Calm.bin rfl rfl b_geq) ?_
      refine arun_nil ?_
      refine athen_n ?_
      refine AWP.sub [(0, _), (3, _), (8, _), (9, _), (12, _), (33, _)] ⟨rfl, rfl, rfl, rfl, rfl, rfl, trivial⟩ ?_
      refine AWP.condF rfl (by first | rfl | (simp; done) | (simp; omega)) ?_
      refine AWP.exit ?_
      refine athen_exit ?_
      refine athen_exit ?_
      refine ain_same ?_
      refine ⟨_, _, rfl, Mem.Less.refl _, ?_⟩
      rw [← k3]; exact ⟨rfl, R2⟩
set_option maxHeartbeats 4000000 in
theorem soC_part {α : Type} [Inhabited α] {enc : α → Value} {cf : α → α → Int} {okP : α → Prop} {g : Nat} {cb : List Value} {S : Mem} (C : CmpC Try.prog enc cf okP g cb S) (b room n cap : Nat) (hb : Fresh S b) (hn : n ≤ 1048576) (d : Array α) (R : Rw okP n d) (ia ie ip : Int) (a e p : Nat) (ha : ia = a) (he : ie = e) (hpp : ip = p) (hap : a ≤ p) (hpe : p < e) (hen : e ≤ n) :
    ACall Try.prog 174 #[.slice (some ⟨b, 0, none⟩) n cap, .int .i64 ia, .int .i64 ie, .int .i64 ip, .func (.func g) #[] cb.toArray] (S.set b ⟨3, (d).toList.map enc, room⟩) fun r S' => PartR α (fun x : Array α => S.set b ⟨3, (x).toList.map enc, room⟩) okP n (partition (lq cf) d a e p) a e r S' := by
  subst ha he hpp
  obtain ⟨J, rfl⟩ : ∃ J, e = J + 1 := ⟨e - 1, by omega⟩
  have R0 := R.swp a p (by omega) (by omega)
  have z := R.size
  obtain ⟨d0, hd0⟩ : ∃ d0, d0 = swp d a p := ⟨_, rfl⟩
  rw [← hd0] at R0
  have z0 := R0.size
  refine ACall.enter (args := [.slice (some ⟨b, 0, none⟩) n cap, .int .i64 a, .int .i64 ((J + 1 : Nat) : Int), .int .i64 p, .func (.func g) #[] cb.toArray]) (rs := [.tmp 10, .tmp 11]) 178 [(0, .slice (some ⟨b, 0, none⟩) n cap), (1, .int .i64 a), (2, .int .i64 ((J + 1 : Nat) : Int)), (3, .int .i64 p), (4, .func (.func g) #[] cb.toArray)] Try.func174 rfl rfl (Nat.le_of_ble_eq_true rfl) rfl ⟨rfl, rfl, rfl, rfl, rfl, trivial⟩ ?_
  refine AWP.seq ?_
  refine AWP.region ?_
  refine rC (Calm.assign rfl) ?_
  refine rC (Calm.assign rfl) ?_
  refine arun_nil ?_
  refine athen_n ?_
  refine AWP.seq ?_
  refine AWP.draw [(0, true), (1, true), (2, true), (3, true), (4, true), (5, true), (6, true), (7, true), (8, true), (9, true), (10, true), (11, true), (12, true), (13, false), (14, true), (15, false)] [13, 15] mixed (by kernel_rfl) ?_
  refine dP (hc := fun _ => Calm.move rfl) (h := ?_)
  refine dP (hc := fun _ => Calm.move rfl) (h := ?_)
  refine dP (hc := fun _ => Calm.move rfl) (h := ?_)
  refine dP (hc := fun _ => Calm.move rfl) (h := ?_)
  refine dP (hc := fun _ => Calm.move rfl) (h := ?_)
  refine dP (hc := fun _ => Calm.move rfl) (h := ?_)
  refine dP (hc := fun _ => Calm.indexS Try.underlying24 ty_size_3 rfl rfl (by omega) (by omega)) (h := ?_)
  refine dC (hc := Calm.load ty_plain_3 rfl (rd_row (k := p) own_ rw_ rw_)) (h := ?_)
  refine dP (hc := fun _ => Calm.move rfl) (h := ?_)
  refine dP (hc := fun _ => Calm.move rfl) (h := ?_)
  refine dP (hc := fun _ => Calm.indexS Try.underlying24 ty_size_3 rfl rfl (by omega) (by omega)) (h := ?_)
  refine dC (hc := Calm.load ty_plain_3 rfl (rd_row (k := a) own_ rw_ rw_)) (h := ?_)
  refine dP (hc := fun _ => Calm.indexS Try.underlying24 ty_size_3 rfl rfl (by omega) (by omega)) (h := ?_)
  refine draw_only rfl ?_
  refine ARun.storeRow enc (a) rfl rfl ty_size_3 (C.one _) own_ rw_ rw_ ?_
  (try simp only [Mem.set_set, List.set_cons_zero, List.set_cons_succ, Nat.zero_add, Nat.reduceAdd])
  refine arun_nil ⟨fun h => absurd h (by decide), ?_⟩
  refine dP (hc := fun _ => Calm.indexS Try.underlying24 ty_size_3 rfl rfl (by omega) (by omega)) (h := ?_)
  refine draw_only rfl ?_
  refine ARun.storeRow enc (p) rfl rfl ty_size_3 (C.one _) own_ rw_ rw_ ?_
  (try simp only [Mem.set_set, List.set_cons_zero, List.set_cons_succ, Nat.zero_add, Nat.reduceAdd])
  refine arun_nil ⟨fun h => absurd h (by decide), ?_⟩
  refine draw_nil ?_
  refine athen_n ?_
  refine AWP.sub [(0, _), (1, _), (2, _), (3, _), (4, _), (10, _), (11, _)] ⟨rfl, rfl, rfl, rfl, rfl, rfl, rfl, trivial⟩ ?_
  refine AWP.less (S.set b ⟨3, (d0).toList.map enc, room⟩) (by rw [hd0]; exact Mem.Less.refl _) ?_
  refine AWP.seq ?_
  refine AWP.region ?_
  refine rC (Calm.move rfl) ?_
  refine rC (Calm.bin rfl rfl b_add_i64) ?_
  refine rC (Calm.move rfl) ?_
  refine rC (Calm.bin rfl rfl b_sub_i64) ?_
  refine rC (Calm.assign rfl) ?_
  refine rC (Calm.assign rfl) ?_
  refine arun_nil ?_
  refine athen_n ?_
  refine AWP.sub [(0, _), (1, _), (2, _), (3, _), (4, _), (10, _), (11, _), (12, _), (13, _)] ⟨rfl, rfl, rfl, rfl, rfl, rfl, rfl, rfl, rfl, trivial⟩ ?_
  refine AWP.seq ?_
  refine AWP.join (X := Nat) (fun x => [(0, .slice (some ⟨b, 0, none⟩) n cap), (1, .int .i64 a), (4, .func (.func g) #[] cb.toArray), (12, .int .i64 x), (13, .int .i64 J)]) (fun _ => S.set b ⟨3, (d0).toList.map enc, room⟩) (fun x => a + 1 ≤ x ∧ x ≤ J + 1 ∧ x = scanUp (fun x => (lq cf) x d0[a]!) d0 (J) (a + 1)) ?_ ?_
  · refine AWP.block ?_
    refine AWP.loop (X := Nat) (fun x => [(0, .slice (some ⟨b, 0, none⟩) n cap), (1, .int .i64 a), (4, .func (.func g) #[] cb.toArray), (12, .int .i64 x), (13, .int .i64 J)]) (fun _ => S.set b ⟨3, (d0).toList.map enc, room⟩) (fun x => a + 1 ≤ x ∧ x ≤ J + 1 ∧ scanUp (fun x => (lq cf) x d0[a]!) d0 (J) x = scanUp (fun x => (lq cf) x d0[a]!) d0 (J) (a + 1)) (fun x => J + 1 - x) ((a + 1)) ⟨sb_, sb_, sb_, sb_, sb_, trivial⟩ (Mem.Less.refl _) (⟨by omega, by omega, rfl⟩) ?_
    rintro i ⟨q1, q2, q3⟩
    (try dsimp only at *)
    by_cases hij : i ≤ J
    · refine AWP.seq ?_
      refine AWP.seq ?_
      refine AWP.draw [(0, true), (1, true), (2, true), (3, true), (4, true), (5, true), (6, true), (7, true), (8, true), (9, true), (10, true), (11, true), (12, true), (13, false), (14, true), (15, true)] [] mixed (by kernel_rfl) ?_
      refine dP (hc := fun _ => Calm.move rfl) (h := ?_)
      refine dP (hc := fun _ => Calm.move rfl) (h := ?_)
      refine dP (hc := fun _ => Calm.bin rfl rfl b_leq) (h := ?_)
      refine dP (hc := fun _ => Calm.move rfl) (h := ?_)
      first | refine dS ?_ | refine dU ?_ | refine dG (hc := fun _ => Calm.move rfl) (h := ?_)
      first | refine dS ?_ | refine dU ?_ | refine dG (hc := fun _ => Calm.move rfl) (h := ?_)
      first | refine dS ?_ | refine dU ?_ | refine dG (hc := fun _ => Calm.move rfl) (h := ?_)
      first | refine dS ?_ | refine dU ?_ | refine dG (hc := fun _ => Calm.indexS Try.underlying24 ty_size_3 rfl rfl (by omega) (by omega)) (h := ?_)
      first | refine dS ?_ | refine dU ?_ | refine dL (hc := Calm.load ty_plain_3 rfl (rd_row (k := i) own_ rw_ rw_)) (h := ?_)
      first | refine dS ?_ | refine dU ?_ | refine dG (hc := fun _ => Calm.move rfl) (h := ?_)
      first | refine dS ?_ | refine dU ?_ | refine dG (hc := fun _ => Calm.move rfl) (h := ?_)
      first | refine dS ?_ | refine dU ?_ | refine dG (hc := fun _ => Calm.indexS Try.underlying24 ty_size_3 rfl rfl (by omega) (by omega)) (h := ?_)
      first | refine dS ?_ | refine dU ?_ | refine dL (hc := Calm.load ty_plain_3 rfl (rd_row (k := a) own_ rw_ rw_)) (h := ?_)
      refine draw_only rfl ?_
      refine rUn 35 ?_
      refine ARun.callV (first := []) (cap := cb) (lit_lt rfl) C.go rfl rfl (C.call less_ (R0.ok (i) rw_) (R0.ok (a) rw_)) ?_
      rintro _ _ ⟨rfl, rfl⟩
      refine arun_nil ⟨fun _ => less_, ?_⟩
      first | refine dS ?_ | refine dU ?_ | refine dG (hc := fun _ => Calm.bin rfl rfl b_lss) (h := ?_)
      refine dP (hc := fun _ => (by first | exact Calm.pickT rfl rfl | exact Calm.pickF rfl rfl)) (h := ?_)
      refine draw_nil ?_
      refine athen_n ?_
      refine AWP.sub [(0, _), (1, _), (4, _), (12, _), (13, _), (47, _)] ⟨rfl, rfl, rfl, rfl, rfl, rfl, trivial⟩ ?_
      refine AWP.condB rfl (fun hl => ?_) (fun hl => ?_)
      · refine AWP.skip ?_
        refine athen_n ?_
        refine AWP.block ?_
        refine AWP.region ?_
        refine rC (Calm.move rfl) ?_
        refine rC (Calm.bin rfl rfl b_add_i64) ?_
        refine rC (Calm.assign rfl) ?_
        refine arun_nil ?_
        refine ain_n ?_
        refine athen_n ?_
        refine ⟨i + 1, ?_, ?_, ?_, ?_⟩
        all_goals (try dsimp only)
        · exact ⟨sb_, sb_, sb_, sb_, sb_, trivial⟩
        · exact Mem.Less.refl _
        · exact ⟨by omega, by omega, (up_go (p := (fun x => (lq cf) x d0[a]!)) hij (by simp only [lq_, hl, Bool.not_true, Bool.not_false])).trans q3⟩
        · omega
      · refine AWP.exit ?_
        refine athen_exit ?_
        refine athen_exit ?_
        refine ain_same ?_
        refine ⟨i, ?_, ?_, ?_⟩
        all_goals (try dsimp only)
        · exact ⟨by omega, by omega, (up_no (p := (fun x => (lq cf) x d0[a]!)) (by simp only [lq_, hl, Bool.not_true, Bool.not_false])).trans q3⟩
        · exact ⟨sb_, sb_, sb_, sb_, sb_, trivial⟩
        · exact Mem.Less.refl _
    · refine AWP.seq ?_
      refine AWP.seq ?_
      refine AWP.draw [(0, true), (1, true), (2, true), (3, true), (4, true), (5, true), (6, true), (7, true), (8, true), (9, true), (10, true), (11, true), (12, true), (13, false), (14, true), (15, true)] [] mixed (by kernel_rfl) ?_
      refine dP (hc := fun _ => Calm.move rfl) (h := ?_)
      refine dP (hc := fun _ => Calm.move rfl) (h := ?_)
      refine dP (hc := fun _ => Calm.bin rfl rfl b_leq) (h := ?_)
      refine dP (hc := fun _ => Calm.move rfl) (h := ?_)
      first | refine dS ?_ | refine dU ?_ | refine dG (hc := fun _ => Calm.move rfl) (h := ?_)
      first | refine dS ?_ | refine dU ?_ | refine dG (hc := fun _ => Calm.move rfl) (h := ?_)
      first | refine dS ?_ | refine dU ?_ | refine dG (hc := fun _ => Calm.move rfl) (h := ?_)
      first | refine dS ?_ | refine dU ?_ | refine dG (hc := fun _ => Calm.indexS Try.underlying24 ty_size_3 rfl rfl (by omega) (by omega)) (h := ?_)
      first | refine dS ?_ | refine dU ?_ | refine dL (hc := Calm.load ty_plain_3 rfl (rd_row (k := i) own_ rw_ rw_)) (h := ?_)
      first | refine dS ?_ | refine dU ?_ | refine dG (hc := fun _ => Calm.move rfl) (h := ?_)
      first | refine dS ?_ | refine dU ?_ | refine dG (hc := fun _ => Calm.move rfl) (h := ?_)
      first | refine dS ?_ | refine dU ?_ | refine dG (hc := fun _ => Calm.indexS Try.underlying24 ty_size_3 rfl rfl (by omega) (by omega)) (h := ?_)
      first | refine dS ?_ | refine dU ?_ | refine dL (hc := Calm.load ty_plain_3 rfl (rd_row (k := a) own_ rw_ rw_)) (h := ?_)
      refine draw_only rfl ?_
      first | refine rS 35 ?_ | refine rU 35 ?_
      refine arun_nil ⟨fun _ => less_, ?_⟩
      first | refine dS ?_ | refine dU ?_ | refine dG (hc := fun _ => Calm.bin rfl rfl b_lss) (h := ?_)
      refine dP (hc := fun _ => (by first | exact Calm.pickT rfl rfl | exact Calm.pickF rfl rfl)) (h := ?_)
      refine draw_nil ?_
      refine athen_n ?_
      refine AWP.sub [(0, _), (1, _), (4, _), (12, _), (13, _), (47, _)] ⟨rfl, rfl, rfl, rfl, rfl, rfl, trivial⟩ ?_
      refine AWP.condF rfl (by first | rfl | (simp; done) | (simp; omega)) ?_
      refine AWP.exit ?_
      refine athen_exit ?_
      refine athen_exit ?_
      refine ain_same ?_
      refine ⟨i, ?_, ?_, ?_⟩
      all_goals (try dsimp only)
      · exact ⟨by omega, by omega, (up_end (p := (fun x => (lq cf) x d0[a]!)) hij).trans q3⟩
      · exact ⟨sb_, sb_, sb_, sb_, sb_, trivial⟩
      · exact Mem.Less.refl _
  rintro i2 ⟨b1, b2, hU⟩
  intro _ _ hs_ hl_
  (try dsimp only at *)
  refine athen_n ?_
  refine AWP.sub _ hs_ (AWP.less _ hl_ ?_)
  clear hs_ hl_
  refine AWP.seq ?_
  refine AWP.join (X := Nat) (fun x => [(0, .slice (some ⟨b, 0, none⟩) n cap), (1, .int .i64 a), (4, .func (.func g) #[] cb.toArray), (12, .int .i64 i2), (13, .int .i64 x)]) (fun _ => S.set b ⟨3, (d0).toList.map enc, room⟩) (fun x => a ≤ x ∧ x ≤ J ∧ x = scanDown (fun x => !(lq cf) x d0[a]!) d0 i2 J) ?_ ?_
  · refine AWP.block ?_
    refine AWP.loop (X := Nat) (fun x => [(0, .slice (some ⟨b, 0, none⟩) n cap), (1, .int .i64 a), (4, .func (.func g) #[] cb.toArray), (12, .int .i64 i2), (13, .int .i64 x)]) (fun _ => S.set b ⟨3, (d0).toList.map enc, room⟩) (fun x => a ≤ x ∧ x ≤ J ∧ scanDown (fun x => !(lq cf) x d0[a]!) d0 i2 x = scanDown (fun x => !(lq cf) x d0[a]!) d0 i2 J) (fun x => x) (J) ⟨sb_, sb_, sb_, sb_, sb_, trivial⟩ (Mem.Less.refl _) (⟨by omega, by omega, rfl⟩) ?_
    rintro j ⟨q1, q2, q3⟩
    (try dsimp only at *)
    by_cases hij : i2 ≤ j
    · obtain ⟨j, rfl⟩ : ∃ q, j = q + 1 := ⟨j - 1, by omega⟩
      refine AWP.seq ?_
      refine AWP.seq ?_
      refine AWP.draw [(0, true), (1, true), (2, true), (3, true), (4, true), (5, true), (6, true), (7, true), (8, true), (9, true), (10, true), (11, true), (12, true), (13, false), (14, true), (15, true), (16, true)] [] mixed (by kernel_rfl) ?_
      refine dP (hc := fun _ => Calm.move rfl) (h := ?_)
      refine dP (hc := fun _ => Calm.move rfl) (h := ?_)
      refine dP (hc := fun _ => Calm.bin rfl rfl b_leq) (h := ?_)
      refine dP (hc := fun _ => Calm.move rfl) (h := ?_)
      first | refine dS ?_ | refine dU ?_ | refine dG (hc := fun _ => Calm.move rfl) (h := ?_)
      first | refine dS ?_ | refine dU ?_ | refine dG (hc := fun _ => Calm.move rfl) (h := ?_)
      first | refine dS ?_ | refine dU ?_ | refine dG (hc := fun _ => Calm.move rfl) (h := ?_)
      first | refine dS ?_ | refine dU ?_ | refine dG (hc := fun _ => Calm.indexS Try.underlying24 ty_size_3 rfl rfl (by omega) (by omega)) (h := ?_)
      first | refine dS ?_ | refine dU ?_ | refine dL (hc := Calm.load ty_plain_3 rfl (rd_row (k := j + 1) own_ rw_ rw_)) (h := ?_)
      first | refine dS ?_ | refine dU ?_ | refine dG (hc := fun _ => Calm.move rfl) (h := ?_)
      first | refine dS ?_ | refine dU ?_ | refine dG (hc := fun _ => Calm.move rfl) (h := ?_)
      first | refine dS ?_ | refine dU ?_ | refine dG (hc := fun _ => Calm.indexS Try.underlying24 ty_size_3 rfl rfl (by omega) (by omega)) (h := ?_)
      first | refine dS ?_ | refine dU ?_ | refine dL (hc := Calm.load ty_plain_3 rfl (rd_row (k := a) own_ rw_ rw_)) (h := ?_)
      refine draw_only rfl ?_
      refine rUn 53 ?_
      refine ARun.callV (first := []) (cap := cb) (lit_lt rfl) C.go rfl rfl (C.call less_ (R0.ok (j + 1) rw_) (R0.ok (a) rw_)) ?_
      rintro _ _ ⟨rfl, rfl⟩
      refine arun_nil ⟨fun _ => less_, ?_⟩
      first | refine dS ?_ | refine dU ?_ | refine dG (hc := fun _ => Calm.bin rfl rfl b_lss) (h := ?_)
      first | refine dS ?_ | refine dU ?_ | refine dG (hc := fun _ => Calm.un rfl (una_not _)) (h := ?_)
      refine dP (hc := fun _ => (by first | exact Calm.pickT rfl rfl | exact Calm.pickF rfl rfl)) (h := ?_)
      refine draw_nil ?_
      refine athen_n ?_
      refine AWP.sub [(0, _), (1, _), (4, _), (12, _), (13, _), (66, _)] ⟨rfl, rfl, rfl, rfl, rfl, rfl, trivial⟩ ?_
      refine AWP.condB rfl (fun hl => ?_) (fun hl => ?_)
      · have hl := nt_ hl
        refine AWP.skip ?_
        refine athen_n ?_
        refine AWP.block ?_
        refine AWP.region ?_
        refine rC (Calm.move rfl) ?_
        refine rC (Calm.bin rfl rfl b_sub_i64) ?_
        refine rC (Calm.assign rfl) ?_
        refine arun_nil ?_
        refine ain_n ?_
        refine athen_n ?_
        refine ⟨j, ?_, ?_, ?_, ?_⟩
        all_goals (try dsimp only)
        · exact ⟨sb_, sb_, sb_, sb_, sb_, trivial⟩
        · exact Mem.Less.refl _
        · exact ⟨by omega, by omega, (down_go (p := (fun x => !(lq cf) x d0[a]!)) hij (by simp only [lq_, hl, Bool.not_true, Bool.not_false])).trans q3⟩
        · omega
      · have hl := nf_ hl
        refine AWP.exit ?_
        refine athen_exit ?_
        refine athen_exit ?_
        refine ain_same ?_
        refine ⟨(j + 1), ?_, ?_, ?_⟩
        all_goals (try dsimp only)
        · exact ⟨by omega, by omega, (down_no (p := (fun x => !(lq cf) x d0[a]!)) (by omega) (by simp only [lq_, hl, Bool.not_true, Bool.not_false])).trans q3⟩
        · exact ⟨sb_, sb_, sb_, sb_, sb_, trivial⟩
        · exact Mem.Less.refl _
    · refine AWP.seq ?_
      refine AWP.seq ?_
      refine AWP.draw [(0, true), (1, true), (2, true), (3, true), (4, true), (5, true), (6, true), (7, true), (8, true), (9, true), (10, true), (11, true), (12, true), (13, false), (14, true), (15, true), (16, true)] [] mixed (by kernel_rfl) ?_
      refine dP (hc := fun _ => Calm.move rfl) (h := ?_)
      refine dP (hc := fun _ => Calm.move rfl) (h := ?_)
      refine dP (hc := fun _ => Calm.bin rfl rfl b_leq) (h := ?_)
      refine dP (hc := fun _ => Calm.move rfl) (h := ?_)
      first | refine dS ?_ | refine dU ?_ | refine dG (hc := fun _ => Calm.move rfl) (h := ?_)
      first | refine dS ?_ | refine dU ?_ | refine dG (hc := fun _ => Calm.move rfl) (h := ?_)
      first | refine dS ?_ | refine dU ?_ | refine dG (hc := fun _ => Calm.move rfl) (h := ?_)
      first | refine dS ?_ | refine dU ?_ | refine dG (hc := fun _ => Calm.indexS Try.underlying24 ty_size_3 rfl rfl (by omega) (by omega)) (h := ?_)
      first | refine dS ?_ | refine dU ?_ | refine dL (hc := Calm.load ty_plain_3 rfl (rd_row (k := j + 1) own_ rw_ rw_)) (h := ?_)
      first | refine dS ?_ | refine dU ?_ | refine dG (hc := fun _ => Calm.move rfl) (h := ?_)
      first | refine dS ?_ | refine dU ?_ | refine dG (hc := fun _ => Calm.move rfl) (h := ?_)
      first | refine dS ?_ | refine dU ?_ | refine dG (hc := fun _ => Calm.indexS Try.underlying24 ty_size_3 rfl rfl (by omega) (by omega)) (h := ?_)
      first | refine dS ?_ | refine dU ?_ | refine dL (hc := Calm.load ty_plain_3 rfl (rd_row (k := a) own_ rw_ rw_)) (h := ?_)
      refine draw_only rfl ?_
      first | refine rS 53 ?_ | refine rU 53 ?_
      refine arun_nil ⟨fun _ => less_, ?_⟩
      first | refine dS ?_ | refine dU ?_ | refine dG (hc := fun _ => Calm.bin rfl rfl b_lss) (h := ?_)
      first | refine dS ?_ | refine dU ?_ | refine dG (hc := fun _ => Calm.un rfl (una_not _)) (h := ?_)
      refine dP (hc := fun _ => (by first | exact Calm.pickT rfl rfl | exact Calm.pickF rfl rfl)) (h := ?_)
      refine draw_nil ?_
      refine athen_n ?_
      refine AWP.sub [(0, _), (1, _), (4, _), (12, _), (13, _), (66, _)] ⟨rfl, rfl, rfl, rfl, rfl, rfl, trivial⟩ ?_
      refine AWP.condF rfl (by first | rfl | (simp; done) | (simp; omega)) ?_
      refine AWP.exit ?_
      refine athen_exit ?_
      refine athen_exit ?_
      refine ain_same ?_
      refine ⟨j, ?_, ?_, ?_⟩
      all_goals (try dsimp only)
      · exact ⟨by omega, by omega, (down_end (p := (fun x => !(lq cf) x d0[a]!)) hij).trans q3⟩
      · exact ⟨sb_, sb_, sb_, sb_, sb_, trivial⟩
      · exact Mem.Less.refl _
  rintro j2 ⟨b3, b4, hD⟩
  intro _ _ hs_ hl_
  (try dsimp only at *)
  refine athen_n ?_
  refine AWP.sub _ hs_ (AWP.less _ hl_ ?_)
  clear hs_ hl_
  by_cases hx : j2 < i2
  · refine AWP.seq ?_
    refine AWP.seq ?_
    refine AWP.region ?_
    refine rC (Calm.move rfl) ?_
    refine rC (Calm.move rfl) ?_
    refine rC (Calm.bin rfl rfl b_gtr) ?_
    refine arun_nil ?_
    refine athen_n ?_
    refine AWP.sub [(0, _), (1, _), (4, _), (12, _), (13, _), (71, _)] ⟨rfl, rfl, rfl, rfl, rfl, rfl, trivial⟩ ?_
    refine AWP.condT rfl (by first | rfl | (simp; done) | (simp; omega)) ?_
    refine AWP.seq ?_
    refine AWP.draw [(0, true), (1, true), (2, true), (3, true), (4, true), (5, true), (6, true), (7, true), (8, true), (9, true), (10, true), (11, true), (12, true), (13, false), (14, true), (15, false)] [13, 15] mixed (by kernel_rfl) ?_
    refine dP (hc := fun _ => Calm.move rfl) (h := ?_)
    refine dP (hc := fun _ => Calm.move rfl) (h := ?_)
    refine dP (hc := fun _ => Calm.move rfl) (h := ?_)
    refine dP (hc := fun _ => Calm.move rfl) (h := ?_)
    refine dP (hc := fun _ => Calm.move rfl) (h := ?_)
    refine dP (hc := fun _ => Calm.move rfl) (h := ?_)
    refine dP (hc := fun _ => Calm.indexS Try.underlying24 ty_size_3 rfl rfl (by omega) (by omega)) (h := ?_)
    refine dC (hc := Calm.load ty_plain_3 rfl (rd_row (k := a) own_ rw_ rw_)) (h := ?_)
    refine dP (hc := fun _ => Calm.move rfl) (h := ?_)
    refine dP (hc := fun _ => Calm.move rfl) (h := ?_)
    refine dP (hc := fun _ => Calm.indexS Try.underlying24 ty_size_3 rfl rfl (by omega) (by omega)) (h := ?_)
    refine dC (hc := Calm.load ty_plain_3 rfl (rd_row (k := j2) own_ rw_ rw_)) (h := ?_)
    refine dP (hc := fun _ => Calm.indexS Try.underlying24 ty_size_3 rfl rfl (by omega) (by omega)) (h := ?_)
    refine draw_only rfl ?_
    refine ARun.storeRow enc (j2) rfl rfl ty_size_3 (C.one _) own_ rw_ rw_ ?_
    (try simp only [Mem.set_set, List.set_cons_zero, List.set_cons_succ, Nat.zero_add, Nat.reduceAdd])
    refine arun_nil ⟨fun h => absurd h (by decide), ?_⟩
    refine dP (hc := fun _ => Calm.indexS Try.underlying24 ty_size_3 rfl rfl (by omega) (by omega)) (h := ?_)
    refine draw_only rfl ?_
    refine ARun.storeRow enc (a) rfl rfl ty_size_3 (C.one _) own_ rw_ rw_ ?_
    (try simp only [Mem.set_set, List.set_cons_zero, List.set_cons_succ, Nat.zero_add, Nat.reduceAdd])
    refine arun_nil ⟨fun h => absurd h (by decide), ?_⟩
    refine draw_nil ?_
    refine athen_n ?_
    refine AWP.sub [(0, _), (1, _), (4, _), (12, _), (13, _), (71, _)] ⟨rfl, rfl, rfl, rfl, rfl, rfl, trivial⟩ ?_
    refine AWP.seq ?_
    refine AWP.region ?_
    refine rC (Calm.move rfl) ?_
    refine rC (Calm.assign rfl) ?_
    refine rC (Calm.assign rfl) ?_
    refine arun_nil ?_
    refine athen_n ?_
    refine AWP.sub [(0, _), (1, _), (4, _), (12, _), (13, _), (71, _), (10, _), (11, _)] ⟨rfl, rfl, rfl, rfl, rfl, rfl, rfl, rfl, trivial⟩ ?_
    refine AWP.ret ?_
    refine athen_ret ?_
    refine ⟨_, _, ⟨_, _, rfl, ⟨_, _, rfl, rfl, rfl⟩, rfl⟩, Mem.Less.refl _, ?_⟩
    exact part_res1 (lq cf) hd0 hU hD hx (R0.swp _ _ (by omega) (by omega)) (by omega) (by omega)
  · refine AWP.seq ?_
    refine AWP.seq ?_
    refine AWP.region ?_
    refine rC (Calm.move rfl) ?_
    refine rC (Calm.move rfl) ?_
    refine rC (Calm.bin rfl rfl b_gtr) ?_
    refine arun_nil ?_
    refine athen_n ?_
    refine AWP.sub [(0, _), (1, _), (4, _), (12, _), (13, _), (71, _)] ⟨rfl, rfl, rfl, rfl, rfl, rfl, trivial⟩ ?_
    refine AWP.condF rfl (by first | rfl | (simp; done) | (simp; omega)) ?_
    refine AWP.skip ?_
    refine athen_n ?_
    refine AWP.seq ?_
    refine AWP.draw [(0, true), (1, true), (2, true), (3, true), (4, true), (5, true), (6, true), (7, true), (8, true), (9, true), (10, true), (11, true), (12, true), (13, false), (14, true), (15, false)] [13, 15] mixed (by kernel_rfl) ?_
    have R1 := R0.swp i2 j2 (by omega) (by omega)
    have hst : partLoop (lq cf) a (i2 + 1) (j2 - 1) (swp d0 i2 j2) = partLoop (lq cf) a (i2 + 1) (j2 - 1) (swp d0 i2 j2) := rfl
    refine dP (hc := fun _ => Calm.move rfl) (h := ?_)
    refine dP (hc := fun _ => Calm.move rfl) (h := ?_)
    refine dP (hc := fun _ => Calm.move rfl) (h := ?_)
    refine dP (hc := fun _ => Calm.move rfl) (h := ?_)
    refine dP (hc := fun _ => Calm.move rfl) (h := ?_)
    refine dP (hc := fun _ => Calm.move rfl) (h := ?_)
    refine dP (hc := fun _ => Calm.indexS Try.underlying24 ty_size_3 rfl rfl (by omega) (by omega)) (h := ?_)
    refine dC (hc := Calm.load ty_plain_3 rfl (rd_row (k := j2) own_ rw_ rw_)) (h := ?_)
    refine dP (hc := fun _ => Calm.move rfl) (h := ?_)
    refine dP (hc := fun _ => Calm.move rfl) (h := ?_)
    refine dP (hc := fun _ => Calm.indexS Try.underlying24 ty_size_3 rfl rfl (by omega) (by omega)) (h := ?_)
    refine dC (hc := Calm.load ty_plain_3 rfl (rd_row (k := i2) own_ rw_ rw_)) (h := ?_)
    refine dP (hc := fun _ => Calm.indexS Try.underlying24 ty_size_3 rfl rfl (by omega) (by omega)) (h := ?_)
    refine draw_only rfl ?_
    refine ARun.storeRow enc (i2) rfl rfl ty_size_3 (C.one _) own_ rw_ rw_ ?_
    (try simp only [Mem.set_set, List.set_cons_zero, List.set_cons_succ, Nat.zero_add, Nat.reduceAdd])
    refine arun_nil ⟨fun h => absurd h (by decide), ?_⟩
    refine dP (hc := fun _ => Calm.indexS Try.underlying24 ty_size_3 rfl rfl (by omega) (by omega)) (h := ?_)
    refine draw_only rfl ?_
    refine ARun.storeRow enc (j2) rfl rfl ty_size_3 (C.one _) own_ rw_ rw_ ?_
    (try simp only [Mem.set_set, List.set_cons_zero, List.set_cons_succ, Nat.zero_add, Nat.reduceAdd])
    refine arun_nil ⟨fun h => absurd h (by decide), ?_⟩
    refine draw_nil ?_
    refine athen_n ?_
    refine AWP.sub [(0, _), (1, _), (4, _), (12, _), (13, _), (71, _)] ⟨rfl, rfl, rfl, rfl, rfl, rfl, trivial⟩ ?_
    refine AWP.seq ?_
    refine AWP.region ?_
    refine rC (Calm.move rfl) ?_
    refine rC (Calm.bin rfl rfl b_add_i64) ?_
    refine rC (Calm.assign rfl) ?_
    refine arun_nil ?_
    refine athen_n ?_
    refine AWP.sub [(0, _), (1, _), (4, _), (12, _), (13, _), (71, _)] ⟨rfl, rfl, rfl, rfl, rfl, rfl, trivial⟩ ?_
    refine AWP.seq ?_
    refine AWP.region ?_
    refine rC (Calm.move rfl) ?_
    refine rC (Calm.bin rfl rfl b_sub_i64) ?_
    refine rC (Calm.assign rfl) ?_
    refine arun_nil ?_
    refine athen_n ?_
    refine AWP.sub [(0, _), (1, _), (4, _), (12, _), (13, _), (71, _)] ⟨rfl, rfl, rfl, rfl, rfl, rfl, trivial⟩ ?_
    refine AWP.seq ?_
    refine AWP.join (X := Nat × Array α) (fun x => [(0, .slice (some ⟨b, 0, none⟩) n cap), (1, .int .i64 a), (13, .int .i64 x.1)]) (fun x => S.set b ⟨3, (x.2).toList.map enc, room⟩) (fun x => a ≤ x.1 ∧ x.1 ≤ J ∧ Rw okP n x.2 ∧ (x.1, x.2) = partLoop (lq cf) a (i2 + 1) (j2 - 1) (swp d0 i2 j2)) ?_ ?_
    · refine AWP.block ?_
      refine AWP.loop (X := Nat × Nat × Array α) (fun x => [(0, .slice (some ⟨b, 0, none⟩) n cap), (1, .int .i64 a), (4, .func (.func g) #[] cb.toArray), (12, .int .i64 x.1), (13, .int .i64 x.2.1)]) (fun x => S.set b ⟨3, (x.2.2).toList.map enc, room⟩) (fun x => a + 1 ≤ x.1 ∧ x.1 ≤ J + 1 ∧ a ≤ x.2.1 ∧ x.2.1 ≤ J ∧ Rw okP n x.2.2 ∧ partLoop (lq cf) a x.1 x.2.1 x.2.2 = partLoop (lq cf) a (i2 + 1) (j2 - 1) (swp d0 i2 j2)) (fun x => J + 1 - x.1) ((i2 + 1, j2 - 1, swp d0 i2 j2)) ⟨sb_, sb_, sb_, sb_, sb_, trivial⟩ (Mem.Less.refl _) (⟨by dsimp only; omega, by dsimp only; omega, by dsimp only; omega, by dsimp only; omega, R1, rfl⟩) ?_
      rintro ⟨I2, J2, d2⟩ ⟨m1, m2, m4, m5, R2, m3⟩
      (try dsimp only at *)
      have z2 := R2.size
      refine AWP.block ?_
      refine AWP.seq ?_
      refine AWP.join (X := Nat) (fun x => [(0, .slice (some ⟨b, 0, none⟩) n cap), (1, .int .i64 a), (4, .func (.func g) #[] cb.toArray), (12, .int .i64 x), (13, .int .i64 J2)]) (fun _ => S.set b ⟨3, (d2).toList.map enc, room⟩) (fun x => a + 1 ≤ x ∧ x ≤ J + 1 ∧ x = scanUp (fun x => (lq cf) x d2[a]!) d2 (J2) I2) ?_ ?_
      · refine AWP.block ?_
        refine AWP.loop (X := Nat) (fun x => [(0, .slice (some ⟨b, 0, none⟩) n cap), (1, .int .i64 a), (4, .func (.func g) #[] cb.toArray), (12, .int .i64 x), (13, .int .i64 J2)]) (fun _ => S.set b ⟨3, (d2).toList.map enc, room⟩) (fun x => a + 1 ≤ x ∧ x ≤ J + 1 ∧ scanUp (fun x => (lq cf) x d2[a]!) d2 (J2) x = scanUp (fun x => (lq cf) x d2[a]!) d2 (J2) I2) (fun x => J + 1 - x) (I2) ⟨sb_, sb_, sb_, sb_, sb_, trivial⟩ (Mem.Less.refl _) (⟨by omega, by omega, rfl⟩) ?_
        rintro i ⟨q1, q2, q3⟩
        (try dsimp only at *)
        by_cases hij : i ≤ J2
        · refine AWP.seq ?_
          refine AWP.seq ?_
          refine AWP.draw [(0, true), (1, true), (2, true), (3, true), (4, true), (5, true), (6, true), (7, true), (8, true), (9, true), (10, true), (11, true), (12, true), (13, false), (14, true), (15, true)] [] mixed (by kernel_rfl) ?_
          refine dP (hc := fun _ => Calm.move rfl) (h := ?_)
          refine dP (hc := fun _ => Calm.move rfl) (h := ?_)
          refine dP (hc := fun _ => Calm.bin rfl rfl b_leq) (h := ?_)
          refine dP (hc := fun _ => Calm.move rfl) (h := ?_)
          first | refine dS ?_ | refine dU ?_ | refine dG (hc := fun _ => Calm.move rfl) (h := ?_)
          first | refine dS ?_ | refine dU ?_ | refine dG (hc := fun _ => Calm.move rfl) (h := ?_)
          first | refine dS ?_ | refine dU ?_ | refine dG (hc := fun _ => Calm.move rfl) (h := ?_)
          first | refine dS ?_ | refine dU ?_ | refine dG (hc := fun _ => Calm.indexS Try.underlying24 ty_size_3 rfl rfl (by omega) (by omega)) (h := ?_)
          first | refine dS ?_ | refine dU ?_ | refine dL (hc := Calm.load ty_plain_3 rfl (rd_row (k := i) own_ rw_ rw_)) (h := ?_)
          first | refine dS ?_ | refine dU ?_ | refine dG (hc := fun _ => Calm.move rfl) (h := ?_)
          first | refine dS ?_ | refine dU ?_ | refine dG (hc := fun _ => Calm.move rfl) (h := ?_)
          first | refine dS ?_ | refine dU ?_ | refine dG (hc := fun _ => Calm.indexS Try.underlying24 ty_size_3 rfl rfl (by omega) (by omega)) (h := ?_)
          first | refine dS ?_ | refine dU ?_ | refine dL (hc := Calm.load ty_plain_3 rfl (rd_row (k := a) own_ rw_ rw_)) (h := ?_)
          refine draw_only rfl ?_
          refine rUn 108 ?_
          refine ARun.callV (first := []) (cap := cb) (lit_lt rfl) C.go rfl rfl (C.call less_ (R2.ok (i) rw_) (R2.ok (a) rw_)) ?_
          rintro _ _ ⟨rfl, rfl⟩
          refine arun_nil ⟨fun _ => less_, ?_⟩
          first | refine dS ?_ | refine dU ?_ | refine dG (hc := fun _ => Calm.bin rfl rfl b_lss) (h := ?_)
          refine dP (hc := fun _ => (by first | exact Calm.pickT rfl rfl | exact Calm.pickF rfl rfl)) (h := ?_)
          refine draw_nil ?_
          refine athen_n ?_
          refine AWP.sub [(0, _), (1, _), (4, _), (12, _), (13, _), (120, _)] ⟨rfl, rfl, rfl, rfl, rfl, rfl, trivial⟩ ?_
          refine AWP.condB rfl (fun hl => ?_) (fun hl => ?_)
          · refine AWP.skip ?_
            refine athen_n ?_
            refine AWP.block ?_
            refine AWP.region ?_
            refine rC (Calm.move rfl) ?_
            refine rC (Calm.bin rfl rfl b_add_i64) ?_
            refine rC (Calm.assign rfl) ?_
            refine arun_nil ?_
            refine ain_n ?_
            refine athen_n ?_
            refine ⟨i + 1, ?_, ?_, ?_, ?_⟩
            all_goals (try dsimp only)
            · exact ⟨sb_, sb_, sb_, sb_, sb_, trivial⟩
            · exact Mem.Less.refl _
            · exact ⟨by omega, by omega, (up_go (p := (fun x => (lq cf) x d2[a]!)) hij (by simp only [lq_, hl, Bool.not_true, Bool.not_false])).trans q3⟩
            · omega
          · refine AWP.exit ?_
            refine athen_exit ?_
            refine athen_exit ?_
            refine ain_same ?_
            refine ⟨i, ?_, ?_, ?_⟩
            all_goals (try dsimp only)
            · exact ⟨by omega, by omega, (up_no (p := (fun x => (lq cf) x d2[a]!)) (by simp only [lq_, hl, Bool.not_true, Bool.not_false])).trans q3⟩
            · exact ⟨sb_, sb_, sb_, sb_, sb_, trivial⟩
            · exact Mem.Less.refl _
        · refine AWP.seq ?_
          refine AWP.seq ?_
          refine AWP.draw [(0, true), (1, true), (2, true), (3, true), (4, true), (5, true), (6, true), (7, true), (8, true), (9, true), (10, true), (11, true), (12, true), (13, false), (14, true), (15, true)] [] mixed (by kernel_rfl) ?_
          refine dP (hc := fun _ => Calm.move rfl) (h := ?_)
          refine dP (hc := fun _ => Calm.move rfl) (h := ?_)
          refine dP (hc := fun _ => Calm.bin rfl rfl b_leq) (h := ?_)
          refine dP (hc := fun _ => Calm.move rfl) (h := ?_)
          first | refine dS ?_ | refine dU ?_ | refine dG (hc := fun _ => Calm.move rfl) (h := ?_)
          first | refine dS ?_ | refine dU ?_ | refine dG (hc := fun _ => Calm.move rfl) (h := ?_)
          first | refine dS ?_ | refine dU ?_ | refine dG (hc := fun _ => Calm.move rfl) (h := ?_)
          first | refine dS ?_ | refine dU ?_ | refine dG (hc := fun _ => Calm.indexS Try.underlying24 ty_size_3 rfl rfl (by omega) (by omega)) (h := ?_)
          first | refine dS ?_ | refine dU ?_ | refine dL (hc := Calm.load ty_plain_3 rfl (rd_row (k := i) own_ rw_ rw_)) (h := ?_)
          first | refine dS ?_ | refine dU ?_ | refine dG (hc := fun _ => Calm.move rfl) (h := ?_)
          first | refine dS ?_ | refine dU ?_ | refine dG (hc := fun _ => Calm.move rfl) (h := ?_)
          first | refine dS ?_ | refine dU ?_ | refine dG (hc := fun _ => Calm.indexS Try.underlying24 ty_size_3 rfl rfl (by omega) (by omega)) (h := ?_)
          first | refine dS ?_ | refine dU ?_ | refine dL (hc := Calm.load ty_plain_3 rfl (rd_row (k := a) own_ rw_ rw_)) (h := ?_)
          refine draw_only rfl ?_
          first | refine rS 108 ?_ | refine rU 108 ?_
          refine arun_nil ⟨fun _ => less_, ?_⟩
          first | refine dS ?_ | refine dU ?_ | refine dG (hc := fun _ => Calm.bin rfl rfl b_lss) (h := ?_)
          refine dP (hc := fun _ => (by first | exact Calm.pickT rfl rfl | exact Calm.pickF rfl rfl)) (h := ?_)
          refine draw_nil ?_
          refine athen_n ?_
          refine AWP.sub [(0, _), (1, _), (4, _), (12, _), (13, _), (120, _)] ⟨rfl, rfl, rfl, rfl, rfl, rfl, trivial⟩ ?_
          refine AWP.condF rfl (by first | rfl | (simp; done) | (simp; omega)) ?_
          refine AWP.exit ?_
          refine athen_exit ?_
          refine athen_exit ?_
          refine ain_same ?_
          refine ⟨i, ?_, ?_, ?_⟩
          all_goals (try dsimp only)
          · exact ⟨by omega, by omega, (up_end (p := (fun x => (lq cf) x d2[a]!)) hij).trans q3⟩
          · exact ⟨sb_, sb_, sb_, sb_, sb_, trivial⟩
          · exact Mem.Less.refl _
      rintro i2 ⟨b1, b2, hU⟩
      intro _ _ hs_ hl_
      (try dsimp only at *)
      refine athen_n ?_
      refine AWP.sub _ hs_ (AWP.less _ hl_ ?_)
      clear hs_ hl_
      refine AWP.seq ?_
      refine AWP.join (X := Nat) (fun x => [(0, .slice (some ⟨b, 0, none⟩) n cap), (1, .int .i64 a), (4, .func (.func g) #[] cb.toArray), (12, .int .i64 i2), (13, .int .i64 x)]) (fun _ => S.set b ⟨3, (d2).toList.map enc, room⟩) (fun x => a ≤ x ∧ x ≤ J ∧ x = scanDown (fun x => !(lq cf) x d2[a]!) d2 i2 J2) ?_ ?_
      · refine AWP.block ?_
        refine AWP.loop (X := Nat) (fun x => [(0, .slice (some ⟨b, 0, none⟩) n cap), (1, .int .i64 a), (4, .func (.func g) #[] cb.toArray), (12, .int .i64 i2), (13, .int .i64 x)]) (fun _ => S.set b ⟨3, (d2).toList.map enc, room⟩) (fun x => a ≤ x ∧ x ≤ J ∧ scanDown (fun x => !(lq cf) x d2[a]!) d2 i2 x = scanDown (fun x => !(lq cf) x d2[a]!) d2 i2 J2) (fun x => x) (J2) ⟨sb_, sb_, sb_, sb_, sb_, trivial⟩ (Mem.Less.refl _) (⟨by omega, by omega, rfl⟩) ?_
        rintro j ⟨q1, q2, q3⟩
        (try dsimp only at *)
        by_cases hij : i2 ≤ j
        · obtain ⟨j, rfl⟩ : ∃ q, j = q + 1 := ⟨j - 1, by omega⟩
          refine AWP.seq ?_
          refine AWP.seq ?_
          refine AWP.draw [(0, true), (1, true), (2, true), (3, true), (4, true), (5, true), (6, true), (7, true), (8, true), (9, true), (10, true), (11, true), (12, true), (13, false), (14, true), (15, true), (16, true)] [] mixed (by kernel_rfl) ?_
          refine dP (hc := fun _ => Calm.move rfl) (h := ?_)
          refine dP (hc := fun _ => Calm.move rfl) (h := ?_)
          refine dP (hc := fun _ => Calm.bin rfl rfl b_leq) (h := ?_)
          refine dP (hc := fun _ => Calm.move rfl) (h := ?_)
          first | refine dS ?_ | refine dU ?_ | refine dG (hc := fun _ => Calm.move rfl) (h := ?_)
          first | refine dS ?_ | refine dU ?_ | refine dG (hc := fun _ => Calm.move rfl) (h := ?_)
          first | refine dS ?_ | refine dU ?_ | refine dG (hc := fun _ => Calm.move rfl) (h := ?_)
          first | refine dS ?_ | refine dU ?_ | refine dG (hc := fun _ => Calm.indexS Try.underlying24 ty_size_3 rfl rfl (by omega) (by omega)) (h := ?_)
          first | refine dS ?_ | refine dU ?_ | refine dL (hc := Calm.load ty_plain_3 rfl (rd_row (k := j + 1) own_ rw_ rw_)) (h := ?_)
          first | refine dS ?_ | refine dU ?_ | refine dG (hc := fun _ => Calm.move rfl) (h := ?_)
          first | refine dS ?_ | refine dU ?_ | refine dG (hc := fun _ => Calm.move rfl) (h := ?_)
          first | refine dS ?_ | refine dU ?_ | refine dG (hc := fun _ => Calm.indexS Try.underlying24 ty_size_3 rfl rfl (by omega) (by omega)) (h := ?_)
          first | refine dS ?_ | refine dU ?_ | refine dL (hc := Calm.load ty_plain_3 rfl (rd_row (k := a) own_ rw_ rw_)) (h := ?_)
          refine draw_only rfl ?_
          refine rUn 126 ?_
          refine ARun.callV (first := []) (cap := cb) (lit_lt rfl) C.go rfl rfl (C.call less_ (R2.ok (j + 1) rw_) (R2.ok (a) rw_)) ?_
          rintro _ _ ⟨rfl, rfl⟩
          refine arun_nil ⟨fun _ => less_, ?_⟩
          first | refine dS ?_ | refine dU ?_ | refine dG (hc := fun _ => Calm.bin rfl rfl b_lss) (h := ?_)
          first | refine dS ?_ | refine dU ?_ | refine dG (hc := fun _ => Calm.un rfl (una_not _)) (h := ?_)
          refine dP (hc := fun _ => (by first | exact Calm.pickT rfl rfl | exact Calm.pickF rfl rfl)) (h := ?_)
          refine draw_nil ?_
          refine athen_n ?_
          refine AWP.sub [(0, _), (1, _), (4, _), (12, _), (13, _), (139, _)] ⟨rfl, rfl, rfl, rfl, rfl, rfl, trivial⟩ ?_
          refine AWP.condB rfl (fun hl => ?_) (fun hl => ?_)
          · have hl := nt_ hl
            refine AWP.skip ?_
            refine athen_n ?_
            refine AWP.block ?_
            refine AWP.region ?_
            refine rC (Calm.move rfl) ?_
            refine rC (Calm.bin rfl rfl b_sub_i64) ?_
            refine rC (Calm.assign rfl) ?_
            refine arun_nil ?_
            refine ain_n ?_
            refine athen_n ?_
            refine ⟨j, ?_, ?_, ?_, ?_⟩
            all_goals (try dsimp only)
            · exact ⟨sb_, sb_, sb_, sb_, sb_, trivial⟩
            · exact Mem.Less.refl _
            · exact ⟨by omega, by omega, (down_go (p := (fun x => !(lq cf) x d2[a]!)) hij (by simp only [lq_, hl, Bool.not_true, Bool.not_false])).trans q3⟩
            · omega
          · have hl := nf_ hl
            refine AWP.exit ?_
            refine athen_exit ?_
            refine athen_exit ?_
            refine ain_same ?_
            refine ⟨(j + 1), ?_, ?_, ?_⟩
            all_goals (try dsimp only)
            · exact ⟨by omega, by omega, (down_no (p := (fun x => !(lq cf) x d2[a]!)) (by omega) (by simp only [lq_, hl, Bool.not_true, Bool.not_false])).trans q3⟩
            · exact ⟨sb_, sb_, sb_, sb_, sb_, trivial⟩
            · exact Mem.Less.refl _
        · refine AWP.seq ?_
          refine AWP.seq ?_
          refine AWP.draw [(0, true), (1, true), (2, true), (3, true), (4, true), (5, true), (6, true), (7, true), (8, true), (9, true), (10, true), (11, true), (12, true), (13, false), (14, true), (15, true), (16, true)] [] mixed (by kernel_rfl) ?_
          refine dP (hc := fun _ => Calm.move rfl) (h := ?_)
          refine dP (hc := fun _ => Calm.move rfl) (h := ?_)
          refine dP (hc := fun _ => Calm.bin rfl rfl b_leq) (h := ?_)
          refine dP (hc := fun _ => Calm.move rfl) (h := ?_)
          first | refine dS ?_ | refine dU ?_ | refine dG (hc := fun _ => Calm.move rfl) (h := ?_)
          first | refine dS ?_ | refine dU ?_ | refine dG (hc := fun _ => Calm.move rfl) (h := ?_)
          first | refine dS ?_ | refine dU ?_ | refine dG (hc := fun _ => Calm.move rfl) (h := ?_)
          first | refine dS ?_ | refine dU ?_ | refine dG (hc := fun _ => Calm.indexS Try.underlying24 ty_size_3 rfl rfl (by omega) (by omega)) (h := ?_)
          first | refine dS ?_ | refine dU ?_ | refine dL (hc := Calm.load ty_plain_3 rfl (rd_row (k := j + 1) own_ rw_ rw_)) (h := ?_)
          first | refine dS ?_ | refine dU ?_ | refine dG (hc := fun _ => Calm.move rfl) (h := ?_)
          first | refine dS ?_ | refine dU ?_ | refine dG (hc := fun _ => Calm.move rfl) (h := ?_)
          first | refine dS ?_ | refine dU ?_ | refine dG (hc := fun _ => Calm.indexS Try.underlying24 ty_size_3 rfl rfl (by omega) (by omega)) (h := ?_)
          first | refine dS ?_ | refine dU ?_ | refine dL (hc := Calm.load ty_plain_3 rfl (rd_row (k := a) own_ rw_ rw_)) (h := ?_)
          refine draw_only rfl ?_
          first | refine rS 126 ?_ | refine rU 126 ?_
          refine arun_nil ⟨fun _ => less_, ?_⟩
          first | refine dS ?_ | refine dU ?_ | refine dG (hc := fun _ => Calm.bin rfl rfl b_lss) (h := ?_)
          first | refine dS ?_ | refine dU ?_ | refine dG (hc := fun _ => Calm.un rfl (una_not _)) (h := ?_)
          refine dP (hc := fun _ => (by first | exact Calm.pickT rfl rfl | exact Calm.pickF rfl rfl)) (h := ?_)
          refine draw_nil ?_
          refine athen_n ?_
          refine AWP.sub [(0, _), (1, _), (4, _), (12, _), (13, _), (139, _)] ⟨rfl, rfl, rfl, rfl, rfl, rfl, trivial⟩ ?_
          refine AWP.condF rfl (by first | rfl | (simp; done) | (simp; omega)) ?_
          refine AWP.exit ?_
          refine athen_exit ?_
          refine athen_exit ?_
          refine ain_same ?_
          refine ⟨j, ?_, ?_, ?_⟩
          all_goals (try dsimp only)
          · exact ⟨by omega, by omega, (down_end (p := (fun x => !(lq cf) x d2[a]!)) hij).trans q3⟩
          · exact ⟨sb_, sb_, sb_, sb_, sb_, trivial⟩
          · exact Mem.Less.refl _
      rintro j2 ⟨b3, b4, hD⟩
      intro _ _ hs_ hl_
      (try dsimp only at *)
      refine athen_n ?_
      refine AWP.sub _ hs_ (AWP.less _ hl_ ?_)
      clear hs_ hl_
      by_cases hx : j2 < i2
      · refine AWP.seq ?_
        refine AWP.seq ?_
        refine AWP.region ?_
        refine rC (Calm.move rfl) ?_
        refine rC (Calm.move rfl) ?_
        refine rC (Calm.bin rfl rfl b_gtr) ?_
        refine arun_nil ?_
        refine athen_n ?_
        refine AWP.sub [(0, _), (1, _), (4, _), (12, _), (13, _), (144, _)] ⟨rfl, rfl, rfl, rfl, rfl, rfl, trivial⟩ ?_
        refine AWP.condT rfl (by first | rfl | (simp; done) | (simp; omega)) ?_
        refine AWP.exit ?_
        refine athen_exit ?_
        refine ain_other rfl ?_
        refine athen_exit ?_
        refine ain_same ?_
        refine ⟨(j2, d2), ?_, ?_, ?_⟩
        all_goals (try dsimp only)
        · exact ⟨by omega, by omega, R2, (part_stop (lq cf) hU hD hx).trans m3⟩
        · exact ⟨sb_, sb_, sb_, trivial⟩
        · exact Mem.Less.refl _
      · refine AWP.seq ?_
        refine AWP.seq ?_
        refine AWP.region ?_
        refine rC (Calm.move rfl) ?_
        refine rC (Calm.move rfl) ?_
        refine rC (Calm.bin rfl rfl b_gtr) ?_
        refine arun_nil ?_
        refine athen_n ?_
        refine AWP.sub [(0, _), (1, _), (4, _), (12, _), (13, _), (144, _)] ⟨rfl, rfl, rfl, rfl, rfl, rfl, trivial⟩ ?_
        refine AWP.condF rfl (by first | rfl | (simp; done) | (simp; omega)) ?_
        refine AWP.skip ?_
        refine athen_n ?_
        refine AWP.seq ?_
        refine AWP.draw [(0, true), (1, true), (2, true), (3, true), (4, true), (5, true), (6, true), (7, true), (8, true), (9, true), (10, true), (11, true), (12, true), (13, false), (14, true), (15, false)] [13, 15] mixed (by kernel_rfl) ?_
        refine dP (hc := fun _ => Calm.move rfl) (h := ?_)
        refine dP (hc := fun _ => Calm.move rfl) (h := ?_)
        refine dP (hc := fun _ => Calm.move rfl) (h := ?_)
        refine dP (hc := fun _ => Calm.move rfl) (h := ?_)
        refine dP (hc := fun _ => Calm.move rfl) (h := ?_)
        refine dP (hc := fun _ => Calm.move rfl) (h := ?_)
        refine dP (hc := fun _ => Calm.indexS Try.underlying24 ty_size_3 rfl rfl (by omega) (by omega)) (h := ?_)
        refine dC (hc := Calm.load ty_plain_3 rfl (rd_row (k := j2) own_ rw_ rw_)) (h := ?_)
        refine dP (hc := fun _ => Calm.move rfl) (h := ?_)
        refine dP (hc := fun _ => Calm.move rfl) (h := ?_)
        refine dP (hc := fun _ => Calm.indexS Try.underlying24 ty_size_3 rfl rfl (by omega) (by omega)) (h := ?_)
        refine dC (hc := Calm.load ty_plain_3 rfl (rd_row (k := i2) own_ rw_ rw_)) (h := ?_)
        refine dP (hc := fun _ => Calm.indexS Try.underlying24 ty_size_3 rfl rfl (by omega) (by omega)) (h := ?_)
        refine draw_only rfl ?_
        refine ARun.storeRow enc (i2) rfl rfl ty_size_3 (C.one _) own_ rw_ rw_ ?_
        (try simp only [Mem.set_set, List.set_cons_zero, List.set_cons_succ, Nat.zero_add, Nat.reduceAdd])
        refine arun_nil ⟨fun h => absurd h (by decide), ?_⟩
        refine dP (hc := fun _ => Calm.indexS Try.underlying24 ty_size_3 rfl rfl (by omega) (by omega)) (h := ?_)
        refine draw_only rfl ?_
        refine ARun.storeRow enc (j2) rfl rfl ty_size_3 (C.one _) own_ rw_ rw_ ?_
        (try simp only [Mem.set_set, List.set_cons_zero, List.set_cons_succ, Nat.zero_add, Nat.reduceAdd])
        refine arun_nil ⟨fun h => absurd h (by decide), ?_⟩
        refine draw_nil ?_
        refine athen_n ?_
        refine AWP.sub [(0, _), (1, _), (4, _), (12, _), (13, _), (144, _)] ⟨rfl, rfl, rfl, rfl, rfl, rfl, trivial⟩ ?_
        refine AWP.seq ?_
        refine AWP.region ?_
        refine rC (Calm.move rfl) ?_
        refine rC (Calm.bin rfl rfl b_add_i64) ?_
        refine rC (Calm.assign rfl) ?_
        refine arun_nil ?_
        refine athen_n ?_
        refine AWP.sub [(0, _), (1, _), (4, _), (12, _), (13, _), (144, _)] ⟨rfl, rfl, rfl, rfl, rfl, rfl, trivial⟩ ?_
        refine AWP.region ?_
        refine rC (Calm.move rfl) ?_
        refine rC (Calm.bin rfl rfl b_sub_i64) ?_
        refine rC (Calm.assign rfl) ?_
        refine arun_nil ?_
        refine ain_n ?_
        refine athen_n ?_
        refine ⟨(i2 + 1, j2 - 1, swp d2 i2 j2), ?_, ?_, ?_, ?_⟩
        all_goals (try dsimp only)
        · exact ⟨sb_, sb_, sb_, sb_, sb_, trivial⟩
        · exact Mem.Less.refl _
        · exact ⟨by omega, by omega, by omega, by omega, R2.swp _ _ (by omega) (by omega), (part_go (lq cf) hU hD hx).trans m3⟩
        · (have : I2 ≤ i2 := by rw [hU]; exact Go.Sort.scanUp_ge _ _ _ _); omega
    rintro ⟨j3, d3⟩ ⟨t1, t2, R3, t3⟩
    intro _ _ hs_ hl_
    (try dsimp only at *)
    refine athen_n ?_
    refine AWP.sub _ hs_ (AWP.less _ hl_ ?_)
    clear hs_ hl_
    have z3 := R3.size
    refine AWP.seq ?_
    refine AWP.draw [(0, true), (1, true), (2, true), (3, true), (4, true), (5, true), (6, true), (7, true), (8, true), (9, true), (10, true), (11, true), (12, true), (13, false), (14, true), (15, false)] [13, 15] mixed (by kernel_rfl) ?_
    refine dP (hc := fun _ => Calm.move rfl) (h := ?_)
    refine dP (hc := fun _ => Calm.move rfl) (h := ?_)
    refine dP (hc := fun _ => Calm.move rfl) (h := ?_)
    refine dP (hc := fun _ => Calm.move rfl) (h := ?_)
    refine dP (hc := fun _ => Calm.move rfl) (h := ?_)
    refine dP (hc := fun _ => Calm.move rfl) (h := ?_)
    refine dP (hc := fun _ => Calm.indexS Try.underlying24 ty_size_3 rfl rfl (by omega) (by omega)) (h := ?_)
    refine dC (hc := Calm.load ty_plain_3 rfl (rd_row (k := a) own_ rw_ rw_)) (h := ?_)
    refine dP (hc := fun _ => Calm.move rfl) (h := ?_)
    refine dP (hc := fun _ => Calm.move rfl) (h := ?_)
    refine dP (hc := fun _ => Calm.indexS Try.underlying24 ty_size_3 rfl rfl (by omega) (by omega)) (h := ?_)
    refine dC (hc := Calm.load ty_plain_3 rfl (rd_row (k := j3) own_ rw_ rw_)) (h := ?_)
    refine dP (hc := fun _ => Calm.indexS Try.underlying24 ty_size_3 rfl rfl (by omega) (by omega)) (h := ?_)
    refine draw_only rfl ?_
    refine ARun.storeRow enc (j3) rfl rfl ty_size_3 (C.one _) own_ rw_ rw_ ?_
    (try simp only [Mem.set_set, List.set_cons_zero, List.set_cons_succ, Nat.zero_add, Nat.reduceAdd])
    refine arun_nil ⟨fun h => absurd h (by decide), ?_⟩
    refine dP (hc := fun _ => Calm.indexS Try.underlying24 ty_size_3 rfl rfl (by omega) (by omega)) (h := ?_)
    refine draw_only rfl ?_
    refine ARun.storeRow enc (a) rfl rfl ty_size_3 (C.one _) own_ rw_ rw_ ?_
    (try simp only [Mem.set_set, List.set_cons_zero, List.set_cons_succ, Nat.zero_add, Nat.reduceAdd])
    refine arun_nil ⟨fun h => absurd h (by decide), ?_⟩
    refine draw_nil ?_
    refine athen_n ?_
    refine AWP.sub [(0, _), (1, _), (13, _)] ⟨rfl, rfl, rfl, trivial⟩ ?_
    refine AWP.seq ?_
    refine AWP.region ?_
    refine rC (Calm.move rfl) ?_
    refine rC (Calm.assign rfl) ?_
    refine rC (Calm.assign rfl) ?_
    refine arun_nil ?_
    refine athen_n ?_
    refine AWP.sub [(0, _), (1, _), (13, _), (10, _), (11, _)] ⟨rfl, rfl, rfl, rfl, rfl, trivial⟩ ?_
    refine AWP.ret ?_
    refine ⟨_, _, ⟨_, _, rfl, ⟨_, _, rfl, rfl, rfl⟩, rfl⟩, Mem.Less.refl _, ?_⟩
    exact part_res2 (lq cf) hd0 hU hD hx t3 (R3.swp _ _ (by omega) (by omega)) (by omega) (by omega)
set_option maxHeartbeats 4000000 in
theorem soC_parteq {α : Type} [Inhabited α] {enc : α → Value} {cf : α → α → Int} {okP : α → Prop} {g : Nat} {cb : List Value} {S : Mem} (C : CmpC Try.prog enc cf okP g cb S) (b room n cap : Nat) (hb : Fresh S b) (hn : n ≤ 1048576) (d : Array α) (R : Rw okP n d) (ia ie ip : Int) (a e p : Nat) (ha : ia = a) (he : ie = e) (hpp : ip = p) (hap : a ≤ p) (hpe : p < e) (hen : e ≤ n) :
    ACall Try.prog 173 #[.slice (some ⟨b, 0, none⟩) n cap, .int .i64 ia, .int .i64 ie, .int .i64 ip, .func (.func g) #[] cb.toArray] (S.set b ⟨3, (d).toList.map enc, room⟩) fun r S' => PartEqR α (fun x : Array α => S.set b ⟨3, (x).toList.map enc, room⟩) okP n (partitionEqual (lq cf) d a e p) a e r S' := by
  subst ha he hpp
  obtain ⟨J, rfl⟩ : ∃ J, e = J + 1 := ⟨e - 1, by omega⟩
  have R0 := R.swp a p (by omega) (by omega)
  have z := R.size
  obtain ⟨d0, hd0⟩ : ∃ d0, d0 = swp d a p := ⟨_, rfl⟩
  rw [← hd0] at R0
  have z0 := R0.size
  refine ACall.enter (args := [.slice (some ⟨b, 0, none⟩) n cap, .int .i64 a, .int .i64 ((J + 1 : Nat) : Int), .int .i64 p, .func (.func g) #[] cb.toArray]) (rs := [.tmp 10]) 90 [(0, .slice (some ⟨b, 0, none⟩) n cap), (1, .int .i64 a), (2, .int .i64 ((J + 1 : Nat) : Int)), (3, .int .i64 p), (4, .func (.func g) #[] cb.toArray)] Try.func173 rfl rfl (Nat.le_of_ble_eq_true rfl) rfl ⟨rfl, rfl, rfl, rfl, rfl, trivial⟩ ?_
  refine AWP.seq ?_
  refine AWP.region ?_
  refine rC (Calm.assign rfl) ?_
  refine arun_nil ?_
  refine athen_n ?_
  refine AWP.seq ?_
  refine AWP.draw [(0, true), (1, true), (2, true), (3, true), (4, true), (5, true), (6, true), (7, true), (8, true), (9, true), (10, true), (11, true), (12, true), (13, false), (14, true), (15, false)] [13, 15] mixed (by kernel_rfl) ?_
  refine dP (hc := fun _ => Calm.move rfl) (h := ?_)
  refine dP (hc := fun _ => Calm.move rfl) (h := ?_)
  refine dP (hc := fun _ => Calm.move rfl) (h := ?_)
  refine dP (hc := fun _ => Calm.move rfl) (h := ?_)
  refine dP (hc := fun _ => Calm.move rfl) (h := ?_)
  refine dP (hc := fun _ => Calm.move rfl) (h := ?_)
  refine dP (hc := fun _ => Calm.indexS Try.underlying24 ty_size_3 rfl rfl (by omega) (by omega)) (h := ?_)
  refine dC (hc := Calm.load ty_plain_3 rfl (rd_row (k := p) own_ rw_ rw_)) (h := ?_)
  refine dP (hc := fun _ => Calm.move rfl) (h := ?_)
  refine dP (hc := fun _ => Calm.move rfl) (h := ?_)
  refine dP (hc := fun _ => Calm.indexS Try.underlying24 ty_size_3 rfl rfl (by omega) (by omega)) (h := ?_)
  refine dC (hc := Calm.load ty_plain_3 rfl (rd_row (k := a) own_ rw_ rw_)) (h := ?_)
  refine dP (hc := fun _ => Calm.indexS Try.underlying24 ty_size_3 rfl rfl (by omega) (by omega)) (h := ?_)
  refine draw_only rfl ?_
  refine ARun.storeRow enc (a) rfl rfl ty_size_3 (C.one _) own_ rw_ rw_ ?_
  (try simp only [Mem.set_set, List.set_cons_zero, List.set_cons_succ, Nat.zero_add, Nat.reduceAdd])
  refine arun_nil ⟨fun h => absurd h (by decide), ?_⟩
  refine dP (hc := fun _ => Calm.indexS Try.underlying24 ty_size_3 rfl rfl (by omega) (by omega)) (h := ?_)
  refine draw_only rfl ?_
  refine ARun.storeRow enc (p) rfl rfl ty_size_3 (C.one _) own_ rw_ rw_ ?_
  (try simp only [Mem.set_set, List.set_cons_zero, List.set_cons_succ, Nat.zero_add, Nat.reduceAdd])
  refine arun_nil ⟨fun h => absurd h (by decide), ?_⟩
  refine draw_nil ?_
  refine athen_n ?_
  refine AWP.sub [(0, _), (1, _), (2, _), (3, _), (4, _), (10, _)] ⟨rfl, rfl, rfl, rfl, rfl, rfl, trivial⟩ ?_
  refine AWP.less (S.set b ⟨3, (d0).toList.map enc, room⟩) (by rw [hd0]; exact Mem.Less.refl _) ?_
  refine AWP.seq ?_
  refine AWP.region ?_
  refine rC (Calm.move rfl) ?_
  refine rC (Calm.bin rfl rfl b_add_i64) ?_
  refine rC (Calm.move rfl) ?_
  refine rC (Calm.bin rfl rfl b_sub_i64) ?_
  refine rC (Calm.assign rfl) ?_
  refine rC (Calm.assign rfl) ?_
  refine arun_nil ?_
  refine athen_n ?_
  refine AWP.sub [(0, _), (1, _), (2, _), (3, _), (4, _), (10, _), (11, _), (12, _)] ⟨rfl, rfl, rfl, rfl, rfl, rfl, rfl, rfl, trivial⟩ ?_
  refine AWP.seq ?_
  refine AWP.block ?_
  refine AWP.loop (X := Nat × Nat × Array α) (fun x => [(0, .slice (some ⟨b, 0, none⟩) n cap), (1, .int .i64 a), (4, .func (.func g) #[] cb.toArray), (11, .int .i64 x.1), (12, .int .i64 x.2.1)]) (fun x => S.set b ⟨3, (x.2.2).toList.map enc, room⟩) (fun x => a + 1 ≤ x.1 ∧ x.1 ≤ J + 1 ∧ a ≤ x.2.1 ∧ x.2.1 ≤ J ∧ Rw okP n x.2.2 ∧ partEqLoop (lq cf) a x.1 x.2.1 x.2.2 = partEqLoop (lq cf) a (a + 1) J d0) (fun x => J + 1 - x.1) ((a + 1, J, d0)) ⟨sb_, sb_, sb_, sb_, sb_, trivial⟩ (Mem.Less.refl _) (⟨by dsimp only; omega, by dsimp only; omega, by dsimp only; omega, by dsimp only; omega, R0, rfl⟩) ?_
  rintro ⟨I2, J2, d2⟩ ⟨m1, m2, m4, m5, R2, m3⟩
  (try dsimp only at *)
  have z2 := R2.size
  refine AWP.block ?_
  refine AWP.seq ?_
  refine AWP.join (X := Nat) (fun x => [(0, .slice (some ⟨b, 0, none⟩) n cap), (1, .int .i64 a), (4, .func (.func g) #[] cb.toArray), (11, .int .i64 x), (12, .int .i64 J2)]) (fun _ => S.set b ⟨3, (d2).toList.map enc, room⟩) (fun x => a + 1 ≤ x ∧ x ≤ J + 1 ∧ x = scanUp (fun x => !(lq cf) d2[a]! x) d2 (J2) I2) ?_ ?_
  · refine AWP.block ?_
    refine AWP.loop (X := Nat) (fun x => [(0, .slice (some ⟨b, 0, none⟩) n cap), (1, .int .i64 a), (4, .func (.func g) #[] cb.toArray), (11, .int .i64 x), (12, .int .i64 J2)]) (fun _ => S.set b ⟨3, (d2).toList.map enc, room⟩) (fun x => a + 1 ≤ x ∧ x ≤ J + 1 ∧ scanUp (fun x => !(lq cf) d2[a]! x) d2 (J2) x = scanUp (fun x => !(lq cf) d2[a]! x) d2 (J2) I2) (fun x => J + 1 - x) (I2) ⟨sb_, sb_, sb_, sb_, sb_, trivial⟩ (Mem.Less.refl _) (⟨by omega, by omega, rfl⟩) ?_
    rintro i ⟨q1, q2, q3⟩
    (try dsimp only at *)
    by_cases hij : i ≤ J2
    · refine AWP.seq ?_
      refine AWP.seq ?_
      refine AWP.draw [(0, true), (1, true), (2, true), (3, true), (4, true), (5, true), (6, true), (7, true), (8, true), (9, true), (10, true), (11, true), (12, true), (13, false), (14, true), (15, true), (16, true)] [] mixed (by kernel_rfl) ?_
      refine dP (hc := fun _ => Calm.move rfl) (h := ?_)
      refine dP (hc := fun _ => Calm.move rfl) (h := ?_)
      refine dP (hc := fun _ => Calm.bin rfl rfl b_leq) (h := ?_)
      refine dP (hc := fun _ => Calm.move rfl) (h := ?_)
      first | refine dS ?_ | refine dU ?_ | refine dG (hc := fun _ => Calm.move rfl) (h := ?_)
      first | refine dS ?_ | refine dU ?_ | refine dG (hc := fun _ => Calm.move rfl) (h := ?_)
      first | refine dS ?_ | refine dU ?_ | refine dG (hc := fun _ => Calm.move rfl) (h := ?_)
      first | refine dS ?_ | refine dU ?_ | refine dG (hc := fun _ => Calm.indexS Try.underlying24 ty_size_3 rfl rfl (by omega) (by omega)) (h := ?_)
      first | refine dS ?_ | refine dU ?_ | refine dL (hc := Calm.load ty_plain_3 rfl (rd_row (k := a) own_ rw_ rw_)) (h := ?_)
      first | refine dS ?_ | refine dU ?_ | refine dG (hc := fun _ => Calm.move rfl) (h := ?_)
      first | refine dS ?_ | refine dU ?_ | refine dG (hc := fun _ => Calm.move rfl) (h := ?_)
      first | refine dS ?_ | refine dU ?_ | refine dG (hc := fun _ => Calm.indexS Try.underlying24 ty_size_3 rfl rfl (by omega) (by omega)) (h := ?_)
      first | refine dS ?_ | refine dU ?_ | refine dL (hc := Calm.load ty_plain_3 rfl (rd_row (k := i) own_ rw_ rw_)) (h := ?_)
      refine draw_only rfl ?_
      refine rUn 34 ?_
      refine ARun.callV (first := []) (cap := cb) (lit_lt rfl) C.go rfl rfl (C.call less_ (R2.ok (a) rw_) (R2.ok (i) rw_)) ?_
      rintro _ _ ⟨rfl, rfl⟩
      refine arun_nil ⟨fun _ => less_, ?_⟩
      first | refine dS ?_ | refine dU ?_ | refine dG (hc := fun _ => Calm.bin rfl rfl b_lss) (h := ?_)
      first | refine dS ?_ | refine dU ?_ | refine dG (hc := fun _ => Calm.un rfl (una_not _)) (h := ?_)
      refine dP (hc := fun _ => (by first | exact Calm.pickT rfl rfl | exact Calm.pickF rfl rfl)) (h := ?_)
      refine draw_nil ?_
      refine athen_n ?_
      refine AWP.sub [(0, _), (1, _), (4, _), (11, _), (12, _), (47, _)] ⟨rfl, rfl, rfl, rfl, rfl, rfl, trivial⟩ ?_
      refine AWP.condB rfl (fun hl => ?_) (fun hl => ?_)
      · have hl := nt_ hl
        refine AWP.skip ?_
        refine athen_n ?_
        refine AWP.block ?_
        refine AWP.region ?_
        refine rC (Calm.move rfl) ?_
        refine rC (Calm.bin rfl rfl b_add_i64) ?_
        refine rC (Calm.assign rfl) ?_
        refine arun_nil ?_
        refine ain_n ?_
        refine athen_n ?_
        refine ⟨i + 1, ?_, ?_, ?_, ?_⟩
        all_goals (try dsimp only)
        · exact ⟨sb_, sb_, sb_, sb_, sb_, trivial⟩
        · exact Mem.Less.refl _
        · exact ⟨by omega, by omega, (up_go (p := (fun x => !(lq cf) d2[a]! x)) hij (by simp only [lq_, hl, Bool.not_true, Bool.not_false])).trans q3⟩
        · omega
      · have hl := nf_ hl
        refine AWP.exit ?_
        refine athen_exit ?_
        refine athen_exit ?_
        refine ain_same ?_
        refine ⟨i, ?_, ?_, ?_⟩
        all_goals (try dsimp only)
        · exact ⟨by omega, by omega, (up_no (p := (fun x => !(lq cf) d2[a]! x)) (by simp only [lq_, hl, Bool.not_true, Bool.not_false])).trans q3⟩
        · exact ⟨sb_, sb_, sb_, sb_, sb_, trivial⟩
        · exact Mem.Less.refl _
    · refine AWP.seq ?_
      refine AWP.seq ?_
      refine AWP.draw [(0, true), (1, true), (2, true), (3, true), (4, true), (5, true), (6, true), (7, true), (8, true), (9, true), (10, true), (11, true), (12, true), (13, false), (14, true), (15, true), (16, true)] [] mixed (by kernel_rfl) ?_
      refine dP (hc := fun _ => Calm.move rfl) (h := ?_)
      refine dP (hc := fun _ => Calm.move rfl) (h := ?_)
      refine dP (hc := fun _ => Calm.bin rfl rfl b_leq) (h := ?_)
      refine dP (hc := fun _ => Calm.move rfl) (h := ?_)
      first | refine dS ?_ | refine dU ?_ | refine dG (hc := fun _ => Calm.move rfl) (h := ?_)
      first | refine dS ?_ | refine dU ?_ | refine dG (hc := fun _ => Calm.move rfl) (h := ?_)
      first | refine dS ?_ | refine dU ?_ | refine dG (hc := fun _ => Calm.move rfl) (h := ?_)
      first | refine dS ?_ | refine dU ?_ | refine dG (hc := fun _ => Calm.indexS Try.underlying24 ty_size_3 rfl rfl (by omega) (by omega)) (h := ?_)
      first | refine dS ?_ | refine dU ?_ | refine dL (hc := Calm.load ty_plain_3 rfl (rd_row (k := a) own_ rw_ rw_)) (h := ?_)
      first | refine dS ?_ | refine dU ?_ | refine dG (hc := fun _ => Calm.move rfl) (h := ?_)
      first | refine dS ?_ | refine dU ?_ | refine dG (hc := fun _ => Calm.move rfl) (h := ?_)
      first | refine dS ?_ | refine dU ?_ | refine dG (hc := fun _ => Calm.indexS Try.underlying24 ty_size_3 rfl rfl (by omega) (by omega)) (h := ?_)
      first | refine dS ?_ | refine dU ?_ | refine dL (hc := Calm.load ty_plain_3 rfl (rd_row (k := i) own_ rw_ rw_)) (h := ?_)
      refine draw_only rfl ?_
      first | refine rS 34 ?_ | refine rU 34 ?_
      refine arun_nil ⟨fun _ => less_, ?_⟩
      first | refine dS ?_ | refine dU ?_ | refine dG (hc := fun _ => Calm.bin rfl rfl b_lss) (h := ?_)
      first | refine dS ?_ | refine dU ?_ | refine dG (hc := fun _ => Calm.un rfl (una_not _)) (h := ?_)
      refine dP (hc := fun _ => (by first | exact Calm.pickT rfl rfl | exact Calm.pickF rfl rfl)) (h := ?_)
      refine draw_nil ?_
      refine athen_n ?_
      refine AWP.sub [(0, _), (1, _), (4, _), (11, _), (12, _), (47, _)] ⟨rfl, rfl, rfl, rfl, rfl, rfl, trivial⟩ ?_
      refine AWP.condF rfl (by first | rfl | (simp; done) | (simp; omega)) ?_
      refine AWP.exit ?_
      refine athen_exit ?_
      refine athen_exit ?_
      refine ain_same ?_
      refine ⟨i, ?_, ?_, ?_⟩
      all_goals (try dsimp only)
      · exact ⟨by omega, by omega, (up_end (p := (fun x => !(lq cf) d2[a]! x)) hij).trans q3⟩
      · exact ⟨sb_, sb_, sb_, sb_, sb_, trivial⟩
      · exact Mem.Less.refl _
  rintro i2 ⟨b1, b2, hU⟩
  intro _ _ hs_ hl_
  (try dsimp only at *)
  refine athen_n ?_
  refine AWP.sub _ hs_ (AWP.less _ hl_ ?_)
  clear hs_ hl_
  refine AWP.seq ?_
  refine AWP.join (X := Nat) (fun x => [(0, .slice (some ⟨b, 0, none⟩) n cap), (1, .int .i64 a), (4, .func (.func g) #[] cb.toArray), (11, .int .i64 i2), (12, .int .i64 x)]) (fun _ => S.set b ⟨3, (d2).toList.map enc, room⟩) (fun x => a ≤ x ∧ x ≤ J ∧ x = scanDown (fun x => (lq cf) d2[a]! x) d2 i2 J2) ?_ ?_
  · refine AWP.block ?_
    refine AWP.loop (X := Nat) (fun x => [(0, .slice (some ⟨b, 0, none⟩) n cap), (1, .int .i64 a), (4, .func (.func g) #[] cb.toArray), (11, .int .i64 i2), (12, .int .i64 x)]) (fun _ => S.set b ⟨3, (d2).toList.map enc, room⟩) (fun x => a ≤ x ∧ x ≤ J ∧ scanDown (fun x => (lq cf) d2[a]! x) d2 i2 x = scanDown (fun x => (lq cf) d2[a]! x) d2 i2 J2) (fun x => x) (J2) ⟨sb_, sb_, sb_, sb_, sb_, trivial⟩ (Mem.Less.refl _) (⟨by omega, by omega, rfl⟩) ?_
    rintro j ⟨q1, q2, q3⟩
    (try dsimp only at *)
    by_cases hij : i2 ≤ j
    · obtain ⟨j, rfl⟩ : ∃ q, j = q + 1 := ⟨j - 1, by omega⟩
      refine AWP.seq ?_
      refine AWP.seq ?_
      refine AWP.draw [(0, true), (1, true), (2, true), (3, true), (4, true), (5, true), (6, true), (7, true), (8, true), (9, true), (10, true), (11, true), (12, true), (13, false), (14, true), (15, true)] [] mixed (by kernel_rfl) ?_
      refine dP (hc := fun _ => Calm.move rfl) (h := ?_)
      refine dP (hc := fun _ => Calm.move rfl) (h := ?_)
      refine dP (hc := fun _ => Calm.bin rfl rfl b_leq) (h := ?_)
      refine dP (hc := fun _ => Calm.move rfl) (h := ?_)
      first | refine dS ?_ | refine dU ?_ | refine dG (hc := fun _ => Calm.move rfl) (h := ?_)
      first | refine dS ?_ | refine dU ?_ | refine dG (hc := fun _ => Calm.move rfl) (h := ?_)
      first | refine dS ?_ | refine dU ?_ | refine dG (hc := fun _ => Calm.move rfl) (h := ?_)
      first | refine dS ?_ | refine dU ?_ | refine dG (hc := fun _ => Calm.indexS Try.underlying24 ty_size_3 rfl rfl (by omega) (by omega)) (h := ?_)
      first | refine dS ?_ | refine dU ?_ | refine dL (hc := Calm.load ty_plain_3 rfl (rd_row (k := a) own_ rw_ rw_)) (h := ?_)
      first | refine dS ?_ | refine dU ?_ | refine dG (hc := fun _ => Calm.move rfl) (h := ?_)
      first | refine dS ?_ | refine dU ?_ | refine dG (hc := fun _ => Calm.move rfl) (h := ?_)
      first | refine dS ?_ | refine dU ?_ | refine dG (hc := fun _ => Calm.indexS Try.underlying24 ty_size_3 rfl rfl (by omega) (by omega)) (h := ?_)
      first | refine dS ?_ | refine dU ?_ | refine dL (hc := Calm.load ty_plain_3 rfl (rd_row (k := j + 1) own_ rw_ rw_)) (h := ?_)
      refine draw_only rfl ?_
      refine rUn 53 ?_
      refine ARun.callV (first := []) (cap := cb) (lit_lt rfl) C.go rfl rfl (C.call less_ (R2.ok (a) rw_) (R2.ok (j + 1) rw_)) ?_
      rintro _ _ ⟨rfl, rfl⟩
      refine arun_nil ⟨fun _ => less_, ?_⟩
      first | refine dS ?_ | refine dU ?_ | refine dG (hc := fun _ => Calm.bin rfl rfl b_lss) (h := ?_)
      refine dP (hc := fun _ => (by first | exact Calm.pickT rfl rfl | exact Calm.pickF rfl rfl)) (h := ?_)
      refine draw_nil ?_
      refine athen_n ?_
      refine AWP.sub [(0, _), (1, _), (4, _), (11, _), (12, _), (65, _)] ⟨rfl, rfl, rfl, rfl, rfl, rfl, trivial⟩ ?_
      refine AWP.condB rfl (fun hl => ?_) (fun hl => ?_)
      · refine AWP.skip ?_
        refine athen_n ?_
        refine AWP.block ?_
        refine AWP.region ?_
        refine rC (Calm.move rfl) ?_
        refine rC (Calm.bin rfl rfl b_sub_i64) ?_
        refine rC (Calm.assign rfl) ?_
        refine arun_nil ?_
        refine ain_n ?_
        refine athen_n ?_
        refine ⟨j, ?_, ?_, ?_, ?_⟩
        all_goals (try dsimp only)
        · exact ⟨sb_, sb_, sb_, sb_, sb_, trivial⟩
        · exact Mem.Less.refl _
        · exact ⟨by omega, by omega, (down_go (p := (fun x => (lq cf) d2[a]! x)) hij (by simp only [lq_, hl, Bool.not_true, Bool.not_false])).trans q3⟩
        · omega
      · refine AWP.exit ?_
        refine athen_exit ?_
        refine athen_exit ?_
        refine ain_same ?_
        refine ⟨(j + 1), ?_, ?_, ?_⟩
        all_goals (try dsimp only)
        · exact ⟨by omega, by omega, (down_no (p := (fun x => (lq cf) d2[a]! x)) (by omega) (by simp only [lq_, hl, Bool.not_true, Bool.not_false])).trans q3⟩
        · exact ⟨sb_, sb_, sb_, sb_, sb_, trivial⟩
        · exact Mem.Less.refl _
    · refine AWP.seq ?_
      refine AWP.seq ?_
      refine AWP.draw [(0, true), (1, true), (2, true), (3, true), (4, true), (5, true), (6, true), (7, true), (8, true), (9, true), (10, true), (11, true), (12, true), (13, false), (14, true), (15, true)] [] mixed (by kernel_rfl) ?_
      refine dP (hc := fun _ => Calm.move rfl) (h := ?_)
      refine dP (hc := fun _ => Calm.move rfl) (h := ?_)
      refine dP (hc := fun _ => Calm.bin rfl rfl b_leq) (h := ?_)
      refine dP (hc := fun _ => Calm.move rfl) (h := ?_)
      first | refine dS ?_ | refine dU ?_ | refine dG (hc := fun _ => Calm.move rfl) (h := ?_)
      first | refine dS ?_ | refine dU ?_ | refine dG (hc := fun _ => Calm.move rfl) (h := ?_)
      first | refine dS ?_ | refine dU ?_ | refine dG (hc := fun _ => Calm.move rfl) (h := ?_)
      first | refine dS ?_ | refine dU ?_ | refine dG (hc := fun _ => Calm.indexS Try.underlying24 ty_size_3 rfl rfl (by omega) (by omega)) (h := ?_)
      first | refine dS ?_ | refine dU ?_ | refine dL (hc := Calm.load ty_plain_3 rfl (rd_row (k := a) own_ rw_ rw_)) (h := ?_)
      first | refine dS ?_ | refine dU ?_ | refine dG (hc := fun _ => Calm.move rfl) (h := ?_)
      first | refine dS ?_ | refine dU ?_ | refine dG (hc := fun _ => Calm.move rfl) (h := ?_)
      first | refine dS ?_ | refine dU ?_ | refine dG (hc := fun _ => Calm.indexS Try.underlying24 ty_size_3 rfl rfl (by omega) (by omega)) (h := ?_)
      first | refine dS ?_ | refine dU ?_ | refine dL (hc := Calm.load ty_plain_3 rfl (rd_row (k := j + 1) own_ rw_ rw_)) (h := ?_)
      refine draw_only rfl ?_
      first | refine rS 53 ?_ | refine rU 53 ?_
      refine arun_nil ⟨fun _ => less_, ?_⟩
      first | refine dS ?_ | refine dU ?_ | refine dG (hc := fun _ => Calm.bin rfl rfl b_lss) (h := ?_)
      refine dP (hc := fun _ => (by first | exact Calm.pickT rfl rfl | exact Calm.pickF rfl rfl)) (h := ?_)
      refine draw_nil ?_
      refine athen_n ?_
      refine AWP.sub [(0, _), (1, _), (4, _), (11, _), (12, _), (65, _)] ⟨rfl, rfl, rfl, rfl, rfl, rfl, trivial⟩ ?_
      refine AWP.condF rfl (by first | rfl | (simp; done) | (simp; omega)) ?_
      refine AWP.exit ?_
      refine athen_exit ?_
      refine athen_exit ?_
      refine ain_same ?_
      refine ⟨j, ?_, ?_, ?_⟩
      all_goals (try dsimp only)
      · exact ⟨by omega, by omega, (down_end (p := (fun x => (lq cf) d2[a]! x)) hij).trans q3⟩
      · exact ⟨sb_, sb_, sb_, sb_, sb_, trivial⟩
      · exact Mem.Less.refl _
  rintro j2 ⟨b3, b4, hD⟩
  intro _ _ hs_ hl_
  (try dsimp only at *)
  refine athen_n ?_
  refine AWP.sub _ hs_ (AWP.less _ hl_ ?_)
  clear hs_ hl_
  by_cases hx : j2 < i2
  · refine AWP.seq ?_
    refine AWP.seq ?_
    refine AWP.region ?_
    refine rC (Calm.move rfl) ?_
    refine rC (Calm.move rfl) ?_
    refine rC (Calm.bin rfl rfl b_gtr) ?_
    refine arun_nil ?_
    refine athen_n ?_
    refine AWP.sub [(0, _), (1, _), (4, _), (11, _), (12, _), (70, _)] ⟨rfl, rfl, rfl, rfl, rfl, rfl, trivial⟩ ?_
    refine AWP.condT rfl (by first | rfl | (simp; done) | (simp; omega)) ?_
    refine AWP.exit ?_
    refine athen_exit ?_
    refine ain_other rfl ?_
    refine athen_exit ?_
    refine ain_same ?_
    refine athen_n ?_
    refine AWP.seq ?_
    refine AWP.region ?_
    refine rC (Calm.move rfl) ?_
    refine rC (Calm.assign rfl) ?_
    refine arun_nil ?_
    refine athen_n ?_
    refine AWP.sub [(0, _), (1, _), (4, _), (11, _), (12, _), (70, _), (10, _)] ⟨rfl, rfl, rfl, rfl, rfl, rfl, rfl, trivial⟩ ?_
    refine AWP.ret ?_
    refine ⟨_, _, ⟨_, _, rfl, rfl, rfl⟩, Mem.Less.refl _, ?_⟩
    exact parteq_res (lq cf) hd0 ((parteq_stop (lq cf) hU hD hx).trans m3) R2 (by omega) (by omega)
  · refine AWP.seq ?_
    refine AWP.seq ?_
    refine AWP.region ?_
    refine rC (Calm.move rfl) ?_
    refine rC (Calm.move rfl) ?_
    refine rC (Calm.bin rfl rfl b_gtr) ?_
    refine arun_nil ?_
    refine athen_n ?_
    refine AWP.sub [(0, _), (1, _), (4, _), (11, _), (12, _), (70, _)] ⟨rfl, rfl, rfl, rfl, rfl, rfl, trivial⟩ ?_
    refine AWP.condF rfl (by first | rfl | (simp; done) | (simp; omega)) ?_
    refine AWP.skip ?_
    refine athen_n ?_
    refine AWP.seq ?_
    refine AWP.draw [(0, true), (1, true), (2, true), (3, true), (4, true), (5, true), (6, true), (7, true), (8, true), (9, true), (10, true), (11, true), (12, true), (13, false), (14, true), (15, false)] [13, 15] mixed (by kernel_rfl) ?_
    refine dP (hc := fun _ => Calm.move rfl) (h := ?_)
    refine dP (hc := fun _ => Calm.move rfl) (h := ?_)
    refine dP (hc := fun _ => Calm.move rfl) (h := ?_)
    refine dP (hc := fun _ => Calm.move rfl) (h := ?_)
    refine dP (hc := fun _ => Calm.move rfl) (h := ?_)
    refine dP (hc := fun _ => Calm.move rfl) (h := ?_)
    refine dP (hc := fun _ => Calm.indexS Try.underlying24 ty_size_3 rfl rfl (by omega) (by omega)) (h := ?_)
    refine dC (hc := Calm.load ty_plain_3 rfl (rd_row (k := j2) own_ rw_ rw_)) (h := ?_)
    refine dP (hc := fun _ => Calm.move rfl) (h := ?_)
    refine dP (hc := fun _ => Calm.move rfl) (h := ?_)
    refine dP (hc := fun _ => Calm.indexS Try.underlying24 ty_size_3 rfl rfl (by omega) (by omega)) (h := ?_)
    refine dC (hc := Calm.load ty_plain_3 rfl (rd_row (k := i2) own_ rw_ rw_)) (h := ?_)
    refine dP (hc := fun _ => Calm.indexS Try.underlying24 ty_size_3 rfl rfl (by omega) (by omega)) (h := ?_)
    refine draw_only rfl ?_
    refine ARun.storeRow enc (i2) rfl rfl ty_size_3 (C.one _) own_ rw_ rw_ ?_
    (try simp only [Mem.set_set, List.set_cons_zero, List.set_cons_succ, Nat.zero_add, Nat.reduceAdd])
    refine arun_nil ⟨fun h => absurd h (by decide), ?_⟩
    refine dP (hc := fun _ => Calm.indexS Try.underlying24 ty_size_3 rfl rfl (by omega) (by omega)) (h := ?_)
    refine draw_only rfl ?_
    refine ARun.storeRow enc (j2) rfl rfl ty_size_3 (C.one _) own_ rw_ rw_ ?_
    (try simp only [Mem.set_set, List.set_cons_zero, List.set_cons_succ, Nat.zero_add, Nat.reduceAdd])
    refine arun_nil ⟨fun h => absurd h (by decide), ?_⟩
    refine draw_nil ?_
    refine athen_n ?_
    refine AWP.sub [(0, _), (1, _), (4, _), (11, _), (12, _), (70, _)] ⟨rfl, rfl, rfl, rfl, rfl, rfl, trivial⟩ ?_
    refine AWP.seq ?_
    refine AWP.region ?_
    refine rC (Calm.move rfl) ?_
    refine rC (Calm.bin rfl rfl b_add_i64) ?_
    refine rC (Calm.assign rfl) ?_
    refine arun_nil ?_
    refine athen_n ?_
    refine AWP.sub [(0, _), (1, _), (4, _), (11, _), (12, _), (70, _)] ⟨rfl, rfl, rfl, rfl, rfl, rfl, trivial⟩ ?_
    refine AWP.region ?_
    refine rC (Calm.move rfl) ?_
    refine rC (Calm.bin rfl rfl b_sub_i64) ?_
    refine rC (Calm.assign rfl) ?_
    refine arun_nil ?_
    refine ain_n ?_
    refine athen_n ?_
    refine ⟨(i2 + 1, j2 - 1, swp d2 i2 j2), ?_, ?_, ?_, ?_⟩
    all_goals (try dsimp only)
    · exact ⟨sb_, sb_, sb_, sb_, sb_, trivial⟩
    · exact Mem.Less.refl _
    · exact ⟨by omega, by omega, by omega, by omega, R2.swp _ _ (by omega) (by omega), (parteq_go (lq cf) hU hD hx).trans m3⟩
    · (have : I2 ≤ i2 := by rw [hU]; exact Go.Sort.scanUp_ge _ _ _ _); omega
end Go.Proofs.Ytgidjbpgkeemiaa
