/-
  Skew: Ends, Expand: by the program, by the document.
-/
import Derived.Test.YtgidjbpgkeemiaaSk8
import Derived.Test.YtgidjbpgkeemiaaSk9
import Derived.Test.YtgidjbpgkeemiaaOrd3
namespace Go.Proofs.Ytgidjbpgkeemiaa
open Go.RowKit
open Mv Num Loser Skew
set_option linter.unusedVariables false
set_option linter.unusedSimpArgs false
set_option maxRecDepth 4000
def endsP (l : List Nat) : List Nat := if chkL l = 0 then Ord.endsR l l.length else []
theorem sk_Ends (v : Value) (l : List Nat) (S : Mem) (hl : RowR S v l) :
    ACall Try.prog 26 #[v] S fun r S' => ∃ u, r = .tuple #[u, .int .i64 (chkL l)] ∧ RdL gI (endsP l) S u S' := by
  obtain ⟨a, cap, rfl, h1, h2, h3⟩ := id hl
  by_cases hc : chkL l = 0
  · have hok := chk_ok hc
    have es : endsP l = Ord.endsR l l.length := if_pos hc
    rw [es]
    refine ACall.enter (args := [.slice a l.length cap]) (rs := [.tmp 2, .tmp 3]) 12 [(0, .slice a l.length cap)] Try.func26 rfl rfl (Nat.le_of_ble_eq_true rfl) rfl ⟨rfl, trivial⟩ ?_
    refine AWP.seq ?_
    refine AWP.region ?_
    refine rC (Calm.assign rfl) ?_
    refine rC (Calm.assign rfl) ?_
    refine arun_nil ?_
    refine athen_n ?_
    refine AWP.seq ?_
    refine AWP.seq ?_
    refine AWP.region ?_
    refine rC (Calm.move rfl) ?_
    refine ARun.call (lit_lt rfl) go_24 rfl (sk_Check _ l _ hl) ?_
    rintro _ S1 ⟨rfl, h1⟩
    rw [h1]; clear h1 S1
    rw [hc]
    refine rC (Calm.assign rfl) ?_
    refine arun_nil ?_
    refine athen_n ?_
    refine AWP.sub [(0, _), (2, _), (3, _), (4, _)] ⟨rfl, rfl, rfl, rfl, trivial⟩ ?_
    refine AWP.seq ?_
    refine AWP.region ?_
    refine rC (Calm.move rfl) ?_
    refine rC (Calm.bin rfl rfl b_neq) ?_
    refine arun_nil ?_
    refine athen_n ?_
    refine AWP.sub [(0, _), (2, _), (3, _), (4, _), (8, _)] ⟨rfl, rfl, rfl, rfl, rfl, trivial⟩ ?_
    refine AWP.condF rfl (by first | rfl | (simp; done) | (simp; omega)) ?_
    refine AWP.skip ?_
    refine athen_n ?_
    refine AWP.seq ?_
    refine AWP.region ?_
    refine rC (Calm.move rfl) ?_
    refine ARun.call (lit_lt rfl) go_67 rfl (sk_Of _ l S hl hok.2.1 hok.1) ?_
    rintro u S1 hP
    refine rC (Calm.assign rfl) ?_
    refine rC (Calm.assign rfl) ?_
    refine arun_nil ?_
    refine athen_n ?_
    refine AWP.sub [(0, _), (2, _), (3, _), (4, _), (8, _)] ⟨rfl, rfl, rfl, rfl, rfl, trivial⟩ ?_
    refine AWP.ret ?_
    refine ⟨_, S1, ⟨_, _, rfl, ⟨_, _, rfl, rfl, rfl⟩, rfl⟩, Mem.Less.refl _, ?_⟩
    exact ⟨u, rfl, hP⟩
  · have es : endsP l = [] := if_neg hc
    rw [es]
    have e1 := chk_no hc
    refine ACall.enter (args := [.slice a l.length cap]) (rs := [.tmp 2, .tmp 3]) 12 [(0, .slice a l.length cap)] Try.func26 rfl rfl (Nat.le_of_ble_eq_true rfl) rfl ⟨rfl, trivial⟩ ?_
    refine AWP.seq ?_
    refine AWP.region ?_
    refine rC (Calm.assign rfl) ?_
    refine rC (Calm.assign rfl) ?_
    refine arun_nil ?_
    refine athen_n ?_
    refine AWP.seq ?_
    refine AWP.seq ?_
    refine AWP.region ?_
    refine rC (Calm.move rfl) ?_
    refine ARun.call (lit_lt rfl) go_24 rfl (sk_Check _ l _ hl) ?_
    rintro _ S1 ⟨rfl, h1⟩
    rw [h1]; clear h1 S1
    rw [e1]
    refine rC (Calm.assign rfl) ?_
    refine arun_nil ?_
    refine athen_n ?_
    refine AWP.sub [(0, _), (2, _), (3, _), (4, _)] ⟨rfl, rfl, rfl, rfl, trivial⟩ ?_
    refine AWP.seq ?_
    refine AWP.region ?_
    refine rC (Calm.move rfl) ?_
    refine rC (Calm.bin rfl rfl b_neq) ?_
    refine arun_nil ?_
    refine athen_n ?_
    refine AWP.sub [(0, _), (2, _), (3, _), (4, _), (8, _)] ⟨rfl, rfl, rfl, rfl, rfl, trivial⟩ ?_
    refine AWP.condT rfl (by first | rfl | (simp; done) | (simp; omega)) ?_
    refine AWP.seq ?_
    refine AWP.region ?_
    refine rC (Calm.move rfl) ?_
    refine rC (Calm.assign rfl) ?_
    refine rC (Calm.assign rfl) ?_
    refine arun_nil ?_
    refine athen_n ?_
    refine AWP.sub [(0, _), (2, _), (3, _), (4, _), (8, _)] ⟨rfl, rfl, rfl, rfl, rfl, trivial⟩ ?_
    refine AWP.ret ?_
    refine athen_ret ?_
    refine ⟨_, S, ⟨_, _, rfl, ⟨_, _, rfl, rfl, rfl⟩, rfl⟩, less_, ?_⟩
    exact ⟨_, rfl, Mem.Less.refl _, sl_nilI _⟩
theorem rsk_Ends (v : Value) (l : List Nat) (S : Mem) (hl : RowR S v l) :
    ACall Try.prog 27 #[v] S fun r S' => ∃ u, r = .tuple #[u, .int .i64 (chkL l)] ∧ RdL gI (endsP l) S u S' := by
  obtain ⟨a, cap, rfl, h1, h2, h3⟩ := id hl
  by_cases hc : chkL l = 0
  · have hok := chk_ok hc
    have es : endsP l = Ord.endsR l l.length := if_pos hc
    rw [es]
    refine ACall.enter (args := [.slice a l.length cap]) (rs := [.tmp 2, .tmp 3]) 11 [(0, .slice a l.length cap)] Try.func27 rfl rfl (Nat.le_of_ble_eq_true rfl) rfl ⟨rfl, trivial⟩ ?_
    refine AWP.seq ?_
    refine AWP.region ?_
    refine rC (Calm.assign rfl) ?_
    refine rC (Calm.assign rfl) ?_
    refine arun_nil ?_
    refine athen_n ?_
    refine AWP.seq ?_
    refine AWP.seq ?_
    refine AWP.region ?_
    refine rC (Calm.move rfl) ?_
    refine ARun.call (lit_lt rfl) go_25 rfl (rsk_Check _ l _ hl) ?_
    rintro _ S1 ⟨rfl, h1⟩
    rw [h1]; clear h1 S1
    rw [hc]
    refine rC (Calm.bin rfl rfl b_neq) ?_
    refine arun_nil ?_
    refine athen_n ?_
    refine AWP.sub [(0, _), (2, _), (3, _), (6, _)] ⟨rfl, rfl, rfl, rfl, trivial⟩ ?_
    refine AWP.condF rfl (by first | rfl | (simp; done) | (simp; omega)) ?_
    refine AWP.skip ?_
    refine athen_n ?_
    refine AWP.seq ?_
    refine AWP.region ?_
    refine rC (Calm.move rfl) ?_
    refine ARun.call (lit_lt rfl) go_48 rfl (rr_Ends _ l S hl) ?_
    rintro _ S1 hE
    obtain ⟨_, u, rfl, hP⟩ := hE.resolve_right (fun h => by have := h.1; omega)
    refine rC (Calm.extract rfl rfl) ?_
    refine rC (Calm.extract rfl rfl) ?_
    refine rC (Calm.assign rfl) ?_
    refine rC (Calm.assign rfl) ?_
    refine arun_nil ?_
    refine athen_n ?_
    refine AWP.sub [(0, _), (2, _), (3, _), (6, _)] ⟨rfl, rfl, rfl, rfl, trivial⟩ ?_
    refine AWP.ret ?_
    refine ⟨_, S1, ⟨_, _, rfl, ⟨_, _, rfl, rfl, rfl⟩, rfl⟩, Mem.Less.refl _, ?_⟩
    exact ⟨u, rfl, hP⟩
  · have es : endsP l = [] := if_neg hc
    rw [es]
    have e1 := chk_no hc
    refine ACall.enter (args := [.slice a l.length cap]) (rs := [.tmp 2, .tmp 3]) 11 [(0, .slice a l.length cap)] Try.func27 rfl rfl (Nat.le_of_ble_eq_true rfl) rfl ⟨rfl, trivial⟩ ?_
    refine AWP.seq ?_
    refine AWP.region ?_
    refine rC (Calm.assign rfl) ?_
    refine rC (Calm.assign rfl) ?_
    refine arun_nil ?_
    refine athen_n ?_
    refine AWP.seq ?_
    refine AWP.seq ?_
    refine AWP.region ?_
    refine rC (Calm.move rfl) ?_
    refine ARun.call (lit_lt rfl) go_25 rfl (rsk_Check _ l _ hl) ?_
    rintro _ S1 ⟨rfl, h1⟩
    rw [h1]; clear h1 S1
    rw [e1]
    refine rC (Calm.bin rfl rfl b_neq) ?_
    refine arun_nil ?_
    refine athen_n ?_
    refine AWP.sub [(0, _), (2, _), (3, _), (6, _)] ⟨rfl, rfl, rfl, rfl, trivial⟩ ?_
    refine AWP.condT rfl (by first | rfl | (simp; done) | (simp; omega)) ?_
    refine AWP.seq ?_
    refine AWP.region ?_
    refine rC (Calm.assign rfl) ?_
    refine rC (Calm.assign rfl) ?_
    refine arun_nil ?_
    refine athen_n ?_
    refine AWP.ret ?_
    refine athen_ret ?_
    refine ⟨_, S, ⟨_, _, rfl, ⟨_, _, rfl, rfl, rfl⟩, rfl⟩, less_, ?_⟩
    exact ⟨_, rfl, Mem.Less.refl _, sl_nilI _⟩
open Classical in
/-- What Expand tells: the order, why not. -/
noncomputable def expP (l : List Nat) (ends : List Int) : List Nat × Nat := if chkL l ≠ 0 then ([], 1) else if RightE (red l) ends then (Ord.endsR l l.length, 0) else ([], 2)
theorem expP_no {l : List Nat} {ends : List Int} (hc : chkL l ≠ 0) : expP l ends = ([], 1) := if_pos hc
theorem expP_yes {l : List Nat} {ends : List Int} (hc : chkL l = 0) (h : RightE (red l) ends) : expP l ends = (Ord.endsR l l.length, 0) := by
  unfold expP; rw [if_neg (by simp [hc]), if_pos h]
theorem expP_bad {l : List Nat} {ends : List Int} (hc : chkL l = 0) (h : ¬ RightE (red l) ends) : expP l ends = ([], 2) := by
  unfold expP; rw [if_neg (by simp [hc]), if_neg h]
set_option maxHeartbeats 1000000 in
theorem sk_Expand (v ve : Value) (l : List Nat) (ends : List Int) (S : Mem) (hl : RowR S v l) (hve : Sl 1 i64s S ve ends) (hel : ends.length ≤ 17592186043904) :
    ACall Try.prog 28 #[v, ve] S fun r S' => ∃ u, r = .tuple #[u, .int .i64 (expP l ends).2] ∧ RdL gI (expP l ends).1 S u S' := by
  obtain ⟨a, cap, rfl, h1, h2, h3⟩ := id hl
  obtain ⟨ea, ec, rfl, _⟩ := id hve
  have hS := sk_Samples _ l S hl
  by_cases hc : chkL l = 0
  · have hok := chk_ok hc
    have es : smpL l = places l.length := if_pos hc
    rw [es, hc] at hS
    refine ACall.enter (args := [.slice a l.length cap, .slice ea ends.length ec]) (rs := [.tmp 4, .tmp 5]) 35 [(0, .slice a l.length cap), (1, .slice ea ends.length ec)] Try.func28 rfl rfl (Nat.le_of_ble_eq_true rfl) rfl ⟨rfl, rfl, trivial⟩ ?_
    refine AWP.seq ?_
    refine AWP.region ?_
    refine rC (Calm.assign rfl) ?_
    refine rC (Calm.assign rfl) ?_
    refine arun_nil ?_
    refine athen_n ?_
    refine AWP.seq ?_
    refine AWP.region ?_
    refine rC (Calm.move rfl) ?_
    refine ARun.call (lit_lt rfl) go_15 rfl (hS) ?_
    rintro vs S1 ⟨u, rfl, hSS, hu⟩
    obtain ⟨pa, pc, rfl, _⟩ := id hu
    refine rC (Calm.move rfl) ?_
    refine rC (Calm.extract rfl rfl) ?_
    refine rC (Calm.extract rfl rfl) ?_
    refine rC (Calm.assign rfl) ?_
    refine rC (Calm.assign rfl) ?_
    refine arun_nil ?_
    refine athen_n ?_
    refine AWP.sub [(0, _), (1, _), (4, _), (5, _), (6, _), (7, _)] ⟨rfl, rfl, rfl, rfl, rfl, rfl, trivial⟩ ?_
    refine AWP.seq ?_
    refine AWP.seq ?_
    refine AWP.region ?_
    refine rC (Calm.move rfl) ?_
    refine rC (Calm.bin rfl rfl b_neq) ?_
    refine arun_nil ?_
    refine athen_n ?_
    refine AWP.sub [(0, _), (1, _), (4, _), (5, _), (6, _), (7, _), (17, _)] ⟨rfl, rfl, rfl, rfl, rfl, rfl, rfl, trivial⟩ ?_
    refine AWP.condF rfl (by first | rfl | (simp; done) | (simp; omega)) ?_
    refine AWP.skip ?_
    refine athen_n ?_
    refine AWP.seq ?_
    refine AWP.region ?_
    refine rC (Calm.move rfl) ?_
    refine rC (Calm.move rfl) ?_
    refine rC (Calm.build (cs := [_, _]) ty_bld_78 rfl rfl) ?_
    refine ARun.boxA (cs := [_, _]) (lit_lt rfl) rfl ?_
    intro b22 f22
    have g22 := f22
    repeat ((with_reducible replace g22 := fresh_set g22); obtain ⟨g22, _⟩ := g22)
    (try simp only [List.length_cons, List.length_nil, Nat.zero_add, Nat.reduceAdd])
    refine rC (Calm.assign rfl) ?_
    refine arun_nil ?_
    refine athen_n ?_
    refine AWP.sub [(0, _), (1, _), (4, _), (5, _), (6, _), (7, _), (17, _), (8, _)] ⟨rfl, rfl, rfl, rfl, rfl, rfl, rfl, rfl, trivial⟩ ?_
    refine AWP.seq ?_
    refine AWP.region ?_
    refine rC (Calm.move rfl) ?_
    refine ARun.call (lit_lt rfl) go_63 rfl (sk_reduced b22 l _ (lvR_box own_ (hl.less (hSS.trans less_)) (idxR_less _ _ _ _ hu less_)) hok.1) ?_
    rintro _ S2 ⟨u2, rfl, hS2, hu2⟩
    have hSS2 : S.Less S2 := hSS.trans ((Mem.less_set _ _ _ f22.1).trans hS2)
    have hlv : LvR S2 b22 l := (lvR_box (Mem.own_set_same _ _ _) (hl.less (hSS.trans (Mem.less_set _ _ _ f22.1))) (idxR_less _ _ _ _ hu (Mem.less_set _ _ _ f22.1))).less hS2
    obtain ⟨ua, uc, rfl, _⟩ := id hu2
    refine rC (Calm.move rfl) ?_
    refine rC (Calm.extract rfl rfl) ?_
    refine rC (Calm.extract rfl rfl) ?_
    refine rC (Calm.assign rfl) ?_
    refine rC (Calm.assign rfl) ?_
    refine arun_nil ?_
    refine athen_n ?_
    refine AWP.sub [(0, _), (1, _), (4, _), (5, _), (6, _), (7, _), (17, _), (8, _), (9, _)] ⟨rfl, rfl, rfl, rfl, rfl, rfl, rfl, rfl, rfl, trivial⟩ ?_
    refine AWP.seq ?_
    refine AWP.seq ?_
    refine AWP.region ?_
    refine rC (Calm.move rfl) ?_
    refine rC (Calm.move rfl) ?_
    refine ARun.call (lit_lt rfl) go_53 rfl (or_Right _ _ (red l) ends S2 hu2 (hve.less hSS2) hel) ?_
    rintro _ S3 ⟨⟨t, rfl, ht⟩, h5⟩
    rw [h5]; clear h5 S3
    refine rC (Calm.un rfl (una_not _)) ?_
    refine arun_nil ?_
    refine athen_n ?_
    refine AWP.sub [(0, _), (1, _), (4, _), (5, _), (6, _), (7, _), (17, _), (8, _), (9, _), (31, _)] ⟨rfl, rfl, rfl, rfl, rfl, rfl, rfl, rfl, rfl, rfl, trivial⟩ ?_
    cases t
    · refine AWP.condT rfl (by first | rfl | (simp; done) | (simp; omega)) ?_
      have hn : ¬ RightE (red l) ends := fun h => by have := ht.2 h; cases this
      rw [expP_bad hc hn]
      refine AWP.seq ?_
      refine AWP.region ?_
      refine rC (Calm.assign rfl) ?_
      refine rC (Calm.assign rfl) ?_
      refine arun_nil ?_
      refine athen_n ?_
      refine AWP.ret ?_
      refine athen_ret ?_
      refine ⟨_, S2, ⟨_, _, rfl, ⟨_, _, rfl, rfl, rfl⟩, rfl⟩, Mem.Less.refl _, ?_⟩
      exact ⟨_, rfl, hSS2, sl_nilI _⟩
    · refine AWP.condF rfl (by first | rfl | (simp; done) | (simp; omega)) ?_
      have hy := ht.1 rfl
      rw [expP_yes hc hy]
      obtain ⟨e, rfl, hse⟩ := hy
      refine AWP.skip ?_
      refine athen_n ?_
      refine AWP.seq ?_
      refine AWP.region ?_
      refine rC (Calm.move rfl) ?_
      refine rC (Calm.move rfl) ?_
      refine ARun.call (lit_lt rfl) go_68 rfl (sk_expanded b22 _ l e S2 hlv (ints_idx (hve.less hSS2)) hok.2.1 hse hok.1) ?_
      rintro u4 S4 ⟨hS4, hu4⟩
      refine rC (Calm.assign rfl) ?_
      refine rC (Calm.assign rfl) ?_
      refine arun_nil ?_
      refine athen_n ?_
      refine AWP.sub [(0, _), (1, _), (4, _), (5, _), (6, _), (7, _), (17, _), (8, _), (9, _), (31, _)] ⟨rfl, rfl, rfl, rfl, rfl, rfl, rfl, rfl, rfl, rfl, trivial⟩ ?_
      refine AWP.ret ?_
      refine ⟨_, S4, ⟨_, _, rfl, ⟨_, _, rfl, rfl, rfl⟩, rfl⟩, Mem.Less.refl _, ?_⟩
      exact ⟨_, rfl, hSS2.trans hS4, hu4⟩
  · have es : smpL l = [] := if_neg hc
    have e1 := chk_no hc
    rw [expP_no hc]
    rw [es, e1] at hS
    refine ACall.enter (args := [.slice a l.length cap, .slice ea ends.length ec]) (rs := [.tmp 4, .tmp 5]) 35 [(0, .slice a l.length cap), (1, .slice ea ends.length ec)] Try.func28 rfl rfl (Nat.le_of_ble_eq_true rfl) rfl ⟨rfl, rfl, trivial⟩ ?_
    refine AWP.seq ?_
    refine AWP.region ?_
    refine rC (Calm.assign rfl) ?_
    refine rC (Calm.assign rfl) ?_
    refine arun_nil ?_
    refine athen_n ?_
    refine AWP.seq ?_
    refine AWP.region ?_
    refine rC (Calm.move rfl) ?_
    refine ARun.call (lit_lt rfl) go_15 rfl (hS) ?_
    rintro vs S1 ⟨u, rfl, hSS, hu⟩
    refine rC (Calm.move rfl) ?_
    refine rC (Calm.extract rfl rfl) ?_
    refine rC (Calm.extract rfl rfl) ?_
    refine rC (Calm.assign rfl) ?_
    refine rC (Calm.assign rfl) ?_
    refine arun_nil ?_
    refine athen_n ?_
    refine AWP.sub [(0, _), (1, _), (4, _), (5, _), (6, _), (7, _)] ⟨rfl, rfl, rfl, rfl, rfl, rfl, trivial⟩ ?_
    refine AWP.seq ?_
    refine AWP.seq ?_
    refine AWP.region ?_
    refine rC (Calm.move rfl) ?_
    refine rC (Calm.bin rfl rfl b_neq) ?_
    refine arun_nil ?_
    refine athen_n ?_
    refine AWP.sub [(0, _), (1, _), (4, _), (5, _), (6, _), (7, _), (17, _)] ⟨rfl, rfl, rfl, rfl, rfl, rfl, rfl, trivial⟩ ?_
    refine AWP.condT rfl (by first | rfl | (simp; done) | (simp; omega)) ?_
    refine AWP.seq ?_
    refine AWP.region ?_
    refine rC (Calm.move rfl) ?_
    refine rC (Calm.assign rfl) ?_
    refine rC (Calm.assign rfl) ?_
    refine arun_nil ?_
    refine athen_n ?_
    refine AWP.sub [(0, _), (1, _), (4, _), (5, _), (6, _), (7, _), (17, _)] ⟨rfl, rfl, rfl, rfl, rfl, rfl, rfl, trivial⟩ ?_
    refine AWP.ret ?_
    refine athen_ret ?_
    refine ⟨_, S1, ⟨_, _, rfl, ⟨_, _, rfl, rfl, rfl⟩, rfl⟩, Mem.Less.refl _, ?_⟩
    exact ⟨_, rfl, hSS, sl_nilI _⟩
set_option maxHeartbeats 1000000 in
theorem rsk_Expand (v ve : Value) (l : List Nat) (ends : List Int) (S : Mem) (hl : RowR S v l) (hve : Sl 1 i64s S ve ends) (hel : ends.length ≤ 17592186043904) :
    ACall Try.prog 29 #[v, ve] S fun r S' => ∃ u, r = .tuple #[u, .int .i64 (expP l ends).2] ∧ RdL gI (expP l ends).1 S u S' := by
  obtain ⟨a, cap, rfl, h1, h2, h3⟩ := id hl
  obtain ⟨ea, ec, rfl, _⟩ := id hve
  have hS := rsk_Reduce _ l S hl
  by_cases hc : chkL l = 0
  · have hok := chk_ok hc
    have er : redP l = red l := if_pos hc
    rw [er, hc] at hS
    refine ACall.enter (args := [.slice a l.length cap, .slice ea ends.length ec]) (rs := [.tmp 4, .tmp 5]) 26 [(0, .slice a l.length cap), (1, .slice ea ends.length ec)] Try.func29 rfl rfl (Nat.le_of_ble_eq_true rfl) rfl ⟨rfl, rfl, trivial⟩ ?_
    refine AWP.seq ?_
    refine AWP.region ?_
    refine rC (Calm.assign rfl) ?_
    refine rC (Calm.assign rfl) ?_
    refine arun_nil ?_
    refine athen_n ?_
    refine AWP.seq ?_
    refine AWP.region ?_
    refine rC (Calm.move rfl) ?_
    refine ARun.call (lit_lt rfl) go_20 rfl (hS) ?_
    rintro vs S1 ⟨u, rfl, hSS, hu⟩
    refine rC (Calm.move rfl) ?_
    refine rC (Calm.extract rfl rfl) ?_
    refine rC (Calm.extract rfl rfl) ?_
    refine rC (Calm.extract rfl rfl) ?_
    refine rC (Calm.assign rfl) ?_
    refine rC (Calm.assign rfl) ?_
    refine rC (Calm.assign rfl) ?_
    refine arun_nil ?_
    refine athen_n ?_
    refine AWP.sub [(0, _), (1, _), (4, _), (5, _), (6, _), (8, _)] ⟨rfl, rfl, rfl, rfl, rfl, rfl, trivial⟩ ?_
    refine AWP.seq ?_
    refine AWP.seq ?_
    refine AWP.region ?_
    refine rC (Calm.move rfl) ?_
    refine rC (Calm.bin rfl rfl b_neq) ?_
    refine arun_nil ?_
    refine athen_n ?_
    refine AWP.sub [(0, _), (1, _), (4, _), (5, _), (6, _), (8, _), (16, _)] ⟨rfl, rfl, rfl, rfl, rfl, rfl, rfl, trivial⟩ ?_
    refine AWP.condF rfl (by first | rfl | (simp; done) | (simp; omega)) ?_
    obtain ⟨ua, uc, rfl, _⟩ := id hu
    refine AWP.skip ?_
    refine athen_n ?_
    refine AWP.seq ?_
    refine AWP.seq ?_
    refine AWP.region ?_
    refine rC (Calm.move rfl) ?_
    refine rC (Calm.move rfl) ?_
    refine ARun.call (lit_lt rfl) go_54 rfl (rr_Right _ _ (red l) ends S1 hu (hve.less hSS) hel) ?_
    rintro _ S3 ⟨⟨t, rfl, ht⟩, h5⟩
    rw [h5]; clear h5 S3
    refine rC (Calm.un rfl (una_not _)) ?_
    refine arun_nil ?_
    refine athen_n ?_
    refine AWP.sub [(0, _), (1, _), (4, _), (5, _), (6, _), (8, _), (16, _), (21, _)] ⟨rfl, rfl, rfl, rfl, rfl, rfl, rfl, rfl, trivial⟩ ?_
    cases t
    · refine AWP.condT rfl (by first | rfl | (simp; done) | (simp; omega)) ?_
      have hn : ¬ RightE (red l) ends := fun h => by have := ht.2 h; cases this
      rw [expP_bad hc hn]
      refine AWP.seq ?_
      refine AWP.region ?_
      refine rC (Calm.assign rfl) ?_
      refine rC (Calm.assign rfl) ?_
      refine arun_nil ?_
      refine athen_n ?_
      refine AWP.ret ?_
      refine athen_ret ?_
      refine ⟨_, S1, ⟨_, _, rfl, ⟨_, _, rfl, rfl, rfl⟩, rfl⟩, Mem.Less.refl _, ?_⟩
      exact ⟨_, rfl, hSS, sl_nilI _⟩
    · refine AWP.condF rfl (by first | rfl | (simp; done) | (simp; omega)) ?_
      rw [expP_yes hc (ht.1 rfl)]
      refine AWP.skip ?_
      refine athen_n ?_
      refine AWP.seq ?_
      refine AWP.region ?_
      refine rC (Calm.move rfl) ?_
      refine ARun.call (lit_lt rfl) go_48 rfl (rr_Ends _ l S1 (hl.less hSS)) ?_
      rintro _ S4 hE
      obtain ⟨_, u4, rfl, hP⟩ := hE.resolve_right (fun h => by have := h.1; omega)
      refine rC (Calm.extract rfl rfl) ?_
      refine rC (Calm.extract rfl rfl) ?_
      refine rC (Calm.assign rfl) ?_
      refine rC (Calm.assign rfl) ?_
      refine arun_nil ?_
      refine athen_n ?_
      refine AWP.sub [(0, _), (1, _), (4, _), (5, _), (6, _), (8, _), (16, _), (21, _)] ⟨rfl, rfl, rfl, rfl, rfl, rfl, rfl, rfl, trivial⟩ ?_
      refine AWP.ret ?_
      refine ⟨_, S4, ⟨_, _, rfl, ⟨_, _, rfl, rfl, rfl⟩, rfl⟩, Mem.Less.refl _, ?_⟩
      exact ⟨u4, rfl, hSS.trans hP.1, hP.2⟩
  · have er : redP l = [] := if_neg hc
    have e1 := chk_no hc
    rw [expP_no hc]
    rw [er, e1] at hS
    refine ACall.enter (args := [.slice a l.length cap, .slice ea ends.length ec]) (rs := [.tmp 4, .tmp 5]) 26 [(0, .slice a l.length cap), (1, .slice ea ends.length ec)] Try.func29 rfl rfl (Nat.le_of_ble_eq_true rfl) rfl ⟨rfl, rfl, trivial⟩ ?_
    refine AWP.seq ?_
    refine AWP.region ?_
    refine rC (Calm.assign rfl) ?_
    refine rC (Calm.assign rfl) ?_
    refine arun_nil ?_
    refine athen_n ?_
    refine AWP.seq ?_
    refine AWP.region ?_
    refine rC (Calm.move rfl) ?_
    refine ARun.call (lit_lt rfl) go_20 rfl (hS) ?_
    rintro vs S1 ⟨u, rfl, hSS, hu⟩
    refine rC (Calm.move rfl) ?_
    refine rC (Calm.extract rfl rfl) ?_
    refine rC (Calm.extract rfl rfl) ?_
    refine rC (Calm.extract rfl rfl) ?_
    refine rC (Calm.assign rfl) ?_
    refine rC (Calm.assign rfl) ?_
    refine rC (Calm.assign rfl) ?_
    refine arun_nil ?_
    refine athen_n ?_
    refine AWP.sub [(0, _), (1, _), (4, _), (5, _), (6, _), (8, _)] ⟨rfl, rfl, rfl, rfl, rfl, rfl, trivial⟩ ?_
    refine AWP.seq ?_
    refine AWP.seq ?_
    refine AWP.region ?_
    refine rC (Calm.move rfl) ?_
    refine rC (Calm.bin rfl rfl b_neq) ?_
    refine arun_nil ?_
    refine athen_n ?_
    refine AWP.sub [(0, _), (1, _), (4, _), (5, _), (6, _), (8, _), (16, _)] ⟨rfl, rfl, rfl, rfl, rfl, rfl, rfl, trivial⟩ ?_
    refine AWP.condT rfl (by first | rfl | (simp; done) | (simp; omega)) ?_
    refine AWP.seq ?_
    refine AWP.region ?_
    refine rC (Calm.move rfl) ?_
    refine rC (Calm.assign rfl) ?_
    refine rC (Calm.assign rfl) ?_
    refine arun_nil ?_
    refine athen_n ?_
    refine AWP.sub [(0, _), (1, _), (4, _), (5, _), (6, _), (8, _), (16, _)] ⟨rfl, rfl, rfl, rfl, rfl, rfl, rfl, trivial⟩ ?_
    refine AWP.ret ?_
    refine athen_ret ?_
    refine ⟨_, S1, ⟨_, _, rfl, ⟨_, _, rfl, rfl, rfl⟩, rfl⟩, Mem.Less.refl _, ?_⟩
    exact ⟨_, rfl, hSS, sl_nilI _⟩
end Go.Proofs.Ytgidjbpgkeemiaa
