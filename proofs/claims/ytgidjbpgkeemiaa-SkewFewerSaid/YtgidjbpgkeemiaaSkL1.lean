/-
  Skew: the answers that the document gives.
-/
import Derived.Test.YtgidjbpgkeemiaaSk10
namespace Go.Proofs.Ytgidjbpgkeemiaa
open Go.RowKit
open Mv Num Loser Skew
set_option linter.unusedVariables false
set_option linter.unusedSimpArgs false
set_option maxRecDepth 8000
def exL : List Nat := [2, 1, 4, 1, 4, 1]
theorem ex_chk : chkL exL = 0 := by decide +kernel
theorem ex_smp : smpL exL = [1, 4, 2, 5] := by decide +kernel
theorem ex_tri : triL exL = [[1, 4, 1], [4, 1, 0], [4, 1, 4], [1, 0, 0]] := by decide +kernel
theorem ex_red : redP exL = [2, 3, 4, 1] := by decide +kernel
theorem ex_many : manyP exL = 4 := by decide +kernel
theorem ex_ends : endsP exL = [5, 3, 1, 0, 4, 2] := by decide +kernel
theorem ex_no (w : List Int) (h : w ≠ [3, 0, 1, 2]) : expP exL w = ([], 2) := by
  refine expP_bad ex_chk ?_
  rintro ⟨e, he, hs⟩
  have hr : red exL = [2, 3, 4, 1] := by decide +kernel
  have h2 : Ord.endsR (red exL) (red exL).length = [3, 0, 1, 2] := by decide +kernel
  have := Ord.sortedE_one hs (Ord.endsR_ok _)
  rw [this, h2] at he
  exact h he
theorem ex_bad0 : chkL [0] = 1 := by decide +kernel
theorem rows_at {S : Mem} {v : Value} {l : List (List Nat)} (n : Nat) (hn : l.length = n) (h : SlOf RowR S v l) (i : Nat) (hi : i < l.length) : ∃ pb po cap, v = .slice (some ⟨pb, po, none⟩) n cap ∧ ∃ u, S.Knows ⟨pb, po + i * 1, none⟩ [u] ∧ RowR S u l[i] := by
  subst hn
  obtain ⟨hs, e, ⟨a, cap, rfl, _, _, h3⟩, h4⟩ := h
  obtain ⟨pb, po, rfl, hk⟩ := h3.resolve_left (fun e' => by rw [e'] at e; simp at e; omega)
  exact ⟨pb, po, cap, by rw [e], hs[i], hk i (by omega), h4 i hi (by omega)⟩
theorem row_at {S : Mem} {v : Value} {l : List Nat} (n : Nat) (hn : l.length = n) (h : RowR S v l) (h0 : l ≠ []) : ∃ b o cap, v = .slice (some ⟨b, o, none⟩) n cap ∧ ∀ i (hi : i < l.length), S.Knows ⟨b, o + i * 1, none⟩ [.int .u64 (l[i] : Int)] := by
  subst hn
  obtain ⟨a, cap, rfl, _, _, h3⟩ := h
  obtain ⟨b, o, rfl, hk⟩ := h3.resolve_left h0
  exact ⟨b, o, cap, rfl, hk⟩
set_option maxHeartbeats 4000000 in
theorem sk_lives (S : Mem) : ACall Try.prog 14 #[] S fun r S' => r = .bool true ∧ S' = S := by
  refine ACall.enter (args := []) (rs := [.tmp 0]) 152 [] Try.func14 rfl rfl (Nat.le_of_ble_eq_true rfl) rfl trivial ?_
  refine AWP.seq ?_
  refine AWP.region ?_
  refine rC (Calm.assign rfl) ?_
  refine arun_nil ?_
  refine athen_n ?_
  refine AWP.seq ?_
  refine AWP.region ?_
  refine ARun.buildN (cs := [_, _, _, _, _, _]) (lit_lt rfl) ty_sl_22 rfl rfl rfl rfl ?_
  intro b15 f15
  have g15 := f15
  repeat ((with_reducible replace g15 := fresh_set g15); obtain ⟨g15, _⟩ := g15)
  refine rC (Calm.assign rfl) ?_
  refine arun_nil ?_
  refine athen_n ?_
  refine AWP.sub [(0, _), (1, _)] ⟨rfl, rfl, trivial⟩ ?_
  refine named (S := S) (b := b15) g15.1 ?_
  intro T1 hT1 kb15
  have hl : RowR T1 (.slice (some ⟨b15, 0, none⟩) 6 6) exL := Sl.own1 (g := gU) (l := exL) kb15 List.prefix_rfl rfl (Nat.le_refl _) (by decide)
  refine AWP.seq ?_
  refine AWP.region ?_
  refine rC (Calm.move rfl) ?_
  refine ARun.call (lit_lt rfl) go_15 rfl (sk_Samples _ exL _ hl) ?_
  rintro _ S2 ⟨u2, rfl, hS2, hu2⟩
  rw [ex_smp] at hu2; rw [ex_chk]
  obtain ⟨a2, c2, rfl, _⟩ := id hu2
  replace hl := hl.less hS2
  refine rC (Calm.move rfl) ?_
  refine rC (Calm.extract rfl rfl) ?_
  refine rC (Calm.extract rfl rfl) ?_
  refine rC (Calm.assign rfl) ?_
  refine rC (Calm.assign rfl) ?_
  refine arun_nil ?_
  refine athen_n ?_
  refine AWP.sub [(0, _), (1, _), (2, _), (3, _)] ⟨rfl, rfl, rfl, rfl, trivial⟩ ?_
  refine AWP.seq ?_
  refine AWP.region ?_
  refine rC (Calm.move rfl) ?_
  refine ARun.call (lit_lt rfl) go_17 rfl (sk_Triples _ exL _ hl) ?_
  rintro _ S3 ⟨u3, rfl, hS3, hu3⟩
  rw [ex_tri] at hu3; rw [ex_chk]
  replace hl := hl.less hS3
  replace hu2 := hu2.less hS3
  refine rC (Calm.move rfl) ?_
  refine rC (Calm.extract rfl rfl) ?_
  refine rC (Calm.extract rfl rfl) ?_
  refine rC (Calm.assign rfl) ?_
  refine rC (Calm.assign rfl) ?_
  refine arun_nil ?_
  refine athen_n ?_
  refine AWP.sub [(0, _), (1, _), (2, _), (3, _), (4, _), (5, _)] ⟨rfl, rfl, rfl, rfl, rfl, rfl, trivial⟩ ?_
  refine AWP.seq ?_
  refine AWP.region ?_
  refine rC (Calm.move rfl) ?_
  refine ARun.call (lit_lt rfl) go_19 rfl (sk_Reduce _ exL _ hl) ?_
  rintro _ S4 ⟨u4, rfl, hS4, hu4⟩
  rw [ex_red] at hu4; rw [ex_chk, ex_many]
  obtain ⟨pb4, po4, c4, rfl, k4⟩ := row_at 4 rfl hu4 (by decide)
  replace hl := hl.less hS4
  replace hu2 := hu2.less hS4
  replace hu3 := hu3.less rowR_less hS4
  refine rC (Calm.move rfl) ?_
  refine rC (Calm.extract rfl rfl) ?_
  refine rC (Calm.extract rfl rfl) ?_
  refine rC (Calm.extract rfl rfl) ?_
  refine rC (Calm.assign rfl) ?_
  refine rC (Calm.assign rfl) ?_
  refine rC (Calm.assign rfl) ?_
  refine arun_nil ?_
  refine athen_n ?_
  refine AWP.sub [(0, _), (1, _), (2, _), (3, _), (4, _), (5, _), (6, _), (7, _), (8, _)] ⟨rfl, rfl, rfl, rfl, rfl, rfl, rfl, rfl, rfl, trivial⟩ ?_
  refine AWP.seq ?_
  refine AWP.region ?_
  refine rC (Calm.move rfl) ?_
  refine ARun.call (lit_lt rfl) go_26 rfl (sk_Ends _ exL _ hl) ?_
  rintro _ S5 ⟨u5, rfl, hS5, hu5⟩
  rw [ex_ends] at hu5; rw [ex_chk]
  obtain ⟨a5, c5, rfl, _⟩ := id hu5
  have hS15 := hT1.trans (hS2.trans (hS3.trans (hS4.trans hS5)))
  replace hl := hl.less hS5
  replace hu2 := hu2.less hS5
  replace hu3 := hu3.less rowR_less hS5
  replace k4 := fun i hi => (k4 i hi).less hS5
  refine rC (Calm.move rfl) ?_
  refine rC (Calm.extract rfl rfl) ?_
  refine rC (Calm.extract rfl rfl) ?_
  refine rC (Calm.assign rfl) ?_
  refine rC (Calm.assign rfl) ?_
  refine arun_nil ?_
  refine athen_n ?_
  refine AWP.sub [(0, _), (1, _), (2, _), (3, _), (4, _), (5, _), (6, _), (7, _), (8, _), (9, _), (10, _)] ⟨rfl, rfl, rfl, rfl, rfl, rfl, rfl, rfl, rfl, rfl, rfl, trivial⟩ ?_
  refine AWP.seq ?_
  refine AWP.region ?_
  refine rC (Calm.move rfl) ?_
  refine ARun.buildN (cs := [_, _, _, _]) (lit_lt rfl) ty_sl_24 rfl rfl rfl rfl ?_
  intro b39 f39
  have g39 := f39
  repeat ((with_reducible replace g39 := fresh_set g39); obtain ⟨g39, _⟩ := g39)
  refine ARun.call (lit_lt rfl) go_28 rfl (sk_Expand _ _ exL [0, 3, 2, 1] _ (hl.less (Mem.less_set _ _ _ f39.1)) (Sl.own1 (g := gZ) (l := [0, 3, 2, 1]) (Mem.own_set_same _ _ _) List.prefix_rfl rfl (Nat.le_refl _) (by decide)) (by decide)) ?_
  rintro _ S6 ⟨u6, rfl, hS6, hu6⟩
  rw [ex_no _ (by decide)] at hu6 ⊢
  obtain ⟨a6, c6, rfl, _⟩ := id hu6
  replace hS6 := (Mem.less_set _ _ _ f39.1).trans hS6
  replace hl := hl.less hS6
  replace hu2 := hu2.less hS6
  replace hu3 := hu3.less rowR_less hS6
  replace k4 := fun i hi => (k4 i hi).less hS6
  replace hu5 := hu5.less hS6
  refine rC (Calm.move rfl) ?_
  refine rC (Calm.extract rfl rfl) ?_
  refine rC (Calm.extract rfl rfl) ?_
  refine rC (Calm.assign rfl) ?_
  refine rC (Calm.assign rfl) ?_
  refine arun_nil ?_
  refine athen_n ?_
  refine AWP.sub [(0, _), (1, _), (2, _), (3, _), (4, _), (5, _), (6, _), (7, _), (8, _), (9, _), (10, _), (11, _), (12, _)] ⟨rfl, rfl, rfl, rfl, rfl, rfl, rfl, rfl, rfl, rfl, rfl, rfl, rfl, trivial⟩ ?_
  refine AWP.seq ?_
  refine AWP.region ?_
  refine rC (Calm.move rfl) ?_
  refine ARun.buildN (cs := [_, _, _, _]) (lit_lt rfl) ty_sl_24 rfl rfl rfl rfl ?_
  intro b45 f45
  have g45 := f45
  repeat ((with_reducible replace g45 := fresh_set g45); obtain ⟨g45, _⟩ := g45)
  refine ARun.call (lit_lt rfl) go_28 rfl (sk_Expand _ _ exL [0, 1, 2, 3] _ (hl.less (Mem.less_set _ _ _ f45.1)) (Sl.own1 (g := gZ) (l := [0, 1, 2, 3]) (Mem.own_set_same _ _ _) List.prefix_rfl rfl (Nat.le_refl _) (by decide)) (by decide)) ?_
  rintro _ S7 ⟨u7, rfl, hS7, hu7⟩
  rw [ex_no _ (by decide)] at hu7 ⊢
  obtain ⟨a7, c7, rfl, _⟩ := id hu7
  replace hS7 := (Mem.less_set _ _ _ f45.1).trans hS7
  replace hu2 := hu2.less hS7
  replace hu3 := hu3.less rowR_less hS7
  replace k4 := fun i hi => (k4 i hi).less hS7
  replace hu5 := hu5.less hS7
  have hSS := hS15.trans (hS6.trans hS7)
  obtain ⟨pb3, po3, c3, rfl, u33, k3, hu33⟩ := rows_at 4 rfl hu3 3 (by decide)
  obtain ⟨pb33, po33, c33, rfl, k33⟩ := row_at 3 rfl hu33 (by decide)
  have k330 : Mem.Knows _ ⟨pb33, po33 + 0 * 1, none⟩ [.int .u64 1] := k33 0 (by decide)
  have k331 : Mem.Knows _ ⟨pb33, po33 + 1 * 1, none⟩ [.int .u64 0] := k33 1 (by decide)
  have k40 : Mem.Knows _ ⟨pb4, po4 + 0 * 1, none⟩ [.int .u64 2] := k4 0 (by decide)
  have k41 : Mem.Knows _ ⟨pb4, po4 + 1 * 1, none⟩ [.int .u64 3] := k4 1 (by decide)
  have k42 : Mem.Knows _ ⟨pb4, po4 + 2 * 1, none⟩ [.int .u64 4] := k4 2 (by decide)
  have k43 : Mem.Knows _ ⟨pb4, po4 + 3 * 1, none⟩ [.int .u64 1] := k4 3 (by decide)
  refine rC (Calm.move rfl) ?_
  refine rC (Calm.extract rfl rfl) ?_
  refine rC (Calm.extract rfl rfl) ?_
  refine rC (Calm.assign rfl) ?_
  refine rC (Calm.assign rfl) ?_
  refine arun_nil ?_
  refine athen_n ?_
  refine AWP.sub [(0, _), (1, _), (2, _), (3, _), (4, _), (5, _), (6, _), (7, _), (8, _), (9, _), (10, _), (11, _), (12, _), (14, _)] ⟨rfl, rfl, rfl, rfl, rfl, rfl, rfl, rfl, rfl, rfl, rfl, rfl, rfl, rfl, trivial⟩ ?_
  refine AWP.seq ?_
  refine AWP.region ?_
  refine rC (Calm.move rfl) ?_
  refine ARun.buildN (cs := [_, _, _, _]) (lit_lt rfl) ty_sl_24 rfl rfl rfl rfl ?_
  intro b50 f50
  have g50 := f50
  repeat ((with_reducible replace g50 := fresh_set g50); obtain ⟨g50, _⟩ := g50)
  refine ARun.call (lit_lt rfl) go_21 rfl (si_SameNumbers [1, 4, 2, 5] [1, 4, 2, 5] _ _ _ (idx_ints (hu2.less (Mem.less_set _ _ _ f50.1))) (Sl.own1 (g := gZ) (l := [1, 4, 2, 5]) (Mem.own_set_same _ _ _) List.prefix_rfl rfl (Nat.le_refl _) (by decide))) ?_
  rintro _ S8 ⟨rfl, e1⟩
  rw [e1, decide_eq_true (Eq.refl _)]; clear e1 S8
  refine rC (Calm.move rfl) ?_
  first | refine rS 52 ?_ | refine rU 52 ?_ | refine rG 52 (Calm.move rfl) ?_
  first | refine rS 52 ?_ | refine rU 52 ?_ | refine rG 52 (Calm.bin rfl rfl b_eql) ?_
  refine rC ((by first | exact Calm.pickT rfl rfl | exact Calm.pickF rfl rfl)) ?_
  refine rC (Calm.move rfl) ?_
  first | refine rS 56 ?_ | refine rU 56 ?_ | refine rG 56 (Calm.move rfl) ?_
  first | refine rS 56 ?_ | refine rU 56 ?_ | refine rG 56 (Calm.lenSl Try.underlying28 rfl) ?_
  first | refine rS 56 ?_ | refine rU 56 ?_ | refine rG 56 (Calm.bin rfl rfl b_eql) ?_
  refine rC ((by first | exact Calm.pickT rfl rfl | exact Calm.pickF rfl rfl)) ?_
  refine rC (Calm.move rfl) ?_
  first | refine rS 61 ?_ | refine rU 61 ?_ | refine rG 61 (Calm.move rfl) ?_
  first | refine rS 61 ?_ | refine rU 61 ?_ | refine rG 61 (Calm.indexS Try.underlying28 ty_size_22 rfl rfl (by omega) (by omega)) ?_
  first | refine rS 61 ?_ | refine rU 61 ?_ | refine rG 61 (ld_ ty_plain_22 rfl) ?_
  first | refine rS 61 ?_ | refine rU 61 ?_ | refine rG 61 (Calm.lenSl Try.underlying22 rfl) ?_
  first | refine rS 61 ?_ | refine rU 61 ?_ | refine rG 61 (Calm.bin rfl rfl b_eql) ?_
  refine rC ((by first | exact Calm.pickT rfl rfl | exact Calm.pickF rfl rfl)) ?_
  refine rC (Calm.move rfl) ?_
  first | refine rS 68 ?_ | refine rU 68 ?_ | refine rG 68 (Calm.move rfl) ?_
  first | refine rS 68 ?_ | refine rU 68 ?_ | refine rG 68 (Calm.indexS Try.underlying28 ty_size_22 rfl rfl (by omega) (by omega)) ?_
  first | refine rS 68 ?_ | refine rU 68 ?_ | refine rG 68 (ld_ ty_plain_22 rfl) ?_
  first | refine rS 68 ?_ | refine rU 68 ?_ | refine rG 68 (Calm.indexS Try.underlying22 ty_size_41 rfl rfl (by omega) (by omega)) ?_
  first | refine rS 68 ?_ | refine rU 68 ?_ | refine rG 68 (ld_ ty_plain_41 rfl) ?_
  first | refine rS 68 ?_ | refine rU 68 ?_ | refine rG 68 (Calm.bin rfl rfl b_eql) ?_
  refine rC ((by first | exact Calm.pickT rfl rfl | exact Calm.pickF rfl rfl)) ?_
  refine rC (Calm.move rfl) ?_
  first | refine rS 76 ?_ | refine rU 76 ?_ | refine rG 76 (Calm.move rfl) ?_
  first | refine rS 76 ?_ | refine rU 76 ?_ | refine rG 76 (Calm.indexS Try.underlying28 ty_size_22 rfl rfl (by omega) (by omega)) ?_
  first | refine rS 76 ?_ | refine rU 76 ?_ | refine rG 76 (ld_ ty_plain_22 rfl) ?_
  first | refine rS 76 ?_ | refine rU 76 ?_ | refine rG 76 (Calm.indexS Try.underlying22 ty_size_41 rfl rfl (by omega) (by omega)) ?_
  first | refine rS 76 ?_ | refine rU 76 ?_ | refine rG 76 (ld_ ty_plain_41 rfl) ?_
  first | refine rS 76 ?_ | refine rU 76 ?_ | refine rG 76 (Calm.bin rfl rfl b_eql) ?_
  refine rC ((by first | exact Calm.pickT rfl rfl | exact Calm.pickF rfl rfl)) ?_
  refine rC (Calm.move rfl) ?_
  first | refine rS 84 ?_ | refine rU 84 ?_ | refine rG 84 (Calm.move rfl) ?_
  first | refine rS 84 ?_ | refine rU 84 ?_ | refine rG 84 (Calm.bin rfl rfl b_eql) ?_
  refine rC ((by first | exact Calm.pickT rfl rfl | exact Calm.pickF rfl rfl)) ?_
  refine rC (Calm.move rfl) ?_
  first | refine rS 88 ?_ | refine rU 88 ?_ | refine rG 88 (Calm.move rfl) ?_
  first | refine rS 88 ?_ | refine rU 88 ?_ | refine rG 88 (Calm.lenSl Try.underlying22 rfl) ?_
  first | refine rS 88 ?_ | refine rU 88 ?_ | refine rG 88 (Calm.bin rfl rfl b_eql) ?_
  refine rC ((by first | exact Calm.pickT rfl rfl | exact Calm.pickF rfl rfl)) ?_
  refine rC (Calm.move rfl) ?_
  first | refine rS 93 ?_ | refine rU 93 ?_ | refine rG 93 (Calm.move rfl) ?_
  first | refine rS 93 ?_ | refine rU 93 ?_ | refine rG 93 (Calm.indexS Try.underlying22 ty_size_41 rfl rfl (by omega) (by omega)) ?_
  first | refine rS 93 ?_ | refine rU 93 ?_ | refine rG 93 (ld_ ty_plain_41 rfl) ?_
  first | refine rS 93 ?_ | refine rU 93 ?_ | refine rG 93 (Calm.bin rfl rfl b_eql) ?_
  refine rC ((by first | exact Calm.pickT rfl rfl | exact Calm.pickF rfl rfl)) ?_
  refine rC (Calm.move rfl) ?_
  first | refine rS 99 ?_ | refine rU 99 ?_ | refine rG 99 (Calm.move rfl) ?_
  first | refine rS 99 ?_ | refine rU 99 ?_ | refine rG 99 (Calm.indexS Try.underlying22 ty_size_41 rfl rfl (by omega) (by omega)) ?_
  first | refine rS 99 ?_ | refine rU 99 ?_ | refine rG 99 (ld_ ty_plain_41 rfl) ?_
  first | refine rS 99 ?_ | refine rU 99 ?_ | refine rG 99 (Calm.bin rfl rfl b_eql) ?_
  refine rC ((by first | exact Calm.pickT rfl rfl | exact Calm.pickF rfl rfl)) ?_
  refine rC (Calm.move rfl) ?_
  first | refine rS 105 ?_ | refine rU 105 ?_ | refine rG 105 (Calm.move rfl) ?_
  first | refine rS 105 ?_ | refine rU 105 ?_ | refine rG 105 (Calm.indexS Try.underlying22 ty_size_41 rfl rfl (by omega) (by omega)) ?_
  first | refine rS 105 ?_ | refine rU 105 ?_ | refine rG 105 (ld_ ty_plain_41 rfl) ?_
  first | refine rS 105 ?_ | refine rU 105 ?_ | refine rG 105 (Calm.bin rfl rfl b_eql) ?_
  refine rC ((by first | exact Calm.pickT rfl rfl | exact Calm.pickF rfl rfl)) ?_
  refine rC (Calm.move rfl) ?_
  first | refine rS 111 ?_ | refine rU 111 ?_ | refine rG 111 (Calm.move rfl) ?_
  first | refine rS 111 ?_ | refine rU 111 ?_ | refine rG 111 (Calm.indexS Try.underlying22 ty_size_41 rfl rfl (by omega) (by omega)) ?_
  first | refine rS 111 ?_ | refine rU 111 ?_ | refine rG 111 (ld_ ty_plain_41 rfl) ?_
  first | refine rS 111 ?_ | refine rU 111 ?_ | refine rG 111 (Calm.bin rfl rfl b_eql) ?_
  refine rC ((by first | exact Calm.pickT rfl rfl | exact Calm.pickF rfl rfl)) ?_
  refine rC (Calm.move rfl) ?_
  first | refine rS 117 ?_ | refine rU 117 ?_ | refine rG 117 (Calm.move rfl) ?_
  first | refine rS 117 ?_ | refine rU 117 ?_ | refine rG 117 (Calm.bin rfl rfl b_eql) ?_
  refine rC ((by first | exact Calm.pickT rfl rfl | exact Calm.pickF rfl rfl)) ?_
  refine rC (Calm.move rfl) ?_
  first | refine rS 121 ?_ | refine rU 121 ?_ | refine rG 121 (Calm.move rfl) ?_
  first | refine rS 121 ?_ | refine rU 121 ?_ | refine rG 121 (Calm.bin rfl rfl b_eql) ?_
  refine rC ((by first | exact Calm.pickT rfl rfl | exact Calm.pickF rfl rfl)) ?_
  refine rC (Calm.move rfl) ?_
  first | refine rS 125 ?_ | refine rU 125 ?_ | refine rG 125 (Calm.move rfl) ?_
  refine rUn 125 ?_
  refine ARun.buildN (cs := [_, _, _, _, _, _]) (lit_lt rfl) ty_sl_24 rfl rfl rfl rfl ?_
  intro b127 f127
  have g127 := f127
  repeat ((with_reducible replace g127 := fresh_set g127); obtain ⟨g127, _⟩ := g127)
  refine ARun.callG 76 true 125 rfl (lit_lt rfl) rfl (lit_lt rfl) go_21 rfl (si_SameNumbers [5, 3, 1, 0, 4, 2] [5, 3, 1, 0, 4, 2] _ _ _ (idx_ints (hu5.less less_)) (Sl.own1 (g := gZ) (l := [5, 3, 1, 0, 4, 2]) own_ List.prefix_rfl rfl (Nat.le_refl _) (by decide))) ?_
  rintro _ S8 ⟨rfl, e1⟩
  rw [e1, decide_eq_true (Eq.refl _)]; clear e1 S8
  refine rC ((by first | exact Calm.pickT rfl rfl | exact Calm.pickF rfl rfl)) ?_
  refine rC (Calm.move rfl) ?_
  first | refine rS 130 ?_ | refine rU 130 ?_ | refine rG 130 (Calm.move rfl) ?_
  first | refine rS 130 ?_ | refine rU 130 ?_ | refine rG 130 (Calm.bin rfl rfl b_eql) ?_
  refine rC ((by first | exact Calm.pickT rfl rfl | exact Calm.pickF rfl rfl)) ?_
  refine rC (Calm.move rfl) ?_
  first | refine rS 134 ?_ | refine rU 134 ?_ | refine rG 134 (Calm.move rfl) ?_
  first | refine rS 134 ?_ | refine rU 134 ?_ | refine rG 134 (Calm.bin rfl rfl b_eql) ?_
  first | refine rS 134 ?_ | refine rU 134 ?_ | refine rG 134 (Calm.move rfl) ?_
  first | refine rS 137 ?_ | refine rU 137 ?_ | refine rG 137 (Calm.move rfl) ?_
  first | refine rS 137 ?_ | refine rU 137 ?_ | refine rG 137 (Calm.move rfl) ?_
  first | refine rS 137 ?_ | refine rU 137 ?_
  first | refine rS 134 ?_ | refine rU 134 ?_ | refine rG 134 ((by first | exact Calm.pickT rfl rfl | exact Calm.pickF rfl rfl)) ?_
  refine rC ((by first | exact Calm.pickT rfl rfl | exact Calm.pickF rfl rfl)) ?_
  refine rC (Calm.move rfl) ?_
  first | refine rS 143 ?_ | refine rU 143 ?_ | refine rG 143 (Calm.move rfl) ?_
  first | refine rS 143 ?_ | refine rU 143 ?_ | refine rG 143 (Calm.bin rfl rfl b_eql) ?_
  refine rC ((by first | exact Calm.pickT rfl rfl | exact Calm.pickF rfl rfl)) ?_
  refine rC (Calm.move rfl) ?_
  refine rUn 147 ?_
  refine ARun.build1s (lit_lt rfl) ty_sl_22 rfl rfl ?_
  intro b148 f148
  have g148 := f148
  repeat ((with_reducible replace g148 := fresh_set g148); obtain ⟨g148, _⟩ := g148)
  refine ARun.callG 98 true 147 rfl (lit_lt rfl) rfl (lit_lt rfl) go_24 rfl (sk_Check _ [0] _ (Sl.own1 (g := gU) (l := [0]) own_ List.prefix_rfl rfl (Nat.le_refl _) (by decide))) ?_
  rintro _ S8 ⟨rfl, e1⟩
  rw [e1, ex_bad0]; clear e1 S8
  first | refine rS 147 ?_ | refine rU 147 ?_ | refine rG 147 (Calm.bin rfl rfl b_eql) ?_
  refine rC ((by first | exact Calm.pickT rfl rfl | exact Calm.pickF rfl rfl)) ?_
  refine rC (Calm.assign rfl) ?_
  refine arun_nil ?_
  refine athen_n ?_
  refine AWP.sub [(0, _), (1, _), (2, _), (3, _), (4, _), (5, _), (6, _), (7, _), (8, _), (9, _), (10, _), (11, _), (12, _), (14, _)] ⟨rfl, rfl, rfl, rfl, rfl, rfl, rfl, rfl, rfl, rfl, rfl, rfl, rfl, rfl, trivial⟩ ?_
  refine AWP.ret ?_
  refine ⟨_, S, ⟨_, _, rfl, rfl, rfl⟩, hSS.trans less_, ?_⟩
  exact ⟨rfl, rfl⟩
end Go.Proofs.Ytgidjbpgkeemiaa
