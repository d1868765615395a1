/-
  Skew: samples and triples, by the document.
-/
import Derived.Test.YtgidjbpgkeemiaaSk2
namespace Go.Proofs.Ytgidjbpgkeemiaa
open Go.RowKit
open Mv Num Loser Skew
set_option linter.unusedVariables false
set_option linter.unusedSimpArgs false
set_option maxRecDepth 4000
theorem endP_lt (n i : Nat) (h : i ≤ n) : i < endP n ↔ i < n ∨ i = n ∧ n % 3 = 1 := by have := endP_or n; omega
set_option maxHeartbeats 1000000 in
theorem rsk_Places (ii : Int) (n : Nat) (ei : ii = n) (hn : n ≤ 1048576) (S : Mem) :
    ACall Try.prog 60 #[.int .i64 ii] S (RdL gI (places n) S) := by
  subst ei
  have hE := endP_or n
  have hp : places n = accP (endP n) 3 := rfl
  rw [hp]
  generalize endP n = E at *
  refine ACall.enter (args := [.int .i64 (n : Int)]) (rs := [.tmp 2]) 38 [(0, .int .i64 (n : Int))] Try.func60 rfl rfl (Nat.le_of_ble_eq_true rfl) rfl ⟨rfl, trivial⟩ ?_
  refine AWP.seq ?_
  refine AWP.region ?_
  refine rC (Calm.assign rfl) ?_
  refine arun_nil ?_
  refine athen_n ?_
  refine AWP.seq ?_
  refine AWP.region ?_
  refine rC (Calm.assign rfl) ?_
  refine arun_nil ?_
  refine athen_n ?_
  refine AWP.seq ?_
  refine AWP.seq ?_
  refine AWP.region ?_
  refine ARun.buildN (cs := [_, _]) (lit_lt rfl) ty_sl_24 rfl rfl rfl rfl ?_
  intro b7 f7
  have g7 := f7
  repeat ((with_reducible replace g7 := fresh_set g7); obtain ⟨g7, _⟩ := g7)
  refine rC (Calm.lenSl Try.underlying24 rfl) ?_
  refine rC (Calm.move rfl) ?_
  refine arun_nil ?_
  refine athen_n ?_
  refine AWP.block ?_
  refine AWP.loop (X := Nat × List Nat × Option (Nat × Nat)) (fun x => [(0, .int .i64 (n : Int)), (3, outV x.2.2 x.2.1.length), (7, .slice (some ⟨b7, 0, none⟩) 2 2), (8, .int .i64 2), (9, .int .i64 x.1)]) (fun x => outM (S.set b7 ⟨3, [.int .i64 1, .int .i64 2], 2⟩) x.2.2 3 (x.2.1.map gI)) (fun x => x.1 ≤ 2 ∧ x.2.1 = accP E (x.1 + 1) ∧ OkO (S.set b7 ⟨3, [.int .i64 1, .int .i64 2], 2⟩) x.2.2 x.2.1.length) (fun x => 2 - x.1) ((0, [], none)) ⟨rfl, rfl, rfl, rfl, rfl, trivial⟩ (Mem.Less.refl _) (⟨by dsimp only; omega, rfl, okO_nil _⟩) ?_
  rintro ⟨k, L, o⟩ ⟨h2, hL, ho⟩
  (try dsimp only at *)
  by_cases hk : k < 2
  · refine AWP.seq ?_
    refine AWP.region ?_
    refine rC (Calm.bin rfl rfl b_lss) ?_
    refine arun_nil ?_
    refine athen_n ?_
    refine AWP.seq ?_
    refine AWP.condT rfl (by first | rfl | (simp; done) | (simp; omega)) ?_
    have own7 := own_outM (e := 3) (cs := L.map gI) ho (Mem.own_set_same S b7 ⟨3, [.int .i64 1, .int .i64 2], 2⟩)
    have k7 : Mem.Knows (outM (S.set b7 ⟨3, [.int .i64 1, .int .i64 2], 2⟩) o 3 (L.map gI)) ⟨b7, 0 + k * 1, none⟩ [.int .i64 ((k + 1 : Nat) : Int)] := kn_cell own7 k (by rcases (by omega : k = 0 ∨ k = 1) with rfl | rfl <;> rfl)
    refine AWP.skip ?_
    refine athen_n ?_
    refine AWP.seq ?_
    refine AWP.block ?_
    refine AWP.seq ?_
    refine AWP.region ?_
    refine rC (Calm.indexS Try.underlying24 ty_size_3 rfl rfl (by omega) (by omega)) ?_
    refine rC (ld_ ty_plain_3 rfl) ?_
    refine rC (Calm.assign rfl) ?_
    refine arun_nil ?_
    refine athen_n ?_
    refine AWP.sub [(0, _), (3, _), (7, _), (8, _), (9, _), (10, _), (5, _)] ⟨rfl, rfl, rfl, rfl, rfl, rfl, rfl, trivial⟩ ?_
    refine AWP.seq ?_
    refine AWP.region ?_
    refine rC (Calm.assign rfl) ?_
    refine arun_nil ?_
    refine athen_n ?_
    refine AWP.block ?_
    refine AWP.loop (X := Nat × List Nat × Option (Nat × Nat)) (fun x => [(0, .int .i64 (n : Int)), (3, outV x.2.2 x.2.1.length), (5, .int .i64 ((k + 1 : Nat) : Int)), (6, .int .i64 x.1), (7, .slice (some ⟨b7, 0, none⟩) 2 2), (8, .int .i64 2), (9, .int .i64 k)]) (fun x => outM (S.set b7 ⟨3, [.int .i64 1, .int .i64 2], 2⟩) x.2.2 3 (x.2.1.map gI)) (fun x => x.1 ≤ E ∧ x.2.1 = accP E (k + 1) ++ restP (k + 1) x.1 ∧ OkO (S.set b7 ⟨3, [.int .i64 1, .int .i64 2], 2⟩) x.2.2 x.2.1.length) (fun x => E - x.1) ((0, L, o)) ⟨rfl, rfl, rfl, rfl, rfl, rfl, rfl, trivial⟩ (Mem.Less.refl _) (⟨Nat.zero_le _, by dsimp only; rw [hL]; exact (List.append_nil _).symm, ho⟩) ?_
    rintro ⟨i, L2, o2⟩ ⟨k1, k3, k4⟩
    (try dsimp only at *)
    have hlen : L2.length ≤ 1048577 + 1048577 := by rw [k3, List.length_append, restP_length _ (by omega)]; have := acc_len E (k + 1) (by omega) (by omega); omega
    refine AWP.seq ?_
    refine AWP.seq ?_
    refine AWP.join (X := Bool) (fun x => [(0, .int .i64 (n : Int)), (3, outV o2 L2.length), (5, .int .i64 ((k + 1 : Nat) : Int)), (6, .int .i64 i), (7, .slice (some ⟨b7, 0, none⟩) 2 2), (8, .int .i64 2), (9, .int .i64 k), (25, .bool x)]) (fun _ => outM (S.set b7 ⟨3, [.int .i64 1, .int .i64 2], 2⟩) o2 3 (L2.map gI)) (fun x => x = decide (i < E)) ?_ ?_
    · by_cases c1 : i < n
      · refine AWP.region ?_
        refine rC (Calm.move rfl) ?_
        refine rC (Calm.move rfl) ?_
        refine rC (Calm.bin rfl rfl b_lss) ?_
        refine rC (Calm.move rfl) ?_
        first | refine rS 16 ?_ | refine rU 16 ?_ | refine rG 16 (Calm.move rfl) ?_
        first | refine rS 16 ?_ | refine rU 16 ?_ | refine rG 16 (Calm.move rfl) ?_
        first | refine rS 16 ?_ | refine rU 16 ?_ | refine rG 16 (Calm.bin rfl rfl b_eql) ?_
        first | refine rS 16 ?_ | refine rU 16 ?_ | refine rG 16 (Calm.move rfl) ?_
        first | refine rS 20 ?_ | refine rU 20 ?_ | refine rG 20 (Calm.move rfl) ?_
        first | refine rS 20 ?_ | refine rU 20 ?_ | refine rG 20 (Calm.bin rfl rfl b_rem) ?_
        first | refine rS 20 ?_ | refine rU 20 ?_ | refine rG 20 (Calm.bin rfl rfl b_eql) ?_
        first | refine rS 16 ?_ | refine rU 16 ?_ | refine rG 16 ((by first | exact Calm.pickT rfl rfl | exact Calm.pickF rfl rfl)) ?_
        refine rC ((by first | exact Calm.pickT rfl rfl | exact Calm.pickF rfl rfl)) ?_
        refine arun_nil ?_
        refine ⟨true, ?_, ?_, ?_⟩
        all_goals (try dsimp only)
        · exact (decide_eq_true (by omega)).symm
        · exact ⟨sq_, sq_, sq_, sq_, sq_, sq_, sq_, sq_, trivial⟩
        · exact Mem.Less.refl _
      · by_cases c2 : i = n
        · by_cases c3 : n % 3 = 1
          · refine AWP.region ?_
            refine rC (Calm.move rfl) ?_
            refine rC (Calm.move rfl) ?_
            refine rC (Calm.bin rfl rfl b_lss) ?_
            refine rC (Calm.move rfl) ?_
            first | refine rS 16 ?_ | refine rU 16 ?_ | refine rG 16 (Calm.move rfl) ?_
            first | refine rS 16 ?_ | refine rU 16 ?_ | refine rG 16 (Calm.move rfl) ?_
            first | refine rS 16 ?_ | refine rU 16 ?_ | refine rG 16 (Calm.bin rfl rfl b_eql) ?_
            first | refine rS 16 ?_ | refine rU 16 ?_ | refine rG 16 (Calm.move rfl) ?_
            first | refine rS 20 ?_ | refine rU 20 ?_ | refine rG 20 (Calm.move rfl) ?_
            first | refine rS 20 ?_ | refine rU 20 ?_ | refine rG 20 (Calm.bin rfl rfl b_rem) ?_
            first | refine rS 20 ?_ | refine rU 20 ?_ | refine rG 20 (Calm.bin rfl rfl b_eql) ?_
            first | refine rS 16 ?_ | refine rU 16 ?_ | refine rG 16 ((by first | exact Calm.pickT rfl rfl | exact Calm.pickF rfl rfl)) ?_
            refine rC ((by first | exact Calm.pickT rfl rfl | exact Calm.pickF rfl rfl)) ?_
            refine arun_nil ?_
            refine ⟨true, ?_, ?_, ?_⟩
            all_goals (try dsimp only)
            · exact (decide_eq_true (by omega)).symm
            · exact ⟨sq_, sq_, sq_, sq_, sq_, sq_, sq_, sq_, trivial⟩
            · exact Mem.Less.refl _
          · refine AWP.region ?_
            refine rC (Calm.move rfl) ?_
            refine rC (Calm.move rfl) ?_
            refine rC (Calm.bin rfl rfl b_lss) ?_
            refine rC (Calm.move rfl) ?_
            first | refine rS 16 ?_ | refine rU 16 ?_ | refine rG 16 (Calm.move rfl) ?_
            first | refine rS 16 ?_ | refine rU 16 ?_ | refine rG 16 (Calm.move rfl) ?_
            first | refine rS 16 ?_ | refine rU 16 ?_ | refine rG 16 (Calm.bin rfl rfl b_eql) ?_
            first | refine rS 16 ?_ | refine rU 16 ?_ | refine rG 16 (Calm.move rfl) ?_
            first | refine rS 20 ?_ | refine rU 20 ?_ | refine rG 20 (Calm.move rfl) ?_
            first | refine rS 20 ?_ | refine rU 20 ?_ | refine rG 20 (Calm.bin rfl rfl b_rem) ?_
            first | refine rS 20 ?_ | refine rU 20 ?_ | refine rG 20 (Calm.bin rfl rfl b_eql) ?_
            first | refine rS 16 ?_ | refine rU 16 ?_ | refine rG 16 ((by first | exact Calm.pickT rfl rfl | exact Calm.pickF rfl rfl)) ?_
            refine rC ((by first | exact Calm.pickT rfl rfl | exact Calm.pickF rfl rfl)) ?_
            refine arun_nil ?_
            refine ⟨false, ?_, ?_, ?_⟩
            all_goals (try dsimp only)
            · exact (decide_eq_false (by omega)).symm
            · exact ⟨sq_, sq_, sq_, sq_, sq_, sq_, sq_, sq_, trivial⟩
            · exact Mem.Less.refl _
        · refine AWP.region ?_
          refine rC (Calm.move rfl) ?_
          refine rC (Calm.move rfl) ?_
          refine rC (Calm.bin rfl rfl b_lss) ?_
          refine rC (Calm.move rfl) ?_
          first | refine rS 16 ?_ | refine rU 16 ?_ | refine rG 16 (Calm.move rfl) ?_
          first | refine rS 16 ?_ | refine rU 16 ?_ | refine rG 16 (Calm.move rfl) ?_
          first | refine rS 16 ?_ | refine rU 16 ?_ | refine rG 16 (Calm.bin rfl rfl b_eql) ?_
          first | refine rS 16 ?_ | refine rU 16 ?_ | refine rG 16 (Calm.move rfl) ?_
          first | refine rS 20 ?_ | refine rU 20 ?_ | refine rG 20 (Calm.move rfl) ?_
          first | refine rS 20 ?_ | refine rU 20 ?_ | refine rG 20 (Calm.bin rfl rfl b_rem) ?_
          first | refine rS 20 ?_ | refine rU 20 ?_ | refine rG 20 (Calm.bin rfl rfl b_eql) ?_
          first | refine rS 16 ?_ | refine rU 16 ?_ | refine rG 16 ((by first | exact Calm.pickT rfl rfl | exact Calm.pickF rfl rfl)) ?_
          refine rC ((by first | exact Calm.pickT rfl rfl | exact Calm.pickF rfl rfl)) ?_
          refine arun_nil ?_
          refine ⟨false, ?_, ?_, ?_⟩
          all_goals (try dsimp only)
          · exact (decide_eq_false (by omega)).symm
          · exact ⟨sq_, sq_, sq_, sq_, sq_, sq_, sq_, sq_, trivial⟩
          · exact Mem.Less.refl _
    rintro x hx
    intro _ _ hs_ hl_
    (try dsimp only at *)
    refine athen_n ?_
    refine AWP.sub _ hs_ (AWP.less _ hl_ ?_)
    clear hs_ hl_
    by_cases hi : i < E
    · rw [decide_eq_true hi] at hx
      refine AWP.condT rfl (hx) ?_
      by_cases hm : i % 3 = k + 1
      · refine AWP.skip ?_
        refine athen_n ?_
        refine AWP.seq ?_
        refine AWP.block ?_
        refine AWP.seq ?_
        refine AWP.region ?_
        refine rC (Calm.move rfl) ?_
        refine rC (Calm.bin rfl rfl b_rem) ?_
        refine rC (Calm.move rfl) ?_
        refine rC (Calm.bin rfl rfl b_eql) ?_
        refine arun_nil ?_
        refine athen_n ?_
        refine AWP.sub [(0, _), (3, _), (5, _), (6, _), (7, _), (8, _), (9, _), (25, _), (31, _)] ⟨rfl, rfl, rfl, rfl, rfl, rfl, rfl, rfl, rfl, trivial⟩ ?_
        refine AWP.condT rfl (by first | rfl | (simp; done) | (simp; omega)) ?_
        refine AWP.region ?_
        refine rC (Calm.move rfl) ?_
        refine rC (Calm.move rfl) ?_
        refine ARun.build1s (lit_lt rfl) ty_sl_24 rfl rfl ?_
        intro b34 f34
        have g34 := f34
        repeat ((with_reducible replace g34 := fresh_set g34); obtain ⟨g34, _⟩ := g34)
        refine ARun.appendO (lit_lt rfl) ty_sl_24 rfl map_len (appO_of k4 map_len f34) rfl (news := [_]) rds_ rfl (by omega) (by simp [Value.oneCell']) (by omega) (by omega) ?_
        intro b35 c35 ho2
        refine rC (Calm.assign rfl) ?_
        refine arun_nil ?_
        refine ain_n ?_
        refine athen_n ?_
        refine AWP.sub [(0, _), (3, _), (5, _), (6, _), (7, _), (8, _), (9, _), (25, _), (31, _)] ⟨rfl, rfl, rfl, rfl, rfl, rfl, rfl, rfl, rfl, trivial⟩ ?_
        refine AWP.region ?_
        refine rC (Calm.move rfl) ?_
        refine rC (Calm.bin rfl rfl b_add_i64) ?_
        refine rC (Calm.assign rfl) ?_
        refine arun_nil ?_
        refine athen_n ?_
        refine ⟨(i + 1, L2 ++ [i], some (b35, c35)), ?_, ?_, ?_, ?_⟩
        all_goals (try dsimp only)
        · exact ⟨sq_, sq_, sq_, sq_, sq_, sq_, sq_, trivial⟩
        · exact push_less rfl
        · exact ⟨hi, by rw [k3, restP_succ, if_pos hm, List.append_assoc], push_ok ho2 rfl⟩
        · omega
      · refine AWP.skip ?_
        refine athen_n ?_
        refine AWP.seq ?_
        refine AWP.block ?_
        refine AWP.seq ?_
        refine AWP.region ?_
        refine rC (Calm.move rfl) ?_
        refine rC (Calm.bin rfl rfl b_rem) ?_
        refine rC (Calm.move rfl) ?_
        refine rC (Calm.bin rfl rfl b_eql) ?_
        refine arun_nil ?_
        refine athen_n ?_
        refine AWP.sub [(0, _), (3, _), (5, _), (6, _), (7, _), (8, _), (9, _), (25, _), (31, _)] ⟨rfl, rfl, rfl, rfl, rfl, rfl, rfl, rfl, rfl, trivial⟩ ?_
        refine AWP.condF rfl (by first | rfl | (simp; done) | (simp; omega)) ?_
        refine AWP.skip ?_
        refine ain_n ?_
        refine athen_n ?_
        refine AWP.region ?_
        refine rC (Calm.move rfl) ?_
        refine rC (Calm.bin rfl rfl b_add_i64) ?_
        refine rC (Calm.assign rfl) ?_
        refine arun_nil ?_
        refine athen_n ?_
        refine ⟨(i + 1, L2, o2), ?_, ?_, ?_, ?_⟩
        all_goals (try dsimp only)
        · exact ⟨sq_, sq_, sq_, sq_, sq_, sq_, sq_, trivial⟩
        · exact Mem.Less.refl _
        · exact ⟨hi, by rw [k3, restP_succ, if_neg hm, List.append_nil], k4⟩
        · omega
    · rw [decide_eq_false hi] at hx
      refine AWP.condF rfl (hx) ?_
      obtain rfl : i = E := by omega
      refine AWP.exit ?_
      refine athen_exit ?_
      refine athen_exit ?_
      refine ain_same ?_
      refine ain_n ?_
      refine athen_n ?_
      refine AWP.region ?_
      refine rC (Calm.bin rfl rfl b_add_i64) ?_
      refine rC (Calm.move rfl) ?_
      refine arun_nil ?_
      refine athen_n ?_
      refine ⟨(k + 1, L2, o2), ?_, ?_, ?_, ?_⟩
      all_goals (try dsimp only)
      · exact ⟨sq_, sq_, sq_, sq_, sq_, trivial⟩
      · exact Mem.Less.refl _
      · exact ⟨by omega, by rw [k3, acc_step i (k + 1) (by omega) (by omega)], k4⟩
      · omega
  · refine AWP.seq ?_
    refine AWP.region ?_
    refine rC (Calm.bin rfl rfl b_lss) ?_
    refine arun_nil ?_
    refine athen_n ?_
    refine AWP.seq ?_
    refine AWP.condF rfl (by first | rfl | (simp; done) | (simp; omega)) ?_
    obtain rfl : k = 2 := by omega
    rw [← hL]
    refine AWP.exit ?_
    refine athen_exit ?_
    refine athen_exit ?_
    refine ain_same ?_
    refine athen_n ?_
    refine AWP.seq ?_
    refine AWP.region ?_
    refine rC (Calm.move rfl) ?_
    refine rC (Calm.assign rfl) ?_
    refine arun_nil ?_
    refine athen_n ?_
    refine AWP.sub [(0, _), (3, _), (7, _), (8, _), (9, _), (10, _), (2, _)] ⟨rfl, rfl, rfl, rfl, rfl, rfl, rfl, trivial⟩ ?_
    refine AWP.ret ?_
    refine ⟨_, _, ⟨_, _, rfl, rfl, rfl⟩, Mem.Less.refl _, ?_⟩
    exact ⟨(Mem.less_set S b7 _ f7.1).trans (outM_over ho), sl_outV ho rfl (by rw [hL]; exact acc_len3 E (by omega))⟩
theorem rsk_Samples (v : Value) (l : List Nat) (S : Mem) (hl : RowR S v l) :
    ACall Try.prog 16 #[v] S fun r S' => ∃ u, r = .tuple #[u, .int .i64 (chkL l)] ∧ RdL gI (smpL l) S u S' := by
  obtain ⟨a, cap, rfl, h1, h2, h3⟩ := id hl
  by_cases hc : chkL l = 0
  · have hlen := (chk_ok hc).1
    have es : smpL l = places l.length := if_pos hc
    rw [es]
    refine ACall.enter (args := [.slice a l.length cap]) (rs := [.tmp 2, .tmp 3]) 10 [(0, .slice a l.length cap)] Try.func16 rfl rfl (Nat.le_of_ble_eq_true rfl) rfl ⟨rfl, trivial⟩ ?_
    refine AWP.seq ?_
    refine AWP.region ?_
    refine rC (Calm.assign rfl) ?_
    refine rC (Calm.assign rfl) ?_
    refine arun_nil ?_
    refine athen_n ?_
    refine AWP.seq ?_
    refine AWP.seq ?_
    refine AWP.region ?_
    refine rC (Calm.move rfl) ?_
    refine ARun.call (lit_lt rfl) go_25 rfl (rsk_Check _ l _ hl) ?_
    rintro _ S1 ⟨rfl, h1⟩
    rw [h1]; clear h1 S1
    rw [hc]
    refine rC (Calm.bin rfl rfl b_neq) ?_
    refine arun_nil ?_
    refine athen_n ?_
    refine AWP.sub [(0, _), (2, _), (3, _), (6, _)] ⟨rfl, rfl, rfl, rfl, trivial⟩ ?_
    refine AWP.condF rfl (by first | rfl | (simp; done) | (simp; omega)) ?_
    refine AWP.skip ?_
    refine athen_n ?_
    refine AWP.seq ?_
    refine AWP.region ?_
    refine rC (Calm.move rfl) ?_
    refine rC (Calm.lenSl Try.underlying22 rfl) ?_
    refine ARun.call (lit_lt rfl) go_60 rfl (rsk_Places _ l.length rfl (by omega) S) ?_
    rintro u S1 hP
    refine rC (Calm.assign rfl) ?_
    refine rC (Calm.assign rfl) ?_
    refine arun_nil ?_
    refine athen_n ?_
    refine AWP.sub [(0, _), (2, _), (3, _), (6, _)] ⟨rfl, rfl, rfl, rfl, trivial⟩ ?_
    refine AWP.ret ?_
    refine ⟨_, S1, ⟨_, _, rfl, ⟨_, _, rfl, rfl, rfl⟩, rfl⟩, Mem.Less.refl _, ?_⟩
    exact ⟨u, rfl, hP⟩
  · have es : smpL l = [] := if_neg hc
    rw [es]
    have e1 := chk_no hc
    refine ACall.enter (args := [.slice a l.length cap]) (rs := [.tmp 2, .tmp 3]) 10 [(0, .slice a l.length cap)] Try.func16 rfl rfl (Nat.le_of_ble_eq_true rfl) rfl ⟨rfl, trivial⟩ ?_
    refine AWP.seq ?_
    refine AWP.region ?_
    refine rC (Calm.assign rfl) ?_
    refine rC (Calm.assign rfl) ?_
    refine arun_nil ?_
    refine athen_n ?_
    refine AWP.seq ?_
    refine AWP.seq ?_
    refine AWP.region ?_
    refine rC (Calm.move rfl) ?_
    refine ARun.call (lit_lt rfl) go_25 rfl (rsk_Check _ l _ hl) ?_
    rintro _ S1 ⟨rfl, h1⟩
    rw [h1]; clear h1 S1
    rw [e1]
    refine rC (Calm.bin rfl rfl b_neq) ?_
    refine arun_nil ?_
    refine athen_n ?_
    refine AWP.sub [(0, _), (2, _), (3, _), (6, _)] ⟨rfl, rfl, rfl, rfl, trivial⟩ ?_
    refine AWP.condT rfl (by first | rfl | (simp; done) | (simp; omega)) ?_
    refine AWP.seq ?_
    refine AWP.region ?_
    refine rC (Calm.assign rfl) ?_
    refine rC (Calm.assign rfl) ?_
    refine arun_nil ?_
    refine athen_n ?_
    refine AWP.ret ?_
    refine athen_ret ?_
    refine ⟨_, S, ⟨_, _, rfl, ⟨_, _, rfl, rfl, rfl⟩, rfl⟩, less_, ?_⟩
    exact ⟨_, rfl, Mem.Less.refl _, sl_nilI _⟩
set_option maxHeartbeats 1000000 in
theorem rsk_Triples (v : Value) (l : List Nat) (S : Mem) (hl : RowR S v l) :
    ACall Try.prog 18 #[v] S fun r S' => ∃ u, r = .tuple #[u, .int .i64 (chkL l)] ∧ S.Less S' ∧ SlOf RowR S' u (triL l) := by
  by_cases hc : chkL l = 0
  · have hlen := (chk_ok hc).1
    have es : smpL l = places l.length := if_pos hc
    have et : triL l = (places l.length).map (tri l) := if_pos hc
    have hS := rsk_Samples v l S hl
    rw [es, hc] at hS
    rw [et, hc]
    have hpl := places_le l.length hlen
    generalize hps : places l.length = ps at *
    refine ACall.enter (args := [v]) (rs := [.tmp 2, .tmp 3]) 31 [(0, v)] Try.func18 rfl rfl (Nat.le_of_ble_eq_true rfl) rfl ⟨rfl, trivial⟩ ?_
    refine AWP.seq ?_
    refine AWP.region ?_
    refine rC (Calm.assign rfl) ?_
    refine rC (Calm.assign rfl) ?_
    refine arun_nil ?_
    refine athen_n ?_
    refine AWP.seq ?_
    refine AWP.region ?_
    refine rC (Calm.move rfl) ?_
    refine ARun.call (lit_lt rfl) go_16 rfl (hS) ?_
    rintro _ S1 ⟨u, rfl, hSS, hu⟩
    obtain ⟨pa, pc, rfl, p1, p2, p3⟩ := id hu
    refine rC (Calm.move rfl) ?_
    refine rC (Calm.extract rfl rfl) ?_
    refine rC (Calm.extract rfl rfl) ?_
    refine rC (Calm.assign rfl) ?_
    refine rC (Calm.assign rfl) ?_
    refine arun_nil ?_
    refine athen_n ?_
    refine AWP.sub [(0, _), (2, _), (3, _), (4, _), (5, _)] ⟨rfl, rfl, rfl, rfl, rfl, trivial⟩ ?_
    refine AWP.seq ?_
    refine AWP.seq ?_
    refine AWP.region ?_
    refine rC (Calm.move rfl) ?_
    refine rC (Calm.bin rfl rfl b_neq) ?_
    refine arun_nil ?_
    refine athen_n ?_
    refine AWP.sub [(0, _), (2, _), (3, _), (4, _), (5, _), (15, _)] ⟨rfl, rfl, rfl, rfl, rfl, rfl, trivial⟩ ?_
    refine AWP.condF rfl (by first | rfl | (simp; done) | (simp; omega)) ?_
    refine AWP.skip ?_
    refine athen_n ?_
    refine AWP.seq ?_
    refine AWP.region ?_
    refine rC (Calm.assign rfl) ?_
    refine arun_nil ?_
    refine athen_n ?_
    refine AWP.seq ?_
    refine AWP.seq ?_
    refine AWP.region ?_
    refine rC (Calm.move rfl) ?_
    refine rC (Calm.lenSl Try.underlying24 rfl) ?_
    refine rC (Calm.move rfl) ?_
    refine arun_nil ?_
    refine athen_n ?_
    refine AWP.block ?_
    refine AWP.loop (X := Nat × Mem × Option (Nat × Nat) × List Value) (fun x => [(0, v), (6, outV x.2.2.1 x.2.2.2.length), (17, .slice pa ps.length pc), (18, .int .i64 ps.length), (19, .int .i64 x.1)]) (fun x => outM x.2.1 x.2.2.1 22 x.2.2.2) (fun x => x.1 ≤ ps.length ∧ x.2.2.2.length = x.1 ∧ GrowI RowR S1 x.2.1 x.2.2.1 x.2.2.2 ((ps.take x.1).map (tri l))) (fun x => ps.length - x.1) ((0, S1, none, [])) ⟨rfl, rfl, rfl, rfl, rfl, trivial⟩ (Mem.Less.refl _) (⟨Nat.zero_le _, rfl, GrowI.nil _ _⟩) ?_
    rintro ⟨i, M, o, hs⟩ ⟨q1, q2, hI⟩
    (try dsimp only at *)
    by_cases hi : i < ps.length
    · refine AWP.seq ?_
      refine AWP.region ?_
      refine rC (Calm.bin rfl rfl b_lss) ?_
      refine arun_nil ?_
      refine athen_n ?_
      refine AWP.seq ?_
      refine AWP.condT rfl (by first | rfl | (simp; done) | (simp; omega)) ?_
      obtain ⟨pb, po, rfl, hk⟩ := p3.resolve_left (fun e => by rw [e] at hi; exact absurd hi (Nat.not_lt_zero _))
      have hki : Mem.Knows (outM M o 22 hs) ⟨pb, po + i * 1, none⟩ [.int .i64 (ps[i] : Int)] := (hk i hi).less (hI.less.trans (outM_over hI.ok))
      have hpi : ps[i] ≤ l.length := by simp only [← hps]; exact places_lt (by rw [hps]; exact hi)
      refine AWP.skip ?_
      refine athen_n ?_
      refine AWP.seq ?_
      refine AWP.block ?_
      refine AWP.seq ?_
      refine AWP.region ?_
      refine rC (Calm.indexS Try.underlying24 ty_size_3 rfl rfl (by omega) (by omega)) ?_
      refine rC (ld_ ty_plain_3 rfl) ?_
      refine rC (Calm.assign rfl) ?_
      refine arun_nil ?_
      refine athen_n ?_
      refine AWP.sub [(0, _), (6, _), (17, _), (18, _), (19, _), (20, _), (8, _)] ⟨rfl, rfl, rfl, rfl, rfl, rfl, rfl, trivial⟩ ?_
      refine AWP.region ?_
      refine rC (Calm.move rfl) ?_
      refine rC (Calm.move rfl) ?_
      refine rC (Calm.move rfl) ?_
      refine ARun.call (lit_lt rfl) go_62 rfl ((frameM (rsk_triple v l _ ps[i] rfl M (hl.less (hSS.trans hI.less)) (by omega)) (e := 22) (cs := hs) hI.ok)) ?_
      rintro u2 _ ⟨M1, ⟨hM1, hr1⟩, ho1, rfl⟩
      obtain ⟨a2, c2, rfl, _⟩ := id hr1
      refine ARun.build1s (lit_lt rfl) ty_sl_28 rfl rfl ?_
      intro b27 f27
      have g27 := f27
      repeat ((with_reducible replace g27 := fresh_set g27); obtain ⟨g27, _⟩ := g27)
      refine ARun.appendO (lit_lt rfl) ty_sl_28 rfl rfl (appO_of ho1 rfl f27) rfl (news := [_]) rds_ rfl (by omega) (by simp [Value.oneCell']) (by omega) (by omega) ?_
      intro b28 c28 hoo
      have hI2 := hI.step rowR_less hM1 hr1 hoo
      refine rC (Calm.assign rfl) ?_
      refine arun_nil ?_
      refine ain_n ?_
      refine athen_n ?_
      refine AWP.sub [(0, _), (6, _), (17, _), (18, _), (19, _), (20, _), (8, _)] ⟨rfl, rfl, rfl, rfl, rfl, rfl, rfl, trivial⟩ ?_
      refine AWP.region ?_
      refine rC (Calm.bin rfl rfl b_add_i64) ?_
      refine rC (Calm.move rfl) ?_
      refine arun_nil ?_
      refine athen_n ?_
      refine ⟨(i + 1, M1, some (b28, c28), hs ++ [.slice a2 (tri l ps[i]).length c2]), ?_, ?_, ?_, ?_⟩
      all_goals (try dsimp only)
      · exact ⟨rfl, sq_, rfl, rfl, sq_, trivial⟩
      · exact Mem.Less.refl _
      · exact ⟨hi, by rw [List.length_append, q2]; rfl, by rw [List.take_succ_eq_append_getElem hi, List.map_append]; exact hI2⟩
      · omega
    · obtain rfl : i = ps.length := by omega
      refine AWP.seq ?_
      refine AWP.region ?_
      refine rC (Calm.bin rfl rfl b_lss) ?_
      refine arun_nil ?_
      refine athen_n ?_
      refine AWP.seq ?_
      refine AWP.condF rfl (by first | rfl | (simp; done) | (simp; omega)) ?_
      rw [List.take_length] at hI
      refine AWP.exit ?_
      refine athen_exit ?_
      refine athen_exit ?_
      refine ain_same ?_
      refine athen_n ?_
      refine AWP.seq ?_
      refine AWP.region ?_
      refine rC (Calm.move rfl) ?_
      refine rC (Calm.assign rfl) ?_
      refine rC (Calm.assign rfl) ?_
      refine arun_nil ?_
      refine athen_n ?_
      refine AWP.sub [(0, _), (6, _), (17, _), (18, _), (19, _), (20, _), (2, _), (3, _)] ⟨rfl, rfl, rfl, rfl, rfl, rfl, rfl, rfl, trivial⟩ ?_
      refine AWP.ret ?_
      refine ⟨_, _, ⟨_, _, rfl, ⟨_, _, rfl, rfl, rfl⟩, rfl⟩, Mem.Less.refl _, ?_⟩
      exact ⟨_, rfl, hSS.trans (hI.less.trans (outM_over hI.ok)), hI.slOf rowR_less (by omega)⟩
  · have es : smpL l = [] := if_neg hc
    have et : triL l = [] := if_neg hc
    have e1 := chk_no hc
    have hS := rsk_Samples v l S hl
    rw [es, e1] at hS
    rw [et, e1]
    refine ACall.enter (args := [v]) (rs := [.tmp 2, .tmp 3]) 31 [(0, v)] Try.func18 rfl rfl (Nat.le_of_ble_eq_true rfl) rfl ⟨rfl, trivial⟩ ?_
    refine AWP.seq ?_
    refine AWP.region ?_
    refine rC (Calm.assign rfl) ?_
    refine rC (Calm.assign rfl) ?_
    refine arun_nil ?_
    refine athen_n ?_
    refine AWP.seq ?_
    refine AWP.region ?_
    refine rC (Calm.move rfl) ?_
    refine ARun.call (lit_lt rfl) go_16 rfl (hS) ?_
    rintro _ S1 ⟨u, rfl, hSS, hu⟩
    refine rC (Calm.move rfl) ?_
    refine rC (Calm.extract rfl rfl) ?_
    refine rC (Calm.extract rfl rfl) ?_
    refine rC (Calm.assign rfl) ?_
    refine rC (Calm.assign rfl) ?_
    refine arun_nil ?_
    refine athen_n ?_
    refine AWP.sub [(0, _), (2, _), (3, _), (4, _), (5, _)] ⟨rfl, rfl, rfl, rfl, rfl, trivial⟩ ?_
    refine AWP.seq ?_
    refine AWP.seq ?_
    refine AWP.region ?_
    refine rC (Calm.move rfl) ?_
    refine rC (Calm.bin rfl rfl b_neq) ?_
    refine arun_nil ?_
    refine athen_n ?_
    refine AWP.sub [(0, _), (2, _), (3, _), (4, _), (5, _), (15, _)] ⟨rfl, rfl, rfl, rfl, rfl, rfl, trivial⟩ ?_
    refine AWP.condT rfl (by first | rfl | (simp; done) | (simp; omega)) ?_
    refine AWP.seq ?_
    refine AWP.region ?_
    refine rC (Calm.move rfl) ?_
    refine rC (Calm.assign rfl) ?_
    refine rC (Calm.assign rfl) ?_
    refine arun_nil ?_
    refine athen_n ?_
    refine AWP.sub [(0, _), (2, _), (3, _), (4, _), (5, _), (15, _)] ⟨rfl, rfl, rfl, rfl, rfl, rfl, trivial⟩ ?_
    refine AWP.ret ?_
    refine athen_ret ?_
    refine ⟨_, S, ⟨_, _, rfl, ⟨_, _, rfl, rfl, rfl⟩, rfl⟩, hSS, ?_⟩
    exact ⟨_, rfl, Mem.Less.refl _, SlOf.nil _ _⟩
end Go.Proofs.Ytgidjbpgkeemiaa
