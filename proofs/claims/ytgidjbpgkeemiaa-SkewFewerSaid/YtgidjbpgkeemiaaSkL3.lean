/-
  The law SkewFewer, walked.
-/
import Derived.Test.YtgidjbpgkeemiaaSkL1
import Derived.Test.YtgidjbpgkeemiaaSkewMath5
namespace Go.Proofs.Ytgidjbpgkeemiaa
open Go.RowKit
open Mv Num Loser Skew Srt
set_option linter.unusedVariables false
set_option linter.unusedSimpArgs false
set_option maxRecDepth 4000
theorem had_step {L : List Nat} {hd : List Bool} {N i x : Nat} (hx : x = L.getD i 0) (hN : hd.length = N + 1) (hxN : x ≤ N) (h : ∀ j, j < i → hd.getD (L.getD j 0) false = true) : ∀ j, j < i + 1 → (hd.set x true).getD (L.getD j 0) false = true := by
  intro j hj
  rcases Nat.lt_or_ge j i with h' | h'
  · by_cases e : x = L.getD j 0
    · rw [← e, List.getD_eq_getElem?_getD, List.getElem?_set_self (by omega)]; rfl
    · rw [List.getD_eq_getElem?_getD, List.getElem?_set_ne e, ← List.getD_eq_getElem?_getD]; exact h j h'
  · obtain rfl : j = i := by omega
    rw [← hx, List.getD_eq_getElem?_getD, List.getElem?_set_self (by omega)]; rfl
set_option maxHeartbeats 4000000 in
theorem law_SkewFewer (v : Value) (l : List Nat) (S : Mem) (hl : RowR S v l) :
    ACall Try.prog 5 #[v] S fun r S' => r = .bool true := by
  obtain ⟨a, cap, rfl, _⟩ := id hl
  by_cases hb : 300 < l.length
  · skip
    refine ACall.enter (args := [.slice a l.length cap]) (rs := [.tmp 2]) 114 [(0, .slice a l.length cap)] Try.func5 rfl rfl (Nat.le_of_ble_eq_true rfl) rfl ⟨rfl, trivial⟩ ?_
    refine AWP.seq ?_
    refine AWP.region ?_
    refine rC (Calm.assign rfl) ?_
    refine arun_nil ?_
    refine athen_n ?_
    refine AWP.seq ?_
    refine AWP.seq ?_
    refine AWP.region ?_
    refine ARun.call (lit_lt rfl) go_14 rfl (sk_lives _) ?_
    rintro _ S8 ⟨rfl, e1⟩
    rw [e1]; clear e1 S8
    refine rC (Calm.un rfl (una_not _)) ?_
    refine arun_nil ?_
    refine athen_n ?_
    refine AWP.sub [(0, _), (2, _), (14, _)] ⟨rfl, rfl, rfl, trivial⟩ ?_
    refine AWP.condF rfl (by first | rfl | (simp; done) | (simp; omega)) ?_
    refine AWP.skip ?_
    refine athen_n ?_
    refine AWP.seq ?_
    refine AWP.seq ?_
    refine AWP.region ?_
    refine rC (Calm.move rfl) ?_
    refine rC (Calm.lenSl Try.underlying22 rfl) ?_
    refine rC (Calm.bin rfl rfl b_gtr) ?_
    refine arun_nil ?_
    refine athen_n ?_
    refine AWP.sub [(0, _), (2, _), (14, _), (17, _)] ⟨rfl, rfl, rfl, rfl, trivial⟩ ?_
    refine AWP.condT rfl (by first | rfl | (simp; done) | (simp; omega)) ?_
    refine AWP.seq ?_
    refine AWP.region ?_
    refine rC (Calm.assign rfl) ?_
    refine arun_nil ?_
    refine athen_n ?_
    refine AWP.ret ?_
    refine athen_ret ?_
    refine ⟨_, _, ⟨_, _, rfl, rfl, rfl⟩, less_, ?_⟩
    rfl
  by_cases hc : chkL l = 0
  · have er : redP l = red l := if_pos hc
    have em : manyP l = many l := if_pos hc
    have et : triL l = (places l.length).map (tri l) := if_pos hc
    have hml := many_le l
    have hm3 : numP l.length ≤ 3000 := places_le l.length (chk_ok hc).1
    have hfm := few_more l.length
    have hrl := red_length l
    obtain ⟨m, hm⟩ : ∃ m, m = numP l.length := ⟨_, rfl⟩
    obtain ⟨N, hN⟩ : ∃ N, N = many l := ⟨_, rfl⟩
    have hpm : (places l.length).length = m := hm.symm
    rw [← hm] at hml hm3 hfm hrl
    rw [← hN] at hml
    refine ACall.enter (args := [.slice a l.length cap]) (rs := [.tmp 2]) 114 [(0, .slice a l.length cap)] Try.func5 rfl rfl (Nat.le_of_ble_eq_true rfl) rfl ⟨rfl, trivial⟩ ?_
    refine AWP.seq ?_
    refine AWP.region ?_
    refine rC (Calm.assign rfl) ?_
    refine arun_nil ?_
    refine athen_n ?_
    refine AWP.seq ?_
    refine AWP.seq ?_
    refine AWP.region ?_
    refine ARun.call (lit_lt rfl) go_14 rfl (sk_lives _) ?_
    rintro _ S8 ⟨rfl, e1⟩
    rw [e1]; clear e1 S8
    refine rC (Calm.un rfl (una_not _)) ?_
    refine arun_nil ?_
    refine athen_n ?_
    refine AWP.sub [(0, _), (2, _), (14, _)] ⟨rfl, rfl, rfl, trivial⟩ ?_
    refine AWP.condF rfl (by first | rfl | (simp; done) | (simp; omega)) ?_
    refine AWP.skip ?_
    refine athen_n ?_
    refine AWP.seq ?_
    refine AWP.seq ?_
    refine AWP.region ?_
    refine rC (Calm.move rfl) ?_
    refine rC (Calm.lenSl Try.underlying22 rfl) ?_
    refine rC (Calm.bin rfl rfl b_gtr) ?_
    refine arun_nil ?_
    refine athen_n ?_
    refine AWP.sub [(0, _), (2, _), (14, _), (17, _)] ⟨rfl, rfl, rfl, rfl, trivial⟩ ?_
    refine AWP.condF rfl (by first | rfl | (simp; done) | (simp; omega)) ?_
    refine AWP.skip ?_
    refine athen_n ?_
    refine AWP.seq ?_
    refine AWP.region ?_
    refine rC (Calm.move rfl) ?_
    refine ARun.call (lit_lt rfl) go_19 rfl (sk_Reduce _ l _ hl) ?_
    rintro _ S2 ⟨u2, rfl, hS2, hu2⟩
    rw [er] at hu2; rw [hc, em, ← hN]
    obtain ⟨a2, c2, rfl, _, _, k2⟩ := id hu2
    rw [hrl]
    refine rC (Calm.move rfl) ?_
    refine rC (Calm.extract rfl rfl) ?_
    refine rC (Calm.extract rfl rfl) ?_
    refine rC (Calm.extract rfl rfl) ?_
    refine rC (Calm.assign rfl) ?_
    refine rC (Calm.assign rfl) ?_
    refine rC (Calm.assign rfl) ?_
    refine arun_nil ?_
    refine athen_n ?_
    refine AWP.sub [(0, _), (2, _), (14, _), (17, _), (3, _), (4, _), (5, _)] ⟨rfl, rfl, rfl, rfl, rfl, rfl, rfl, trivial⟩ ?_
    refine AWP.seq ?_
    refine AWP.region ?_
    refine rC (Calm.move rfl) ?_
    refine ARun.call (lit_lt rfl) go_17 rfl (sk_Triples _ l _ (hl.less hS2)) ?_
    rintro _ S3 ⟨u3, rfl, hS3, hu3⟩
    rw [et] at hu3; rw [hc]
    obtain ⟨hs, hsl, ⟨a3, c3, rfl, _, _, k3⟩, r3⟩ := id hu3
    rw [List.length_map, hpm] at hsl; rw [hsl]
    refine rC (Calm.move rfl) ?_
    refine rC (Calm.extract rfl rfl) ?_
    refine rC (Calm.extract rfl rfl) ?_
    refine rC (Calm.assign rfl) ?_
    refine rC (Calm.assign rfl) ?_
    refine arun_nil ?_
    refine athen_n ?_
    refine AWP.sub [(0, _), (2, _), (14, _), (17, _), (3, _), (4, _), (5, _), (6, _), (7, _)] ⟨rfl, rfl, rfl, rfl, rfl, rfl, rfl, rfl, rfl, trivial⟩ ?_
    refine AWP.seq ?_
    refine AWP.seq ?_
    refine AWP.region ?_
    refine rC (Calm.move rfl) ?_
    refine rC (Calm.bin rfl rfl b_neq) ?_
    refine arun_nil ?_
    refine athen_n ?_
    refine AWP.sub [(0, _), (2, _), (14, _), (17, _), (3, _), (4, _), (5, _), (6, _), (7, _), (30, _)] ⟨rfl, rfl, rfl, rfl, rfl, rfl, rfl, rfl, rfl, rfl, trivial⟩ ?_
    refine AWP.condF rfl (by first | rfl | (simp; done) | (simp; omega)) ?_
    refine AWP.skip ?_
    refine athen_n ?_
    refine AWP.seq ?_
    refine AWP.region ?_
    refine rC (Calm.move rfl) ?_
    refine rC (Calm.bin rfl rfl b_add_i64) ?_
    refine ARun.makeSlice (lit_lt rfl) ty_sl_40 rfl rfl (by omega) (by omega) (by omega) (by omega) ?_
    intro b40 f40
    have g40 := f40
    repeat ((with_reducible replace g40 := fresh_set g40); obtain ⟨g40, _⟩ := g40)
    refine rC (Calm.assign rfl) ?_
    refine arun_nil ?_
    refine athen_n ?_
    refine AWP.sub [(0, _), (2, _), (14, _), (17, _), (3, _), (4, _), (5, _), (6, _), (7, _), (30, _), (8, _)] ⟨rfl, rfl, rfl, rfl, rfl, rfl, rfl, rfl, rfl, rfl, rfl, trivial⟩ ?_
    rw [show ((N : Int) + 1).toNat * 1 = N + 1 by omega, show madeL [Value.bool false] (N + 1) = (List.replicate (N + 1) false).map gB by rw [madeL_one, List.map_replicate]; rfl]
    refine AWP.seq ?_
    refine AWP.seq ?_
    refine AWP.region ?_
    refine rC (Calm.move rfl) ?_
    refine rC (Calm.lenSl Try.underlying22 rfl) ?_
    refine rC (Calm.move rfl) ?_
    refine arun_nil ?_
    refine athen_n ?_
    refine AWP.block ?_
    refine AWP.loop (X := Nat × List Bool) (fun x => [(0, .slice a l.length cap), (3, .slice a2 m c2), (4, .int .i64 N), (6, .slice a3 m c3), (7, .int .i64 0), (8, .slice (some ⟨b40, 0, none⟩) (N + 1) (N + 1)), (41, .slice a2 m c2), (42, .int .i64 m), (43, .int .i64 x.1)]) (fun x => S3.set b40 ⟨4, x.2.map gB, N + 1⟩) (fun x => x.1 ≤ m ∧ x.2.length = N + 1 ∧ ∀ j, j < x.1 → x.2.getD ((red l).getD j 0) false = true) (fun x => m - x.1) ((0, List.replicate (N + 1) false)) ⟨rfl, rfl, rfl, rfl, rfl, rfl, rfl, rfl, rfl, trivial⟩ (Mem.Less.refl _) (⟨Nat.zero_le _, by simp, fun j h => absurd h (Nat.not_lt_zero _)⟩) ?_
    rintro ⟨i, hd⟩ ⟨q1, q2, q3⟩
    (try dsimp only at *)
    by_cases hi : i < m
    · refine AWP.seq ?_
      refine AWP.region ?_
      refine rC (Calm.bin rfl rfl b_lss) ?_
      refine arun_nil ?_
      refine athen_n ?_
      refine AWP.seq ?_
      refine AWP.condT rfl (by first | rfl | (simp; done) | (simp; omega)) ?_
      have hiL : i < (red l).length := by omega
      obtain ⟨pb2, po2, rfl, kk2⟩ := k2.resolve_left (fun h => by rw [h] at hiL; exact absurd hiL (Nat.not_lt_zero _))
      obtain ⟨pb3, po3, rfl, kk3⟩ := k3.resolve_left (fun h => by rw [h] at hsl; simp at hsl; omega)
      have b1_ := red_pos l _ (List.getElem_mem hiL)
      have b2_ := many_ge l _ (List.getElem_mem hiL)
      have hx : (red l)[i] = (red l).getD i 0 := (getD_get _ _ _ hiL).symm
      have hSB : ∀ c : List Bool, S2.Less (S3.set b40 ⟨4, c.map gB, N + 1⟩) := fun c => hS3.trans (Mem.less_set _ _ _ f40.1)
      have hk : Mem.Knows (S3.set b40 ⟨4, hd.map gB, N + 1⟩) ⟨pb2, po2 + i * 1, none⟩ [.int .u64 ((red l)[i] : Int)] := (kk2 i hiL).less (hSB _)
      rw [← hN] at b2_
      obtain ⟨x, hxx⟩ : ∃ x, x = (red l)[i] := ⟨_, rfl⟩
      rw [← hxx] at hk b1_ b2_ hx
      refine AWP.skip ?_
      refine athen_n ?_
      refine AWP.seq ?_
      refine AWP.block ?_
      refine AWP.seq ?_
      refine AWP.region ?_
      refine rC (Calm.move rfl) ?_
      refine rC (Calm.indexS Try.underlying22 ty_size_41 rfl rfl (by omega) (by omega)) ?_
      refine rC (ld_ ty_plain_41 rfl) ?_
      refine rC (Calm.assign rfl) ?_
      refine rC (Calm.assign rfl) ?_
      refine arun_nil ?_
      refine athen_n ?_
      refine AWP.sub [(0, _), (3, _), (4, _), (6, _), (7, _), (8, _), (41, _), (42, _), (43, _), (44, _), (9, _), (10, _)] ⟨rfl, rfl, rfl, rfl, rfl, rfl, rfl, rfl, rfl, rfl, rfl, rfl, trivial⟩ ?_
      refine AWP.seq ?_
      refine AWP.seq ?_
      refine AWP.region ?_
      refine rC (Calm.move rfl) ?_
      refine rC (Calm.bin rfl rfl b_lss) ?_
      refine rC (Calm.move rfl) ?_
      first | refine rS 50 ?_ | refine rU 50 ?_ | refine rG 50 (Calm.move rfl) ?_
      first | refine rS 50 ?_ | refine rU 50 ?_ | refine rG 50 (Calm.move rfl) ?_
      first | refine rS 50 ?_ | refine rU 50 ?_ | refine rG 50 (Calm.conv rfl (by first | exact conv_intW Try.underlying3 Try.underlying41 (IntWalk.u64_in _ (by omega)) | exact conv_int Try.underlying3 Try.underlying41)) ?_
      first | refine rS 50 ?_ | refine rU 50 ?_ | refine rG 50 (Calm.bin rfl rfl b_gtr) ?_
      refine rC ((by first | exact Calm.pickT rfl rfl | exact Calm.pickF rfl rfl)) ?_
      refine arun_nil ?_
      refine athen_n ?_
      refine AWP.sub [(0, _), (3, _), (4, _), (6, _), (7, _), (8, _), (41, _), (42, _), (43, _), (44, _), (9, _), (10, _), (55, _)] ⟨rfl, rfl, rfl, rfl, rfl, rfl, rfl, rfl, rfl, rfl, rfl, rfl, rfl, trivial⟩ ?_
      refine AWP.condF rfl (by first | rfl | (simp; done) | (simp; omega)) ?_
      refine AWP.skip ?_
      refine athen_n ?_
      refine AWP.seq ?_
      refine AWP.region ?_
      refine rC (Calm.move rfl) ?_
      refine rC (Calm.move rfl) ?_
      refine rC (Calm.indexS Try.underlying40 ty_size_4 rfl rfl (by omega) (by omega)) ?_
      refine ARun.store1 rfl rfl ty_size_4 rfl own_ lens_ rfl ?_
      (try simp only [Mem.set_set, List.set_cons_zero, List.set_cons_succ, Nat.zero_add, Nat.reduceAdd])
      refine arun_nil ?_
      refine athen_n ?_
      refine AWP.sub [(0, _), (3, _), (4, _), (6, _), (7, _), (8, _), (41, _), (42, _), (43, _), (44, _), (9, _), (10, _), (55, _)] ⟨rfl, rfl, rfl, rfl, rfl, rfl, rfl, rfl, rfl, rfl, rfl, rfl, rfl, trivial⟩ ?_
      simp only [Nat.zero_add, Nat.mul_one, Int.toNat_natCast]
      refine AWP.seq ?_
      refine AWP.region ?_
      refine rC (Calm.move rfl) ?_
      refine rC (Calm.lenSl Try.underlying22 rfl) ?_
      refine rC (Calm.move rfl) ?_
      refine arun_nil ?_
      refine athen_n ?_
      refine AWP.sub [(0, _), (3, _), (4, _), (6, _), (7, _), (8, _), (41, _), (42, _), (43, _), (44, _), (9, _), (10, _), (55, _), (60, _), (61, _)] ⟨rfl, rfl, rfl, rfl, rfl, rfl, rfl, rfl, rfl, rfl, rfl, rfl, rfl, rfl, rfl, trivial⟩ ?_
      refine AWP.block ?_
      refine AWP.loop (X := Nat) (fun y => [(0, .slice a l.length cap), (3, .slice (some ⟨pb2, po2, none⟩) m c2), (4, .int .i64 N), (6, .slice (some ⟨pb3, po3, none⟩) m c3), (7, .int .i64 0), (8, .slice (some ⟨b40, 0, none⟩) (N + 1) (N + 1)), (9, .int .i64 i), (41, .slice (some ⟨pb2, po2, none⟩) m c2), (42, .int .i64 m), (43, .int .i64 i), (60, .int .i64 m), (61, .int .i64 y)]) (fun y => S3.set b40 ⟨4, (hd.set x true).map gB, N + 1⟩) (fun y => y ≤ m) (fun y => m - y) (0) ⟨rfl, rfl, rfl, rfl, rfl, rfl, rfl, rfl, rfl, rfl, rfl, rfl, trivial⟩ (by rw [List.map_set]; exact Mem.Less.refl _) (Nat.zero_le _) ?_
      rintro j hj
      (try dsimp only at *)
      by_cases hjm : j < m
      · refine AWP.seq ?_
        refine AWP.region ?_
        refine rC (Calm.bin rfl rfl b_lss) ?_
        refine arun_nil ?_
        refine athen_n ?_
        refine AWP.seq ?_
        refine AWP.condT rfl (by first | rfl | (simp; done) | (simp; omega)) ?_
        have hjL : j < (red l).length := by omega
        have hk1 : Mem.Knows (S3.set b40 ⟨4, (hd.set x true).map gB, N + 1⟩) ⟨pb2, po2 + i * 1, none⟩ [.int .u64 (x : Int)] := by rw [hxx]; exact (kk2 i hiL).less (hSB _)
        have hk2 : Mem.Knows (S3.set b40 ⟨4, (hd.set x true).map gB, N + 1⟩) ⟨pb2, po2 + j * 1, none⟩ [.int .u64 ((red l)[j] : Int)] := (kk2 j hjL).less (hSB _)
        have hk3 : Mem.Knows (S3.set b40 ⟨4, (hd.set x true).map gB, N + 1⟩) ⟨pb3, po3 + i * 1, none⟩ [hs[i]'(by omega)] := (kk3 i (by omega)).less (Mem.less_set _ _ _ f40.1)
        have hk4 : Mem.Knows (S3.set b40 ⟨4, (hd.set x true).map gB, N + 1⟩) ⟨pb3, po3 + j * 1, none⟩ [hs[j]'(by omega)] := (kk3 j (by omega)).less (Mem.less_set _ _ _ f40.1)
        have hr1 := rowR_less _ (S3.set b40 ⟨4, (hd.set x true).map gB, N + 1⟩) _ _ (r3 i (by rw [List.length_map]; omega) (by omega)) (Mem.less_set _ _ _ f40.1)
        have hr2 := rowR_less _ (S3.set b40 ⟨4, (hd.set x true).map gB, N + 1⟩) _ _ (r3 j (by rw [List.length_map]; omega) (by omega)) (Mem.less_set _ _ _ f40.1)
        have hA : ((places l.length).map (tri l))[i]'(by rw [List.length_map]; omega) = tkey l i := by rw [List.getElem_map]; unfold tkey; rw [places_getD (by omega)]; rfl
        have hB : ((places l.length).map (tri l))[j]'(by rw [List.length_map]; omega) = tkey l j := by rw [List.getElem_map]; unfold tkey; rw [places_getD (by omega)]; rfl
        rw [hA] at hr1
        rw [hB] at hr2
        have hy : (red l)[j] = (red l).getD j 0 := (getD_get _ _ _ hjL).symm
        obtain ⟨y, hyy⟩ : ∃ y, y = (red l)[j] := ⟨_, rfl⟩
        rw [← hyy] at hk2 hy
        have hLt : lessB (tkey l i) (tkey l j) = decide ((x : Int) < (y : Int)) := by rw [show decide ((x : Int) < (y : Int)) = decide (x < y) from decide_eq_decide.2 Int.ofNat_lt, hx, hy, red_getD _ _ (by omega), red_getD _ _ (by omega)]; exact Bool.eq_iff_iff.2 (by rw [decide_eq_true_iff]; exact (name_lt (tkey l) _ i j (by omega) (by omega)).symm)
        refine AWP.skip ?_
        refine athen_n ?_
        refine AWP.seq ?_
        refine AWP.block ?_
        refine AWP.seq ?_
        refine AWP.region ?_
        refine rC (Calm.move rfl) ?_
        refine rC (Calm.assign rfl) ?_
        refine arun_nil ?_
        refine athen_n ?_
        refine AWP.sub [(0, _), (3, _), (4, _), (6, _), (7, _), (8, _), (9, _), (41, _), (42, _), (43, _), (60, _), (61, _), (62, _), (11, _)] ⟨rfl, rfl, rfl, rfl, rfl, rfl, rfl, rfl, rfl, rfl, rfl, rfl, rfl, rfl, trivial⟩ ?_
        refine AWP.seq ?_
        refine AWP.draw [(0, true), (1, true), (2, true), (3, true), (4, true), (5, true), (6, true), (7, true), (9, true), (10, true), (11, true), (12, true), (13, true), (14, true), (15, true), (16, true), (17, true), (8, false), (18, true)] [] mixed (by kernel_rfl) ?_
        refine dP (hc := fun _ => Calm.move rfl) (h := ?_)
        refine dP (hc := fun _ => Calm.move rfl) (h := ?_)
        refine dP (hc := fun _ => Calm.indexS Try.underlying28 ty_size_22 rfl rfl (by omega) (by omega)) (h := ?_)
        refine dC (hc := ld_ ty_plain_22 rfl) (h := ?_)
        refine dP (hc := fun _ => Calm.move rfl) (h := ?_)
        refine dP (hc := fun _ => Calm.move rfl) (h := ?_)
        refine dP (hc := fun _ => Calm.indexS Try.underlying28 ty_size_22 rfl rfl (by omega) (by omega)) (h := ?_)
        refine dC (hc := ld_ ty_plain_22 rfl) (h := ?_)
        refine dP (hc := fun _ => Calm.move rfl) (h := ?_)
        refine dP (hc := fun _ => Calm.move rfl) (h := ?_)
        refine dP (hc := fun _ => Calm.indexS Try.underlying22 ty_size_41 rfl rfl (by omega) (by omega)) (h := ?_)
        refine dC (hc := ld_ ty_plain_41 rfl) (h := ?_)
        refine dP (hc := fun _ => Calm.move rfl) (h := ?_)
        refine dP (hc := fun _ => Calm.move rfl) (h := ?_)
        refine dP (hc := fun _ => Calm.indexS Try.underlying22 ty_size_41 rfl rfl (by omega) (by omega)) (h := ?_)
        refine dC (hc := ld_ ty_plain_41 rfl) (h := ?_)
        refine dP (hc := fun _ => Calm.bin rfl rfl b_lss) (h := ?_)
        refine draw_only rfl ?_
        refine ARun.call (lit_lt rfl) go_30 rfl (numV_Less (tkey l i) (tkey l j) _ _ _ hr1 hr2) ?_
        rintro _ S8 ⟨rfl, e1⟩
        rw [e1, hLt]; clear e1 S8
        refine arun_nil ⟨fun _ => less_, ?_⟩
        refine dP (hc := fun _ => Calm.bin rfl rfl (bin_bool (bin_bool_neq _ _ Try.underlying4) (by simp : (!(decide ((x : Int) < (y : Int)) == decide ((x : Int) < (y : Int)))) = false))) (h := ?_)
        refine draw_nil ?_
        refine athen_n ?_
        refine AWP.sub [(0, _), (3, _), (4, _), (6, _), (7, _), (8, _), (9, _), (41, _), (42, _), (43, _), (60, _), (61, _), (62, _), (11, _), (82, _)] ⟨rfl, rfl, rfl, rfl, rfl, rfl, rfl, rfl, rfl, rfl, rfl, rfl, rfl, rfl, rfl, trivial⟩ ?_
        refine AWP.condF rfl (by first | rfl | (simp; done) | (simp; omega)) ?_
        refine AWP.skip ?_
        refine ain_n ?_
        refine athen_n ?_
        refine AWP.region ?_
        refine rC (Calm.bin rfl rfl b_add_i64) ?_
        refine rC (Calm.move rfl) ?_
        refine arun_nil ?_
        refine athen_n ?_
        refine ⟨j + 1, ?_, ?_, ?_, ?_⟩
        all_goals (try dsimp only)
        · exact ⟨sq_, sq_, sq_, sq_, sq_, sq_, sq_, sq_, sq_, sq_, sq_, sq_, trivial⟩
        · exact Mem.Less.refl _
        · exact hjm
        · omega
      · obtain rfl : j = m := by omega
        refine AWP.seq ?_
        refine AWP.region ?_
        refine rC (Calm.bin rfl rfl b_lss) ?_
        refine arun_nil ?_
        refine athen_n ?_
        refine AWP.seq ?_
        refine AWP.condF rfl (by first | rfl | (simp; done) | (simp; omega)) ?_
        refine AWP.exit ?_
        refine athen_exit ?_
        refine athen_exit ?_
        refine ain_same ?_
        refine ain_n ?_
        refine athen_n ?_
        refine AWP.region ?_
        refine rC (Calm.bin rfl rfl b_add_i64) ?_
        refine rC (Calm.move rfl) ?_
        refine arun_nil ?_
        refine athen_n ?_
        refine ⟨(i + 1, hd.set x true), ?_, ?_, ?_, ?_⟩
        all_goals (try dsimp only)
        · exact ⟨sq_, sq_, sq_, sq_, sq_, sq_, sq_, sq_, sq_, trivial⟩
        · exact Mem.Less.refl _
        · exact ⟨hi, by rw [List.length_set]; exact q2, had_step hx q2 b2_ q3⟩
        · omega
    · obtain rfl : i = m := by omega
      refine AWP.seq ?_
      refine AWP.region ?_
      refine rC (Calm.bin rfl rfl b_lss) ?_
      refine arun_nil ?_
      refine athen_n ?_
      refine AWP.seq ?_
      refine AWP.condF rfl (by first | rfl | (simp; done) | (simp; omega)) ?_
      have hob : (S3.set b40 ⟨4, hd.map gB, N + 1⟩).own b40 = some ⟨4, hd.map gB, N + 1⟩ := Mem.own_set_same _ _ _
      refine AWP.exit ?_
      refine athen_exit ?_
      refine athen_exit ?_
      refine ain_same ?_
      refine athen_n ?_
      refine AWP.seq ?_
      refine AWP.seq ?_
      refine AWP.region ?_
      refine rC (Calm.assign rfl) ?_
      refine arun_nil ?_
      refine athen_n ?_
      refine AWP.block ?_
      refine AWP.loop (X := Nat) (fun x => [(0, .slice a l.length cap), (3, .slice a2 i c2), (4, .int .i64 N), (6, .slice a3 i c3), (7, .int .i64 0), (8, .slice (some ⟨b40, 0, none⟩) (N + 1) (N + 1)), (12, .int .i64 x)]) (fun x => S3.set b40 ⟨4, hd.map gB, N + 1⟩) (fun x => 1 ≤ x ∧ x ≤ N + 1) (fun x => N + 1 - x) (1) ⟨rfl, rfl, rfl, rfl, rfl, rfl, rfl, trivial⟩ (Mem.Less.refl _) (⟨Nat.le_refl _, by omega⟩) ?_
      rintro x ⟨x1, x2⟩
      (try dsimp only at *)
      by_cases hx : x ≤ N
      · refine AWP.seq ?_
        refine AWP.seq ?_
        refine AWP.region ?_
        refine rC (Calm.move rfl) ?_
        refine rC (Calm.move rfl) ?_
        refine rC (Calm.bin rfl rfl b_leq) ?_
        refine arun_nil ?_
        refine athen_n ?_
        refine AWP.sub [(0, _), (3, _), (4, _), (6, _), (7, _), (8, _), (12, _), (87, _)] ⟨rfl, rfl, rfl, rfl, rfl, rfl, rfl, rfl, trivial⟩ ?_
        refine AWP.condT rfl (by first | rfl | (simp; done) | (simp; omega)) ?_
        obtain ⟨k, hk, hkx⟩ := name_onto l x x1 (by omega)
        have hgt : hd[x]'(by omega) = true := by have := q3 k (by omega); rw [hkx, getD_get hd x false (by omega)] at this; exact this
        refine AWP.skip ?_
        refine athen_n ?_
        refine AWP.seq ?_
        refine AWP.block ?_
        refine AWP.seq ?_
        refine AWP.region ?_
        refine rC (Calm.move rfl) ?_
        refine rC (Calm.move rfl) ?_
        refine rC (Calm.indexS Try.underlying40 ty_size_4 rfl rfl (by omega) (by omega)) ?_
        refine rC (Calm.as (show gB (hd[x]'(by omega)) = .bool true by rw [hgt]; rfl) (Calm.load ty_plain_4 rfl (rd_list (g := gB) x (by omega) hob rw_))) ?_
        refine rC (Calm.un rfl (una_not _)) ?_
        refine arun_nil ?_
        refine athen_n ?_
        refine AWP.sub [(0, _), (3, _), (4, _), (6, _), (7, _), (8, _), (12, _), (87, _), (94, _)] ⟨rfl, rfl, rfl, rfl, rfl, rfl, rfl, rfl, rfl, trivial⟩ ?_
        refine AWP.condF rfl (by first | rfl | (simp; done) | (simp; omega)) ?_
        refine AWP.skip ?_
        refine ain_n ?_
        refine athen_n ?_
        refine AWP.region ?_
        refine rC (Calm.move rfl) ?_
        refine rC (Calm.bin rfl rfl b_add_i64) ?_
        refine rC (Calm.assign rfl) ?_
        refine arun_nil ?_
        refine athen_n ?_
        refine ⟨x + 1, ?_, ?_, ?_, ?_⟩
        all_goals (try dsimp only)
        · exact ⟨sq_, sq_, sq_, sq_, sq_, sq_, sq_, trivial⟩
        · exact Mem.Less.refl _
        · exact ⟨by omega, by omega⟩
        · omega
      · refine AWP.seq ?_
        refine AWP.seq ?_
        refine AWP.region ?_
        refine rC (Calm.move rfl) ?_
        refine rC (Calm.move rfl) ?_
        refine rC (Calm.bin rfl rfl b_leq) ?_
        refine arun_nil ?_
        refine athen_n ?_
        refine AWP.sub [(0, _), (3, _), (4, _), (6, _), (7, _), (8, _), (12, _), (87, _)] ⟨rfl, rfl, rfl, rfl, rfl, rfl, rfl, rfl, trivial⟩ ?_
        refine AWP.condF rfl (by first | rfl | (simp; done) | (simp; omega)) ?_
        refine AWP.exit ?_
        refine athen_exit ?_
        refine athen_exit ?_
        refine ain_same ?_
        refine athen_n ?_
        refine AWP.seq ?_
        refine AWP.region ?_
        refine rC (Calm.move rfl) ?_
        refine rC (Calm.bin rfl rfl b_eql) ?_
        refine rC (Calm.move rfl) ?_
        first | refine rS 97 ?_ | refine rU 97 ?_ | refine rG 97 (Calm.move rfl) ?_
        first | refine rS 97 ?_ | refine rU 97 ?_ | refine rG 97 (Calm.lenSl Try.underlying22 rfl) ?_
        first | refine rS 97 ?_ | refine rU 97 ?_ | refine rG 97 (Calm.move rfl) ?_
        first | refine rS 97 ?_ | refine rU 97 ?_ | refine rG 97 (Calm.lenSl Try.underlying28 rfl) ?_
        first | refine rS 97 ?_ | refine rU 97 ?_ | refine rG 97 (Calm.bin rfl rfl b_eql) ?_
        refine rC ((by first | exact Calm.pickT rfl rfl | exact Calm.pickF rfl rfl)) ?_
        refine rC (Calm.move rfl) ?_
        first | refine rS 104 ?_ | refine rU 104 ?_ | refine rG 104 (Calm.move rfl) ?_
        first | refine rS 104 ?_ | refine rU 104 ?_ | refine rG 104 (Calm.lenSl Try.underlying22 rfl) ?_
        first | refine rS 104 ?_ | refine rU 104 ?_ | refine rG 104 (Calm.move rfl) ?_
        first | refine rS 104 ?_ | refine rU 104 ?_ | refine rG 104 (Calm.lenSl Try.underlying22 rfl) ?_
        first | refine rS 104 ?_ | refine rU 104 ?_ | refine rG 104 (Calm.bin rfl rfl b_mul_i64) ?_
        first | refine rS 104 ?_ | refine rU 104 ?_ | refine rG 104 (Calm.bin rfl rfl b_quo_i64) ?_
        first | refine rS 104 ?_ | refine rU 104 ?_ | refine rG 104 (Calm.bin rfl rfl b_add_i64) ?_
        first | refine rS 104 ?_ | refine rU 104 ?_ | refine rG 104 (Calm.bin rfl rfl b_leq) ?_
        refine rC ((by first | exact Calm.pickT rfl rfl | exact Calm.pickF rfl rfl)) ?_
        refine rC (Calm.assign rfl) ?_
        refine arun_nil ?_
        refine athen_n ?_
        refine AWP.sub [(0, _), (3, _), (4, _), (6, _), (7, _), (8, _), (12, _), (87, _), (2, _)] ⟨rfl, rfl, rfl, rfl, rfl, rfl, rfl, rfl, rfl, trivial⟩ ?_
        refine AWP.ret ?_
        refine ⟨_, _, ⟨_, _, rfl, rfl, rfl⟩, less_, ?_⟩
        rfl
  · have er : redP l = [] := if_neg hc
    have em : manyP l = 0 := if_neg hc
    have et : triL l = [] := if_neg hc
    have e1 := chk_no hc
    refine ACall.enter (args := [.slice a l.length cap]) (rs := [.tmp 2]) 114 [(0, .slice a l.length cap)] Try.func5 rfl rfl (Nat.le_of_ble_eq_true rfl) rfl ⟨rfl, trivial⟩ ?_
    refine AWP.seq ?_
    refine AWP.region ?_
    refine rC (Calm.assign rfl) ?_
    refine arun_nil ?_
    refine athen_n ?_
    refine AWP.seq ?_
    refine AWP.seq ?_
    refine AWP.region ?_
    refine ARun.call (lit_lt rfl) go_14 rfl (sk_lives _) ?_
    rintro _ S8 ⟨rfl, e1⟩
    rw [e1]; clear e1 S8
    refine rC (Calm.un rfl (una_not _)) ?_
    refine arun_nil ?_
    refine athen_n ?_
    refine AWP.sub [(0, _), (2, _), (14, _)] ⟨rfl, rfl, rfl, trivial⟩ ?_
    refine AWP.condF rfl (by first | rfl | (simp; done) | (simp; omega)) ?_
    refine AWP.skip ?_
    refine athen_n ?_
    refine AWP.seq ?_
    refine AWP.seq ?_
    refine AWP.region ?_
    refine rC (Calm.move rfl) ?_
    refine rC (Calm.lenSl Try.underlying22 rfl) ?_
    refine rC (Calm.bin rfl rfl b_gtr) ?_
    refine arun_nil ?_
    refine athen_n ?_
    refine AWP.sub [(0, _), (2, _), (14, _), (17, _)] ⟨rfl, rfl, rfl, rfl, trivial⟩ ?_
    refine AWP.condF rfl (by first | rfl | (simp; done) | (simp; omega)) ?_
    refine AWP.skip ?_
    refine athen_n ?_
    refine AWP.seq ?_
    refine AWP.region ?_
    refine rC (Calm.move rfl) ?_
    refine ARun.call (lit_lt rfl) go_19 rfl (sk_Reduce _ l _ hl) ?_
    rintro _ S2 ⟨u2, rfl, hS2, hu2⟩
    rw [er] at hu2; rw [e1, em]
    refine rC (Calm.move rfl) ?_
    refine rC (Calm.extract rfl rfl) ?_
    refine rC (Calm.extract rfl rfl) ?_
    refine rC (Calm.extract rfl rfl) ?_
    refine rC (Calm.assign rfl) ?_
    refine rC (Calm.assign rfl) ?_
    refine rC (Calm.assign rfl) ?_
    refine arun_nil ?_
    refine athen_n ?_
    refine AWP.sub [(0, _), (2, _), (14, _), (17, _), (3, _), (4, _), (5, _)] ⟨rfl, rfl, rfl, rfl, rfl, rfl, rfl, trivial⟩ ?_
    refine AWP.seq ?_
    refine AWP.region ?_
    refine rC (Calm.move rfl) ?_
    refine ARun.call (lit_lt rfl) go_17 rfl (sk_Triples _ l _ (hl.less hS2)) ?_
    rintro _ S3 ⟨u3, rfl, hS3, hu3⟩
    rw [et] at hu3; rw [e1]
    refine rC (Calm.move rfl) ?_
    refine rC (Calm.extract rfl rfl) ?_
    refine rC (Calm.extract rfl rfl) ?_
    refine rC (Calm.assign rfl) ?_
    refine rC (Calm.assign rfl) ?_
    refine arun_nil ?_
    refine athen_n ?_
    refine AWP.sub [(0, _), (2, _), (14, _), (17, _), (3, _), (4, _), (5, _), (6, _), (7, _)] ⟨rfl, rfl, rfl, rfl, rfl, rfl, rfl, rfl, rfl, trivial⟩ ?_
    refine AWP.seq ?_
    refine AWP.seq ?_
    refine AWP.region ?_
    refine rC (Calm.move rfl) ?_
    refine rC (Calm.bin rfl rfl b_neq) ?_
    refine arun_nil ?_
    refine athen_n ?_
    refine AWP.sub [(0, _), (2, _), (14, _), (17, _), (3, _), (4, _), (5, _), (6, _), (7, _), (30, _)] ⟨rfl, rfl, rfl, rfl, rfl, rfl, rfl, rfl, rfl, rfl, trivial⟩ ?_
    refine AWP.condT rfl (by first | rfl | (simp; done) | (simp; omega)) ?_
    refine AWP.seq ?_
    refine AWP.region ?_
    refine rC (Calm.move rfl) ?_
    refine rC (Calm.move rfl) ?_
    refine rC (Calm.bin rfl rfl b_eql) ?_
    refine rC (Calm.move rfl) ?_
    first | refine rS 34 ?_ | refine rU 34 ?_ | refine rG 34 (Calm.move rfl) ?_
    first | refine rS 34 ?_ | refine rU 34 ?_ | refine rG 34 (Calm.bin rfl rfl b_eql) ?_
    refine rC ((by first | exact Calm.pickT rfl rfl | exact Calm.pickF rfl rfl)) ?_
    refine rC (Calm.assign rfl) ?_
    refine arun_nil ?_
    refine athen_n ?_
    refine AWP.sub [(0, _), (2, _), (14, _), (17, _), (3, _), (4, _), (5, _), (6, _), (7, _), (30, _)] ⟨rfl, rfl, rfl, rfl, rfl, rfl, rfl, rfl, rfl, rfl, trivial⟩ ?_
    refine AWP.ret ?_
    refine athen_ret ?_
    refine ⟨_, _, ⟨_, _, rfl, rfl, rfl⟩, less_, ?_⟩
    rfl
theorem walk_SkewFewer (p : Option Addr) (n c : Nat) (l : List Nat) (w : World) (w0 : Sl 1 (fun x : Nat => [.int .u64 (x : Int)]) (roM w) (.slice p n c) l) (wb : ∀ x ∈ l, x < 18446744073709551616) (zl : l.length ≤ 17592186043904) :
    Calls Try.prog 5 #[.slice p n c] w fun e w' => e = .returned (.bool true) ∧ Below w.heap.size w w' :=
  ACall.callsW (law_SkewFewer _ l _ w0)
end Go.Proofs.Ytgidjbpgkeemiaa
