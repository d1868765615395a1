/-
  Skew: the reduced list, all ends in order, by the document.
-/
import Derived.Test.YtgidjbpgkeemiaaSk7
namespace Go.Proofs.Ytgidjbpgkeemiaa
open Go.RowKit
open Mv Num Loser Skew Srt
set_option linter.unusedVariables false
set_option linter.unusedSimpArgs false
set_option maxRecDepth 4000
theorem tri_len (l : List Nat) (hc : chkL l = 0) : (triL l).length = numP l.length := by
  unfold triL; rw [if_pos hc, List.length_map]; rfl
theorem tri_get (l : List Nat) (hc : chkL l = 0) (i : Nat) (h : i < (triL l).length) : (triL l)[i] = tkey l i := by
  have et : triL l = (places l.length).map (tri l) := if_pos hc
  simp only [et, List.getElem_map]
  unfold tkey
  rw [places_getD (by rw [tri_len l hc] at h; exact h)]
  rfl
theorem range_all (p : Nat → Bool) (i : Nat) : (List.range (i + 1)).all p = ((List.range i).all p && p i) := by rw [List.range_succ, List.all_append, List.all_cons, List.all_nil, Bool.and_true]
theorem range_count (p : Nat → Bool) (i : Nat) : (List.range (i + 1)).countP p = (List.range i).countP p + (if p i = true then 1 else 0) := by rw [List.range_succ, List.countP_append, List.countP_cons, List.countP_nil, Nat.zero_add]
theorem ne_dec (a b : List Nat) : (!decide (a = b)) = decide (b ≠ a) := by
  by_cases h : a = b
  · subst h; simp
  · rw [decide_eq_false h, decide_eq_true (Ne.symm h)]; rfl
set_option maxHeartbeats 4000000 in
theorem rsk_Reduce (v : Value) (l : List Nat) (S : Mem) (hl : RowR S v l) :
    ACall Try.prog 20 #[v] S fun r S' => ∃ u, r = .tuple #[u, .int .i64 (manyP l : Nat), .int .i64 (chkL l)] ∧ RdL gU (redP l) S u S' := by
  have hT := rsk_Triples v l S hl
  by_cases hc : chkL l = 0
  · have hlen := (chk_ok hc).1
    have er : redP l = red l := if_pos hc
    have em : manyP l = many l := if_pos hc
    rw [er, em, hc]
    rw [hc] at hT
    have htl := tri_len l hc
    have hml : numP l.length ≤ 3000 := places_le l.length hlen
    have hget := tri_get l hc
    obtain ⟨m, hm⟩ : ∃ m, m = numP l.length := ⟨_, rfl⟩
    rw [← hm] at htl hml
    refine ACall.enter (args := [v]) (rs := [.tmp 2, .tmp 3, .tmp 4]) 80 [(0, v)] Try.func20 rfl rfl (Nat.le_of_ble_eq_true rfl) rfl ⟨rfl, trivial⟩ ?_
    refine AWP.seq ?_
    refine AWP.region ?_
    refine rC (Calm.assign rfl) ?_
    refine rC (Calm.assign rfl) ?_
    refine rC (Calm.assign rfl) ?_
    refine arun_nil ?_
    refine athen_n ?_
    refine AWP.seq ?_
    refine AWP.region ?_
    refine rC (Calm.move rfl) ?_
    refine ARun.call (lit_lt rfl) go_18 rfl (hT) ?_
    rintro _ S1 ⟨u, rfl, hSS, hs, hs1, hs2, hs3⟩
    rw [htl] at hs1
    obtain ⟨pa, pc, rfl, p1, p2, p3⟩ := id hs2
    rw [hs1] at p1 p2
    rw [hs1]
    have hrow : ∀ i (h : i < m), ∃ g, S1.Knows g [hs[i]'(by omega)] ∧ True := fun i h => by obtain ⟨b, off, rfl, hk⟩ := p3.resolve_left (fun e => by rw [e] at hs1; simp at hs1; omega); exact ⟨_, hk i (by omega), trivial⟩
    have hR : ∀ i (h : i < m), RowR S1 (hs[i]'(by omega)) (tkey l i) := fun i h => by rw [← hget i (by omega)]; exact hs3 i (by omega) (by omega)
    clear hrow
    refine rC (Calm.move rfl) ?_
    refine rC (Calm.extract rfl rfl) ?_
    refine rC (Calm.extract rfl rfl) ?_
    refine rC (Calm.assign rfl) ?_
    refine rC (Calm.assign rfl) ?_
    refine arun_nil ?_
    refine athen_n ?_
    refine AWP.sub [(0, _), (2, _), (3, _), (4, _), (5, _), (6, _)] ⟨rfl, rfl, rfl, rfl, rfl, rfl, trivial⟩ ?_
    refine AWP.seq ?_
    refine AWP.seq ?_
    refine AWP.region ?_
    refine rC (Calm.move rfl) ?_
    refine rC (Calm.bin rfl rfl b_neq) ?_
    refine arun_nil ?_
    refine athen_n ?_
    refine AWP.sub [(0, _), (2, _), (3, _), (4, _), (5, _), (6, _), (23, _)] ⟨rfl, rfl, rfl, rfl, rfl, rfl, rfl, trivial⟩ ?_
    refine AWP.condF rfl (by first | rfl | (simp; done) | (simp; omega)) ?_
    refine AWP.skip ?_
    refine athen_n ?_
    refine AWP.seq ?_
    refine AWP.region ?_
    refine rC (Calm.assign rfl) ?_
    refine arun_nil ?_
    refine athen_n ?_
    refine AWP.seq ?_
    refine AWP.region ?_
    refine rC (Calm.assign rfl) ?_
    refine arun_nil ?_
    refine athen_n ?_
    refine AWP.seq ?_
    refine AWP.seq ?_
    refine AWP.region ?_
    refine rC (Calm.move rfl) ?_
    refine rC (Calm.lenSl Try.underlying28 rfl) ?_
    refine rC (Calm.move rfl) ?_
    refine arun_nil ?_
    refine athen_n ?_
    refine AWP.block ?_
    refine AWP.loop (X := Nat × List Nat × Option (Nat × Nat) × Nat) (fun x => [(5, .slice pa m pc), (7, outV x.2.2.1 x.2.1.length), (8, .int .u64 x.2.2.2), (25, .slice pa m pc), (26, .int .i64 m), (27, .int .i64 x.1)]) (fun x => outM S1 x.2.2.1 41 (x.2.1.map gU)) (fun x => x.1 ≤ m ∧ x.2.1 = (List.range x.1).map (nameOf (tkey l) m) ∧ x.2.2.2 = x.2.1.foldl max 0 ∧ OkO S1 x.2.2.1 x.2.1.length) (fun x => m - x.1) ((0, [], none, 0)) ⟨rfl, rfl, rfl, rfl, rfl, rfl, trivial⟩ (Mem.Less.refl _) (⟨Nat.zero_le _, rfl, rfl, okO_nil _⟩) ?_
    rintro ⟨i, L, o, mx⟩ ⟨q1, q2, q3, q4⟩
    (try dsimp only at *)
    have hLl : L.length = i := by rw [q2]; simp
    have hSo : S1.Less (outM S1 o 41 (L.map gU)) := outM_over q4
    have hmx : mx ≤ m := by rw [q3]; exact (foldl_max_le _ _ _).2 ⟨Nat.zero_le _, fun y hy => by rw [q2] at hy; obtain ⟨k, hk, rfl⟩ := List.mem_map.1 hy; exact name_le _ _ _ (by have := List.mem_range.1 hk; omega)⟩
    by_cases hi : i < m
    · refine AWP.seq ?_
      refine AWP.region ?_
      refine rC (Calm.bin rfl rfl b_lss) ?_
      refine arun_nil ?_
      refine athen_n ?_
      refine AWP.seq ?_
      refine AWP.condT rfl (by first | rfl | (simp; done) | (simp; omega)) ?_
      obtain ⟨pb, po, rfl, hk⟩ := p3.resolve_left (fun e => by rw [e] at hs1; simp at hs1; omega)
      have ki := (hk i (by omega)).less hSo
      have hri := (hR i hi).less hSo
      obtain ⟨ci, hci⟩ : ∃ c, c = hs[i]'(by omega) := ⟨_, rfl⟩
      rw [← hci] at ki hri
      refine AWP.skip ?_
      refine athen_n ?_
      refine AWP.seq ?_
      refine AWP.block ?_
      refine AWP.seq ?_
      refine AWP.region ?_
      refine rC (Calm.move rfl) ?_
      refine rC (Calm.indexS Try.underlying28 ty_size_22 rfl rfl (by omega) (by omega)) ?_
      refine rC (ld_ ty_plain_22 rfl) ?_
      refine rC (Calm.assign rfl) ?_
      refine rC (Calm.assign rfl) ?_
      refine arun_nil ?_
      refine athen_n ?_
      refine AWP.sub [(5, _), (7, _), (8, _), (25, _), (26, _), (27, _), (28, _), (9, _), (10, _)] ⟨rfl, rfl, rfl, rfl, rfl, rfl, rfl, rfl, rfl, trivial⟩ ?_
      refine AWP.seq ?_
      refine AWP.region ?_
      refine rC (Calm.assign rfl) ?_
      refine arun_nil ?_
      refine athen_n ?_
      refine AWP.seq ?_
      refine AWP.seq ?_
      refine AWP.region ?_
      refine rC (Calm.move rfl) ?_
      refine rC (Calm.lenSl Try.underlying28 rfl) ?_
      refine rC (Calm.move rfl) ?_
      refine arun_nil ?_
      refine athen_n ?_
      refine AWP.join (X := Nat) (fun x => [(5, .slice (some ⟨pb, po, none⟩) m pc), (7, outV o L.length), (8, .int .u64 mx), (10, ci), (11, .int .u64 x), (25, .slice (some ⟨pb, po, none⟩) m pc), (26, .int .i64 m), (27, .int .i64 i)]) (fun _ => outM S1 o 41 (L.map gU)) (fun x => x = nameOf (tkey l) m i) ?_ ?_
      · refine AWP.block ?_
        refine AWP.loop (X := Nat × Nat) (fun x => [(5, .slice (some ⟨pb, po, none⟩) m pc), (7, outV o L.length), (8, .int .u64 mx), (9, .int .i64 i), (10, ci), (11, .int .u64 x.2), (25, .slice (some ⟨pb, po, none⟩) m pc), (26, .int .i64 m), (27, .int .i64 i), (32, .slice (some ⟨pb, po, none⟩) m pc), (33, .int .i64 m), (34, .int .i64 x.1)]) (fun _ => outM S1 o 41 (L.map gU)) (fun x => x.1 ≤ m ∧ x.2 = 1 + (List.range x.1).countP (fun j => firstK (tkey l) j && lessB (tkey l j) (tkey l i))) (fun x => m - x.1) ((0, 1)) ⟨rfl, rfl, rfl, rfl, rfl, rfl, rfl, rfl, rfl, rfl, rfl, rfl, trivial⟩ (Mem.Less.refl _) (⟨Nat.zero_le _, rfl⟩) ?_
        rintro ⟨j, nn⟩ ⟨r1, r2⟩
        (try dsimp only at *)
        have hnn : nn ≤ 1 + j := by rw [r2]; have := List.countP_le_length (p := fun j => firstK (tkey l) j && lessB (tkey l j) (tkey l i)) (l := List.range j); rw [List.length_range] at this; omega
        by_cases hj : j < m
        · refine AWP.seq ?_
          refine AWP.region ?_
          refine rC (Calm.bin rfl rfl b_lss) ?_
          refine arun_nil ?_
          refine athen_n ?_
          refine AWP.seq ?_
          refine AWP.condT rfl (by first | rfl | (simp; done) | (simp; omega)) ?_
          have kj := (hk j (by omega)).less hSo
          have hrj := (hR j hj).less hSo
          obtain ⟨cj, hcj⟩ : ∃ c, c = hs[j]'(by omega) := ⟨_, rfl⟩
          rw [← hcj] at kj hrj
          refine AWP.skip ?_
          refine athen_n ?_
          refine AWP.seq ?_
          refine AWP.block ?_
          refine AWP.seq ?_
          refine AWP.region ?_
          refine rC (Calm.move rfl) ?_
          refine rC (Calm.indexS Try.underlying28 ty_size_22 rfl rfl (by omega) (by omega)) ?_
          refine rC (ld_ ty_plain_22 rfl) ?_
          refine rC (Calm.assign rfl) ?_
          refine rC (Calm.assign rfl) ?_
          refine arun_nil ?_
          refine athen_n ?_
          refine AWP.sub [(5, _), (7, _), (8, _), (9, _), (10, _), (11, _), (25, _), (26, _), (27, _), (32, _), (33, _), (34, _), (35, _), (12, _), (13, _)] ⟨rfl, rfl, rfl, rfl, rfl, rfl, rfl, rfl, rfl, rfl, rfl, rfl, rfl, rfl, rfl, trivial⟩ ?_
          refine AWP.seq ?_
          refine AWP.region ?_
          refine rC (Calm.assign rfl) ?_
          refine arun_nil ?_
          refine athen_n ?_
          refine AWP.seq ?_
          refine AWP.seq ?_
          refine AWP.region ?_
          refine rC (Calm.move rfl) ?_
          refine rC (Calm.move rfl) ?_
          refine rC ((by first | exact Calm.sliceHead Try.underlying28 ty_size_22 rfl (bnd_none _ _) (fun _ => rfl) (bnd_some _ _ rfl (by omega) (by omega)) | exact Calm.sliceNil Try.underlying28 ty_size_22 rfl (bnd_none _ _) (by simp) (bnd_zero _ _ rfl) (bnd_none _ _))) ?_
          refine rC (Calm.lenSl Try.underlying28 rfl) ?_
          refine rC (Calm.move rfl) ?_
          refine arun_nil ?_
          refine athen_n ?_
          refine AWP.sub [(5, _), (7, _), (8, _), (9, _), (10, _), (11, _), (25, _), (26, _), (27, _), (32, _), (33, _), (34, _), (35, _), (12, _), (13, _), (14, _), (41, _), (42, _), (43, _)] ⟨rfl, rfl, rfl, rfl, rfl, rfl, rfl, rfl, rfl, rfl, rfl, rfl, rfl, rfl, rfl, rfl, rfl, rfl, rfl, trivial⟩ ?_
          refine AWP.join (X := Bool) (fun x => [(5, .slice (some ⟨pb, po, none⟩) m pc), (7, outV o L.length), (8, .int .u64 mx), (9, .int .i64 i), (10, ci), (11, .int .u64 nn), (13, cj), (14, .bool x), (25, .slice (some ⟨pb, po, none⟩) m pc), (26, .int .i64 m), (27, .int .i64 i), (32, .slice (some ⟨pb, po, none⟩) m pc), (33, .int .i64 m), (34, .int .i64 j)]) (fun _ => outM S1 o 41 (L.map gU)) (fun x => x = firstK (tkey l) j) ?_ ?_
          · refine AWP.block ?_
            refine AWP.loop (X := Nat × Bool) (fun x => [(5, .slice (some ⟨pb, po, none⟩) m pc), (7, outV o L.length), (8, .int .u64 mx), (9, .int .i64 i), (10, ci), (11, .int .u64 nn), (13, cj), (14, .bool x.2), (25, .slice (some ⟨pb, po, none⟩) m pc), (26, .int .i64 m), (27, .int .i64 i), (32, .slice (some ⟨pb, po, none⟩) m pc), (33, .int .i64 m), (34, .int .i64 j), (41, .slice (some ⟨pb, po, none⟩) j pc), (42, .int .i64 j), (43, .int .i64 x.1)]) (fun _ => outM S1 o 41 (L.map gU)) (fun x => x.1 ≤ j ∧ x.2 = (List.range x.1).all (fun z => decide (tkey l z ≠ tkey l j))) (fun x => j - x.1) ((0, true)) ⟨rfl, rfl, rfl, rfl, rfl, rfl, rfl, rfl, rfl, rfl, rfl, rfl, rfl, rfl, rfl, rfl, rfl, trivial⟩ (Mem.Less.refl _) (⟨Nat.zero_le _, rfl⟩) ?_
            rintro ⟨z, f⟩ ⟨w1, w2⟩
            (try dsimp only at *)
            by_cases hz : z < j
            · refine AWP.seq ?_
              refine AWP.region ?_
              refine rC (Calm.bin rfl rfl b_lss) ?_
              refine arun_nil ?_
              refine athen_n ?_
              refine AWP.seq ?_
              refine AWP.condT rfl (by first | rfl | (simp; done) | (simp; omega)) ?_
              have kz := (hk z (by omega)).less hSo
              have hrz := (hR z (by omega)).less hSo
              obtain ⟨cz, hcz⟩ : ∃ c, c = hs[z]'(by omega) := ⟨_, rfl⟩
              rw [← hcz] at kz hrz
              cases f
              · refine AWP.skip ?_
                refine athen_n ?_
                refine AWP.seq ?_
                refine AWP.block ?_
                refine AWP.seq ?_
                refine AWP.region ?_
                refine rC (Calm.indexS Try.underlying28 ty_size_22 rfl rfl (by omega) (by omega)) ?_
                refine rC (ld_ ty_plain_22 rfl) ?_
                refine rC (Calm.assign rfl) ?_
                refine arun_nil ?_
                refine athen_n ?_
                refine AWP.sub [(5, _), (7, _), (8, _), (9, _), (10, _), (11, _), (13, _), (14, _), (25, _), (26, _), (27, _), (32, _), (33, _), (34, _), (41, _), (42, _), (43, _), (44, _), (16, _)] ⟨rfl, rfl, rfl, rfl, rfl, rfl, rfl, rfl, rfl, rfl, rfl, rfl, rfl, rfl, rfl, rfl, rfl, rfl, rfl, trivial⟩ ?_
                refine AWP.region ?_
                refine rC (Calm.move rfl) ?_
                refine rC (Calm.move rfl) ?_
                first | refine rS 48 ?_ | refine rU 48 ?_ | refine rG 48 (Calm.move rfl) ?_
                first | refine rS 48 ?_ | refine rU 48 ?_ | refine rG 48 (Calm.move rfl) ?_
                first | refine rS 48 ?_ | refine rU 48 ?_
                first | refine rS 48 ?_ | refine rU 48 ?_ | refine rG 48 (Calm.un rfl (una_not _)) ?_
                refine rC ((by first | exact Calm.pickT rfl rfl | exact Calm.pickF rfl rfl)) ?_
                refine rC (Calm.assign rfl) ?_
                refine arun_nil ?_
                refine ain_n ?_
                refine athen_n ?_
                refine AWP.sub [(5, _), (7, _), (8, _), (9, _), (10, _), (11, _), (13, _), (14, _), (25, _), (26, _), (27, _), (32, _), (33, _), (34, _), (41, _), (42, _), (43, _), (44, _), (16, _)] ⟨rfl, rfl, rfl, rfl, rfl, rfl, rfl, rfl, rfl, rfl, rfl, rfl, rfl, rfl, rfl, rfl, rfl, rfl, rfl, trivial⟩ ?_
                refine AWP.region ?_
                refine rC (Calm.bin rfl rfl b_add_i64) ?_
                refine rC (Calm.move rfl) ?_
                refine arun_nil ?_
                refine athen_n ?_
                refine ⟨(z + 1, false), ?_, ?_, ?_, ?_⟩
                all_goals (try dsimp only)
                · exact ⟨sq_, sq_, sq_, sq_, sq_, sq_, sq_, sq_, sq_, sq_, sq_, sq_, sq_, sq_, sq_, sq_, sq_, trivial⟩
                · exact Mem.Less.refl _
                · exact ⟨hz, by rw [range_all, ← w2]; rfl⟩
                · omega
              · refine AWP.skip ?_
                refine athen_n ?_
                refine AWP.seq ?_
                refine AWP.block ?_
                refine AWP.seq ?_
                refine AWP.region ?_
                refine rC (Calm.indexS Try.underlying28 ty_size_22 rfl rfl (by omega) (by omega)) ?_
                refine rC (ld_ ty_plain_22 rfl) ?_
                refine rC (Calm.assign rfl) ?_
                refine arun_nil ?_
                refine athen_n ?_
                refine AWP.sub [(5, _), (7, _), (8, _), (9, _), (10, _), (11, _), (13, _), (14, _), (25, _), (26, _), (27, _), (32, _), (33, _), (34, _), (41, _), (42, _), (43, _), (44, _), (16, _)] ⟨rfl, rfl, rfl, rfl, rfl, rfl, rfl, rfl, rfl, rfl, rfl, rfl, rfl, rfl, rfl, rfl, rfl, rfl, rfl, trivial⟩ ?_
                refine AWP.region ?_
                refine rC (Calm.move rfl) ?_
                refine rC (Calm.move rfl) ?_
                first | refine rS 48 ?_ | refine rU 48 ?_ | refine rG 48 (Calm.move rfl) ?_
                first | refine rS 48 ?_ | refine rU 48 ?_ | refine rG 48 (Calm.move rfl) ?_
                refine ARun.callG 1 true 48 rfl (lit_lt rfl) rfl (lit_lt rfl) go_23 rfl (rnumV_SameOne _ _ _ _ _ hrj hrz) ?_
                rintro _ _ ⟨rfl, rfl⟩
                first | refine rS 48 ?_ | refine rU 48 ?_ | refine rG 48 (Calm.un rfl (una_not _)) ?_
                refine rC ((by first | exact Calm.pickT rfl rfl | exact Calm.pickF rfl rfl)) ?_
                refine rC (Calm.assign rfl) ?_
                refine arun_nil ?_
                refine ain_n ?_
                refine athen_n ?_
                refine AWP.sub [(5, _), (7, _), (8, _), (9, _), (10, _), (11, _), (13, _), (14, _), (25, _), (26, _), (27, _), (32, _), (33, _), (34, _), (41, _), (42, _), (43, _), (44, _), (16, _)] ⟨rfl, rfl, rfl, rfl, rfl, rfl, rfl, rfl, rfl, rfl, rfl, rfl, rfl, rfl, rfl, rfl, rfl, rfl, rfl, trivial⟩ ?_
                refine AWP.region ?_
                refine rC (Calm.bin rfl rfl b_add_i64) ?_
                refine rC (Calm.move rfl) ?_
                refine arun_nil ?_
                refine athen_n ?_
                refine ⟨(z + 1, !decide (tkey l j = tkey l z)), ?_, ?_, ?_, ?_⟩
                all_goals (try dsimp only)
                · exact ⟨sq_, sq_, sq_, sq_, sq_, sq_, sq_, sq_, sq_, sq_, sq_, sq_, sq_, sq_, sq_, sq_, sq_, trivial⟩
                · exact Mem.Less.refl _
                · exact ⟨hz, by rw [range_all, ← w2, Bool.true_and]; exact ne_dec _ _⟩
                · omega
            · obtain rfl : z = j := by omega
              refine AWP.seq ?_
              refine AWP.region ?_
              refine rC (Calm.bin rfl rfl b_lss) ?_
              refine arun_nil ?_
              refine athen_n ?_
              refine AWP.seq ?_
              refine AWP.condF rfl (by first | rfl | (simp; done) | (simp; omega)) ?_
              refine AWP.exit ?_
              refine athen_exit ?_
              refine athen_exit ?_
              refine ain_same ?_
              refine ⟨f, ?_, ?_, ?_⟩
              all_goals (try dsimp only)
              · exact w2
              · exact ⟨sq_, sq_, sq_, sq_, sq_, sq_, sq_, sq_, sq_, sq_, sq_, sq_, sq_, sq_, trivial⟩
              · exact Mem.Less.refl _
          rintro f hf
          intro _ _ hs_ hl_
          (try dsimp only at *)
          refine athen_n ?_
          refine AWP.sub _ hs_ (AWP.less _ hl_ ?_)
          clear hs_ hl_
          refine AWP.seq ?_
          refine AWP.join (X := Bool) (fun x => [(5, .slice (some ⟨pb, po, none⟩) m pc), (7, outV o L.length), (8, .int .u64 mx), (9, .int .i64 i), (10, ci), (11, .int .u64 nn), (25, .slice (some ⟨pb, po, none⟩) m pc), (26, .int .i64 m), (27, .int .i64 i), (32, .slice (some ⟨pb, po, none⟩) m pc), (33, .int .i64 m), (34, .int .i64 j), (63, .bool x)]) (fun _ => outM S1 o 41 (L.map gU)) (fun x => x = (firstK (tkey l) j && lessB (tkey l j) (tkey l i))) ?_ ?_
          · cases f
            · refine AWP.region ?_
              refine rC (Calm.move rfl) ?_
              refine rC (Calm.move rfl) ?_
              first | refine rS 56 ?_ | refine rU 56 ?_ | refine rG 56 (Calm.move rfl) ?_
              first | refine rS 56 ?_ | refine rU 56 ?_ | refine rG 56 (Calm.move rfl) ?_
              first | refine rS 56 ?_ | refine rU 56 ?_ | refine rG 56 (Calm.move rfl) ?_
              first | refine rS 56 ?_ | refine rU 56 ?_ | refine rG 56 (Calm.indexS Try.underlying28 ty_size_22 rfl rfl (by omega) (by omega)) ?_
              first | refine rS 56 ?_ | refine rU 56 ?_ | refine rG 56 (ld_ ty_plain_22 rfl) ?_
              first | refine rS 56 ?_ | refine rU 56 ?_
              refine rC ((by first | exact Calm.pickT rfl rfl | exact Calm.pickF rfl rfl)) ?_
              refine arun_nil ?_
              refine ⟨false, ?_, ?_, ?_⟩
              all_goals (try dsimp only)
              · rw [← hf]; rfl
              · exact ⟨sq_, sq_, sq_, sq_, sq_, sq_, sq_, sq_, sq_, sq_, sq_, sq_, sq_, trivial⟩
              · exact Mem.Less.refl _
            · refine AWP.region ?_
              refine rC (Calm.move rfl) ?_
              refine rC (Calm.move rfl) ?_
              first | refine rS 56 ?_ | refine rU 56 ?_ | refine rG 56 (Calm.move rfl) ?_
              first | refine rS 56 ?_ | refine rU 56 ?_ | refine rG 56 (Calm.move rfl) ?_
              first | refine rS 56 ?_ | refine rU 56 ?_ | refine rG 56 (Calm.move rfl) ?_
              first | refine rS 56 ?_ | refine rU 56 ?_ | refine rG 56 (Calm.indexS Try.underlying28 ty_size_22 rfl rfl (by omega) (by omega)) ?_
              first | refine rS 56 ?_ | refine rU 56 ?_ | refine rG 56 (ld_ ty_plain_22 rfl) ?_
              refine ARun.callG 1 true 56 rfl (lit_lt rfl) rfl (lit_lt rfl) go_64 rfl (rnumV_Less _ _ _ _ _ hrj hri) ?_
              rintro _ _ ⟨rfl, rfl⟩
              refine rC ((by first | exact Calm.pickT rfl rfl | exact Calm.pickF rfl rfl)) ?_
              refine arun_nil ?_
              refine ⟨(lessB (tkey l j) (tkey l i)), ?_, ?_, ?_⟩
              all_goals (try dsimp only)
              · rw [← hf]; rfl
              · exact ⟨sq_, sq_, sq_, sq_, sq_, sq_, sq_, sq_, sq_, sq_, sq_, sq_, sq_, trivial⟩
              · exact Mem.Less.refl _
          rintro x hx
          intro _ _ hs_ hl_
          (try dsimp only at *)
          refine athen_n ?_
          refine AWP.sub _ hs_ (AWP.less _ hl_ ?_)
          clear hs_ hl_
          have hcnt := range_count (fun j => firstK (tkey l) j && lessB (tkey l j) (tkey l i)) j
          rw [← hx] at hcnt
          cases x
          · refine AWP.condF rfl (by first | rfl | (simp; done) | (simp; omega)) ?_
            refine AWP.skip ?_
            refine ain_n ?_
            refine athen_n ?_
            refine AWP.region ?_
            refine rC (Calm.bin rfl rfl b_add_i64) ?_
            refine rC (Calm.move rfl) ?_
            refine arun_nil ?_
            refine athen_n ?_
            refine ⟨(j + 1, nn), ?_, ?_, ?_, ?_⟩
            all_goals (try dsimp only)
            · exact ⟨sq_, sq_, sq_, sq_, sq_, sq_, sq_, sq_, sq_, sq_, sq_, sq_, trivial⟩
            · exact Mem.Less.refl _
            · exact ⟨hj, by rw [hcnt, r2]; rfl⟩
            · omega
          · refine AWP.condT rfl (by first | rfl | (simp; done) | (simp; omega)) ?_
            refine AWP.region ?_
            refine rC (Calm.move rfl) ?_
            refine rC (Calm.bin rfl rfl b_add_u64) ?_
            refine rC (Calm.assign rfl) ?_
            refine arun_nil ?_
            refine ain_n ?_
            refine athen_n ?_
            refine AWP.sub [(5, _), (7, _), (8, _), (9, _), (10, _), (11, _), (25, _), (26, _), (27, _), (32, _), (33, _), (34, _), (63, _)] ⟨rfl, rfl, rfl, rfl, rfl, rfl, rfl, rfl, rfl, rfl, rfl, rfl, rfl, trivial⟩ ?_
            refine AWP.region ?_
            refine rC (Calm.bin rfl rfl b_add_i64) ?_
            refine rC (Calm.move rfl) ?_
            refine arun_nil ?_
            refine athen_n ?_
            refine ⟨(j + 1, nn + 1), ?_, ?_, ?_, ?_⟩
            all_goals (try dsimp only)
            · exact ⟨sq_, sq_, sq_, sq_, sq_, sq_, sq_, sq_, sq_, sq_, sq_, sq_, trivial⟩
            · exact Mem.Less.refl _
            · exact ⟨hj, by rw [hcnt, r2, if_pos rfl]; omega⟩
            · omega
        · obtain rfl : m = j := by omega
          refine AWP.seq ?_
          refine AWP.region ?_
          refine rC (Calm.bin rfl rfl b_lss) ?_
          refine arun_nil ?_
          refine athen_n ?_
          refine AWP.seq ?_
          refine AWP.condF rfl (by first | rfl | (simp; done) | (simp; omega)) ?_
          refine AWP.exit ?_
          refine athen_exit ?_
          refine athen_exit ?_
          refine ain_same ?_
          refine ⟨nn, ?_, ?_, ?_⟩
          all_goals (try dsimp only)
          · exact r2
          · exact ⟨sq_, sq_, sq_, sq_, sq_, sq_, sq_, sq_, trivial⟩
          · exact Mem.Less.refl _
      rintro nn hnn
      intro _ _ hs_ hl_
      (try dsimp only at *)
      refine athen_n ?_
      refine AWP.sub _ hs_ (AWP.less _ hl_ ?_)
      clear hs_ hl_
      have hnm : nn ≤ m := by rw [hnn]; exact name_le _ _ _ hi
      refine AWP.seq ?_
      refine AWP.region ?_
      refine rC (Calm.move rfl) ?_
      refine arun_nil ?_
      refine athen_n ?_
      refine AWP.sub [(5, _), (7, _), (8, _), (10, _), (11, _), (25, _), (26, _), (27, _)] ⟨rfl, rfl, rfl, rfl, rfl, rfl, rfl, rfl, trivial⟩ ?_
      refine AWP.seq ?_
      refine AWP.region ?_
      refine rC (Calm.move rfl) ?_
      refine rC (Calm.move rfl) ?_
      refine ARun.build1s (lit_lt rfl) ty_sl_22 rfl rfl ?_
      intro b70 f70
      have g70 := f70
      repeat ((with_reducible replace g70 := fresh_set g70); obtain ⟨g70, _⟩ := g70)
      refine ARun.appendO (lit_lt rfl) ty_sl_22 rfl map_len (appO_of q4 map_len f70) rfl (news := [_]) rds_ rfl (by omega) (by simp [Value.oneCell']) (by omega) (by omega) ?_
      intro b71 c71 ho2
      have hmax : max mx nn = (L ++ [nn]).foldl max 0 := by rw [List.foldl_append, ← q3]; rfl
      have hLn : L ++ [nn] = (List.range (i + 1)).map (nameOf (tkey l) m) := by rw [List.range_succ, List.map_append, ← q2, hnn]; rfl
      refine rC (Calm.assign rfl) ?_
      refine arun_nil ?_
      refine athen_n ?_
      refine AWP.sub [(5, _), (7, _), (8, _), (10, _), (11, _), (25, _), (26, _), (27, _)] ⟨rfl, rfl, rfl, rfl, rfl, rfl, rfl, rfl, trivial⟩ ?_
      by_cases hgt : mx < nn
      · refine AWP.seq ?_
        refine AWP.region ?_
        refine rC (Calm.move rfl) ?_
        refine rC (Calm.move rfl) ?_
        refine rC (Calm.bin rfl rfl b_gtr) ?_
        refine arun_nil ?_
        refine athen_n ?_
        refine AWP.sub [(5, _), (7, _), (8, _), (10, _), (11, _), (25, _), (26, _), (27, _), (74, _)] ⟨rfl, rfl, rfl, rfl, rfl, rfl, rfl, rfl, rfl, trivial⟩ ?_
        refine AWP.condT rfl (by first | rfl | (simp; done) | (simp; omega)) ?_
        refine AWP.region ?_
        refine rC (Calm.move rfl) ?_
        refine rC (Calm.assign rfl) ?_
        refine arun_nil ?_
        refine ain_n ?_
        refine athen_n ?_
        refine AWP.sub [(5, _), (7, _), (8, _), (10, _), (11, _), (25, _), (26, _), (27, _), (74, _)] ⟨rfl, rfl, rfl, rfl, rfl, rfl, rfl, rfl, rfl, trivial⟩ ?_
        refine AWP.region ?_
        refine rC (Calm.bin rfl rfl b_add_i64) ?_
        refine rC (Calm.move rfl) ?_
        refine arun_nil ?_
        refine athen_n ?_
        refine ⟨(i + 1, L ++ [nn], some (b71, c71), nn), ?_, ?_, ?_, ?_⟩
        all_goals (try dsimp only)
        · exact ⟨sq_, sq_, sq_, sq_, sq_, sq_, trivial⟩
        · exact push_less rfl
        · exact ⟨hi, hLn, by rw [← hmax]; omega, push_ok ho2 rfl⟩
        · omega
      · refine AWP.seq ?_
        refine AWP.region ?_
        refine rC (Calm.move rfl) ?_
        refine rC (Calm.move rfl) ?_
        refine rC (Calm.bin rfl rfl b_gtr) ?_
        refine arun_nil ?_
        refine athen_n ?_
        refine AWP.sub [(5, _), (7, _), (8, _), (10, _), (11, _), (25, _), (26, _), (27, _), (74, _)] ⟨rfl, rfl, rfl, rfl, rfl, rfl, rfl, rfl, rfl, trivial⟩ ?_
        refine AWP.condF rfl (by first | rfl | (simp; done) | (simp; omega)) ?_
        refine AWP.skip ?_
        refine ain_n ?_
        refine athen_n ?_
        refine AWP.region ?_
        refine rC (Calm.bin rfl rfl b_add_i64) ?_
        refine rC (Calm.move rfl) ?_
        refine arun_nil ?_
        refine athen_n ?_
        refine ⟨(i + 1, L ++ [nn], some (b71, c71), mx), ?_, ?_, ?_, ?_⟩
        all_goals (try dsimp only)
        · exact ⟨sq_, sq_, sq_, sq_, sq_, sq_, trivial⟩
        · exact push_less rfl
        · exact ⟨hi, hLn, by rw [← hmax]; omega, push_ok ho2 rfl⟩
        · omega
    · obtain rfl : m = i := by omega
      refine AWP.seq ?_
      refine AWP.region ?_
      refine rC (Calm.bin rfl rfl b_lss) ?_
      refine arun_nil ?_
      refine athen_n ?_
      refine AWP.seq ?_
      refine AWP.condF rfl (by first | rfl | (simp; done) | (simp; omega)) ?_
      have hLr : L = red l := by rw [q2, hm]; rfl
      refine AWP.exit ?_
      refine athen_exit ?_
      refine athen_exit ?_
      refine ain_same ?_
      refine athen_n ?_
      refine AWP.seq ?_
      refine AWP.region ?_
      refine rC (Calm.move rfl) ?_
      refine rC (Calm.move rfl) ?_
      refine rC (Calm.conv rfl (by first | exact conv_intW Try.underlying41 Try.underlying3 (IntWalk.i64_in _ (by omega)) | exact conv_int Try.underlying41 Try.underlying3)) ?_
      refine rC (Calm.assign rfl) ?_
      refine rC (Calm.assign rfl) ?_
      refine rC (Calm.assign rfl) ?_
      refine arun_nil ?_
      refine athen_n ?_
      refine AWP.sub [(5, _), (7, _), (8, _), (25, _), (26, _), (27, _), (28, _), (2, _), (3, _), (4, _)] ⟨rfl, rfl, rfl, rfl, rfl, rfl, rfl, rfl, rfl, rfl, trivial⟩ ?_
      refine AWP.ret ?_
      refine ⟨_, _, ⟨_, _, rfl, ⟨_, _, rfl, ⟨_, _, rfl, rfl, rfl⟩, rfl⟩, rfl⟩, Mem.Less.refl _, ?_⟩
      exact ⟨_, by rw [show mx = many l by rw [q3, hLr]; rfl]; rfl, hSS.trans (outM_over q4), by rw [← hLr]; exact sl_outV q4 rfl (by omega)⟩
  · have er : redP l = [] := if_neg hc
    have em : manyP l = 0 := if_neg hc
    have e1 := chk_no hc
    rw [er, em, e1]
    rw [e1] at hT
    refine ACall.enter (args := [v]) (rs := [.tmp 2, .tmp 3, .tmp 4]) 80 [(0, v)] Try.func20 rfl rfl (Nat.le_of_ble_eq_true rfl) rfl ⟨rfl, trivial⟩ ?_
    refine AWP.seq ?_
    refine AWP.region ?_
    refine rC (Calm.assign rfl) ?_
    refine rC (Calm.assign rfl) ?_
    refine rC (Calm.assign rfl) ?_
    refine arun_nil ?_
    refine athen_n ?_
    refine AWP.seq ?_
    refine AWP.region ?_
    refine rC (Calm.move rfl) ?_
    refine ARun.call (lit_lt rfl) go_18 rfl (hT) ?_
    rintro _ S1 ⟨u, rfl, hSS, hu⟩
    refine rC (Calm.move rfl) ?_
    refine rC (Calm.extract rfl rfl) ?_
    refine rC (Calm.extract rfl rfl) ?_
    refine rC (Calm.assign rfl) ?_
    refine rC (Calm.assign rfl) ?_
    refine arun_nil ?_
    refine athen_n ?_
    refine AWP.sub [(0, _), (2, _), (3, _), (4, _), (5, _), (6, _)] ⟨rfl, rfl, rfl, rfl, rfl, rfl, trivial⟩ ?_
    refine AWP.seq ?_
    refine AWP.seq ?_
    refine AWP.region ?_
    refine rC (Calm.move rfl) ?_
    refine rC (Calm.bin rfl rfl b_neq) ?_
    refine arun_nil ?_
    refine athen_n ?_
    refine AWP.sub [(0, _), (2, _), (3, _), (4, _), (5, _), (6, _), (23, _)] ⟨rfl, rfl, rfl, rfl, rfl, rfl, rfl, trivial⟩ ?_
    refine AWP.condT rfl (by first | rfl | (simp; done) | (simp; omega)) ?_
    refine AWP.seq ?_
    refine AWP.region ?_
    refine rC (Calm.move rfl) ?_
    refine rC (Calm.assign rfl) ?_
    refine rC (Calm.assign rfl) ?_
    refine rC (Calm.assign rfl) ?_
    refine arun_nil ?_
    refine athen_n ?_
    refine AWP.sub [(0, _), (2, _), (3, _), (4, _), (5, _), (6, _), (23, _)] ⟨rfl, rfl, rfl, rfl, rfl, rfl, rfl, trivial⟩ ?_
    refine AWP.ret ?_
    refine athen_ret ?_
    refine ⟨_, S, ⟨_, _, rfl, ⟨_, _, rfl, ⟨_, _, rfl, rfl, rfl⟩, rfl⟩, rfl⟩, hSS, ?_⟩
    exact ⟨_, rfl, Mem.Less.refl _, Sl.nil _ _ _⟩
end Go.Proofs.Ytgidjbpgkeemiaa
