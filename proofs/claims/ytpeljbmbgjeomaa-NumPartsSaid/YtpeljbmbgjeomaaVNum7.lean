/-
  Num: records read by the document.
-/
import Derived.Test.YtpeljbmbgjeomaaVNum6
namespace Go.Proofs.Ytpeljbmbgjeomaa
open Go.RowKit
open Mv Num
set_option linter.unusedVariables false
set_option linter.unusedSimpArgs false
theorem cells_snoc (l : List Nat) (x : Nat) : (l ++ [x]).map (fun n : Nat => Value.int .u64 (n : Int)) = l.map (fun n : Nat => Value.int .u64 (n : Int)) ++ [.int .u64 (x : Int)] := by simp
set_option maxHeartbeats 4000000 in
theorem rnumV_Split (s : ByteArray) (w : Int) (S : Mem) (hs : s.size ≤ 16777216) :
    ACall Try.prog 43 #[.string s, .int .i64 w] S (SplitR s w S) := by
  have hsz := size_list s
  by_cases c1 : w < 1
  · obtain ⟨q1, q2⟩ := splitE_1 s w (.inl c1)
    refine ACall.enter (args := [.string s, .int .i64 w]) (rs := [.tmp 4, .tmp 5]) 55 [(0, .string s), (1, .int .i64 w)] Try.func43 rfl rfl (Nat.le_of_ble_eq_true rfl) rfl ⟨rfl, rfl, trivial⟩ ?_
    refine AWP.seq ?_
    refine AWP.region ?_
    refine rC (Calm.assign rfl) ?_
    refine rC (Calm.assign rfl) ?_
    refine arun_nil ?_
    refine athen_n ?_
    refine AWP.seq ?_
    refine AWP.seq ?_
    refine AWP.region ?_
    refine rC (Calm.move rfl) ?_
    refine rC (Calm.bin rfl rfl b_lss) ?_
    refine rC (Calm.move rfl) ?_
    first | refine rS 12 ?_ | refine rU 12 ?_ | refine rG 12 (Calm.move rfl) ?_
    first | refine rS 12 ?_ | refine rU 12 ?_ | refine rG 12 (Calm.bin rfl rfl b_gtr) ?_
    refine rC ((by first | exact Calm.pickT rfl rfl | exact Calm.pickF rfl rfl)) ?_
    refine arun_nil ?_
    refine athen_n ?_
    refine AWP.sub [(0, _), (1, _), (4, _), (5, _), (15, _)] ⟨rfl, rfl, rfl, rfl, rfl, trivial⟩ ?_
    refine AWP.condT rfl (by first | rfl | (simp; done) | (simp; omega)) ?_
    refine AWP.seq ?_
    refine AWP.region ?_
    refine rC (Calm.assign rfl) ?_
    refine rC (Calm.assign rfl) ?_
    refine arun_nil ?_
    refine athen_n ?_
    refine AWP.ret ?_
    refine athen_ret ?_
    refine ⟨_, S, ⟨_, _, rfl, ⟨_, _, rfl, rfl, rfl⟩, rfl⟩, less_, ?_⟩
    exact ⟨_, by rw [q1]; rfl, Mem.Less.refl _, by rw [q2]; exact SlOf.nil _ _⟩
  by_cases c2 : 8 < w
  · obtain ⟨q1, q2⟩ := splitE_1 s w (.inr c2)
    refine ACall.enter (args := [.string s, .int .i64 w]) (rs := [.tmp 4, .tmp 5]) 55 [(0, .string s), (1, .int .i64 w)] Try.func43 rfl rfl (Nat.le_of_ble_eq_true rfl) rfl ⟨rfl, rfl, trivial⟩ ?_
    refine AWP.seq ?_
    refine AWP.region ?_
    refine rC (Calm.assign rfl) ?_
    refine rC (Calm.assign rfl) ?_
    refine arun_nil ?_
    refine athen_n ?_
    refine AWP.seq ?_
    refine AWP.seq ?_
    refine AWP.region ?_
    refine rC (Calm.move rfl) ?_
    refine rC (Calm.bin rfl rfl b_lss) ?_
    refine rC (Calm.move rfl) ?_
    first | refine rS 12 ?_ | refine rU 12 ?_ | refine rG 12 (Calm.move rfl) ?_
    first | refine rS 12 ?_ | refine rU 12 ?_ | refine rG 12 (Calm.bin rfl rfl b_gtr) ?_
    refine rC ((by first | exact Calm.pickT rfl rfl | exact Calm.pickF rfl rfl)) ?_
    refine arun_nil ?_
    refine athen_n ?_
    refine AWP.sub [(0, _), (1, _), (4, _), (5, _), (15, _)] ⟨rfl, rfl, rfl, rfl, rfl, trivial⟩ ?_
    refine AWP.condT rfl (by first | rfl | (simp; done) | (simp; omega)) ?_
    refine AWP.seq ?_
    refine AWP.region ?_
    refine rC (Calm.assign rfl) ?_
    refine rC (Calm.assign rfl) ?_
    refine arun_nil ?_
    refine athen_n ?_
    refine AWP.ret ?_
    refine athen_ret ?_
    refine ⟨_, S, ⟨_, _, rfl, ⟨_, _, rfl, rfl, rfl⟩, rfl⟩, less_, ?_⟩
    exact ⟨_, by rw [q1]; rfl, Mem.Less.refl _, by rw [q2]; exact SlOf.nil _ _⟩
  obtain ⟨W, rfl⟩ : ∃ W : Nat, w = W := ⟨w.toNat, by omega⟩
  by_cases c3 : s.size % (5 * W) = 0
  · obtain ⟨q1, q2⟩ := splitE_0 s W (by omega) c3
    rw [Int.toNat_natCast] at q2
    obtain ⟨B, hB⟩ : ∃ B, B = 5 * W := ⟨_, rfl⟩
    rw [← hB] at c3 q2
    obtain ⟨Q, hQ⟩ : ∃ Q, Q = s.size / B := ⟨_, rfl⟩
    have hQB : s.size = Q * B := by rw [hQ, Nat.mul_comm]; have := Nat.div_add_mod s.size B; omega
    rw [← hQ] at q2
    have hc3 : ((s.size : Int) % (5 * (W : Int))) = 0 := by rw [show (5 * (W : Int)) = ((B : Nat) : Int) from by omega, ← Int.natCast_emod, c3]; rfl
    refine ACall.enter (args := [.string s, .int .i64 (W : Int)]) (rs := [.tmp 4, .tmp 5]) 55 [(0, .string s), (1, .int .i64 (W : Int))] Try.func43 rfl rfl (Nat.le_of_ble_eq_true rfl) rfl ⟨rfl, rfl, trivial⟩ ?_
    refine AWP.seq ?_
    refine AWP.region ?_
    refine rC (Calm.assign rfl) ?_
    refine rC (Calm.assign rfl) ?_
    refine arun_nil ?_
    refine athen_n ?_
    refine AWP.seq ?_
    refine AWP.seq ?_
    refine AWP.region ?_
    refine rC (Calm.move rfl) ?_
    refine rC (Calm.bin rfl rfl b_lss) ?_
    refine rC (Calm.move rfl) ?_
    first | refine rS 12 ?_ | refine rU 12 ?_ | refine rG 12 (Calm.move rfl) ?_
    first | refine rS 12 ?_ | refine rU 12 ?_ | refine rG 12 (Calm.bin rfl rfl b_gtr) ?_
    refine rC ((by first | exact Calm.pickT rfl rfl | exact Calm.pickF rfl rfl)) ?_
    refine arun_nil ?_
    refine athen_n ?_
    refine AWP.sub [(0, _), (1, _), (4, _), (5, _), (15, _)] ⟨rfl, rfl, rfl, rfl, rfl, trivial⟩ ?_
    refine AWP.condF rfl (by first | rfl | (simp; done) | (simp; omega)) ?_
    refine AWP.skip ?_
    refine athen_n ?_
    refine AWP.seq ?_
    refine AWP.seq ?_
    refine AWP.region ?_
    refine rC (Calm.move rfl) ?_
    refine rC (Calm.lenStr (strT_spec ty_str_9) rfl) ?_
    refine rC (Calm.move rfl) ?_
    refine rC (Calm.bin rfl rfl b_mul_i64) ?_
    refine rC (Calm.bin rfl rfl b_rem) ?_
    refine rC (Calm.bin rfl rfl (bin_bool (bin_neq _ _) (bnot_dec_false hc3))) ?_
    refine arun_nil ?_
    refine athen_n ?_
    refine AWP.sub [(0, _), (1, _), (4, _), (5, _), (15, _), (21, _)] ⟨rfl, rfl, rfl, rfl, rfl, rfl, trivial⟩ ?_
    refine AWP.condF rfl (by first | rfl | (simp; done) | (simp; omega)) ?_
    refine AWP.skip ?_
    refine athen_n ?_
    refine AWP.seq ?_
    refine AWP.region ?_
    refine rC (Calm.assign rfl) ?_
    refine arun_nil ?_
    refine athen_n ?_
    refine AWP.seq ?_
    refine AWP.seq ?_
    refine AWP.region ?_
    refine rC (Calm.assign rfl) ?_
    refine arun_nil ?_
    refine athen_n ?_
    refine AWP.block ?_
    refine AWP.loop (X := Nat × Mem × Option (Nat × Nat) × List Value) (fun x => [(0, .string s), (1, .int .i64 W), (6, outV x.2.2.1 x.2.2.2.length), (7, .int .i64 (x.1 * B : Nat))]) (fun x => outM x.2.1 x.2.2.1 49 x.2.2.2) (fun x => x.1 ≤ Q ∧ x.2.2.2.length = x.1 ∧ GrowI RowR S x.2.1 x.2.2.1 x.2.2.2 (rowsTo s.data.toList W x.1)) (fun x => Q - x.1) ((0, S, none, [])) ⟨rfl, rfl, rfl, some_int (by rw [Nat.zero_mul]; rfl), trivial⟩ (Mem.Less.refl _) (⟨Nat.zero_le _, rfl, GrowI.nil _ _⟩) ?_
    rintro ⟨k, M, o, hs⟩ ⟨hk, hkl, hI⟩
    (try dsimp only at *)
    have hkQ : k * B ≤ Q * B := Nat.mul_le_mul_right _ hk
    have hk5 : k * 5 ≤ k * B := Nat.mul_le_mul_left _ (by omega)
    by_cases hl : k < Q
    · have hkB : (k + 1) * B ≤ Q * B := Nat.mul_le_mul_right _ hl
      rw [Nat.succ_mul] at hkB
      refine AWP.seq ?_
      refine AWP.seq ?_
      refine AWP.region ?_
      refine rC (Calm.move rfl) ?_
      refine rC (Calm.move rfl) ?_
      refine rC (Calm.lenStr (strT_spec ty_str_9) rfl) ?_
      refine rC (Calm.bin rfl rfl b_lss) ?_
      refine arun_nil ?_
      refine athen_n ?_
      refine AWP.sub [(0, _), (1, _), (6, _), (7, _), (25, _)] ⟨rfl, rfl, rfl, rfl, rfl, trivial⟩ ?_
      refine AWP.condT rfl (by first | rfl | (simp; done) | (simp; omega)) ?_
      refine AWP.skip ?_
      refine athen_n ?_
      refine AWP.seq ?_
      refine AWP.block ?_
      refine AWP.seq ?_
      refine AWP.region ?_
      refine rC (Calm.assign rfl) ?_
      refine arun_nil ?_
      refine athen_n ?_
      refine AWP.seq ?_
      refine AWP.seq ?_
      refine AWP.region ?_
      refine rC (Calm.assign rfl) ?_
      refine arun_nil ?_
      refine athen_n ?_
      refine AWP.block ?_
      refine AWP.loop (X := Nat × Option (Nat × Nat)) (fun x => [(0, .string s), (1, .int .i64 W), (6, outV o hs.length), (7, .int .i64 (k * B : Nat)), (8, outV x.2 x.1), (9, .int .i64 x.1)]) (fun x => outM (outM M o 49 hs) x.2 24 ((nrow s.data.toList x.1 (k * B)).map (fun n : Nat => Value.int .u64 (n : Int)))) (fun x => x.1 ≤ W ∧ OkO (outM M o 49 hs) x.2 x.1) (fun x => W - x.1) ((0, none)) ⟨rfl, rfl, rfl, rfl, rfl, rfl, trivial⟩ (Mem.Less.refl _) (⟨Nat.zero_le _, okO_nil _⟩) ?_
      rintro ⟨j, o2⟩ ⟨hj, ho2⟩
      (try dsimp only at *)
      have hnl : ((nrow s.data.toList j (k * B)).map (fun n : Nat => Value.int .u64 (n : Int))).length = j := by rw [List.length_map, nrow_length]
      refine AWP.seq ?_
      refine AWP.seq ?_
      refine AWP.region ?_
      refine rC (Calm.move rfl) ?_
      refine rC (Calm.move rfl) ?_
      refine rC (Calm.bin rfl rfl b_lss) ?_
      refine arun_nil ?_
      refine athen_n ?_
      refine AWP.sub [(0, _), (1, _), (6, _), (7, _), (8, _), (9, _), (32, _)] ⟨rfl, rfl, rfl, rfl, rfl, rfl, rfl, trivial⟩ ?_
      refine AWP.condB rfl (fun hjl => ?_) (fun hjl => ?_)
      · have hjl : j < W := by have := of_decide_eq_true hjl; omega
        have he : s.extract ((k * B : Nat) + 5 * (j : Int)).toNat ((k * B : Nat) + 5 * (j : Int) + 5).toNat = bs ((s.data.toList.drop (k * B + 5 * j)).take 5) := by rw [show ((k * B : Nat) + 5 * (j : Int)).toNat = k * B + 5 * j from by omega, show ((k * B : Nat) + 5 * (j : Int) + 5).toNat = 5 + (k * B + 5 * j) from by omega]; apply str_ext; rw [data_extract, bs_data, List.drop_take, show 5 + (k * B + 5 * j) - (k * B + 5 * j) = 5 from by omega]
        refine AWP.skip ?_
        refine athen_n ?_
        refine AWP.seq ?_
        refine AWP.block ?_
        refine AWP.region ?_
        refine rC (Calm.move rfl) ?_
        refine rC (Calm.move rfl) ?_
        refine rC (Calm.move rfl) ?_
        refine rC (Calm.move rfl) ?_
        refine rC (Calm.bin rfl rfl b_mul_i64) ?_
        refine rC (Calm.bin rfl rfl b_add_i64) ?_
        refine rC (Calm.move rfl) ?_
        refine rC (Calm.move rfl) ?_
        refine rC (Calm.bin rfl rfl b_mul_i64) ?_
        refine rC (Calm.bin rfl rfl b_add_i64) ?_
        refine rC (Calm.bin rfl rfl b_add_i64) ?_
        refine rC (Calm.as (congrArg Value.string he) (Calm.sliceStr (strT_spec ty_str_9) rfl (bnd_some _ _ rfl (by omega) (by omega)) (bnd_some _ _ rfl (by omega) (by omega)))) ?_
        refine ARun.call (lit_lt rfl) go_61 rfl (rnumV_Of _ _ (by rw [bs_size, List.length_take, List.length_drop]; omega)) ?_
        rintro _ S1 ⟨rfl, h1⟩
        rw [h1, bs_data]; clear h1 S1
        refine ARun.build1s (lit_lt rfl) ty_sl_49 rfl rfl ?_
        intro b48 f48
        have g48 := f48
        repeat ((with_reducible replace g48 := fresh_set g48); obtain ⟨g48, _⟩ := g48)
        refine ARun.appendO (lit_lt rfl) ty_sl_49 rfl hnl (appO_of ho2 hnl g48) rfl (news := [_]) rds_ rfl (by omega) (by simp [Value.oneCell']) (by omega) (by omega) ?_
        intro b49 c49 ho3
        rw [← cells_snoc, ← nrow_succ]
        refine rC (Calm.assign rfl) ?_
        refine arun_nil ?_
        refine ain_n ?_
        refine athen_n ?_
        refine AWP.sub [(0, _), (1, _), (6, _), (7, _), (8, _), (9, _), (32, _)] ⟨rfl, rfl, rfl, rfl, rfl, rfl, rfl, trivial⟩ ?_
        refine AWP.region ?_
        refine rC (Calm.move rfl) ?_
        refine rC (Calm.bin rfl rfl b_add_i64) ?_
        refine rC (Calm.assign rfl) ?_
        refine arun_nil ?_
        refine athen_n ?_
        refine ⟨(j + 1, some (b49, c49)), ?_, ?_, ?_, ?_⟩
        all_goals (try dsimp only)
        · exact ⟨rfl, rfl, rfl, rfl, rfl, rfl, trivial⟩
        · exact Mem.Less.refl _
        · exact ⟨hjl, ho3⟩
        · omega
      · have hjl : j = W := by have := of_decide_eq_false hjl; omega
        subst hjl
        have hnr := nrow_length s.data.toList j (k * B)
        obtain ⟨b2, c2, rfl⟩ := ho2.some (by omega)
        obtain ⟨hfb, hcb⟩ := ho2.own b2 c2 rfl
        obtain ⟨hfM, hnq⟩ := fresh_outM hfb
        rw [show outM (outM M o 49 hs) (some (b2, c2)) 24 ((nrow s.data.toList j (k * B)).map (fun n : Nat => Value.int .u64 (n : Int))) = outM (M.set b2 ⟨24, (nrow s.data.toList j (k * B)).map (fun n : Nat => Value.int .u64 (n : Int)), c2⟩) o 49 hs from outM_set _ _ _ _ _ _ hnq]
        have ho1 := hI.ok.set (r := ⟨24, (nrow s.data.toList j (k * B)).map (fun n : Nat => Value.int .u64 (n : Int)), c2⟩) hnq
        have hr := sl_u64 (S := M.set b2 ⟨24, (nrow s.data.toList j (k * B)).map (fun n : Nat => Value.int .u64 (n : Int)), c2⟩) (cap := c2) (Mem.own_set_same _ _ _) hnr hcb (by omega)
        have hlm := Mem.less_set M b2 ⟨24, (nrow s.data.toList j (k * B)).map (fun n : Nat => Value.int .u64 (n : Int)), c2⟩ hfM.1
        obtain ⟨M1, hM1⟩ : ∃ M1, M1 = M.set b2 ⟨24, (nrow s.data.toList j (k * B)).map (fun n : Nat => Value.int .u64 (n : Int)), c2⟩ := ⟨_, rfl⟩
        rw [← hM1] at ho1 hr hlm ⊢
        refine AWP.exit ?_
        refine athen_exit ?_
        refine athen_exit ?_
        refine ain_same ?_
        refine athen_n ?_
        refine AWP.region ?_
        refine rC (Calm.move rfl) ?_
        refine rC (Calm.move rfl) ?_
        refine ARun.build1s (lit_lt rfl) ty_sl_51 rfl rfl ?_
        intro b52 f52
        have g52 := f52
        repeat ((with_reducible replace g52 := fresh_set g52); obtain ⟨g52, _⟩ := g52)
        refine ARun.appendO (lit_lt rfl) ty_sl_51 rfl rfl (appO_of ho1 rfl g52) rfl (news := [_]) rds_ rfl (by omega) (by simp [Value.oneCell', outV]) (by omega) (by omega) ?_
        intro b53 c53 hoo
        have hI2 := hI.step rowR_less hlm hr hoo
        rw [show k * B = k * (5 * j) from by rw [hB], ← rowsTo_succ] at hI2
        refine rC (Calm.assign rfl) ?_
        refine arun_nil ?_
        refine ain_n ?_
        refine athen_n ?_
        refine AWP.sub [(0, _), (1, _), (6, _), (7, _), (8, _), (9, _), (32, _)] ⟨rfl, rfl, rfl, rfl, rfl, rfl, rfl, trivial⟩ ?_
        refine AWP.region ?_
        refine rC (Calm.move rfl) ?_
        refine rC (Calm.move rfl) ?_
        refine rC (Calm.bin rfl rfl b_mul_i64) ?_
        refine rC (Calm.bin rfl rfl b_add_i64) ?_
        refine rC (Calm.assign rfl) ?_
        refine arun_nil ?_
        refine athen_n ?_
        refine ⟨(k + 1, M1, some (b53, c53), hs ++ [.slice (some ⟨b2, 0, none⟩) j c2]), ?_, ?_, ?_, ?_⟩
        all_goals (try dsimp only)
        · exact ⟨rfl, rfl, by rw [List.length_append]; rfl, some_int (by rw [Nat.succ_mul]; omega), trivial⟩
        · exact Mem.Less.refl _
        · exact ⟨hl, by rw [List.length_append, hkl]; rfl, hI2⟩
        · omega
    · have hkQ2 : k = Q := by omega
      subst hkQ2
      refine AWP.seq ?_
      refine AWP.seq ?_
      refine AWP.region ?_
      refine rC (Calm.move rfl) ?_
      refine rC (Calm.move rfl) ?_
      refine rC (Calm.lenStr (strT_spec ty_str_9) rfl) ?_
      refine rC (Calm.bin rfl rfl b_lss) ?_
      refine arun_nil ?_
      refine athen_n ?_
      refine AWP.sub [(0, _), (1, _), (6, _), (7, _), (25, _)] ⟨rfl, rfl, rfl, rfl, rfl, trivial⟩ ?_
      refine AWP.condF rfl (by first | rfl | (simp; done) | (simp; omega)) ?_
      refine AWP.exit ?_
      refine athen_exit ?_
      refine athen_exit ?_
      refine ain_same ?_
      refine athen_n ?_
      refine AWP.seq ?_
      refine AWP.region ?_
      refine rC (Calm.move rfl) ?_
      refine rC (Calm.assign rfl) ?_
      refine rC (Calm.assign rfl) ?_
      refine arun_nil ?_
      refine athen_n ?_
      refine AWP.sub [(0, _), (1, _), (6, _), (7, _), (25, _), (4, _), (5, _)] ⟨rfl, rfl, rfl, rfl, rfl, rfl, rfl, trivial⟩ ?_
      refine AWP.ret ?_
      refine ⟨_, _, ⟨_, _, rfl, ⟨_, _, rfl, rfl, rfl⟩, rfl⟩, less_, ?_⟩
      exact ⟨_, by rw [q1]; rfl, hI.less.trans (outM_over hI.ok), by rw [q2]; exact hI.slOf rowR_less (by omega)⟩
  · obtain ⟨q1, q2⟩ := splitE_5 s W (by omega) (by rw [Int.toNat_natCast]; exact c3)
    have hc3 : ¬ ((s.size : Int) % (5 * (W : Int))) = 0 := by rw [show (5 * (W : Int)) = ((5 * W : Nat) : Int) from by omega, ← Int.natCast_emod]; omega
    refine ACall.enter (args := [.string s, .int .i64 (W : Int)]) (rs := [.tmp 4, .tmp 5]) 55 [(0, .string s), (1, .int .i64 (W : Int))] Try.func43 rfl rfl (Nat.le_of_ble_eq_true rfl) rfl ⟨rfl, rfl, trivial⟩ ?_
    refine AWP.seq ?_
    refine AWP.region ?_
    refine rC (Calm.assign rfl) ?_
    refine rC (Calm.assign rfl) ?_
    refine arun_nil ?_
    refine athen_n ?_
    refine AWP.seq ?_
    refine AWP.seq ?_
    refine AWP.region ?_
    refine rC (Calm.move rfl) ?_
    refine rC (Calm.bin rfl rfl b_lss) ?_
    refine rC (Calm.move rfl) ?_
    first | refine rS 12 ?_ | refine rU 12 ?_ | refine rG 12 (Calm.move rfl) ?_
    first | refine rS 12 ?_ | refine rU 12 ?_ | refine rG 12 (Calm.bin rfl rfl b_gtr) ?_
    refine rC ((by first | exact Calm.pickT rfl rfl | exact Calm.pickF rfl rfl)) ?_
    refine arun_nil ?_
    refine athen_n ?_
    refine AWP.sub [(0, _), (1, _), (4, _), (5, _), (15, _)] ⟨rfl, rfl, rfl, rfl, rfl, trivial⟩ ?_
    refine AWP.condF rfl (by first | rfl | (simp; done) | (simp; omega)) ?_
    refine AWP.skip ?_
    refine athen_n ?_
    refine AWP.seq ?_
    refine AWP.seq ?_
    refine AWP.region ?_
    refine rC (Calm.move rfl) ?_
    refine rC (Calm.lenStr (strT_spec ty_str_9) rfl) ?_
    refine rC (Calm.move rfl) ?_
    refine rC (Calm.bin rfl rfl b_mul_i64) ?_
    refine rC (Calm.bin rfl rfl b_rem) ?_
    refine rC (Calm.bin rfl rfl (bin_bool (bin_neq _ _) (bnot_dec_true hc3))) ?_
    refine arun_nil ?_
    refine athen_n ?_
    refine AWP.sub [(0, _), (1, _), (4, _), (5, _), (15, _), (21, _)] ⟨rfl, rfl, rfl, rfl, rfl, rfl, trivial⟩ ?_
    refine AWP.condT rfl (by first | rfl | (simp; done) | (simp; omega)) ?_
    refine AWP.seq ?_
    refine AWP.region ?_
    refine rC (Calm.assign rfl) ?_
    refine rC (Calm.assign rfl) ?_
    refine arun_nil ?_
    refine athen_n ?_
    refine AWP.ret ?_
    refine athen_ret ?_
    refine ⟨_, S, ⟨_, _, rfl, ⟨_, _, rfl, rfl, rfl⟩, rfl⟩, less_, ?_⟩
    exact ⟨_, by rw [q1]; rfl, Mem.Less.refl _, by rw [q2]; exact SlOf.nil _ _⟩
end Go.Proofs.Ytpeljbmbgjeomaa
