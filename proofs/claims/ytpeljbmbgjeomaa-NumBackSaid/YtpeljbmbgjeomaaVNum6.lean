/-
  Num: records read, by the program and by the document.
-/
import Derived.Test.YtpeljbmbgjeomaaVNum5
namespace Go.Proofs.Ytpeljbmbgjeomaa
open Go.RowKit
open Mv Num
set_option linter.unusedVariables false
set_option linter.unusedSimpArgs false
/-- What a split returns: rows that are known, and why. -/
def SplitR (s : ByteArray) (w : Int) (S : Mem) (r : Value) (S' : Mem) : Prop := ∃ v, r = .tuple #[v, .int .i64 (splitE s w)] ∧ S.Less S' ∧ SlOf RowR S' v (splitL s w)
theorem splitE_1 (s : ByteArray) (w : Int) (h : w < 1 ∨ 8 < w) : splitE s w = 1 ∧ splitL s w = [] := by
  have : splitE s w = 1 := by unfold splitE; rw [if_pos h]
  exact ⟨this, by unfold splitL; rw [this]; rfl⟩
theorem splitE_5 (s : ByteArray) (w : Int) (h : ¬ (w < 1 ∨ 8 < w)) (h2 : s.size % (5 * w.toNat) ≠ 0) : splitE s w = 5 ∧ splitL s w = [] := by
  have : splitE s w = 5 := by unfold splitE; rw [if_neg h, if_pos h2]
  exact ⟨this, by unfold splitL; rw [this]; rfl⟩
theorem splitE_0 (s : ByteArray) (w : Int) (h : ¬ (w < 1 ∨ 8 < w)) (h2 : s.size % (5 * w.toNat) = 0) : splitE s w = 0 ∧ splitL s w = rowsTo s.data.toList w.toNat (s.size / (5 * w.toNat)) := by
  have : splitE s w = 0 := by unfold splitE; rw [if_neg h, if_neg (by omega)]
  exact ⟨this, by unfold splitL; rw [this, if_pos rfl, rowsOf, size_data]⟩
/-- A row that is being read: its numbers, and zeros behind them. -/
def rowZ (l : List UInt8) (w p j : Nat) : List Value := (nrow l j p).map (fun n : Nat => Value.int .u64 (n : Int)) ++ List.replicate (w - j) (.int .u64 0)
theorem nrow_length (l : List UInt8) (w p : Nat) : (nrow l w p).length = w := by simp [nrow]
theorem nrow_succ (l : List UInt8) (w p : Nat) : nrow l (w + 1) p = nrow l w p ++ [ofB ((l.drop (p + 5 * w)).take 5)] := by simp [nrow, List.range_succ]
theorem rowZ_length (l : List UInt8) (w p j : Nat) (h : j ≤ w) : (rowZ l w p j).length = w := by simp [rowZ, nrow_length]; omega
theorem rowZ_set (l : List UInt8) (w p j : Nat) (h : j < w) : (rowZ l w p j).set j (.int .u64 (ofB ((l.drop (p + 5 * j)).take 5) : Nat)) = rowZ l w p (j + 1) := by
  unfold rowZ
  obtain ⟨m, hm⟩ : ∃ m, w - j = m + 1 := ⟨w - j - 1, by omega⟩
  rw [hm, List.set_append_right _ _ (by simp [nrow_length]), List.replicate_succ]
  simp only [List.length_map, nrow_length, Nat.sub_self, List.set_cons_zero, nrow_succ, List.map_append, List.append_assoc, show w - (j + 1) = m from by omega]
  rfl
theorem rowZ_full (l : List UInt8) (w p : Nat) : rowZ l w p w = (nrow l w p).map (fun n : Nat => Value.int .u64 (n : Int)) := by simp [rowZ]
theorem rowZ_zero (l : List UInt8) (w p : Nat) : rowZ l w p 0 = List.replicate w (.int .u64 0) := by simp [rowZ, nrow]
theorem bs_extract (l : List UInt8) (j : Nat) : (bs l).extract j (bs l).size = bs (l.drop j) := by rw [bs_drop, bs_data]
set_option maxHeartbeats 4000000 in
theorem numV_Split (s : ByteArray) (w : Int) (S : Mem) (hs : s.size ≤ 16777216) :
    ACall Try.prog 42 #[.string s, .int .i64 w] S (SplitR s w S) := by
  have hsz := size_list s
  by_cases c1 : w < 1
  · obtain ⟨q1, q2⟩ := splitE_1 s w (.inl c1)
    refine ACall.enter (args := [.string s, .int .i64 w]) (rs := [.tmp 4, .tmp 5]) 50 [(0, .string s), (1, .int .i64 w)] Try.func42 rfl rfl (Nat.le_of_ble_eq_true rfl) rfl ⟨rfl, rfl, trivial⟩ ?_
    refine AWP.seq ?_
    refine AWP.region ?_
    refine rC (Calm.assign rfl) ?_
    refine rC (Calm.assign rfl) ?_
    refine arun_nil ?_
    refine athen_n ?_
    refine AWP.seq ?_
    refine AWP.block ?_
    refine AWP.seq ?_
    refine AWP.region ?_
    refine rC (Calm.move rfl) ?_
    refine rC (Calm.bin rfl rfl b_lss) ?_
    refine rC (Calm.move rfl) ?_
    first | refine rS 12 ?_ | refine rU 12 ?_ | refine rG 12 (Calm.move rfl) ?_
    first | refine rS 12 ?_ | refine rU 12 ?_ | refine rG 12 (Calm.bin rfl rfl b_gtr) ?_
    refine rC ((by first | exact Calm.pickT rfl rfl | exact Calm.pickF rfl rfl)) ?_
    refine rC (Calm.assign rfl) ?_
    refine arun_nil ?_
    refine athen_n ?_
    refine AWP.sub [(0, _), (1, _), (4, _), (5, _), (9, _)] ⟨rfl, rfl, rfl, rfl, rfl, trivial⟩ ?_
    refine AWP.condT rfl (by first | rfl | (simp; done) | (simp; omega)) ?_
    refine AWP.seq ?_
    refine AWP.region ?_
    refine rC (Calm.assign rfl) ?_
    refine rC (Calm.assign rfl) ?_
    refine arun_nil ?_
    refine athen_n ?_
    refine AWP.ret ?_
    refine ain_ret ?_
    refine athen_ret ?_
    refine ⟨_, S, ⟨_, _, rfl, ⟨_, _, rfl, rfl, rfl⟩, rfl⟩, less_, ?_⟩
    exact ⟨_, by rw [q1]; rfl, Mem.Less.refl _, by rw [q2]; exact SlOf.nil _ _⟩
  by_cases c2 : 8 < w
  · obtain ⟨q1, q2⟩ := splitE_1 s w (.inr c2)
    refine ACall.enter (args := [.string s, .int .i64 w]) (rs := [.tmp 4, .tmp 5]) 50 [(0, .string s), (1, .int .i64 w)] Try.func42 rfl rfl (Nat.le_of_ble_eq_true rfl) rfl ⟨rfl, rfl, trivial⟩ ?_
    refine AWP.seq ?_
    refine AWP.region ?_
    refine rC (Calm.assign rfl) ?_
    refine rC (Calm.assign rfl) ?_
    refine arun_nil ?_
    refine athen_n ?_
    refine AWP.seq ?_
    refine AWP.block ?_
    refine AWP.seq ?_
    refine AWP.region ?_
    refine rC (Calm.move rfl) ?_
    refine rC (Calm.bin rfl rfl b_lss) ?_
    refine rC (Calm.move rfl) ?_
    first | refine rS 12 ?_ | refine rU 12 ?_ | refine rG 12 (Calm.move rfl) ?_
    first | refine rS 12 ?_ | refine rU 12 ?_ | refine rG 12 (Calm.bin rfl rfl b_gtr) ?_
    refine rC ((by first | exact Calm.pickT rfl rfl | exact Calm.pickF rfl rfl)) ?_
    refine rC (Calm.assign rfl) ?_
    refine arun_nil ?_
    refine athen_n ?_
    refine AWP.sub [(0, _), (1, _), (4, _), (5, _), (9, _)] ⟨rfl, rfl, rfl, rfl, rfl, trivial⟩ ?_
    refine AWP.condT rfl (by first | rfl | (simp; done) | (simp; omega)) ?_
    refine AWP.seq ?_
    refine AWP.region ?_
    refine rC (Calm.assign rfl) ?_
    refine rC (Calm.assign rfl) ?_
    refine arun_nil ?_
    refine athen_n ?_
    refine AWP.ret ?_
    refine ain_ret ?_
    refine athen_ret ?_
    refine ⟨_, S, ⟨_, _, rfl, ⟨_, _, rfl, rfl, rfl⟩, rfl⟩, less_, ?_⟩
    exact ⟨_, by rw [q1]; rfl, Mem.Less.refl _, by rw [q2]; exact SlOf.nil _ _⟩
  obtain ⟨W, rfl⟩ : ∃ W : Nat, w = W := ⟨w.toNat, by omega⟩
  by_cases c3 : s.size % (5 * W) = 0
  · obtain ⟨q1, q2⟩ := splitE_0 s W (by omega) c3
    rw [Int.toNat_natCast] at q2
    obtain ⟨B, hB⟩ : ∃ B, B = 5 * W := ⟨_, rfl⟩
    rw [← hB] at c3 q2
    obtain ⟨Q, hQ⟩ : ∃ Q, Q = s.size / B := ⟨_, rfl⟩
    have hQB : s.size = Q * B := by rw [hQ, Nat.mul_comm]; have := Nat.div_add_mod s.size B; omega
    rw [← hQ] at q2
    have hc3 : ((s.size : Int) % (5 * (W : Int))) = 0 := by rw [show (5 * (W : Int)) = ((B : Nat) : Int) from by omega, ← Int.natCast_emod, c3]; rfl
    refine ACall.enter (args := [.string s, .int .i64 (W : Int)]) (rs := [.tmp 4, .tmp 5]) 50 [(0, .string s), (1, .int .i64 (W : Int))] Try.func42 rfl rfl (Nat.le_of_ble_eq_true rfl) rfl ⟨rfl, rfl, trivial⟩ ?_
    refine AWP.seq ?_
    refine AWP.region ?_
    refine rC (Calm.assign rfl) ?_
    refine rC (Calm.assign rfl) ?_
    refine arun_nil ?_
    refine athen_n ?_
    refine AWP.seq ?_
    refine AWP.block ?_
    refine AWP.seq ?_
    refine AWP.region ?_
    refine rC (Calm.move rfl) ?_
    refine rC (Calm.bin rfl rfl b_lss) ?_
    refine rC (Calm.move rfl) ?_
    first | refine rS 12 ?_ | refine rU 12 ?_ | refine rG 12 (Calm.move rfl) ?_
    first | refine rS 12 ?_ | refine rU 12 ?_ | refine rG 12 (Calm.bin rfl rfl b_gtr) ?_
    refine rC ((by first | exact Calm.pickT rfl rfl | exact Calm.pickF rfl rfl)) ?_
    refine rC (Calm.assign rfl) ?_
    refine arun_nil ?_
    refine athen_n ?_
    refine AWP.sub [(0, _), (1, _), (4, _), (5, _), (9, _)] ⟨rfl, rfl, rfl, rfl, rfl, trivial⟩ ?_
    refine AWP.condF rfl (by first | rfl | (simp; done) | (simp; omega)) ?_
    refine AWP.seq ?_
    refine AWP.region ?_
    refine rC (Calm.move rfl) ?_
    refine rC (Calm.lenStr (strT_spec ty_str_9) rfl) ?_
    refine rC (Calm.move rfl) ?_
    refine rC (Calm.bin rfl rfl b_mul_i64) ?_
    refine rC (Calm.bin rfl rfl b_rem) ?_
    refine rC (Calm.bin rfl rfl (bin_bool (bin_neq _ _) (bnot_dec_false hc3))) ?_
    refine rC (Calm.assign rfl) ?_
    refine arun_nil ?_
    refine athen_n ?_
    refine AWP.sub [(0, _), (1, _), (4, _), (5, _), (9, _), (16, _)] ⟨rfl, rfl, rfl, rfl, rfl, rfl, trivial⟩ ?_
    refine AWP.condF rfl (by first | rfl | (simp; done) | (simp; omega)) ?_
    refine AWP.skip ?_
    refine ain_n ?_
    refine athen_n ?_
    refine AWP.seq ?_
    refine AWP.region ?_
    refine rC (Calm.assign rfl) ?_
    refine arun_nil ?_
    refine athen_n ?_
    refine AWP.seq ?_
    refine AWP.block ?_
    refine AWP.loop (X := Nat × Mem × Option (Nat × Nat) × List Value) (fun x => [(0, .string (bs (s.data.toList.drop (x.1 * B)))), (1, .int .i64 W), (6, outV x.2.2.1 x.2.2.2.length)]) (fun x => outM x.2.1 x.2.2.1 49 x.2.2.2) (fun x => x.1 ≤ Q ∧ x.2.2.2.length = x.1 ∧ GrowI RowR S x.2.1 x.2.2.1 x.2.2.2 (rowsTo s.data.toList W x.1)) (fun x => Q - x.1) ((0, S, none, [])) ⟨by rw [Nat.zero_mul, List.drop_zero, bs_of]; rfl, rfl, rfl, trivial⟩ (Mem.Less.refl _) (⟨Nat.zero_le _, rfl, GrowI.nil _ _⟩) ?_
    rintro ⟨k, M, o, hs⟩ ⟨hk, hkl, hI⟩
    (try dsimp only at *)
    have hkQ : k * B ≤ Q * B := Nat.mul_le_mul_right _ hk
    have hk5 : k * 5 ≤ k * B := Nat.mul_le_mul_left _ (by omega)
    have hlen : (s.data.toList.drop (k * B)).length = s.size - k * B := by rw [List.length_drop]; omega
    obtain ⟨R, hR⟩ : ∃ R, R = s.data.toList.drop (k * B) := ⟨_, rfl⟩
    rw [← hR] at hlen ⊢
    have hRs := bs_size R
    by_cases hl : k < Q
    · have hkB : (k + 1) * B ≤ Q * B := Nat.mul_le_mul_right _ hl
      rw [Nat.succ_mul] at hkB
      refine AWP.seq ?_
      refine AWP.seq ?_
      refine AWP.region ?_
      refine rC (Calm.move rfl) ?_
      refine rC (Calm.bin rfl rfl (bin_bool (bin_str_neq _ _) (bnot_dec_true (fun e => by have h0 : R.length = 0 := (by rw [← bs_size R, e]; rfl); omega)))) ?_
      refine arun_nil ?_
      refine athen_n ?_
      refine AWP.sub [(0, _), (1, _), (6, _), (24, _)] ⟨rfl, rfl, rfl, rfl, trivial⟩ ?_
      refine AWP.condT rfl (by first | rfl | (simp; done) | (simp; omega)) ?_
      refine AWP.skip ?_
      refine athen_n ?_
      refine AWP.seq ?_
      refine AWP.block ?_
      refine AWP.seq ?_
      refine AWP.region ?_
      refine rC (Calm.move rfl) ?_
      refine ARun.makeSlice (lit_lt rfl) ty_sl_49 rfl rfl (by omega) (by omega) (by omega) (by omega) ?_
      intro b30 f30
      have g30 := f30
      repeat ((with_reducible replace g30 := fresh_set g30); obtain ⟨g30, _⟩ := g30)
      refine rC (Calm.assign rfl) ?_
      refine arun_nil ?_
      refine athen_n ?_
      refine AWP.sub [(0, _), (1, _), (6, _), (24, _), (7, _)] ⟨rfl, rfl, rfl, rfl, rfl, trivial⟩ ?_
      simp only [Nat.mul_one, madeL_one, Int.toNat_natCast]
      obtain ⟨hfM, hnq⟩ := fresh_outM f30
      refine AWP.seq ?_
      refine AWP.seq ?_
      refine AWP.region ?_
      refine rC (Calm.move rfl) ?_
      refine rC (Calm.lenSl Try.underlying49 rfl) ?_
      refine rC (Calm.move rfl) ?_
      refine arun_nil ?_
      refine athen_n ?_
      refine AWP.sub [(0, _), (1, _), (6, _), (24, _), (7, _), (32, _), (33, _)] ⟨rfl, rfl, rfl, rfl, rfl, rfl, rfl, trivial⟩ ?_
      refine AWP.block ?_
      refine AWP.loop (X := Nat) (fun x => [(0, .string (bs R)), (1, .int .i64 W), (6, outV o hs.length), (7, .slice (some ⟨b30, 0, none⟩) W W), (32, .int .i64 W), (33, .int .i64 x)]) (fun x => (outM M o 49 hs).set b30 ⟨24, rowZ s.data.toList W (k * B) x, W⟩) (fun x => x ≤ W) (fun x => W - x) (0) ⟨rfl, rfl, rfl, rfl, rfl, rfl, trivial⟩ (by simp only [rowZ_zero]; exact Mem.Less.refl _) (Nat.zero_le _) ?_
      rintro j hj
      (try dsimp only at *)
      refine AWP.seq ?_
      refine AWP.region ?_
      refine rC (Calm.bin rfl rfl b_lss) ?_
      refine arun_nil ?_
      refine athen_n ?_
      refine AWP.seq ?_
      refine AWP.condB rfl (fun hjl => ?_) (fun hjl => ?_)
      · have hjl : j < W := by have := of_decide_eq_true hjl; omega
        have hzl := rowZ_length s.data.toList W (k * B) j hj
        have he : (bs R).extract (5 * (j : Int)).toNat (bs R).size = bs (s.data.toList.drop (k * B + 5 * j)) := by rw [show (5 * (j : Int)).toNat = 5 * j from by omega, bs_extract, hR, List.drop_drop]
        have hel := bs_size (s.data.toList.drop (k * B + 5 * j))
        rw [List.length_drop] at hel
        refine AWP.skip ?_
        refine athen_n ?_
        refine AWP.seq ?_
        refine AWP.block ?_
        refine AWP.seq ?_
        refine AWP.region ?_
        refine rC (Calm.move rfl) ?_
        refine rC (Calm.assign rfl) ?_
        refine arun_nil ?_
        refine athen_n ?_
        refine AWP.sub [(0, _), (1, _), (6, _), (7, _), (32, _), (33, _), (34, _), (8, _)] ⟨rfl, rfl, rfl, rfl, rfl, rfl, rfl, rfl, trivial⟩ ?_
        refine AWP.region ?_
        refine rC (Calm.move rfl) ?_
        refine rC (Calm.move rfl) ?_
        refine rC (Calm.move rfl) ?_
        refine rC (Calm.move rfl) ?_
        refine rC (Calm.bin rfl rfl b_mul_i64) ?_
        refine rC (Calm.as (congrArg Value.string he) (Calm.sliceStr (strT_spec ty_str_9) rfl (bnd_none _ _) (bnd_some _ _ rfl (by omega) (by omega)))) ?_
        refine ARun.call (lit_lt rfl) go_60 rfl (numV_Of (bs (s.data.toList.drop (k * B + 5 * j))) _ (by omega) (by omega)) ?_
        rintro _ S1 ⟨rfl, h1⟩
        rw [h1, bs_data]; clear h1 S1
        refine rC (Calm.indexS Try.underlying49 ty_size_24 rfl rfl (by omega) (by omega)) ?_
        refine ARun.store1 rfl rfl ty_size_24 rfl own_ lens_ rfl ?_
        (try simp only [Mem.set_set, List.set_cons_zero, List.set_cons_succ, Nat.zero_add, Nat.reduceAdd])
        refine arun_nil ?_
        refine ain_n ?_
        refine athen_n ?_
        refine AWP.sub [(0, _), (1, _), (6, _), (7, _), (32, _), (33, _), (34, _), (8, _)] ⟨rfl, rfl, rfl, rfl, rfl, rfl, rfl, rfl, trivial⟩ ?_
        simp only [Nat.zero_add, Nat.mul_one, Int.toNat_natCast, rowZ_set _ _ _ _ hjl]
        refine AWP.region ?_
        refine rC (Calm.bin rfl rfl b_add_i64) ?_
        refine rC (Calm.move rfl) ?_
        refine arun_nil ?_
        refine athen_n ?_
        refine ⟨j + 1, ?_, ?_, ?_, ?_⟩
        all_goals (try dsimp only)
        · exact ⟨rfl, rfl, rfl, rfl, rfl, rfl, trivial⟩
        · exact Mem.Less.refl _
        · exact hjl
        · omega
      · have hjl : j = W := by have := of_decide_eq_false hjl; omega
        subst hjl
        rw [rowZ_full]
        have hnr := nrow_length s.data.toList j (k * B)
        rw [outM_set _ _ _ _ _ _ hnq]
        have ho1 := hI.ok.set (r := ⟨24, (nrow s.data.toList j (k * B)).map (fun n : Nat => Value.int .u64 (n : Int)), j⟩) hnq
        have hr := sl_u64 (S := M.set b30 ⟨24, (nrow s.data.toList j (k * B)).map (fun n : Nat => Value.int .u64 (n : Int)), j⟩) (cap := j) (Mem.own_set_same _ _ _) hnr (Nat.le_refl _) (by omega)
        have hlm := Mem.less_set M b30 ⟨24, (nrow s.data.toList j (k * B)).map (fun n : Nat => Value.int .u64 (n : Int)), j⟩ hfM.1
        obtain ⟨M1, hM1⟩ : ∃ M1, M1 = M.set b30 ⟨24, (nrow s.data.toList j (k * B)).map (fun n : Nat => Value.int .u64 (n : Int)), j⟩ := ⟨_, rfl⟩
        rw [← hM1] at ho1 hr hlm ⊢
        refine AWP.exit ?_
        refine athen_exit ?_
        refine athen_exit ?_
        refine ain_same ?_
        refine athen_n ?_
        refine AWP.region ?_
        refine rC (Calm.move rfl) ?_
        refine rC (Calm.move rfl) ?_
        refine ARun.build1s (lit_lt rfl) ty_sl_51 rfl rfl ?_
        intro b47 f47
        have g47 := f47
        repeat ((with_reducible replace g47 := fresh_set g47); obtain ⟨g47, _⟩ := g47)
        refine ARun.appendO (lit_lt rfl) ty_sl_51 rfl rfl (appO_of ho1 rfl g47) rfl (news := [_]) rds_ rfl (by omega) (by simp [Value.oneCell']) (by omega) (by omega) ?_
        intro b48 c48 ho2
        have hI2 := hI.step rowR_less hlm hr ho2
        rw [show k * B = k * (5 * j) from by rw [hB], ← rowsTo_succ] at hI2
        have hst2 : (bs R).extract (5 * (j : Int)).toNat (bs R).size = bs (s.data.toList.drop ((k + 1) * B)) := by rw [show (5 * (j : Int)).toNat = B from by omega, bs_extract, hR, List.drop_drop, Nat.succ_mul]
        refine rC (Calm.assign rfl) ?_
        refine arun_nil ?_
        refine ain_n ?_
        refine athen_n ?_
        refine AWP.sub [(0, _), (1, _), (6, _), (7, _), (32, _), (33, _), (34, _)] ⟨rfl, rfl, rfl, rfl, rfl, rfl, rfl, trivial⟩ ?_
        refine AWP.region ?_
        refine rC (Calm.move rfl) ?_
        refine rC (Calm.move rfl) ?_
        refine rC (Calm.bin rfl rfl b_mul_i64) ?_
        refine rC (Calm.as (congrArg Value.string hst2) (Calm.sliceStr (strT_spec ty_str_9) rfl (bnd_none _ _) (bnd_some _ _ rfl (by omega) (by omega)))) ?_
        refine rC (Calm.assign rfl) ?_
        refine arun_nil ?_
        refine athen_n ?_
        refine ⟨(k + 1, M1, some (b48, c48), hs ++ [.slice (some ⟨b30, 0, none⟩) j j]), ?_, ?_, ?_, ?_⟩
        all_goals (try dsimp only)
        · exact ⟨rfl, rfl, by rw [List.length_append]; rfl, trivial⟩
        · exact Mem.Less.refl _
        · exact ⟨hl, by rw [List.length_append, hkl]; rfl, hI2⟩
        · omega
    · have hkQ2 : k = Q := by omega
      subst hkQ2
      have hR0 : R = [] := List.eq_nil_of_length_eq_zero (by omega)
      refine AWP.seq ?_
      refine AWP.seq ?_
      refine AWP.region ?_
      refine rC (Calm.move rfl) ?_
      refine rC (Calm.bin rfl rfl (bin_bool (bin_str_neq _ _) (bnot_dec_false (by rw [hR0]; rfl)))) ?_
      refine arun_nil ?_
      refine athen_n ?_
      refine AWP.sub [(0, _), (1, _), (6, _), (24, _)] ⟨rfl, rfl, rfl, rfl, trivial⟩ ?_
      refine AWP.condF rfl (by first | rfl | (simp; done) | (simp; omega)) ?_
      refine AWP.exit ?_
      refine athen_exit ?_
      refine athen_exit ?_
      refine ain_same ?_
      refine athen_n ?_
      refine AWP.seq ?_
      refine AWP.region ?_
      refine rC (Calm.move rfl) ?_
      refine rC (Calm.assign rfl) ?_
      refine rC (Calm.assign rfl) ?_
      refine arun_nil ?_
      refine athen_n ?_
      refine AWP.sub [(0, _), (1, _), (6, _), (24, _), (4, _), (5, _)] ⟨rfl, rfl, rfl, rfl, rfl, rfl, trivial⟩ ?_
      refine AWP.ret ?_
      refine ⟨_, _, ⟨_, _, rfl, ⟨_, _, rfl, rfl, rfl⟩, rfl⟩, less_, ?_⟩
      exact ⟨_, by rw [q1]; rfl, hI.less.trans (outM_over hI.ok), by rw [q2]; exact hI.slOf rowR_less (by omega)⟩
  · obtain ⟨q1, q2⟩ := splitE_5 s W (by omega) (by rw [Int.toNat_natCast]; exact c3)
    have hc3 : ¬ ((s.size : Int) % (5 * (W : Int))) = 0 := by rw [show (5 * (W : Int)) = ((5 * W : Nat) : Int) from by omega, ← Int.natCast_emod]; omega
    refine ACall.enter (args := [.string s, .int .i64 (W : Int)]) (rs := [.tmp 4, .tmp 5]) 50 [(0, .string s), (1, .int .i64 (W : Int))] Try.func42 rfl rfl (Nat.le_of_ble_eq_true rfl) rfl ⟨rfl, rfl, trivial⟩ ?_
    refine AWP.seq ?_
    refine AWP.region ?_
    refine rC (Calm.assign rfl) ?_
    refine rC (Calm.assign rfl) ?_
    refine arun_nil ?_
    refine athen_n ?_
    refine AWP.seq ?_
    refine AWP.block ?_
    refine AWP.seq ?_
    refine AWP.region ?_
    refine rC (Calm.move rfl) ?_
    refine rC (Calm.bin rfl rfl b_lss) ?_
    refine rC (Calm.move rfl) ?_
    first | refine rS 12 ?_ | refine rU 12 ?_ | refine rG 12 (Calm.move rfl) ?_
    first | refine rS 12 ?_ | refine rU 12 ?_ | refine rG 12 (Calm.bin rfl rfl b_gtr) ?_
    refine rC ((by first | exact Calm.pickT rfl rfl | exact Calm.pickF rfl rfl)) ?_
    refine rC (Calm.assign rfl) ?_
    refine arun_nil ?_
    refine athen_n ?_
    refine AWP.sub [(0, _), (1, _), (4, _), (5, _), (9, _)] ⟨rfl, rfl, rfl, rfl, rfl, trivial⟩ ?_
    refine AWP.condF rfl (by first | rfl | (simp; done) | (simp; omega)) ?_
    refine AWP.seq ?_
    refine AWP.region ?_
    refine rC (Calm.move rfl) ?_
    refine rC (Calm.lenStr (strT_spec ty_str_9) rfl) ?_
    refine rC (Calm.move rfl) ?_
    refine rC (Calm.bin rfl rfl b_mul_i64) ?_
    refine rC (Calm.bin rfl rfl b_rem) ?_
    refine rC (Calm.bin rfl rfl (bin_bool (bin_neq _ _) (bnot_dec_true hc3))) ?_
    refine rC (Calm.assign rfl) ?_
    refine arun_nil ?_
    refine athen_n ?_
    refine AWP.sub [(0, _), (1, _), (4, _), (5, _), (9, _), (16, _)] ⟨rfl, rfl, rfl, rfl, rfl, rfl, trivial⟩ ?_
    refine AWP.condT rfl (by first | rfl | (simp; done) | (simp; omega)) ?_
    refine AWP.seq ?_
    refine AWP.region ?_
    refine rC (Calm.assign rfl) ?_
    refine rC (Calm.assign rfl) ?_
    refine arun_nil ?_
    refine athen_n ?_
    refine AWP.ret ?_
    refine ain_ret ?_
    refine athen_ret ?_
    refine ⟨_, S, ⟨_, _, rfl, ⟨_, _, rfl, rfl, rfl⟩, rfl⟩, less_, ?_⟩
    exact ⟨_, by rw [q1]; rfl, Mem.Less.refl _, by rw [q2]; exact SlOf.nil _ _⟩
end Go.Proofs.Ytpeljbmbgjeomaa
