/-
  The walks of Get, Cut over the view of memory.
-/
import Derived.Test.YtpeljbmbgjeomaaVBits1
namespace Go.Proofs.Ytpeljbmbgjeomaa
open Go.RowKit
open Bits Mv
set_option linter.unusedVariables false
set_option linter.unusedSimpArgs false
namespace Bits
noncomputable def cutP (s : ByteArray) (N from_ n : Int) : Value :=
  if chk s.data.toList N ≠ 0 then two bv0 2
  else if from_ < 0 ∨ n < 0 ∨ N < from_ then two bv0 1
  else if N - from_ < n then two bv0 5
  else two (bv (bs (pack (slc s.data.toList from_.toNat n.toNat))) n) 0
theorem size_list (s : ByteArray) : s.size = s.data.toList.length := (Array.length_toList (xs := s.data)).symm
end Bits
set_option maxHeartbeats 1000000 in
theorem bitsV_Get (s : ByteArray) (N at_ wd : Int) (S : Mem) (hs : s.size ≤ 9223372036854775807) (hw0 : -9223372036854775808 ≤ wd) (hw1 : wd ≤ 9223372036854775807) :
    ACall Try.prog 17 #[.agg #[.string s, .int .i64 N], .int .i64 at_, .int .i64 wd] S fun r S' => r = getP s N at_ wd ∧ S' = S := by
  unfold getP
  refine ACall.enter (args := [.agg #[.string s, .int .i64 N], .int .i64 at_, .int .i64 wd]) (rs := [.tmp 6, .tmp 7]) 39 [(0, .agg #[.string s, .int .i64 N]), (1, .int .i64 at_), (2, .int .i64 wd)] Try.func17 rfl rfl (Nat.le_of_ble_eq_true rfl) rfl ⟨rfl, rfl, rfl, trivial⟩ ?_
  refine AWP.seq ?_
  refine AWP.region ?_
  refine ARun.boxA (cs := [_, _]) (lit_lt rfl) rfl ?_
  intro b3 f3
  have g3 := f3
  repeat ((with_reducible replace g3 := fresh_set g3); obtain ⟨g3, _⟩ := g3)
  (try simp only [List.length_cons, List.length_nil, Nat.zero_add, Nat.reduceAdd])
  refine ARun.calm rfl rfl (lit_lt rfl) (Calm.assign rfl) ?_
  refine ARun.calm rfl rfl (lit_lt rfl) (Calm.assign rfl) ?_
  refine arun_nil ?_
  refine athen_n ?_
  refine AWP.seq ?_
  refine AWP.seq ?_
  refine AWP.region ?_
  refine ARun.calm rfl rfl (lit_lt rfl) (Calm.loadA ty_agg_23 (cs := [_, _]) ty_size_23 rfl ((by first | with_reducible assumption | ((repeat (apply rds_cons; ((repeat ((with_reducible refine (rd_set_ne _ _ ?_).trans ?_); (first | assumption | (apply Ne.symm; assumption)))); (first | ((with_reducible refine (rd_set_same _ _ _ _).trans ?_); rfl) | ((with_reducible apply rd_own'); (with_reducible assumption); rfl) | with_reducible assumption)))); exact rds_nil _ _)))) ?_
  refine ARun.call (lit_lt rfl) go_20 rfl (bitsV_Check s N _ hs) ?_
  rintro _ _ ⟨rfl, rfl⟩
  refine ARun.calm rfl rfl (lit_lt rfl) (Calm.assign rfl) ?_
  refine arun_nil ?_
  refine athen_n ?_
  refine AWP.sub [(0, _), (1, _), (2, _), (3, _), (6, _), (7, _), (8, _)] ⟨rfl, rfl, rfl, rfl, rfl, rfl, rfl, trivial⟩ ?_
  refine AWP.seq ?_
  refine AWP.region ?_
  refine ARun.calm rfl rfl (lit_lt rfl) (Calm.move rfl) ?_
  refine ARun.calm rfl rfl (lit_lt rfl) (Calm.bin rfl rfl (by first | exact bin_bool (bin_neq _ _) (bnot_dec_true (by omega)) | exact bin_bool (bin_neq _ _) (bnot_dec_false (by omega)) | exact bin_neq _ _)) ?_
  refine arun_nil ?_
  refine athen_n ?_
  refine AWP.sub [(0, _), (1, _), (2, _), (3, _), (6, _), (7, _), (8, _), (12, _)] ⟨rfl, rfl, rfl, rfl, rfl, rfl, rfl, rfl, trivial⟩ ?_
  refine AWP.condB rfl (fun hc => ?_) (fun hc => ?_)
  · have hc := bnot_t hc
    refine AWP.seq ?_
    refine AWP.region ?_
    refine ARun.calm rfl rfl (lit_lt rfl) (Calm.move rfl) ?_
    refine ARun.calm rfl rfl (lit_lt rfl) (Calm.assign rfl) ?_
    refine ARun.calm rfl rfl (lit_lt rfl) (Calm.assign rfl) ?_
    refine arun_nil ?_
    refine athen_n ?_
    refine AWP.sub [(0, _), (1, _), (2, _), (3, _), (6, _), (7, _), (8, _), (12, _)] ⟨rfl, rfl, rfl, rfl, rfl, rfl, rfl, rfl, trivial⟩ ?_
    refine AWP.ret ?_
    refine athen_ret ?_
    refine ⟨_, S, ⟨_, _, rfl, ⟨_, _, rfl, rfl, rfl⟩, rfl⟩, (by first | with_reducible exact Mem.Less.refl _ | ((with_reducible refine Mem.less_set _ _ _ (Fresh.own ?_)); with_reducible assumption) | (refine less_of ?_; (repeat first | with_reducible exact LessB.refl _ _ | ((with_reducible refine LessB.set ?_ ?_); ((repeat first | ((with_reducible refine (Mem.own_set_other _ _ ?_).trans ?_); (first | assumption | (apply Ne.symm; assumption))) | ((with_reducible refine (Mem.own_del_other _ ?_).trans ?_); (first | assumption | (apply Ne.symm; assumption)))); (first | with_reducible exact Mem.own_set_same _ _ _ | with_reducible assumption | exact Mem.own_set_same _ _ _))) | (with_reducible refine LessB.delL ?_)); (repeat first | with_reducible exact LessB.refl _ _ | ((with_reducible refine LessB.of ?_); with_reducible assumption) | ((with_reducible refine LessB.skip ?_ ?_); (first | ((refine .inl ?_); simp; done) | ((refine .inr (Fresh.own ?_)); with_reducible assumption) | ((refine .inr ?_); with_reducible assumption))) | ((with_reducible refine LessB.skipDel ?_ ?_); (first | ((refine .inl ?_); simp; done) | ((refine .inr (Fresh.own ?_)); with_reducible assumption) | ((refine .inr ?_); with_reducible assumption)))))), ?_⟩
    exact ⟨by rw [if_pos hc, chk_two hc]; rfl, rfl⟩
  · have hc := bnot_f hc
    rw [if_neg (fun h => h hc)]
    obtain ⟨hN0, hN1, hR⟩ := chk_right hc
    by_cases hw : 0 ≤ wd ∧ wd ≤ 64
    · by_cases ha : at_ < 0
      · refine AWP.skip ?_
        refine athen_n ?_
        refine AWP.seq ?_
        refine AWP.block ?_
        refine AWP.seq ?_
        refine AWP.region ?_
        refine ARun.calm rfl rfl (lit_lt rfl) (Calm.move rfl) ?_
        refine ARun.call (lit_lt rfl) go_47 rfl (bits_wide wd _) ?_
        rintro _ _ ⟨rfl, rfl⟩
        rw [decide_eq_true hw]
        refine ARun.calm rfl rfl (lit_lt rfl) (Calm.un rfl (una_not _)) ?_
        refine ARun.calm rfl rfl (lit_lt rfl) (Calm.move rfl) ?_
        first | refine ARun.skipG 3 false _ 18 rfl rfl (lit_lt rfl) rfl rfl rfl (lit_lt rfl) ?_ | refine ARun.skipU 3 false 18 rfl rfl (lit_lt rfl) rfl rfl (lit_lt rfl) ?_ | refine ARun.calmG 3 false 18 rfl rfl (lit_lt rfl) rfl rfl (lit_lt rfl) (Calm.move rfl) ?_
        first | refine ARun.skipG 3 false _ 18 rfl rfl (lit_lt rfl) rfl rfl rfl (lit_lt rfl) ?_ | refine ARun.skipU 3 false 18 rfl rfl (lit_lt rfl) rfl rfl (lit_lt rfl) ?_ | refine ARun.calmG 3 false 18 rfl rfl (lit_lt rfl) rfl rfl (lit_lt rfl) (Calm.bin rfl rfl (by first | exact bin_bool (bin_lss _ _) (decide_eq_true (by omega)) | exact bin_bool (bin_lss _ _) (decide_eq_false (by omega)) | exact bin_lss _ _)) ?_
        refine ARun.calm rfl rfl (lit_lt rfl) ((by first | exact Calm.pickT rfl rfl | exact Calm.pickF rfl rfl)) ?_
        refine ARun.calm rfl rfl (lit_lt rfl) (Calm.move rfl) ?_
        first | refine ARun.skipG 7 false _ 22 rfl rfl (lit_lt rfl) rfl rfl rfl (lit_lt rfl) ?_ | refine ARun.skipU 7 false 22 rfl rfl (lit_lt rfl) rfl rfl (lit_lt rfl) ?_ | refine ARun.calmG 7 false 22 rfl rfl (lit_lt rfl) rfl rfl (lit_lt rfl) (Calm.move rfl) ?_
        first | refine ARun.skipG 7 false _ 22 rfl rfl (lit_lt rfl) rfl rfl rfl (lit_lt rfl) ?_ | refine ARun.skipU 7 false 22 rfl rfl (lit_lt rfl) rfl rfl (lit_lt rfl) ?_ | refine ARun.calmG 7 false 22 rfl rfl (lit_lt rfl) rfl rfl (lit_lt rfl) (Calm.fieldAddr ty_field_23_1 rfl) ?_
        first | refine ARun.skipG 7 false _ 22 rfl rfl (lit_lt rfl) rfl rfl rfl (lit_lt rfl) ?_ | refine ARun.skipU 7 false 22 rfl rfl (lit_lt rfl) rfl rfl (lit_lt rfl) ?_ | refine ARun.calmG 7 false 22 rfl rfl (lit_lt rfl) rfl rfl (lit_lt rfl) (Calm.load ty_plain_3 rfl ((by (repeat ((with_reducible refine (rd_set_ne _ _ ?_).trans ?_); (first | assumption | (apply Ne.symm; assumption)))); (first | ((with_reducible refine (rd_set_same _ _ _ _).trans ?_); rfl) | ((with_reducible apply rd_own'); (with_reducible assumption); rfl) | with_reducible assumption)))) ?_
        first | refine ARun.skipG 7 false _ 22 rfl rfl (lit_lt rfl) rfl rfl rfl (lit_lt rfl) ?_ | refine ARun.skipU 7 false 22 rfl rfl (lit_lt rfl) rfl rfl (lit_lt rfl) ?_ | refine ARun.calmG 7 false 22 rfl rfl (lit_lt rfl) rfl rfl (lit_lt rfl) (Calm.bin rfl rfl (by first | exact bin_bool (bin_gtr _ _) (decide_eq_true (by omega)) | exact bin_bool (bin_gtr _ _) (decide_eq_false (by omega)) | exact bin_gtr _ _)) ?_
        refine ARun.calm rfl rfl (lit_lt rfl) ((by first | exact Calm.pickT rfl rfl | exact Calm.pickF rfl rfl)) ?_
        refine ARun.calm rfl rfl (lit_lt rfl) (Calm.assign rfl) ?_
        refine arun_nil ?_
        refine athen_n ?_
        refine AWP.sub [(0, _), (1, _), (2, _), (3, _), (6, _), (7, _), (8, _), (12, _), (14, _)] ⟨rfl, rfl, rfl, rfl, rfl, rfl, rfl, rfl, rfl, trivial⟩ ?_
        refine AWP.condT rfl (by first | rfl | (simp; done) | (simp; omega)) ?_
        refine AWP.seq ?_
        refine AWP.region ?_
        refine ARun.calm rfl rfl (lit_lt rfl) (Calm.assign rfl) ?_
        refine ARun.calm rfl rfl (lit_lt rfl) (Calm.assign rfl) ?_
        refine arun_nil ?_
        refine athen_n ?_
        refine AWP.ret ?_
        refine ain_ret ?_
        refine athen_ret ?_
        refine ⟨_, S, ⟨_, _, rfl, ⟨_, _, rfl, rfl, rfl⟩, rfl⟩, (by first | with_reducible exact Mem.Less.refl _ | ((with_reducible refine Mem.less_set _ _ _ (Fresh.own ?_)); with_reducible assumption) | (refine less_of ?_; (repeat first | with_reducible exact LessB.refl _ _ | ((with_reducible refine LessB.set ?_ ?_); ((repeat first | ((with_reducible refine (Mem.own_set_other _ _ ?_).trans ?_); (first | assumption | (apply Ne.symm; assumption))) | ((with_reducible refine (Mem.own_del_other _ ?_).trans ?_); (first | assumption | (apply Ne.symm; assumption)))); (first | with_reducible exact Mem.own_set_same _ _ _ | with_reducible assumption | exact Mem.own_set_same _ _ _))) | (with_reducible refine LessB.delL ?_)); (repeat first | with_reducible exact LessB.refl _ _ | ((with_reducible refine LessB.of ?_); with_reducible assumption) | ((with_reducible refine LessB.skip ?_ ?_); (first | ((refine .inl ?_); simp; done) | ((refine .inr (Fresh.own ?_)); with_reducible assumption) | ((refine .inr ?_); with_reducible assumption))) | ((with_reducible refine LessB.skipDel ?_ ?_); (first | ((refine .inl ?_); simp; done) | ((refine .inr (Fresh.own ?_)); with_reducible assumption) | ((refine .inr ?_); with_reducible assumption)))))), ?_⟩
        exact ⟨by rw [if_pos (.inr (.inl ha))]; rfl, rfl⟩
      · by_cases hb : N < at_
        · refine AWP.skip ?_
          refine athen_n ?_
          refine AWP.seq ?_
          refine AWP.block ?_
          refine AWP.seq ?_
          refine AWP.region ?_
          refine ARun.calm rfl rfl (lit_lt rfl) (Calm.move rfl) ?_
          refine ARun.call (lit_lt rfl) go_47 rfl (bits_wide wd _) ?_
          rintro _ _ ⟨rfl, rfl⟩
          rw [decide_eq_true hw]
          refine ARun.calm rfl rfl (lit_lt rfl) (Calm.un rfl (una_not _)) ?_
          refine ARun.calm rfl rfl (lit_lt rfl) (Calm.move rfl) ?_
          first | refine ARun.skipG 3 false _ 18 rfl rfl (lit_lt rfl) rfl rfl rfl (lit_lt rfl) ?_ | refine ARun.skipU 3 false 18 rfl rfl (lit_lt rfl) rfl rfl (lit_lt rfl) ?_ | refine ARun.calmG 3 false 18 rfl rfl (lit_lt rfl) rfl rfl (lit_lt rfl) (Calm.move rfl) ?_
          first | refine ARun.skipG 3 false _ 18 rfl rfl (lit_lt rfl) rfl rfl rfl (lit_lt rfl) ?_ | refine ARun.skipU 3 false 18 rfl rfl (lit_lt rfl) rfl rfl (lit_lt rfl) ?_ | refine ARun.calmG 3 false 18 rfl rfl (lit_lt rfl) rfl rfl (lit_lt rfl) (Calm.bin rfl rfl (by first | exact bin_bool (bin_lss _ _) (decide_eq_true (by omega)) | exact bin_bool (bin_lss _ _) (decide_eq_false (by omega)) | exact bin_lss _ _)) ?_
          refine ARun.calm rfl rfl (lit_lt rfl) ((by first | exact Calm.pickT rfl rfl | exact Calm.pickF rfl rfl)) ?_
          refine ARun.calm rfl rfl (lit_lt rfl) (Calm.move rfl) ?_
          first | refine ARun.skipG 7 false _ 22 rfl rfl (lit_lt rfl) rfl rfl rfl (lit_lt rfl) ?_ | refine ARun.skipU 7 false 22 rfl rfl (lit_lt rfl) rfl rfl (lit_lt rfl) ?_ | refine ARun.calmG 7 false 22 rfl rfl (lit_lt rfl) rfl rfl (lit_lt rfl) (Calm.move rfl) ?_
          first | refine ARun.skipG 7 false _ 22 rfl rfl (lit_lt rfl) rfl rfl rfl (lit_lt rfl) ?_ | refine ARun.skipU 7 false 22 rfl rfl (lit_lt rfl) rfl rfl (lit_lt rfl) ?_ | refine ARun.calmG 7 false 22 rfl rfl (lit_lt rfl) rfl rfl (lit_lt rfl) (Calm.fieldAddr ty_field_23_1 rfl) ?_
          first | refine ARun.skipG 7 false _ 22 rfl rfl (lit_lt rfl) rfl rfl rfl (lit_lt rfl) ?_ | refine ARun.skipU 7 false 22 rfl rfl (lit_lt rfl) rfl rfl (lit_lt rfl) ?_ | refine ARun.calmG 7 false 22 rfl rfl (lit_lt rfl) rfl rfl (lit_lt rfl) (Calm.load ty_plain_3 rfl ((by (repeat ((with_reducible refine (rd_set_ne _ _ ?_).trans ?_); (first | assumption | (apply Ne.symm; assumption)))); (first | ((with_reducible refine (rd_set_same _ _ _ _).trans ?_); rfl) | ((with_reducible apply rd_own'); (with_reducible assumption); rfl) | with_reducible assumption)))) ?_
          first | refine ARun.skipG 7 false _ 22 rfl rfl (lit_lt rfl) rfl rfl rfl (lit_lt rfl) ?_ | refine ARun.skipU 7 false 22 rfl rfl (lit_lt rfl) rfl rfl (lit_lt rfl) ?_ | refine ARun.calmG 7 false 22 rfl rfl (lit_lt rfl) rfl rfl (lit_lt rfl) (Calm.bin rfl rfl (by first | exact bin_bool (bin_gtr _ _) (decide_eq_true (by omega)) | exact bin_bool (bin_gtr _ _) (decide_eq_false (by omega)) | exact bin_gtr _ _)) ?_
          refine ARun.calm rfl rfl (lit_lt rfl) ((by first | exact Calm.pickT rfl rfl | exact Calm.pickF rfl rfl)) ?_
          refine ARun.calm rfl rfl (lit_lt rfl) (Calm.assign rfl) ?_
          refine arun_nil ?_
          refine athen_n ?_
          refine AWP.sub [(0, _), (1, _), (2, _), (3, _), (6, _), (7, _), (8, _), (12, _), (14, _)] ⟨rfl, rfl, rfl, rfl, rfl, rfl, rfl, rfl, rfl, trivial⟩ ?_
          refine AWP.condT rfl (by first | rfl | (simp; done) | (simp; omega)) ?_
          refine AWP.seq ?_
          refine AWP.region ?_
          refine ARun.calm rfl rfl (lit_lt rfl) (Calm.assign rfl) ?_
          refine ARun.calm rfl rfl (lit_lt rfl) (Calm.assign rfl) ?_
          refine arun_nil ?_
          refine athen_n ?_
          refine AWP.ret ?_
          refine ain_ret ?_
          refine athen_ret ?_
          refine ⟨_, S, ⟨_, _, rfl, ⟨_, _, rfl, rfl, rfl⟩, rfl⟩, (by first | with_reducible exact Mem.Less.refl _ | ((with_reducible refine Mem.less_set _ _ _ (Fresh.own ?_)); with_reducible assumption) | (refine less_of ?_; (repeat first | with_reducible exact LessB.refl _ _ | ((with_reducible refine LessB.set ?_ ?_); ((repeat first | ((with_reducible refine (Mem.own_set_other _ _ ?_).trans ?_); (first | assumption | (apply Ne.symm; assumption))) | ((with_reducible refine (Mem.own_del_other _ ?_).trans ?_); (first | assumption | (apply Ne.symm; assumption)))); (first | with_reducible exact Mem.own_set_same _ _ _ | with_reducible assumption | exact Mem.own_set_same _ _ _))) | (with_reducible refine LessB.delL ?_)); (repeat first | with_reducible exact LessB.refl _ _ | ((with_reducible refine LessB.of ?_); with_reducible assumption) | ((with_reducible refine LessB.skip ?_ ?_); (first | ((refine .inl ?_); simp; done) | ((refine .inr (Fresh.own ?_)); with_reducible assumption) | ((refine .inr ?_); with_reducible assumption))) | ((with_reducible refine LessB.skipDel ?_ ?_); (first | ((refine .inl ?_); simp; done) | ((refine .inr (Fresh.own ?_)); with_reducible assumption) | ((refine .inr ?_); with_reducible assumption)))))), ?_⟩
          exact ⟨by rw [if_pos (.inr (.inr hb))]; rfl, rfl⟩
        · rw [if_neg (fun h => by rcases h with h | h | h; exact h hw; exact ha h; exact hb h)]
          refine AWP.skip ?_
          refine athen_n ?_
          refine AWP.seq ?_
          refine AWP.block ?_
          refine AWP.seq ?_
          refine AWP.region ?_
          refine ARun.calm rfl rfl (lit_lt rfl) (Calm.move rfl) ?_
          refine ARun.call (lit_lt rfl) go_47 rfl (bits_wide wd _) ?_
          rintro _ _ ⟨rfl, rfl⟩
          rw [decide_eq_true hw]
          refine ARun.calm rfl rfl (lit_lt rfl) (Calm.un rfl (una_not _)) ?_
          refine ARun.calm rfl rfl (lit_lt rfl) (Calm.move rfl) ?_
          first | refine ARun.skipG 3 false _ 18 rfl rfl (lit_lt rfl) rfl rfl rfl (lit_lt rfl) ?_ | refine ARun.skipU 3 false 18 rfl rfl (lit_lt rfl) rfl rfl (lit_lt rfl) ?_ | refine ARun.calmG 3 false 18 rfl rfl (lit_lt rfl) rfl rfl (lit_lt rfl) (Calm.move rfl) ?_
          first | refine ARun.skipG 3 false _ 18 rfl rfl (lit_lt rfl) rfl rfl rfl (lit_lt rfl) ?_ | refine ARun.skipU 3 false 18 rfl rfl (lit_lt rfl) rfl rfl (lit_lt rfl) ?_ | refine ARun.calmG 3 false 18 rfl rfl (lit_lt rfl) rfl rfl (lit_lt rfl) (Calm.bin rfl rfl (by first | exact bin_bool (bin_lss _ _) (decide_eq_true (by omega)) | exact bin_bool (bin_lss _ _) (decide_eq_false (by omega)) | exact bin_lss _ _)) ?_
          refine ARun.calm rfl rfl (lit_lt rfl) ((by first | exact Calm.pickT rfl rfl | exact Calm.pickF rfl rfl)) ?_
          refine ARun.calm rfl rfl (lit_lt rfl) (Calm.move rfl) ?_
          first | refine ARun.skipG 7 false _ 22 rfl rfl (lit_lt rfl) rfl rfl rfl (lit_lt rfl) ?_ | refine ARun.skipU 7 false 22 rfl rfl (lit_lt rfl) rfl rfl (lit_lt rfl) ?_ | refine ARun.calmG 7 false 22 rfl rfl (lit_lt rfl) rfl rfl (lit_lt rfl) (Calm.move rfl) ?_
          first | refine ARun.skipG 7 false _ 22 rfl rfl (lit_lt rfl) rfl rfl rfl (lit_lt rfl) ?_ | refine ARun.skipU 7 false 22 rfl rfl (lit_lt rfl) rfl rfl (lit_lt rfl) ?_ | refine ARun.calmG 7 false 22 rfl rfl (lit_lt rfl) rfl rfl (lit_lt rfl) (Calm.fieldAddr ty_field_23_1 rfl) ?_
          first | refine ARun.skipG 7 false _ 22 rfl rfl (lit_lt rfl) rfl rfl rfl (lit_lt rfl) ?_ | refine ARun.skipU 7 false 22 rfl rfl (lit_lt rfl) rfl rfl (lit_lt rfl) ?_ | refine ARun.calmG 7 false 22 rfl rfl (lit_lt rfl) rfl rfl (lit_lt rfl) (Calm.load ty_plain_3 rfl ((by (repeat ((with_reducible refine (rd_set_ne _ _ ?_).trans ?_); (first | assumption | (apply Ne.symm; assumption)))); (first | ((with_reducible refine (rd_set_same _ _ _ _).trans ?_); rfl) | ((with_reducible apply rd_own'); (with_reducible assumption); rfl) | with_reducible assumption)))) ?_
          first | refine ARun.skipG 7 false _ 22 rfl rfl (lit_lt rfl) rfl rfl rfl (lit_lt rfl) ?_ | refine ARun.skipU 7 false 22 rfl rfl (lit_lt rfl) rfl rfl (lit_lt rfl) ?_ | refine ARun.calmG 7 false 22 rfl rfl (lit_lt rfl) rfl rfl (lit_lt rfl) (Calm.bin rfl rfl (by first | exact bin_bool (bin_gtr _ _) (decide_eq_true (by omega)) | exact bin_bool (bin_gtr _ _) (decide_eq_false (by omega)) | exact bin_gtr _ _)) ?_
          refine ARun.calm rfl rfl (lit_lt rfl) ((by first | exact Calm.pickT rfl rfl | exact Calm.pickF rfl rfl)) ?_
          refine ARun.calm rfl rfl (lit_lt rfl) (Calm.assign rfl) ?_
          refine arun_nil ?_
          refine athen_n ?_
          refine AWP.sub [(0, _), (1, _), (2, _), (3, _), (6, _), (7, _), (8, _), (12, _), (14, _)] ⟨rfl, rfl, rfl, rfl, rfl, rfl, rfl, rfl, rfl, trivial⟩ ?_
          refine AWP.condF rfl (by first | rfl | (simp; done) | (simp; omega)) ?_
          refine AWP.seq ?_
          refine AWP.region ?_
          refine ARun.calm rfl rfl (lit_lt rfl) (Calm.move rfl) ?_
          refine ARun.calm rfl rfl (lit_lt rfl) (Calm.fieldAddr ty_field_23_1 rfl) ?_
          refine ARun.calm rfl rfl (lit_lt rfl) (Calm.load ty_plain_3 rfl ((by (repeat ((with_reducible refine (rd_set_ne _ _ ?_).trans ?_); (first | assumption | (apply Ne.symm; assumption)))); (first | ((with_reducible refine (rd_set_same _ _ _ _).trans ?_); rfl) | ((with_reducible apply rd_own'); (with_reducible assumption); rfl) | with_reducible assumption)))) ?_
          refine ARun.calm rfl rfl (lit_lt rfl) (Calm.move rfl) ?_
          refine ARun.calm rfl rfl (lit_lt rfl) (Calm.bin rfl rfl (by first | exact bin_subW (IntWalk.i64_in _ (by omega)) | exact bin_sub _ _)) ?_
          refine ARun.calm rfl rfl (lit_lt rfl) (Calm.bin rfl rfl (by first | exact bin_bool (bin_gtr _ _) (decide_eq_true (by omega)) | exact bin_bool (bin_gtr _ _) (decide_eq_false (by omega)) | exact bin_gtr _ _)) ?_
          refine ARun.calm rfl rfl (lit_lt rfl) (Calm.assign rfl) ?_
          refine arun_nil ?_
          refine athen_n ?_
          refine AWP.sub [(0, _), (1, _), (2, _), (3, _), (6, _), (7, _), (8, _), (12, _), (14, _), (28, _)] ⟨rfl, rfl, rfl, rfl, rfl, rfl, rfl, rfl, rfl, rfl, trivial⟩ ?_
          refine AWP.condB rfl (fun hf => ?_) (fun hf => ?_)
          · have hf := of_decide_eq_true hf
            refine AWP.seq ?_
            refine AWP.region ?_
            refine ARun.calm rfl rfl (lit_lt rfl) (Calm.assign rfl) ?_
            refine ARun.calm rfl rfl (lit_lt rfl) (Calm.assign rfl) ?_
            refine arun_nil ?_
            refine athen_n ?_
            refine AWP.ret ?_
            refine ain_ret ?_
            refine athen_ret ?_
            refine ⟨_, S, ⟨_, _, rfl, ⟨_, _, rfl, rfl, rfl⟩, rfl⟩, (by first | with_reducible exact Mem.Less.refl _ | ((with_reducible refine Mem.less_set _ _ _ (Fresh.own ?_)); with_reducible assumption) | (refine less_of ?_; (repeat first | with_reducible exact LessB.refl _ _ | ((with_reducible refine LessB.set ?_ ?_); ((repeat first | ((with_reducible refine (Mem.own_set_other _ _ ?_).trans ?_); (first | assumption | (apply Ne.symm; assumption))) | ((with_reducible refine (Mem.own_del_other _ ?_).trans ?_); (first | assumption | (apply Ne.symm; assumption)))); (first | with_reducible exact Mem.own_set_same _ _ _ | with_reducible assumption | exact Mem.own_set_same _ _ _))) | (with_reducible refine LessB.delL ?_)); (repeat first | with_reducible exact LessB.refl _ _ | ((with_reducible refine LessB.of ?_); with_reducible assumption) | ((with_reducible refine LessB.skip ?_ ?_); (first | ((refine .inl ?_); simp; done) | ((refine .inr (Fresh.own ?_)); with_reducible assumption) | ((refine .inr ?_); with_reducible assumption))) | ((with_reducible refine LessB.skipDel ?_ ?_); (first | ((refine .inl ?_); simp; done) | ((refine .inr (Fresh.own ?_)); with_reducible assumption) | ((refine .inr ?_); with_reducible assumption)))))), ?_⟩
            exact ⟨by rw [if_pos hf]; rfl, rfl⟩
          · have hf := of_decide_eq_false hf
            rw [if_neg hf]
            have hs1 : s.size = (N.toNat + 7) / 8 := by rw [← hR.1]; exact size_list s
            refine AWP.skip ?_
            refine ain_n ?_
            refine athen_n ?_
            refine AWP.seq ?_
            refine AWP.region ?_
            refine ARun.calm rfl rfl (lit_lt rfl) (Calm.loadA ty_agg_23 (cs := [_, _]) ty_size_23 rfl ((by first | with_reducible assumption | ((repeat (apply rds_cons; ((repeat ((with_reducible refine (rd_set_ne _ _ ?_).trans ?_); (first | assumption | (apply Ne.symm; assumption)))); (first | ((with_reducible refine (rd_set_same _ _ _ _).trans ?_); rfl) | ((with_reducible apply rd_own'); (with_reducible assumption); rfl) | with_reducible assumption)))); exact rds_nil _ _)))) ?_
            refine ARun.calm rfl rfl (lit_lt rfl) (Calm.move rfl) ?_
            refine ARun.calm rfl rfl (lit_lt rfl) (Calm.move rfl) ?_
            refine ARun.call (lit_lt rfl) go_54 rfl (ACall.of_calls fun w => bits_At s (by omega) N at_ wd w (by omega) (by omega) (by omega) (by omega)) ?_
            rintro _ _ ⟨rfl, rfl⟩
            refine ARun.calm rfl rfl (lit_lt rfl) (Calm.assign rfl) ?_
            refine ARun.calm rfl rfl (lit_lt rfl) (Calm.assign rfl) ?_
            refine arun_nil ?_
            refine athen_n ?_
            refine AWP.sub [(0, _), (1, _), (2, _), (3, _), (6, _), (7, _), (8, _), (12, _), (14, _), (28, _)] ⟨rfl, rfl, rfl, rfl, rfl, rfl, rfl, rfl, rfl, rfl, trivial⟩ ?_
            refine AWP.ret ?_
            refine ⟨_, S, ⟨_, _, rfl, ⟨_, _, rfl, rfl, rfl⟩, rfl⟩, (by first | with_reducible exact Mem.Less.refl _ | ((with_reducible refine Mem.less_set _ _ _ (Fresh.own ?_)); with_reducible assumption) | (refine less_of ?_; (repeat first | with_reducible exact LessB.refl _ _ | ((with_reducible refine LessB.set ?_ ?_); ((repeat first | ((with_reducible refine (Mem.own_set_other _ _ ?_).trans ?_); (first | assumption | (apply Ne.symm; assumption))) | ((with_reducible refine (Mem.own_del_other _ ?_).trans ?_); (first | assumption | (apply Ne.symm; assumption)))); (first | with_reducible exact Mem.own_set_same _ _ _ | with_reducible assumption | exact Mem.own_set_same _ _ _))) | (with_reducible refine LessB.delL ?_)); (repeat first | with_reducible exact LessB.refl _ _ | ((with_reducible refine LessB.of ?_); with_reducible assumption) | ((with_reducible refine LessB.skip ?_ ?_); (first | ((refine .inl ?_); simp; done) | ((refine .inr (Fresh.own ?_)); with_reducible assumption) | ((refine .inr ?_); with_reducible assumption))) | ((with_reducible refine LessB.skipDel ?_ ?_); (first | ((refine .inl ?_); simp; done) | ((refine .inr (Fresh.own ?_)); with_reducible assumption) | ((refine .inr ?_); with_reducible assumption)))))), ?_⟩
            exact ⟨rfl, rfl⟩
    · refine AWP.skip ?_
      refine athen_n ?_
      refine AWP.seq ?_
      refine AWP.block ?_
      refine AWP.seq ?_
      refine AWP.region ?_
      refine ARun.calm rfl rfl (lit_lt rfl) (Calm.move rfl) ?_
      refine ARun.call (lit_lt rfl) go_47 rfl (bits_wide wd _) ?_
      rintro _ _ ⟨rfl, rfl⟩
      rw [decide_eq_false hw]
      refine ARun.calm rfl rfl (lit_lt rfl) (Calm.un rfl (una_not _)) ?_
      refine ARun.calm rfl rfl (lit_lt rfl) (Calm.move rfl) ?_
      first | refine ARun.skipG 3 false _ 18 rfl rfl (lit_lt rfl) rfl rfl rfl (lit_lt rfl) ?_ | refine ARun.skipU 3 false 18 rfl rfl (lit_lt rfl) rfl rfl (lit_lt rfl) ?_ | refine ARun.calmG 3 false 18 rfl rfl (lit_lt rfl) rfl rfl (lit_lt rfl) (Calm.move rfl) ?_
      first | refine ARun.skipG 3 false _ 18 rfl rfl (lit_lt rfl) rfl rfl rfl (lit_lt rfl) ?_ | refine ARun.skipU 3 false 18 rfl rfl (lit_lt rfl) rfl rfl (lit_lt rfl) ?_ | refine ARun.calmG 3 false 18 rfl rfl (lit_lt rfl) rfl rfl (lit_lt rfl) (Calm.bin rfl rfl (by first | exact bin_bool (bin_lss _ _) (decide_eq_true (by omega)) | exact bin_bool (bin_lss _ _) (decide_eq_false (by omega)) | exact bin_lss _ _)) ?_
      refine ARun.calm rfl rfl (lit_lt rfl) ((by first | exact Calm.pickT rfl rfl | exact Calm.pickF rfl rfl)) ?_
      refine ARun.calm rfl rfl (lit_lt rfl) (Calm.move rfl) ?_
      first | refine ARun.skipG 7 false _ 22 rfl rfl (lit_lt rfl) rfl rfl rfl (lit_lt rfl) ?_ | refine ARun.skipU 7 false 22 rfl rfl (lit_lt rfl) rfl rfl (lit_lt rfl) ?_ | refine ARun.calmG 7 false 22 rfl rfl (lit_lt rfl) rfl rfl (lit_lt rfl) (Calm.move rfl) ?_
      first | refine ARun.skipG 7 false _ 22 rfl rfl (lit_lt rfl) rfl rfl rfl (lit_lt rfl) ?_ | refine ARun.skipU 7 false 22 rfl rfl (lit_lt rfl) rfl rfl (lit_lt rfl) ?_ | refine ARun.calmG 7 false 22 rfl rfl (lit_lt rfl) rfl rfl (lit_lt rfl) (Calm.fieldAddr ty_field_23_1 rfl) ?_
      first | refine ARun.skipG 7 false _ 22 rfl rfl (lit_lt rfl) rfl rfl rfl (lit_lt rfl) ?_ | refine ARun.skipU 7 false 22 rfl rfl (lit_lt rfl) rfl rfl (lit_lt rfl) ?_ | refine ARun.calmG 7 false 22 rfl rfl (lit_lt rfl) rfl rfl (lit_lt rfl) (Calm.load ty_plain_3 rfl ((by (repeat ((with_reducible refine (rd_set_ne _ _ ?_).trans ?_); (first | assumption | (apply Ne.symm; assumption)))); (first | ((with_reducible refine (rd_set_same _ _ _ _).trans ?_); rfl) | ((with_reducible apply rd_own'); (with_reducible assumption); rfl) | with_reducible assumption)))) ?_
      first | refine ARun.skipG 7 false _ 22 rfl rfl (lit_lt rfl) rfl rfl rfl (lit_lt rfl) ?_ | refine ARun.skipU 7 false 22 rfl rfl (lit_lt rfl) rfl rfl (lit_lt rfl) ?_ | refine ARun.calmG 7 false 22 rfl rfl (lit_lt rfl) rfl rfl (lit_lt rfl) (Calm.bin rfl rfl (by first | exact bin_bool (bin_gtr _ _) (decide_eq_true (by omega)) | exact bin_bool (bin_gtr _ _) (decide_eq_false (by omega)) | exact bin_gtr _ _)) ?_
      refine ARun.calm rfl rfl (lit_lt rfl) ((by first | exact Calm.pickT rfl rfl | exact Calm.pickF rfl rfl)) ?_
      refine ARun.calm rfl rfl (lit_lt rfl) (Calm.assign rfl) ?_
      refine arun_nil ?_
      refine athen_n ?_
      refine AWP.sub [(0, _), (1, _), (2, _), (3, _), (6, _), (7, _), (8, _), (12, _), (14, _)] ⟨rfl, rfl, rfl, rfl, rfl, rfl, rfl, rfl, rfl, trivial⟩ ?_
      refine AWP.condT rfl (by first | rfl | (simp; done) | (simp; omega)) ?_
      refine AWP.seq ?_
      refine AWP.region ?_
      refine ARun.calm rfl rfl (lit_lt rfl) (Calm.assign rfl) ?_
      refine ARun.calm rfl rfl (lit_lt rfl) (Calm.assign rfl) ?_
      refine arun_nil ?_
      refine athen_n ?_
      refine AWP.ret ?_
      refine ain_ret ?_
      refine athen_ret ?_
      refine ⟨_, S, ⟨_, _, rfl, ⟨_, _, rfl, rfl, rfl⟩, rfl⟩, (by first | with_reducible exact Mem.Less.refl _ | ((with_reducible refine Mem.less_set _ _ _ (Fresh.own ?_)); with_reducible assumption) | (refine less_of ?_; (repeat first | with_reducible exact LessB.refl _ _ | ((with_reducible refine LessB.set ?_ ?_); ((repeat first | ((with_reducible refine (Mem.own_set_other _ _ ?_).trans ?_); (first | assumption | (apply Ne.symm; assumption))) | ((with_reducible refine (Mem.own_del_other _ ?_).trans ?_); (first | assumption | (apply Ne.symm; assumption)))); (first | with_reducible exact Mem.own_set_same _ _ _ | with_reducible assumption | exact Mem.own_set_same _ _ _))) | (with_reducible refine LessB.delL ?_)); (repeat first | with_reducible exact LessB.refl _ _ | ((with_reducible refine LessB.of ?_); with_reducible assumption) | ((with_reducible refine LessB.skip ?_ ?_); (first | ((refine .inl ?_); simp; done) | ((refine .inr (Fresh.own ?_)); with_reducible assumption) | ((refine .inr ?_); with_reducible assumption))) | ((with_reducible refine LessB.skipDel ?_ ?_); (first | ((refine .inl ?_); simp; done) | ((refine .inr (Fresh.own ?_)); with_reducible assumption) | ((refine .inr ?_); with_reducible assumption)))))), ?_⟩
      exact ⟨by rw [if_pos (.inl hw)]; rfl, rfl⟩
set_option maxHeartbeats 2000000 in
theorem bitsV_Cut (s : ByteArray) (N fr n : Int) (S : Mem) (hs : s.size ≤ 9223372036854775807) (hw0 : -9223372036854775808 ≤ fr) (hw1 : n ≤ 9223372036854775807) (hn0 : -9223372036854775808 ≤ n) :
    ACall Try.prog 24 #[.agg #[.string s, .int .i64 N], .int .i64 fr, .int .i64 n] S fun r S' => r = cutP s N fr n ∧ S' = S := by
  unfold cutP
  refine ACall.enter (args := [.agg #[.string s, .int .i64 N], .int .i64 fr, .int .i64 n]) (rs := [.cell 6 23, .tmp 7]) 65 [(0, .agg #[.string s, .int .i64 N]), (1, .int .i64 fr), (2, .int .i64 n)] Try.func24 rfl rfl (Nat.le_of_ble_eq_true rfl) rfl ⟨rfl, rfl, rfl, trivial⟩ ?_
  refine AWP.seq ?_
  refine AWP.region ?_
  refine ARun.boxA (cs := [_, _]) (lit_lt rfl) rfl ?_
  intro b3 f3
  have g3 := f3
  repeat ((with_reducible replace g3 := fresh_set g3); obtain ⟨g3, _⟩ := g3)
  (try simp only [List.length_cons, List.length_nil, Nat.zero_add, Nat.reduceAdd])
  refine ARun.alloc (lit_lt rfl) ty_zero_23 ?_
  intro b6 f6
  have g6 := f6
  repeat ((with_reducible replace g6 := fresh_set g6); obtain ⟨g6, _⟩ := g6)
  (try simp only [List.length_cons, List.length_nil, Nat.zero_add, Nat.reduceAdd])
  refine ARun.calm rfl rfl (lit_lt rfl) (Calm.assign rfl) ?_
  refine arun_nil ?_
  refine athen_n ?_
  refine AWP.seq ?_
  refine AWP.seq ?_
  refine AWP.region ?_
  refine ARun.calm rfl rfl (lit_lt rfl) (Calm.loadA ty_agg_23 (cs := [_, _]) ty_size_23 rfl ((by first | with_reducible assumption | ((repeat (apply rds_cons; ((repeat ((with_reducible refine (rd_set_ne _ _ ?_).trans ?_); (first | assumption | (apply Ne.symm; assumption)))); (first | ((with_reducible refine (rd_set_same _ _ _ _).trans ?_); rfl) | ((with_reducible apply rd_own'); (with_reducible assumption); rfl) | with_reducible assumption)))); exact rds_nil _ _)))) ?_
  refine ARun.call (lit_lt rfl) go_20 rfl (bitsV_Check s N _ hs) ?_
  rintro _ _ ⟨rfl, rfl⟩
  refine ARun.calm rfl rfl (lit_lt rfl) (Calm.assign rfl) ?_
  refine arun_nil ?_
  refine athen_n ?_
  refine AWP.sub [(0, _), (1, _), (2, _), (3, _), (6, _), (7, _), (8, _)] ⟨rfl, rfl, rfl, rfl, rfl, rfl, rfl, trivial⟩ ?_
  refine AWP.seq ?_
  refine AWP.region ?_
  refine ARun.calm rfl rfl (lit_lt rfl) (Calm.move rfl) ?_
  refine ARun.calm rfl rfl (lit_lt rfl) (Calm.bin rfl rfl (by first | exact bin_bool (bin_neq _ _) (bnot_dec_true (by omega)) | exact bin_bool (bin_neq _ _) (bnot_dec_false (by omega)) | exact bin_neq _ _)) ?_
  refine arun_nil ?_
  refine athen_n ?_
  refine AWP.sub [(0, _), (1, _), (2, _), (3, _), (6, _), (7, _), (8, _), (15, _)] ⟨rfl, rfl, rfl, rfl, rfl, rfl, rfl, rfl, trivial⟩ ?_
  refine AWP.condB rfl (fun hc => ?_) (fun hc => ?_)
  · have hc := bnot_t hc
    refine AWP.seq ?_
    refine AWP.region ?_
    refine ARun.calm rfl rfl (lit_lt rfl) (Calm.build (cs := [_, _]) ty_bld_23 rfl rfl) ?_
    refine ARun.calm rfl rfl (lit_lt rfl) (Calm.move rfl) ?_
    first | refine ARun.storeAll rfl rfl ty_size_23 ((by (repeat first | ((with_reducible refine (Mem.own_set_other _ _ ?_).trans ?_); (first | assumption | (apply Ne.symm; assumption))) | ((with_reducible refine (Mem.own_del_other _ ?_).trans ?_); (first | assumption | (apply Ne.symm; assumption)))); (first | with_reducible exact Mem.own_set_same _ _ _ | with_reducible assumption | exact Mem.own_set_same _ _ _))) rfl rfl ?_ | refine ARun.store rfl rfl ty_size_23 ((by (repeat first | ((with_reducible refine (Mem.own_set_other _ _ ?_).trans ?_); (first | assumption | (apply Ne.symm; assumption))) | ((with_reducible refine (Mem.own_del_other _ ?_).trans ?_); (first | assumption | (apply Ne.symm; assumption)))); (first | with_reducible exact Mem.own_set_same _ _ _ | with_reducible assumption | exact Mem.own_set_same _ _ _))) ((by first | decide | (simp; done) | (simp; omega) | omega)) rfl ?_
    (try simp only [Mem.set_set, List.set_cons_zero, List.set_cons_succ, Nat.zero_add, Nat.reduceAdd])
    refine ARun.calm rfl rfl (lit_lt rfl) (Calm.assign rfl) ?_
    refine arun_nil ?_
    refine athen_n ?_
    refine AWP.sub [(0, _), (1, _), (2, _), (3, _), (6, _), (7, _), (8, _), (15, _)] ⟨rfl, rfl, rfl, rfl, rfl, rfl, rfl, rfl, trivial⟩ ?_
    refine AWP.ret ?_
    refine athen_ret ?_
    refine ⟨_, S, ⟨_, _, _, rfl, .inr ⟨ty_agg_23, [_, _], ty_size_23, (by first | with_reducible assumption | ((repeat (apply rds_cons; ((repeat ((with_reducible refine (rd_set_ne _ _ ?_).trans ?_); (first | assumption | (apply Ne.symm; assumption)))); (first | ((with_reducible refine (rd_set_same _ _ _ _).trans ?_); rfl) | ((with_reducible apply rd_own'); (with_reducible assumption); rfl) | with_reducible assumption)))); exact rds_nil _ _)), rfl⟩, ⟨_, _, rfl, rfl, rfl⟩, rfl⟩, (by first | with_reducible exact Mem.Less.refl _ | ((with_reducible refine Mem.less_set _ _ _ (Fresh.own ?_)); with_reducible assumption) | (refine less_of ?_; (repeat first | with_reducible exact LessB.refl _ _ | ((with_reducible refine LessB.set ?_ ?_); ((repeat first | ((with_reducible refine (Mem.own_set_other _ _ ?_).trans ?_); (first | assumption | (apply Ne.symm; assumption))) | ((with_reducible refine (Mem.own_del_other _ ?_).trans ?_); (first | assumption | (apply Ne.symm; assumption)))); (first | with_reducible exact Mem.own_set_same _ _ _ | with_reducible assumption | exact Mem.own_set_same _ _ _))) | (with_reducible refine LessB.delL ?_)); (repeat first | with_reducible exact LessB.refl _ _ | ((with_reducible refine LessB.of ?_); with_reducible assumption) | ((with_reducible refine LessB.skip ?_ ?_); (first | ((refine .inl ?_); simp; done) | ((refine .inr (Fresh.own ?_)); with_reducible assumption) | ((refine .inr ?_); with_reducible assumption))) | ((with_reducible refine LessB.skipDel ?_ ?_); (first | ((refine .inl ?_); simp; done) | ((refine .inr (Fresh.own ?_)); with_reducible assumption) | ((refine .inr ?_); with_reducible assumption)))))), ?_⟩
    exact ⟨by rw [if_pos hc, chk_two hc]; rfl, rfl⟩
  · have hc := bnot_f hc
    rw [if_neg (fun h => h hc)]
    obtain ⟨hN0, hN1, hR⟩ := chk_right hc
    by_cases ha : fr < 0
    · refine AWP.skip ?_
      refine athen_n ?_
      refine AWP.seq ?_
      refine AWP.block ?_
      refine AWP.seq ?_
      refine AWP.region ?_
      refine ARun.calm rfl rfl (lit_lt rfl) (Calm.move rfl) ?_
      refine ARun.calm rfl rfl (lit_lt rfl) (Calm.bin rfl rfl (by first | exact bin_bool (bin_lss _ _) (decide_eq_true (by omega)) | exact bin_bool (bin_lss _ _) (decide_eq_false (by omega)) | exact bin_lss _ _)) ?_
      refine ARun.calm rfl rfl (lit_lt rfl) (Calm.move rfl) ?_
      first | refine ARun.skipG 2 false _ 21 rfl rfl (lit_lt rfl) rfl rfl rfl (lit_lt rfl) ?_ | refine ARun.skipU 2 false 21 rfl rfl (lit_lt rfl) rfl rfl (lit_lt rfl) ?_ | refine ARun.calmG 2 false 21 rfl rfl (lit_lt rfl) rfl rfl (lit_lt rfl) (Calm.move rfl) ?_
      first | refine ARun.skipG 2 false _ 21 rfl rfl (lit_lt rfl) rfl rfl rfl (lit_lt rfl) ?_ | refine ARun.skipU 2 false 21 rfl rfl (lit_lt rfl) rfl rfl (lit_lt rfl) ?_ | refine ARun.calmG 2 false 21 rfl rfl (lit_lt rfl) rfl rfl (lit_lt rfl) (Calm.bin rfl rfl (by first | exact bin_bool (bin_lss _ _) (decide_eq_true (by omega)) | exact bin_bool (bin_lss _ _) (decide_eq_false (by omega)) | exact bin_lss _ _)) ?_
      refine ARun.calm rfl rfl (lit_lt rfl) ((by first | exact Calm.pickT rfl rfl | exact Calm.pickF rfl rfl)) ?_
      refine ARun.calm rfl rfl (lit_lt rfl) (Calm.move rfl) ?_
      first | refine ARun.skipG 6 false _ 25 rfl rfl (lit_lt rfl) rfl rfl rfl (lit_lt rfl) ?_ | refine ARun.skipU 6 false 25 rfl rfl (lit_lt rfl) rfl rfl (lit_lt rfl) ?_ | refine ARun.calmG 6 false 25 rfl rfl (lit_lt rfl) rfl rfl (lit_lt rfl) (Calm.move rfl) ?_
      first | refine ARun.skipG 6 false _ 25 rfl rfl (lit_lt rfl) rfl rfl rfl (lit_lt rfl) ?_ | refine ARun.skipU 6 false 25 rfl rfl (lit_lt rfl) rfl rfl (lit_lt rfl) ?_ | refine ARun.calmG 6 false 25 rfl rfl (lit_lt rfl) rfl rfl (lit_lt rfl) (Calm.fieldAddr ty_field_23_1 rfl) ?_
      first | refine ARun.skipG 6 false _ 25 rfl rfl (lit_lt rfl) rfl rfl rfl (lit_lt rfl) ?_ | refine ARun.skipU 6 false 25 rfl rfl (lit_lt rfl) rfl rfl (lit_lt rfl) ?_ | refine ARun.calmG 6 false 25 rfl rfl (lit_lt rfl) rfl rfl (lit_lt rfl) (Calm.load ty_plain_3 rfl ((by (repeat ((with_reducible refine (rd_set_ne _ _ ?_).trans ?_); (first | assumption | (apply Ne.symm; assumption)))); (first | ((with_reducible refine (rd_set_same _ _ _ _).trans ?_); rfl) | ((with_reducible apply rd_own'); (with_reducible assumption); rfl) | with_reducible assumption)))) ?_
      first | refine ARun.skipG 6 false _ 25 rfl rfl (lit_lt rfl) rfl rfl rfl (lit_lt rfl) ?_ | refine ARun.skipU 6 false 25 rfl rfl (lit_lt rfl) rfl rfl (lit_lt rfl) ?_ | refine ARun.calmG 6 false 25 rfl rfl (lit_lt rfl) rfl rfl (lit_lt rfl) (Calm.bin rfl rfl (by first | exact bin_bool (bin_gtr _ _) (decide_eq_true (by omega)) | exact bin_bool (bin_gtr _ _) (decide_eq_false (by omega)) | exact bin_gtr _ _)) ?_
      refine ARun.calm rfl rfl (lit_lt rfl) ((by first | exact Calm.pickT rfl rfl | exact Calm.pickF rfl rfl)) ?_
      refine ARun.calm rfl rfl (lit_lt rfl) (Calm.assign rfl) ?_
      refine arun_nil ?_
      refine athen_n ?_
      refine AWP.sub [(0, _), (1, _), (2, _), (3, _), (6, _), (7, _), (8, _), (15, _), (18, _)] ⟨rfl, rfl, rfl, rfl, rfl, rfl, rfl, rfl, rfl, trivial⟩ ?_
      refine AWP.condT rfl (by first | rfl | (simp; done) | (simp; omega)) ?_
      refine AWP.seq ?_
      refine AWP.region ?_
      refine ARun.calm rfl rfl (lit_lt rfl) (Calm.build (cs := [_, _]) ty_bld_23 rfl rfl) ?_
      first | refine ARun.storeAll rfl rfl ty_size_23 ((by (repeat first | ((with_reducible refine (Mem.own_set_other _ _ ?_).trans ?_); (first | assumption | (apply Ne.symm; assumption))) | ((with_reducible refine (Mem.own_del_other _ ?_).trans ?_); (first | assumption | (apply Ne.symm; assumption)))); (first | with_reducible exact Mem.own_set_same _ _ _ | with_reducible assumption | exact Mem.own_set_same _ _ _))) rfl rfl ?_ | refine ARun.store rfl rfl ty_size_23 ((by (repeat first | ((with_reducible refine (Mem.own_set_other _ _ ?_).trans ?_); (first | assumption | (apply Ne.symm; assumption))) | ((with_reducible refine (Mem.own_del_other _ ?_).trans ?_); (first | assumption | (apply Ne.symm; assumption)))); (first | with_reducible exact Mem.own_set_same _ _ _ | with_reducible assumption | exact Mem.own_set_same _ _ _))) ((by first | decide | (simp; done) | (simp; omega) | omega)) rfl ?_
      (try simp only [Mem.set_set, List.set_cons_zero, List.set_cons_succ, Nat.zero_add, Nat.reduceAdd])
      refine ARun.calm rfl rfl (lit_lt rfl) (Calm.assign rfl) ?_
      refine arun_nil ?_
      refine athen_n ?_
      refine AWP.sub [(0, _), (1, _), (2, _), (3, _), (6, _), (7, _), (8, _), (15, _), (18, _)] ⟨rfl, rfl, rfl, rfl, rfl, rfl, rfl, rfl, rfl, trivial⟩ ?_
      refine AWP.ret ?_
      refine ain_ret ?_
      refine athen_ret ?_
      refine ⟨_, S, ⟨_, _, _, rfl, .inr ⟨ty_agg_23, [_, _], ty_size_23, (by first | with_reducible assumption | ((repeat (apply rds_cons; ((repeat ((with_reducible refine (rd_set_ne _ _ ?_).trans ?_); (first | assumption | (apply Ne.symm; assumption)))); (first | ((with_reducible refine (rd_set_same _ _ _ _).trans ?_); rfl) | ((with_reducible apply rd_own'); (with_reducible assumption); rfl) | with_reducible assumption)))); exact rds_nil _ _)), rfl⟩, ⟨_, _, rfl, rfl, rfl⟩, rfl⟩, (by first | with_reducible exact Mem.Less.refl _ | ((with_reducible refine Mem.less_set _ _ _ (Fresh.own ?_)); with_reducible assumption) | (refine less_of ?_; (repeat first | with_reducible exact LessB.refl _ _ | ((with_reducible refine LessB.set ?_ ?_); ((repeat first | ((with_reducible refine (Mem.own_set_other _ _ ?_).trans ?_); (first | assumption | (apply Ne.symm; assumption))) | ((with_reducible refine (Mem.own_del_other _ ?_).trans ?_); (first | assumption | (apply Ne.symm; assumption)))); (first | with_reducible exact Mem.own_set_same _ _ _ | with_reducible assumption | exact Mem.own_set_same _ _ _))) | (with_reducible refine LessB.delL ?_)); (repeat first | with_reducible exact LessB.refl _ _ | ((with_reducible refine LessB.of ?_); with_reducible assumption) | ((with_reducible refine LessB.skip ?_ ?_); (first | ((refine .inl ?_); simp; done) | ((refine .inr (Fresh.own ?_)); with_reducible assumption) | ((refine .inr ?_); with_reducible assumption))) | ((with_reducible refine LessB.skipDel ?_ ?_); (first | ((refine .inl ?_); simp; done) | ((refine .inr (Fresh.own ?_)); with_reducible assumption) | ((refine .inr ?_); with_reducible assumption)))))), ?_⟩
      exact ⟨by rw [if_pos (.inl ha)]; rfl, rfl⟩
    · by_cases hb : n < 0
      · refine AWP.skip ?_
        refine athen_n ?_
        refine AWP.seq ?_
        refine AWP.block ?_
        refine AWP.seq ?_
        refine AWP.region ?_
        refine ARun.calm rfl rfl (lit_lt rfl) (Calm.move rfl) ?_
        refine ARun.calm rfl rfl (lit_lt rfl) (Calm.bin rfl rfl (by first | exact bin_bool (bin_lss _ _) (decide_eq_true (by omega)) | exact bin_bool (bin_lss _ _) (decide_eq_false (by omega)) | exact bin_lss _ _)) ?_
        refine ARun.calm rfl rfl (lit_lt rfl) (Calm.move rfl) ?_
        first | refine ARun.skipG 2 false _ 21 rfl rfl (lit_lt rfl) rfl rfl rfl (lit_lt rfl) ?_ | refine ARun.skipU 2 false 21 rfl rfl (lit_lt rfl) rfl rfl (lit_lt rfl) ?_ | refine ARun.calmG 2 false 21 rfl rfl (lit_lt rfl) rfl rfl (lit_lt rfl) (Calm.move rfl) ?_
        first | refine ARun.skipG 2 false _ 21 rfl rfl (lit_lt rfl) rfl rfl rfl (lit_lt rfl) ?_ | refine ARun.skipU 2 false 21 rfl rfl (lit_lt rfl) rfl rfl (lit_lt rfl) ?_ | refine ARun.calmG 2 false 21 rfl rfl (lit_lt rfl) rfl rfl (lit_lt rfl) (Calm.bin rfl rfl (by first | exact bin_bool (bin_lss _ _) (decide_eq_true (by omega)) | exact bin_bool (bin_lss _ _) (decide_eq_false (by omega)) | exact bin_lss _ _)) ?_
        refine ARun.calm rfl rfl (lit_lt rfl) ((by first | exact Calm.pickT rfl rfl | exact Calm.pickF rfl rfl)) ?_
        refine ARun.calm rfl rfl (lit_lt rfl) (Calm.move rfl) ?_
        first | refine ARun.skipG 6 false _ 25 rfl rfl (lit_lt rfl) rfl rfl rfl (lit_lt rfl) ?_ | refine ARun.skipU 6 false 25 rfl rfl (lit_lt rfl) rfl rfl (lit_lt rfl) ?_ | refine ARun.calmG 6 false 25 rfl rfl (lit_lt rfl) rfl rfl (lit_lt rfl) (Calm.move rfl) ?_
        first | refine ARun.skipG 6 false _ 25 rfl rfl (lit_lt rfl) rfl rfl rfl (lit_lt rfl) ?_ | refine ARun.skipU 6 false 25 rfl rfl (lit_lt rfl) rfl rfl (lit_lt rfl) ?_ | refine ARun.calmG 6 false 25 rfl rfl (lit_lt rfl) rfl rfl (lit_lt rfl) (Calm.fieldAddr ty_field_23_1 rfl) ?_
        first | refine ARun.skipG 6 false _ 25 rfl rfl (lit_lt rfl) rfl rfl rfl (lit_lt rfl) ?_ | refine ARun.skipU 6 false 25 rfl rfl (lit_lt rfl) rfl rfl (lit_lt rfl) ?_ | refine ARun.calmG 6 false 25 rfl rfl (lit_lt rfl) rfl rfl (lit_lt rfl) (Calm.load ty_plain_3 rfl ((by (repeat ((with_reducible refine (rd_set_ne _ _ ?_).trans ?_); (first | assumption | (apply Ne.symm; assumption)))); (first | ((with_reducible refine (rd_set_same _ _ _ _).trans ?_); rfl) | ((with_reducible apply rd_own'); (with_reducible assumption); rfl) | with_reducible assumption)))) ?_
        first | refine ARun.skipG 6 false _ 25 rfl rfl (lit_lt rfl) rfl rfl rfl (lit_lt rfl) ?_ | refine ARun.skipU 6 false 25 rfl rfl (lit_lt rfl) rfl rfl (lit_lt rfl) ?_ | refine ARun.calmG 6 false 25 rfl rfl (lit_lt rfl) rfl rfl (lit_lt rfl) (Calm.bin rfl rfl (by first | exact bin_bool (bin_gtr _ _) (decide_eq_true (by omega)) | exact bin_bool (bin_gtr _ _) (decide_eq_false (by omega)) | exact bin_gtr _ _)) ?_
        refine ARun.calm rfl rfl (lit_lt rfl) ((by first | exact Calm.pickT rfl rfl | exact Calm.pickF rfl rfl)) ?_
        refine ARun.calm rfl rfl (lit_lt rfl) (Calm.assign rfl) ?_
        refine arun_nil ?_
        refine athen_n ?_
        refine AWP.sub [(0, _), (1, _), (2, _), (3, _), (6, _), (7, _), (8, _), (15, _), (18, _)] ⟨rfl, rfl, rfl, rfl, rfl, rfl, rfl, rfl, rfl, trivial⟩ ?_
        refine AWP.condT rfl (by first | rfl | (simp; done) | (simp; omega)) ?_
        refine AWP.seq ?_
        refine AWP.region ?_
        refine ARun.calm rfl rfl (lit_lt rfl) (Calm.build (cs := [_, _]) ty_bld_23 rfl rfl) ?_
        first | refine ARun.storeAll rfl rfl ty_size_23 ((by (repeat first | ((with_reducible refine (Mem.own_set_other _ _ ?_).trans ?_); (first | assumption | (apply Ne.symm; assumption))) | ((with_reducible refine (Mem.own_del_other _ ?_).trans ?_); (first | assumption | (apply Ne.symm; assumption)))); (first | with_reducible exact Mem.own_set_same _ _ _ | with_reducible assumption | exact Mem.own_set_same _ _ _))) rfl rfl ?_ | refine ARun.store rfl rfl ty_size_23 ((by (repeat first | ((with_reducible refine (Mem.own_set_other _ _ ?_).trans ?_); (first | assumption | (apply Ne.symm; assumption))) | ((with_reducible refine (Mem.own_del_other _ ?_).trans ?_); (first | assumption | (apply Ne.symm; assumption)))); (first | with_reducible exact Mem.own_set_same _ _ _ | with_reducible assumption | exact Mem.own_set_same _ _ _))) ((by first | decide | (simp; done) | (simp; omega) | omega)) rfl ?_
        (try simp only [Mem.set_set, List.set_cons_zero, List.set_cons_succ, Nat.zero_add, Nat.reduceAdd])
        refine ARun.calm rfl rfl (lit_lt rfl) (Calm.assign rfl) ?_
        refine arun_nil ?_
        refine athen_n ?_
        refine AWP.sub [(0, _), (1, _), (2, _), (3, _), (6, _), (7, _), (8, _), (15, _), (18, _)] ⟨rfl, rfl, rfl, rfl, rfl, rfl, rfl, rfl, rfl, trivial⟩ ?_
        refine AWP.ret ?_
        refine ain_ret ?_
        refine athen_ret ?_
        refine ⟨_, S, ⟨_, _, _, rfl, .inr ⟨ty_agg_23, [_, _], ty_size_23, (by first | with_reducible assumption | ((repeat (apply rds_cons; ((repeat ((with_reducible refine (rd_set_ne _ _ ?_).trans ?_); (first | assumption | (apply Ne.symm; assumption)))); (first | ((with_reducible refine (rd_set_same _ _ _ _).trans ?_); rfl) | ((with_reducible apply rd_own'); (with_reducible assumption); rfl) | with_reducible assumption)))); exact rds_nil _ _)), rfl⟩, ⟨_, _, rfl, rfl, rfl⟩, rfl⟩, (by first | with_reducible exact Mem.Less.refl _ | ((with_reducible refine Mem.less_set _ _ _ (Fresh.own ?_)); with_reducible assumption) | (refine less_of ?_; (repeat first | with_reducible exact LessB.refl _ _ | ((with_reducible refine LessB.set ?_ ?_); ((repeat first | ((with_reducible refine (Mem.own_set_other _ _ ?_).trans ?_); (first | assumption | (apply Ne.symm; assumption))) | ((with_reducible refine (Mem.own_del_other _ ?_).trans ?_); (first | assumption | (apply Ne.symm; assumption)))); (first | with_reducible exact Mem.own_set_same _ _ _ | with_reducible assumption | exact Mem.own_set_same _ _ _))) | (with_reducible refine LessB.delL ?_)); (repeat first | with_reducible exact LessB.refl _ _ | ((with_reducible refine LessB.of ?_); with_reducible assumption) | ((with_reducible refine LessB.skip ?_ ?_); (first | ((refine .inl ?_); simp; done) | ((refine .inr (Fresh.own ?_)); with_reducible assumption) | ((refine .inr ?_); with_reducible assumption))) | ((with_reducible refine LessB.skipDel ?_ ?_); (first | ((refine .inl ?_); simp; done) | ((refine .inr (Fresh.own ?_)); with_reducible assumption) | ((refine .inr ?_); with_reducible assumption)))))), ?_⟩
        exact ⟨by rw [if_pos (.inr (.inl hb))]; rfl, rfl⟩
      · by_cases hd : N < fr
        · refine AWP.skip ?_
          refine athen_n ?_
          refine AWP.seq ?_
          refine AWP.block ?_
          refine AWP.seq ?_
          refine AWP.region ?_
          refine ARun.calm rfl rfl (lit_lt rfl) (Calm.move rfl) ?_
          refine ARun.calm rfl rfl (lit_lt rfl) (Calm.bin rfl rfl (by first | exact bin_bool (bin_lss _ _) (decide_eq_true (by omega)) | exact bin_bool (bin_lss _ _) (decide_eq_false (by omega)) | exact bin_lss _ _)) ?_
          refine ARun.calm rfl rfl (lit_lt rfl) (Calm.move rfl) ?_
          first | refine ARun.skipG 2 false _ 21 rfl rfl (lit_lt rfl) rfl rfl rfl (lit_lt rfl) ?_ | refine ARun.skipU 2 false 21 rfl rfl (lit_lt rfl) rfl rfl (lit_lt rfl) ?_ | refine ARun.calmG 2 false 21 rfl rfl (lit_lt rfl) rfl rfl (lit_lt rfl) (Calm.move rfl) ?_
          first | refine ARun.skipG 2 false _ 21 rfl rfl (lit_lt rfl) rfl rfl rfl (lit_lt rfl) ?_ | refine ARun.skipU 2 false 21 rfl rfl (lit_lt rfl) rfl rfl (lit_lt rfl) ?_ | refine ARun.calmG 2 false 21 rfl rfl (lit_lt rfl) rfl rfl (lit_lt rfl) (Calm.bin rfl rfl (by first | exact bin_bool (bin_lss _ _) (decide_eq_true (by omega)) | exact bin_bool (bin_lss _ _) (decide_eq_false (by omega)) | exact bin_lss _ _)) ?_
          refine ARun.calm rfl rfl (lit_lt rfl) ((by first | exact Calm.pickT rfl rfl | exact Calm.pickF rfl rfl)) ?_
          refine ARun.calm rfl rfl (lit_lt rfl) (Calm.move rfl) ?_
          first | refine ARun.skipG 6 false _ 25 rfl rfl (lit_lt rfl) rfl rfl rfl (lit_lt rfl) ?_ | refine ARun.skipU 6 false 25 rfl rfl (lit_lt rfl) rfl rfl (lit_lt rfl) ?_ | refine ARun.calmG 6 false 25 rfl rfl (lit_lt rfl) rfl rfl (lit_lt rfl) (Calm.move rfl) ?_
          first | refine ARun.skipG 6 false _ 25 rfl rfl (lit_lt rfl) rfl rfl rfl (lit_lt rfl) ?_ | refine ARun.skipU 6 false 25 rfl rfl (lit_lt rfl) rfl rfl (lit_lt rfl) ?_ | refine ARun.calmG 6 false 25 rfl rfl (lit_lt rfl) rfl rfl (lit_lt rfl) (Calm.fieldAddr ty_field_23_1 rfl) ?_
          first | refine ARun.skipG 6 false _ 25 rfl rfl (lit_lt rfl) rfl rfl rfl (lit_lt rfl) ?_ | refine ARun.skipU 6 false 25 rfl rfl (lit_lt rfl) rfl rfl (lit_lt rfl) ?_ | refine ARun.calmG 6 false 25 rfl rfl (lit_lt rfl) rfl rfl (lit_lt rfl) (Calm.load ty_plain_3 rfl ((by (repeat ((with_reducible refine (rd_set_ne _ _ ?_).trans ?_); (first | assumption | (apply Ne.symm; assumption)))); (first | ((with_reducible refine (rd_set_same _ _ _ _).trans ?_); rfl) | ((with_reducible apply rd_own'); (with_reducible assumption); rfl) | with_reducible assumption)))) ?_
          first | refine ARun.skipG 6 false _ 25 rfl rfl (lit_lt rfl) rfl rfl rfl (lit_lt rfl) ?_ | refine ARun.skipU 6 false 25 rfl rfl (lit_lt rfl) rfl rfl (lit_lt rfl) ?_ | refine ARun.calmG 6 false 25 rfl rfl (lit_lt rfl) rfl rfl (lit_lt rfl) (Calm.bin rfl rfl (by first | exact bin_bool (bin_gtr _ _) (decide_eq_true (by omega)) | exact bin_bool (bin_gtr _ _) (decide_eq_false (by omega)) | exact bin_gtr _ _)) ?_
          refine ARun.calm rfl rfl (lit_lt rfl) ((by first | exact Calm.pickT rfl rfl | exact Calm.pickF rfl rfl)) ?_
          refine ARun.calm rfl rfl (lit_lt rfl) (Calm.assign rfl) ?_
          refine arun_nil ?_
          refine athen_n ?_
          refine AWP.sub [(0, _), (1, _), (2, _), (3, _), (6, _), (7, _), (8, _), (15, _), (18, _)] ⟨rfl, rfl, rfl, rfl, rfl, rfl, rfl, rfl, rfl, trivial⟩ ?_
          refine AWP.condT rfl (by first | rfl | (simp; done) | (simp; omega)) ?_
          refine AWP.seq ?_
          refine AWP.region ?_
          refine ARun.calm rfl rfl (lit_lt rfl) (Calm.build (cs := [_, _]) ty_bld_23 rfl rfl) ?_
          first | refine ARun.storeAll rfl rfl ty_size_23 ((by (repeat first | ((with_reducible refine (Mem.own_set_other _ _ ?_).trans ?_); (first | assumption | (apply Ne.symm; assumption))) | ((with_reducible refine (Mem.own_del_other _ ?_).trans ?_); (first | assumption | (apply Ne.symm; assumption)))); (first | with_reducible exact Mem.own_set_same _ _ _ | with_reducible assumption | exact Mem.own_set_same _ _ _))) rfl rfl ?_ | refine ARun.store rfl rfl ty_size_23 ((by (repeat first | ((with_reducible refine (Mem.own_set_other _ _ ?_).trans ?_); (first | assumption | (apply Ne.symm; assumption))) | ((with_reducible refine (Mem.own_del_other _ ?_).trans ?_); (first | assumption | (apply Ne.symm; assumption)))); (first | with_reducible exact Mem.own_set_same _ _ _ | with_reducible assumption | exact Mem.own_set_same _ _ _))) ((by first | decide | (simp; done) | (simp; omega) | omega)) rfl ?_
          (try simp only [Mem.set_set, List.set_cons_zero, List.set_cons_succ, Nat.zero_add, Nat.reduceAdd])
          refine ARun.calm rfl rfl (lit_lt rfl) (Calm.assign rfl) ?_
          refine arun_nil ?_
          refine athen_n ?_
          refine AWP.sub [(0, _), (1, _), (2, _), (3, _), (6, _), (7, _), (8, _), (15, _), (18, _)] ⟨rfl, rfl, rfl, rfl, rfl, rfl, rfl, rfl, rfl, trivial⟩ ?_
          refine AWP.ret ?_
          refine ain_ret ?_
          refine athen_ret ?_
          refine ⟨_, S, ⟨_, _, _, rfl, .inr ⟨ty_agg_23, [_, _], ty_size_23, (by first | with_reducible assumption | ((repeat (apply rds_cons; ((repeat ((with_reducible refine (rd_set_ne _ _ ?_).trans ?_); (first | assumption | (apply Ne.symm; assumption)))); (first | ((with_reducible refine (rd_set_same _ _ _ _).trans ?_); rfl) | ((with_reducible apply rd_own'); (with_reducible assumption); rfl) | with_reducible assumption)))); exact rds_nil _ _)), rfl⟩, ⟨_, _, rfl, rfl, rfl⟩, rfl⟩, (by first | with_reducible exact Mem.Less.refl _ | ((with_reducible refine Mem.less_set _ _ _ (Fresh.own ?_)); with_reducible assumption) | (refine less_of ?_; (repeat first | with_reducible exact LessB.refl _ _ | ((with_reducible refine LessB.set ?_ ?_); ((repeat first | ((with_reducible refine (Mem.own_set_other _ _ ?_).trans ?_); (first | assumption | (apply Ne.symm; assumption))) | ((with_reducible refine (Mem.own_del_other _ ?_).trans ?_); (first | assumption | (apply Ne.symm; assumption)))); (first | with_reducible exact Mem.own_set_same _ _ _ | with_reducible assumption | exact Mem.own_set_same _ _ _))) | (with_reducible refine LessB.delL ?_)); (repeat first | with_reducible exact LessB.refl _ _ | ((with_reducible refine LessB.of ?_); with_reducible assumption) | ((with_reducible refine LessB.skip ?_ ?_); (first | ((refine .inl ?_); simp; done) | ((refine .inr (Fresh.own ?_)); with_reducible assumption) | ((refine .inr ?_); with_reducible assumption))) | ((with_reducible refine LessB.skipDel ?_ ?_); (first | ((refine .inl ?_); simp; done) | ((refine .inr (Fresh.own ?_)); with_reducible assumption) | ((refine .inr ?_); with_reducible assumption)))))), ?_⟩
          exact ⟨by rw [if_pos (.inr (.inr hd))]; rfl, rfl⟩
        · rw [if_neg (fun h => by rcases h with h | h | h; exact ha h; exact hb h; exact hd h)]
          refine AWP.skip ?_
          refine athen_n ?_
          refine AWP.seq ?_
          refine AWP.block ?_
          refine AWP.seq ?_
          refine AWP.region ?_
          refine ARun.calm rfl rfl (lit_lt rfl) (Calm.move rfl) ?_
          refine ARun.calm rfl rfl (lit_lt rfl) (Calm.bin rfl rfl (by first | exact bin_bool (bin_lss _ _) (decide_eq_true (by omega)) | exact bin_bool (bin_lss _ _) (decide_eq_false (by omega)) | exact bin_lss _ _)) ?_
          refine ARun.calm rfl rfl (lit_lt rfl) (Calm.move rfl) ?_
          first | refine ARun.skipG 2 false _ 21 rfl rfl (lit_lt rfl) rfl rfl rfl (lit_lt rfl) ?_ | refine ARun.skipU 2 false 21 rfl rfl (lit_lt rfl) rfl rfl (lit_lt rfl) ?_ | refine ARun.calmG 2 false 21 rfl rfl (lit_lt rfl) rfl rfl (lit_lt rfl) (Calm.move rfl) ?_
          first | refine ARun.skipG 2 false _ 21 rfl rfl (lit_lt rfl) rfl rfl rfl (lit_lt rfl) ?_ | refine ARun.skipU 2 false 21 rfl rfl (lit_lt rfl) rfl rfl (lit_lt rfl) ?_ | refine ARun.calmG 2 false 21 rfl rfl (lit_lt rfl) rfl rfl (lit_lt rfl) (Calm.bin rfl rfl (by first | exact bin_bool (bin_lss _ _) (decide_eq_true (by omega)) | exact bin_bool (bin_lss _ _) (decide_eq_false (by omega)) | exact bin_lss _ _)) ?_
          refine ARun.calm rfl rfl (lit_lt rfl) ((by first | exact Calm.pickT rfl rfl | exact Calm.pickF rfl rfl)) ?_
          refine ARun.calm rfl rfl (lit_lt rfl) (Calm.move rfl) ?_
          first | refine ARun.skipG 6 false _ 25 rfl rfl (lit_lt rfl) rfl rfl rfl (lit_lt rfl) ?_ | refine ARun.skipU 6 false 25 rfl rfl (lit_lt rfl) rfl rfl (lit_lt rfl) ?_ | refine ARun.calmG 6 false 25 rfl rfl (lit_lt rfl) rfl rfl (lit_lt rfl) (Calm.move rfl) ?_
          first | refine ARun.skipG 6 false _ 25 rfl rfl (lit_lt rfl) rfl rfl rfl (lit_lt rfl) ?_ | refine ARun.skipU 6 false 25 rfl rfl (lit_lt rfl) rfl rfl (lit_lt rfl) ?_ | refine ARun.calmG 6 false 25 rfl rfl (lit_lt rfl) rfl rfl (lit_lt rfl) (Calm.fieldAddr ty_field_23_1 rfl) ?_
          first | refine ARun.skipG 6 false _ 25 rfl rfl (lit_lt rfl) rfl rfl rfl (lit_lt rfl) ?_ | refine ARun.skipU 6 false 25 rfl rfl (lit_lt rfl) rfl rfl (lit_lt rfl) ?_ | refine ARun.calmG 6 false 25 rfl rfl (lit_lt rfl) rfl rfl (lit_lt rfl) (Calm.load ty_plain_3 rfl ((by (repeat ((with_reducible refine (rd_set_ne _ _ ?_).trans ?_); (first | assumption | (apply Ne.symm; assumption)))); (first | ((with_reducible refine (rd_set_same _ _ _ _).trans ?_); rfl) | ((with_reducible apply rd_own'); (with_reducible assumption); rfl) | with_reducible assumption)))) ?_
          first | refine ARun.skipG 6 false _ 25 rfl rfl (lit_lt rfl) rfl rfl rfl (lit_lt rfl) ?_ | refine ARun.skipU 6 false 25 rfl rfl (lit_lt rfl) rfl rfl (lit_lt rfl) ?_ | refine ARun.calmG 6 false 25 rfl rfl (lit_lt rfl) rfl rfl (lit_lt rfl) (Calm.bin rfl rfl (by first | exact bin_bool (bin_gtr _ _) (decide_eq_true (by omega)) | exact bin_bool (bin_gtr _ _) (decide_eq_false (by omega)) | exact bin_gtr _ _)) ?_
          refine ARun.calm rfl rfl (lit_lt rfl) ((by first | exact Calm.pickT rfl rfl | exact Calm.pickF rfl rfl)) ?_
          refine ARun.calm rfl rfl (lit_lt rfl) (Calm.assign rfl) ?_
          refine arun_nil ?_
          refine athen_n ?_
          refine AWP.sub [(0, _), (1, _), (2, _), (3, _), (6, _), (7, _), (8, _), (15, _), (18, _)] ⟨rfl, rfl, rfl, rfl, rfl, rfl, rfl, rfl, rfl, trivial⟩ ?_
          refine AWP.condF rfl (by first | rfl | (simp; done) | (simp; omega)) ?_
          refine AWP.seq ?_
          refine AWP.region ?_
          refine ARun.calm rfl rfl (lit_lt rfl) (Calm.move rfl) ?_
          refine ARun.calm rfl rfl (lit_lt rfl) (Calm.fieldAddr ty_field_23_1 rfl) ?_
          refine ARun.calm rfl rfl (lit_lt rfl) (Calm.load ty_plain_3 rfl ((by (repeat ((with_reducible refine (rd_set_ne _ _ ?_).trans ?_); (first | assumption | (apply Ne.symm; assumption)))); (first | ((with_reducible refine (rd_set_same _ _ _ _).trans ?_); rfl) | ((with_reducible apply rd_own'); (with_reducible assumption); rfl) | with_reducible assumption)))) ?_
          refine ARun.calm rfl rfl (lit_lt rfl) (Calm.move rfl) ?_
          refine ARun.calm rfl rfl (lit_lt rfl) (Calm.bin rfl rfl (by first | exact bin_subW (IntWalk.i64_in _ (by omega)) | exact bin_sub _ _)) ?_
          refine ARun.calm rfl rfl (lit_lt rfl) (Calm.bin rfl rfl (by first | exact bin_bool (bin_gtr _ _) (decide_eq_true (by omega)) | exact bin_bool (bin_gtr _ _) (decide_eq_false (by omega)) | exact bin_gtr _ _)) ?_
          refine ARun.calm rfl rfl (lit_lt rfl) (Calm.assign rfl) ?_
          refine arun_nil ?_
          refine athen_n ?_
          refine AWP.sub [(0, _), (1, _), (2, _), (3, _), (6, _), (7, _), (8, _), (15, _), (18, _), (32, _)] ⟨rfl, rfl, rfl, rfl, rfl, rfl, rfl, rfl, rfl, rfl, trivial⟩ ?_
          refine AWP.condB rfl (fun hf => ?_) (fun hf => ?_)
          · have hf := of_decide_eq_true hf
            refine AWP.seq ?_
            refine AWP.region ?_
            refine ARun.calm rfl rfl (lit_lt rfl) (Calm.build (cs := [_, _]) ty_bld_23 rfl rfl) ?_
            first | refine ARun.storeAll rfl rfl ty_size_23 ((by (repeat first | ((with_reducible refine (Mem.own_set_other _ _ ?_).trans ?_); (first | assumption | (apply Ne.symm; assumption))) | ((with_reducible refine (Mem.own_del_other _ ?_).trans ?_); (first | assumption | (apply Ne.symm; assumption)))); (first | with_reducible exact Mem.own_set_same _ _ _ | with_reducible assumption | exact Mem.own_set_same _ _ _))) rfl rfl ?_ | refine ARun.store rfl rfl ty_size_23 ((by (repeat first | ((with_reducible refine (Mem.own_set_other _ _ ?_).trans ?_); (first | assumption | (apply Ne.symm; assumption))) | ((with_reducible refine (Mem.own_del_other _ ?_).trans ?_); (first | assumption | (apply Ne.symm; assumption)))); (first | with_reducible exact Mem.own_set_same _ _ _ | with_reducible assumption | exact Mem.own_set_same _ _ _))) ((by first | decide | (simp; done) | (simp; omega) | omega)) rfl ?_
            (try simp only [Mem.set_set, List.set_cons_zero, List.set_cons_succ, Nat.zero_add, Nat.reduceAdd])
            refine ARun.calm rfl rfl (lit_lt rfl) (Calm.assign rfl) ?_
            refine arun_nil ?_
            refine athen_n ?_
            refine AWP.sub [(0, _), (1, _), (2, _), (3, _), (6, _), (7, _), (8, _), (15, _), (18, _), (32, _)] ⟨rfl, rfl, rfl, rfl, rfl, rfl, rfl, rfl, rfl, rfl, trivial⟩ ?_
            refine AWP.ret ?_
            refine ain_ret ?_
            refine athen_ret ?_
            refine ⟨_, S, ⟨_, _, _, rfl, .inr ⟨ty_agg_23, [_, _], ty_size_23, (by first | with_reducible assumption | ((repeat (apply rds_cons; ((repeat ((with_reducible refine (rd_set_ne _ _ ?_).trans ?_); (first | assumption | (apply Ne.symm; assumption)))); (first | ((with_reducible refine (rd_set_same _ _ _ _).trans ?_); rfl) | ((with_reducible apply rd_own'); (with_reducible assumption); rfl) | with_reducible assumption)))); exact rds_nil _ _)), rfl⟩, ⟨_, _, rfl, rfl, rfl⟩, rfl⟩, (by first | with_reducible exact Mem.Less.refl _ | ((with_reducible refine Mem.less_set _ _ _ (Fresh.own ?_)); with_reducible assumption) | (refine less_of ?_; (repeat first | with_reducible exact LessB.refl _ _ | ((with_reducible refine LessB.set ?_ ?_); ((repeat first | ((with_reducible refine (Mem.own_set_other _ _ ?_).trans ?_); (first | assumption | (apply Ne.symm; assumption))) | ((with_reducible refine (Mem.own_del_other _ ?_).trans ?_); (first | assumption | (apply Ne.symm; assumption)))); (first | with_reducible exact Mem.own_set_same _ _ _ | with_reducible assumption | exact Mem.own_set_same _ _ _))) | (with_reducible refine LessB.delL ?_)); (repeat first | with_reducible exact LessB.refl _ _ | ((with_reducible refine LessB.of ?_); with_reducible assumption) | ((with_reducible refine LessB.skip ?_ ?_); (first | ((refine .inl ?_); simp; done) | ((refine .inr (Fresh.own ?_)); with_reducible assumption) | ((refine .inr ?_); with_reducible assumption))) | ((with_reducible refine LessB.skipDel ?_ ?_); (first | ((refine .inl ?_); simp; done) | ((refine .inr (Fresh.own ?_)); with_reducible assumption) | ((refine .inr ?_); with_reducible assumption)))))), ?_⟩
            exact ⟨by rw [if_pos hf]; rfl, rfl⟩
          · have hf := of_decide_eq_false hf
            rw [if_neg hf]
            have hs1 : s.size = (N.toNat + 7) / 8 := by rw [← hR.1]; exact size_list s
            obtain ⟨f, rfl⟩ : ∃ f : Nat, fr = f := ⟨fr.toNat, by omega⟩
            obtain ⟨m, rfl⟩ : ∃ m : Nat, n = m := ⟨n.toNat, by omega⟩
            refine AWP.skip ?_
            refine ain_n ?_
            refine athen_n ?_
            refine AWP.seq ?_
            refine AWP.region ?_
            refine ARun.calm rfl rfl (lit_lt rfl) (Calm.build (cs := [_, _, _]) ty_bld_65 rfl rfl) ?_
            refine ARun.boxA (cs := [_, _, _]) (lit_lt rfl) rfl ?_
            intro b41 f41
            have g41 := f41
            repeat ((with_reducible replace g41 := fresh_set g41); obtain ⟨g41, _⟩ := g41)
            (try simp only [List.length_cons, List.length_nil, Nat.zero_add, Nat.reduceAdd])
            refine ARun.calm rfl rfl (lit_lt rfl) (Calm.assign rfl) ?_
            refine arun_nil ?_
            refine athen_n ?_
            refine AWP.sub [(0, _), (1, _), (2, _), (3, _), (6, _), (7, _), (8, _), (15, _), (18, _), (32, _), (9, _)] ⟨rfl, rfl, rfl, rfl, rfl, rfl, rfl, rfl, rfl, rfl, rfl, trivial⟩ ?_
            rw [← wrM_nil]
            obtain ⟨SS, hSS⟩ : ∃ SS, SS = (S.set b3 ⟨23, [.string s, .int .i64 N], 2⟩).set b6 ⟨23, [.string ByteArray.empty, .int .i64 0], 2⟩ := ⟨_, rfl⟩
            have hS3 : SS.own b3 = some ⟨23, [.string s, .int .i64 N], 2⟩ := by rw [hSS]; exact ((by (repeat first | ((with_reducible refine (Mem.own_set_other _ _ ?_).trans ?_); (first | assumption | (apply Ne.symm; assumption))) | ((with_reducible refine (Mem.own_del_other _ ?_).trans ?_); (first | assumption | (apply Ne.symm; assumption)))); (first | with_reducible exact Mem.own_set_same _ _ _ | with_reducible assumption | exact Mem.own_set_same _ _ _)))
            rw [← hSS] at f41 ⊢
            refine AWP.seq ?_
            refine AWP.seq ?_
            refine AWP.region ?_
            refine ARun.calm rfl rfl (lit_lt rfl) (Calm.move rfl) ?_
            refine ARun.calm rfl rfl (lit_lt rfl) (Calm.assign rfl) ?_
            refine arun_nil ?_
            refine athen_n ?_
            refine AWP.sub [(0, _), (1, _), (2, _), (3, _), (6, _), (7, _), (8, _), (15, _), (18, _), (32, _), (9, _), (10, _)] ⟨rfl, rfl, rfl, rfl, rfl, rfl, rfl, rfl, rfl, rfl, rfl, rfl, trivial⟩ ?_
            refine AWP.block ?_
            refine AWP.loop (X := Nat × Option (Nat × Nat)) (fun x => [(1, .int .i64 f), (2, .int .i64 m), (3, .pointer (some ⟨b3, 0, none⟩)), (6, .pointer (some ⟨b6, 0, none⟩)), (9, .pointer (some ⟨b41, 0, none⟩)), (10, .int .i64 ((f + x.1 : Nat) : Int))]) (fun x => wrM SS b41 x.2 (slc s.data.toList f (min x.1 m))) (fun x => x.1 ≤ m + 7 ∧ x.1 % 8 = 0 ∧ OkW SS b41 x.2 (slc s.data.toList f (min x.1 m))) (fun x => m + 8 - x.1) ((0, none)) ⟨rfl, rfl, rfl, rfl, rfl, rfl, trivial⟩ (by show (wrM SS b41 none (slc s.data.toList f (min 0 m))).Less _; rw [Nat.zero_min, slc_zero]; exact Mem.Less.refl _) (⟨by omega, rfl, by rw [Nat.zero_min, slc_zero]; exact okW_nil f41⟩) ?_
            rintro ⟨q, ov⟩ ⟨hq, hq8, hk⟩
            (try dsimp only at *)
            have hm3 := own_wrM_ok hk hS3
            refine AWP.seq ?_
            refine AWP.seq ?_
            refine AWP.region ?_
            refine ARun.calm rfl rfl (lit_lt rfl) (Calm.move rfl) ?_
            refine ARun.calm rfl rfl (lit_lt rfl) (Calm.move rfl) ?_
            refine ARun.calm rfl rfl (lit_lt rfl) (Calm.move rfl) ?_
            refine ARun.calm rfl rfl (lit_lt rfl) (Calm.bin rfl rfl (by first | exact bin_addW (IntWalk.i64_in _ (by omega)) | exact bin_add _ _)) ?_
            refine ARun.calm rfl rfl (lit_lt rfl) (Calm.bin rfl rfl (by first | exact bin_bool (bin_lss _ _) (decide_eq_true (by omega)) | exact bin_bool (bin_lss _ _) (decide_eq_false (by omega)) | exact bin_lss _ _)) ?_
            refine arun_nil ?_
            refine athen_n ?_
            refine AWP.sub [(1, _), (2, _), (3, _), (6, _), (9, _), (10, _), (47, _)] ⟨rfl, rfl, rfl, rfl, rfl, rfl, rfl, trivial⟩ ?_
            refine AWP.condB rfl (fun hl => ?_) (fun hl => ?_)
            · have hl : q < m := by have := of_decide_eq_true hl; omega
              obtain ⟨k, hkm⟩ : ∃ k : Nat, (k : Int) = min 8 ((f : Int) + m - ((f + q : Nat) : Int)) := ⟨(min 8 ((f : Int) + m - ((f + q : Nat) : Int))).toNat, by omega⟩
              refine AWP.skip ?_
              refine athen_n ?_
              refine AWP.seq ?_
              refine AWP.block ?_
              refine AWP.seq ?_
              refine AWP.region ?_
              refine ARun.calm rfl rfl (lit_lt rfl) (Calm.move rfl) ?_
              refine ARun.calm rfl rfl (lit_lt rfl) (Calm.move rfl) ?_
              refine ARun.calm rfl rfl (lit_lt rfl) (Calm.bin rfl rfl (by first | exact bin_addW (IntWalk.i64_in _ (by omega)) | exact bin_add _ _)) ?_
              refine ARun.calm rfl rfl (lit_lt rfl) (Calm.move rfl) ?_
              refine ARun.calm rfl rfl (lit_lt rfl) (Calm.bin rfl rfl (by first | exact bin_subW (IntWalk.i64_in _ (by omega)) | exact bin_sub _ _)) ?_
              refine ARun.calm rfl rfl (lit_lt rfl) (Calm.minE hkm rfl rfl) ?_
              refine ARun.calm rfl rfl (lit_lt rfl) (Calm.assign rfl) ?_
              refine arun_nil ?_
              refine athen_n ?_
              refine AWP.sub [(1, _), (2, _), (3, _), (6, _), (9, _), (10, _), (47, _), (11, _)] ⟨rfl, rfl, rfl, rfl, rfl, rfl, rfl, rfl, trivial⟩ ?_
              refine AWP.region ?_
              refine ARun.calm rfl rfl (lit_lt rfl) (Calm.move rfl) ?_
              refine ARun.calm rfl rfl (lit_lt rfl) (Calm.loadA ty_agg_23 (cs := [_, _]) ty_size_23 rfl ((by first | with_reducible assumption | ((repeat (apply rds_cons; ((repeat ((with_reducible refine (rd_set_ne _ _ ?_).trans ?_); (first | assumption | (apply Ne.symm; assumption)))); (first | ((with_reducible refine (rd_set_same _ _ _ _).trans ?_); rfl) | ((with_reducible apply rd_own'); (with_reducible assumption); rfl) | with_reducible assumption)))); exact rds_nil _ _)))) ?_
              refine ARun.calm rfl rfl (lit_lt rfl) (Calm.move rfl) ?_
              refine ARun.calm rfl rfl (lit_lt rfl) (Calm.move rfl) ?_
              refine ARun.call (lit_lt rfl) go_54 rfl (ACall.of_calls fun w => bits_At s (by omega) N _ _ w (by omega) (by omega) (by omega) (by omega)) ?_
              rintro _ _ ⟨rfl, rfl⟩
              refine ARun.calm rfl rfl (lit_lt rfl) (Calm.move rfl) ?_
              refine ARun.call (lit_lt rfl) go_50 rfl (bitsV_AddI b41 _ _ _ ov _ (by omega) (by omega) (by omega) (by have := num_u64 s.data.toList ((f + q : Nat) : Int).toNat (k : Int).toNat (by omega); omega) (by rw [slc_length]; omega) hk) ?_
              rintro _ _ ⟨rfl, on, hkn, rfl⟩
              have e9 : slc s.data.toList f (min q m) ++ numB (num (slc s.data.toList ((f + q : Nat) : Int).toNat (k : Int).toNat) : Int).toNat (k : Int).toNat = slc s.data.toList f (min (q + 8) m) := by
                simp only [Int.toNat_natCast]; rw [numB_slc, Nat.min_eq_left (by omega : q ≤ m), show min (q + 8) m = q + k from by omega, slc_add]
              rw [e9] at hkn ⊢
              refine arun_nil ?_
              refine ain_n ?_
              refine athen_n ?_
              refine AWP.sub [(1, _), (2, _), (3, _), (6, _), (9, _), (10, _), (47, _), (11, _)] ⟨rfl, rfl, rfl, rfl, rfl, rfl, rfl, rfl, trivial⟩ ?_
              refine AWP.region ?_
              refine ARun.calm rfl rfl (lit_lt rfl) (Calm.move rfl) ?_
              refine ARun.calm rfl rfl (lit_lt rfl) (Calm.bin rfl rfl (by first | exact bin_addW (IntWalk.i64_in _ (by omega)) | exact bin_add _ _)) ?_
              refine ARun.calm rfl rfl (lit_lt rfl) (Calm.assign rfl) ?_
              refine arun_nil ?_
              refine athen_n ?_
              refine ⟨(q + 8, on), ?_, ?_, ?_, ?_⟩
              all_goals (try dsimp only)
              · exact ⟨rfl, rfl, rfl, rfl, rfl, some_int (by omega), trivial⟩
              · exact Mem.Less.refl _
              · exact ⟨by omega, by omega, hkn⟩
              · omega
            · have hl : m ≤ q := by have := of_decide_eq_false hl; omega
              rw [Nat.min_eq_right hl] at hk ⊢
              refine AWP.exit ?_
              refine athen_exit ?_
              refine athen_exit ?_
              refine ain_same ?_
              refine athen_n ?_
              refine AWP.seq ?_
              refine AWP.region ?_
              refine ARun.calm rfl rfl (lit_lt rfl) (Calm.move rfl) ?_
              refine ARun.call (lit_lt rfl) go_51 rfl (bitsV_Bits b41 _ ov _ (by rw [slc_length]; omega) hk) ?_
              rintro _ _ ⟨rfl, rfl⟩
              rw [hSS]
              first | refine ARun.storeAll rfl rfl ty_size_23 ((by (repeat first | ((with_reducible refine (Mem.own_set_other _ _ ?_).trans ?_); (first | assumption | (apply Ne.symm; assumption))) | ((with_reducible refine (Mem.own_del_other _ ?_).trans ?_); (first | assumption | (apply Ne.symm; assumption)))); (first | with_reducible exact Mem.own_set_same _ _ _ | with_reducible assumption | exact Mem.own_set_same _ _ _))) rfl rfl ?_ | refine ARun.store rfl rfl ty_size_23 ((by (repeat first | ((with_reducible refine (Mem.own_set_other _ _ ?_).trans ?_); (first | assumption | (apply Ne.symm; assumption))) | ((with_reducible refine (Mem.own_del_other _ ?_).trans ?_); (first | assumption | (apply Ne.symm; assumption)))); (first | with_reducible exact Mem.own_set_same _ _ _ | with_reducible assumption | exact Mem.own_set_same _ _ _))) ((by first | decide | (simp; done) | (simp; omega) | omega)) rfl ?_
              (try simp only [Mem.set_set, List.set_cons_zero, List.set_cons_succ, Nat.zero_add, Nat.reduceAdd])
              refine ARun.calm rfl rfl (lit_lt rfl) (Calm.assign rfl) ?_
              refine arun_nil ?_
              refine athen_n ?_
              refine AWP.sub [(1, _), (2, _), (3, _), (6, _), (9, _), (10, _), (47, _), (7, _)] ⟨rfl, rfl, rfl, rfl, rfl, rfl, rfl, rfl, trivial⟩ ?_
              refine AWP.ret ?_
              refine ⟨_, S, ⟨_, _, _, rfl, .inr ⟨ty_agg_23, [_, _], ty_size_23, (by first | with_reducible assumption | ((repeat (apply rds_cons; ((repeat ((with_reducible refine (rd_set_ne _ _ ?_).trans ?_); (first | assumption | (apply Ne.symm; assumption)))); (first | ((with_reducible refine (rd_set_same _ _ _ _).trans ?_); rfl) | ((with_reducible apply rd_own'); (with_reducible assumption); rfl) | with_reducible assumption)))); exact rds_nil _ _)), rfl⟩, ⟨_, _, rfl, rfl, rfl⟩, rfl⟩, (by first | with_reducible exact Mem.Less.refl _ | ((with_reducible refine Mem.less_set _ _ _ (Fresh.own ?_)); with_reducible assumption) | (refine less_of ?_; (repeat first | with_reducible exact LessB.refl _ _ | ((with_reducible refine LessB.set ?_ ?_); ((repeat first | ((with_reducible refine (Mem.own_set_other _ _ ?_).trans ?_); (first | assumption | (apply Ne.symm; assumption))) | ((with_reducible refine (Mem.own_del_other _ ?_).trans ?_); (first | assumption | (apply Ne.symm; assumption)))); (first | with_reducible exact Mem.own_set_same _ _ _ | with_reducible assumption | exact Mem.own_set_same _ _ _))) | (with_reducible refine LessB.delL ?_)); (repeat first | with_reducible exact LessB.refl _ _ | ((with_reducible refine LessB.of ?_); with_reducible assumption) | ((with_reducible refine LessB.skip ?_ ?_); (first | ((refine .inl ?_); simp; done) | ((refine .inr (Fresh.own ?_)); with_reducible assumption) | ((refine .inr ?_); with_reducible assumption))) | ((with_reducible refine LessB.skipDel ?_ ?_); (first | ((refine .inl ?_); simp; done) | ((refine .inr (Fresh.own ?_)); with_reducible assumption) | ((refine .inr ?_); with_reducible assumption)))))), ?_⟩
              exact ⟨by simp only [slc_length, Int.toNat_natCast, two, bv, one], rfl⟩
end Go.Proofs.Ytpeljbmbgjeomaa
