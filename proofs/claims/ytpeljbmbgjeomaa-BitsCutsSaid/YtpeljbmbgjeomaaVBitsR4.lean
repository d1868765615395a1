/-
  The walk of the document's answer, fourth part: Cat.
-/
import Derived.Test.YtpeljbmbgjeomaaVBitsR3
namespace Go.Proofs.Ytpeljbmbgjeomaa
open Go.RowKit
open Bits Mv
set_option linter.unusedVariables false
set_option linter.unusedSimpArgs false
set_option maxHeartbeats 4000000 in
theorem refV_Cat (s : ByteArray) (N : Int) (a : Option Addr) (len cap : Nat) (xs : List (ByteArray × Int)) (S : Mem) (hs : s.size ≤ 9223372036854775807) (hx : IsBv S a len xs) :
    ACall Try.prog 23 #[.agg #[.string s, .int .i64 N], .slice a len cap] S fun r S' => r = catP s N xs ∧ S' = S := by
  unfold catP
  obtain ⟨hx1, hx2, hx3, hx4⟩ := hx
  refine ACall.enter (args := [.agg #[.string s, .int .i64 N], .slice a len cap]) (rs := [.cell 4 23, .tmp 5]) 39 [(0, .agg #[.string s, .int .i64 N]), (1, .slice a len cap)] Try.func23 rfl rfl (Nat.le_of_ble_eq_true rfl) rfl ⟨rfl, rfl, trivial⟩ ?_
  refine AWP.seq ?_
  refine AWP.region ?_
  refine ARun.boxA (cs := [_, _]) (lit_lt rfl) rfl ?_
  intro b2 f2
  have g2 := f2
  repeat ((with_reducible replace g2 := fresh_set g2); obtain ⟨g2, _⟩ := g2)
  (try simp only [List.length_cons, List.length_nil, Nat.zero_add, Nat.reduceAdd])
  refine ARun.alloc (lit_lt rfl) ty_zero_23 ?_
  intro b4 f4
  have g4 := f4
  repeat ((with_reducible replace g4 := fresh_set g4); obtain ⟨g4, _⟩ := g4)
  (try simp only [List.length_cons, List.length_nil, Nat.zero_add, Nat.reduceAdd])
  refine ARun.calm rfl rfl (lit_lt rfl) (Calm.assign rfl) ?_
  refine arun_nil ?_
  refine athen_n ?_
  refine AWP.seq ?_
  refine AWP.seq ?_
  refine AWP.region ?_
  refine ARun.calm rfl rfl (lit_lt rfl) (Calm.loadA ty_agg_23 (cs := [_, _]) ty_size_23 rfl ((by first | with_reducible assumption | ((repeat (apply rds_cons; ((repeat ((with_reducible refine (rd_set_ne _ _ ?_).trans ?_); (first | assumption | (apply Ne.symm; assumption)))); (first | ((with_reducible refine (rd_set_same _ _ _ _).trans ?_); rfl) | ((with_reducible apply rd_own'); (with_reducible assumption); rfl) | with_reducible assumption)))); exact rds_nil _ _)))) ?_
  refine ARun.call (lit_lt rfl) go_21 rfl (refV_Check s N _ hs) ?_
  rintro _ _ ⟨rfl, rfl⟩
  refine ARun.calm rfl rfl (lit_lt rfl) (Calm.bin rfl rfl (by first | exact bin_bool (bin_neq _ _) (bnot_dec_true (by omega)) | exact bin_bool (bin_neq _ _) (bnot_dec_false (by omega)) | exact bin_neq _ _)) ?_
  refine arun_nil ?_
  refine athen_n ?_
  refine AWP.sub [(0, _), (1, _), (2, _), (4, _), (5, _), (11, _)] ⟨rfl, rfl, rfl, rfl, rfl, rfl, trivial⟩ ?_
  refine AWP.condB rfl (fun hc => ?_) (fun hc => ?_)
  · have hc := bnot_t hc
    refine AWP.seq ?_
    refine AWP.region ?_
    refine ARun.calm rfl rfl (lit_lt rfl) (Calm.build (cs := [_, _]) ty_bld_23 rfl rfl) ?_
    first | refine ARun.storeAll rfl rfl ty_size_23 ((by (repeat first | ((with_reducible refine (Mem.own_set_other _ _ ?_).trans ?_); (first | assumption | (apply Ne.symm; assumption))) | ((with_reducible refine (Mem.own_del_other _ ?_).trans ?_); (first | assumption | (apply Ne.symm; assumption)))); (first | with_reducible exact Mem.own_set_same _ _ _ | with_reducible assumption | exact Mem.own_set_same _ _ _))) rfl rfl ?_ | refine ARun.store rfl rfl ty_size_23 ((by (repeat first | ((with_reducible refine (Mem.own_set_other _ _ ?_).trans ?_); (first | assumption | (apply Ne.symm; assumption))) | ((with_reducible refine (Mem.own_del_other _ ?_).trans ?_); (first | assumption | (apply Ne.symm; assumption)))); (first | with_reducible exact Mem.own_set_same _ _ _ | with_reducible assumption | exact Mem.own_set_same _ _ _))) ((by first | decide | (simp; done) | (simp; omega) | omega)) rfl ?_
    (try simp only [Mem.set_set, List.set_cons_zero, List.set_cons_succ, Nat.zero_add, Nat.reduceAdd])
    refine ARun.calm rfl rfl (lit_lt rfl) (Calm.assign rfl) ?_
    refine arun_nil ?_
    refine athen_n ?_
    refine AWP.sub [(0, _), (1, _), (2, _), (4, _), (5, _), (11, _)] ⟨rfl, rfl, rfl, rfl, rfl, rfl, trivial⟩ ?_
    refine AWP.ret ?_
    refine athen_ret ?_
    refine ⟨_, S, ⟨_, _, _, rfl, .inr ⟨ty_agg_23, [_, _], ty_size_23, (by first | with_reducible assumption | ((repeat (apply rds_cons; ((repeat ((with_reducible refine (rd_set_ne _ _ ?_).trans ?_); (first | assumption | (apply Ne.symm; assumption)))); (first | ((with_reducible refine (rd_set_same _ _ _ _).trans ?_); rfl) | ((with_reducible apply rd_own'); (with_reducible assumption); rfl) | with_reducible assumption)))); exact rds_nil _ _)), rfl⟩, ⟨_, _, rfl, rfl, rfl⟩, rfl⟩, (by first | with_reducible exact Mem.Less.refl _ | ((with_reducible refine Mem.less_set _ _ _ (Fresh.own ?_)); with_reducible assumption) | (refine less_of ?_; (repeat first | with_reducible exact LessB.refl _ _ | ((with_reducible refine LessB.set ?_ ?_); ((repeat first | ((with_reducible refine (Mem.own_set_other _ _ ?_).trans ?_); (first | assumption | (apply Ne.symm; assumption))) | ((with_reducible refine (Mem.own_del_other _ ?_).trans ?_); (first | assumption | (apply Ne.symm; assumption)))); (first | with_reducible exact Mem.own_set_same _ _ _ | with_reducible assumption | exact Mem.own_set_same _ _ _))) | (with_reducible refine LessB.delL ?_)); (repeat first | with_reducible exact LessB.refl _ _ | ((with_reducible refine LessB.of ?_); with_reducible assumption) | ((with_reducible refine LessB.skip ?_ ?_); (first | ((refine .inl ?_); simp; done) | ((refine .inr (Fresh.own ?_)); with_reducible assumption) | ((refine .inr ?_); with_reducible assumption))) | ((with_reducible refine LessB.skipDel ?_ ?_); (first | ((refine .inl ?_); simp; done) | ((refine .inr (Fresh.own ?_)); with_reducible assumption) | ((refine .inr ?_); with_reducible assumption)))))), ?_⟩
    exact ⟨by rw [if_pos hc]; rfl, rfl⟩
  · have hc := bnot_f hc
    rw [if_neg (fun h => h hc)]
    obtain ⟨hN0, hN1, hR⟩ := chk_right hc
    have hs1 : s.size = (N.toNat + 7) / 8 := by rw [← hR.1]; exact size_list s
    obtain ⟨K, rfl⟩ : ∃ K : Nat, N = K := ⟨N.toNat, by omega⟩
    refine AWP.skip ?_
    refine athen_n ?_
    refine AWP.seq ?_
    refine AWP.region ?_
    refine ARun.calm rfl rfl (lit_lt rfl) (Calm.loadA ty_agg_23 (cs := [_, _]) ty_size_23 rfl ((by first | with_reducible assumption | ((repeat (apply rds_cons; ((repeat ((with_reducible refine (rd_set_ne _ _ ?_).trans ?_); (first | assumption | (apply Ne.symm; assumption)))); (first | ((with_reducible refine (rd_set_same _ _ _ _).trans ?_); rfl) | ((with_reducible apply rd_own'); (with_reducible assumption); rfl) | with_reducible assumption)))); exact rds_nil _ _)))) ?_
    refine ARun.call (lit_lt rfl) go_52 rfl (refV_All s K _ (by omega) (by omega) (by omega)) ?_
    rintro _ _ ⟨o, ho, rfl, rfl⟩
    obtain ⟨SS, hSS⟩ : ∃ SS, SS = (S.set b2 ⟨23, [.string s, .int .i64 K], 2⟩).set b4 ⟨23, [.string ByteArray.empty, .int .i64 0], 2⟩ := ⟨_, rfl⟩
    have hS2 : SS.own b2 = some ⟨23, [.string s, .int .i64 K], 2⟩ := by rw [hSS]; exact ((by (repeat first | ((with_reducible refine (Mem.own_set_other _ _ ?_).trans ?_); (first | assumption | (apply Ne.symm; assumption))) | ((with_reducible refine (Mem.own_del_other _ ?_).trans ?_); (first | assumption | (apply Ne.symm; assumption)))); (first | with_reducible exact Mem.own_set_same _ _ _ | with_reducible assumption | exact Mem.own_set_same _ _ _)))
    have hS4 : SS.own b4 = some ⟨23, [.string ByteArray.empty, .int .i64 0], 2⟩ := by rw [hSS]; exact ((by (repeat first | ((with_reducible refine (Mem.own_set_other _ _ ?_).trans ?_); (first | assumption | (apply Ne.symm; assumption))) | ((with_reducible refine (Mem.own_del_other _ ?_).trans ?_); (first | assumption | (apply Ne.symm; assumption)))); (first | with_reducible exact Mem.own_set_same _ _ _ | with_reducible assumption | exact Mem.own_set_same _ _ _)))
    have hSl : S.Less SS := by rw [hSS]; exact ((by first | with_reducible exact Mem.Less.refl _ | ((with_reducible refine Mem.less_set _ _ _ (Fresh.own ?_)); with_reducible assumption) | (refine less_of ?_; (repeat first | with_reducible exact LessB.refl _ _ | ((with_reducible refine LessB.set ?_ ?_); ((repeat first | ((with_reducible refine (Mem.own_set_other _ _ ?_).trans ?_); (first | assumption | (apply Ne.symm; assumption))) | ((with_reducible refine (Mem.own_del_other _ ?_).trans ?_); (first | assumption | (apply Ne.symm; assumption)))); (first | with_reducible exact Mem.own_set_same _ _ _ | with_reducible assumption | exact Mem.own_set_same _ _ _))) | (with_reducible refine LessB.delL ?_)); (repeat first | with_reducible exact LessB.refl _ _ | ((with_reducible refine LessB.of ?_); with_reducible assumption) | ((with_reducible refine LessB.skip ?_ ?_); (first | ((refine .inl ?_); simp; done) | ((refine .inr (Fresh.own ?_)); with_reducible assumption) | ((refine .inr ?_); with_reducible assumption))) | ((with_reducible refine LessB.skipDel ?_ ?_); (first | ((refine .inl ?_); simp; done) | ((refine .inr (Fresh.own ?_)); with_reducible assumption) | ((refine .inr ?_); with_reducible assumption)))))))
    rw [← hSS] at ho ⊢
    refine ARun.calm rfl rfl (lit_lt rfl) (Calm.assign rfl) ?_
    refine arun_nil ?_
    refine athen_n ?_
    refine AWP.sub [(0, _), (1, _), (2, _), (4, _), (5, _), (11, _), (6, _)] ⟨rfl, rfl, rfl, rfl, rfl, rfl, rfl, trivial⟩ ?_
    refine AWP.seq ?_
    refine AWP.seq ?_
    refine AWP.region ?_
    refine ARun.calm rfl rfl (lit_lt rfl) (Calm.move rfl) ?_
    refine ARun.calm rfl rfl (lit_lt rfl) (Calm.lenSl Try.underlying36 rfl) ?_
    refine ARun.calm rfl rfl (lit_lt rfl) (Calm.move rfl) ?_
    refine arun_nil ?_
    refine athen_n ?_
    refine AWP.block ?_
    refine AWP.loop (X := Nat × List Bool × Option (Nat × Nat)) (fun x => [(2, .pointer (some ⟨b2, 0, none⟩)), (4, .pointer (some ⟨b4, 0, none⟩)), (6, outV x.2.2 x.2.1.length), (15, .slice a len cap), (16, .int .i64 len), (17, .int .i64 x.1)]) (fun x => outM SS x.2.2 4 (bl x.2.1)) (fun x => x.1 ≤ len ∧ x.2.1.length ≤ 1048576 ∧ catG s K (upto s.data.toList (K : Int).toNat) xs = catG s K x.2.1 (xs.drop x.1) ∧ OkO SS x.2.2 x.2.1.length) (fun x => len - x.1) ((0, upto s.data.toList K, o)) ⟨rfl, rfl, by dsimp only; rw [upto_length]; rfl, rfl, rfl, rfl, trivial⟩ (Mem.Less.refl _) (⟨Nat.zero_le _, by rw [upto_length]; omega, rfl, by rw [upto_length]; exact ho⟩) ?_
    rintro ⟨i, L, ov⟩ ⟨hi, hL, hg, hk⟩
    (try dsimp only at *)
    have hm2 := own_outM (e := 4) (cs := bl L) hk hS2
    have hm4 := own_outM (e := 4) (cs := bl L) hk hS4
    have hW := hSl.trans (outM_over (e := 4) (cs := bl L) hk)
    rw [hg]
    refine AWP.seq ?_
    refine AWP.region ?_
    refine ARun.calm rfl rfl (lit_lt rfl) (Calm.bin rfl rfl (by first | exact bin_bool (bin_lss _ _) (decide_eq_true (by omega)) | exact bin_bool (bin_lss _ _) (decide_eq_false (by omega)) | exact bin_lss _ _)) ?_
    refine arun_nil ?_
    refine athen_n ?_
    refine AWP.seq ?_
    refine AWP.condB rfl (fun hl => ?_) (fun hl => ?_)
    · have hl : i < len := by have := of_decide_eq_true hl; omega
      have hdrop : xs.drop i = xs[i] :: xs.drop (i + 1) := List.drop_eq_getElem_cons (by omega)
      have hszi := hx4 xs[i] (List.getElem_mem _)
      obtain ⟨b, off, rfl, hrow⟩ := hx3.resolve_left (by omega)
      have hki := (hrow i (by omega)).less hW
      rw [hdrop]
      generalize xs[i] = x at *
      obtain ⟨xb, xn⟩ := x
      dsimp only at *
      refine AWP.skip ?_
      refine athen_n ?_
      refine AWP.seq ?_
      refine AWP.block ?_
      refine AWP.seq ?_
      refine AWP.region ?_
      refine ARun.calm rfl rfl (lit_lt rfl) (Calm.indexS Try.underlying36 ty_size_23 rfl rfl (by omega) (by omega)) ?_
      refine ARun.calm rfl rfl (lit_lt rfl) (Calm.loadAK (cs := [_, _]) ty_agg_23 ty_size_23 rfl (by show (Mem.Knows _ ⟨b, off + ((i : Int)).toNat * 2, none⟩ _); exact hki)) ?_
      refine ARun.alloc (lit_lt rfl) ty_zero_23 ?_
      intro b8 f8
      have g8 := f8
      repeat ((with_reducible replace g8 := fresh_set g8); obtain ⟨g8, _⟩ := g8)
      (try simp only [List.length_cons, List.length_nil, Nat.zero_add, Nat.reduceAdd])
      first | refine ARun.storeAll rfl rfl ty_size_23 ((by (repeat first | ((with_reducible refine (Mem.own_set_other _ _ ?_).trans ?_); (first | assumption | (apply Ne.symm; assumption))) | ((with_reducible refine (Mem.own_del_other _ ?_).trans ?_); (first | assumption | (apply Ne.symm; assumption)))); (first | with_reducible exact Mem.own_set_same _ _ _ | with_reducible assumption | exact Mem.own_set_same _ _ _))) rfl rfl ?_ | refine ARun.store rfl rfl ty_size_23 ((by (repeat first | ((with_reducible refine (Mem.own_set_other _ _ ?_).trans ?_); (first | assumption | (apply Ne.symm; assumption))) | ((with_reducible refine (Mem.own_del_other _ ?_).trans ?_); (first | assumption | (apply Ne.symm; assumption)))); (first | with_reducible exact Mem.own_set_same _ _ _ | with_reducible assumption | exact Mem.own_set_same _ _ _))) ((by first | decide | (simp; done) | (simp; omega) | omega)) rfl ?_
      (try simp only [Mem.set_set, List.set_cons_zero, List.set_cons_succ, Nat.zero_add, Nat.reduceAdd])
      refine arun_nil ?_
      refine athen_n ?_
      refine AWP.sub [(2, _), (4, _), (6, _), (15, _), (16, _), (17, _), (18, _), (8, _)] ⟨rfl, rfl, rfl, rfl, rfl, rfl, rfl, rfl, trivial⟩ ?_
      have n82 := g8.ne hm2
      have n84 := g8.ne hm4
      obtain ⟨n0, n2⟩ := fresh_outM g8
      have q8 := g8.less hW
      refine AWP.seq ?_
      refine AWP.seq ?_
      refine AWP.region ?_
      refine ARun.calm rfl rfl (lit_lt rfl) (Calm.loadA ty_agg_23 (cs := [_, _]) ty_size_23 rfl ((by first | with_reducible assumption | ((repeat (apply rds_cons; ((repeat ((with_reducible refine (rd_set_ne _ _ ?_).trans ?_); (first | assumption | (apply Ne.symm; assumption)))); (first | ((with_reducible refine (rd_set_same _ _ _ _).trans ?_); rfl) | ((with_reducible apply rd_own'); (with_reducible assumption); rfl) | with_reducible assumption)))); exact rds_nil _ _)))) ?_
      refine ARun.call (lit_lt rfl) go_21 rfl (refV_Check xb xn _ hszi) ?_
      rintro _ _ ⟨rfl, rfl⟩
      refine ARun.calm rfl rfl (lit_lt rfl) (Calm.bin rfl rfl (by first | exact bin_bool (bin_neq _ _) (bnot_dec_true (by omega)) | exact bin_bool (bin_neq _ _) (bnot_dec_false (by omega)) | exact bin_neq _ _)) ?_
      refine arun_nil ?_
      refine athen_n ?_
      refine AWP.sub [(2, _), (4, _), (6, _), (15, _), (16, _), (17, _), (18, _), (8, _), (23, _)] ⟨rfl, rfl, rfl, rfl, rfl, rfl, rfl, rfl, rfl, trivial⟩ ?_
      refine AWP.condB rfl (fun hc2 => ?_) (fun hc2 => ?_)
      · have hc2 := bnot_t hc2
        refine AWP.seq ?_
        refine AWP.region ?_
        refine ARun.calm rfl rfl (lit_lt rfl) (Calm.loadA ty_agg_23 (cs := [_, _]) ty_size_23 rfl ((by first | with_reducible assumption | ((repeat (apply rds_cons; ((repeat ((with_reducible refine (rd_set_ne _ _ ?_).trans ?_); (first | assumption | (apply Ne.symm; assumption)))); (first | ((with_reducible refine (rd_set_same _ _ _ _).trans ?_); rfl) | ((with_reducible apply rd_own'); (with_reducible assumption); rfl) | with_reducible assumption)))); exact rds_nil _ _)))) ?_
        first | refine ARun.storeAll rfl rfl ty_size_23 ((by (repeat first | ((with_reducible refine (Mem.own_set_other _ _ ?_).trans ?_); (first | assumption | (apply Ne.symm; assumption))) | ((with_reducible refine (Mem.own_del_other _ ?_).trans ?_); (first | assumption | (apply Ne.symm; assumption)))); (first | with_reducible exact Mem.own_set_same _ _ _ | with_reducible assumption | exact Mem.own_set_same _ _ _))) rfl rfl ?_ | refine ARun.store rfl rfl ty_size_23 ((by (repeat first | ((with_reducible refine (Mem.own_set_other _ _ ?_).trans ?_); (first | assumption | (apply Ne.symm; assumption))) | ((with_reducible refine (Mem.own_del_other _ ?_).trans ?_); (first | assumption | (apply Ne.symm; assumption)))); (first | with_reducible exact Mem.own_set_same _ _ _ | with_reducible assumption | exact Mem.own_set_same _ _ _))) ((by first | decide | (simp; done) | (simp; omega) | omega)) rfl ?_
        (try simp only [Mem.set_set, List.set_cons_zero, List.set_cons_succ, Nat.zero_add, Nat.reduceAdd])
        refine ARun.calm rfl rfl (lit_lt rfl) (Calm.assign rfl) ?_
        refine arun_nil ?_
        refine athen_n ?_
        refine AWP.sub [(2, _), (4, _), (6, _), (15, _), (16, _), (17, _), (18, _), (8, _), (23, _), (5, _)] ⟨rfl, rfl, rfl, rfl, rfl, rfl, rfl, rfl, rfl, rfl, trivial⟩ ?_
        refine AWP.ret ?_
        refine athen_ret ?_
        refine ain_ret ?_
        refine athen_ret ?_
        refine athen_ret ?_
        refine ain_ret ?_
        refine athen_ret ?_
        refine ⟨_, S, ⟨_, _, _, rfl, .inr ⟨ty_agg_23, [_, _], ty_size_23, (by first | with_reducible assumption | ((repeat (apply rds_cons; ((repeat ((with_reducible refine (rd_set_ne _ _ ?_).trans ?_); (first | assumption | (apply Ne.symm; assumption)))); (first | ((with_reducible refine (rd_set_same _ _ _ _).trans ?_); rfl) | ((with_reducible apply rd_own'); (with_reducible assumption); rfl) | with_reducible assumption)))); exact rds_nil _ _)), rfl⟩, ⟨_, _, rfl, rfl, rfl⟩, rfl⟩, (by first | with_reducible exact Mem.Less.refl _ | ((with_reducible refine Mem.less_set _ _ _ (Fresh.own ?_)); with_reducible assumption) | (refine less_of ?_; (repeat first | with_reducible exact LessB.refl _ _ | ((with_reducible refine LessB.set ?_ ?_); ((repeat first | ((with_reducible refine (Mem.own_set_other _ _ ?_).trans ?_); (first | assumption | (apply Ne.symm; assumption))) | ((with_reducible refine (Mem.own_del_other _ ?_).trans ?_); (first | assumption | (apply Ne.symm; assumption)))); (first | with_reducible exact Mem.own_set_same _ _ _ | with_reducible assumption | exact Mem.own_set_same _ _ _))) | (with_reducible refine LessB.delL ?_)); (repeat first | with_reducible exact LessB.refl _ _ | ((with_reducible refine LessB.of ?_); with_reducible assumption) | ((with_reducible refine LessB.skip ?_ ?_); (first | ((refine .inl ?_); simp; done) | ((refine .inr (Fresh.own ?_)); with_reducible assumption) | ((refine .inr ?_); with_reducible assumption))) | ((with_reducible refine LessB.skipDel ?_ ?_); (first | ((refine .inl ?_); simp; done) | ((refine .inr (Fresh.own ?_)); with_reducible assumption) | ((refine .inr ?_); with_reducible assumption)))))), ?_⟩
        exact ⟨by unfold catG; rw [if_pos hc2]; rfl, rfl⟩
      · have hc2 := bnot_f hc2
        obtain ⟨hxn0, hxn1, hxR⟩ := chk_right hc2
        have hxs : xb.size = (xn.toNat + 7) / 8 := by rw [← hxR.1]; exact size_list xb
        refine AWP.skip ?_
        refine athen_n ?_
        refine AWP.seq ?_
        refine AWP.seq ?_
        refine AWP.region ?_
        refine ARun.calm rfl rfl (lit_lt rfl) (Calm.move rfl) ?_
        refine ARun.calm rfl rfl (lit_lt rfl) (len_out Try.underlying69 rfl hk) ?_
        refine ARun.calm rfl rfl (lit_lt rfl) (Calm.fieldAddr ty_field_23_1 rfl) ?_
        refine ARun.calm rfl rfl (lit_lt rfl) (Calm.load ty_plain_3 rfl ((by (repeat ((with_reducible refine (rd_set_ne _ _ ?_).trans ?_); (first | assumption | (apply Ne.symm; assumption)))); (first | ((with_reducible refine (rd_set_same _ _ _ _).trans ?_); rfl) | ((with_reducible apply rd_own'); (with_reducible assumption); rfl) | with_reducible assumption)))) ?_
        refine ARun.calm rfl rfl (lit_lt rfl) (Calm.bin rfl rfl (by first | exact bin_subW (IntWalk.i64_in _ (by omega)) | exact bin_sub _ _)) ?_
        refine ARun.calm rfl rfl (lit_lt rfl) (Calm.bin rfl rfl (by first | exact bin_bool (bin_gtr _ _) (decide_eq_true (by omega)) | exact bin_bool (bin_gtr _ _) (decide_eq_false (by omega)) | exact bin_gtr _ _)) ?_
        refine arun_nil ?_
        refine athen_n ?_
        refine AWP.sub [(2, _), (4, _), (6, _), (15, _), (16, _), (17, _), (18, _), (8, _), (23, _), (30, _)] ⟨rfl, rfl, rfl, rfl, rfl, rfl, rfl, rfl, rfl, rfl, trivial⟩ ?_
        refine AWP.condB rfl (fun hf => ?_) (fun hf => ?_)
        · have hf := of_decide_eq_true hf
          refine AWP.seq ?_
          refine AWP.region ?_
          refine ARun.calm rfl rfl (lit_lt rfl) (Calm.loadA ty_agg_23 (cs := [_, _]) ty_size_23 rfl ((by first | with_reducible assumption | ((repeat (apply rds_cons; ((repeat ((with_reducible refine (rd_set_ne _ _ ?_).trans ?_); (first | assumption | (apply Ne.symm; assumption)))); (first | ((with_reducible refine (rd_set_same _ _ _ _).trans ?_); rfl) | ((with_reducible apply rd_own'); (with_reducible assumption); rfl) | with_reducible assumption)))); exact rds_nil _ _)))) ?_
          first | refine ARun.storeAll rfl rfl ty_size_23 ((by (repeat first | ((with_reducible refine (Mem.own_set_other _ _ ?_).trans ?_); (first | assumption | (apply Ne.symm; assumption))) | ((with_reducible refine (Mem.own_del_other _ ?_).trans ?_); (first | assumption | (apply Ne.symm; assumption)))); (first | with_reducible exact Mem.own_set_same _ _ _ | with_reducible assumption | exact Mem.own_set_same _ _ _))) rfl rfl ?_ | refine ARun.store rfl rfl ty_size_23 ((by (repeat first | ((with_reducible refine (Mem.own_set_other _ _ ?_).trans ?_); (first | assumption | (apply Ne.symm; assumption))) | ((with_reducible refine (Mem.own_del_other _ ?_).trans ?_); (first | assumption | (apply Ne.symm; assumption)))); (first | with_reducible exact Mem.own_set_same _ _ _ | with_reducible assumption | exact Mem.own_set_same _ _ _))) ((by first | decide | (simp; done) | (simp; omega) | omega)) rfl ?_
          (try simp only [Mem.set_set, List.set_cons_zero, List.set_cons_succ, Nat.zero_add, Nat.reduceAdd])
          refine ARun.calm rfl rfl (lit_lt rfl) (Calm.assign rfl) ?_
          refine arun_nil ?_
          refine athen_n ?_
          refine AWP.sub [(2, _), (4, _), (6, _), (15, _), (16, _), (17, _), (18, _), (8, _), (23, _), (30, _), (5, _)] ⟨rfl, rfl, rfl, rfl, rfl, rfl, rfl, rfl, rfl, rfl, rfl, trivial⟩ ?_
          refine AWP.ret ?_
          refine athen_ret ?_
          refine ain_ret ?_
          refine athen_ret ?_
          refine athen_ret ?_
          refine ain_ret ?_
          refine athen_ret ?_
          refine ⟨_, S, ⟨_, _, _, rfl, .inr ⟨ty_agg_23, [_, _], ty_size_23, (by first | with_reducible assumption | ((repeat (apply rds_cons; ((repeat ((with_reducible refine (rd_set_ne _ _ ?_).trans ?_); (first | assumption | (apply Ne.symm; assumption)))); (first | ((with_reducible refine (rd_set_same _ _ _ _).trans ?_); rfl) | ((with_reducible apply rd_own'); (with_reducible assumption); rfl) | with_reducible assumption)))); exact rds_nil _ _)), rfl⟩, ⟨_, _, rfl, rfl, rfl⟩, rfl⟩, (by first | with_reducible exact Mem.Less.refl _ | ((with_reducible refine Mem.less_set _ _ _ (Fresh.own ?_)); with_reducible assumption) | (refine less_of ?_; (repeat first | with_reducible exact LessB.refl _ _ | ((with_reducible refine LessB.set ?_ ?_); ((repeat first | ((with_reducible refine (Mem.own_set_other _ _ ?_).trans ?_); (first | assumption | (apply Ne.symm; assumption))) | ((with_reducible refine (Mem.own_del_other _ ?_).trans ?_); (first | assumption | (apply Ne.symm; assumption)))); (first | with_reducible exact Mem.own_set_same _ _ _ | with_reducible assumption | exact Mem.own_set_same _ _ _))) | (with_reducible refine LessB.delL ?_)); (repeat first | with_reducible exact LessB.refl _ _ | ((with_reducible refine LessB.of ?_); with_reducible assumption) | ((with_reducible refine LessB.skip ?_ ?_); (first | ((refine .inl ?_); simp; done) | ((refine .inr (Fresh.own ?_)); with_reducible assumption) | ((refine .inr ?_); with_reducible assumption))) | ((with_reducible refine LessB.skipDel ?_ ?_); (first | ((refine .inl ?_); simp; done) | ((refine .inr (Fresh.own ?_)); with_reducible assumption) | ((refine .inr ?_); with_reducible assumption)))))), ?_⟩
          exact ⟨by unfold catG; rw [if_neg (fun h => h hc2), if_pos hf]; rfl, rfl⟩
        · have hf := of_decide_eq_false hf
          obtain ⟨m, rfl⟩ : ∃ m : Nat, xn = m := ⟨xn.toNat, by omega⟩
          have hgn : catG s K L ((xb, (m : Int)) :: xs.drop (i + 1)) = catG s K (L ++ upto xb.data.toList m) (xs.drop (i + 1)) := by rw [catG, if_neg (fun h => h hc2), if_neg hf]; rfl
          rw [outM_set _ _ _ _ _ _ n2]
          have hk8 := hk.set (r := ⟨23, [.string xb, .int .i64 m], 2⟩) n2
          have hm8 := own_outM (e := 4) (cs := bl L) hk8 (Mem.own_set_same _ _ _)
          refine AWP.skip ?_
          refine athen_n ?_
          refine AWP.region ?_
          refine ARun.calm rfl rfl (lit_lt rfl) (Calm.move rfl) ?_
          refine ARun.calm rfl rfl (lit_lt rfl) (Calm.loadA ty_agg_23 (cs := [_, _]) ty_size_23 rfl ((by first | with_reducible assumption | ((repeat (apply rds_cons; ((repeat ((with_reducible refine (rd_set_ne _ _ ?_).trans ?_); (first | assumption | (apply Ne.symm; assumption)))); (first | ((with_reducible refine (rd_set_same _ _ _ _).trans ?_); rfl) | ((with_reducible apply rd_own'); (with_reducible assumption); rfl) | with_reducible assumption)))); exact rds_nil _ _)))) ?_
          refine ARun.call (lit_lt rfl) go_52 rfl (refV_All xb m _ (by omega) (by omega) (by omega)) ?_
          rintro _ _ ⟨o2, ho2, rfl, rfl⟩
          refine ARun.appendOO (lit_lt rfl) ty_sl_69 rfl (bl_length L) hk8 rfl (by rw [bl_length, upto_length]) ho2 (fun v hv => by obtain ⟨q, _, rfl⟩ := List.mem_map.1 hv; rfl) (by omega) (by omega) ?_
          intro on hon
          rw [show bl L ++ bl (upto xb.data.toList m) = bl (L ++ upto xb.data.toList m) from by simp [bl]]
          have hln : (L ++ upto xb.data.toList m).length = L.length + m := by rw [List.length_append, upto_length]
          refine ARun.calm rfl rfl (lit_lt rfl) (Calm.assign rfl) ?_
          refine arun_nil ?_
          refine ain_n ?_
          refine athen_n ?_
          refine AWP.sub [(2, _), (4, _), (6, _), (15, _), (16, _), (17, _), (18, _), (8, _), (23, _), (30, _)] ⟨rfl, rfl, rfl, rfl, rfl, rfl, rfl, rfl, rfl, rfl, trivial⟩ ?_
          refine AWP.region ?_
          refine ARun.calm rfl rfl (lit_lt rfl) (Calm.bin rfl rfl (by first | exact bin_addW (IntWalk.i64_in _ (by omega)) | exact bin_add _ _)) ?_
          refine ARun.calm rfl rfl (lit_lt rfl) (Calm.move rfl) ?_
          refine arun_nil ?_
          refine athen_n ?_
          refine ⟨(i + 1, L ++ upto xb.data.toList m, on), ?_, ?_, ?_, ?_⟩
          all_goals (try dsimp only)
          · exact ⟨rfl, rfl, by rw [hln]; rfl, rfl, rfl, some_int (by omega), trivial⟩
          · exact outM_more _ _ _ (Mem.less_set _ _ _ n0.1)
          · exact ⟨hl, by omega, hgn, by rw [hln]; exact hon.unset⟩
          · omega
    · have hl : i = len := by have := of_decide_eq_false hl; omega
      rw [hl, ← hx1, List.drop_length]
      obtain ⟨a2, c2, hav, hab⟩ := isBl_out (e := 4) (L := L) hk (by omega)
      rw [hav]
      refine AWP.exit ?_
      refine athen_exit ?_
      refine athen_exit ?_
      refine ain_same ?_
      refine athen_n ?_
      refine AWP.seq ?_
      refine AWP.region ?_
      refine ARun.calm rfl rfl (lit_lt rfl) (Calm.move rfl) ?_
      refine ARun.call (lit_lt rfl) go_53 rfl (refV_Of a2 L.length c2 _ _ hab) ?_
      rintro _ _ ⟨rfl, rfl⟩
      first | refine ARun.storeAll rfl rfl ty_size_23 ((by (repeat first | ((with_reducible refine (Mem.own_set_other _ _ ?_).trans ?_); (first | assumption | (apply Ne.symm; assumption))) | ((with_reducible refine (Mem.own_del_other _ ?_).trans ?_); (first | assumption | (apply Ne.symm; assumption)))); (first | with_reducible exact Mem.own_set_same _ _ _ | with_reducible assumption | exact Mem.own_set_same _ _ _))) rfl rfl ?_ | refine ARun.store rfl rfl ty_size_23 ((by (repeat first | ((with_reducible refine (Mem.own_set_other _ _ ?_).trans ?_); (first | assumption | (apply Ne.symm; assumption))) | ((with_reducible refine (Mem.own_del_other _ ?_).trans ?_); (first | assumption | (apply Ne.symm; assumption)))); (first | with_reducible exact Mem.own_set_same _ _ _ | with_reducible assumption | exact Mem.own_set_same _ _ _))) ((by first | decide | (simp; done) | (simp; omega) | omega)) rfl ?_
      (try simp only [Mem.set_set, List.set_cons_zero, List.set_cons_succ, Nat.zero_add, Nat.reduceAdd])
      refine ARun.calm rfl rfl (lit_lt rfl) (Calm.assign rfl) ?_
      refine arun_nil ?_
      refine athen_n ?_
      refine AWP.sub [(2, _), (4, _), (6, _), (15, _), (16, _), (17, _), (18, _), (5, _)] ⟨rfl, rfl, rfl, rfl, rfl, rfl, rfl, rfl, trivial⟩ ?_
      refine AWP.ret ?_
      refine ⟨_, S, ⟨_, _, _, rfl, .inr ⟨ty_agg_23, [_, _], ty_size_23, (by first | with_reducible assumption | ((repeat (apply rds_cons; ((repeat ((with_reducible refine (rd_set_ne _ _ ?_).trans ?_); (first | assumption | (apply Ne.symm; assumption)))); (first | ((with_reducible refine (rd_set_same _ _ _ _).trans ?_); rfl) | ((with_reducible apply rd_own'); (with_reducible assumption); rfl) | with_reducible assumption)))); exact rds_nil _ _)), rfl⟩, ⟨_, _, rfl, rfl, rfl⟩, rfl⟩, (by first | with_reducible exact Mem.Less.refl _ | ((with_reducible refine Mem.less_set _ _ _ (Fresh.own ?_)); with_reducible assumption) | (refine less_of ?_; (repeat first | with_reducible exact LessB.refl _ _ | ((with_reducible refine LessB.set ?_ ?_); ((repeat first | ((with_reducible refine (Mem.own_set_other _ _ ?_).trans ?_); (first | assumption | (apply Ne.symm; assumption))) | ((with_reducible refine (Mem.own_del_other _ ?_).trans ?_); (first | assumption | (apply Ne.symm; assumption)))); (first | with_reducible exact Mem.own_set_same _ _ _ | with_reducible assumption | exact Mem.own_set_same _ _ _))) | (with_reducible refine LessB.delL ?_)); (repeat first | with_reducible exact LessB.refl _ _ | ((with_reducible refine LessB.of ?_); with_reducible assumption) | ((with_reducible refine LessB.skip ?_ ?_); (first | ((refine .inl ?_); simp; done) | ((refine .inr (Fresh.own ?_)); with_reducible assumption) | ((refine .inr ?_); with_reducible assumption))) | ((with_reducible refine LessB.skipDel ?_ ?_); (first | ((refine .inl ?_); simp; done) | ((refine .inr (Fresh.own ?_)); with_reducible assumption) | ((refine .inr ?_); with_reducible assumption)))))), ?_⟩
      exact ⟨rfl, rfl⟩
end Go.Proofs.Ytpeljbmbgjeomaa
