/-
  Disk, the document's side: Copy.
-/
import Derived.Test.YtkeiphkccnfhoaaDR1
namespace Go.Proofs.Ytkeiphkccnfhoaa
open Go.RowKit
open Mv Disk
set_option linter.unusedVariables false
set_option linter.unusedSimpArgs false
set_option maxRecDepth 4000
theorem copy_ok {S : Mem} {d : D} {oE oW : Option (Nat × Nat)} {b1 b2 : Nat} {B1 B2 B1' B1'' B2' : Blk} (f1 : Fresh S b1) (f2 : Fresh (S.set b1 B1) b2) (hE : OkO ((S.set b1 B1).set b2 B2) oE d.ext.length)
    (hW : OkO ((outN 2 ((S.set b1 B1).set b2 B2) oE extT (d.ext.flatMap extF)).set b1 B1') oW d.waits.length) :
    OkD S d oE oW ∧ (dkM S d oE oW).Less (((outN 3 ((outN 2 ((S.set b1 B1).set b2 B2) oE extT (d.ext.flatMap extF)).set b1 B1') oW wrT (d.waits.flatMap wrF)).set b1 B1'').set b2 B2') := by
  obtain ⟨f2', n21⟩ := fresh_set f2
  have hW' := hW.unset
  have s1 : S.own b1 = none := f1.1
  have s2 : S.own b2 = none := f2'.1
  have nE : ∀ q c, oE = some (q, c) → b1 ≠ q ∧ b2 ≠ q ∧ Fresh S q := fun q c e => by
    obtain ⟨g, hne⟩ := fresh_set (hE.own q c e).1
    obtain ⟨g', hne'⟩ := fresh_set g
    exact ⟨Ne.symm hne', Ne.symm hne, g'⟩
  have nW : ∀ q c, oW = some (q, c) → b1 ≠ q ∧ b2 ≠ q ∧ Fresh S q ∧ ∀ q' c', oE = some (q', c') → q ≠ q' := fun q c e => by
    obtain ⟨g, hne⟩ := fresh_set (hW.own q c e).1
    obtain ⟨g', hne'⟩ := fresh_outN g
    obtain ⟨g2, hne2⟩ := fresh_set g'
    obtain ⟨g3, hne3⟩ := fresh_set g2
    exact ⟨Ne.symm hne, Ne.symm hne2, g3, hne'⟩
  refine ⟨⟨⟨hE.nil, fun q c e => ⟨(nE q c e).2.2, (hE.own q c e).2⟩⟩, ⟨hW.nil, fun q c e => ⟨?_, (hW.own q c e).2⟩⟩⟩, ?_⟩
  · obtain ⟨_, _, g, hq⟩ := nW q c e
    cases oE with
    | none => exact g
    | some z => exact fresh_more g (hq _ _ rfl)
  · unfold dkM
    refine ⟨fun k r hk => ?_, by cases oE <;> cases oW <;> rfl⟩
    have hk1 : k ≠ b1 := by
      rintro rfl
      cases oE with
      | none =>
        cases oW with
        | none => simp only [outN] at hk; rw [s1] at hk; cases hk
        | some z => simp only [outN] at hk; rw [Mem.own_set_other _ _ (nW _ _ rfl).1, s1] at hk; cases hk
      | some y =>
        cases oW with
        | none => simp only [outN] at hk; rw [Mem.own_set_other _ _ (nE _ _ rfl).1, s1] at hk; cases hk
        | some z => simp only [outN] at hk; rw [Mem.own_set_other _ _ (nW _ _ rfl).1, Mem.own_set_other _ _ (nE _ _ rfl).1, s1] at hk; cases hk
    have hk2 : k ≠ b2 := by
      rintro rfl
      cases oE with
      | none =>
        cases oW with
        | none => simp only [outN] at hk; rw [s2] at hk; cases hk
        | some z => simp only [outN] at hk; rw [Mem.own_set_other _ _ (nW _ _ rfl).2.1, s2] at hk; cases hk
      | some y =>
        cases oW with
        | none => simp only [outN] at hk; rw [Mem.own_set_other _ _ (nE _ _ rfl).2.1, s2] at hk; cases hk
        | some z => simp only [outN] at hk; rw [Mem.own_set_other _ _ (nW _ _ rfl).2.1, Mem.own_set_other _ _ (nE _ _ rfl).2.1, s2] at hk; cases hk
    rw [Mem.own_set_other _ _ hk2, Mem.own_set_other _ _ hk1]
    cases oE with
    | none =>
      cases oW with
      | none =>
        simp only [outN] at hk ⊢
        rw [Mem.own_set_other _ _ hk1, Mem.own_set_other _ _ hk2, Mem.own_set_other _ _ hk1]; exact hk
      | some z =>
        simp only [outN] at hk ⊢
        by_cases e : k = z.1
        · subst e; rw [Mem.own_set_same] at hk ⊢; exact hk
        · rw [Mem.own_set_other _ _ e] at hk ⊢; rw [Mem.own_set_other _ _ hk1, Mem.own_set_other _ _ hk2, Mem.own_set_other _ _ hk1]; exact hk
    | some y =>
      have hset : ((((S.set b1 B1).set b2 B2).set y.1 ⟨extT, d.ext.flatMap extF, y.2 * 2⟩).set b1 B1').own k = (S.set y.1 ⟨extT, d.ext.flatMap extF, y.2 * 2⟩).own k := by
        rw [Mem.own_set_other _ _ hk1]
        by_cases e : k = y.1
        · subst e; rw [Mem.own_set_same, Mem.own_set_same]
        · rw [Mem.own_set_other _ _ e, Mem.own_set_other _ _ e, Mem.own_set_other _ _ hk2, Mem.own_set_other _ _ hk1]
      cases oW with
      | none => simp only [outN] at hk ⊢; rw [hset]; exact hk
      | some z =>
        simp only [outN] at hk ⊢
        by_cases e : k = z.1
        · subst e; rw [Mem.own_set_same] at hk ⊢; exact hk
        · rw [Mem.own_set_other _ _ e] at hk ⊢; rw [hset]; exact hk
/-- A disk that is another's copy, its slices its own. -/
def CopyR (d : D) (S : Mem) (r : Value) (S' : Mem) : Prop := ∃ oE oW, OkD S d oE oW ∧ r = dkV d oE oW ∧ S' = dkM S d oE oW
set_option maxHeartbeats 1000000 in
theorem rd_Copy (v : Value) (d : D) (S : Mem) (hd : DkR S v d) (hz1 : d.ext.length ≤ 4398046511104) (hz2 : d.waits.length ≤ 3518437208883) :
    ACall Try.prog 12 #[v] S (CopyR d S) := by
  obtain ⟨pe, ce, pw, cw, rfl, hE, hW⟩ := hd
  refine ACall.enter (args := [.agg #[.int .i64 d.size, .slice pe d.ext.length ce, .slice pw d.waits.length cw, .int .i64 d.fuse, .bool d.down]]) (rs := [.cell 2 25]) 14 [(0, .agg #[.int .i64 d.size, .slice pe d.ext.length ce, .slice pw d.waits.length cw, .int .i64 d.fuse, .bool d.down])] Try.func12 rfl rfl (Nat.le_of_ble_eq_true rfl) rfl ⟨rfl, trivial⟩ ?_
  refine AWP.seq ?_
  refine AWP.region ?_
  refine ARun.boxA (cs := [_, _, _, _, _]) (lit_lt rfl) rfl ?_
  intro b1 f1
  have g1 := f1
  repeat ((with_reducible replace g1 := fresh_set g1); obtain ⟨g1, _⟩ := g1)
  (try simp only [List.length_cons, List.length_nil, Nat.zero_add, Nat.reduceAdd])
  refine ARun.alloc (lit_lt rfl) ty_zero_25 ?_
  intro b2 f2
  have g2 := f2
  repeat ((with_reducible replace g2 := fresh_set g2); obtain ⟨g2, _⟩ := g2)
  (try simp only [List.length_cons, List.length_nil, Nat.zero_add, Nat.reduceAdd])
  refine arun_nil ?_
  refine athen_n ?_
  refine AWP.seq ?_
  refine AWP.region ?_
  refine ARun.build0 (lit_lt rfl) ty_sl_22 ?_
  intro b3 f3
  have g3 := f3
  repeat ((with_reducible replace g3 := fresh_set g3); obtain ⟨g3, _⟩ := g3)
  refine rC (Calm.fieldAddr ty_field_25_1 rfl) ?_
  refine rC (ld_ ty_plain_22 rfl) ?_
  refine ARun.appendOK (n := 2) (o := some (b3, 0)) (k := 0) (m := d.ext.length) (cs := []) (lit_lt rfl) ty_sl_22 rfl rfl rfl (okO_own f3 (Nat.le_refl _)) (appN_self (okO_own f3 (Nat.le_refl 0)) rfl) rfl ((hE.less less_).src ext_len) (flat_length ext_len d.ext) (ext_one d.ext) (by omega) (by omega) ?_
  intro oE hoE
  rw [Nat.zero_add] at hoE ⊢
  have n12 : b1 ≠ b2 := Ne.symm (fresh_set f2).2
  obtain ⟨M, hM⟩ : ∃ M, outN 2 ((S.set b1 ⟨25, [.int .i64 d.size, .slice pe d.ext.length ce, .slice pw d.waits.length cw, .int .i64 d.fuse, .bool d.down], 5⟩).set b2 ⟨25, [.int .i64 0, .slice none 0 0, .slice none 0 0, .int .i64 0, .bool false], 5⟩) oE extT (d.ext.flatMap extF) = M := ⟨_, rfl⟩
  have kM1 : M.own b1 = some ⟨25, [.int .i64 d.size, .slice pe d.ext.length ce, .slice pw d.waits.length cw, .int .i64 d.fuse, .bool d.down], 5⟩ := by rw [← hM]; exact (outN_over hoE).1 _ _ ((Mem.own_set_other _ _ n12).trans (Mem.own_set_same _ _ _))
  have kM2 : M.own b2 = some ⟨25, [.int .i64 0, .slice none 0 0, .slice none 0 0, .int .i64 0, .bool false], 5⟩ := by rw [← hM]; exact (outN_over hoE).1 _ _ (Mem.own_set_same _ _ _)
  have hSM : S.Less M := by rw [← hM]; exact ((Mem.less_set _ _ _ f1.1).trans (Mem.less_set _ _ _ f2.1)).trans (outN_over hoE)
  obtain ⟨qe, de, hqe⟩ := outV_eq hoE
  rw [List.nil_append, hM, hqe]
  refine rC (Calm.fieldAddr ty_field_25_1 rfl) ?_
  refine ARun.store1 rfl rfl ty_size_22 rfl own_ lens_ rfl ?_
  (try simp only [Mem.set_set, List.set_cons_zero, List.set_cons_succ, Nat.zero_add, Nat.reduceAdd])
  refine arun_nil ?_
  refine athen_n ?_
  refine AWP.sub [(0, _), (1, _), (2, _)] ⟨rfl, rfl, rfl, trivial⟩ ?_
  have hSM1 : ∀ r, S.Less (M.set b1 r) := fun r => less_of (LessB.skip (.inr f1.1) (LessB.of hSM))
  refine AWP.seq ?_
  refine AWP.region ?_
  refine ARun.build0 (lit_lt rfl) ty_sl_23 ?_
  intro b8 f8
  have g8 := f8
  repeat ((with_reducible replace g8 := fresh_set g8); obtain ⟨g8, _⟩ := g8)
  refine rC (Calm.fieldAddr ty_field_25_2 rfl) ?_
  refine rC (ld_ ty_plain_23 rfl) ?_
  refine ARun.appendOK (n := 3) (o := some (b8, 0)) (k := 0) (m := d.waits.length) (cs := []) (lit_lt rfl) ty_sl_23 rfl rfl rfl (okO_own f8 (Nat.le_refl _)) (appN_self (okO_own f8 (Nat.le_refl 0)) rfl) rfl (((hW.less (hSM1 _)).less less_).src wr_len) (flat_length wr_len d.waits) (wr_one d.waits) (by omega) (by omega) ?_
  intro oW hoW
  rw [Nat.zero_add] at hoW ⊢
  obtain ⟨M2, hM2⟩ : ∃ M2, outN 3 (M.set b1 ⟨25, [.int .i64 d.size, .slice qe d.ext.length de, .slice pw d.waits.length cw, .int .i64 d.fuse, .bool d.down], 5⟩) oW wrT (d.waits.flatMap wrF) = M2 := ⟨_, rfl⟩
  have k21 : M2.own b1 = some ⟨25, [.int .i64 d.size, .slice qe d.ext.length de, .slice pw d.waits.length cw, .int .i64 d.fuse, .bool d.down], 5⟩ := by rw [← hM2]; exact (outN_over hoW).1 _ _ (Mem.own_set_same _ _ _)
  have k22 : M2.own b2 = some ⟨25, [.int .i64 0, .slice none 0 0, .slice none 0 0, .int .i64 0, .bool false], 5⟩ := by rw [← hM2]; exact (outN_over hoW).1 _ _ ((Mem.own_set_other _ _ (Ne.symm n12)).trans kM2)
  obtain ⟨qw, dw, hqw⟩ := outV_eq hoW
  rw [List.nil_append, hM2, hqw]
  rw [← hM] at hoW hM2
  have hcopy := fun B1'' B2' => copy_ok (B1'' := B1'') (B2' := B2') f1 f2 hoE hoW
  rw [hM2] at hcopy
  refine rC (Calm.fieldAddr ty_field_25_2 rfl) ?_
  refine ARun.store1 rfl rfl ty_size_23 rfl own_ lens_ rfl ?_
  (try simp only [Mem.set_set, List.set_cons_zero, List.set_cons_succ, Nat.zero_add, Nat.reduceAdd])
  refine arun_nil ?_
  refine athen_n ?_
  refine AWP.sub [(0, _), (1, _), (2, _)] ⟨rfl, rfl, rfl, trivial⟩ ?_
  refine AWP.seq ?_
  refine AWP.region ?_
  refine rC (ldA_ (cs := [_, _, _, _, _]) ty_agg_25 ty_size_25 rfl) ?_
  first | refine ARun.storeAll rfl rfl ty_size_25 own_ rfl rfl ?_ | refine ARun.store rfl rfl ty_size_25 own_ lens_ rfl ?_
  (try simp only [Mem.set_set, List.set_cons_zero, List.set_cons_succ, Nat.zero_add, Nat.reduceAdd])
  refine arun_nil ?_
  refine athen_n ?_
  refine AWP.sub [(0, _), (1, _), (2, _)] ⟨rfl, rfl, rfl, trivial⟩ ?_
  refine AWP.ret ?_
  refine ⟨_, dkM S d oE oW, ⟨_, _, _, rfl, .inr ⟨ty_agg_25, [_, _, _, _, _], ty_size_25, rds_, rfl⟩, rfl, rfl⟩, (hcopy _ _).2, ?_⟩
  exact ⟨oE, oW, (hcopy ⟨25, [.int .i64 0, .slice none 0 0, .slice none 0 0, .int .i64 0, .bool false], 5⟩ ⟨25, [.int .i64 0, .slice none 0 0, .slice none 0 0, .int .i64 0, .bool false], 5⟩).1, by unfold dkV; rw [hqe, hqw]; rfl, rfl⟩
end Go.Proofs.Ytkeiphkccnfhoaa
