/-
  Loser: copies, what is made, the winner, another winner, the path, by the document; trees that are held against each other.
-/
import Derived.Test.YtddabbfjoejalaaVLos5
namespace Go.Proofs.Ytddabbfjoejalaa
open Go.RowKit
open Mv Num Loser
set_option linter.unusedVariables false
set_option linter.unusedSimpArgs false
set_option maxRecDepth 4000
/-- A copy of a row beside what a copy of a tree has. -/
theorem clone_copy {e E : TypeId} {l : List Nat} {M S' : Mem} {b2 b3 n : Nat} {r2 r3 : Blk} {o : Option (Nat × Nat)} {hs : List Value} {v : Value} (h : CloneR (fun n : Nat => Value.int .u64 (n : Int)) e l (outM ((M.set b3 r3).set b2 r2) o E hs) v S') (hf2 : Fresh M b2) (hf3 : Fresh M b3) (hne : b2 ≠ b3) (ho : OkO ((M.set b3 r3).set b2 r2) o n) (hl : l.length ≤ 9223372036854775807) :
    ∃ M1 a c, M.Less M1 ∧ Fresh M1 b2 ∧ Fresh M1 b3 ∧ OkO ((M1.set b3 r3).set b2 r2) o n ∧ S' = outM ((M1.set b3 r3).set b2 r2) o E hs ∧ v = .slice a l.length c ∧ RowR M1 v l := by
  rcases h with ⟨rfl, rfl, a, rfl⟩ | ⟨b', c, hf', hc, rfl, rfl⟩
  · exact ⟨M, a, 0, Mem.Less.refl _, hf2, hf3, ho, rfl, rfl, a, 0, rfl, Nat.le_refl _, by simp, .inl rfl⟩
  · obtain ⟨h1, h2⟩ := fresh_outM hf'
    obtain ⟨h3, h4⟩ := fresh_set h1
    obtain ⟨h5, h6⟩ := fresh_set h3
    have ee : (((M.set b3 r3).set b2 r2).set b' ⟨e, l.map (fun n : Nat => Value.int .u64 (n : Int)), c⟩) = ((M.set b' ⟨e, l.map (fun n : Nat => Value.int .u64 (n : Int)), c⟩).set b3 r3).set b2 r2 := by
      rw [Mem.set_comm _ _ _ (Ne.symm h4), Mem.set_comm M _ _ (Ne.symm h6)]
    refine ⟨M.set b' ⟨e, l.map (fun n : Nat => Value.int .u64 (n : Int)), c⟩, _, c, Mem.less_set _ _ _ h5.1, fresh_more hf2 (Ne.symm h4), fresh_more hf3 (Ne.symm h6), ?_, ?_, rfl, Sl.own1 (g := fun n : Nat => Value.int .u64 (n : Int)) (Mem.own_set_same _ _ _) List.prefix_rfl rfl hc hl⟩
    · rw [← ee]; exact ho.set h2
    · rw [outM_set _ _ _ _ _ _ h2, ee]
def CopyR (ks : List (List Nat)) (tr : List Int) (S : Mem) (r : Value) (S' : Mem) : Prop :=
  ∃ M o hs tv, GrowI RowR S M o hs ks ∧ Sl 1 i64s M tv tr ∧ r = .agg #[outV o ks.length, tv] ∧ S' = outM M o 32 hs
theorem CopyR.lo {ks : List (List Nat)} {tr : List Int} {S S' : Mem} {r : Value} (h : CopyR ks tr S r S') (hk : ks.length ≤ 5864062014634) : ∃ hk ht, r = .agg #[hk, ht] ∧ S.Less S' ∧ LoV S' hk ht ks tr := by
  obtain ⟨M, o, hs, tv, hI, ht, rfl, rfl⟩ := h
  have hsl := hI.slOf (e := 32) rowR_less (by rw [hI.len]; omega)
  rw [hI.len] at hsl
  exact ⟨_, _, rfl, hI.less.trans (outM_over hI.ok), hsl, ht.less (outM_over hI.ok)⟩
set_option maxHeartbeats 4000000 in
theorem rlosV_Copy (hk ht : Value) (ks : List (List Nat)) (tr : List Int) (S : Mem) (hl : LoV S hk ht ks tr) (hkl : ks.length ≤ 5864062014634) (htl : tr.length ≤ 17592186043904) (hrow : ∀ x ∈ ks, x.length ≤ 17592186043904) :
    ACall Try.prog 17 #[.agg #[hk, ht]] S (CopyR ks tr S) := by
  obtain ⟨hks, hts⟩ := hl
  obtain ⟨gs, hgl, ⟨pa, ca, rfl, h1, h2, h3⟩, hge⟩ := id hks
  have hts' : Sl 1 (fun x : Int => [Value.int .i64 x]) S ht tr := hts
  refine ACall.enter (args := [.agg #[.slice pa gs.length ca, ht]]) (rs := [.cell 2 25]) 28 [(0, .agg #[.slice pa gs.length ca, ht])] Try.func17 rfl rfl (Nat.le_of_ble_eq_true rfl) rfl ⟨rfl, trivial⟩ ?_
  refine AWP.seq ?_
  refine AWP.region ?_
  refine ARun.boxA (cs := [_, _]) (lit_lt rfl) rfl ?_
  intro b1 f1
  have g1 := f1
  repeat ((with_reducible replace g1 := fresh_set g1); obtain ⟨g1, _⟩ := g1)
  (try simp only [List.length_cons, List.length_nil, Nat.zero_add, Nat.reduceAdd])
  refine ARun.alloc (lit_lt rfl) ty_zero_25 ?_
  intro b2 f2
  have g2 := f2
  repeat ((with_reducible replace g2 := fresh_set g2); obtain ⟨g2, _⟩ := g2)
  (try simp only [List.length_cons, List.length_nil, Nat.zero_add, Nat.reduceAdd])
  refine arun_nil ?_
  refine athen_n ?_
  refine AWP.seq ?_
  refine AWP.region ?_
  refine ARun.build0 (lit_lt rfl) ty_sl_23 ?_
  intro b6 f6
  have g6 := f6
  repeat ((with_reducible replace g6 := fresh_set g6); obtain ⟨g6, _⟩ := g6)
  refine rC (Calm.fieldAddr ty_field_25_1 rfl) ?_
  refine rC (ld_ ty_plain_23 rfl) ?_
  refine ARun.appendClone (lit_lt rfl) ty_sl_23 rfl own_ (set_del_same' (del_base f6)) rfl (hts'.less less_) (fun _ => rfl) (by omega) ?_
  have g2' : Fresh (S.set b1 ⟨25, [.slice pa gs.length ca, ht], 2⟩) b2 := f2
  intro tv S1 hcl
  obtain ⟨M1, at_, ct, hM1, fb2, rfl, rfl, htv⟩ := clone_step hcl g2' (by omega)
  have hM1b1 := hM1.own (Mem.own_set_same S b1 ⟨25, [.slice pa gs.length ca, ht], 2⟩)
  refine rC (Calm.build (cs := [_, _]) ty_bld_25 rfl rfl) ?_
  refine ARun.alloc (lit_lt rfl) ty_zero_25 ?_
  intro b3 f3
  have g3 := f3
  repeat ((with_reducible replace g3 := fresh_set g3); obtain ⟨g3, _⟩ := g3)
  (try simp only [List.length_cons, List.length_nil, Nat.zero_add, Nat.reduceAdd])
  have n13 := g3.ne hM1b1
  have hSM1 := (Mem.less_set S b1 ⟨25, [.slice pa gs.length ca, ht], 2⟩ g1.1).trans hM1
  have n23 : b2 ≠ b3 := by (apply Ne.symm; assumption)
  first | refine ARun.storeAll rfl rfl ty_size_25 own_ rfl rfl ?_ | refine ARun.store rfl rfl ty_size_25 own_ lens_ rfl ?_
  (try simp only [Mem.set_set, List.set_cons_zero, List.set_cons_succ, Nat.zero_add, Nat.reduceAdd])
  refine arun_nil ?_
  refine athen_n ?_
  refine AWP.sub [(0, _), (1, _), (2, _), (3, _)] ⟨rfl, rfl, rfl, rfl, trivial⟩ ?_
  refine AWP.seq ?_
  refine AWP.seq ?_
  refine AWP.region ?_
  refine rC (Calm.fieldAddr ty_field_25_0 rfl) ?_
  refine rC (ld_ ty_plain_22 rfl) ?_
  refine rC (Calm.lenSl Try.underlying22 rfl) ?_
  refine rC (Calm.move rfl) ?_
  refine arun_nil ?_
  refine athen_n ?_
  refine AWP.sub [(0, _), (1, _), (2, _), (3, _), (12, _), (13, _), (14, _)] ⟨rfl, rfl, rfl, rfl, rfl, rfl, rfl, trivial⟩ ?_
  refine AWP.block ?_
  refine AWP.loop (X := Nat × Mem × Option (Nat × Nat) × List Value) (fun x => [(2, .pointer (some ⟨b2, 0, none⟩)), (3, .pointer (some ⟨b3, 0, none⟩)), (12, .slice pa gs.length ca), (13, .int .i64 gs.length), (14, .int .i64 x.1)]) (fun x => outM ((x.2.1.set b3 ⟨25, [outV x.2.2.1 x.2.2.2.length, .slice at_ tr.length ct], 2⟩).set b2 ⟨25, [.slice none 0 0, .slice none 0 0], 2⟩) x.2.2.1 32 x.2.2.2) (fun x => x.1 ≤ gs.length ∧ x.2.2.2.length = x.1 ∧ GrowI RowR M1 x.2.1 x.2.2.1 x.2.2.2 (ks.take x.1) ∧ Fresh x.2.1 b2 ∧ Fresh x.2.1 b3 ∧ OkO ((x.2.1.set b3 ⟨25, [outV x.2.2.1 x.2.2.2.length, .slice at_ tr.length ct], 2⟩).set b2 ⟨25, [.slice none 0 0, .slice none 0 0], 2⟩) x.2.2.1 x.2.2.2.length) (fun x => gs.length - x.1) ((0, M1, none, [])) ⟨rfl, rfl, rfl, rfl, rfl, trivial⟩ ((show ((M1.set b3 _).set b2 _).Less _ from less_)) (⟨Nat.zero_le _, rfl, GrowI.nil _ _, fb2, g3, okO_nil _⟩) ?_
  rintro ⟨i, M, o, hs⟩ ⟨hi, hhl, hI, f2M, f3M, ho⟩
  (try dsimp only at *)
  refine AWP.seq ?_
  refine AWP.region ?_
  refine rC (Calm.bin rfl rfl b_lss) ?_
  refine arun_nil ?_
  refine athen_n ?_
  refine AWP.seq ?_
  refine AWP.condB rfl (fun hil => ?_) (fun hil => ?_)
  · have hil : i < gs.length := by have := of_decide_eq_true hil; omega
    obtain ⟨b0, off, rfl, hkn⟩ := h3.resolve_left (by intro h; rw [h] at hil; exact absurd hil (Nat.not_lt_zero _))
    have hik : i < ks.length := by omega
    have hSM := hSM1.trans hI.less
    have hMb : M.Less ((M.set b3 ⟨25, [outV o hs.length, .slice at_ tr.length ct], 2⟩).set b2 ⟨25, [.slice none 0 0, .slice none 0 0], 2⟩) := less_
    have hSmem := hSM.trans (hMb.trans (outM_over (e := 32) (cs := hs) ho))
    have hkk := (hkn i hil).less hSmem
    have hrw := rowR_less _ _ _ _ (hge i hik hil) hSmem
    have hrl := hrow ks[i] (List.getElem_mem _)
    have n32 := Ne.symm n23
    have k3 : (outM ((M.set b3 ⟨25, [outV o hs.length, .slice at_ tr.length ct], 2⟩).set b2 ⟨25, [.slice none 0 0, .slice none 0 0], 2⟩) o 32 hs).own b3 = some ⟨25, [outV o hs.length, .slice at_ tr.length ct], 2⟩ := own_outM ho own_
    refine AWP.skip ?_
    refine athen_n ?_
    refine AWP.seq ?_
    refine AWP.block ?_
    refine AWP.seq ?_
    refine AWP.region ?_
    refine rC (Calm.indexS Try.underlying22 ty_size_32 rfl rfl (by omega) (by omega)) ?_
    refine rC (ld_ ty_plain_32 rfl) ?_
    refine rC (Calm.assign rfl) ?_
    refine arun_nil ?_
    refine athen_n ?_
    refine AWP.sub [(2, _), (3, _), (12, _), (13, _), (14, _), (15, _), (5, _)] ⟨rfl, rfl, rfl, rfl, rfl, rfl, rfl, trivial⟩ ?_
    refine AWP.draw [(0, true), (1, true), (3, true), (2, false), (4, false), (5, false), (6, false), (7, true), (8, false)] [6, 8] mixed (by kernel_rfl) ?_
    refine draw_pure rfl rfl rfl rfl (lit_lt rfl) (fun _ => Calm.fieldAddr ty_field_25_0 rfl) ?_
    refine draw_calm rfl rfl rfl (lit_lt rfl) less_ (fun S' hS' => by obtain rfl := hS'.resolve_left (by decide); exact ld_ ty_plain_22 rfl) ?_
    refine draw_pure rfl rfl rfl rfl (lit_lt rfl) (fun _ => Calm.move rfl) ?_
    refine draw_only rfl ?_
    refine ARun.build0 (lit_lt rfl) ty_sl_32 ?_
    intro b20 f20
    have g20 := f20
    repeat ((with_reducible replace g20 := fresh_set g20); obtain ⟨g20, _⟩ := g20)
    refine arun_nil ⟨fun _ => less_, ?_⟩
    refine draw_only rfl ?_
    refine ARun.appendClone (lit_lt rfl) ty_sl_32 rfl own_ (set_del_same' (del_base f20)) rfl hrw (fun _ => rfl) (by omega) ?_
    intro v22 S22 hcl22
    have hl22 := hcl22.less
    obtain ⟨M2, ac, cc, q1, q2, q3, q4, rfl, rfl, q5⟩ := clone_copy hcl22 f2M f3M n23 ho (by omega)
    refine arun_nil ⟨fun _ => less_, ?_⟩
    refine draw_only rfl ?_
    refine ARun.build1s (lit_lt rfl) ty_sl_22 rfl rfl ?_
    intro b23 f23
    have g23 := f23
    repeat ((with_reducible replace g23 := fresh_set g23); obtain ⟨g23, _⟩ := g23)
    have g23M := f23.less hl22
    refine arun_nil ⟨fun _ => less_, ?_⟩
    refine draw_only rfl ?_
    refine ARun.appendO (lit_lt rfl) ty_sl_22 rfl rfl (appO_of q4 rfl f23) rfl (news := [_]) rds_ rfl (by omega) (by simp [Value.oneCell']) (by omega) (by omega) ?_
    intro b24 c24 ho24
    have hb24 := (ho24.own _ _ rfl).1
    have n324 : b3 ≠ b24 := Ne.symm (fresh_set (fresh_set hb24).1).2
    have n224 : b2 ≠ b24 := Ne.symm (fresh_set hb24).2
    refine arun_nil ⟨fun h => absurd h (by decide), ?_⟩
    refine draw_pure rfl rfl rfl rfl (lit_lt rfl) (fun _ => Calm.fieldAddr ty_field_25_0 rfl) ?_
    refine draw_only rfl ?_
    refine ARun.store1 rfl rfl ty_size_22 rfl (own_outM ho24 ((Mem.own_set_other _ _ n32).trans (Mem.own_set_same _ _ _))) lens_ rfl ?_
    (try simp only [Mem.set_set, List.set_cons_zero, List.set_cons_succ, Nat.zero_add, Nat.reduceAdd])
    refine arun_nil ⟨fun h => absurd h (by decide), ?_⟩
    refine draw_nil ?_
    refine ain_n ?_
    refine athen_n ?_
    refine AWP.sub [(2, _), (3, _), (12, _), (13, _), (14, _), (15, _), (5, _)] ⟨rfl, rfl, rfl, rfl, rfl, rfl, rfl, trivial⟩ ?_
    rw [outM_set _ _ _ _ _ _ (fun q c h => by cases h; exact n324), Mem.set_comm _ _ _ n23, Mem.set_set]
    have ho25 := ho24.set (b := b3) (r := ⟨25, [outV (some (b24, c24)) (hs.length + 1), .slice at_ tr.length ct], 2⟩) (fun q c h => by cases h; exact n324)
    rw [Mem.set_comm _ _ _ n23, Mem.set_set] at ho25
    have hI2 := hI.step rowR_less q1 q5 ho24.unset.unset
    rw [← List.take_succ_eq_append_getElem hik] at hI2
    have e2 : (hs ++ [Value.slice ac ks[i].length cc]).length = hs.length + 1 := by simp
    refine AWP.region ?_
    refine rC (Calm.bin rfl rfl b_add_i64) ?_
    refine rC (Calm.move rfl) ?_
    refine arun_nil ?_
    refine athen_n ?_
    refine ⟨(i + 1, M2, some (b24, c24), hs ++ [.slice ac ks[i].length cc]), ?_, ?_, ?_, ?_⟩
    all_goals (try dsimp only)
    · exact ⟨rfl, rfl, rfl, rfl, rfl, trivial⟩
    · rw [e2]; exact Mem.Less.refl _
    · exact ⟨hil, by rw [e2, hhl], hI2, q2, q3, by rw [e2]; exact ho25⟩
    · omega
  · have hil : i = gs.length := by have := of_decide_eq_false hil; omega
    have n32 := Ne.symm n23
    rw [List.take_of_length_le (by omega)] at hI
    have hlk : hs.length = ks.length := by omega
    have k3 : (outM ((M.set b3 ⟨25, [outV o hs.length, .slice at_ tr.length ct], 2⟩).set b2 ⟨25, [.slice none 0 0, .slice none 0 0], 2⟩) o 32 hs).own b3 = some ⟨25, [outV o hs.length, .slice at_ tr.length ct], 2⟩ := own_outM ho own_
    have hq2 : ∀ q c, o = some (q, c) → b2 ≠ q := fun q c h => Ne.symm (fresh_set (ho.own q c h).1).2
    refine AWP.exit ?_
    refine athen_exit ?_
    refine athen_exit ?_
    refine ain_same ?_
    refine athen_n ?_
    refine AWP.seq ?_
    refine AWP.region ?_
    refine rC (ldA_ (cs := [_, _]) ty_agg_25 ty_size_25 rfl) ?_
    refine ARun.storeAll (cs := [_, _]) rfl rfl ty_size_25 (own_outM ho (Mem.own_set_same _ _ _)) rfl (by cases o <;> rfl) ?_
    (try simp only [Mem.set_set, List.set_cons_zero, List.set_cons_succ, Nat.zero_add, Nat.reduceAdd])
    refine arun_nil ?_
    refine athen_n ?_
    refine AWP.sub [(2, _), (3, _), (12, _), (13, _), (14, _), (15, _)] ⟨rfl, rfl, rfl, rfl, rfl, rfl, trivial⟩ ?_
    refine AWP.ret ?_
    refine ⟨_, outM M o 32 hs, ⟨_, _, _, rfl, .inr ⟨ty_agg_25, [_, _], ty_size_25, rds_, rfl⟩, rfl, rfl⟩, (by rw [outM_set _ _ _ _ _ _ hq2, Mem.set_set]; exact outM_more _ _ _ less_), ?_⟩
    exact ⟨M, o, hs, _, ⟨hSM1.trans hI.less, hI.ok, hI.len, hI.at_⟩, htv.less hI.less, by rw [← hlk]; rfl, rfl⟩
theorem rlosV_Same (hk1 ht1 hk2 ht2 : Value) (ks1 ks2 : List (List Nat)) (tr1 tr2 : List Int) (S : Mem) (h1 : LoV S hk1 ht1 ks1 tr1) (h2 : LoV S hk2 ht2 ks2 tr2) :
    ACall Try.prog 16 #[.agg #[hk1, ht1], .agg #[hk2, ht2]] S fun r S' => r = .bool (decide (ks1 = ks2) && decide (tr1 = tr2)) ∧ S' = S := by
  obtain ⟨p1, c1, rfl, a1, a2, a3⟩ := id h1.2
  obtain ⟨p2, c2, rfl, d1, d2, d3⟩ := id h2.2
  by_cases hlen : tr1.length = tr2.length
  · by_cases hks : ks1 = ks2
    · have hlen0 := hlen
      refine ACall.enter (args := [.agg #[hk1, .slice p1 tr1.length c1], .agg #[hk2, .slice p2 tr2.length c2]]) (rs := [.tmp 4]) 39 [(0, .agg #[hk1, .slice p1 tr1.length c1]), (1, .agg #[hk2, .slice p2 tr2.length c2])] Try.func16 rfl rfl (Nat.le_of_ble_eq_true rfl) rfl ⟨rfl, rfl, trivial⟩ ?_
      refine AWP.seq ?_
      refine AWP.region ?_
      refine ARun.boxA (cs := [_, _]) (lit_lt rfl) rfl ?_
      intro b2 f2
      have g2 := f2
      repeat ((with_reducible replace g2 := fresh_set g2); obtain ⟨g2, _⟩ := g2)
      (try simp only [List.length_cons, List.length_nil, Nat.zero_add, Nat.reduceAdd])
      refine ARun.boxA (cs := [_, _]) (lit_lt rfl) rfl ?_
      intro b3 f3
      have g3 := f3
      repeat ((with_reducible replace g3 := fresh_set g3); obtain ⟨g3, _⟩ := g3)
      (try simp only [List.length_cons, List.length_nil, Nat.zero_add, Nat.reduceAdd])
      refine rC (Calm.assign rfl) ?_
      refine arun_nil ?_
      refine athen_n ?_
      refine AWP.seq ?_
      refine AWP.seq ?_
      refine AWP.region ?_
      refine rC (Calm.fieldAddr ty_field_25_1 rfl) ?_
      refine rC (ld_ ty_plain_23 rfl) ?_
      refine rC (Calm.lenSl Try.underlying23 rfl) ?_
      refine rC (Calm.fieldAddr ty_field_25_1 rfl) ?_
      refine rC (ld_ ty_plain_23 rfl) ?_
      refine rC (Calm.lenSl Try.underlying23 rfl) ?_
      refine rC (Calm.bin rfl rfl b_neq) ?_
      refine rC (Calm.move rfl) ?_
      first | refine rS 13 ?_ | refine rU 13 ?_ | refine rG 13 (Calm.fieldAddr ty_field_25_0 rfl) ?_
      first | refine rS 13 ?_ | refine rU 13 ?_ | refine rG 13 (ld_ ty_plain_22 rfl) ?_
      first | refine rS 13 ?_ | refine rU 13 ?_ | refine rG 13 (Calm.fieldAddr ty_field_25_0 rfl) ?_
      first | refine rS 13 ?_ | refine rU 13 ?_ | refine rG 13 (ld_ ty_plain_22 rfl) ?_
      refine ARun.callG 7 false 13 rfl (lit_lt rfl) rfl (lit_lt rfl) go_48 rfl (rnumV_Same ks1 ks2 _ _ _ (h1.1.less rowR_less less_) (h2.1.less rowR_less less_)) ?_
      rintro _ S1 ⟨rfl, e1⟩
      rw [e1, decide_eq_true hks]; clear e1 S1
      first | refine rS 13 ?_ | refine rU 13 ?_ | refine rG 13 (Calm.un rfl (una_not _)) ?_
      refine rC ((by first | exact Calm.pickT rfl rfl | exact Calm.pickF rfl rfl)) ?_
      refine arun_nil ?_
      refine athen_n ?_
      refine AWP.sub [(0, _), (1, _), (2, _), (3, _), (4, _), (20, _)] ⟨rfl, rfl, rfl, rfl, rfl, rfl, trivial⟩ ?_
      refine AWP.condF rfl (by first | rfl | (simp; done) | (simp; omega)) ?_
      refine AWP.skip ?_
      refine athen_n ?_
      refine AWP.seq ?_
      refine AWP.seq ?_
      refine AWP.region ?_
      refine rC (Calm.fieldAddr ty_field_25_1 rfl) ?_
      refine rC (ld_ ty_plain_23 rfl) ?_
      refine rC (Calm.lenSl Try.underlying23 rfl) ?_
      refine rC (Calm.move rfl) ?_
      refine arun_nil ?_
      refine athen_n ?_
      refine AWP.sub [(0, _), (1, _), (2, _), (3, _), (4, _), (20, _), (23, _), (24, _)] ⟨rfl, rfl, rfl, rfl, rfl, rfl, rfl, rfl, trivial⟩ ?_
      refine AWP.block ?_
      refine AWP.loop (X := Nat) (fun x => [(2, .pointer (some ⟨b2, 0, none⟩)), (3, .pointer (some ⟨b3, 0, none⟩)), (23, .int .i64 tr1.length), (24, .int .i64 x)]) (fun x => (S.set b2 ⟨25, [hk1, .slice p1 tr1.length c1], 2⟩).set b3 ⟨25, [hk2, .slice p2 tr2.length c2], 2⟩) (fun x => x ≤ tr1.length ∧ ∀ j (hj : j < tr1.length) (hj2 : j < tr2.length), j < x → tr1[j] = tr2[j]) (fun x => tr1.length - x) (0) ⟨rfl, rfl, rfl, rfl, trivial⟩ (Mem.Less.refl _) (⟨Nat.zero_le _, fun _ _ _ h => absurd h (Nat.not_lt_zero _)⟩) ?_
      rintro i ⟨hi1, hq⟩
      (try dsimp only at *)
      refine AWP.seq ?_
      refine AWP.region ?_
      refine rC (Calm.bin rfl rfl b_lss) ?_
      refine arun_nil ?_
      refine athen_n ?_
      refine AWP.seq ?_
      refine AWP.condB rfl (fun hl => ?_) (fun hl => ?_)
      · have hl : i < tr1.length := by have := of_decide_eq_true hl; omega
        have hlb : i < tr2.length := by omega
        obtain ⟨q1, o1, rfl, hkn⟩ := a3.resolve_left (by intro h; rw [h] at hl; exact absurd hl (Nat.not_lt_zero _))
        obtain ⟨q2, o2, rfl, hkn1⟩ := d3.resolve_left (by intro h; rw [h] at hlb; exact absurd hlb (Nat.not_lt_zero _))
        have hkk := hkn i hl
        have hkk1 := hkn1 i hlb
        unfold i64s at hkk hkk1
        by_cases e : tr1[i] = tr2[i]
        · refine AWP.skip ?_
          refine athen_n ?_
          refine AWP.seq ?_
          refine AWP.block ?_
          refine AWP.seq ?_
          refine AWP.region ?_
          refine rC (Calm.move rfl) ?_
          refine rC (Calm.assign rfl) ?_
          refine arun_nil ?_
          refine athen_n ?_
          refine AWP.sub [(2, _), (3, _), (23, _), (24, _), (25, _), (5, _)] ⟨rfl, rfl, rfl, rfl, rfl, rfl, trivial⟩ ?_
          refine AWP.seq ?_
          refine AWP.draw [(0, true), (1, true), (2, true), (3, true), (4, true), (5, true), (6, true), (7, true), (8, true), (9, true), (10, true)] [] mixed (by kernel_rfl) ?_
          refine draw_pure rfl rfl rfl rfl (lit_lt rfl) (fun _ => Calm.fieldAddr ty_field_25_1 rfl) ?_
          refine draw_calm rfl rfl rfl (lit_lt rfl) less_ (fun S' hS' => by obtain rfl := hS'.resolve_left (by decide); exact ld_ ty_plain_23 rfl) ?_
          refine draw_pure rfl rfl rfl rfl (lit_lt rfl) (fun _ => Calm.move rfl) ?_
          refine draw_pure rfl rfl rfl rfl (lit_lt rfl) (fun _ => Calm.indexS Try.underlying23 ty_size_3 rfl rfl (by omega) (by omega)) ?_
          refine draw_calm rfl rfl rfl (lit_lt rfl) less_ (fun S' hS' => by obtain rfl := hS'.resolve_left (by decide); exact ld_ ty_plain_3 rfl) ?_
          refine draw_pure rfl rfl rfl rfl (lit_lt rfl) (fun _ => Calm.fieldAddr ty_field_25_1 rfl) ?_
          refine draw_calm rfl rfl rfl (lit_lt rfl) less_ (fun S' hS' => by obtain rfl := hS'.resolve_left (by decide); exact ld_ ty_plain_23 rfl) ?_
          refine draw_pure rfl rfl rfl rfl (lit_lt rfl) (fun _ => Calm.move rfl) ?_
          refine draw_pure rfl rfl rfl rfl (lit_lt rfl) (fun _ => Calm.indexS Try.underlying23 ty_size_3 rfl rfl (by omega) (by omega)) ?_
          refine draw_calm rfl rfl rfl (lit_lt rfl) less_ (fun S' hS' => by obtain rfl := hS'.resolve_left (by decide); exact ld_ ty_plain_3 rfl) ?_
          refine draw_pure rfl rfl rfl rfl (lit_lt rfl) (fun _ => Calm.bin rfl rfl b_neq) ?_
          refine draw_nil ?_
          refine athen_n ?_
          refine AWP.sub [(2, _), (3, _), (23, _), (24, _), (25, _), (5, _), (37, _)] ⟨rfl, rfl, rfl, rfl, rfl, rfl, rfl, trivial⟩ ?_
          refine AWP.condF rfl (by first | rfl | (simp; done) | (simp; omega)) ?_
          refine AWP.skip ?_
          refine ain_n ?_
          refine athen_n ?_
          refine AWP.region ?_
          refine rC (Calm.bin rfl rfl b_add_i64) ?_
          refine rC (Calm.move rfl) ?_
          refine arun_nil ?_
          refine athen_n ?_
          refine ⟨i + 1, ?_, ?_, ?_, ?_⟩
          all_goals (try dsimp only)
          · exact ⟨rfl, rfl, rfl, rfl, trivial⟩
          · exact Mem.Less.refl _
          · exact ⟨hl, fun j hj hj2 hji => by rcases Nat.lt_or_ge j i with h | h; exact hq j hj hj2 h; obtain rfl : j = i := (by omega); exact e⟩
          · omega
        · refine AWP.skip ?_
          refine athen_n ?_
          refine AWP.seq ?_
          refine AWP.block ?_
          refine AWP.seq ?_
          refine AWP.region ?_
          refine rC (Calm.move rfl) ?_
          refine rC (Calm.assign rfl) ?_
          refine arun_nil ?_
          refine athen_n ?_
          refine AWP.sub [(2, _), (3, _), (23, _), (24, _), (25, _), (5, _)] ⟨rfl, rfl, rfl, rfl, rfl, rfl, trivial⟩ ?_
          refine AWP.seq ?_
          refine AWP.draw [(0, true), (1, true), (2, true), (3, true), (4, true), (5, true), (6, true), (7, true), (8, true), (9, true), (10, true)] [] mixed (by kernel_rfl) ?_
          refine draw_pure rfl rfl rfl rfl (lit_lt rfl) (fun _ => Calm.fieldAddr ty_field_25_1 rfl) ?_
          refine draw_calm rfl rfl rfl (lit_lt rfl) less_ (fun S' hS' => by obtain rfl := hS'.resolve_left (by decide); exact ld_ ty_plain_23 rfl) ?_
          refine draw_pure rfl rfl rfl rfl (lit_lt rfl) (fun _ => Calm.move rfl) ?_
          refine draw_pure rfl rfl rfl rfl (lit_lt rfl) (fun _ => Calm.indexS Try.underlying23 ty_size_3 rfl rfl (by omega) (by omega)) ?_
          refine draw_calm rfl rfl rfl (lit_lt rfl) less_ (fun S' hS' => by obtain rfl := hS'.resolve_left (by decide); exact ld_ ty_plain_3 rfl) ?_
          refine draw_pure rfl rfl rfl rfl (lit_lt rfl) (fun _ => Calm.fieldAddr ty_field_25_1 rfl) ?_
          refine draw_calm rfl rfl rfl (lit_lt rfl) less_ (fun S' hS' => by obtain rfl := hS'.resolve_left (by decide); exact ld_ ty_plain_23 rfl) ?_
          refine draw_pure rfl rfl rfl rfl (lit_lt rfl) (fun _ => Calm.move rfl) ?_
          refine draw_pure rfl rfl rfl rfl (lit_lt rfl) (fun _ => Calm.indexS Try.underlying23 ty_size_3 rfl rfl (by omega) (by omega)) ?_
          refine draw_calm rfl rfl rfl (lit_lt rfl) less_ (fun S' hS' => by obtain rfl := hS'.resolve_left (by decide); exact ld_ ty_plain_3 rfl) ?_
          refine draw_pure rfl rfl rfl rfl (lit_lt rfl) (fun _ => Calm.bin rfl rfl b_neq) ?_
          refine draw_nil ?_
          refine athen_n ?_
          refine AWP.sub [(2, _), (3, _), (23, _), (24, _), (25, _), (5, _), (37, _)] ⟨rfl, rfl, rfl, rfl, rfl, rfl, rfl, trivial⟩ ?_
          refine AWP.condT rfl (by first | rfl | (simp; done) | (simp; omega)) ?_
          refine AWP.seq ?_
          refine AWP.region ?_
          refine rC (Calm.assign rfl) ?_
          refine arun_nil ?_
          refine athen_n ?_
          refine AWP.ret ?_
          refine ain_ret ?_
          refine athen_ret ?_
          refine athen_ret ?_
          refine ain_ret ?_
          refine athen_ret ?_
          refine ⟨_, S, ⟨_, _, rfl, rfl, rfl⟩, less_, ?_⟩
          exact ⟨by rw [decide_eq_false (fun ee => e (by subst ee; rfl))]; rfl, rfl⟩
      · have hl : i = tr1.length := by have := of_decide_eq_false hl; omega
        refine AWP.exit ?_
        refine athen_exit ?_
        refine athen_exit ?_
        refine ain_same ?_
        refine athen_n ?_
        refine AWP.seq ?_
        refine AWP.region ?_
        refine rC (Calm.assign rfl) ?_
        refine arun_nil ?_
        refine athen_n ?_
        refine AWP.ret ?_
        refine ⟨_, S, ⟨_, _, rfl, rfl, rfl⟩, less_, ?_⟩
        exact ⟨by rw [decide_eq_true (List.ext_getElem hlen fun j h1 h2 => hq j h1 h2 (by omega))]; rfl, rfl⟩
    · have hlen0 := hlen
      refine ACall.enter (args := [.agg #[hk1, .slice p1 tr1.length c1], .agg #[hk2, .slice p2 tr2.length c2]]) (rs := [.tmp 4]) 39 [(0, .agg #[hk1, .slice p1 tr1.length c1]), (1, .agg #[hk2, .slice p2 tr2.length c2])] Try.func16 rfl rfl (Nat.le_of_ble_eq_true rfl) rfl ⟨rfl, rfl, trivial⟩ ?_
      refine AWP.seq ?_
      refine AWP.region ?_
      refine ARun.boxA (cs := [_, _]) (lit_lt rfl) rfl ?_
      intro b2 f2
      have g2 := f2
      repeat ((with_reducible replace g2 := fresh_set g2); obtain ⟨g2, _⟩ := g2)
      (try simp only [List.length_cons, List.length_nil, Nat.zero_add, Nat.reduceAdd])
      refine ARun.boxA (cs := [_, _]) (lit_lt rfl) rfl ?_
      intro b3 f3
      have g3 := f3
      repeat ((with_reducible replace g3 := fresh_set g3); obtain ⟨g3, _⟩ := g3)
      (try simp only [List.length_cons, List.length_nil, Nat.zero_add, Nat.reduceAdd])
      refine rC (Calm.assign rfl) ?_
      refine arun_nil ?_
      refine athen_n ?_
      refine AWP.seq ?_
      refine AWP.seq ?_
      refine AWP.region ?_
      refine rC (Calm.fieldAddr ty_field_25_1 rfl) ?_
      refine rC (ld_ ty_plain_23 rfl) ?_
      refine rC (Calm.lenSl Try.underlying23 rfl) ?_
      refine rC (Calm.fieldAddr ty_field_25_1 rfl) ?_
      refine rC (ld_ ty_plain_23 rfl) ?_
      refine rC (Calm.lenSl Try.underlying23 rfl) ?_
      refine rC (Calm.bin rfl rfl b_neq) ?_
      refine rC (Calm.move rfl) ?_
      first | refine rS 13 ?_ | refine rU 13 ?_ | refine rG 13 (Calm.fieldAddr ty_field_25_0 rfl) ?_
      first | refine rS 13 ?_ | refine rU 13 ?_ | refine rG 13 (ld_ ty_plain_22 rfl) ?_
      first | refine rS 13 ?_ | refine rU 13 ?_ | refine rG 13 (Calm.fieldAddr ty_field_25_0 rfl) ?_
      first | refine rS 13 ?_ | refine rU 13 ?_ | refine rG 13 (ld_ ty_plain_22 rfl) ?_
      refine ARun.callG 7 false 13 rfl (lit_lt rfl) rfl (lit_lt rfl) go_48 rfl (rnumV_Same ks1 ks2 _ _ _ (h1.1.less rowR_less less_) (h2.1.less rowR_less less_)) ?_
      rintro _ S1 ⟨rfl, e1⟩
      rw [e1, decide_eq_false hks]; clear e1 S1
      first | refine rS 13 ?_ | refine rU 13 ?_ | refine rG 13 (Calm.un rfl (una_not _)) ?_
      refine rC ((by first | exact Calm.pickT rfl rfl | exact Calm.pickF rfl rfl)) ?_
      refine arun_nil ?_
      refine athen_n ?_
      refine AWP.sub [(0, _), (1, _), (2, _), (3, _), (4, _), (20, _)] ⟨rfl, rfl, rfl, rfl, rfl, rfl, trivial⟩ ?_
      refine AWP.condT rfl (by first | rfl | (simp; done) | (simp; omega)) ?_
      refine AWP.seq ?_
      refine AWP.region ?_
      refine rC (Calm.assign rfl) ?_
      refine arun_nil ?_
      refine athen_n ?_
      refine AWP.ret ?_
      refine athen_ret ?_
      refine ⟨_, S, ⟨_, _, rfl, rfl, rfl⟩, less_, ?_⟩
      exact ⟨rfl, rfl⟩
  · have hlen0 := hlen
    refine ACall.enter (args := [.agg #[hk1, .slice p1 tr1.length c1], .agg #[hk2, .slice p2 tr2.length c2]]) (rs := [.tmp 4]) 39 [(0, .agg #[hk1, .slice p1 tr1.length c1]), (1, .agg #[hk2, .slice p2 tr2.length c2])] Try.func16 rfl rfl (Nat.le_of_ble_eq_true rfl) rfl ⟨rfl, rfl, trivial⟩ ?_
    refine AWP.seq ?_
    refine AWP.region ?_
    refine ARun.boxA (cs := [_, _]) (lit_lt rfl) rfl ?_
    intro b2 f2
    have g2 := f2
    repeat ((with_reducible replace g2 := fresh_set g2); obtain ⟨g2, _⟩ := g2)
    (try simp only [List.length_cons, List.length_nil, Nat.zero_add, Nat.reduceAdd])
    refine ARun.boxA (cs := [_, _]) (lit_lt rfl) rfl ?_
    intro b3 f3
    have g3 := f3
    repeat ((with_reducible replace g3 := fresh_set g3); obtain ⟨g3, _⟩ := g3)
    (try simp only [List.length_cons, List.length_nil, Nat.zero_add, Nat.reduceAdd])
    refine rC (Calm.assign rfl) ?_
    refine arun_nil ?_
    refine athen_n ?_
    refine AWP.seq ?_
    refine AWP.seq ?_
    refine AWP.region ?_
    refine rC (Calm.fieldAddr ty_field_25_1 rfl) ?_
    refine rC (ld_ ty_plain_23 rfl) ?_
    refine rC (Calm.lenSl Try.underlying23 rfl) ?_
    refine rC (Calm.fieldAddr ty_field_25_1 rfl) ?_
    refine rC (ld_ ty_plain_23 rfl) ?_
    refine rC (Calm.lenSl Try.underlying23 rfl) ?_
    refine rC (Calm.bin rfl rfl b_neq) ?_
    refine rC (Calm.move rfl) ?_
    first | refine rS 13 ?_ | refine rU 13 ?_ | refine rG 13 (Calm.fieldAddr ty_field_25_0 rfl) ?_
    first | refine rS 13 ?_ | refine rU 13 ?_ | refine rG 13 (ld_ ty_plain_22 rfl) ?_
    first | refine rS 13 ?_ | refine rU 13 ?_ | refine rG 13 (Calm.fieldAddr ty_field_25_0 rfl) ?_
    first | refine rS 13 ?_ | refine rU 13 ?_ | refine rG 13 (ld_ ty_plain_22 rfl) ?_
    first | refine rS 13 ?_ | refine rU 13 ?_
    first | refine rS 13 ?_ | refine rU 13 ?_ | refine rG 13 (Calm.un rfl (una_not _)) ?_
    refine rC ((by first | exact Calm.pickT rfl rfl | exact Calm.pickF rfl rfl)) ?_
    refine arun_nil ?_
    refine athen_n ?_
    refine AWP.sub [(0, _), (1, _), (2, _), (3, _), (4, _), (20, _)] ⟨rfl, rfl, rfl, rfl, rfl, rfl, trivial⟩ ?_
    refine AWP.condT rfl (by first | rfl | (simp; done) | (simp; omega)) ?_
    refine AWP.seq ?_
    refine AWP.region ?_
    refine rC (Calm.assign rfl) ?_
    refine arun_nil ?_
    refine athen_n ?_
    refine AWP.ret ?_
    refine athen_ret ?_
    refine ⟨_, S, ⟨_, _, rfl, rfl, rfl⟩, less_, ?_⟩
    exact ⟨by rw [decide_eq_false (fun e : tr1 = tr2 => hlen (by rw [e])), Bool.and_false]; rfl, rfl⟩
set_option maxHeartbeats 2000000 in
theorem rlosV_Make (v : Value) (ks : List (List Nat)) (S : Mem) (hks : SlOf RowR S v ks) (hrow : ∀ x ∈ ks, x.length ≤ 17592186043904) :
    ACall Try.prog 14 #[v] S (LosR (makeP ks) S) := by
  obtain ⟨gs, hgl, ⟨pa, ca, rfl, h1, h2, h3⟩, hge⟩ := id hks
  unfold makeP
  have htl := treeOf_length ks
  by_cases c1 : gs.length < 1
  · rw [if_neg (by omega)]
    refine ACall.enter (args := [.slice pa gs.length ca]) (rs := [.cell 2 25, .tmp 3]) 18 [(0, .slice pa gs.length ca)] Try.func14 rfl rfl (Nat.le_of_ble_eq_true rfl) rfl ⟨rfl, trivial⟩ ?_
    refine AWP.seq ?_
    refine AWP.region ?_
    refine ARun.alloc (lit_lt rfl) ty_zero_25 ?_
    intro b2 f2
    have g2 := f2
    repeat ((with_reducible replace g2 := fresh_set g2); obtain ⟨g2, _⟩ := g2)
    (try simp only [List.length_cons, List.length_nil, Nat.zero_add, Nat.reduceAdd])
    refine rC (Calm.assign rfl) ?_
    refine arun_nil ?_
    refine athen_n ?_
    refine AWP.seq ?_
    refine AWP.seq ?_
    refine AWP.region ?_
    refine rC (Calm.move rfl) ?_
    refine rC (Calm.lenSl Try.underlying22 rfl) ?_
    refine rC (Calm.bin rfl rfl b_lss) ?_
    refine rC (Calm.move rfl) ?_
    first | refine rS 7 ?_ | refine rU 7 ?_ | refine rG 7 (Calm.move rfl) ?_
    first | refine rS 7 ?_ | refine rU 7 ?_ | refine rG 7 (Calm.lenSl Try.underlying22 rfl) ?_
    first | refine rS 7 ?_ | refine rU 7 ?_ | refine rG 7 (Calm.bin rfl rfl b_gtr) ?_
    refine rC ((by first | exact Calm.pickT rfl rfl | exact Calm.pickF rfl rfl)) ?_
    refine arun_nil ?_
    refine athen_n ?_
    refine AWP.sub [(0, _), (2, _), (3, _), (11, _)] ⟨rfl, rfl, rfl, rfl, trivial⟩ ?_
    refine AWP.condT rfl (by first | rfl | (simp; done) | (simp; omega)) ?_
    refine AWP.seq ?_
    refine AWP.region ?_
    refine rC (Calm.build (cs := [_, _]) ty_bld_25 rfl rfl) ?_
    first | refine ARun.storeAll rfl rfl ty_size_25 own_ rfl rfl ?_ | refine ARun.store rfl rfl ty_size_25 own_ lens_ rfl ?_
    (try simp only [Mem.set_set, List.set_cons_zero, List.set_cons_succ, Nat.zero_add, Nat.reduceAdd])
    refine rC (Calm.assign rfl) ?_
    refine arun_nil ?_
    refine athen_n ?_
    refine AWP.sub [(0, _), (2, _), (3, _), (11, _)] ⟨rfl, rfl, rfl, rfl, trivial⟩ ?_
    refine AWP.ret ?_
    refine athen_ret ?_
    refine ⟨_, S, ⟨_, _, _, rfl, .inr ⟨ty_agg_25, [_, _], ty_size_25, rds_, rfl⟩, ⟨_, _, rfl, rfl, rfl⟩, rfl⟩, less_, ?_⟩
    exact ⟨_, _, rfl, Mem.Less.refl _, loV_nil _⟩
  by_cases c2 : 256 < gs.length
  · rw [if_neg (by omega)]
    refine ACall.enter (args := [.slice pa gs.length ca]) (rs := [.cell 2 25, .tmp 3]) 18 [(0, .slice pa gs.length ca)] Try.func14 rfl rfl (Nat.le_of_ble_eq_true rfl) rfl ⟨rfl, trivial⟩ ?_
    refine AWP.seq ?_
    refine AWP.region ?_
    refine ARun.alloc (lit_lt rfl) ty_zero_25 ?_
    intro b2 f2
    have g2 := f2
    repeat ((with_reducible replace g2 := fresh_set g2); obtain ⟨g2, _⟩ := g2)
    (try simp only [List.length_cons, List.length_nil, Nat.zero_add, Nat.reduceAdd])
    refine rC (Calm.assign rfl) ?_
    refine arun_nil ?_
    refine athen_n ?_
    refine AWP.seq ?_
    refine AWP.seq ?_
    refine AWP.region ?_
    refine rC (Calm.move rfl) ?_
    refine rC (Calm.lenSl Try.underlying22 rfl) ?_
    refine rC (Calm.bin rfl rfl b_lss) ?_
    refine rC (Calm.move rfl) ?_
    first | refine rS 7 ?_ | refine rU 7 ?_ | refine rG 7 (Calm.move rfl) ?_
    first | refine rS 7 ?_ | refine rU 7 ?_ | refine rG 7 (Calm.lenSl Try.underlying22 rfl) ?_
    first | refine rS 7 ?_ | refine rU 7 ?_ | refine rG 7 (Calm.bin rfl rfl b_gtr) ?_
    refine rC ((by first | exact Calm.pickT rfl rfl | exact Calm.pickF rfl rfl)) ?_
    refine arun_nil ?_
    refine athen_n ?_
    refine AWP.sub [(0, _), (2, _), (3, _), (11, _)] ⟨rfl, rfl, rfl, rfl, trivial⟩ ?_
    refine AWP.condT rfl (by first | rfl | (simp; done) | (simp; omega)) ?_
    refine AWP.seq ?_
    refine AWP.region ?_
    refine rC (Calm.build (cs := [_, _]) ty_bld_25 rfl rfl) ?_
    first | refine ARun.storeAll rfl rfl ty_size_25 own_ rfl rfl ?_ | refine ARun.store rfl rfl ty_size_25 own_ lens_ rfl ?_
    (try simp only [Mem.set_set, List.set_cons_zero, List.set_cons_succ, Nat.zero_add, Nat.reduceAdd])
    refine rC (Calm.assign rfl) ?_
    refine arun_nil ?_
    refine athen_n ?_
    refine AWP.sub [(0, _), (2, _), (3, _), (11, _)] ⟨rfl, rfl, rfl, rfl, trivial⟩ ?_
    refine AWP.ret ?_
    refine athen_ret ?_
    refine ⟨_, S, ⟨_, _, _, rfl, .inr ⟨ty_agg_25, [_, _], ty_size_25, rds_, rfl⟩, ⟨_, _, rfl, rfl, rfl⟩, rfl⟩, less_, ?_⟩
    exact ⟨_, _, rfl, Mem.Less.refl _, loV_nil _⟩
  rw [if_pos (by omega)]
  have htree := rlosV_tree _ ks S hks (by omega) (by omega)
  refine ACall.enter (args := [.slice pa gs.length ca]) (rs := [.cell 2 25, .tmp 3]) 18 [(0, .slice pa gs.length ca)] Try.func14 rfl rfl (Nat.le_of_ble_eq_true rfl) rfl ⟨rfl, trivial⟩ ?_
  refine AWP.seq ?_
  refine AWP.region ?_
  refine ARun.alloc (lit_lt rfl) ty_zero_25 ?_
  intro b2 f2
  have g2 := f2
  repeat ((with_reducible replace g2 := fresh_set g2); obtain ⟨g2, _⟩ := g2)
  (try simp only [List.length_cons, List.length_nil, Nat.zero_add, Nat.reduceAdd])
  refine rC (Calm.assign rfl) ?_
  refine arun_nil ?_
  refine athen_n ?_
  refine AWP.seq ?_
  refine AWP.seq ?_
  refine AWP.region ?_
  refine rC (Calm.move rfl) ?_
  refine rC (Calm.lenSl Try.underlying22 rfl) ?_
  refine rC (Calm.bin rfl rfl b_lss) ?_
  refine rC (Calm.move rfl) ?_
  first | refine rS 7 ?_ | refine rU 7 ?_ | refine rG 7 (Calm.move rfl) ?_
  first | refine rS 7 ?_ | refine rU 7 ?_ | refine rG 7 (Calm.lenSl Try.underlying22 rfl) ?_
  first | refine rS 7 ?_ | refine rU 7 ?_ | refine rG 7 (Calm.bin rfl rfl b_gtr) ?_
  refine rC ((by first | exact Calm.pickT rfl rfl | exact Calm.pickF rfl rfl)) ?_
  refine arun_nil ?_
  refine athen_n ?_
  refine AWP.sub [(0, _), (2, _), (3, _), (11, _)] ⟨rfl, rfl, rfl, rfl, trivial⟩ ?_
  refine AWP.condF rfl (by first | rfl | (simp; done) | (simp; omega)) ?_
  refine AWP.skip ?_
  refine athen_n ?_
  refine AWP.seq ?_
  refine AWP.region ?_
  refine rC (Calm.move rfl) ?_
  refine rC (Calm.move rfl) ?_
  refine ARun.call (lit_lt rfl) go_47 rfl (htree.frame g2) ?_
  rintro _ S1 ⟨S1', ⟨q, fq, rfl, rfl⟩, f2', rfl⟩
  refine rC (Calm.build (cs := [_, _]) ty_bld_25 rfl rfl) ?_
  refine ARun.call (lit_lt rfl) go_17 rfl ((rlosV_Copy _ _ ks (treeOf ks) _ ⟨hks.less rowR_less (Mem.less_set _ _ _ fq.1), sl_intB (Mem.own_set_same _ _ _) htl (Nat.le_refl _) (by omega)⟩ (by omega) (by omega) hrow).frame f2') ?_
  rintro _ S2 ⟨S2', hcp, f2'', rfl⟩
  obtain ⟨hk, ht, rfl, hS2, hlo⟩ := hcp.lo (by omega)
  obtain ⟨_, _, rfl, _⟩ := id hlo.2
  obtain ⟨_, _, ⟨_, _, rfl, _⟩, _⟩ := id hlo.1
  first | refine ARun.storeAll rfl rfl ty_size_25 own_ rfl rfl ?_ | refine ARun.store rfl rfl ty_size_25 own_ lens_ rfl ?_
  (try simp only [Mem.set_set, List.set_cons_zero, List.set_cons_succ, Nat.zero_add, Nat.reduceAdd])
  refine rC (Calm.assign rfl) ?_
  refine arun_nil ?_
  refine athen_n ?_
  refine AWP.sub [(0, _), (2, _), (3, _), (11, _)] ⟨rfl, rfl, rfl, rfl, trivial⟩ ?_
  refine AWP.ret ?_
  refine ⟨_, S2', ⟨_, _, _, rfl, .inr ⟨ty_agg_25, [_, _], ty_size_25, rds_, rfl⟩, ⟨_, _, rfl, rfl, rfl⟩, rfl⟩, Mem.less_set _ _ _ f2''.1, ?_⟩
  exact ⟨_, _, rfl, (Mem.less_set _ _ _ fq.1).trans hS2, hlo⟩
set_option maxHeartbeats 1000000 in
theorem rlosV_Top (hk ht : Value) (ks : List (List Nat)) (tr : List Int) (S : Mem) (hl : LoV S hk ht ks tr) (hrow : ∀ x ∈ ks, x.length ≤ 17592186043904) :
    ACall Try.prog 19 #[.agg #[hk, ht]] S (TopR (topP ks tr) S) := by
  unfold topP
  rcases chk_or ks tr with ⟨hc, hc1, hc2, rfl⟩ | hc
  · rw [if_neg (by rw [hc]; simp)]
    have hw := win_lt (ks := ks) (n := 1) (by decide) (by omega)
    have htl := treeOf_length ks
    obtain ⟨gs, hgl, hga, hge⟩ := id hl.1
    obtain ⟨pa, ca, rfl, a1, a2, a3⟩ := id hga
    obtain ⟨b0, off, rfl, _⟩ := a3.resolve_left (by intro h; rw [h] at hgl; simp at hgl; omega)
    have hts := hl.2
    obtain ⟨pt, ct, rfl, t1, t2, t3⟩ := id hts
    obtain ⟨bt, offt, rfl, _⟩ := t3.resolve_left (by intro h; rw [h] at htl; simp at htl; omega)
    have k0 := hts.at1 0 (by omega)
    rw [treeOf_0 ks (by omega)] at k0
    unfold i64s at k0
    have k1 := hga.at1 (win ks 1) (by omega)
    have hr := hge (win ks 1) hw (by omega)
    rw [← key_get ks _ hw] at hr
    have hrl : (key ks (win ks 1)).length ≤ 17592186043904 := by rw [key_get ks _ hw]; exact hrow _ (List.getElem_mem _)
    obtain ⟨g, hg⟩ : ∃ g, g = gs[win ks 1] := ⟨_, rfl⟩
    rw [← hg] at k1 hr
    obtain ⟨qa, da, rfl, x1, x2, _⟩ := id hr
    have hlz : (key ks (win ks 1)).length = 0 ↔ key ks (win ks 1) = [] := List.length_eq_zero_iff
    by_cases he : (key ks (win ks 1)).length = 0
    · rw [if_pos (hlz.1 he)]
      refine ACall.enter (args := [.agg #[.slice (some ⟨b0, off, none⟩) gs.length ca, .slice (some ⟨bt, offt, none⟩) (treeOf ks).length ct]]) (rs := [.tmp 2, .tmp 3, .tmp 4]) 28 [(0, .agg #[.slice (some ⟨b0, off, none⟩) gs.length ca, .slice (some ⟨bt, offt, none⟩) (treeOf ks).length ct])] Try.func19 rfl rfl (Nat.le_of_ble_eq_true rfl) rfl ⟨rfl, trivial⟩ ?_
      refine AWP.seq ?_
      refine AWP.region ?_
      refine ARun.boxA (cs := [_, _]) (lit_lt rfl) rfl ?_
      intro b1 f1
      have g1 := f1
      repeat ((with_reducible replace g1 := fresh_set g1); obtain ⟨g1, _⟩ := g1)
      (try simp only [List.length_cons, List.length_nil, Nat.zero_add, Nat.reduceAdd])
      refine rC (Calm.assign rfl) ?_
      refine rC (Calm.assign rfl) ?_
      refine rC (Calm.assign rfl) ?_
      refine arun_nil ?_
      refine athen_n ?_
      refine AWP.seq ?_
      refine AWP.seq ?_
      refine AWP.region ?_
      refine rC (ldA_ (cs := [_, _]) ty_agg_25 ty_size_25 rfl) ?_
      refine ARun.call (lit_lt rfl) go_27 rfl (rlosV_Check _ _ ks (treeOf ks) _ (hl.less less_)) ?_
      rintro _ S1 ⟨rfl, h1⟩
      rw [h1, hc]; clear h1 S1
      refine rC (Calm.bin rfl rfl b_neq) ?_
      refine arun_nil ?_
      refine athen_n ?_
      refine AWP.sub [(0, _), (1, _), (2, _), (3, _), (4, _), (8, _)] ⟨rfl, rfl, rfl, rfl, rfl, rfl, trivial⟩ ?_
      refine AWP.condF rfl (by first | rfl | (simp; done) | (simp; omega)) ?_
      refine AWP.skip ?_
      refine athen_n ?_
      refine AWP.seq ?_
      refine AWP.region ?_
      refine rC (Calm.fieldAddr ty_field_25_1 rfl) ?_
      refine rC (ld_ ty_plain_23 rfl) ?_
      refine rC (Calm.indexS Try.underlying23 ty_size_3 rfl rfl (by omega) (by omega)) ?_
      refine rC (ld_ ty_plain_3 rfl) ?_
      refine rC (Calm.assign rfl) ?_
      refine arun_nil ?_
      refine athen_n ?_
      refine AWP.sub [(0, _), (1, _), (2, _), (3, _), (4, _), (8, _), (5, _)] ⟨rfl, rfl, rfl, rfl, rfl, rfl, rfl, trivial⟩ ?_
      refine AWP.seq ?_
      refine AWP.seq ?_
      refine AWP.region ?_
      refine rC (Calm.fieldAddr ty_field_25_0 rfl) ?_
      refine rC (ld_ ty_plain_22 rfl) ?_
      refine rC (Calm.move rfl) ?_
      refine rC (Calm.indexS Try.underlying22 ty_size_32 rfl rfl (by omega) (by omega)) ?_
      refine rC (ld_ ty_plain_32 rfl) ?_
      refine rC (Calm.lenSl Try.underlying32 rfl) ?_
      refine rC (Calm.bin rfl rfl b_eql) ?_
      refine arun_nil ?_
      refine athen_n ?_
      refine AWP.sub [(0, _), (1, _), (2, _), (3, _), (4, _), (8, _), (5, _), (19, _)] ⟨rfl, rfl, rfl, rfl, rfl, rfl, rfl, rfl, trivial⟩ ?_
      refine AWP.condT rfl (by first | rfl | (simp; done) | (simp; omega)) ?_
      refine AWP.seq ?_
      refine AWP.region ?_
      refine rC (Calm.assign rfl) ?_
      refine rC (Calm.assign rfl) ?_
      refine rC (Calm.assign rfl) ?_
      refine arun_nil ?_
      refine athen_n ?_
      refine AWP.ret ?_
      refine athen_ret ?_
      refine ⟨_, S, ⟨_, _, rfl, ⟨_, _, rfl, ⟨_, _, rfl, rfl, rfl⟩, rfl⟩, rfl⟩, less_, ?_⟩
      exact ⟨_, rfl, Mem.Less.refl _, Sl.nil _ _ _⟩
    · rw [if_neg (fun e => he (hlz.2 e))]
      refine ACall.enter (args := [.agg #[.slice (some ⟨b0, off, none⟩) gs.length ca, .slice (some ⟨bt, offt, none⟩) (treeOf ks).length ct]]) (rs := [.tmp 2, .tmp 3, .tmp 4]) 28 [(0, .agg #[.slice (some ⟨b0, off, none⟩) gs.length ca, .slice (some ⟨bt, offt, none⟩) (treeOf ks).length ct])] Try.func19 rfl rfl (Nat.le_of_ble_eq_true rfl) rfl ⟨rfl, trivial⟩ ?_
      refine AWP.seq ?_
      refine AWP.region ?_
      refine ARun.boxA (cs := [_, _]) (lit_lt rfl) rfl ?_
      intro b1 f1
      have g1 := f1
      repeat ((with_reducible replace g1 := fresh_set g1); obtain ⟨g1, _⟩ := g1)
      (try simp only [List.length_cons, List.length_nil, Nat.zero_add, Nat.reduceAdd])
      refine rC (Calm.assign rfl) ?_
      refine rC (Calm.assign rfl) ?_
      refine rC (Calm.assign rfl) ?_
      refine arun_nil ?_
      refine athen_n ?_
      refine AWP.seq ?_
      refine AWP.seq ?_
      refine AWP.region ?_
      refine rC (ldA_ (cs := [_, _]) ty_agg_25 ty_size_25 rfl) ?_
      refine ARun.call (lit_lt rfl) go_27 rfl (rlosV_Check _ _ ks (treeOf ks) _ (hl.less less_)) ?_
      rintro _ S1 ⟨rfl, h1⟩
      rw [h1, hc]; clear h1 S1
      refine rC (Calm.bin rfl rfl b_neq) ?_
      refine arun_nil ?_
      refine athen_n ?_
      refine AWP.sub [(0, _), (1, _), (2, _), (3, _), (4, _), (8, _)] ⟨rfl, rfl, rfl, rfl, rfl, rfl, trivial⟩ ?_
      refine AWP.condF rfl (by first | rfl | (simp; done) | (simp; omega)) ?_
      refine AWP.skip ?_
      refine athen_n ?_
      refine AWP.seq ?_
      refine AWP.region ?_
      refine rC (Calm.fieldAddr ty_field_25_1 rfl) ?_
      refine rC (ld_ ty_plain_23 rfl) ?_
      refine rC (Calm.indexS Try.underlying23 ty_size_3 rfl rfl (by omega) (by omega)) ?_
      refine rC (ld_ ty_plain_3 rfl) ?_
      refine rC (Calm.assign rfl) ?_
      refine arun_nil ?_
      refine athen_n ?_
      refine AWP.sub [(0, _), (1, _), (2, _), (3, _), (4, _), (8, _), (5, _)] ⟨rfl, rfl, rfl, rfl, rfl, rfl, rfl, trivial⟩ ?_
      refine AWP.seq ?_
      refine AWP.seq ?_
      refine AWP.region ?_
      refine rC (Calm.fieldAddr ty_field_25_0 rfl) ?_
      refine rC (ld_ ty_plain_22 rfl) ?_
      refine rC (Calm.move rfl) ?_
      refine rC (Calm.indexS Try.underlying22 ty_size_32 rfl rfl (by omega) (by omega)) ?_
      refine rC (ld_ ty_plain_32 rfl) ?_
      refine rC (Calm.lenSl Try.underlying32 rfl) ?_
      refine rC (Calm.bin rfl rfl b_eql) ?_
      refine arun_nil ?_
      refine athen_n ?_
      refine AWP.sub [(0, _), (1, _), (2, _), (3, _), (4, _), (8, _), (5, _), (19, _)] ⟨rfl, rfl, rfl, rfl, rfl, rfl, rfl, rfl, trivial⟩ ?_
      refine AWP.condF rfl (by first | rfl | (simp; done) | (simp; omega)) ?_
      refine AWP.skip ?_
      refine athen_n ?_
      refine AWP.seq ?_
      refine AWP.region ?_
      refine rC (Calm.move rfl) ?_
      refine ARun.build0 (lit_lt rfl) ty_sl_32 ?_
      intro b21 f21
      have g21 := f21
      repeat ((with_reducible replace g21 := fresh_set g21); obtain ⟨g21, _⟩ := g21)
      refine rC (Calm.fieldAddr ty_field_25_0 rfl) ?_
      refine rC (ld_ ty_plain_22 rfl) ?_
      refine rC (Calm.move rfl) ?_
      refine rC (Calm.indexS Try.underlying22 ty_size_32 rfl rfl (by omega) (by omega)) ?_
      refine rC (ld_ ty_plain_32 rfl) ?_
      refine ARun.appendClone (g := fun n : Nat => Value.int .u64 (n : Int)) (lit_lt rfl) ty_sl_32 rfl own_ (set_del_same' (del_base f21)) rfl (rowR_less _ _ _ _ hr less_) (fun _ => rfl) (by omega) ?_
      intro vc S1 hcl
      refine rC (Calm.assign rfl) ?_
      refine rC (Calm.assign rfl) ?_
      refine rC (Calm.assign rfl) ?_
      refine arun_nil ?_
      refine athen_n ?_
      refine AWP.sub [(0, _), (1, _), (2, _), (3, _), (4, _), (8, _), (5, _), (19, _)] ⟨rfl, rfl, rfl, rfl, rfl, rfl, rfl, rfl, trivial⟩ ?_
      refine AWP.ret ?_
      refine ⟨_, _, ⟨_, _, rfl, ⟨_, _, rfl, ⟨_, _, rfl, rfl, rfl⟩, rfl⟩, rfl⟩, Mem.Less.refl _, ?_⟩
      exact ⟨_, rfl, Mem.Less.trans less_ hcl.less, hcl.sl (by omega)⟩
  · rw [if_pos (by rw [hc]; simp)]
    refine ACall.enter (args := [.agg #[hk, ht]]) (rs := [.tmp 2, .tmp 3, .tmp 4]) 28 [(0, .agg #[hk, ht])] Try.func19 rfl rfl (Nat.le_of_ble_eq_true rfl) rfl ⟨rfl, trivial⟩ ?_
    refine AWP.seq ?_
    refine AWP.region ?_
    refine ARun.boxA (cs := [_, _]) (lit_lt rfl) rfl ?_
    intro b1 f1
    have g1 := f1
    repeat ((with_reducible replace g1 := fresh_set g1); obtain ⟨g1, _⟩ := g1)
    (try simp only [List.length_cons, List.length_nil, Nat.zero_add, Nat.reduceAdd])
    refine rC (Calm.assign rfl) ?_
    refine rC (Calm.assign rfl) ?_
    refine rC (Calm.assign rfl) ?_
    refine arun_nil ?_
    refine athen_n ?_
    refine AWP.seq ?_
    refine AWP.seq ?_
    refine AWP.region ?_
    refine rC (ldA_ (cs := [_, _]) ty_agg_25 ty_size_25 rfl) ?_
    refine ARun.call (lit_lt rfl) go_27 rfl (rlosV_Check hk ht ks tr _ (hl.less less_)) ?_
    rintro _ S1 ⟨rfl, h1⟩
    rw [h1, hc]; clear h1 S1
    refine rC (Calm.bin rfl rfl b_neq) ?_
    refine arun_nil ?_
    refine athen_n ?_
    refine AWP.sub [(0, _), (1, _), (2, _), (3, _), (4, _), (8, _)] ⟨rfl, rfl, rfl, rfl, rfl, rfl, trivial⟩ ?_
    refine AWP.condT rfl (by first | rfl | (simp; done) | (simp; omega)) ?_
    refine AWP.seq ?_
    refine AWP.region ?_
    refine rC (Calm.assign rfl) ?_
    refine rC (Calm.assign rfl) ?_
    refine rC (Calm.assign rfl) ?_
    refine arun_nil ?_
    refine athen_n ?_
    refine AWP.ret ?_
    refine athen_ret ?_
    refine ⟨_, S, ⟨_, _, rfl, ⟨_, _, rfl, ⟨_, _, rfl, rfl, rfl⟩, rfl⟩, rfl⟩, less_, ?_⟩
    exact ⟨_, rfl, Mem.Less.refl _, Sl.nil _ _ _⟩
set_option maxHeartbeats 1000000 in
theorem rlosV_Path (hk ht : Value) (ks : List (List Nat)) (tr : List Int) (leaf : Int) (S : Mem) (hl : LoV S hk ht ks tr) (hb0 : -9223372036854775808 ≤ leaf) (hb1 : leaf ≤ 9223372036854775807) :
    ACall Try.prog 23 #[.agg #[hk, ht], .int .i64 leaf] S (PathR (pathP ks tr leaf) S) := by
  unfold pathP
  rcases chk_or ks tr with ⟨hc, hc1, hc2, rfl⟩ | hc
  · rw [if_neg (by rw [hc]; simp)]
    obtain ⟨gs, hgl, ⟨pa, ca, rfl, a1, a2, a3⟩, hge⟩ := id hl.1
    by_cases hneg : leaf < 0
    · rw [if_pos (.inl hneg)]
      refine ACall.enter (args := [.agg #[.slice pa gs.length ca, ht], .int .i64 leaf]) (rs := [.tmp 4, .tmp 5]) 35 [(0, .agg #[.slice pa gs.length ca, ht]), (1, .int .i64 leaf)] Try.func23 rfl rfl (Nat.le_of_ble_eq_true rfl) rfl ⟨rfl, rfl, trivial⟩ ?_
      refine AWP.seq ?_
      refine AWP.region ?_
      refine ARun.boxA (cs := [_, _]) (lit_lt rfl) rfl ?_
      intro b2 f2
      have g2 := f2
      repeat ((with_reducible replace g2 := fresh_set g2); obtain ⟨g2, _⟩ := g2)
      (try simp only [List.length_cons, List.length_nil, Nat.zero_add, Nat.reduceAdd])
      refine rC (Calm.assign rfl) ?_
      refine rC (Calm.assign rfl) ?_
      refine arun_nil ?_
      refine athen_n ?_
      refine AWP.seq ?_
      refine AWP.seq ?_
      refine AWP.region ?_
      refine rC (ldA_ (cs := [_, _]) ty_agg_25 ty_size_25 rfl) ?_
      refine ARun.call (lit_lt rfl) go_27 rfl (rlosV_Check _ ht ks (treeOf ks) _ (hl.less less_)) ?_
      rintro _ S1 ⟨rfl, h1⟩
      rw [h1, hc]; clear h1 S1
      refine rC (Calm.bin rfl rfl b_neq) ?_
      refine arun_nil ?_
      refine athen_n ?_
      refine AWP.sub [(0, _), (1, _), (2, _), (4, _), (5, _), (10, _)] ⟨rfl, rfl, rfl, rfl, rfl, rfl, trivial⟩ ?_
      refine AWP.condF rfl (by first | rfl | (simp; done) | (simp; omega)) ?_
      refine AWP.skip ?_
      refine athen_n ?_
      refine AWP.seq ?_
      refine AWP.seq ?_
      refine AWP.region ?_
      refine rC (Calm.move rfl) ?_
      refine rC (Calm.bin rfl rfl b_lss) ?_
      refine rC (Calm.move rfl) ?_
      first | refine rS 13 ?_ | refine rU 13 ?_ | refine rG 13 (Calm.move rfl) ?_
      first | refine rS 13 ?_ | refine rU 13 ?_ | refine rG 13 (Calm.fieldAddr ty_field_25_0 rfl) ?_
      first | refine rS 13 ?_ | refine rU 13 ?_ | refine rG 13 (ld_ ty_plain_22 rfl) ?_
      first | refine rS 13 ?_ | refine rU 13 ?_ | refine rG 13 (Calm.lenSl Try.underlying22 rfl) ?_
      first | refine rS 13 ?_ | refine rU 13 ?_ | refine rG 13 (Calm.bin rfl rfl b_geq) ?_
      refine rC ((by first | exact Calm.pickT rfl rfl | exact Calm.pickF rfl rfl)) ?_
      refine arun_nil ?_
      refine athen_n ?_
      refine AWP.sub [(0, _), (1, _), (2, _), (4, _), (5, _), (10, _), (19, _)] ⟨rfl, rfl, rfl, rfl, rfl, rfl, rfl, trivial⟩ ?_
      refine AWP.condT rfl (by first | rfl | (simp; done) | (simp; omega)) ?_
      refine AWP.seq ?_
      refine AWP.region ?_
      refine rC (Calm.assign rfl) ?_
      refine rC (Calm.assign rfl) ?_
      refine arun_nil ?_
      refine athen_n ?_
      refine AWP.ret ?_
      refine athen_ret ?_
      refine ⟨_, S, ⟨_, _, rfl, ⟨_, _, rfl, rfl, rfl⟩, rfl⟩, less_, ?_⟩
      exact ⟨_, rfl, Mem.Less.refl _, Sl.nil _ _ _⟩
    · by_cases hbig : (ks.length : Int) ≤ leaf
      · rw [if_pos (.inr hbig)]
        refine ACall.enter (args := [.agg #[.slice pa gs.length ca, ht], .int .i64 leaf]) (rs := [.tmp 4, .tmp 5]) 35 [(0, .agg #[.slice pa gs.length ca, ht]), (1, .int .i64 leaf)] Try.func23 rfl rfl (Nat.le_of_ble_eq_true rfl) rfl ⟨rfl, rfl, trivial⟩ ?_
        refine AWP.seq ?_
        refine AWP.region ?_
        refine ARun.boxA (cs := [_, _]) (lit_lt rfl) rfl ?_
        intro b2 f2
        have g2 := f2
        repeat ((with_reducible replace g2 := fresh_set g2); obtain ⟨g2, _⟩ := g2)
        (try simp only [List.length_cons, List.length_nil, Nat.zero_add, Nat.reduceAdd])
        refine rC (Calm.assign rfl) ?_
        refine rC (Calm.assign rfl) ?_
        refine arun_nil ?_
        refine athen_n ?_
        refine AWP.seq ?_
        refine AWP.seq ?_
        refine AWP.region ?_
        refine rC (ldA_ (cs := [_, _]) ty_agg_25 ty_size_25 rfl) ?_
        refine ARun.call (lit_lt rfl) go_27 rfl (rlosV_Check _ ht ks (treeOf ks) _ (hl.less less_)) ?_
        rintro _ S1 ⟨rfl, h1⟩
        rw [h1, hc]; clear h1 S1
        refine rC (Calm.bin rfl rfl b_neq) ?_
        refine arun_nil ?_
        refine athen_n ?_
        refine AWP.sub [(0, _), (1, _), (2, _), (4, _), (5, _), (10, _)] ⟨rfl, rfl, rfl, rfl, rfl, rfl, trivial⟩ ?_
        refine AWP.condF rfl (by first | rfl | (simp; done) | (simp; omega)) ?_
        refine AWP.skip ?_
        refine athen_n ?_
        refine AWP.seq ?_
        refine AWP.seq ?_
        refine AWP.region ?_
        refine rC (Calm.move rfl) ?_
        refine rC (Calm.bin rfl rfl b_lss) ?_
        refine rC (Calm.move rfl) ?_
        first | refine rS 13 ?_ | refine rU 13 ?_ | refine rG 13 (Calm.move rfl) ?_
        first | refine rS 13 ?_ | refine rU 13 ?_ | refine rG 13 (Calm.fieldAddr ty_field_25_0 rfl) ?_
        first | refine rS 13 ?_ | refine rU 13 ?_ | refine rG 13 (ld_ ty_plain_22 rfl) ?_
        first | refine rS 13 ?_ | refine rU 13 ?_ | refine rG 13 (Calm.lenSl Try.underlying22 rfl) ?_
        first | refine rS 13 ?_ | refine rU 13 ?_ | refine rG 13 (Calm.bin rfl rfl b_geq) ?_
        refine rC ((by first | exact Calm.pickT rfl rfl | exact Calm.pickF rfl rfl)) ?_
        refine arun_nil ?_
        refine athen_n ?_
        refine AWP.sub [(0, _), (1, _), (2, _), (4, _), (5, _), (10, _), (19, _)] ⟨rfl, rfl, rfl, rfl, rfl, rfl, rfl, trivial⟩ ?_
        refine AWP.condT rfl (by first | rfl | (simp; done) | (simp; omega)) ?_
        refine AWP.seq ?_
        refine AWP.region ?_
        refine rC (Calm.assign rfl) ?_
        refine rC (Calm.assign rfl) ?_
        refine arun_nil ?_
        refine athen_n ?_
        refine AWP.ret ?_
        refine athen_ret ?_
        refine ⟨_, S, ⟨_, _, rfl, ⟨_, _, rfl, rfl, rfl⟩, rfl⟩, less_, ?_⟩
        exact ⟨_, rfl, Mem.Less.refl _, Sl.nil _ _ _⟩
      · rw [if_neg (by omega)]
        obtain ⟨lf, rfl⟩ : ∃ lf : Nat, leaf = lf := ⟨leaf.toNat, by omega⟩
        rw [Int.toNat_natCast]
        obtain ⟨n0, hn0⟩ : ∃ n0, n0 = (ks.length + lf) / 2 := ⟨_, rfl⟩
        rw [← hn0]
        have hpl := pathF_len 10 n0
        refine ACall.enter (args := [.agg #[.slice pa gs.length ca, ht], .int .i64 (lf : Int)]) (rs := [.tmp 4, .tmp 5]) 35 [(0, .agg #[.slice pa gs.length ca, ht]), (1, .int .i64 (lf : Int))] Try.func23 rfl rfl (Nat.le_of_ble_eq_true rfl) rfl ⟨rfl, rfl, trivial⟩ ?_
        refine AWP.seq ?_
        refine AWP.region ?_
        refine ARun.boxA (cs := [_, _]) (lit_lt rfl) rfl ?_
        intro b2 f2
        have g2 := f2
        repeat ((with_reducible replace g2 := fresh_set g2); obtain ⟨g2, _⟩ := g2)
        (try simp only [List.length_cons, List.length_nil, Nat.zero_add, Nat.reduceAdd])
        refine rC (Calm.assign rfl) ?_
        refine rC (Calm.assign rfl) ?_
        refine arun_nil ?_
        refine athen_n ?_
        refine AWP.seq ?_
        refine AWP.seq ?_
        refine AWP.region ?_
        refine rC (ldA_ (cs := [_, _]) ty_agg_25 ty_size_25 rfl) ?_
        refine ARun.call (lit_lt rfl) go_27 rfl (rlosV_Check _ ht ks (treeOf ks) _ (hl.less less_)) ?_
        rintro _ S1 ⟨rfl, h1⟩
        rw [h1, hc]; clear h1 S1
        refine rC (Calm.bin rfl rfl b_neq) ?_
        refine arun_nil ?_
        refine athen_n ?_
        refine AWP.sub [(0, _), (1, _), (2, _), (4, _), (5, _), (10, _)] ⟨rfl, rfl, rfl, rfl, rfl, rfl, trivial⟩ ?_
        refine AWP.condF rfl (by first | rfl | (simp; done) | (simp; omega)) ?_
        refine AWP.skip ?_
        refine athen_n ?_
        refine AWP.seq ?_
        refine AWP.seq ?_
        refine AWP.region ?_
        refine rC (Calm.move rfl) ?_
        refine rC (Calm.bin rfl rfl b_lss) ?_
        refine rC (Calm.move rfl) ?_
        first | refine rS 13 ?_ | refine rU 13 ?_ | refine rG 13 (Calm.move rfl) ?_
        first | refine rS 13 ?_ | refine rU 13 ?_ | refine rG 13 (Calm.fieldAddr ty_field_25_0 rfl) ?_
        first | refine rS 13 ?_ | refine rU 13 ?_ | refine rG 13 (ld_ ty_plain_22 rfl) ?_
        first | refine rS 13 ?_ | refine rU 13 ?_ | refine rG 13 (Calm.lenSl Try.underlying22 rfl) ?_
        first | refine rS 13 ?_ | refine rU 13 ?_ | refine rG 13 (Calm.bin rfl rfl b_geq) ?_
        refine rC ((by first | exact Calm.pickT rfl rfl | exact Calm.pickF rfl rfl)) ?_
        refine arun_nil ?_
        refine athen_n ?_
        refine AWP.sub [(0, _), (1, _), (2, _), (4, _), (5, _), (10, _), (19, _)] ⟨rfl, rfl, rfl, rfl, rfl, rfl, rfl, trivial⟩ ?_
        refine AWP.condF rfl (by first | rfl | (simp; done) | (simp; omega)) ?_
        refine AWP.skip ?_
        refine athen_n ?_
        refine AWP.seq ?_
        refine AWP.region ?_
        refine rC (Calm.assign rfl) ?_
        refine arun_nil ?_
        refine athen_n ?_
        refine AWP.seq ?_
        refine AWP.seq ?_
        refine AWP.region ?_
        refine rC (Calm.fieldAddr ty_field_25_0 rfl) ?_
        refine rC (ld_ ty_plain_22 rfl) ?_
        refine rC (Calm.lenSl Try.underlying22 rfl) ?_
        refine rC (Calm.move rfl) ?_
        refine rC (Calm.bin rfl rfl b_add_i64) ?_
        refine rC (Calm.bin rfl rfl b_quo_i64) ?_
        refine rC (Calm.assign rfl) ?_
        refine arun_nil ?_
        refine athen_n ?_
        refine AWP.sub [(0, _), (1, _), (2, _), (4, _), (5, _), (10, _), (19, _), (6, _), (7, _)] ⟨rfl, rfl, rfl, rfl, rfl, rfl, rfl, rfl, rfl, trivial⟩ ?_
        refine AWP.block ?_
        refine AWP.loop (X := Nat × Nat × List Int × Option (Nat × Nat)) (fun x => [(6, outV x.2.2.2 x.2.2.1.length), (7, .int .i64 x.1)]) (fun x => outM S x.2.2.2 3 (x.2.2.1.map fun x => Value.int .i64 x)) (fun x => x.1 < 2 ^ x.2.1 ∧ x.2.2.1 ++ pathF x.2.1 x.1 = pathF 10 n0 ∧ OkO S x.2.2.2 x.2.2.1.length ∧ x.1 ≤ n0) (fun x => x.1) ((n0, 10, [], none)) ⟨rfl, some_int (by omega), trivial⟩ ((show S.Less _ from less_)) (⟨(show n0 < 2 ^ 10 by omega), rfl, okO_nil S, Nat.le_refl _⟩) ?_
        rintro ⟨n, f, pre, o⟩ ⟨hn, hq, ho, hmx⟩
        (try dsimp only at *)
        have hpre : pre.length ≤ 10 := by have := congrArg List.length hq; rw [List.length_append] at this; omega
        have hml : (pre.map fun x => Value.int .i64 x).length = pre.length := by simp
        by_cases hn1 : 1 ≤ n
        · obtain ⟨f', rfl⟩ : ∃ f', f = f' + 1 := ⟨f - 1, by rcases f with _ | f; (simp at hn; omega); rfl⟩
          refine AWP.seq ?_
          refine AWP.seq ?_
          refine AWP.region ?_
          refine rC (Calm.move rfl) ?_
          refine rC (Calm.bin rfl rfl b_geq) ?_
          refine arun_nil ?_
          refine athen_n ?_
          refine AWP.sub [(6, _), (7, _), (27, _)] ⟨rfl, rfl, rfl, trivial⟩ ?_
          refine AWP.condT rfl (by first | rfl | (simp; done) | (simp; omega)) ?_
          rw [pathF, if_neg (by omega)] at hq
          refine AWP.skip ?_
          refine athen_n ?_
          refine AWP.seq ?_
          refine AWP.block ?_
          refine AWP.region ?_
          refine rC (Calm.move rfl) ?_
          refine rC (Calm.move rfl) ?_
          refine ARun.build1s (lit_lt rfl) ty_sl_23 rfl rfl ?_
          intro b32 f32
          have g32 := f32
          repeat ((with_reducible replace g32 := fresh_set g32); obtain ⟨g32, _⟩ := g32)
          refine ARun.appendO (lit_lt rfl) ty_sl_23 rfl hml (appO_of ho hml g32) rfl (news := [_]) rds_ rfl (by omega) (by simp [Value.oneCell']) (by omega) (by omega) ?_
          intro b36 c36 ho2
          refine rC (Calm.assign rfl) ?_
          refine arun_nil ?_
          refine ain_n ?_
          refine athen_n ?_
          refine AWP.sub [(6, _), (7, _), (27, _)] ⟨rfl, rfl, rfl, trivial⟩ ?_
          refine AWP.region ?_
          refine rC (Calm.move rfl) ?_
          refine rC (Calm.bin rfl rfl b_quo_i64) ?_
          refine rC (Calm.assign rfl) ?_
          refine arun_nil ?_
          refine athen_n ?_
          refine ⟨(n / 2, f', pre ++ [(n : Int)], some (b36, c36)), ?_, ?_, ?_, ?_⟩
          all_goals (try dsimp only)
          · exact ⟨by rw [List.length_append]; rfl, some_int (by omega), trivial⟩
          · rw [List.map_append]; exact Mem.Less.refl _
          · exact ⟨by rw [Nat.pow_succ] at hn; omega, by rw [List.append_assoc]; exact hq, by rw [List.length_append]; exact ho2, by omega⟩
          · omega
        · refine AWP.seq ?_
          refine AWP.seq ?_
          refine AWP.region ?_
          refine rC (Calm.move rfl) ?_
          refine rC (Calm.bin rfl rfl b_geq) ?_
          refine arun_nil ?_
          refine athen_n ?_
          refine AWP.sub [(6, _), (7, _), (27, _)] ⟨rfl, rfl, rfl, trivial⟩ ?_
          refine AWP.condF rfl (by first | rfl | (simp; done) | (simp; omega)) ?_
          have hpf : pathF f n = [] := by cases f with | zero => rfl | succ f => rw [pathF, if_pos (by omega)]
          rw [hpf, List.append_nil] at hq
          subst hq
          refine AWP.exit ?_
          refine athen_exit ?_
          refine athen_exit ?_
          refine ain_same ?_
          refine athen_n ?_
          refine AWP.seq ?_
          refine AWP.region ?_
          refine rC (Calm.move rfl) ?_
          refine rC (Calm.assign rfl) ?_
          refine rC (Calm.assign rfl) ?_
          refine arun_nil ?_
          refine athen_n ?_
          refine AWP.sub [(6, _), (7, _), (27, _), (4, _), (5, _)] ⟨rfl, rfl, rfl, rfl, rfl, trivial⟩ ?_
          refine AWP.ret ?_
          refine ⟨_, _, ⟨_, _, rfl, ⟨_, _, rfl, rfl, rfl⟩, rfl⟩, Mem.Less.refl _, ?_⟩
          exact ⟨_, rfl, outM_over ho, sl_outV ho rfl (by omega)⟩
  · rw [if_pos (by rw [hc]; simp)]
    refine ACall.enter (args := [.agg #[hk, ht], .int .i64 leaf]) (rs := [.tmp 4, .tmp 5]) 35 [(0, .agg #[hk, ht]), (1, .int .i64 leaf)] Try.func23 rfl rfl (Nat.le_of_ble_eq_true rfl) rfl ⟨rfl, rfl, trivial⟩ ?_
    refine AWP.seq ?_
    refine AWP.region ?_
    refine ARun.boxA (cs := [_, _]) (lit_lt rfl) rfl ?_
    intro b2 f2
    have g2 := f2
    repeat ((with_reducible replace g2 := fresh_set g2); obtain ⟨g2, _⟩ := g2)
    (try simp only [List.length_cons, List.length_nil, Nat.zero_add, Nat.reduceAdd])
    refine rC (Calm.assign rfl) ?_
    refine rC (Calm.assign rfl) ?_
    refine arun_nil ?_
    refine athen_n ?_
    refine AWP.seq ?_
    refine AWP.seq ?_
    refine AWP.region ?_
    refine rC (ldA_ (cs := [_, _]) ty_agg_25 ty_size_25 rfl) ?_
    refine ARun.call (lit_lt rfl) go_27 rfl (rlosV_Check hk ht ks tr _ (hl.less less_)) ?_
    rintro _ S1 ⟨rfl, h1⟩
    rw [h1, hc]; clear h1 S1
    refine rC (Calm.bin rfl rfl b_neq) ?_
    refine arun_nil ?_
    refine athen_n ?_
    refine AWP.sub [(0, _), (1, _), (2, _), (4, _), (5, _), (10, _)] ⟨rfl, rfl, rfl, rfl, rfl, rfl, trivial⟩ ?_
    refine AWP.condT rfl (by first | rfl | (simp; done) | (simp; omega)) ?_
    refine AWP.seq ?_
    refine AWP.region ?_
    refine rC (Calm.assign rfl) ?_
    refine rC (Calm.assign rfl) ?_
    refine arun_nil ?_
    refine athen_n ?_
    refine AWP.ret ?_
    refine athen_ret ?_
    refine ⟨_, S, ⟨_, _, rfl, ⟨_, _, rfl, rfl, rfl⟩, rfl⟩, less_, ?_⟩
    exact ⟨_, rfl, Mem.Less.refl _, Sl.nil _ _ _⟩
set_option maxHeartbeats 1000000 in
theorem rlosV_SameNumbers (a b : List Int) (va vb : Value) (S : Mem) (ha : Sl 1 i64s S va a) (hb : Sl 1 i64s S vb b) :
    ACall Try.prog 25 #[va, vb] S fun r S' => r = .bool (decide (a = b)) ∧ S' = S := by
  obtain ⟨pa, ca, rfl, ha1, ha2, ha3⟩ := ha
  obtain ⟨pb, cb, rfl, hb1, hb2, hb3⟩ := hb
  by_cases hlen : a.length = b.length
  · have hlen0 := hlen
    refine ACall.enter (args := [.slice pa a.length ca, .slice pb b.length cb]) (rs := [.tmp 4]) 26 [(0, .slice pa a.length ca), (1, .slice pb b.length cb)] Try.func25 rfl rfl (Nat.le_of_ble_eq_true rfl) rfl ⟨rfl, rfl, trivial⟩ ?_
    refine AWP.seq ?_
    refine AWP.region ?_
    refine rC (Calm.assign rfl) ?_
    refine arun_nil ?_
    refine athen_n ?_
    refine AWP.seq ?_
    refine AWP.seq ?_
    refine AWP.region ?_
    refine rC (Calm.move rfl) ?_
    refine rC (Calm.lenSl Try.underlying23 rfl) ?_
    refine rC (Calm.move rfl) ?_
    refine rC (Calm.lenSl Try.underlying23 rfl) ?_
    refine rC (Calm.bin rfl rfl b_neq) ?_
    refine arun_nil ?_
    refine athen_n ?_
    refine AWP.sub [(0, _), (1, _), (4, _), (10, _)] ⟨rfl, rfl, rfl, rfl, trivial⟩ ?_
    refine AWP.condF rfl (by first | rfl | (simp; done) | (simp; omega)) ?_
    refine AWP.skip ?_
    refine athen_n ?_
    refine AWP.seq ?_
    refine AWP.seq ?_
    refine AWP.region ?_
    refine rC (Calm.move rfl) ?_
    refine rC (Calm.lenSl Try.underlying23 rfl) ?_
    refine rC (Calm.move rfl) ?_
    refine arun_nil ?_
    refine athen_n ?_
    refine AWP.sub [(0, _), (1, _), (4, _), (10, _), (12, _), (13, _)] ⟨rfl, rfl, rfl, rfl, rfl, rfl, trivial⟩ ?_
    refine AWP.block ?_
    refine AWP.loop (X := Nat) (fun x => [(0, .slice pa a.length ca), (1, .slice pb b.length cb), (12, .int .i64 a.length), (13, .int .i64 x)]) (fun x => S) (fun x => x ≤ a.length ∧ ∀ j (hj : j < a.length) (hj2 : j < b.length), j < x → a[j] = b[j]) (fun x => a.length - x) (0) ⟨rfl, rfl, rfl, rfl, trivial⟩ (Mem.Less.refl _) (⟨Nat.zero_le _, fun _ _ _ h => absurd h (Nat.not_lt_zero _)⟩) ?_
    rintro i ⟨hi1, hq⟩
    (try dsimp only at *)
    refine AWP.seq ?_
    refine AWP.region ?_
    refine rC (Calm.bin rfl rfl b_lss) ?_
    refine arun_nil ?_
    refine athen_n ?_
    refine AWP.seq ?_
    refine AWP.condB rfl (fun hl => ?_) (fun hl => ?_)
    · have hl : i < a.length := by have := of_decide_eq_true hl; omega
      have hlb : i < b.length := by omega
      obtain ⟨b0, off, rfl, hkn⟩ := ha3.resolve_left (by intro h; rw [h] at hl; exact absurd hl (Nat.not_lt_zero _))
      obtain ⟨b1, off1, rfl, hkn1⟩ := hb3.resolve_left (by intro h; rw [h] at hlb; exact absurd hlb (Nat.not_lt_zero _))
      have hkk := hkn i hl
      have hkk1 := hkn1 i hlb
      by_cases c1 : a[i] = b[i]
      · refine AWP.skip ?_
        refine athen_n ?_
        refine AWP.seq ?_
        refine AWP.block ?_
        refine AWP.seq ?_
        refine AWP.region ?_
        refine rC (Calm.move rfl) ?_
        refine rC (Calm.assign rfl) ?_
        refine arun_nil ?_
        refine athen_n ?_
        refine AWP.sub [(0, _), (1, _), (12, _), (13, _), (14, _), (5, _)] ⟨rfl, rfl, rfl, rfl, rfl, rfl, trivial⟩ ?_
        refine AWP.seq ?_
        refine AWP.draw [(0, true), (1, true), (2, true), (3, true), (4, true), (5, true), (6, true), (7, true), (8, true)] [] mixed (by kernel_rfl) ?_
        refine draw_pure rfl rfl rfl rfl (lit_lt rfl) (fun _ => Calm.move rfl) ?_
        refine draw_pure rfl rfl rfl rfl (lit_lt rfl) (fun _ => Calm.move rfl) ?_
        refine draw_pure rfl rfl rfl rfl (lit_lt rfl) (fun _ => Calm.indexS Try.underlying23 ty_size_3 rfl rfl (by omega) (by omega)) ?_
        refine draw_calm rfl rfl rfl (lit_lt rfl) less_ (fun S' hS' => by obtain rfl := hS'.resolve_left (by decide); exact ld_ ty_plain_3 rfl) ?_
        refine draw_pure rfl rfl rfl rfl (lit_lt rfl) (fun _ => Calm.move rfl) ?_
        refine draw_pure rfl rfl rfl rfl (lit_lt rfl) (fun _ => Calm.move rfl) ?_
        refine draw_pure rfl rfl rfl rfl (lit_lt rfl) (fun _ => Calm.indexS Try.underlying23 ty_size_3 rfl rfl (by omega) (by omega)) ?_
        refine draw_calm rfl rfl rfl (lit_lt rfl) less_ (fun S' hS' => by obtain rfl := hS'.resolve_left (by decide); exact ld_ ty_plain_3 rfl) ?_
        refine draw_pure rfl rfl rfl rfl (lit_lt rfl) (fun _ => Calm.bin rfl rfl b_neq) ?_
        refine draw_nil ?_
        refine athen_n ?_
        refine AWP.sub [(0, _), (1, _), (12, _), (13, _), (14, _), (5, _), (24, _)] ⟨rfl, rfl, rfl, rfl, rfl, rfl, rfl, trivial⟩ ?_
        refine AWP.condF rfl (by first | rfl | (simp; done) | (simp; omega)) ?_
        refine AWP.skip ?_
        refine ain_n ?_
        refine athen_n ?_
        refine AWP.region ?_
        refine rC (Calm.bin rfl rfl b_add_i64) ?_
        refine rC (Calm.move rfl) ?_
        refine arun_nil ?_
        refine athen_n ?_
        refine ⟨i + 1, ?_, ?_, ?_, ?_⟩
        all_goals (try dsimp only)
        · exact ⟨rfl, rfl, rfl, rfl, trivial⟩
        · exact Mem.Less.refl _
        · exact ⟨hl, fun j hj hj2 hji => by rcases Nat.lt_or_ge j i with h | h; exact hq j hj hj2 h; obtain rfl : j = i := (by omega); exact c1⟩
        · omega
      · refine AWP.skip ?_
        refine athen_n ?_
        refine AWP.seq ?_
        refine AWP.block ?_
        refine AWP.seq ?_
        refine AWP.region ?_
        refine rC (Calm.move rfl) ?_
        refine rC (Calm.assign rfl) ?_
        refine arun_nil ?_
        refine athen_n ?_
        refine AWP.sub [(0, _), (1, _), (12, _), (13, _), (14, _), (5, _)] ⟨rfl, rfl, rfl, rfl, rfl, rfl, trivial⟩ ?_
        refine AWP.seq ?_
        refine AWP.draw [(0, true), (1, true), (2, true), (3, true), (4, true), (5, true), (6, true), (7, true), (8, true)] [] mixed (by kernel_rfl) ?_
        refine draw_pure rfl rfl rfl rfl (lit_lt rfl) (fun _ => Calm.move rfl) ?_
        refine draw_pure rfl rfl rfl rfl (lit_lt rfl) (fun _ => Calm.move rfl) ?_
        refine draw_pure rfl rfl rfl rfl (lit_lt rfl) (fun _ => Calm.indexS Try.underlying23 ty_size_3 rfl rfl (by omega) (by omega)) ?_
        refine draw_calm rfl rfl rfl (lit_lt rfl) less_ (fun S' hS' => by obtain rfl := hS'.resolve_left (by decide); exact ld_ ty_plain_3 rfl) ?_
        refine draw_pure rfl rfl rfl rfl (lit_lt rfl) (fun _ => Calm.move rfl) ?_
        refine draw_pure rfl rfl rfl rfl (lit_lt rfl) (fun _ => Calm.move rfl) ?_
        refine draw_pure rfl rfl rfl rfl (lit_lt rfl) (fun _ => Calm.indexS Try.underlying23 ty_size_3 rfl rfl (by omega) (by omega)) ?_
        refine draw_calm rfl rfl rfl (lit_lt rfl) less_ (fun S' hS' => by obtain rfl := hS'.resolve_left (by decide); exact ld_ ty_plain_3 rfl) ?_
        refine draw_pure rfl rfl rfl rfl (lit_lt rfl) (fun _ => Calm.bin rfl rfl b_neq) ?_
        refine draw_nil ?_
        refine athen_n ?_
        refine AWP.sub [(0, _), (1, _), (12, _), (13, _), (14, _), (5, _), (24, _)] ⟨rfl, rfl, rfl, rfl, rfl, rfl, rfl, trivial⟩ ?_
        refine AWP.condT rfl (by first | rfl | (simp; done) | (simp; omega)) ?_
        refine AWP.seq ?_
        refine AWP.region ?_
        refine rC (Calm.assign rfl) ?_
        refine arun_nil ?_
        refine athen_n ?_
        refine AWP.ret ?_
        refine ain_ret ?_
        refine athen_ret ?_
        refine athen_ret ?_
        refine ain_ret ?_
        refine athen_ret ?_
        refine ⟨_, S, ⟨_, _, rfl, rfl, rfl⟩, less_, ?_⟩
        exact ⟨by rw [decide_eq_false (fun e => c1 (by subst e; rfl))]; rfl, rfl⟩
    · have hl : i = a.length := by have := of_decide_eq_false hl; omega
      refine AWP.exit ?_
      refine athen_exit ?_
      refine athen_exit ?_
      refine ain_same ?_
      refine athen_n ?_
      refine AWP.seq ?_
      refine AWP.region ?_
      refine rC (Calm.assign rfl) ?_
      refine arun_nil ?_
      refine athen_n ?_
      refine AWP.ret ?_
      refine ⟨_, S, ⟨_, _, rfl, rfl, rfl⟩, less_, ?_⟩
      exact ⟨by rw [decide_eq_true (List.ext_getElem hlen fun j h1 h2 => hq j h1 h2 (by omega))]; rfl, rfl⟩
  · have hlen0 := hlen
    refine ACall.enter (args := [.slice pa a.length ca, .slice pb b.length cb]) (rs := [.tmp 4]) 26 [(0, .slice pa a.length ca), (1, .slice pb b.length cb)] Try.func25 rfl rfl (Nat.le_of_ble_eq_true rfl) rfl ⟨rfl, rfl, trivial⟩ ?_
    refine AWP.seq ?_
    refine AWP.region ?_
    refine rC (Calm.assign rfl) ?_
    refine arun_nil ?_
    refine athen_n ?_
    refine AWP.seq ?_
    refine AWP.seq ?_
    refine AWP.region ?_
    refine rC (Calm.move rfl) ?_
    refine rC (Calm.lenSl Try.underlying23 rfl) ?_
    refine rC (Calm.move rfl) ?_
    refine rC (Calm.lenSl Try.underlying23 rfl) ?_
    refine rC (Calm.bin rfl rfl b_neq) ?_
    refine arun_nil ?_
    refine athen_n ?_
    refine AWP.sub [(0, _), (1, _), (4, _), (10, _)] ⟨rfl, rfl, rfl, rfl, trivial⟩ ?_
    refine AWP.condT rfl (by first | rfl | (simp; done) | (simp; omega)) ?_
    refine AWP.seq ?_
    refine AWP.region ?_
    refine rC (Calm.assign rfl) ?_
    refine arun_nil ?_
    refine athen_n ?_
    refine AWP.ret ?_
    refine athen_ret ?_
    refine ⟨_, S, ⟨_, _, rfl, rfl, rfl⟩, less_, ?_⟩
    exact ⟨by rw [decide_eq_false (fun e => hlen (by rw [e]))]; rfl, rfl⟩
end Go.Proofs.Ytddabbfjoejalaa
