/-
  Loser: what is made, the winner, the path, by the program.
-/
import Derived.Test.YtddabbfjoejalaaVLos2
namespace Go.Proofs.Ytddabbfjoejalaa
open Go.RowKit
open Mv Num Loser
set_option linter.unusedVariables false
set_option linter.unusedSimpArgs false
set_option maxRecDepth 4000
/-- A tree, and why, that is returned. -/
def LosR (p : List (List Nat) × List Int × Int) (S : Mem) (r : Value) (S' : Mem) : Prop := ∃ hk ht, r = .tuple #[.agg #[hk, ht], .int .i64 p.2.2] ∧ S.Less S' ∧ LoV S' hk ht p.1 p.2.1
theorem loV_nil (S : Mem) : LoV S (.slice none 0 0) (.slice none 0 0) [] [] := ⟨SlOf.nil _ _, Sl.nil _ _ _⟩
set_option maxHeartbeats 2000000 in
theorem losV_Make (v : Value) (ks : List (List Nat)) (S : Mem) (hks : SlOf RowR S v ks) (hrow : ∀ x ∈ ks, x.length ≤ 17592186043904) :
    ACall Try.prog 13 #[v] S (LosR (makeP ks) S) := by
  obtain ⟨gs, hgl, ⟨pa, ca, rfl, h1, h2, h3⟩, hge⟩ := id hks
  unfold makeP
  by_cases c1 : gs.length < 1
  · rw [if_neg (by omega)]
    refine ACall.enter (args := [.slice pa gs.length ca]) (rs := [.cell 2 25, .tmp 3]) 19 [(0, .slice pa gs.length ca)] Try.func13 rfl rfl (Nat.le_of_ble_eq_true rfl) rfl ⟨rfl, trivial⟩ ?_
    refine AWP.seq ?_
    refine AWP.region ?_
    refine ARun.alloc (lit_lt rfl) ty_zero_25 ?_
    intro b2 f2
    have g2 := f2
    repeat ((with_reducible replace g2 := fresh_set g2); obtain ⟨g2, _⟩ := g2)
    (try simp only [List.length_cons, List.length_nil, Nat.zero_add, Nat.reduceAdd])
    refine rC (Calm.assign rfl) ?_
    refine arun_nil ?_
    refine athen_n ?_
    refine AWP.seq ?_
    refine AWP.seq ?_
    refine AWP.region ?_
    refine rC (Calm.move rfl) ?_
    refine rC (Calm.lenSl Try.underlying22 rfl) ?_
    refine rC (Calm.bin rfl rfl b_lss) ?_
    refine rC (Calm.move rfl) ?_
    first | refine rS 7 ?_ | refine rU 7 ?_ | refine rG 7 (Calm.move rfl) ?_
    first | refine rS 7 ?_ | refine rU 7 ?_ | refine rG 7 (Calm.lenSl Try.underlying22 rfl) ?_
    first | refine rS 7 ?_ | refine rU 7 ?_ | refine rG 7 (Calm.bin rfl rfl b_gtr) ?_
    refine rC ((by first | exact Calm.pickT rfl rfl | exact Calm.pickF rfl rfl)) ?_
    refine arun_nil ?_
    refine athen_n ?_
    refine AWP.sub [(0, _), (2, _), (3, _), (11, _)] ⟨rfl, rfl, rfl, rfl, trivial⟩ ?_
    refine AWP.condT rfl (by first | rfl | (simp; done) | (simp; omega)) ?_
    refine AWP.seq ?_
    refine AWP.region ?_
    refine rC (Calm.build (cs := [_, _]) ty_bld_25 rfl rfl) ?_
    first | refine ARun.storeAll rfl rfl ty_size_25 own_ rfl rfl ?_ | refine ARun.store rfl rfl ty_size_25 own_ lens_ rfl ?_
    (try simp only [Mem.set_set, List.set_cons_zero, List.set_cons_succ, Nat.zero_add, Nat.reduceAdd])
    refine rC (Calm.assign rfl) ?_
    refine arun_nil ?_
    refine athen_n ?_
    refine AWP.sub [(0, _), (2, _), (3, _), (11, _)] ⟨rfl, rfl, rfl, rfl, trivial⟩ ?_
    refine AWP.ret ?_
    refine athen_ret ?_
    refine ⟨_, S, ⟨_, _, _, rfl, .inr ⟨ty_agg_25, [_, _], ty_size_25, rds_, rfl⟩, ⟨_, _, rfl, rfl, rfl⟩, rfl⟩, less_, ?_⟩
    exact ⟨_, _, rfl, Mem.Less.refl _, loV_nil _⟩
  by_cases c2 : 256 < gs.length
  · rw [if_neg (by omega)]
    refine ACall.enter (args := [.slice pa gs.length ca]) (rs := [.cell 2 25, .tmp 3]) 19 [(0, .slice pa gs.length ca)] Try.func13 rfl rfl (Nat.le_of_ble_eq_true rfl) rfl ⟨rfl, trivial⟩ ?_
    refine AWP.seq ?_
    refine AWP.region ?_
    refine ARun.alloc (lit_lt rfl) ty_zero_25 ?_
    intro b2 f2
    have g2 := f2
    repeat ((with_reducible replace g2 := fresh_set g2); obtain ⟨g2, _⟩ := g2)
    (try simp only [List.length_cons, List.length_nil, Nat.zero_add, Nat.reduceAdd])
    refine rC (Calm.assign rfl) ?_
    refine arun_nil ?_
    refine athen_n ?_
    refine AWP.seq ?_
    refine AWP.seq ?_
    refine AWP.region ?_
    refine rC (Calm.move rfl) ?_
    refine rC (Calm.lenSl Try.underlying22 rfl) ?_
    refine rC (Calm.bin rfl rfl b_lss) ?_
    refine rC (Calm.move rfl) ?_
    first | refine rS 7 ?_ | refine rU 7 ?_ | refine rG 7 (Calm.move rfl) ?_
    first | refine rS 7 ?_ | refine rU 7 ?_ | refine rG 7 (Calm.lenSl Try.underlying22 rfl) ?_
    first | refine rS 7 ?_ | refine rU 7 ?_ | refine rG 7 (Calm.bin rfl rfl b_gtr) ?_
    refine rC ((by first | exact Calm.pickT rfl rfl | exact Calm.pickF rfl rfl)) ?_
    refine arun_nil ?_
    refine athen_n ?_
    refine AWP.sub [(0, _), (2, _), (3, _), (11, _)] ⟨rfl, rfl, rfl, rfl, trivial⟩ ?_
    refine AWP.condT rfl (by first | rfl | (simp; done) | (simp; omega)) ?_
    refine AWP.seq ?_
    refine AWP.region ?_
    refine rC (Calm.build (cs := [_, _]) ty_bld_25 rfl rfl) ?_
    first | refine ARun.storeAll rfl rfl ty_size_25 own_ rfl rfl ?_ | refine ARun.store rfl rfl ty_size_25 own_ lens_ rfl ?_
    (try simp only [Mem.set_set, List.set_cons_zero, List.set_cons_succ, Nat.zero_add, Nat.reduceAdd])
    refine rC (Calm.assign rfl) ?_
    refine arun_nil ?_
    refine athen_n ?_
    refine AWP.sub [(0, _), (2, _), (3, _), (11, _)] ⟨rfl, rfl, rfl, rfl, trivial⟩ ?_
    refine AWP.ret ?_
    refine athen_ret ?_
    refine ⟨_, S, ⟨_, _, _, rfl, .inr ⟨ty_agg_25, [_, _], ty_size_25, rds_, rfl⟩, ⟨_, _, rfl, rfl, rfl⟩, rfl⟩, less_, ?_⟩
    exact ⟨_, _, rfl, Mem.Less.refl _, loV_nil _⟩
  rw [if_pos (by omega)]
  have hown := losV_own _ ks S hks (by omega) hrow
  refine ACall.enter (args := [.slice pa gs.length ca]) (rs := [.cell 2 25, .tmp 3]) 19 [(0, .slice pa gs.length ca)] Try.func13 rfl rfl (Nat.le_of_ble_eq_true rfl) rfl ⟨rfl, trivial⟩ ?_
  refine AWP.seq ?_
  refine AWP.region ?_
  refine ARun.alloc (lit_lt rfl) ty_zero_25 ?_
  intro b2 f2
  have g2 := f2
  repeat ((with_reducible replace g2 := fresh_set g2); obtain ⟨g2, _⟩ := g2)
  (try simp only [List.length_cons, List.length_nil, Nat.zero_add, Nat.reduceAdd])
  refine rC (Calm.assign rfl) ?_
  refine arun_nil ?_
  refine athen_n ?_
  refine AWP.seq ?_
  refine AWP.seq ?_
  refine AWP.region ?_
  refine rC (Calm.move rfl) ?_
  refine rC (Calm.lenSl Try.underlying22 rfl) ?_
  refine rC (Calm.bin rfl rfl b_lss) ?_
  refine rC (Calm.move rfl) ?_
  first | refine rS 7 ?_ | refine rU 7 ?_ | refine rG 7 (Calm.move rfl) ?_
  first | refine rS 7 ?_ | refine rU 7 ?_ | refine rG 7 (Calm.lenSl Try.underlying22 rfl) ?_
  first | refine rS 7 ?_ | refine rU 7 ?_ | refine rG 7 (Calm.bin rfl rfl b_gtr) ?_
  refine rC ((by first | exact Calm.pickT rfl rfl | exact Calm.pickF rfl rfl)) ?_
  refine arun_nil ?_
  refine athen_n ?_
  refine AWP.sub [(0, _), (2, _), (3, _), (11, _)] ⟨rfl, rfl, rfl, rfl, trivial⟩ ?_
  refine AWP.condF rfl (by first | rfl | (simp; done) | (simp; omega)) ?_
  refine AWP.skip ?_
  refine athen_n ?_
  refine AWP.seq ?_
  refine AWP.region ?_
  refine rC (Calm.move rfl) ?_
  refine ARun.call (lit_lt rfl) go_46 rfl (hown.frame g2) ?_
  rintro _ S1 ⟨S1', ⟨M, b, hs, hO, rfl, rfl⟩, f2', rfl⟩
  have hO' := hO.slOf (by omega)
  refine ARun.call (lit_lt rfl) go_45 rfl ((losV_Of _ ks _ hO' (by omega) (by omega)).frame f2') ?_
  rintro _ S2 ⟨S2', ⟨p, q, hp, hq, hqp, rfl, rfl⟩, f2'', rfl⟩
  unfold treeB at *
  have npb := f2''
  have hpn : p ≠ b2 := fun e => by subst e; have := f2''.1; rw [Mem.own_set_same] at this; cases this
  have hqn : q ≠ b2 := fun e => by subst e; have := f2''.1; rw [Mem.own_set_other _ _ hqp, Mem.own_set_same] at this; cases this
  have hlq : (M.set b (keysB hs)).Less (((M.set b (keysB hs)).set q (intB (treeOf ks) ks.length)).set p ⟨64, [.slice (some ⟨b, 0, none⟩) ks.length ks.length, .slice (some ⟨q, 0, none⟩) ks.length ks.length], 2⟩) := less_
  refine rC (Calm.nilCheck rfl) ?_
  refine rC (Calm.fieldAddr ty_field_64_0 rfl) ?_
  refine rC (ldA_ (cs := [_, _]) ty_agg_25 ty_size_25 rfl) ?_
  first | refine ARun.storeAll rfl rfl ty_size_25 own_ rfl rfl ?_ | refine ARun.store rfl rfl ty_size_25 own_ lens_ rfl ?_
  (try simp only [Mem.set_set, List.set_cons_zero, List.set_cons_succ, Nat.zero_add, Nat.reduceAdd])
  refine rC (Calm.assign rfl) ?_
  refine arun_nil ?_
  refine athen_n ?_
  refine AWP.sub [(0, _), (2, _), (3, _), (11, _)] ⟨rfl, rfl, rfl, rfl, trivial⟩ ?_
  refine AWP.ret ?_
  refine ⟨_, _, ⟨_, _, _, rfl, .inr ⟨ty_agg_25, [_, _], ty_size_25, rds_, rfl⟩, ⟨_, _, rfl, rfl, rfl⟩, rfl⟩, Mem.less_set _ _ _ f2''.1, ?_⟩
  exact ⟨_, _, rfl, hO.1.trans ((Mem.less_set _ _ _ hO.2.1.1).trans hlq), hO'.less rowR_less hlq, sl_intB own_ (treeOf_length ks) (Nat.le_refl _) (by omega)⟩
theorem treeOf_0 (ks : List (List Nat)) (h : 0 < (treeOf ks).length) : (treeOf ks)[0] = (win ks 1 : Int) := by
  have h1 := treeOf_zero ks (by rw [treeOf_length] at h; omega)
  rw [List.getElem?_eq_getElem h] at h1
  exact Option.some.inj h1
set_option maxHeartbeats 1000000 in
theorem losV_Win (p : Nat) (hk ht : Value) (ks : List (List Nat)) (S : Mem) (hp : S.own p = some (treeB hk ht)) (hl : LoV S hk ht ks (treeOf ks)) (h1 : 1 ≤ ks.length) :
    ACall Try.prog 49 #[.pointer (some ⟨p, 0, none⟩)] S fun r S' => r = .tuple #[.int .i64 (win ks 1 : Nat), .bool (decide (key ks (win ks 1) ≠ []))] ∧ S' = S := by
  unfold treeB at hp
  have hw := win_lt (ks := ks) (n := 1) (by decide) (by omega)
  have htl := treeOf_length ks
  obtain ⟨hks, hts⟩ := hl
  obtain ⟨gs, hgl, hga, hge⟩ := hks
  obtain ⟨pa, ca, rfl, a1, a2, a3⟩ := id hga
  obtain ⟨pt, ct, rfl, t1, t2, t3⟩ := id hts
  obtain ⟨b0, off, rfl, _⟩ := a3.resolve_left (by intro h; rw [h] at hgl; simp at hgl; omega)
  obtain ⟨bt, offt, rfl, _⟩ := t3.resolve_left (by intro h; rw [h] at htl; simp at htl; omega)
  have k0 := hts.at1 0 (by omega)
  rw [treeOf_0 ks (by omega)] at k0
  unfold i64s at k0
  have k1 := hga.at1 (win ks 1) (by omega)
  have hr := hge (win ks 1) hw (by omega)
  rw [← key_get ks _ hw] at hr
  obtain ⟨g, hg⟩ : ∃ g, g = gs[win ks 1] := ⟨_, rfl⟩
  rw [← hg] at k1 hr
  obtain ⟨qa, da, rfl, x1, x2, _⟩ := hr
  have hd : decide ((0 : Int) < ((key ks (win ks 1)).length : Int)) = decide (key ks (win ks 1) ≠ []) := by
    rw [Bool.eq_iff_iff]; simp only [decide_eq_true_eq, ne_eq, ← List.length_eq_zero_iff]; omega
  refine ACall.enter (args := [.pointer (some ⟨p, 0, none⟩)]) (rs := [.tmp 2, .tmp 3]) 23 [(0, .pointer (some ⟨p, 0, none⟩))] Try.func49 rfl rfl (Nat.le_of_ble_eq_true rfl) rfl ⟨rfl, trivial⟩ ?_
  refine AWP.seq ?_
  refine AWP.region ?_
  refine rC (Calm.assign rfl) ?_
  refine rC (Calm.assign rfl) ?_
  refine arun_nil ?_
  refine athen_n ?_
  refine AWP.seq ?_
  refine AWP.region ?_
  refine rC (Calm.move rfl) ?_
  refine rC (Calm.nilCheck rfl) ?_
  refine rC (Calm.fieldAddr ty_field_64_0 rfl) ?_
  refine rC (Calm.fieldAddr ty_field_25_1 rfl) ?_
  refine rC (ld_ ty_plain_23 rfl) ?_
  refine rC (Calm.indexS Try.underlying23 ty_size_3 rfl rfl (by omega) (by omega)) ?_
  refine rC (ld_ ty_plain_3 rfl) ?_
  refine rC (Calm.assign rfl) ?_
  refine arun_nil ?_
  refine athen_n ?_
  refine AWP.sub [(0, _), (2, _), (3, _), (4, _)] ⟨rfl, rfl, rfl, rfl, trivial⟩ ?_
  refine AWP.seq ?_
  refine AWP.draw [(0, true), (1, true), (2, true), (3, true), (4, true), (5, true), (6, true), (7, true), (8, true), (9, true), (10, true), (11, true), (12, true)] [] mixed (by kernel_rfl) ?_
  refine draw_pure rfl rfl rfl rfl (lit_lt rfl) (fun _ => Calm.move rfl) ?_
  refine draw_pure rfl rfl rfl rfl (lit_lt rfl) (fun _ => Calm.move rfl) ?_
  refine draw_pure rfl rfl rfl rfl (lit_lt rfl) (fun _ => Calm.nilCheck rfl) ?_
  refine draw_pure rfl rfl rfl rfl (lit_lt rfl) (fun _ => Calm.fieldAddr ty_field_64_0 rfl) ?_
  refine draw_pure rfl rfl rfl rfl (lit_lt rfl) (fun _ => Calm.fieldAddr ty_field_25_0 rfl) ?_
  refine draw_calm rfl rfl rfl (lit_lt rfl) less_ (fun S' hS' => by obtain rfl := hS'.resolve_left (by decide); exact ld_ ty_plain_22 rfl) ?_
  refine draw_pure rfl rfl rfl rfl (lit_lt rfl) (fun _ => Calm.move rfl) ?_
  refine draw_pure rfl rfl rfl rfl (lit_lt rfl) (fun _ => Calm.indexS Try.underlying22 ty_size_32 rfl rfl (by omega) (by omega)) ?_
  refine draw_calm rfl rfl rfl (lit_lt rfl) less_ (fun S' hS' => by obtain rfl := hS'.resolve_left (by decide); exact ld_ ty_plain_32 rfl) ?_
  refine draw_calm rfl rfl rfl (lit_lt rfl) less_ (fun S' hS' => by obtain rfl := hS'.resolve_left (by decide); exact Calm.lenSl Try.underlying32 rfl) ?_
  refine draw_pure rfl rfl rfl rfl (lit_lt rfl) (fun _ => Calm.bin rfl rfl (bin_bool (bin_gtr _ _) hd)) ?_
  refine draw_pure rfl rfl rfl rfl (lit_lt rfl) (fun _ => Calm.assign rfl) ?_
  refine draw_pure rfl rfl rfl rfl (lit_lt rfl) (fun _ => Calm.assign rfl) ?_
  refine draw_nil ?_
  refine athen_n ?_
  refine AWP.sub [(0, _), (2, _), (3, _), (4, _)] ⟨rfl, rfl, rfl, rfl, trivial⟩ ?_
  refine AWP.ret ?_
  refine ⟨_, S, ⟨_, _, rfl, ⟨_, _, rfl, rfl, rfl⟩, rfl⟩, less_, ?_⟩
  exact ⟨rfl, rfl⟩
def TopR (p : Int × List Nat × Int) (S : Mem) (r : Value) (S' : Mem) : Prop := ∃ v, r = .tuple #[.int .i64 p.1, v, .int .i64 p.2.2] ∧ S.Less S' ∧ RowR S' v p.2.1
set_option maxHeartbeats 1000000 in
theorem losV_Top (hk ht : Value) (ks : List (List Nat)) (tr : List Int) (S : Mem) (hl : LoV S hk ht ks tr) (hrow : ∀ x ∈ ks, x.length ≤ 17592186043904) :
    ACall Try.prog 18 #[.agg #[hk, ht]] S (TopR (topP ks tr) S) := by
  unfold topP
  rcases chk_or ks tr with ⟨hc, hc1, hc2, rfl⟩ | hc
  · rw [if_neg (by rw [hc]; simp)]
    have hw := win_lt (ks := ks) (n := 1) (by decide) (by omega)
    obtain ⟨gs, hgl, hga, hge⟩ := id hl.1
    obtain ⟨pa, ca, rfl, a1, a2, a3⟩ := id hga
    obtain ⟨b0, off, rfl, _⟩ := a3.resolve_left (by intro h; rw [h] at hgl; simp at hgl; omega)
    have k1 := hga.at1 (win ks 1) (by omega)
    have hr := hge (win ks 1) hw (by omega)
    rw [← key_get ks _ hw] at hr
    have hrl : (key ks (win ks 1)).length ≤ 17592186043904 := by rw [key_get ks _ hw]; exact hrow _ (List.getElem_mem _)
    obtain ⟨g, hg⟩ : ∃ g, g = gs[win ks 1] := ⟨_, rfl⟩
    rw [← hg] at k1 hr
    by_cases he : key ks (win ks 1) = []
    · rw [if_pos he]
      refine ACall.enter (args := [.agg #[.slice (some ⟨b0, off, none⟩) gs.length ca, ht]]) (rs := [.tmp 2, .tmp 3, .tmp 4]) 29 [(0, .agg #[.slice (some ⟨b0, off, none⟩) gs.length ca, ht])] Try.func18 rfl rfl (Nat.le_of_ble_eq_true rfl) rfl ⟨rfl, trivial⟩ ?_
      refine AWP.seq ?_
      refine AWP.region ?_
      refine ARun.boxA (cs := [_, _]) (lit_lt rfl) rfl ?_
      intro b1 f1
      have g1 := f1
      repeat ((with_reducible replace g1 := fresh_set g1); obtain ⟨g1, _⟩ := g1)
      (try simp only [List.length_cons, List.length_nil, Nat.zero_add, Nat.reduceAdd])
      refine rC (Calm.assign rfl) ?_
      refine rC (Calm.assign rfl) ?_
      refine rC (Calm.assign rfl) ?_
      refine arun_nil ?_
      refine athen_n ?_
      refine AWP.seq ?_
      refine AWP.seq ?_
      refine AWP.region ?_
      refine rC (ldA_ (cs := [_, _]) ty_agg_25 ty_size_25 rfl) ?_
      refine ARun.call (lit_lt rfl) go_26 rfl (losV_Check _ ht ks (treeOf ks) _ (hl.less less_)) ?_
      rintro _ S1 ⟨rfl, h1⟩
      rw [h1, hc]; clear h1 S1
      refine rC (Calm.assign rfl) ?_
      refine arun_nil ?_
      refine athen_n ?_
      refine AWP.sub [(0, _), (1, _), (2, _), (3, _), (4, _), (5, _)] ⟨rfl, rfl, rfl, rfl, rfl, rfl, trivial⟩ ?_
      refine AWP.seq ?_
      refine AWP.region ?_
      refine rC (Calm.move rfl) ?_
      refine rC (Calm.bin rfl rfl b_neq) ?_
      refine arun_nil ?_
      refine athen_n ?_
      refine AWP.sub [(0, _), (1, _), (2, _), (3, _), (4, _), (5, _), (11, _)] ⟨rfl, rfl, rfl, rfl, rfl, rfl, rfl, trivial⟩ ?_
      refine AWP.condF rfl (by first | rfl | (simp; done) | (simp; omega)) ?_
      refine AWP.skip ?_
      refine athen_n ?_
      refine AWP.seq ?_
      refine AWP.region ?_
      refine rC (ldA_ (cs := [_, _]) ty_agg_25 ty_size_25 rfl) ?_
      refine rC (Calm.build (cs := [_, _]) ty_bld_64 rfl rfl) ?_
      refine ARun.boxA (cs := [_, _]) (lit_lt rfl) rfl ?_
      intro b16 f16
      have g16 := f16
      repeat ((with_reducible replace g16 := fresh_set g16); obtain ⟨g16, _⟩ := g16)
      (try simp only [List.length_cons, List.length_nil, Nat.zero_add, Nat.reduceAdd])
      refine ARun.call (lit_lt rfl) go_49 rfl (losV_Win b16 _ ht ks _ own_ (hl.less less_) hc1) ?_
      rintro _ S1 ⟨rfl, h1⟩
      rw [h1, decide_eq_false (fun e => e he)]; clear h1 S1
      refine rC (Calm.move rfl) ?_
      refine rC (Calm.extract rfl rfl) ?_
      refine rC (Calm.extract rfl rfl) ?_
      refine rC (Calm.assign rfl) ?_
      refine rC (Calm.assign rfl) ?_
      refine arun_nil ?_
      refine athen_n ?_
      refine AWP.sub [(0, _), (1, _), (2, _), (3, _), (4, _), (5, _), (11, _), (6, _), (7, _)] ⟨rfl, rfl, rfl, rfl, rfl, rfl, rfl, rfl, rfl, trivial⟩ ?_
      refine AWP.seq ?_
      refine AWP.seq ?_
      refine AWP.region ?_
      refine rC (Calm.move rfl) ?_
      refine rC (Calm.un rfl (una_not _)) ?_
      refine arun_nil ?_
      refine athen_n ?_
      refine AWP.sub [(0, _), (1, _), (2, _), (3, _), (4, _), (5, _), (11, _), (6, _), (7, _), (21, _)] ⟨rfl, rfl, rfl, rfl, rfl, rfl, rfl, rfl, rfl, rfl, trivial⟩ ?_
      refine AWP.condT rfl (by first | rfl | (simp; done) | (simp; omega)) ?_
      refine AWP.seq ?_
      refine AWP.region ?_
      refine rC (Calm.assign rfl) ?_
      refine rC (Calm.assign rfl) ?_
      refine rC (Calm.assign rfl) ?_
      refine arun_nil ?_
      refine athen_n ?_
      refine AWP.ret ?_
      refine athen_ret ?_
      refine ⟨_, S, ⟨_, _, rfl, ⟨_, _, rfl, ⟨_, _, rfl, rfl, rfl⟩, rfl⟩, rfl⟩, less_, ?_⟩
      exact ⟨_, rfl, Mem.Less.refl _, Sl.nil _ _ _⟩
    · rw [if_neg he]
      obtain ⟨qa, da, rfl, x1, x2, _⟩ := id hr
      refine ACall.enter (args := [.agg #[.slice (some ⟨b0, off, none⟩) gs.length ca, ht]]) (rs := [.tmp 2, .tmp 3, .tmp 4]) 29 [(0, .agg #[.slice (some ⟨b0, off, none⟩) gs.length ca, ht])] Try.func18 rfl rfl (Nat.le_of_ble_eq_true rfl) rfl ⟨rfl, trivial⟩ ?_
      refine AWP.seq ?_
      refine AWP.region ?_
      refine ARun.boxA (cs := [_, _]) (lit_lt rfl) rfl ?_
      intro b1 f1
      have g1 := f1
      repeat ((with_reducible replace g1 := fresh_set g1); obtain ⟨g1, _⟩ := g1)
      (try simp only [List.length_cons, List.length_nil, Nat.zero_add, Nat.reduceAdd])
      refine rC (Calm.assign rfl) ?_
      refine rC (Calm.assign rfl) ?_
      refine rC (Calm.assign rfl) ?_
      refine arun_nil ?_
      refine athen_n ?_
      refine AWP.seq ?_
      refine AWP.seq ?_
      refine AWP.region ?_
      refine rC (ldA_ (cs := [_, _]) ty_agg_25 ty_size_25 rfl) ?_
      refine ARun.call (lit_lt rfl) go_26 rfl (losV_Check _ ht ks (treeOf ks) _ (hl.less less_)) ?_
      rintro _ S1 ⟨rfl, h1⟩
      rw [h1, hc]; clear h1 S1
      refine rC (Calm.assign rfl) ?_
      refine arun_nil ?_
      refine athen_n ?_
      refine AWP.sub [(0, _), (1, _), (2, _), (3, _), (4, _), (5, _)] ⟨rfl, rfl, rfl, rfl, rfl, rfl, trivial⟩ ?_
      refine AWP.seq ?_
      refine AWP.region ?_
      refine rC (Calm.move rfl) ?_
      refine rC (Calm.bin rfl rfl b_neq) ?_
      refine arun_nil ?_
      refine athen_n ?_
      refine AWP.sub [(0, _), (1, _), (2, _), (3, _), (4, _), (5, _), (11, _)] ⟨rfl, rfl, rfl, rfl, rfl, rfl, rfl, trivial⟩ ?_
      refine AWP.condF rfl (by first | rfl | (simp; done) | (simp; omega)) ?_
      refine AWP.skip ?_
      refine athen_n ?_
      refine AWP.seq ?_
      refine AWP.region ?_
      refine rC (ldA_ (cs := [_, _]) ty_agg_25 ty_size_25 rfl) ?_
      refine rC (Calm.build (cs := [_, _]) ty_bld_64 rfl rfl) ?_
      refine ARun.boxA (cs := [_, _]) (lit_lt rfl) rfl ?_
      intro b16 f16
      have g16 := f16
      repeat ((with_reducible replace g16 := fresh_set g16); obtain ⟨g16, _⟩ := g16)
      (try simp only [List.length_cons, List.length_nil, Nat.zero_add, Nat.reduceAdd])
      refine ARun.call (lit_lt rfl) go_49 rfl (losV_Win b16 _ ht ks _ own_ (hl.less less_) hc1) ?_
      rintro _ S1 ⟨rfl, h1⟩
      rw [h1, decide_eq_true he]; clear h1 S1
      refine rC (Calm.move rfl) ?_
      refine rC (Calm.extract rfl rfl) ?_
      refine rC (Calm.extract rfl rfl) ?_
      refine rC (Calm.assign rfl) ?_
      refine rC (Calm.assign rfl) ?_
      refine arun_nil ?_
      refine athen_n ?_
      refine AWP.sub [(0, _), (1, _), (2, _), (3, _), (4, _), (5, _), (11, _), (6, _), (7, _)] ⟨rfl, rfl, rfl, rfl, rfl, rfl, rfl, rfl, rfl, trivial⟩ ?_
      refine AWP.seq ?_
      refine AWP.seq ?_
      refine AWP.region ?_
      refine rC (Calm.move rfl) ?_
      refine rC (Calm.un rfl (una_not _)) ?_
      refine arun_nil ?_
      refine athen_n ?_
      refine AWP.sub [(0, _), (1, _), (2, _), (3, _), (4, _), (5, _), (11, _), (6, _), (7, _), (21, _)] ⟨rfl, rfl, rfl, rfl, rfl, rfl, rfl, rfl, rfl, rfl, trivial⟩ ?_
      refine AWP.condF rfl (by first | rfl | (simp; done) | (simp; omega)) ?_
      refine AWP.skip ?_
      refine athen_n ?_
      refine AWP.seq ?_
      refine AWP.region ?_
      refine rC (Calm.move rfl) ?_
      refine rC (Calm.fieldAddr ty_field_25_0 rfl) ?_
      refine rC (ld_ ty_plain_22 rfl) ?_
      refine rC (Calm.move rfl) ?_
      refine rC (Calm.indexS Try.underlying22 ty_size_32 rfl rfl (by omega) (by omega)) ?_
      refine rC (ld_ ty_plain_32 rfl) ?_
      refine ARun.call (lit_lt rfl) go_50 rfl (losV_CloneU (key ks (win ks 1)) _ _ (rowR_less _ _ _ _ hr less_) hrl) ?_
      rintro vc S1 hcl
      refine rC (Calm.assign rfl) ?_
      refine rC (Calm.assign rfl) ?_
      refine rC (Calm.assign rfl) ?_
      refine arun_nil ?_
      refine athen_n ?_
      refine AWP.sub [(0, _), (1, _), (2, _), (3, _), (4, _), (5, _), (11, _), (6, _), (7, _), (21, _)] ⟨rfl, rfl, rfl, rfl, rfl, rfl, rfl, rfl, rfl, rfl, trivial⟩ ?_
      refine AWP.ret ?_
      refine ⟨_, _, ⟨_, _, rfl, ⟨_, _, rfl, ⟨_, _, rfl, rfl, rfl⟩, rfl⟩, rfl⟩, Mem.Less.refl _, ?_⟩
      exact ⟨_, rfl, Mem.Less.trans less_ hcl.less, hcl.sl (by omega)⟩
  · rw [if_pos (by rw [hc]; simp)]
    refine ACall.enter (args := [.agg #[hk, ht]]) (rs := [.tmp 2, .tmp 3, .tmp 4]) 29 [(0, .agg #[hk, ht])] Try.func18 rfl rfl (Nat.le_of_ble_eq_true rfl) rfl ⟨rfl, trivial⟩ ?_
    refine AWP.seq ?_
    refine AWP.region ?_
    refine ARun.boxA (cs := [_, _]) (lit_lt rfl) rfl ?_
    intro b1 f1
    have g1 := f1
    repeat ((with_reducible replace g1 := fresh_set g1); obtain ⟨g1, _⟩ := g1)
    (try simp only [List.length_cons, List.length_nil, Nat.zero_add, Nat.reduceAdd])
    refine rC (Calm.assign rfl) ?_
    refine rC (Calm.assign rfl) ?_
    refine rC (Calm.assign rfl) ?_
    refine arun_nil ?_
    refine athen_n ?_
    refine AWP.seq ?_
    refine AWP.seq ?_
    refine AWP.region ?_
    refine rC (ldA_ (cs := [_, _]) ty_agg_25 ty_size_25 rfl) ?_
    refine ARun.call (lit_lt rfl) go_26 rfl (losV_Check hk ht ks tr _ (hl.less less_)) ?_
    rintro _ S1 ⟨rfl, h1⟩
    rw [h1, hc]; clear h1 S1
    refine rC (Calm.assign rfl) ?_
    refine arun_nil ?_
    refine athen_n ?_
    refine AWP.sub [(0, _), (1, _), (2, _), (3, _), (4, _), (5, _)] ⟨rfl, rfl, rfl, rfl, rfl, rfl, trivial⟩ ?_
    refine AWP.seq ?_
    refine AWP.region ?_
    refine rC (Calm.move rfl) ?_
    refine rC (Calm.bin rfl rfl b_neq) ?_
    refine arun_nil ?_
    refine athen_n ?_
    refine AWP.sub [(0, _), (1, _), (2, _), (3, _), (4, _), (5, _), (11, _)] ⟨rfl, rfl, rfl, rfl, rfl, rfl, rfl, trivial⟩ ?_
    refine AWP.condT rfl (by first | rfl | (simp; done) | (simp; omega)) ?_
    refine AWP.seq ?_
    refine AWP.region ?_
    refine rC (Calm.move rfl) ?_
    refine rC (Calm.assign rfl) ?_
    refine rC (Calm.assign rfl) ?_
    refine rC (Calm.assign rfl) ?_
    refine arun_nil ?_
    refine athen_n ?_
    refine AWP.sub [(0, _), (1, _), (2, _), (3, _), (4, _), (5, _), (11, _)] ⟨rfl, rfl, rfl, rfl, rfl, rfl, rfl, trivial⟩ ?_
    refine AWP.ret ?_
    refine athen_ret ?_
    refine ⟨_, S, ⟨_, _, rfl, ⟨_, _, rfl, ⟨_, _, rfl, rfl, rfl⟩, rfl⟩, rfl⟩, less_, ?_⟩
    exact ⟨_, rfl, Mem.Less.refl _, Sl.nil _ _ _⟩
def PathR (p : List Int × Int) (S : Mem) (r : Value) (S' : Mem) : Prop := ∃ v, r = .tuple #[v, .int .i64 p.2] ∧ S.Less S' ∧ Sl 1 i64s S' v p.1
theorem pathF_len (f n : Nat) : (pathF f n).length ≤ f := by
  induction f generalizing n with
  | zero => simp [pathF]
  | succ f ih => rw [pathF]; split
                 · simp
                 · have := ih (n / 2); simp; omega
set_option maxHeartbeats 1000000 in
theorem losV_Path (hk ht : Value) (ks : List (List Nat)) (tr : List Int) (leaf : Int) (S : Mem) (hl : LoV S hk ht ks tr) (hb0 : -9223372036854775808 ≤ leaf) (hb1 : leaf ≤ 9223372036854775807) :
    ACall Try.prog 22 #[.agg #[hk, ht], .int .i64 leaf] S (PathR (pathP ks tr leaf) S) := by
  unfold pathP
  rcases chk_or ks tr with ⟨hc, hc1, hc2, rfl⟩ | hc
  · rw [if_neg (by rw [hc]; simp)]
    obtain ⟨gs, hgl, ⟨pa, ca, rfl, a1, a2, a3⟩, hge⟩ := id hl.1
    by_cases hneg : leaf < 0
    · rw [if_pos (.inl hneg)]
      refine ACall.enter (args := [.agg #[.slice pa gs.length ca, ht], .int .i64 leaf]) (rs := [.tmp 4, .tmp 5]) 38 [(0, .agg #[.slice pa gs.length ca, ht]), (1, .int .i64 leaf)] Try.func22 rfl rfl (Nat.le_of_ble_eq_true rfl) rfl ⟨rfl, rfl, trivial⟩ ?_
      refine AWP.seq ?_
      refine AWP.region ?_
      refine ARun.boxA (cs := [_, _]) (lit_lt rfl) rfl ?_
      intro b2 f2
      have g2 := f2
      repeat ((with_reducible replace g2 := fresh_set g2); obtain ⟨g2, _⟩ := g2)
      (try simp only [List.length_cons, List.length_nil, Nat.zero_add, Nat.reduceAdd])
      refine rC (Calm.assign rfl) ?_
      refine rC (Calm.assign rfl) ?_
      refine arun_nil ?_
      refine athen_n ?_
      refine AWP.seq ?_
      refine AWP.seq ?_
      refine AWP.region ?_
      refine rC (ldA_ (cs := [_, _]) ty_agg_25 ty_size_25 rfl) ?_
      refine ARun.call (lit_lt rfl) go_26 rfl (losV_Check _ ht ks (treeOf ks) _ (hl.less less_)) ?_
      rintro _ S1 ⟨rfl, h1⟩
      rw [h1, hc]; clear h1 S1
      refine rC (Calm.assign rfl) ?_
      refine arun_nil ?_
      refine athen_n ?_
      refine AWP.sub [(0, _), (1, _), (2, _), (4, _), (5, _), (6, _)] ⟨rfl, rfl, rfl, rfl, rfl, rfl, trivial⟩ ?_
      refine AWP.seq ?_
      refine AWP.region ?_
      refine rC (Calm.move rfl) ?_
      refine rC (Calm.bin rfl rfl b_neq) ?_
      refine arun_nil ?_
      refine athen_n ?_
      refine AWP.sub [(0, _), (1, _), (2, _), (4, _), (5, _), (6, _), (12, _)] ⟨rfl, rfl, rfl, rfl, rfl, rfl, rfl, trivial⟩ ?_
      refine AWP.condF rfl (by first | rfl | (simp; done) | (simp; omega)) ?_
      refine AWP.skip ?_
      refine athen_n ?_
      refine AWP.seq ?_
      refine AWP.seq ?_
      refine AWP.region ?_
      refine rC (Calm.move rfl) ?_
      refine rC (Calm.bin rfl rfl b_lss) ?_
      refine rC (Calm.move rfl) ?_
      first | refine rS 16 ?_ | refine rU 16 ?_ | refine rG 16 (Calm.move rfl) ?_
      first | refine rS 16 ?_ | refine rU 16 ?_ | refine rG 16 (Calm.fieldAddr ty_field_25_0 rfl) ?_
      first | refine rS 16 ?_ | refine rU 16 ?_ | refine rG 16 (ld_ ty_plain_22 rfl) ?_
      first | refine rS 16 ?_ | refine rU 16 ?_ | refine rG 16 (Calm.lenSl Try.underlying22 rfl) ?_
      first | refine rS 16 ?_ | refine rU 16 ?_ | refine rG 16 (Calm.bin rfl rfl b_geq) ?_
      refine rC ((by first | exact Calm.pickT rfl rfl | exact Calm.pickF rfl rfl)) ?_
      refine arun_nil ?_
      refine athen_n ?_
      refine AWP.sub [(0, _), (1, _), (2, _), (4, _), (5, _), (6, _), (12, _), (22, _)] ⟨rfl, rfl, rfl, rfl, rfl, rfl, rfl, rfl, trivial⟩ ?_
      refine AWP.condT rfl (by first | rfl | (simp; done) | (simp; omega)) ?_
      refine AWP.seq ?_
      refine AWP.region ?_
      refine rC (Calm.assign rfl) ?_
      refine rC (Calm.assign rfl) ?_
      refine arun_nil ?_
      refine athen_n ?_
      refine AWP.ret ?_
      refine athen_ret ?_
      refine ⟨_, S, ⟨_, _, rfl, ⟨_, _, rfl, rfl, rfl⟩, rfl⟩, less_, ?_⟩
      exact ⟨_, rfl, Mem.Less.refl _, Sl.nil _ _ _⟩
    · by_cases hbig : (ks.length : Int) ≤ leaf
      · rw [if_pos (.inr hbig)]
        refine ACall.enter (args := [.agg #[.slice pa gs.length ca, ht], .int .i64 leaf]) (rs := [.tmp 4, .tmp 5]) 38 [(0, .agg #[.slice pa gs.length ca, ht]), (1, .int .i64 leaf)] Try.func22 rfl rfl (Nat.le_of_ble_eq_true rfl) rfl ⟨rfl, rfl, trivial⟩ ?_
        refine AWP.seq ?_
        refine AWP.region ?_
        refine ARun.boxA (cs := [_, _]) (lit_lt rfl) rfl ?_
        intro b2 f2
        have g2 := f2
        repeat ((with_reducible replace g2 := fresh_set g2); obtain ⟨g2, _⟩ := g2)
        (try simp only [List.length_cons, List.length_nil, Nat.zero_add, Nat.reduceAdd])
        refine rC (Calm.assign rfl) ?_
        refine rC (Calm.assign rfl) ?_
        refine arun_nil ?_
        refine athen_n ?_
        refine AWP.seq ?_
        refine AWP.seq ?_
        refine AWP.region ?_
        refine rC (ldA_ (cs := [_, _]) ty_agg_25 ty_size_25 rfl) ?_
        refine ARun.call (lit_lt rfl) go_26 rfl (losV_Check _ ht ks (treeOf ks) _ (hl.less less_)) ?_
        rintro _ S1 ⟨rfl, h1⟩
        rw [h1, hc]; clear h1 S1
        refine rC (Calm.assign rfl) ?_
        refine arun_nil ?_
        refine athen_n ?_
        refine AWP.sub [(0, _), (1, _), (2, _), (4, _), (5, _), (6, _)] ⟨rfl, rfl, rfl, rfl, rfl, rfl, trivial⟩ ?_
        refine AWP.seq ?_
        refine AWP.region ?_
        refine rC (Calm.move rfl) ?_
        refine rC (Calm.bin rfl rfl b_neq) ?_
        refine arun_nil ?_
        refine athen_n ?_
        refine AWP.sub [(0, _), (1, _), (2, _), (4, _), (5, _), (6, _), (12, _)] ⟨rfl, rfl, rfl, rfl, rfl, rfl, rfl, trivial⟩ ?_
        refine AWP.condF rfl (by first | rfl | (simp; done) | (simp; omega)) ?_
        refine AWP.skip ?_
        refine athen_n ?_
        refine AWP.seq ?_
        refine AWP.seq ?_
        refine AWP.region ?_
        refine rC (Calm.move rfl) ?_
        refine rC (Calm.bin rfl rfl b_lss) ?_
        refine rC (Calm.move rfl) ?_
        first | refine rS 16 ?_ | refine rU 16 ?_ | refine rG 16 (Calm.move rfl) ?_
        first | refine rS 16 ?_ | refine rU 16 ?_ | refine rG 16 (Calm.fieldAddr ty_field_25_0 rfl) ?_
        first | refine rS 16 ?_ | refine rU 16 ?_ | refine rG 16 (ld_ ty_plain_22 rfl) ?_
        first | refine rS 16 ?_ | refine rU 16 ?_ | refine rG 16 (Calm.lenSl Try.underlying22 rfl) ?_
        first | refine rS 16 ?_ | refine rU 16 ?_ | refine rG 16 (Calm.bin rfl rfl b_geq) ?_
        refine rC ((by first | exact Calm.pickT rfl rfl | exact Calm.pickF rfl rfl)) ?_
        refine arun_nil ?_
        refine athen_n ?_
        refine AWP.sub [(0, _), (1, _), (2, _), (4, _), (5, _), (6, _), (12, _), (22, _)] ⟨rfl, rfl, rfl, rfl, rfl, rfl, rfl, rfl, trivial⟩ ?_
        refine AWP.condT rfl (by first | rfl | (simp; done) | (simp; omega)) ?_
        refine AWP.seq ?_
        refine AWP.region ?_
        refine rC (Calm.assign rfl) ?_
        refine rC (Calm.assign rfl) ?_
        refine arun_nil ?_
        refine athen_n ?_
        refine AWP.ret ?_
        refine athen_ret ?_
        refine ⟨_, S, ⟨_, _, rfl, ⟨_, _, rfl, rfl, rfl⟩, rfl⟩, less_, ?_⟩
        exact ⟨_, rfl, Mem.Less.refl _, Sl.nil _ _ _⟩
      · rw [if_neg (by omega)]
        obtain ⟨lf, rfl⟩ : ∃ lf : Nat, leaf = lf := ⟨leaf.toNat, by omega⟩
        rw [Int.toNat_natCast]
        obtain ⟨n0, hn0⟩ : ∃ n0, n0 = (ks.length + lf) / 2 := ⟨_, rfl⟩
        rw [← hn0]
        have hpl := pathF_len 10 n0
        refine ACall.enter (args := [.agg #[.slice pa gs.length ca, ht], .int .i64 (lf : Int)]) (rs := [.tmp 4, .tmp 5]) 38 [(0, .agg #[.slice pa gs.length ca, ht]), (1, .int .i64 (lf : Int))] Try.func22 rfl rfl (Nat.le_of_ble_eq_true rfl) rfl ⟨rfl, rfl, trivial⟩ ?_
        refine AWP.seq ?_
        refine AWP.region ?_
        refine ARun.boxA (cs := [_, _]) (lit_lt rfl) rfl ?_
        intro b2 f2
        have g2 := f2
        repeat ((with_reducible replace g2 := fresh_set g2); obtain ⟨g2, _⟩ := g2)
        (try simp only [List.length_cons, List.length_nil, Nat.zero_add, Nat.reduceAdd])
        refine rC (Calm.assign rfl) ?_
        refine rC (Calm.assign rfl) ?_
        refine arun_nil ?_
        refine athen_n ?_
        refine AWP.seq ?_
        refine AWP.seq ?_
        refine AWP.region ?_
        refine rC (ldA_ (cs := [_, _]) ty_agg_25 ty_size_25 rfl) ?_
        refine ARun.call (lit_lt rfl) go_26 rfl (losV_Check _ ht ks (treeOf ks) _ (hl.less less_)) ?_
        rintro _ S1 ⟨rfl, h1⟩
        rw [h1, hc]; clear h1 S1
        refine rC (Calm.assign rfl) ?_
        refine arun_nil ?_
        refine athen_n ?_
        refine AWP.sub [(0, _), (1, _), (2, _), (4, _), (5, _), (6, _)] ⟨rfl, rfl, rfl, rfl, rfl, rfl, trivial⟩ ?_
        refine AWP.seq ?_
        refine AWP.region ?_
        refine rC (Calm.move rfl) ?_
        refine rC (Calm.bin rfl rfl b_neq) ?_
        refine arun_nil ?_
        refine athen_n ?_
        refine AWP.sub [(0, _), (1, _), (2, _), (4, _), (5, _), (6, _), (12, _)] ⟨rfl, rfl, rfl, rfl, rfl, rfl, rfl, trivial⟩ ?_
        refine AWP.condF rfl (by first | rfl | (simp; done) | (simp; omega)) ?_
        refine AWP.skip ?_
        refine athen_n ?_
        refine AWP.seq ?_
        refine AWP.seq ?_
        refine AWP.region ?_
        refine rC (Calm.move rfl) ?_
        refine rC (Calm.bin rfl rfl b_lss) ?_
        refine rC (Calm.move rfl) ?_
        first | refine rS 16 ?_ | refine rU 16 ?_ | refine rG 16 (Calm.move rfl) ?_
        first | refine rS 16 ?_ | refine rU 16 ?_ | refine rG 16 (Calm.fieldAddr ty_field_25_0 rfl) ?_
        first | refine rS 16 ?_ | refine rU 16 ?_ | refine rG 16 (ld_ ty_plain_22 rfl) ?_
        first | refine rS 16 ?_ | refine rU 16 ?_ | refine rG 16 (Calm.lenSl Try.underlying22 rfl) ?_
        first | refine rS 16 ?_ | refine rU 16 ?_ | refine rG 16 (Calm.bin rfl rfl b_geq) ?_
        refine rC ((by first | exact Calm.pickT rfl rfl | exact Calm.pickF rfl rfl)) ?_
        refine arun_nil ?_
        refine athen_n ?_
        refine AWP.sub [(0, _), (1, _), (2, _), (4, _), (5, _), (6, _), (12, _), (22, _)] ⟨rfl, rfl, rfl, rfl, rfl, rfl, rfl, rfl, trivial⟩ ?_
        refine AWP.condF rfl (by first | rfl | (simp; done) | (simp; omega)) ?_
        refine AWP.skip ?_
        refine athen_n ?_
        refine AWP.seq ?_
        refine AWP.region ?_
        refine rC (Calm.assign rfl) ?_
        refine arun_nil ?_
        refine athen_n ?_
        refine AWP.seq ?_
        refine AWP.seq ?_
        refine AWP.region ?_
        refine rC (Calm.fieldAddr ty_field_25_0 rfl) ?_
        refine rC (ld_ ty_plain_22 rfl) ?_
        refine rC (Calm.lenSl Try.underlying22 rfl) ?_
        refine rC (Calm.move rfl) ?_
        refine rC (Calm.bin rfl rfl b_add_i64) ?_
        refine rC (Calm.bin rfl rfl b_quo_i64) ?_
        refine rC (Calm.assign rfl) ?_
        refine arun_nil ?_
        refine athen_n ?_
        refine AWP.sub [(0, _), (1, _), (2, _), (4, _), (5, _), (6, _), (12, _), (22, _), (7, _), (8, _)] ⟨rfl, rfl, rfl, rfl, rfl, rfl, rfl, rfl, rfl, rfl, trivial⟩ ?_
        refine AWP.block ?_
        refine AWP.loop (X := Nat × Nat × List Int × Option (Nat × Nat)) (fun x => [(7, outV x.2.2.2 x.2.2.1.length), (8, .int .i64 x.1)]) (fun x => outM S x.2.2.2 3 (x.2.2.1.map fun x => Value.int .i64 x)) (fun x => x.1 < 2 ^ x.2.1 ∧ x.2.2.1 ++ pathF x.2.1 x.1 = pathF 10 n0 ∧ OkO S x.2.2.2 x.2.2.1.length ∧ x.1 ≤ n0) (fun x => x.1) ((n0, 10, [], none)) ⟨rfl, some_int (by omega), trivial⟩ ((show S.Less _ from less_)) (⟨(show n0 < 2 ^ 10 by omega), rfl, okO_nil S, Nat.le_refl _⟩) ?_
        rintro ⟨n, f, pre, o⟩ ⟨hn, hq, ho, hmx⟩
        (try dsimp only at *)
        have hpre : pre.length ≤ 10 := by have := congrArg List.length hq; rw [List.length_append] at this; omega
        have hml : (pre.map fun x => Value.int .i64 x).length = pre.length := by simp
        by_cases hn1 : 1 ≤ n
        · obtain ⟨f', rfl⟩ : ∃ f', f = f' + 1 := ⟨f - 1, by rcases f with _ | f; (simp at hn; omega); rfl⟩
          refine AWP.seq ?_
          refine AWP.seq ?_
          refine AWP.region ?_
          refine rC (Calm.move rfl) ?_
          refine rC (Calm.bin rfl rfl b_geq) ?_
          refine arun_nil ?_
          refine athen_n ?_
          refine AWP.sub [(7, _), (8, _), (30, _)] ⟨rfl, rfl, rfl, trivial⟩ ?_
          refine AWP.condT rfl (by first | rfl | (simp; done) | (simp; omega)) ?_
          rw [pathF, if_neg (by omega)] at hq
          refine AWP.skip ?_
          refine athen_n ?_
          refine AWP.seq ?_
          refine AWP.block ?_
          refine AWP.region ?_
          refine rC (Calm.move rfl) ?_
          refine rC (Calm.move rfl) ?_
          refine ARun.build1s (lit_lt rfl) ty_sl_23 rfl rfl ?_
          intro b35 f35
          have g35 := f35
          repeat ((with_reducible replace g35 := fresh_set g35); obtain ⟨g35, _⟩ := g35)
          refine ARun.appendO (lit_lt rfl) ty_sl_23 rfl hml (appO_of ho hml g35) rfl (news := [_]) rds_ rfl (by omega) (by simp [Value.oneCell']) (by omega) (by omega) ?_
          intro b36 c36 ho2
          refine rC (Calm.assign rfl) ?_
          refine arun_nil ?_
          refine ain_n ?_
          refine athen_n ?_
          refine AWP.sub [(7, _), (8, _), (30, _)] ⟨rfl, rfl, rfl, trivial⟩ ?_
          refine AWP.region ?_
          refine rC (Calm.move rfl) ?_
          refine rC (Calm.bin rfl rfl b_quo_i64) ?_
          refine rC (Calm.assign rfl) ?_
          refine arun_nil ?_
          refine athen_n ?_
          refine ⟨(n / 2, f', pre ++ [(n : Int)], some (b36, c36)), ?_, ?_, ?_, ?_⟩
          all_goals (try dsimp only)
          · exact ⟨by rw [List.length_append]; rfl, some_int (by omega), trivial⟩
          · rw [List.map_append]; exact Mem.Less.refl _
          · exact ⟨by rw [Nat.pow_succ] at hn; omega, by rw [List.append_assoc]; exact hq, by rw [List.length_append]; exact ho2, by omega⟩
          · omega
        · refine AWP.seq ?_
          refine AWP.seq ?_
          refine AWP.region ?_
          refine rC (Calm.move rfl) ?_
          refine rC (Calm.bin rfl rfl b_geq) ?_
          refine arun_nil ?_
          refine athen_n ?_
          refine AWP.sub [(7, _), (8, _), (30, _)] ⟨rfl, rfl, rfl, trivial⟩ ?_
          refine AWP.condF rfl (by first | rfl | (simp; done) | (simp; omega)) ?_
          have hpf : pathF f n = [] := by cases f with | zero => rfl | succ f => rw [pathF, if_pos (by omega)]
          rw [hpf, List.append_nil] at hq
          subst hq
          refine AWP.exit ?_
          refine athen_exit ?_
          refine athen_exit ?_
          refine ain_same ?_
          refine athen_n ?_
          refine AWP.seq ?_
          refine AWP.region ?_
          refine rC (Calm.move rfl) ?_
          refine rC (Calm.assign rfl) ?_
          refine rC (Calm.assign rfl) ?_
          refine arun_nil ?_
          refine athen_n ?_
          refine AWP.sub [(7, _), (8, _), (30, _), (4, _), (5, _)] ⟨rfl, rfl, rfl, rfl, rfl, trivial⟩ ?_
          refine AWP.ret ?_
          refine ⟨_, _, ⟨_, _, rfl, ⟨_, _, rfl, rfl, rfl⟩, rfl⟩, Mem.Less.refl _, ?_⟩
          exact ⟨_, rfl, outM_over ho, sl_outV ho rfl (by omega)⟩
  · rw [if_pos (by rw [hc]; simp)]
    refine ACall.enter (args := [.agg #[hk, ht], .int .i64 leaf]) (rs := [.tmp 4, .tmp 5]) 38 [(0, .agg #[hk, ht]), (1, .int .i64 leaf)] Try.func22 rfl rfl (Nat.le_of_ble_eq_true rfl) rfl ⟨rfl, rfl, trivial⟩ ?_
    refine AWP.seq ?_
    refine AWP.region ?_
    refine ARun.boxA (cs := [_, _]) (lit_lt rfl) rfl ?_
    intro b2 f2
    have g2 := f2
    repeat ((with_reducible replace g2 := fresh_set g2); obtain ⟨g2, _⟩ := g2)
    (try simp only [List.length_cons, List.length_nil, Nat.zero_add, Nat.reduceAdd])
    refine rC (Calm.assign rfl) ?_
    refine rC (Calm.assign rfl) ?_
    refine arun_nil ?_
    refine athen_n ?_
    refine AWP.seq ?_
    refine AWP.seq ?_
    refine AWP.region ?_
    refine rC (ldA_ (cs := [_, _]) ty_agg_25 ty_size_25 rfl) ?_
    refine ARun.call (lit_lt rfl) go_26 rfl (losV_Check hk ht ks tr _ (hl.less less_)) ?_
    rintro _ S1 ⟨rfl, h1⟩
    rw [h1, hc]; clear h1 S1
    refine rC (Calm.assign rfl) ?_
    refine arun_nil ?_
    refine athen_n ?_
    refine AWP.sub [(0, _), (1, _), (2, _), (4, _), (5, _), (6, _)] ⟨rfl, rfl, rfl, rfl, rfl, rfl, trivial⟩ ?_
    refine AWP.seq ?_
    refine AWP.region ?_
    refine rC (Calm.move rfl) ?_
    refine rC (Calm.bin rfl rfl b_neq) ?_
    refine arun_nil ?_
    refine athen_n ?_
    refine AWP.sub [(0, _), (1, _), (2, _), (4, _), (5, _), (6, _), (12, _)] ⟨rfl, rfl, rfl, rfl, rfl, rfl, rfl, trivial⟩ ?_
    refine AWP.condT rfl (by first | rfl | (simp; done) | (simp; omega)) ?_
    refine AWP.seq ?_
    refine AWP.region ?_
    refine rC (Calm.move rfl) ?_
    refine rC (Calm.assign rfl) ?_
    refine rC (Calm.assign rfl) ?_
    refine arun_nil ?_
    refine athen_n ?_
    refine AWP.sub [(0, _), (1, _), (2, _), (4, _), (5, _), (6, _), (12, _)] ⟨rfl, rfl, rfl, rfl, rfl, rfl, rfl, trivial⟩ ?_
    refine AWP.ret ?_
    refine athen_ret ?_
    refine ⟨_, S, ⟨_, _, rfl, ⟨_, _, rfl, rfl, rfl⟩, rfl⟩, less_, ?_⟩
    exact ⟨_, rfl, Mem.Less.refl _, Sl.nil _ _ _⟩
end Go.Proofs.Ytddabbfjoejalaa
