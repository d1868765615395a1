/-
  Loser: another winner, by the document.
-/
import Derived.Test.YtddabbfjoejalaaVLos6
namespace Go.Proofs.Ytddabbfjoejalaa
open Go.RowKit
open Mv Num Loser
set_option linter.unusedVariables false
set_option linter.unusedSimpArgs false
set_option maxRecDepth 4000
theorem clone_in {α : Type} {g : α → Value} {e : TypeId} {l : List α} {M S' : Mem} {b : Nat} {r : Blk} {v : Value} (h : CloneR g e l (M.set b r) v S') (hf : Fresh M b) : ∃ M1, CloneR g e l M v M1 ∧ Fresh M1 b ∧ S' = M1.set b r := by
  rcases h with ⟨rfl, rfl, a, rfl⟩ | ⟨b', c, hf', hc, rfl, rfl⟩
  · exact ⟨M, .inl ⟨rfl, rfl, a, rfl⟩, hf, rfl⟩
  · obtain ⟨h1, h2⟩ := fresh_set hf'
    exact ⟨M.set b' ⟨e, l.map g, c⟩, .inr ⟨b', c, h1, hc, rfl, rfl⟩, fresh_more hf (Ne.symm h2), Mem.set_comm _ _ _ (Ne.symm h2)⟩
theorem topP_put (ks : List (List Nat)) (tr : List Int) (x : List Nat) :
    (chkP ks tr = 2 ∧ topP ks tr = (0, [], 2) ∧ putP ks tr x = ([], [], 2)) ∨
    (chkP ks tr = 0 ∧ 1 ≤ ks.length ∧ ks.length ≤ 256 ∧ tr = treeOf ks ∧ key ks (win ks 1) = [] ∧ topP ks tr = (0, [], 3) ∧ putP ks tr x = (ks, tr, 3)) ∨
    (chkP ks tr = 0 ∧ 1 ≤ ks.length ∧ ks.length ≤ 256 ∧ tr = treeOf ks ∧ key ks (win ks 1) ≠ [] ∧ topP ks tr = ((win ks 1 : Int), key ks (win ks 1), 0) ∧ putP ks tr x = if x ≠ [] ∧ lessB x (key ks (win ks 1)) = true then (ks, tr, 12) else (ks.set (win ks 1) x, treeOf (ks.set (win ks 1) x), 0)) := by
  unfold topP putP
  rcases chk_or ks tr with ⟨hc, h1, h2, h3⟩ | hc
  · right
    by_cases he : key ks (win ks 1) = []
    · left; exact ⟨hc, h1, h2, h3, he, by rw [hc]; simp [he], by rw [hc]; simp [he]⟩
    · right; exact ⟨hc, h1, h2, h3, he, by rw [hc]; simp [he], by rw [hc]; simp [he]⟩
  · left; exact ⟨hc, by rw [hc]; simp, by rw [hc]; simp⟩
set_option maxHeartbeats 4000000 in
theorem rlosV_Put (hk ht vx : Value) (ks : List (List Nat)) (tr : List Int) (x : List Nat) (S : Mem) (hl : LoV S hk ht ks tr) (hx : RowR S vx x) (hxl : x.length ≤ 17592186043904) (hrow : ∀ y ∈ ks, y.length ≤ 17592186043904) :
    ACall Try.prog 21 #[.agg #[hk, ht], vx] S (LosR (putP ks tr x) S) := by
  obtain ⟨pt, ct, rfl, t1, t2, t3⟩ := id hl.2
  obtain ⟨gs, hgl, ⟨pa, ca, rfl, a1, a2, a3⟩, hge⟩ := id hl.1
  obtain ⟨px, cx, rfl, x1, x2, _⟩ := id hx
  have htop := rlosV_Top _ _ ks tr S hl hrow
  rcases topP_put ks tr x with ⟨hc, htp, hpp⟩ | ⟨hc, hc1, hc2, rfl, he, htp, hpp⟩ | ⟨hc, hc1, hc2, rfl, he, htp, hpp⟩
  · rw [hpp]
    rw [htp] at htop
    refine ACall.enter (args := [.agg #[.slice pa gs.length ca, .slice pt tr.length ct], .slice px x.length cx]) (rs := [.cell 4 25, .tmp 5]) 47 [(0, .agg #[.slice pa gs.length ca, .slice pt tr.length ct]), (1, .slice px x.length cx)] Try.func21 rfl rfl (Nat.le_of_ble_eq_true rfl) rfl ⟨rfl, rfl, trivial⟩ ?_
    refine AWP.seq ?_
    refine AWP.region ?_
    refine ARun.boxA (cs := [_, _]) (lit_lt rfl) rfl ?_
    intro b2 f2
    have g2 := f2
    repeat ((with_reducible replace g2 := fresh_set g2); obtain ⟨g2, _⟩ := g2)
    (try simp only [List.length_cons, List.length_nil, Nat.zero_add, Nat.reduceAdd])
    refine ARun.alloc (lit_lt rfl) ty_zero_25 ?_
    intro b4 f4
    have g4 := f4
    repeat ((with_reducible replace g4 := fresh_set g4); obtain ⟨g4, _⟩ := g4)
    (try simp only [List.length_cons, List.length_nil, Nat.zero_add, Nat.reduceAdd])
    refine rC (Calm.assign rfl) ?_
    refine arun_nil ?_
    refine athen_n ?_
    refine AWP.seq ?_
    refine AWP.region ?_
    refine rC (ldA_ (cs := [_, _]) ty_agg_25 ty_size_25 rfl) ?_
    refine ARun.call (lit_lt rfl) go_19 rfl ((htop.frame g2).frame f4) ?_
    rintro _ S1 ⟨S1a, ⟨S1b, ⟨v1, rfl, hS1, hv1⟩, f2a, rfl⟩, f4a, rfl⟩
    refine rC (Calm.move rfl) ?_
    refine rC (Calm.extract rfl rfl) ?_
    refine rC (Calm.extract rfl rfl) ?_
    refine rC (Calm.extract rfl rfl) ?_
    refine rC (Calm.assign rfl) ?_
    refine rC (Calm.assign rfl) ?_
    refine rC (Calm.assign rfl) ?_
    refine arun_nil ?_
    refine athen_n ?_
    refine AWP.sub [(0, _), (1, _), (2, _), (4, _), (5, _), (6, _), (7, _), (8, _)] ⟨rfl, rfl, rfl, rfl, rfl, rfl, rfl, rfl, trivial⟩ ?_
    refine AWP.seq ?_
    refine AWP.seq ?_
    refine AWP.region ?_
    refine rC (Calm.move rfl) ?_
    refine rC (Calm.bin rfl rfl b_eql) ?_
    refine arun_nil ?_
    refine athen_n ?_
    refine AWP.sub [(0, _), (1, _), (2, _), (4, _), (5, _), (6, _), (7, _), (8, _), (17, _)] ⟨rfl, rfl, rfl, rfl, rfl, rfl, rfl, rfl, rfl, trivial⟩ ?_
    refine AWP.condT rfl (by first | rfl | (simp; done) | (simp; omega)) ?_
    refine AWP.seq ?_
    refine AWP.region ?_
    refine rC (Calm.build (cs := [_, _]) ty_bld_25 rfl rfl) ?_
    refine rC (Calm.move rfl) ?_
    first | refine ARun.storeAll rfl rfl ty_size_25 own_ rfl rfl ?_ | refine ARun.store rfl rfl ty_size_25 own_ lens_ rfl ?_
    (try simp only [Mem.set_set, List.set_cons_zero, List.set_cons_succ, Nat.zero_add, Nat.reduceAdd])
    refine rC (Calm.assign rfl) ?_
    refine arun_nil ?_
    refine athen_n ?_
    refine AWP.sub [(0, _), (1, _), (2, _), (4, _), (5, _), (6, _), (7, _), (8, _), (17, _)] ⟨rfl, rfl, rfl, rfl, rfl, rfl, rfl, rfl, rfl, trivial⟩ ?_
    refine AWP.ret ?_
    refine athen_ret ?_
    refine ⟨_, S, ⟨_, _, _, rfl, .inr ⟨ty_agg_25, [_, _], ty_size_25, rds_, rfl⟩, ⟨_, _, rfl, rfl, rfl⟩, rfl⟩, (hS1.trans ((Mem.less_set _ _ _ f2a.1).trans (Mem.less_set _ _ _ f4a.1))), ?_⟩
    exact ⟨_, _, rfl, Mem.Less.refl _, loV_nil _⟩
  · rw [hpp]
    rw [htp] at htop
    have htl := treeOf_length ks
    refine ACall.enter (args := [.agg #[.slice pa gs.length ca, .slice pt (treeOf ks).length ct], .slice px x.length cx]) (rs := [.cell 4 25, .tmp 5]) 47 [(0, .agg #[.slice pa gs.length ca, .slice pt (treeOf ks).length ct]), (1, .slice px x.length cx)] Try.func21 rfl rfl (Nat.le_of_ble_eq_true rfl) rfl ⟨rfl, rfl, trivial⟩ ?_
    refine AWP.seq ?_
    refine AWP.region ?_
    refine ARun.boxA (cs := [_, _]) (lit_lt rfl) rfl ?_
    intro b2 f2
    have g2 := f2
    repeat ((with_reducible replace g2 := fresh_set g2); obtain ⟨g2, _⟩ := g2)
    (try simp only [List.length_cons, List.length_nil, Nat.zero_add, Nat.reduceAdd])
    refine ARun.alloc (lit_lt rfl) ty_zero_25 ?_
    intro b4 f4
    have g4 := f4
    repeat ((with_reducible replace g4 := fresh_set g4); obtain ⟨g4, _⟩ := g4)
    (try simp only [List.length_cons, List.length_nil, Nat.zero_add, Nat.reduceAdd])
    refine rC (Calm.assign rfl) ?_
    refine arun_nil ?_
    refine athen_n ?_
    refine AWP.seq ?_
    refine AWP.region ?_
    refine rC (ldA_ (cs := [_, _]) ty_agg_25 ty_size_25 rfl) ?_
    refine ARun.call (lit_lt rfl) go_19 rfl ((htop.frame g2).frame f4) ?_
    rintro _ S1 ⟨S1a, ⟨S1b, ⟨v1, rfl, hS1, hv1⟩, f2a, rfl⟩, f4a, rfl⟩
    refine rC (Calm.move rfl) ?_
    refine rC (Calm.extract rfl rfl) ?_
    refine rC (Calm.extract rfl rfl) ?_
    refine rC (Calm.extract rfl rfl) ?_
    refine rC (Calm.assign rfl) ?_
    refine rC (Calm.assign rfl) ?_
    refine rC (Calm.assign rfl) ?_
    refine arun_nil ?_
    refine athen_n ?_
    refine AWP.sub [(0, _), (1, _), (2, _), (4, _), (5, _), (6, _), (7, _), (8, _)] ⟨rfl, rfl, rfl, rfl, rfl, rfl, rfl, rfl, trivial⟩ ?_
    refine AWP.seq ?_
    refine AWP.seq ?_
    refine AWP.region ?_
    refine rC (Calm.move rfl) ?_
    refine rC (Calm.bin rfl rfl b_eql) ?_
    refine arun_nil ?_
    refine athen_n ?_
    refine AWP.sub [(0, _), (1, _), (2, _), (4, _), (5, _), (6, _), (7, _), (8, _), (17, _)] ⟨rfl, rfl, rfl, rfl, rfl, rfl, rfl, rfl, rfl, trivial⟩ ?_
    refine AWP.condF rfl (by first | rfl | (simp; done) | (simp; omega)) ?_
    refine AWP.skip ?_
    refine athen_n ?_
    refine AWP.seq ?_
    refine AWP.region ?_
    refine rC (ldA_ (cs := [_, _]) ty_agg_25 ty_size_25 rfl) ?_
    refine ARun.call (lit_lt rfl) go_17 rfl (((rlosV_Copy _ _ ks (treeOf ks) S1b (hl.less hS1) (by omega) (by omega) hrow).frame f2a).frame f4a) ?_
    rintro _ S2 ⟨S2a, ⟨S2b, hcp, f2b, rfl⟩, f4b, rfl⟩
    obtain ⟨hk, ht, rfl, hS2, hlo⟩ := hcp.lo (by omega)
    obtain ⟨_, _, rfl, _⟩ := id hlo.2
    obtain ⟨_, _, ⟨_, _, rfl, _⟩, _⟩ := id hlo.1
    refine ARun.alloc (lit_lt rfl) ty_zero_25 ?_
    intro b9 f9
    have g9 := f9
    repeat ((with_reducible replace g9 := fresh_set g9); obtain ⟨g9, _⟩ := g9)
    (try simp only [List.length_cons, List.length_nil, Nat.zero_add, Nat.reduceAdd])
    first | refine ARun.storeAll rfl rfl ty_size_25 own_ rfl rfl ?_ | refine ARun.store rfl rfl ty_size_25 own_ lens_ rfl ?_
    (try simp only [Mem.set_set, List.set_cons_zero, List.set_cons_succ, Nat.zero_add, Nat.reduceAdd])
    refine arun_nil ?_
    refine athen_n ?_
    refine AWP.sub [(0, _), (1, _), (2, _), (4, _), (5, _), (6, _), (7, _), (8, _), (17, _), (9, _)] ⟨rfl, rfl, rfl, rfl, rfl, rfl, rfl, rfl, rfl, rfl, trivial⟩ ?_
    refine AWP.seq ?_
    refine AWP.seq ?_
    refine AWP.region ?_
    refine rC (Calm.move rfl) ?_
    refine rC (Calm.bin rfl rfl b_neq) ?_
    refine arun_nil ?_
    refine athen_n ?_
    refine AWP.sub [(0, _), (1, _), (2, _), (4, _), (5, _), (6, _), (7, _), (8, _), (17, _), (9, _), (23, _)] ⟨rfl, rfl, rfl, rfl, rfl, rfl, rfl, rfl, rfl, rfl, rfl, trivial⟩ ?_
    refine AWP.condT rfl (by first | rfl | (simp; done) | (simp; omega)) ?_
    have g4b := (fresh_set f4b).1
    refine AWP.seq ?_
    refine AWP.region ?_
    refine rC (ldA_ (cs := [_, _]) ty_agg_25 ty_size_25 rfl) ?_
    refine rC (Calm.move rfl) ?_
    first | refine ARun.storeAll rfl rfl ty_size_25 own_ rfl rfl ?_ | refine ARun.store rfl rfl ty_size_25 own_ lens_ rfl ?_
    (try simp only [Mem.set_set, List.set_cons_zero, List.set_cons_succ, Nat.zero_add, Nat.reduceAdd])
    refine rC (Calm.assign rfl) ?_
    refine arun_nil ?_
    refine athen_n ?_
    refine AWP.sub [(0, _), (1, _), (2, _), (4, _), (5, _), (6, _), (7, _), (8, _), (17, _), (9, _), (23, _)] ⟨rfl, rfl, rfl, rfl, rfl, rfl, rfl, rfl, rfl, rfl, rfl, trivial⟩ ?_
    refine AWP.ret ?_
    refine athen_ret ?_
    refine ⟨_, S2b, ⟨_, _, _, rfl, .inr ⟨ty_agg_25, [_, _], ty_size_25, rds_, rfl⟩, ⟨_, _, rfl, rfl, rfl⟩, rfl⟩, less_, ?_⟩
    exact ⟨_, _, rfl, hS1.trans hS2, hlo⟩
  · rw [hpp]
    rw [htp] at htop
    have htl := treeOf_length ks
    have hw := win_lt (ks := ks) (n := 1) (by decide) (by omega)
    have hlz : x.length = 0 ↔ x = [] := List.length_eq_zero_iff
    refine ACall.enter (args := [.agg #[.slice pa gs.length ca, .slice pt (treeOf ks).length ct], .slice px x.length cx]) (rs := [.cell 4 25, .tmp 5]) 47 [(0, .agg #[.slice pa gs.length ca, .slice pt (treeOf ks).length ct]), (1, .slice px x.length cx)] Try.func21 rfl rfl (Nat.le_of_ble_eq_true rfl) rfl ⟨rfl, rfl, trivial⟩ ?_
    refine AWP.seq ?_
    refine AWP.region ?_
    refine ARun.boxA (cs := [_, _]) (lit_lt rfl) rfl ?_
    intro b2 f2
    have g2 := f2
    repeat ((with_reducible replace g2 := fresh_set g2); obtain ⟨g2, _⟩ := g2)
    (try simp only [List.length_cons, List.length_nil, Nat.zero_add, Nat.reduceAdd])
    refine ARun.alloc (lit_lt rfl) ty_zero_25 ?_
    intro b4 f4
    have g4 := f4
    repeat ((with_reducible replace g4 := fresh_set g4); obtain ⟨g4, _⟩ := g4)
    (try simp only [List.length_cons, List.length_nil, Nat.zero_add, Nat.reduceAdd])
    refine rC (Calm.assign rfl) ?_
    refine arun_nil ?_
    refine athen_n ?_
    refine AWP.seq ?_
    refine AWP.region ?_
    refine rC (ldA_ (cs := [_, _]) ty_agg_25 ty_size_25 rfl) ?_
    refine ARun.call (lit_lt rfl) go_19 rfl ((htop.frame g2).frame f4) ?_
    rintro _ S1 ⟨S1a, ⟨S1b, ⟨v1, rfl, hS1, hv1⟩, f2a, rfl⟩, f4a, rfl⟩
    refine rC (Calm.move rfl) ?_
    refine rC (Calm.extract rfl rfl) ?_
    refine rC (Calm.extract rfl rfl) ?_
    refine rC (Calm.extract rfl rfl) ?_
    refine rC (Calm.assign rfl) ?_
    refine rC (Calm.assign rfl) ?_
    refine rC (Calm.assign rfl) ?_
    refine arun_nil ?_
    refine athen_n ?_
    refine AWP.sub [(0, _), (1, _), (2, _), (4, _), (5, _), (6, _), (7, _), (8, _)] ⟨rfl, rfl, rfl, rfl, rfl, rfl, rfl, rfl, trivial⟩ ?_
    refine AWP.seq ?_
    refine AWP.seq ?_
    refine AWP.region ?_
    refine rC (Calm.move rfl) ?_
    refine rC (Calm.bin rfl rfl b_eql) ?_
    refine arun_nil ?_
    refine athen_n ?_
    refine AWP.sub [(0, _), (1, _), (2, _), (4, _), (5, _), (6, _), (7, _), (8, _), (17, _)] ⟨rfl, rfl, rfl, rfl, rfl, rfl, rfl, rfl, rfl, trivial⟩ ?_
    refine AWP.condF rfl (by first | rfl | (simp; done) | (simp; omega)) ?_
    refine AWP.skip ?_
    refine athen_n ?_
    refine AWP.seq ?_
    refine AWP.region ?_
    refine rC (ldA_ (cs := [_, _]) ty_agg_25 ty_size_25 rfl) ?_
    refine ARun.call (lit_lt rfl) go_17 rfl (((rlosV_Copy _ _ ks (treeOf ks) S1b (hl.less hS1) (by omega) (by omega) hrow).frame f2a).frame f4a) ?_
    rintro _ S2 ⟨S2a, ⟨S2b, ⟨M, o, hs, tv, hI, htv, rfl, rfl⟩, f2b, rfl⟩, f4b, rfl⟩
    have hil := hI.len
    obtain ⟨bo, co, rfl⟩ := hI.ok.some (by omega)
    obtain ⟨pt2, ct2, rfl, _⟩ := id htv
    have hor := hI.ok.own bo co rfl
    have hhs := hI.slOf (e := 32) rowR_less (by omega)
    rw [hil] at hhs hor
    simp only [outM, outV] at hhs f2b f4b ⊢
    obtain ⟨g4b, n42⟩ := fresh_set f4b
    obtain ⟨g4M, n4o⟩ := fresh_set g4b
    obtain ⟨g2M, n2o⟩ := fresh_set f2b
    have hfo := hor.1
    refine ARun.alloc (lit_lt rfl) ty_zero_25 ?_
    intro b9 f9
    have g9 := f9
    repeat ((with_reducible replace g9 := fresh_set g9); obtain ⟨g9, _⟩ := g9)
    (try simp only [List.length_cons, List.length_nil, Nat.zero_add, Nat.reduceAdd])
    first | refine ARun.storeAll rfl rfl ty_size_25 own_ rfl rfl ?_ | refine ARun.store rfl rfl ty_size_25 own_ lens_ rfl ?_
    (try simp only [Mem.set_set, List.set_cons_zero, List.set_cons_succ, Nat.zero_add, Nat.reduceAdd])
    refine arun_nil ?_
    refine athen_n ?_
    refine AWP.sub [(0, _), (1, _), (2, _), (4, _), (5, _), (6, _), (7, _), (8, _), (17, _), (9, _)] ⟨rfl, rfl, rfl, rfl, rfl, rfl, rfl, rfl, rfl, rfl, trivial⟩ ?_
    have n9o : b9 ≠ bo := by assumption
    have n94 : b9 ≠ b4 := by assumption
    have f9 := fresh_more (r := ⟨32, hs, co⟩) g9 n9o
    have f49 := fresh_more (r := ⟨25, [.slice (some ⟨bo, 0, none⟩) ks.length co, .slice pt2 (treeOf ks).length ct2], 2⟩) g4b (Ne.symm n94)
    have hMmem : M.Less (((M.set bo ⟨32, hs, co⟩).set b9 ⟨25, [.slice (some ⟨bo, 0, none⟩) ks.length co, .slice pt2 (treeOf ks).length ct2], 2⟩).set b4 ⟨25, [.slice none 0 0, .slice none 0 0], 2⟩) := (Mem.less_set _ _ _ hfo.1).trans ((Mem.less_set _ _ _ f9.1).trans (Mem.less_set _ _ _ f49.1))
    refine AWP.less (((M.set bo ⟨32, hs, co⟩).set b9 ⟨25, [.slice (some ⟨bo, 0, none⟩) ks.length co, .slice pt2 (treeOf ks).length ct2], 2⟩).set b4 ⟨25, [.slice none 0 0, .slice none 0 0], 2⟩) less_ ?_
    refine AWP.seq ?_
    refine AWP.seq ?_
    refine AWP.region ?_
    refine rC (Calm.move rfl) ?_
    refine rC (Calm.bin rfl rfl b_neq) ?_
    refine arun_nil ?_
    refine athen_n ?_
    refine AWP.sub [(0, _), (1, _), (2, _), (4, _), (5, _), (6, _), (7, _), (8, _), (17, _), (9, _), (23, _)] ⟨rfl, rfl, rfl, rfl, rfl, rfl, rfl, rfl, rfl, rfl, rfl, trivial⟩ ?_
    refine AWP.condF rfl (by first | rfl | (simp; done) | (simp; omega)) ?_
    have hlo : LoV (M.set bo ⟨32, hs, co⟩) (.slice (some ⟨bo, 0, none⟩) ks.length co) (.slice pt2 (treeOf ks).length ct2) ks (treeOf ks) := ⟨hhs, htv.less (Mem.less_set _ _ _ hfo.1)⟩
    have hlS : S.Less (M.set bo ⟨32, hs, co⟩) := (hS1.trans hI.less).trans (Mem.less_set _ _ _ hfo.1)
    by_cases hx0 : x.length = 0
    · rw [if_neg (fun h => h.1 (hlz.1 hx0))]
      refine AWP.skip ?_
      refine athen_n ?_
      refine AWP.seq ?_
      refine AWP.seq ?_
      refine AWP.region ?_
      refine rC (Calm.move rfl) ?_
      refine rC (Calm.lenSl Try.underlying32 rfl) ?_
      refine rC (Calm.bin rfl rfl b_gtr) ?_
      refine rC (Calm.move rfl) ?_
      first | refine rS 29 ?_ | refine rU 29 ?_ | refine rG 29 (Calm.move rfl) ?_
      first | refine rS 29 ?_ | refine rU 29 ?_ | refine rG 29 (Calm.move rfl) ?_
      first | refine rS 29 ?_ | refine rU 29 ?_
      refine rC ((by first | exact Calm.pickT rfl rfl | exact Calm.pickF rfl rfl)) ?_
      refine arun_nil ?_
      refine athen_n ?_
      refine AWP.sub [(0, _), (1, _), (2, _), (4, _), (5, _), (6, _), (7, _), (8, _), (17, _), (9, _), (23, _), (33, _)] ⟨rfl, rfl, rfl, rfl, rfl, rfl, rfl, rfl, rfl, rfl, rfl, rfl, trivial⟩ ?_
      refine AWP.condF rfl (by first | rfl | (simp; done) | (simp; omega)) ?_
      refine AWP.skip ?_
      refine athen_n ?_
      refine AWP.seq ?_
      refine AWP.draw [(0, true), (1, true), (2, true), (4, true), (3, false), (5, false), (6, true), (7, false)] [7] mixed (by kernel_rfl) ?_
      refine draw_pure rfl rfl rfl rfl (lit_lt rfl) (fun _ => Calm.fieldAddr ty_field_25_0 rfl) ?_
      refine draw_calm rfl rfl rfl (lit_lt rfl) less_ (fun S' hS' => by obtain rfl := hS'.resolve_left (by decide); exact ld_ ty_plain_22 rfl) ?_
      refine draw_pure rfl rfl rfl rfl (lit_lt rfl) (fun _ => Calm.move rfl) ?_
      refine draw_pure rfl rfl rfl rfl (lit_lt rfl) (fun _ => Calm.move rfl) ?_
      refine draw_only rfl ?_
      refine ARun.build0 (lit_lt rfl) ty_sl_32 ?_
      intro b38 f38
      have g38 := f38
      repeat ((with_reducible replace g38 := fresh_set g38); obtain ⟨g38, _⟩ := g38)
      refine arun_nil ⟨fun _ => less_, ?_⟩
      refine draw_only rfl ?_
      refine ARun.appendClone (g := fun n : Nat => Value.int .u64 (n : Int)) (lit_lt rfl) ty_sl_32 rfl own_ (set_del_same' (del_base f38)) rfl (rowR_less _ _ _ _ hx ((hS1.trans hI.less).trans hMmem)) (fun _ => rfl) (by omega) ?_
      intro vc S5 hcl
      have hcl5 := hcl.less
      obtain ⟨M3, hcl3, f43, rfl⟩ := clone_in hcl f49
      obtain ⟨M2, hcl2, f93, rfl⟩ := clone_in hcl3 f9
      obtain ⟨M1, hcl1, fo1, rfl⟩ := clone_in hcl2 hfo
      have hM1 := hcl1.less
      have hvc : RowR M1 vc x := hcl1.sl (by omega)
      obtain ⟨pc, cc, rfl, _⟩ := id hvc
      refine arun_nil ⟨fun _ => less_, ?_⟩
      refine draw_pure rfl rfl rfl rfl (lit_lt rfl) (fun _ => Calm.indexS Try.underlying22 ty_size_32 rfl rfl (by omega) (by omega)) ?_
      refine draw_only rfl ?_
      refine ARun.store1 rfl rfl ty_size_32 rfl own_ lens_ rfl ?_
      (try simp only [Mem.set_set, List.set_cons_zero, List.set_cons_succ, Nat.zero_add, Nat.reduceAdd])
      refine arun_nil ⟨fun h => absurd h (by decide), ?_⟩
      refine draw_nil ?_
      refine athen_n ?_
      refine AWP.sub [(0, _), (1, _), (2, _), (4, _), (5, _), (6, _), (7, _), (8, _), (17, _), (9, _), (23, _), (33, _)] ⟨rfl, rfl, rfl, rfl, rfl, rfl, rfl, rfl, rfl, rfl, rfl, rfl, trivial⟩ ?_
      simp only [Nat.zero_add, Nat.mul_one, Int.toNat_natCast]
      have hr2 := rows_set (w := win ks 1) (fun i h h' => rowR_less _ _ _ _ (hI.at_ i h h') hM1) hvc
      have hmem2 : Mem.Less (((M1.set bo ⟨32, hs.set (win ks 1) (.slice pc x.length cc), co⟩).set b9 ⟨25, [.slice (some ⟨bo, 0, none⟩) ks.length co, .slice pt2 (treeOf ks).length ct2], 2⟩).set b4 ⟨25, [.slice none 0 0, .slice none 0 0], 2⟩) ((((M1.set bo ⟨32, hs, co⟩).set b9 ⟨25, [.slice (some ⟨bo, 0, none⟩) ks.length co, .slice pt2 (treeOf ks).length ct2], 2⟩).set b4 ⟨25, [.slice none 0 0, .slice none 0 0], 2⟩).set bo ⟨32, hs.set (win ks 1) (.slice pc x.length cc), co⟩) := less_
      refine AWP.less _ hmem2 ?_
      have hks2 : SlOf RowR (M1.set bo ⟨32, hs.set (win ks 1) (.slice pc x.length cc), co⟩) (.slice (some ⟨bo, 0, none⟩) ks.length co) (ks.set (win ks 1) x) := ⟨hs.set (win ks 1) (.slice pc x.length cc), by simp [hil], Sl.own1 (g := fun x : Value => x) (r := ⟨32, hs.set (win ks 1) (.slice pc x.length cc), co⟩) (Mem.own_set_same _ _ _) (by simp) (by simp [hil]) hor.2 (by omega), fun i h1 h2 => rowR_less _ _ _ _ (hr2 i h1 h2) (Mem.less_set _ _ _ fo1.1)⟩
      have hfx9 := fresh_more (r := ⟨32, hs.set (win ks 1) (.slice pc x.length cc), co⟩) (fresh_set f93).1 n9o
      have hfx4 := fresh_more (r := ⟨25, [.slice (some ⟨bo, 0, none⟩) ks.length co, .slice pt2 (treeOf ks).length ct2], 2⟩) (fresh_more (r := ⟨32, hs.set (win ks 1) (.slice pc x.length cc), co⟩) (fresh_set (fresh_set f43).1).1 n4o) (Ne.symm n94)
      refine AWP.seq ?_
      refine AWP.region ?_
      refine rC (Calm.fieldAddr ty_field_25_0 rfl) ?_
      refine rC (ld_ ty_plain_22 rfl) ?_
      refine ARun.call (lit_lt rfl) go_47 rfl (((rlosV_tree _ (ks.set (win ks 1) x) _ hks2 (by simp; omega) (by simp; omega)).frame hfx9).frame hfx4) ?_
      rintro _ S6 ⟨S6a, ⟨S6b, ⟨q, fq, rfl, rfl⟩, f9q, rfl⟩, f4q, rfl⟩
      have hlo2 : LoV ((M1.set bo ⟨32, hs.set (win ks 1) (.slice pc x.length cc), co⟩).set q (intB (treeOf (ks.set (win ks 1) x)) (ks.set (win ks 1) x).length)) (.slice (some ⟨bo, 0, none⟩) ks.length co) (.slice (some ⟨q, 0, none⟩) (ks.set (win ks 1) x).length (ks.set (win ks 1) x).length) (ks.set (win ks 1) x) (treeOf (ks.set (win ks 1) x)) := ⟨hks2.less rowR_less (Mem.less_set _ _ _ fq.1), sl_intB (Mem.own_set_same _ _ _) (treeOf_length _) (Nat.le_refl _) (by simp; omega)⟩
      have hl2 : S.Less ((M1.set bo ⟨32, hs.set (win ks 1) (.slice pc x.length cc), co⟩).set q (intB (treeOf (ks.set (win ks 1) x)) (ks.set (win ks 1) x).length)) := (hS1.trans hI.less).trans (hM1.trans ((Mem.less_set _ _ _ fo1.1).trans (Mem.less_set _ _ _ fq.1)))
      have g4q := (fresh_set f4q).1
      refine rC (Calm.fieldAddr ty_field_25_1 rfl) ?_
      refine ARun.store1 rfl rfl ty_size_23 rfl own_ lens_ rfl ?_
      (try simp only [Mem.set_set, List.set_cons_zero, List.set_cons_succ, Nat.zero_add, Nat.reduceAdd])
      refine arun_nil ?_
      refine athen_n ?_
      refine AWP.sub [(0, _), (1, _), (2, _), (4, _), (5, _), (6, _), (7, _), (8, _), (17, _), (9, _), (23, _), (33, _)] ⟨rfl, rfl, rfl, rfl, rfl, rfl, rfl, rfl, rfl, rfl, rfl, rfl, trivial⟩ ?_
      refine AWP.seq ?_
      refine AWP.region ?_
      refine rC (ldA_ (cs := [_, _]) ty_agg_25 ty_size_25 rfl) ?_
      first | refine ARun.storeAll rfl rfl ty_size_25 own_ rfl rfl ?_ | refine ARun.store rfl rfl ty_size_25 own_ lens_ rfl ?_
      (try simp only [Mem.set_set, List.set_cons_zero, List.set_cons_succ, Nat.zero_add, Nat.reduceAdd])
      refine rC (Calm.assign rfl) ?_
      refine arun_nil ?_
      refine athen_n ?_
      refine AWP.sub [(0, _), (1, _), (2, _), (4, _), (5, _), (6, _), (7, _), (8, _), (17, _), (9, _), (23, _), (33, _)] ⟨rfl, rfl, rfl, rfl, rfl, rfl, rfl, rfl, rfl, rfl, rfl, rfl, trivial⟩ ?_
      refine AWP.ret ?_
      refine ⟨_, ((M1.set bo ⟨32, hs.set (win ks 1) (.slice pc x.length cc), co⟩).set q (intB (treeOf (ks.set (win ks 1) x)) (ks.set (win ks 1) x).length)), ⟨_, _, _, rfl, .inr ⟨ty_agg_25, [_, _], ty_size_25, rds_, rfl⟩, ⟨_, _, rfl, rfl, rfl⟩, rfl⟩, less_, ?_⟩
      exact ⟨_, _, rfl, hl2, hlo2⟩
    · refine AWP.skip ?_
      refine athen_n ?_
      refine AWP.seq ?_
      refine AWP.seq ?_
      refine AWP.region ?_
      refine rC (Calm.move rfl) ?_
      refine rC (Calm.lenSl Try.underlying32 rfl) ?_
      refine rC (Calm.bin rfl rfl b_gtr) ?_
      refine rC (Calm.move rfl) ?_
      first | refine rS 29 ?_ | refine rU 29 ?_ | refine rG 29 (Calm.move rfl) ?_
      first | refine rS 29 ?_ | refine rU 29 ?_ | refine rG 29 (Calm.move rfl) ?_
      refine ARun.callG 3 true 29 rfl (lit_lt rfl) rfl (lit_lt rfl) go_53 rfl (rnumV_Less x (key ks (win ks 1)) _ _ _ (rowR_less _ _ _ _ hx ((hS1.trans hI.less).trans hMmem)) (rowR_less _ _ _ _ hv1 (hI.less.trans hMmem))) ?_
      rintro _ S4 ⟨rfl, h1⟩
      rw [h1]; clear h1 S4
      refine rC ((by first | exact Calm.pickT rfl rfl | exact Calm.pickF rfl rfl)) ?_
      refine arun_nil ?_
      refine athen_n ?_
      refine AWP.sub [(0, _), (1, _), (2, _), (4, _), (5, _), (6, _), (7, _), (8, _), (17, _), (9, _), (23, _), (33, _)] ⟨rfl, rfl, rfl, rfl, rfl, rfl, rfl, rfl, rfl, rfl, rfl, rfl, trivial⟩ ?_
      rcases Bool.eq_false_or_eq_true (lessB x (key ks (win ks 1))) with hb | hb
      · refine AWP.condT rfl (hb) ?_
        rw [if_pos ⟨fun e => hx0 (hlz.2 e), hb⟩]
        refine AWP.seq ?_
        refine AWP.region ?_
        refine rC (ldA_ (cs := [_, _]) ty_agg_25 ty_size_25 rfl) ?_
        first | refine ARun.storeAll rfl rfl ty_size_25 own_ rfl rfl ?_ | refine ARun.store rfl rfl ty_size_25 own_ lens_ rfl ?_
        (try simp only [Mem.set_set, List.set_cons_zero, List.set_cons_succ, Nat.zero_add, Nat.reduceAdd])
        refine rC (Calm.assign rfl) ?_
        refine arun_nil ?_
        refine athen_n ?_
        refine AWP.sub [(0, _), (1, _), (2, _), (4, _), (5, _), (6, _), (7, _), (8, _), (17, _), (9, _), (23, _), (33, _)] ⟨rfl, rfl, rfl, rfl, rfl, rfl, rfl, rfl, rfl, rfl, rfl, rfl, trivial⟩ ?_
        refine AWP.ret ?_
        refine athen_ret ?_
        refine ⟨_, M.set bo ⟨32, hs, co⟩, ⟨_, _, _, rfl, .inr ⟨ty_agg_25, [_, _], ty_size_25, rds_, rfl⟩, ⟨_, _, rfl, rfl, rfl⟩, rfl⟩, less_, ?_⟩
        exact ⟨_, _, rfl, hlS, hlo⟩
      · refine AWP.condF rfl (hb) ?_
        rw [if_neg (fun h => by rw [hb] at h; exact absurd h.2 (by simp))]
        refine AWP.skip ?_
        refine athen_n ?_
        refine AWP.seq ?_
        refine AWP.draw [(0, true), (1, true), (2, true), (4, true), (3, false), (5, false), (6, true), (7, false)] [7] mixed (by kernel_rfl) ?_
        refine draw_pure rfl rfl rfl rfl (lit_lt rfl) (fun _ => Calm.fieldAddr ty_field_25_0 rfl) ?_
        refine draw_calm rfl rfl rfl (lit_lt rfl) less_ (fun S' hS' => by obtain rfl := hS'.resolve_left (by decide); exact ld_ ty_plain_22 rfl) ?_
        refine draw_pure rfl rfl rfl rfl (lit_lt rfl) (fun _ => Calm.move rfl) ?_
        refine draw_pure rfl rfl rfl rfl (lit_lt rfl) (fun _ => Calm.move rfl) ?_
        refine draw_only rfl ?_
        refine ARun.build0 (lit_lt rfl) ty_sl_32 ?_
        intro b38 f38
        have g38 := f38
        repeat ((with_reducible replace g38 := fresh_set g38); obtain ⟨g38, _⟩ := g38)
        refine arun_nil ⟨fun _ => less_, ?_⟩
        refine draw_only rfl ?_
        refine ARun.appendClone (g := fun n : Nat => Value.int .u64 (n : Int)) (lit_lt rfl) ty_sl_32 rfl own_ (set_del_same' (del_base f38)) rfl (rowR_less _ _ _ _ hx ((hS1.trans hI.less).trans hMmem)) (fun _ => rfl) (by omega) ?_
        intro vc S5 hcl
        have hcl5 := hcl.less
        obtain ⟨M3, hcl3, f43, rfl⟩ := clone_in hcl f49
        obtain ⟨M2, hcl2, f93, rfl⟩ := clone_in hcl3 f9
        obtain ⟨M1, hcl1, fo1, rfl⟩ := clone_in hcl2 hfo
        have hM1 := hcl1.less
        have hvc : RowR M1 vc x := hcl1.sl (by omega)
        obtain ⟨pc, cc, rfl, _⟩ := id hvc
        refine arun_nil ⟨fun _ => less_, ?_⟩
        refine draw_pure rfl rfl rfl rfl (lit_lt rfl) (fun _ => Calm.indexS Try.underlying22 ty_size_32 rfl rfl (by omega) (by omega)) ?_
        refine draw_only rfl ?_
        refine ARun.store1 rfl rfl ty_size_32 rfl own_ lens_ rfl ?_
        (try simp only [Mem.set_set, List.set_cons_zero, List.set_cons_succ, Nat.zero_add, Nat.reduceAdd])
        refine arun_nil ⟨fun h => absurd h (by decide), ?_⟩
        refine draw_nil ?_
        refine athen_n ?_
        refine AWP.sub [(0, _), (1, _), (2, _), (4, _), (5, _), (6, _), (7, _), (8, _), (17, _), (9, _), (23, _), (33, _)] ⟨rfl, rfl, rfl, rfl, rfl, rfl, rfl, rfl, rfl, rfl, rfl, rfl, trivial⟩ ?_
        simp only [Nat.zero_add, Nat.mul_one, Int.toNat_natCast]
        have hr2 := rows_set (w := win ks 1) (fun i h h' => rowR_less _ _ _ _ (hI.at_ i h h') hM1) hvc
        have hmem2 : Mem.Less (((M1.set bo ⟨32, hs.set (win ks 1) (.slice pc x.length cc), co⟩).set b9 ⟨25, [.slice (some ⟨bo, 0, none⟩) ks.length co, .slice pt2 (treeOf ks).length ct2], 2⟩).set b4 ⟨25, [.slice none 0 0, .slice none 0 0], 2⟩) ((((M1.set bo ⟨32, hs, co⟩).set b9 ⟨25, [.slice (some ⟨bo, 0, none⟩) ks.length co, .slice pt2 (treeOf ks).length ct2], 2⟩).set b4 ⟨25, [.slice none 0 0, .slice none 0 0], 2⟩).set bo ⟨32, hs.set (win ks 1) (.slice pc x.length cc), co⟩) := less_
        refine AWP.less _ hmem2 ?_
        have hks2 : SlOf RowR (M1.set bo ⟨32, hs.set (win ks 1) (.slice pc x.length cc), co⟩) (.slice (some ⟨bo, 0, none⟩) ks.length co) (ks.set (win ks 1) x) := ⟨hs.set (win ks 1) (.slice pc x.length cc), by simp [hil], Sl.own1 (g := fun x : Value => x) (r := ⟨32, hs.set (win ks 1) (.slice pc x.length cc), co⟩) (Mem.own_set_same _ _ _) (by simp) (by simp [hil]) hor.2 (by omega), fun i h1 h2 => rowR_less _ _ _ _ (hr2 i h1 h2) (Mem.less_set _ _ _ fo1.1)⟩
        have hfx9 := fresh_more (r := ⟨32, hs.set (win ks 1) (.slice pc x.length cc), co⟩) (fresh_set f93).1 n9o
        have hfx4 := fresh_more (r := ⟨25, [.slice (some ⟨bo, 0, none⟩) ks.length co, .slice pt2 (treeOf ks).length ct2], 2⟩) (fresh_more (r := ⟨32, hs.set (win ks 1) (.slice pc x.length cc), co⟩) (fresh_set (fresh_set f43).1).1 n4o) (Ne.symm n94)
        refine AWP.seq ?_
        refine AWP.region ?_
        refine rC (Calm.fieldAddr ty_field_25_0 rfl) ?_
        refine rC (ld_ ty_plain_22 rfl) ?_
        refine ARun.call (lit_lt rfl) go_47 rfl (((rlosV_tree _ (ks.set (win ks 1) x) _ hks2 (by simp; omega) (by simp; omega)).frame hfx9).frame hfx4) ?_
        rintro _ S6 ⟨S6a, ⟨S6b, ⟨q, fq, rfl, rfl⟩, f9q, rfl⟩, f4q, rfl⟩
        have hlo2 : LoV ((M1.set bo ⟨32, hs.set (win ks 1) (.slice pc x.length cc), co⟩).set q (intB (treeOf (ks.set (win ks 1) x)) (ks.set (win ks 1) x).length)) (.slice (some ⟨bo, 0, none⟩) ks.length co) (.slice (some ⟨q, 0, none⟩) (ks.set (win ks 1) x).length (ks.set (win ks 1) x).length) (ks.set (win ks 1) x) (treeOf (ks.set (win ks 1) x)) := ⟨hks2.less rowR_less (Mem.less_set _ _ _ fq.1), sl_intB (Mem.own_set_same _ _ _) (treeOf_length _) (Nat.le_refl _) (by simp; omega)⟩
        have hl2 : S.Less ((M1.set bo ⟨32, hs.set (win ks 1) (.slice pc x.length cc), co⟩).set q (intB (treeOf (ks.set (win ks 1) x)) (ks.set (win ks 1) x).length)) := (hS1.trans hI.less).trans (hM1.trans ((Mem.less_set _ _ _ fo1.1).trans (Mem.less_set _ _ _ fq.1)))
        have g4q := (fresh_set f4q).1
        refine rC (Calm.fieldAddr ty_field_25_1 rfl) ?_
        refine ARun.store1 rfl rfl ty_size_23 rfl own_ lens_ rfl ?_
        (try simp only [Mem.set_set, List.set_cons_zero, List.set_cons_succ, Nat.zero_add, Nat.reduceAdd])
        refine arun_nil ?_
        refine athen_n ?_
        refine AWP.sub [(0, _), (1, _), (2, _), (4, _), (5, _), (6, _), (7, _), (8, _), (17, _), (9, _), (23, _), (33, _)] ⟨rfl, rfl, rfl, rfl, rfl, rfl, rfl, rfl, rfl, rfl, rfl, rfl, trivial⟩ ?_
        refine AWP.seq ?_
        refine AWP.region ?_
        refine rC (ldA_ (cs := [_, _]) ty_agg_25 ty_size_25 rfl) ?_
        first | refine ARun.storeAll rfl rfl ty_size_25 own_ rfl rfl ?_ | refine ARun.store rfl rfl ty_size_25 own_ lens_ rfl ?_
        (try simp only [Mem.set_set, List.set_cons_zero, List.set_cons_succ, Nat.zero_add, Nat.reduceAdd])
        refine rC (Calm.assign rfl) ?_
        refine arun_nil ?_
        refine athen_n ?_
        refine AWP.sub [(0, _), (1, _), (2, _), (4, _), (5, _), (6, _), (7, _), (8, _), (17, _), (9, _), (23, _), (33, _)] ⟨rfl, rfl, rfl, rfl, rfl, rfl, rfl, rfl, rfl, rfl, rfl, rfl, trivial⟩ ?_
        refine AWP.ret ?_
        refine ⟨_, ((M1.set bo ⟨32, hs.set (win ks 1) (.slice pc x.length cc), co⟩).set q (intB (treeOf (ks.set (win ks 1) x)) (ks.set (win ks 1) x).length)), ⟨_, _, _, rfl, .inr ⟨ty_agg_25, [_, _], ty_size_25, rds_, rfl⟩, ⟨_, _, rfl, rfl, rfl⟩, rfl⟩, less_, ?_⟩
        exact ⟨_, _, rfl, hl2, hlo2⟩
end Go.Proofs.Ytddabbfjoejalaa
