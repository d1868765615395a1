/-
  Loser: the answers that each law asks for first; the laws LoserMakes, LoserPuts.
-/
import Derived.Test.YtddabbfjoejalaaVLos7
namespace Go.Proofs.Ytddabbfjoejalaa
open Go.RowKit
open Mv Num Loser
set_option linter.unusedVariables false
set_option linter.unusedSimpArgs false
set_option maxRecDepth 4000
theorem LoV.slices {S : Mem} {hk ht : Value} {ks : List (List Nat)} {tr : List Int} (h : LoV S hk ht ks tr) : ∃ pa ca pt ct, hk = .slice pa ks.length ca ∧ ht = .slice pt tr.length ct := by
  obtain ⟨pt, ct, e1, _⟩ := h.2
  obtain ⟨gs, hgl, ⟨pa, ca, e2, _⟩, _⟩ := h.1
  exact ⟨pa, ca, pt, ct, by rw [e2, hgl], e1⟩
theorem LosR.slices {p : List (List Nat) × List Int × Int} {S S' : Mem} {r : Value} (h : LosR p S r S') : ∃ pa ca pt ct, r = .tuple #[.agg #[.slice pa p.1.length ca, .slice pt p.2.1.length ct], .int .i64 p.2.2] ∧ S.Less S' ∧ LoV S' (.slice pa p.1.length ca) (.slice pt p.2.1.length ct) p.1 p.2.1 := by
  obtain ⟨hk, ht, rfl, hl, hlo⟩ := h
  obtain ⟨pa, ca, pt, ct, rfl, rfl⟩ := hlo.slices
  exact ⟨pa, ca, pt, ct, rfl, hl, hlo⟩
theorem SlOf.of_own {S : Mem} {b : Nat} {e : TypeId} {n m : Nat} {ks : List (List Nat)} (hs : List Value) (hb : S.own b = some ⟨e, hs, m⟩) (h1 : hs.length = ks.length) (h2 : hs.length = n) (h3 : n ≤ 17592186043904) (hr : ∀ i (h : i < ks.length) (h' : i < hs.length), RowR S hs[i] ks[i]) : SlOf RowR S (.slice (some ⟨b, 0, none⟩) n n) ks :=
  ⟨hs, h1, Sl.own1 (g := fun x : Value => x) hb (by simp) h2 (Nat.le_refl _) (by omega), hr⟩
theorem rows3 {S : Mem} {a b c : Value} {x y z : List Nat} (ha : RowR S a x) (hb : RowR S b y) (hc : RowR S c z) : ∀ i (h : i < [x, y, z].length) (h' : i < [a, b, c].length), RowR S [a, b, c][i] [x, y, z][i] := fun i h h' => by
  match i, h with
  | 0, _ => exact ha
  | 1, _ => exact hb
  | 2, _ => exact hc
theorem rows1 {S : Mem} {a : Value} {x : List Nat} (ha : RowR S a x) : ∀ i (h : i < [x].length) (h' : i < [a].length), RowR S [a][i] [x][i] := fun i h h' => by
  match i, h with
  | 0, _ => exact ha
theorem named {P : Program} {N : Nat} {c : Code} {Q : Exit → Env → Mem → Prop} {E : Env} {S : Mem} {b : Nat} {r : Blk} (hb : S.own b = none) (h : ∀ T, S.Less T → T.own b = some r → AWP P N c Q E T) : AWP P N c Q E (S.set b r) :=
  h _ (Mem.less_set S b r hb) (Mem.own_set_same S b r)
set_option maxHeartbeats 4000000 in
theorem losV_lives (S : Mem) : ACall Try.prog 15 #[] S fun r S' => r = .bool true ∧ S' = S := by
  have e1 : makeP [[5], [3], [4]] = ([[5], [3], [4]], treeOf [[5], [3], [4]], 0) := by kernel_rfl
  have e2 : topP [[5], [3], [4]] (treeOf [[5], [3], [4]]) = (1, [3], 0) := by kernel_rfl
  have e3 : putP [[5], [3], [4]] (treeOf [[5], [3], [4]]) [] = ([[5], [], [4]], treeOf [[5], [], [4]], 0) := by kernel_rfl
  have e4 : topP [[5], [], [4]] (treeOf [[5], [], [4]]) = (2, [4], 0) := by kernel_rfl
  have e5 : putP [[5], [3], [4]] (treeOf [[5], [3], [4]]) [2] = ([[5], [3], [4]], treeOf [[5], [3], [4]], 12) := by kernel_rfl
  have e6 : pathP [[5], [3], [4]] (treeOf [[5], [3], [4]]) 0 = ([1], 0) := by kernel_rfl
  have e7 : makeP [] = ([], [], 1) := by kernel_rfl
  have e8 : makeP [[]] = ([[]], treeOf [[]], 0) := by kernel_rfl
  have e9 : topP [[]] (treeOf [[]]) = (0, [], 3) := by kernel_rfl
  have e10 : chkP [[5], [], [4]] (treeOf [[5], [], [4]]) = 0 := by kernel_rfl
  have hrow3 : ∀ y ∈ [[5], [3], [4]], y.length ≤ 17592186043904 := by decide
  have hrow4 : ∀ y ∈ [[5], [], [4]], y.length ≤ 17592186043904 := by decide
  have hrow1 : ∀ y ∈ ([[]] : List (List Nat)), y.length ≤ 17592186043904 := by decide
  refine ACall.enter (args := []) (rs := [.tmp 0]) 142 [] Try.func15 rfl rfl (Nat.le_of_ble_eq_true rfl) rfl trivial ?_
  refine AWP.seq ?_
  refine AWP.region ?_
  refine rC (Calm.assign rfl) ?_
  refine arun_nil ?_
  refine athen_n ?_
  refine AWP.seq ?_
  refine AWP.region ?_
  refine ARun.build1s (lit_lt rfl) ty_sl_32 rfl rfl ?_
  intro b23 f23
  have g23 := f23
  repeat ((with_reducible replace g23 := fresh_set g23); obtain ⟨g23, _⟩ := g23)
  refine ARun.build1s (lit_lt rfl) ty_sl_32 rfl rfl ?_
  intro b24 f24
  have g24 := f24
  repeat ((with_reducible replace g24 := fresh_set g24); obtain ⟨g24, _⟩ := g24)
  refine ARun.build1s (lit_lt rfl) ty_sl_32 rfl rfl ?_
  intro b25 f25
  have g25 := f25
  repeat ((with_reducible replace g25 := fresh_set g25); obtain ⟨g25, _⟩ := g25)
  refine ARun.buildN (cs := [_, _, _]) (lit_lt rfl) ty_sl_22 rfl rfl rfl rfl ?_
  intro b26 f26
  have g26 := f26
  repeat ((with_reducible replace g26 := fresh_set g26); obtain ⟨g26, _⟩ := g26)
  refine ARun.call (lit_lt rfl) go_13 rfl (losV_Make _ [[5], [3], [4]] _ (SlOf.of_own [.slice (some ⟨b23, 0, none⟩) 1 1, .slice (some ⟨b24, 0, none⟩) 1 1, .slice (some ⟨b25, 0, none⟩) 1 1] own_ rfl rfl (by decide) (rows3 (sl_u64 (l := [5]) own_ rfl (Nat.le_refl _) (by decide)) (sl_u64 (l := [3]) own_ rfl (Nat.le_refl _) (by decide)) (sl_u64 (l := [4]) own_ rfl (Nat.le_refl _) (by decide)))) hrow3) ?_
  rintro _ S1 hr1
  rw [e1] at hr1
  obtain ⟨pa1, ca1, pt1, ct1, rfl, hS1, hlo1⟩ := hr1.slices
  have hST : S.Less S1 := Mem.Less.trans less_ hS1
  refine rC (Calm.move rfl) ?_
  refine rC (Calm.extract rfl rfl) ?_
  refine rC (Calm.extract rfl rfl) ?_
  refine ARun.alloc (lit_lt rfl) ty_zero_25 ?_
  intro b1 f1
  have g1 := f1
  repeat ((with_reducible replace g1 := fresh_set g1); obtain ⟨g1, _⟩ := g1)
  (try simp only [List.length_cons, List.length_nil, Nat.zero_add, Nat.reduceAdd])
  first | refine ARun.storeAll rfl rfl ty_size_25 own_ rfl rfl ?_ | refine ARun.store rfl rfl ty_size_25 own_ lens_ rfl ?_
  (try simp only [Mem.set_set, List.set_cons_zero, List.set_cons_succ, Nat.zero_add, Nat.reduceAdd])
  refine rC (Calm.assign rfl) ?_
  refine arun_nil ?_
  refine athen_n ?_
  refine AWP.sub [(0, _), (1, _), (2, _)] ⟨rfl, rfl, rfl, trivial⟩ ?_
  refine named (S := S1) (b := b1) g1.1 ?_
  intro T1 hT1 kb1
  replace hlo1 := hlo1.less hT1
  replace hST := hST.trans hT1
  refine AWP.seq ?_
  refine AWP.region ?_
  refine rC (ldA_ (cs := [_, _]) ty_agg_25 ty_size_25 rfl) ?_
  refine ARun.call (lit_lt rfl) go_18 rfl (losV_Top _ _ [[5], [3], [4]] _ _ hlo1 hrow3) ?_
  rintro _ S2 hr2
  rw [e2] at hr2
  obtain ⟨v4, rfl, hS2, hv4⟩ := hr2
  replace kb1 := hS2.own kb1
  replace hlo1 := hlo1.less hS2
  replace hST := hST.trans hS2
  refine rC (Calm.move rfl) ?_
  refine rC (Calm.extract rfl rfl) ?_
  refine rC (Calm.extract rfl rfl) ?_
  refine rC (Calm.extract rfl rfl) ?_
  refine rC (Calm.assign rfl) ?_
  refine rC (Calm.assign rfl) ?_
  refine rC (Calm.assign rfl) ?_
  refine arun_nil ?_
  refine athen_n ?_
  refine AWP.sub [(0, _), (1, _), (2, _), (3, _), (4, _), (5, _)] ⟨rfl, rfl, rfl, rfl, rfl, rfl, trivial⟩ ?_
  refine AWP.seq ?_
  refine AWP.region ?_
  refine rC (ldA_ (cs := [_, _]) ty_agg_25 ty_size_25 rfl) ?_
  refine ARun.call (lit_lt rfl) go_20 rfl (losV_Put _ _ _ [[5], [3], [4]] _ [] _ hlo1 (Sl.nil _ _ _) (by decide) hrow3) ?_
  rintro _ S3 hr3
  rw [e3] at hr3
  obtain ⟨pa3, ca3, pt3, ct3, rfl, hS3, hlo3⟩ := hr3.slices
  replace kb1 := hS3.own kb1
  replace hlo1 := hlo1.less hS3
  replace hv4 := hv4.less hS3
  replace hST := hST.trans hS3
  refine rC (Calm.move rfl) ?_
  refine rC (Calm.extract rfl rfl) ?_
  refine rC (Calm.extract rfl rfl) ?_
  refine ARun.alloc (lit_lt rfl) ty_zero_25 ?_
  intro b6 f6
  have g6 := f6
  repeat ((with_reducible replace g6 := fresh_set g6); obtain ⟨g6, _⟩ := g6)
  (try simp only [List.length_cons, List.length_nil, Nat.zero_add, Nat.reduceAdd])
  first | refine ARun.storeAll rfl rfl ty_size_25 own_ rfl rfl ?_ | refine ARun.store rfl rfl ty_size_25 own_ lens_ rfl ?_
  (try simp only [Mem.set_set, List.set_cons_zero, List.set_cons_succ, Nat.zero_add, Nat.reduceAdd])
  refine rC (Calm.assign rfl) ?_
  refine arun_nil ?_
  refine athen_n ?_
  refine AWP.sub [(0, _), (1, _), (2, _), (3, _), (4, _), (5, _), (6, _), (7, _)] ⟨rfl, rfl, rfl, rfl, rfl, rfl, rfl, rfl, trivial⟩ ?_
  refine named (S := S3) (b := b6) g6.1 ?_
  intro T6 hT6 kb6
  replace kb1 := hT6.own kb1
  replace hlo1 := hlo1.less hT6
  replace hlo3 := hlo3.less hT6
  replace hv4 := hv4.less hT6
  replace hST := hST.trans hT6
  refine AWP.seq ?_
  refine AWP.region ?_
  refine rC (ldA_ (cs := [_, _]) ty_agg_25 ty_size_25 rfl) ?_
  refine ARun.call (lit_lt rfl) go_18 rfl (losV_Top _ _ [[5], [], [4]] _ _ hlo3 hrow4) ?_
  rintro _ S4 hr4
  rw [e4] at hr4
  obtain ⟨v9, rfl, hS4, hv9⟩ := hr4
  replace kb1 := hS4.own kb1
  replace kb6 := hS4.own kb6
  replace hlo1 := hlo1.less hS4
  replace hlo3 := hlo3.less hS4
  replace hv4 := hv4.less hS4
  replace hST := hST.trans hS4
  have hS4x := hST
  refine rC (Calm.move rfl) ?_
  refine rC (Calm.extract rfl rfl) ?_
  refine rC (Calm.extract rfl rfl) ?_
  refine rC (Calm.extract rfl rfl) ?_
  refine rC (Calm.assign rfl) ?_
  refine rC (Calm.assign rfl) ?_
  refine rC (Calm.assign rfl) ?_
  refine arun_nil ?_
  refine athen_n ?_
  refine AWP.sub [(0, _), (1, _), (2, _), (3, _), (4, _), (5, _), (6, _), (7, _), (8, _), (10, _)] ⟨rfl, rfl, rfl, rfl, rfl, rfl, rfl, rfl, rfl, rfl, trivial⟩ ?_
  refine AWP.seq ?_
  refine AWP.region ?_
  refine rC (ldA_ (cs := [_, _]) ty_agg_25 ty_size_25 rfl) ?_
  refine ARun.build1s (lit_lt rfl) ty_sl_32 rfl rfl ?_
  intro b49 f49
  have g49 := f49
  repeat ((with_reducible replace g49 := fresh_set g49); obtain ⟨g49, _⟩ := g49)
  refine ARun.call (lit_lt rfl) go_20 rfl (losV_Put _ _ _ [[5], [3], [4]] _ [2] _ (hlo1.less less_) (sl_u64 (l := [2]) own_ rfl (Nat.le_refl _) (by decide)) (by decide) hrow3) ?_
  rintro _ S5 hr5
  rw [e5] at hr5
  obtain ⟨pa5, ca5, pt5, ct5, rfl, hS5, hlo5⟩ := hr5.slices
  have hS5' := (Mem.less_set S4 b49 ⟨59, [.int .u64 2], 1⟩ g49.1).trans hS5
  replace kb1 := hS5'.own kb1
  replace kb6 := hS5'.own kb6
  replace hlo1 := hlo1.less hS5'
  replace hlo3 := hlo3.less hS5'
  replace hv4 := hv4.less hS5'
  replace hST := hST.trans hS5'
  refine rC (Calm.move rfl) ?_
  refine rC (Calm.extract rfl rfl) ?_
  refine rC (Calm.extract rfl rfl) ?_
  refine ARun.alloc (lit_lt rfl) ty_zero_25 ?_
  intro b11 f11
  have g11 := f11
  repeat ((with_reducible replace g11 := fresh_set g11); obtain ⟨g11, _⟩ := g11)
  (try simp only [List.length_cons, List.length_nil, Nat.zero_add, Nat.reduceAdd])
  first | refine ARun.storeAll rfl rfl ty_size_25 own_ rfl rfl ?_ | refine ARun.store rfl rfl ty_size_25 own_ lens_ rfl ?_
  (try simp only [Mem.set_set, List.set_cons_zero, List.set_cons_succ, Nat.zero_add, Nat.reduceAdd])
  refine rC (Calm.assign rfl) ?_
  refine arun_nil ?_
  refine athen_n ?_
  refine AWP.sub [(0, _), (1, _), (2, _), (3, _), (4, _), (5, _), (6, _), (7, _), (8, _), (10, _), (12, _)] ⟨rfl, rfl, rfl, rfl, rfl, rfl, rfl, rfl, rfl, rfl, rfl, trivial⟩ ?_
  refine named (S := S5) (b := b11) g11.1 ?_
  intro T11 hT11 kb11
  replace kb1 := hT11.own kb1
  replace kb6 := hT11.own kb6
  replace hlo1 := hlo1.less hT11
  replace hlo3 := hlo3.less hT11
  replace hv4 := hv4.less hT11
  replace hST := hST.trans hT11
  refine AWP.seq ?_
  refine AWP.region ?_
  refine rC (ldA_ (cs := [_, _]) ty_agg_25 ty_size_25 rfl) ?_
  refine ARun.call (lit_lt rfl) go_22 rfl (losV_Path _ _ [[5], [3], [4]] _ 0 _ hlo1 (by decide) (by decide)) ?_
  rintro _ S6 hr6
  rw [e6] at hr6
  obtain ⟨v13, rfl, hS6, hv13⟩ := hr6
  replace kb1 := hS6.own kb1
  replace kb6 := hS6.own kb6
  replace kb11 := hS6.own kb11
  replace hlo1 := hlo1.less hS6
  replace hlo3 := hlo3.less hS6
  replace hv4 := hv4.less hS6
  replace hST := hST.trans hS6
  refine rC (Calm.move rfl) ?_
  refine rC (Calm.extract rfl rfl) ?_
  refine rC (Calm.extract rfl rfl) ?_
  refine rC (Calm.assign rfl) ?_
  refine rC (Calm.assign rfl) ?_
  refine arun_nil ?_
  refine athen_n ?_
  refine AWP.sub [(0, _), (1, _), (2, _), (3, _), (4, _), (5, _), (6, _), (7, _), (8, _), (10, _), (12, _), (13, _), (14, _)] ⟨rfl, rfl, rfl, rfl, rfl, rfl, rfl, rfl, rfl, rfl, rfl, rfl, rfl, trivial⟩ ?_
  refine AWP.seq ?_
  refine AWP.region ?_
  refine ARun.call (lit_lt rfl) go_13 rfl (losV_Make _ [] _ (SlOf.nil _ _) (by decide)) ?_
  rintro _ S7 hr7
  rw [e7] at hr7
  obtain ⟨pa7, ca7, pt7, ct7, rfl, hS7, hlo7⟩ := hr7.slices
  replace kb1 := hS7.own kb1
  replace kb6 := hS7.own kb6
  replace kb11 := hS7.own kb11
  replace hlo1 := hlo1.less hS7
  replace hlo3 := hlo3.less hS7
  replace hv4 := hv4.less hS7
  replace hv13 := hv13.less hS7
  replace hST := hST.trans hS7
  refine rC (Calm.move rfl) ?_
  refine rC (Calm.extract rfl rfl) ?_
  refine rC (Calm.extract rfl rfl) ?_
  refine ARun.alloc (lit_lt rfl) ty_zero_25 ?_
  intro b15 f15
  have g15 := f15
  repeat ((with_reducible replace g15 := fresh_set g15); obtain ⟨g15, _⟩ := g15)
  (try simp only [List.length_cons, List.length_nil, Nat.zero_add, Nat.reduceAdd])
  first | refine ARun.storeAll rfl rfl ty_size_25 own_ rfl rfl ?_ | refine ARun.store rfl rfl ty_size_25 own_ lens_ rfl ?_
  (try simp only [Mem.set_set, List.set_cons_zero, List.set_cons_succ, Nat.zero_add, Nat.reduceAdd])
  refine rC (Calm.assign rfl) ?_
  refine arun_nil ?_
  refine athen_n ?_
  refine AWP.sub [(0, _), (1, _), (2, _), (3, _), (4, _), (5, _), (6, _), (7, _), (8, _), (10, _), (12, _), (13, _), (14, _), (16, _)] ⟨rfl, rfl, rfl, rfl, rfl, rfl, rfl, rfl, rfl, rfl, rfl, rfl, rfl, rfl, trivial⟩ ?_
  refine named (S := S7) (b := b15) g15.1 ?_
  intro T15 hT15 kb15
  replace kb1 := hT15.own kb1
  replace kb6 := hT15.own kb6
  replace kb11 := hT15.own kb11
  replace hlo1 := hlo1.less hT15
  replace hlo3 := hlo3.less hT15
  replace hv4 := hv4.less hT15
  replace hv13 := hv13.less hT15
  replace hST := hST.trans hT15
  refine AWP.seq ?_
  refine AWP.region ?_
  refine ARun.build1s (lit_lt rfl) ty_sl_22 rfl rfl ?_
  intro b63 f63
  have g63 := f63
  repeat ((with_reducible replace g63 := fresh_set g63); obtain ⟨g63, _⟩ := g63)
  refine ARun.call (lit_lt rfl) go_13 rfl (losV_Make _ [[]] _ (SlOf.of_own [.slice none 0 0] own_ rfl rfl (by decide) (rows1 (Sl.nil _ _ _))) hrow1) ?_
  rintro _ S8 hr8
  rw [e8] at hr8
  obtain ⟨pa8, ca8, pt8, ct8, rfl, hS8, hlo8⟩ := hr8.slices
  have hS8' := (Mem.less_set T15 b63 ⟨32, [.slice none 0 0], 1⟩ g63.1).trans hS8
  replace kb1 := hS8'.own kb1
  replace kb6 := hS8'.own kb6
  replace kb11 := hS8'.own kb11
  replace kb15 := hS8'.own kb15
  replace hlo1 := hlo1.less hS8'
  replace hlo3 := hlo3.less hS8'
  replace hv4 := hv4.less hS8'
  replace hv13 := hv13.less hS8'
  replace hST := hST.trans hS8'
  refine rC (Calm.move rfl) ?_
  refine rC (Calm.extract rfl rfl) ?_
  refine rC (Calm.extract rfl rfl) ?_
  refine ARun.alloc (lit_lt rfl) ty_zero_25 ?_
  intro b17 f17
  have g17 := f17
  repeat ((with_reducible replace g17 := fresh_set g17); obtain ⟨g17, _⟩ := g17)
  (try simp only [List.length_cons, List.length_nil, Nat.zero_add, Nat.reduceAdd])
  first | refine ARun.storeAll rfl rfl ty_size_25 own_ rfl rfl ?_ | refine ARun.store rfl rfl ty_size_25 own_ lens_ rfl ?_
  (try simp only [Mem.set_set, List.set_cons_zero, List.set_cons_succ, Nat.zero_add, Nat.reduceAdd])
  refine rC (Calm.assign rfl) ?_
  refine arun_nil ?_
  refine athen_n ?_
  refine AWP.sub [(0, _), (1, _), (2, _), (3, _), (4, _), (5, _), (6, _), (7, _), (8, _), (10, _), (12, _), (13, _), (14, _), (16, _), (17, _), (18, _)] ⟨rfl, rfl, rfl, rfl, rfl, rfl, rfl, rfl, rfl, rfl, rfl, rfl, rfl, rfl, rfl, rfl, trivial⟩ ?_
  refine named (S := S8) (b := b17) g17.1 ?_
  intro T17 hT17 kb17
  replace kb1 := hT17.own kb1
  replace kb6 := hT17.own kb6
  replace kb11 := hT17.own kb11
  replace kb15 := hT17.own kb15
  replace hlo1 := hlo1.less hT17
  replace hlo3 := hlo3.less hT17
  replace hlo8 := hlo8.less hT17
  replace hv4 := hv4.less hT17
  replace hv13 := hv13.less hT17
  replace hST := hST.trans hT17
  refine AWP.seq ?_
  refine AWP.region ?_
  refine rC (ldA_ (cs := [_, _]) ty_agg_25 ty_size_25 rfl) ?_
  refine ARun.call (lit_lt rfl) go_18 rfl (losV_Top _ _ [[]] _ _ hlo8 hrow1) ?_
  rintro _ S9 hr9
  rw [e9] at hr9
  obtain ⟨v20, rfl, hS9, hv20⟩ := hr9
  replace kb1 := hS9.own kb1
  replace kb6 := hS9.own kb6
  replace kb11 := hS9.own kb11
  replace kb15 := hS9.own kb15
  replace kb17 := hS9.own kb17
  replace hlo1 := hlo1.less hS9
  replace hlo3 := hlo3.less hS9
  replace hlo8 := hlo8.less hS9
  replace hv4 := hv4.less hS9
  replace hv13 := hv13.less hS9
  replace hST := hST.trans hS9
  obtain ⟨a4, c4, q4, _, _, h4⟩ := id hv4
  obtain rfl : v4 = .slice a4 1 c4 := q4
  obtain ⟨q4, o4, rfl, hk4⟩ := h4.resolve_left (by decide)
  have k4 := hk4 0 (by decide)
  obtain ⟨a13, c13, q13, _, _, h13⟩ := id hv13
  obtain rfl : v13 = .slice a13 1 c13 := q13
  obtain ⟨q13, o13, rfl, hk13⟩ := h13.resolve_left (by decide)
  have k13 := hk13 0 (by decide)
  unfold i64s at k13
  refine rC (Calm.move rfl) ?_
  refine rC (Calm.extract rfl rfl) ?_
  refine rC (Calm.extract rfl rfl) ?_
  refine rC (Calm.extract rfl rfl) ?_
  refine rC (Calm.assign rfl) ?_
  refine rC (Calm.assign rfl) ?_
  refine rC (Calm.assign rfl) ?_
  refine arun_nil ?_
  refine athen_n ?_
  refine AWP.sub [(0, _), (1, _), (2, _), (3, _), (4, _), (5, _), (6, _), (7, _), (8, _), (10, _), (12, _), (13, _), (14, _), (16, _), (17, _), (18, _), (21, _)] ⟨rfl, rfl, rfl, rfl, rfl, rfl, rfl, rfl, rfl, rfl, rfl, rfl, rfl, rfl, rfl, rfl, rfl, trivial⟩ ?_
  refine AWP.seq ?_
  refine AWP.region ?_
  refine rC (Calm.move rfl) ?_
  refine rC (Calm.bin rfl rfl b_eql) ?_
  refine rC (Calm.move rfl) ?_
  first | refine rS 75 ?_ | refine rU 75 ?_ | refine rG 75 (Calm.move rfl) ?_
  first | refine rS 75 ?_ | refine rU 75 ?_ | refine rG 75 (Calm.bin rfl rfl b_eql) ?_
  refine rC ((by first | exact Calm.pickT rfl rfl | exact Calm.pickF rfl rfl)) ?_
  refine rC (Calm.move rfl) ?_
  first | refine rS 79 ?_ | refine rU 79 ?_ | refine rG 79 (Calm.move rfl) ?_
  first | refine rS 79 ?_ | refine rU 79 ?_ | refine rG 79 (Calm.lenSl Try.underlying32 rfl) ?_
  first | refine rS 79 ?_ | refine rU 79 ?_ | refine rG 79 (Calm.bin rfl rfl b_eql) ?_
  refine rC ((by first | exact Calm.pickT rfl rfl | exact Calm.pickF rfl rfl)) ?_
  refine rC (Calm.move rfl) ?_
  first | refine rS 84 ?_ | refine rU 84 ?_ | refine rG 84 (Calm.move rfl) ?_
  first | refine rS 84 ?_ | refine rU 84 ?_ | refine rG 84 (Calm.indexS Try.underlying32 ty_size_59 rfl rfl (by omega) (by omega)) ?_
  first | refine rS 84 ?_ | refine rU 84 ?_ | refine rG 84 (ld_ ty_plain_59 rfl) ?_
  first | refine rS 84 ?_ | refine rU 84 ?_ | refine rG 84 (Calm.bin rfl rfl b_eql) ?_
  refine rC ((by first | exact Calm.pickT rfl rfl | exact Calm.pickF rfl rfl)) ?_
  refine rC (Calm.move rfl) ?_
  first | refine rS 90 ?_ | refine rU 90 ?_ | refine rG 90 (Calm.move rfl) ?_
  first | refine rS 90 ?_ | refine rU 90 ?_ | refine rG 90 (Calm.bin rfl rfl b_eql) ?_
  refine rC ((by first | exact Calm.pickT rfl rfl | exact Calm.pickF rfl rfl)) ?_
  refine rC (Calm.move rfl) ?_
  first | refine rS 94 ?_ | refine rU 94 ?_ | refine rG 94 (Calm.move rfl) ?_
  first | refine rS 94 ?_ | refine rU 94 ?_ | refine rG 94 (Calm.bin rfl rfl b_eql) ?_
  refine rC ((by first | exact Calm.pickT rfl rfl | exact Calm.pickF rfl rfl)) ?_
  refine rC (Calm.move rfl) ?_
  first | refine rS 98 ?_ | refine rU 98 ?_ | refine rG 98 (Calm.move rfl) ?_
  first | refine rS 98 ?_ | refine rU 98 ?_ | refine rG 98 (Calm.bin rfl rfl b_eql) ?_
  refine rC ((by first | exact Calm.pickT rfl rfl | exact Calm.pickF rfl rfl)) ?_
  refine rC (Calm.move rfl) ?_
  first | refine rS 102 ?_ | refine rU 102 ?_ | refine rG 102 (Calm.move rfl) ?_
  first | refine rS 102 ?_ | refine rU 102 ?_ | refine rG 102 (Calm.bin rfl rfl b_eql) ?_
  refine rC ((by first | exact Calm.pickT rfl rfl | exact Calm.pickF rfl rfl)) ?_
  refine rC (Calm.move rfl) ?_
  first | refine rS 106 ?_ | refine rU 106 ?_ | refine rG 106 (Calm.move rfl) ?_
  first | refine rS 106 ?_ | refine rU 106 ?_ | refine rG 106 (Calm.bin rfl rfl b_eql) ?_
  refine rC ((by first | exact Calm.pickT rfl rfl | exact Calm.pickF rfl rfl)) ?_
  refine rC (Calm.move rfl) ?_
  first | refine rS 110 ?_ | refine rU 110 ?_ | refine rG 110 (Calm.move rfl) ?_
  first | refine rS 110 ?_ | refine rU 110 ?_ | refine rG 110 (Calm.lenSl Try.underlying23 rfl) ?_
  first | refine rS 110 ?_ | refine rU 110 ?_ | refine rG 110 (Calm.bin rfl rfl b_eql) ?_
  refine rC ((by first | exact Calm.pickT rfl rfl | exact Calm.pickF rfl rfl)) ?_
  refine rC (Calm.move rfl) ?_
  first | refine rS 115 ?_ | refine rU 115 ?_ | refine rG 115 (Calm.move rfl) ?_
  first | refine rS 115 ?_ | refine rU 115 ?_ | refine rG 115 (Calm.indexS Try.underlying23 ty_size_3 rfl rfl (by omega) (by omega)) ?_
  first | refine rS 115 ?_ | refine rU 115 ?_ | refine rG 115 (ld_ ty_plain_3 rfl) ?_
  first | refine rS 115 ?_ | refine rU 115 ?_ | refine rG 115 (Calm.bin rfl rfl b_eql) ?_
  refine rC ((by first | exact Calm.pickT rfl rfl | exact Calm.pickF rfl rfl)) ?_
  refine rC (Calm.move rfl) ?_
  first | refine rS 121 ?_ | refine rU 121 ?_ | refine rG 121 (Calm.move rfl) ?_
  first | refine rS 121 ?_ | refine rU 121 ?_ | refine rG 121 (Calm.bin rfl rfl b_eql) ?_
  refine rC ((by first | exact Calm.pickT rfl rfl | exact Calm.pickF rfl rfl)) ?_
  refine rC (Calm.move rfl) ?_
  first | refine rS 125 ?_ | refine rU 125 ?_ | refine rG 125 (Calm.move rfl) ?_
  first | refine rS 125 ?_ | refine rU 125 ?_ | refine rG 125 (Calm.bin rfl rfl b_eql) ?_
  refine rC ((by first | exact Calm.pickT rfl rfl | exact Calm.pickF rfl rfl)) ?_
  refine rC (Calm.move rfl) ?_
  first | refine rS 129 ?_ | refine rU 129 ?_ | refine rG 129 (Calm.move rfl) ?_
  first | refine rS 129 ?_ | refine rU 129 ?_ | refine rG 129 (Calm.bin rfl rfl b_eql) ?_
  refine rC ((by first | exact Calm.pickT rfl rfl | exact Calm.pickF rfl rfl)) ?_
  refine rC (Calm.move rfl) ?_
  first | refine rS 133 ?_ | refine rU 133 ?_ | refine rG 133 (Calm.move rfl) ?_
  first | refine rS 133 ?_ | refine rU 133 ?_ | refine rG 133 (Calm.bin rfl rfl b_eql) ?_
  refine rC ((by first | exact Calm.pickT rfl rfl | exact Calm.pickF rfl rfl)) ?_
  refine rC (Calm.move rfl) ?_
  first | refine rS 137 ?_ | refine rU 137 ?_ | refine rG 137 (ldA_ (cs := [_, _]) ty_agg_25 ty_size_25 rfl) ?_
  refine ARun.callG 64 true 137 rfl (lit_lt rfl) rfl (lit_lt rfl) go_26 rfl (losV_Check _ _ [[5], [], [4]] _ _ hlo3) ?_
  rintro _ S10 ⟨rfl, h10⟩
  rw [h10, e10]; clear h10 S10
  first | refine rS 137 ?_ | refine rU 137 ?_ | refine rG 137 (Calm.bin rfl rfl b_eql) ?_
  refine rC ((by first | exact Calm.pickT rfl rfl | exact Calm.pickF rfl rfl)) ?_
  refine rC (Calm.assign rfl) ?_
  refine arun_nil ?_
  refine athen_n ?_
  refine AWP.sub [(0, _), (1, _), (2, _), (3, _), (4, _), (5, _), (6, _), (7, _), (8, _), (10, _), (12, _), (13, _), (14, _), (16, _), (17, _), (18, _), (21, _)] ⟨rfl, rfl, rfl, rfl, rfl, rfl, rfl, rfl, rfl, rfl, rfl, rfl, rfl, rfl, rfl, rfl, rfl, trivial⟩ ?_
  refine AWP.ret ?_
  refine ⟨_, S, ⟨_, _, rfl, rfl, rfl⟩, hST, ?_⟩
  exact ⟨rfl, rfl⟩
end Go.Proofs.Ytddabbfjoejalaa
