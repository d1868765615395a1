/-
  Loser: the winner is another one, by the program.
-/
import Derived.Test.YtddabbfjoejalaaVLos3
namespace Go.Proofs.Ytddabbfjoejalaa
open Go.RowKit
open Mv Num Loser
set_option linter.unusedVariables false
set_option linter.unusedSimpArgs false
set_option maxRecDepth 4000
theorem set_self {l : List Int} {n : Nat} {v : Int} (h : l[n]? = some v) : l.set n v = l := by
  apply List.ext_getElem?
  intro m
  by_cases e : n = m
  · subst e
    have := (List.getElem?_eq_some_iff.1 h).1
    rw [List.getElem?_set_self this, h]
  · rw [List.getElem?_set_ne e]
/-- A tree's blocks: its keys, its nodes, itself. -/
def losM (M : Mem) (b q p : Nat) (hs : List Value) (tr : List Int) (k c : Nat) : Mem :=
  ((M.set b ⟨32, hs, k⟩).set q ⟨3, tr.map (fun x => Value.int .i64 x), c⟩).set p ⟨64, [.slice (some ⟨b, 0, none⟩) k k, .slice (some ⟨q, 0, none⟩) k c], 2⟩
structure LosF (M : Mem) (b q p : Nat) : Prop where
  fb : Fresh M b
  fq : Fresh M q
  fp : Fresh M p
  bq : b ≠ q
  bp : b ≠ p
  qp : q ≠ p
theorem losM_own_b {M : Mem} {b q p : Nat} {hs : List Value} {tr : List Int} {k c : Nat} (h : LosF M b q p) : (losM M b q p hs tr k c).own b = some ⟨32, hs, k⟩ := by
  unfold losM; rw [Mem.own_set_other _ _ h.bp, Mem.own_set_other _ _ h.bq, Mem.own_set_same]
theorem losM_own_q {M : Mem} {b q p : Nat} {hs : List Value} {tr : List Int} {k c : Nat} (h : LosF M b q p) : (losM M b q p hs tr k c).own q = some ⟨3, tr.map (fun x => Value.int .i64 x), c⟩ := by
  unfold losM; rw [Mem.own_set_other _ _ h.qp, Mem.own_set_same]
theorem losM_own_p {M : Mem} {b q p : Nat} {hs : List Value} {tr : List Int} {k c : Nat} : (losM M b q p hs tr k c).own p = some (treeB (.slice (some ⟨b, 0, none⟩) k k) (.slice (some ⟨q, 0, none⟩) k c)) := Mem.own_set_same _ _ _
theorem losM_less {M : Mem} {b q p : Nat} {hs : List Value} {tr : List Int} {k c : Nat} (h : LosF M b q p) : M.Less (losM M b q p hs tr k c) :=
  (Mem.less_set _ _ _ h.fb.1).trans ((Mem.less_set _ _ _ (by rw [Mem.own_set_other _ _ (Ne.symm h.bq)]; exact h.fq.1)).trans (Mem.less_set _ _ _ (by rw [Mem.own_set_other _ _ (Ne.symm h.qp), Mem.own_set_other _ _ (Ne.symm h.bp)]; exact h.fp.1)))
theorem losM_slOf {M : Mem} {b q p : Nat} {hs : List Value} {tr : List Int} {k c : Nat} {ks : List (List Nat)} (h : LosF M b q p) (hhl : hs.length = ks.length) (hk : k = ks.length) (hb : k ≤ 256) (hr : ∀ i (h : i < ks.length) (h' : i < hs.length), RowR M hs[i] ks[i]) : SlOf RowR (losM M b q p hs tr k c) (.slice (some ⟨b, 0, none⟩) k k) ks := by
  subst hk
  exact ⟨hs, hhl, Sl.own1 (g := fun x : Value => x) (r := ⟨_, hs, ks.length⟩) (losM_own_b h) (by simp) hhl (Nat.le_refl _) (by omega), fun i h1 h2 => rowR_less _ _ _ _ (hr i h1 h2) (losM_less h)⟩
theorem losM_lo {M : Mem} {b q p : Nat} {hs : List Value} {tr : List Int} {k c : Nat} {ks : List (List Nat)} (h : LosF M b q p) (hhl : hs.length = ks.length) (hk : k = ks.length) (hb : k ≤ 256) (htl : tr.length = k) (hc : k ≤ c) (hr : ∀ i (h : i < ks.length) (h' : i < hs.length), RowR M hs[i] ks[i]) : LoV (losM M b q p hs tr k c) (.slice (some ⟨b, 0, none⟩) k k) (.slice (some ⟨q, 0, none⟩) k c) ks tr :=
  ⟨losM_slOf h hhl hk hb hr, sl_intB (losM_own_q h) htl hc (by omega)⟩
theorem rows_set {M : Mem} {hs : List Value} {ks : List (List Nat)} {w : Nat} {vx : Value} {x : List Nat} (hr : ∀ i (h : i < ks.length) (h' : i < hs.length), RowR M hs[i] ks[i]) (hx : RowR M vx x) : ∀ i (h : i < (ks.set w x).length) (h' : i < (hs.set w vx).length), RowR M (hs.set w vx)[i] (ks.set w x)[i] := fun i h h' => by
  by_cases e : w = i
  · subst e; simpa using hx
  · rw [List.getElem_set_ne e, List.getElem_set_ne e]; exact hr i (by simpa using h) (by simpa using h')
set_option maxHeartbeats 4000000 in
theorem losV_Replace (b q p : Nat) (ks : List (List Nat)) (hs : List Value) (k c : Nat) (x : List Nat) (vx : Value) (M : Mem) (hF : LosF M b q p) (hhl : hs.length = ks.length) (hk : k = ks.length) (hk1 : 1 ≤ k) (hk2 : k ≤ 256) (hc : k ≤ c) (hr : ∀ i (h : i < ks.length) (h' : i < hs.length), RowR M hs[i] ks[i]) (hx : RowR M vx x) :
    ACall Try.prog 52 #[.pointer (some ⟨p, 0, none⟩), vx] (losM M b q p hs (treeOf ks) k c) fun r S' => S' = losM M b q p (hs.set (win ks 1) vx) (treeOf (ks.set (win ks 1) x)) k c := by
  obtain ⟨pv, cv, rfl, xv1, xv2, _⟩ := id hx
  have hw := win_lt (ks := ks) (n := 1) (by decide) (by omega)
  have htl := treeOf_length ks
  have hksl : (ks.set (win ks 1) x).length = ks.length := List.length_set
  have hhl' : (hs.set (win ks 1) (.slice pv x.length cv)).length = (ks.set (win ks 1) x).length := by simp [hhl]
  have hr' := rows_set (w := win ks 1) hr hx
  have hwl0 : win (ks.set (win ks 1) x) (ks.length + win ks 1) = win ks 1 := by rw [win_leaf _ (ks.length + win ks 1) (by rw [hksl]; omega), hksl]; omega
  have nbq := hF.bq; have nbp := hF.bp; have nqp := hF.qp
  have t0 := kn_int (losM_own_q (hs := hs) (tr := treeOf ks) (k := k) (c := c) hF) 0 (treeOf_zero ks (by omega))
  unfold losM at t0 ⊢
  refine ACall.enter (args := [.pointer (some ⟨p, 0, none⟩), .slice pv x.length cv]) (rs := []) 68 [(0, .pointer (some ⟨p, 0, none⟩)), (1, .slice pv x.length cv)] Try.func52 rfl rfl (Nat.le_of_ble_eq_true rfl) rfl ⟨rfl, rfl, trivial⟩ ?_
  refine AWP.seq ?_
  refine AWP.region ?_
  refine rC (Calm.move rfl) ?_
  refine rC (Calm.nilCheck rfl) ?_
  refine rC (Calm.fieldAddr ty_field_64_0 rfl) ?_
  refine rC (Calm.fieldAddr ty_field_25_1 rfl) ?_
  refine rC (ld_ ty_plain_23 rfl) ?_
  refine rC (Calm.indexS Try.underlying23 ty_size_3 rfl rfl (by omega) (by omega)) ?_
  refine rC (ld_ ty_plain_3 rfl) ?_
  refine rC (Calm.assign rfl) ?_
  refine arun_nil ?_
  refine athen_n ?_
  refine AWP.sub [(0, _), (1, _), (4, _)] ⟨rfl, rfl, rfl, trivial⟩ ?_
  refine AWP.seq ?_
  refine AWP.region ?_
  refine rC (Calm.move rfl) ?_
  refine rC (Calm.nilCheck rfl) ?_
  refine rC (Calm.fieldAddr ty_field_64_0 rfl) ?_
  refine rC (Calm.fieldAddr ty_field_25_0 rfl) ?_
  refine rC (ld_ ty_plain_22 rfl) ?_
  refine rC (Calm.move rfl) ?_
  refine rC (Calm.move rfl) ?_
  refine rC (Calm.indexS Try.underlying22 ty_size_32 rfl rfl (by omega) (by omega)) ?_
  refine ARun.store1 rfl rfl ty_size_32 rfl own_ lens_ rfl ?_
  (try simp only [Mem.set_set, List.set_cons_zero, List.set_cons_succ, Nat.zero_add, Nat.reduceAdd])
  refine arun_nil ?_
  refine athen_n ?_
  refine AWP.sub [(0, _), (1, _), (4, _)] ⟨rfl, rfl, rfl, trivial⟩ ?_
  simp only [Nat.zero_add, Nat.mul_one, Int.toNat_natCast]
  refine AWP.seq ?_
  refine AWP.seq ?_
  refine AWP.region ?_
  refine rC (Calm.move rfl) ?_
  refine rC (Calm.nilCheck rfl) ?_
  refine rC (Calm.fieldAddr ty_field_64_0 rfl) ?_
  refine rC (Calm.fieldAddr ty_field_25_0 rfl) ?_
  refine rC (ld_ ty_plain_22 rfl) ?_
  refine rC (Calm.lenSl Try.underlying22 rfl) ?_
  refine rC (Calm.move rfl) ?_
  refine rC (Calm.bin rfl rfl b_add_i64) ?_
  refine rC (Calm.bin rfl rfl b_quo_i64) ?_
  refine rC (Calm.assign rfl) ?_
  refine arun_nil ?_
  refine athen_n ?_
  refine AWP.sub [(0, _), (1, _), (4, _), (5, _)] ⟨rfl, rfl, rfl, rfl, trivial⟩ ?_
  refine AWP.block ?_
  refine AWP.loop (X := Nat × List Int) (fun y => [(0, .pointer (some ⟨p, 0, none⟩)), (4, .int .i64 (win (ks.set (win ks 1) x) y.1 : Nat)), (5, .int .i64 (y.1 / 2 : Nat))]) (fun y => losM M b q p (hs.set (win ks 1) (.slice pv x.length cv)) y.2 k c) (fun y => RepI ks x y.1 y.2) (fun y => y.1) ((ks.length + win ks 1, treeOf ks)) ⟨rfl, some_int (by simp only [hwl0]), some_int (by omega), trivial⟩ (by unfold losM; exact less_) (RepI.start ks x (by omega)) ?_
  rintro ⟨nd, tr⟩ hI
  (try dsimp only at *)
  obtain ⟨a1, a2, a3⟩ := hI.at_
  have htrl := hI.len
  have hsl := losM_slOf (tr := tr) (c := c) hF hhl' (by omega) hk2 hr'
  have hop := losM_own_p (M := M) (b := b) (q := q) (p := p) (hs := hs.set (win ks 1) (.slice pv x.length cv)) (tr := tr) (k := k) (c := c)
  by_cases hn1 : 1 ≤ nd / 2
  · refine AWP.seq ?_
    refine AWP.seq ?_
    refine AWP.region ?_
    refine rC (Calm.move rfl) ?_
    refine rC (Calm.bin rfl rfl b_geq) ?_
    refine arun_nil ?_
    refine athen_n ?_
    refine AWP.sub [(0, _), (4, _), (5, _), (31, _)] ⟨rfl, rfl, rfl, rfl, trivial⟩ ?_
    refine AWP.condT rfl (by first | rfl | (simp; done) | (simp; omega)) ?_
    obtain ⟨s, hcs, hts, hs1, hs2, hs3⟩ := hI.sib hn1
    have hws := win_lt (ks := ks.set (win ks 1) x) (n := s) (by omega) (by omega)
    have hwc := win_lt (ks := ks.set (win ks 1) x) (n := nd) (by omega) (by omega)
    have hg := game (ks.set (win ks 1) x) (nd / 2) nd s hn1 (by omega) hcs
    have hst := hI.step hn1
    have kt := kn_int (losM_own_q (hs := hs.set (win ks 1) (.slice pv x.length cv)) (tr := tr) (k := k) (c := c) hF) (nd / 2) hts
    unfold losM at kt hop hsl ⊢
    refine AWP.skip ?_
    refine athen_n ?_
    refine AWP.seq ?_
    refine AWP.block ?_
    refine AWP.seq ?_
    refine AWP.region ?_
    refine rC (Calm.move rfl) ?_
    refine rC (Calm.move rfl) ?_
    refine rC (Calm.nilCheck rfl) ?_
    refine rC (Calm.fieldAddr ty_field_64_0 rfl) ?_
    refine rC (Calm.fieldAddr ty_field_25_1 rfl) ?_
    refine rC (ld_ ty_plain_23 rfl) ?_
    refine rC (Calm.move rfl) ?_
    refine rC (Calm.indexS Try.underlying23 ty_size_3 rfl rfl (by omega) (by omega)) ?_
    refine rC (ld_ ty_plain_3 rfl) ?_
    refine rC (Calm.move rfl) ?_
    refine ARun.call (lit_lt rfl) go_75 rfl (losV_beats p _ _ (ks.set (win ks 1) x) _ _ _ hop hsl hws hwc) ?_
    rintro _ S1 ⟨rfl, h1⟩
    rw [h1]; clear h1 S1
    refine arun_nil ?_
    refine athen_n ?_
    refine AWP.sub [(0, _), (4, _), (5, _), (31, _), (44, _)] ⟨rfl, rfl, rfl, rfl, rfl, trivial⟩ ?_
    rcases Bool.eq_false_or_eq_true (beatsP (ks.set (win ks 1) x) (win (ks.set (win ks 1) x) s) (win (ks.set (win ks 1) x) nd)) with hb | hb
    · obtain ⟨e1, e2⟩ := hg.1 hb
      refine AWP.condT rfl (hb) ?_
      refine AWP.draw [(0, true), (1, true), (2, true), (3, true), (4, true), (5, true), (6, true), (7, true), (8, true), (9, true), (10, true), (11, true), (12, true), (13, true), (14, true), (15, true), (16, true), (17, false)] [17] mixed (by kernel_rfl) ?_
      refine draw_pure rfl rfl rfl rfl (lit_lt rfl) (fun _ => Calm.move rfl) ?_
      refine draw_pure rfl rfl rfl rfl (lit_lt rfl) (fun _ => Calm.nilCheck rfl) ?_
      refine draw_pure rfl rfl rfl rfl (lit_lt rfl) (fun _ => Calm.fieldAddr ty_field_64_0 rfl) ?_
      refine draw_pure rfl rfl rfl rfl (lit_lt rfl) (fun _ => Calm.fieldAddr ty_field_25_1 rfl) ?_
      refine draw_calm rfl rfl rfl (lit_lt rfl) less_ (fun S' hS' => by obtain rfl := hS'.resolve_left (by decide); exact ld_ ty_plain_23 rfl) ?_
      refine draw_pure rfl rfl rfl rfl (lit_lt rfl) (fun _ => Calm.move rfl) ?_
      refine draw_pure rfl rfl rfl rfl (lit_lt rfl) (fun _ => Calm.move rfl) ?_
      refine draw_pure rfl rfl rfl rfl (lit_lt rfl) (fun _ => Calm.nilCheck rfl) ?_
      refine draw_pure rfl rfl rfl rfl (lit_lt rfl) (fun _ => Calm.fieldAddr ty_field_64_0 rfl) ?_
      refine draw_pure rfl rfl rfl rfl (lit_lt rfl) (fun _ => Calm.fieldAddr ty_field_25_1 rfl) ?_
      refine draw_calm rfl rfl rfl (lit_lt rfl) less_ (fun S' hS' => by obtain rfl := hS'.resolve_left (by decide); exact ld_ ty_plain_23 rfl) ?_
      refine draw_pure rfl rfl rfl rfl (lit_lt rfl) (fun _ => Calm.move rfl) ?_
      refine draw_pure rfl rfl rfl rfl (lit_lt rfl) (fun _ => Calm.indexS Try.underlying23 ty_size_3 rfl rfl (by omega) (by omega)) ?_
      refine draw_calm rfl rfl rfl (lit_lt rfl) less_ (fun S' hS' => by obtain rfl := hS'.resolve_left (by decide); exact ld_ ty_plain_3 rfl) ?_
      refine draw_pure rfl rfl rfl rfl (lit_lt rfl) (fun _ => Calm.move rfl) ?_
      refine draw_pure rfl rfl rfl rfl (lit_lt rfl) (fun _ => Calm.assign rfl) ?_
      refine draw_pure rfl rfl rfl rfl (lit_lt rfl) (fun _ => Calm.indexS Try.underlying23 ty_size_3 rfl rfl (by omega) (by omega)) ?_
      refine draw_only rfl ?_
      refine ARun.store1 rfl rfl ty_size_3 rfl own_ lens_ rfl ?_
      (try simp only [Mem.set_set, List.set_cons_zero, List.set_cons_succ, Nat.zero_add, Nat.reduceAdd])
      refine arun_nil ⟨fun h => absurd h (by decide), ?_⟩
      refine draw_nil ?_
      refine ain_n ?_
      refine athen_n ?_
      refine AWP.sub [(0, _), (4, _), (5, _), (31, _), (44, _)] ⟨rfl, rfl, rfl, rfl, rfl, trivial⟩ ?_
      simp only [Nat.zero_add, Nat.mul_one, Int.toNat_natCast, icells_set]
      refine AWP.region ?_
      refine rC (Calm.move rfl) ?_
      refine rC (Calm.bin rfl rfl b_quo_i64) ?_
      refine rC (Calm.assign rfl) ?_
      refine arun_nil ?_
      refine athen_n ?_
      refine ⟨(nd / 2, tr.set (nd / 2) (los (ks.set (win ks 1) x) (nd / 2) : Int)), ?_, ?_, ?_, ?_⟩
      all_goals (try dsimp only)
      · exact ⟨rfl, some_int (by rw [e1]), some_int (by omega), trivial⟩
      · rw [e2]; exact less_
      · exact hst
      · omega
    · obtain ⟨e1, e2⟩ := hg.2 hb
      rw [← e2] at hts
      rw [set_self hts] at hst
      refine AWP.condF rfl (hb) ?_
      refine AWP.skip ?_
      refine ain_n ?_
      refine athen_n ?_
      refine AWP.region ?_
      refine rC (Calm.move rfl) ?_
      refine rC (Calm.bin rfl rfl b_quo_i64) ?_
      refine rC (Calm.assign rfl) ?_
      refine arun_nil ?_
      refine athen_n ?_
      refine ⟨(nd / 2, tr), ?_, ?_, ?_, ?_⟩
      all_goals (try dsimp only)
      · exact ⟨rfl, some_int (by rw [e1]), some_int (by omega), trivial⟩
      · exact Mem.Less.refl _
      · exact hst
      · omega
  · refine AWP.seq ?_
    refine AWP.seq ?_
    refine AWP.region ?_
    refine rC (Calm.move rfl) ?_
    refine rC (Calm.bin rfl rfl b_geq) ?_
    refine arun_nil ?_
    refine athen_n ?_
    refine AWP.sub [(0, _), (4, _), (5, _), (31, _)] ⟨rfl, rfl, rfl, rfl, trivial⟩ ?_
    refine AWP.condF rfl (by first | rfl | (simp; done) | (simp; omega)) ?_
    obtain rfl : nd = 1 := by omega
    have hdn := hI.done (by omega)
    unfold losM
    refine AWP.exit ?_
    refine athen_exit ?_
    refine athen_exit ?_
    refine ain_same ?_
    refine athen_n ?_
    refine AWP.region ?_
    refine rC (Calm.move rfl) ?_
    refine rC (Calm.nilCheck rfl) ?_
    refine rC (Calm.fieldAddr ty_field_64_0 rfl) ?_
    refine rC (Calm.fieldAddr ty_field_25_1 rfl) ?_
    refine rC (ld_ ty_plain_23 rfl) ?_
    refine rC (Calm.move rfl) ?_
    refine rC (Calm.indexS Try.underlying23 ty_size_3 rfl rfl (by omega) (by omega)) ?_
    refine ARun.store1 rfl rfl ty_size_3 rfl own_ lens_ rfl ?_
    (try simp only [Mem.set_set, List.set_cons_zero, List.set_cons_succ, Nat.zero_add, Nat.reduceAdd])
    refine arun_nil ?_
    simp only [Nat.zero_add, Nat.mul_one, Int.toNat_zero, icells_set, hdn]
    refine ⟨_, losM M b q p (hs.set (win ks 1) (.slice pv x.length cv)) (treeOf (ks.set (win ks 1) x)) k c, rfl, (by unfold losM; exact less_), ?_⟩
    rfl
set_option maxHeartbeats 4000000 in
theorem losV_Put (hk ht vx : Value) (ks : List (List Nat)) (tr : List Int) (x : List Nat) (S : Mem) (hl : LoV S hk ht ks tr) (hx : RowR S vx x) (hxl : x.length ≤ 17592186043904) (hrow : ∀ y ∈ ks, y.length ≤ 17592186043904) :
    ACall Try.prog 20 #[.agg #[hk, ht], vx] S (LosR (putP ks tr x) S) := by
  unfold putP
  rcases chk_or ks tr with ⟨hc, hc1, hc2, rfl⟩ | hc
  · rw [if_neg (by rw [hc]; simp)]
    have hw := win_lt (ks := ks) (n := 1) (by decide) (by omega)
    have htl := treeOf_length ks
    obtain ⟨px, cx, rfl, x1, x2, _⟩ := id hx
    have hown := losV_own hk ks S hl.1 hc2 hrow
    have hlz : x.length = 0 ↔ x = [] := List.length_eq_zero_iff
    refine ACall.enter (args := [.agg #[hk, ht], .slice px x.length cx]) (rs := [.cell 4 25, .tmp 5]) 65 [(0, .agg #[hk, ht]), (1, .slice px x.length cx)] Try.func20 rfl rfl (Nat.le_of_ble_eq_true rfl) rfl ⟨rfl, rfl, trivial⟩ ?_
    refine AWP.seq ?_
    refine AWP.region ?_
    refine ARun.boxA (cs := [_, _]) (lit_lt rfl) rfl ?_
    intro b2 f2
    have g2 := f2
    repeat ((with_reducible replace g2 := fresh_set g2); obtain ⟨g2, _⟩ := g2)
    (try simp only [List.length_cons, List.length_nil, Nat.zero_add, Nat.reduceAdd])
    refine ARun.alloc (lit_lt rfl) ty_zero_25 ?_
    intro b4 f4
    have g4 := f4
    repeat ((with_reducible replace g4 := fresh_set g4); obtain ⟨g4, _⟩ := g4)
    (try simp only [List.length_cons, List.length_nil, Nat.zero_add, Nat.reduceAdd])
    refine rC (Calm.assign rfl) ?_
    refine arun_nil ?_
    refine athen_n ?_
    refine AWP.seq ?_
    refine AWP.seq ?_
    refine AWP.region ?_
    refine rC (ldA_ (cs := [_, _]) ty_agg_25 ty_size_25 rfl) ?_
    refine ARun.call (lit_lt rfl) go_26 rfl (losV_Check hk ht ks (treeOf ks) _ (hl.less less_)) ?_
    rintro _ S1 ⟨rfl, h1⟩
    rw [h1, hc]; clear h1 S1
    refine rC (Calm.assign rfl) ?_
    refine arun_nil ?_
    refine athen_n ?_
    refine AWP.sub [(0, _), (1, _), (2, _), (4, _), (5, _), (6, _)] ⟨rfl, rfl, rfl, rfl, rfl, rfl, trivial⟩ ?_
    refine AWP.seq ?_
    refine AWP.region ?_
    refine rC (Calm.move rfl) ?_
    refine rC (Calm.bin rfl rfl b_neq) ?_
    refine arun_nil ?_
    refine athen_n ?_
    refine AWP.sub [(0, _), (1, _), (2, _), (4, _), (5, _), (6, _), (13, _)] ⟨rfl, rfl, rfl, rfl, rfl, rfl, rfl, trivial⟩ ?_
    refine AWP.condF rfl (by first | rfl | (simp; done) | (simp; omega)) ?_
    refine AWP.skip ?_
    refine athen_n ?_
    refine AWP.seq ?_
    refine AWP.draw [(0, true), (1, true), (3, true), (4, true), (2, false), (5, false), (6, true), (7, true), (8, false), (9, true)] [] mixed (by kernel_rfl) ?_
    refine draw_pure rfl rfl rfl rfl (lit_lt rfl) (fun _ => Calm.fieldAddr ty_field_25_0 rfl) ?_
    refine draw_calm rfl rfl rfl (lit_lt rfl) less_ (fun S' hS' => by obtain rfl := hS'.resolve_left (by decide); exact ld_ ty_plain_22 rfl) ?_
    refine draw_pure rfl rfl rfl rfl (lit_lt rfl) (fun _ => Calm.fieldAddr ty_field_25_1 rfl) ?_
    refine draw_calm rfl rfl rfl (lit_lt rfl) less_ (fun S' hS' => by obtain rfl := hS'.resolve_left (by decide); exact ld_ ty_plain_23 rfl) ?_
    refine draw_only rfl ?_
    refine ARun.call (lit_lt rfl) go_46 rfl ((hown.frame g2).frame f4) ?_
    rintro _ S1 ⟨S1a, ⟨S1b, ⟨M, b, hs, hO, rfl, rfl⟩, f2a, rfl⟩, f4a, rfl⟩
    have hMl := hO.1
    have hbM := hO.2.1
    have hbS := hO.2.1.less hO.1
    have hOl := hO.1.trans (Mem.less_set M b (keysB hs) hO.2.1.1)
    refine arun_nil ⟨fun _ => less_, ?_⟩
    refine draw_only rfl ?_
    refine ARun.call (lit_lt rfl) go_51 rfl (((losV_CloneI (treeOf ks) ht _ (hl.2.less hOl) (by omega)).frame f2a).frame f4a) ?_
    rintro _ S2 ⟨S2a, ⟨S2b, hcl, f2b, rfl⟩, f4b, rfl⟩
    obtain ⟨hnil, _⟩ | ⟨q, c, fq, hqc, rfl, rfl⟩ := hcl
    (exfalso; rw [hnil] at htl; simp at htl; omega)
    have fqS := ((fresh_set fq).1).less hO.1
    have hhl := hO.2.2.1
    have hrM := hO.2.2.2
    obtain ⟨fqM, nqb⟩ := fresh_set fq
    obtain ⟨f4d, n42⟩ := fresh_set f4b
    obtain ⟨f4e, n4q⟩ := fresh_set f4d
    obtain ⟨f4M, n4b⟩ := fresh_set f4e
    obtain ⟨f2e, n2q⟩ := fresh_set f2b
    obtain ⟨f2M, n2b⟩ := fresh_set f2e
    refine arun_nil ⟨fun _ => less_, ?_⟩
    refine draw_pure rfl rfl rfl rfl (lit_lt rfl) (fun _ => Calm.build (cs := [_, _]) ty_bld_25 rfl rfl) ?_
    refine draw_pure rfl rfl rfl rfl (lit_lt rfl) (fun _ => Calm.build (cs := [_, _]) ty_bld_64 rfl rfl) ?_
    refine draw_only rfl ?_
    refine ARun.boxA (cs := [_, _]) (lit_lt rfl) rfl ?_
    intro b24 f24
    have g24 := f24
    repeat ((with_reducible replace g24 := fresh_set g24); obtain ⟨g24, _⟩ := g24)
    (try simp only [List.length_cons, List.length_nil, Nat.zero_add, Nat.reduceAdd])
    have g24S := g24.less hMl
    refine arun_nil ⟨fun _ => less_, ?_⟩
    refine draw_pure rfl rfl rfl rfl (lit_lt rfl) (fun _ => Calm.assign rfl) ?_
    refine draw_nil ?_
    refine athen_n ?_
    refine AWP.sub [(0, _), (1, _), (2, _), (4, _), (5, _), (6, _), (13, _), (7, _)] ⟨rfl, rfl, rfl, rfl, rfl, rfl, rfl, rfl, trivial⟩ ?_
    have hF : LosF M b q b24 := ⟨hbM, fqM, g24, Ne.symm nqb, by (apply Ne.symm; assumption), by (apply Ne.symm; assumption)⟩
    have n424 : b4 ≠ b24 := by (apply Ne.symm; assumption)
    have n224 : b2 ≠ b24 := by (apply Ne.symm; assumption)
    have hF4 : Fresh (losM M b q b24 hs (treeOf ks) ks.length c) b4 := by unfold losM; exact fresh_more (fresh_more (fresh_more f4M n4b) n4q) n424
    have hLo : LoV (losM M b q b24 hs (treeOf ks) ks.length c) (.slice (some ⟨b, 0, none⟩) ks.length ks.length) (.slice (some ⟨q, 0, none⟩) ks.length c) ks (treeOf ks) := losM_lo hF hhl rfl hc2 htl (by omega) hrM
    have hSl : S.Less (losM M b q b24 hs (treeOf ks) ks.length c) := hMl.trans (losM_less hF)
    simp only [keysB, intB, hhl, htl]
    refine AWP.less ((losM M b q b24 hs (treeOf ks) ks.length c).set b4 ⟨25, [.slice none 0 0, .slice none 0 0], 2⟩) (by unfold losM; exact less_) ?_
    refine AWP.seq ?_
    refine AWP.region ?_
    refine rC (Calm.move rfl) ?_
    refine ARun.call (lit_lt rfl) go_49 rfl ((losV_Win b24 _ _ ks _ (losM_own_p (M := M) (b := b) (q := q) (hs := hs) (tr := treeOf ks) (k := ks.length) (c := c)) hLo hc1).frame hF4) ?_
    rintro _ S3 ⟨_, ⟨rfl, rfl⟩, _, rfl⟩
    have kb := kn_cell (losM_own_b (hs := hs) (tr := treeOf ks) (k := ks.length) (c := c) hF) (win ks 1) (List.getElem?_eq_getElem (by omega : win ks 1 < hs.length))
    have hrw := hrM (win ks 1) hw (by omega)
    rw [← key_get ks _ hw] at hrw
    obtain ⟨g, hg⟩ : ∃ g, g = hs[win ks 1]'(by omega) := ⟨_, rfl⟩
    rw [← hg] at kb hrw
    obtain ⟨qa, da, rfl, y1, y2, _⟩ := id hrw
    have nbq := hF.bq; have nbp := hF.bp; have nqp := hF.qp; have n244 := Ne.symm n424
    have hrw2 := rowR_less _ _ _ _ hrw (losM_less (hs := hs) (tr := treeOf ks) (k := ks.length) (c := c) hF)
    refine rC (Calm.move rfl) ?_
    refine rC (Calm.extract rfl rfl) ?_
    refine rC (Calm.extract rfl rfl) ?_
    refine rC (Calm.assign rfl) ?_
    refine rC (Calm.assign rfl) ?_
    refine arun_nil ?_
    refine athen_n ?_
    refine AWP.sub [(0, _), (1, _), (2, _), (4, _), (5, _), (6, _), (13, _), (7, _), (8, _), (9, _)] ⟨rfl, rfl, rfl, rfl, rfl, rfl, rfl, rfl, rfl, rfl, trivial⟩ ?_
    by_cases he : key ks (win ks 1) = []
    · rw [decide_eq_false (fun e => e he), if_pos he]
      unfold losM at hF4 ⊢
      refine AWP.seq ?_
      refine AWP.block ?_
      refine AWP.seq ?_
      refine AWP.region ?_
      refine rC (Calm.move rfl) ?_
      refine rC (Calm.un rfl (una_not _)) ?_
      refine rC (Calm.assign rfl) ?_
      refine arun_nil ?_
      refine athen_n ?_
      refine AWP.sub [(0, _), (1, _), (2, _), (4, _), (5, _), (6, _), (13, _), (7, _), (8, _), (9, _), (30, _)] ⟨rfl, rfl, rfl, rfl, rfl, rfl, rfl, rfl, rfl, rfl, rfl, trivial⟩ ?_
      refine AWP.condT rfl (by first | rfl | (simp; done) | (simp; omega)) ?_
      refine AWP.seq ?_
      refine AWP.region ?_
      refine rC (Calm.move rfl) ?_
      refine rC (Calm.nilCheck rfl) ?_
      refine rC (Calm.fieldAddr ty_field_64_0 rfl) ?_
      refine rC (ldA_ (cs := [_, _]) ty_agg_25 ty_size_25 rfl) ?_
      first | refine ARun.storeAll rfl rfl ty_size_25 own_ rfl rfl ?_ | refine ARun.store rfl rfl ty_size_25 own_ lens_ rfl ?_
      (try simp only [Mem.set_set, List.set_cons_zero, List.set_cons_succ, Nat.zero_add, Nat.reduceAdd])
      refine rC (Calm.assign rfl) ?_
      refine arun_nil ?_
      refine athen_n ?_
      refine AWP.sub [(0, _), (1, _), (2, _), (4, _), (5, _), (6, _), (13, _), (7, _), (8, _), (9, _), (30, _)] ⟨rfl, rfl, rfl, rfl, rfl, rfl, rfl, rfl, rfl, rfl, rfl, trivial⟩ ?_
      refine AWP.ret ?_
      refine ain_ret ?_
      refine athen_ret ?_
      refine ⟨_, losM M b q b24 hs (treeOf ks) ks.length c, ⟨_, _, _, rfl, .inr ⟨ty_agg_25, [_, _], ty_size_25, rds_, rfl⟩, ⟨_, _, rfl, rfl, rfl⟩, rfl⟩, (Mem.less_set _ _ _ hF4.1), ?_⟩
      exact ⟨_, _, rfl, hSl, hLo⟩
    · rw [decide_eq_true he, if_neg he]
      refine AWP.seq ?_
      refine AWP.block ?_
      refine AWP.seq ?_
      refine AWP.region ?_
      refine rC (Calm.move rfl) ?_
      refine rC (Calm.un rfl (una_not _)) ?_
      refine rC (Calm.assign rfl) ?_
      refine arun_nil ?_
      refine athen_n ?_
      refine AWP.sub [(0, _), (1, _), (2, _), (4, _), (5, _), (6, _), (13, _), (7, _), (8, _), (9, _), (30, _)] ⟨rfl, rfl, rfl, rfl, rfl, rfl, rfl, rfl, rfl, rfl, rfl, trivial⟩ ?_
      refine AWP.condF rfl (by first | rfl | (simp; done) | (simp; omega)) ?_
      by_cases hx0 : x.length = 0
      · have hx00 := hlz.1 hx0
        unfold losM at hF4 kb hrw2 ⊢
        refine AWP.seq ?_
        refine AWP.region ?_
        refine rC (Calm.move rfl) ?_
        refine rC (Calm.lenSl Try.underlying32 rfl) ?_
        refine rC (Calm.bin rfl rfl b_gtr) ?_
        refine rC (Calm.move rfl) ?_
        first | refine rS 41 ?_ | refine rU 41 ?_ | refine rG 41 (Calm.move rfl) ?_
        first | refine rS 41 ?_ | refine rU 41 ?_ | refine rG 41 (Calm.move rfl) ?_
        first | refine rS 41 ?_ | refine rU 41 ?_ | refine rG 41 (Calm.nilCheck rfl) ?_
        first | refine rS 41 ?_ | refine rU 41 ?_ | refine rG 41 (Calm.fieldAddr ty_field_64_0 rfl) ?_
        first | refine rS 41 ?_ | refine rU 41 ?_ | refine rG 41 (Calm.fieldAddr ty_field_25_0 rfl) ?_
        first | refine rS 41 ?_ | refine rU 41 ?_ | refine rG 41 (ld_ ty_plain_22 rfl) ?_
        first | refine rS 41 ?_ | refine rU 41 ?_ | refine rG 41 (Calm.move rfl) ?_
        first | refine rS 41 ?_ | refine rU 41 ?_ | refine rG 41 (Calm.indexS Try.underlying22 ty_size_32 rfl rfl (by omega) (by omega)) ?_
        first | refine rS 41 ?_ | refine rU 41 ?_ | refine rG 41 (ld_ ty_plain_32 rfl) ?_
        first | refine rS 41 ?_ | refine rU 41 ?_
        refine rC ((by first | exact Calm.pickT rfl rfl | exact Calm.pickF rfl rfl)) ?_
        refine rC (Calm.assign rfl) ?_
        refine arun_nil ?_
        refine athen_n ?_
        refine AWP.sub [(0, _), (1, _), (2, _), (4, _), (5, _), (6, _), (13, _), (7, _), (8, _), (9, _), (30, _), (37, _)] ⟨rfl, rfl, rfl, rfl, rfl, rfl, rfl, rfl, rfl, rfl, rfl, rfl, trivial⟩ ?_
        refine AWP.condF rfl (by first | rfl | (simp; done) | (simp; omega)) ?_
        rw [if_neg (fun h => h.1 hx00)]
        have hfq2 := fresh_more (r := ⟨32, hs, ks.length⟩) hF.fq (Ne.symm nbq)
        have hfp2 := fresh_more (r := ⟨3, (treeOf ks).map (fun x => Value.int .i64 x), c⟩) (fresh_more (r := ⟨32, hs, ks.length⟩) hF.fp (Ne.symm nbp)) (Ne.symm nqp)
        refine AWP.skip ?_
        refine ain_n ?_
        refine athen_n ?_
        refine AWP.seq ?_
        refine AWP.region ?_
        refine rC (Calm.move rfl) ?_
        refine rC (Calm.move rfl) ?_
        refine ARun.call (lit_lt rfl) go_50 rfl (((((losV_CloneU x _ M (rowR_less _ _ _ _ hx hMl) hxl).frame hF.fb).frame hfq2).frame hfp2).frame hF4) ?_
        rintro vc S5 ⟨S5a, ⟨S5b, ⟨S5c, ⟨M', hcl, fb', rfl⟩, fq', rfl⟩, fp', rfl⟩, f4', rfl⟩
        have hF' : LosF M' b q b24 := ⟨fb', (fresh_set fq').1, (fresh_set (fresh_set fp').1).1, nbq, nbp, nqp⟩
        have hr' : ∀ i (h : i < ks.length) (h' : i < hs.length), RowR M' hs[i] ks[i] := fun i h h' => rowR_less _ _ _ _ (hrM i h h') hcl.less
        have hxc : RowR M' vc x := hcl.sl (by omega)
        refine ARun.call (lit_lt rfl) go_52 rfl ((losV_Replace b q b24 ks hs ks.length c x vc M' hF' hhl rfl hc1 hc2 (by omega) hr' hxc).frame f4') ?_
        rintro _ S6 ⟨_, rfl, f4'', rfl⟩
        have hLo' : LoV (losM M' b q b24 (hs.set (win ks 1) vc) (treeOf (ks.set (win ks 1) x)) ks.length c) (.slice (some ⟨b, 0, none⟩) ks.length ks.length) (.slice (some ⟨q, 0, none⟩) ks.length c) (ks.set (win ks 1) x) (treeOf (ks.set (win ks 1) x)) := losM_lo hF' (by simp [hhl]) (by simp) hc2 (by rw [treeOf_length]; simp) (by omega) (rows_set hr' hxc)
        have hSl' : S.Less (losM M' b q b24 (hs.set (win ks 1) vc) (treeOf (ks.set (win ks 1) x)) ks.length c) := hMl.trans (hcl.less.trans (losM_less hF'))
        unfold losM at f4'' ⊢
        refine arun_nil ?_
        refine athen_n ?_
        refine AWP.sub [(0, _), (1, _), (2, _), (4, _), (5, _), (6, _), (13, _), (7, _), (8, _), (9, _), (30, _), (37, _)] ⟨rfl, rfl, rfl, rfl, rfl, rfl, rfl, rfl, rfl, rfl, rfl, rfl, trivial⟩ ?_
        refine AWP.seq ?_
        refine AWP.region ?_
        refine rC (Calm.move rfl) ?_
        refine rC (Calm.nilCheck rfl) ?_
        refine rC (Calm.fieldAddr ty_field_64_0 rfl) ?_
        refine rC (ldA_ (cs := [_, _]) ty_agg_25 ty_size_25 rfl) ?_
        first | refine ARun.storeAll rfl rfl ty_size_25 own_ rfl rfl ?_ | refine ARun.store rfl rfl ty_size_25 own_ lens_ rfl ?_
        (try simp only [Mem.set_set, List.set_cons_zero, List.set_cons_succ, Nat.zero_add, Nat.reduceAdd])
        refine rC (Calm.assign rfl) ?_
        refine arun_nil ?_
        refine athen_n ?_
        refine AWP.sub [(0, _), (1, _), (2, _), (4, _), (5, _), (6, _), (13, _), (7, _), (8, _), (9, _), (30, _), (37, _)] ⟨rfl, rfl, rfl, rfl, rfl, rfl, rfl, rfl, rfl, rfl, rfl, rfl, trivial⟩ ?_
        refine AWP.ret ?_
        refine ⟨_, losM M' b q b24 (hs.set (win ks 1) vc) (treeOf (ks.set (win ks 1) x)) ks.length c, ⟨_, _, _, rfl, .inr ⟨ty_agg_25, [_, _], ty_size_25, rds_, rfl⟩, ⟨_, _, rfl, rfl, rfl⟩, rfl⟩, (Mem.less_set _ _ _ f4''.1), ?_⟩
        exact ⟨_, _, rfl, hSl', hLo'⟩
      · have hx00 : x ≠ [] := fun e => hx0 (hlz.2 e)
        unfold losM at hF4 kb hrw2 ⊢
        refine AWP.seq ?_
        refine AWP.region ?_
        refine rC (Calm.move rfl) ?_
        refine rC (Calm.lenSl Try.underlying32 rfl) ?_
        refine rC (Calm.bin rfl rfl b_gtr) ?_
        refine rC (Calm.move rfl) ?_
        first | refine rS 41 ?_ | refine rU 41 ?_ | refine rG 41 (Calm.move rfl) ?_
        first | refine rS 41 ?_ | refine rU 41 ?_ | refine rG 41 (Calm.move rfl) ?_
        first | refine rS 41 ?_ | refine rU 41 ?_ | refine rG 41 (Calm.nilCheck rfl) ?_
        first | refine rS 41 ?_ | refine rU 41 ?_ | refine rG 41 (Calm.fieldAddr ty_field_64_0 rfl) ?_
        first | refine rS 41 ?_ | refine rU 41 ?_ | refine rG 41 (Calm.fieldAddr ty_field_25_0 rfl) ?_
        first | refine rS 41 ?_ | refine rU 41 ?_ | refine rG 41 (ld_ ty_plain_22 rfl) ?_
        first | refine rS 41 ?_ | refine rU 41 ?_ | refine rG 41 (Calm.move rfl) ?_
        first | refine rS 41 ?_ | refine rU 41 ?_ | refine rG 41 (Calm.indexS Try.underlying22 ty_size_32 rfl rfl (by omega) (by omega)) ?_
        first | refine rS 41 ?_ | refine rU 41 ?_ | refine rG 41 (ld_ ty_plain_32 rfl) ?_
        refine ARun.callG 3 true 41 rfl (lit_lt rfl) rfl (lit_lt rfl) go_28 rfl (numV_Less x (key ks (win ks 1)) _ _ _ (rowR_less _ _ _ _ hx (hSl.trans (Mem.less_set _ _ _ hF4.1))) (rowR_less _ _ _ _ hrw2 (Mem.less_set _ _ _ hF4.1))) ?_
        rintro _ S4 ⟨rfl, h1⟩
        rw [h1]; clear h1 S4
        refine rC ((by first | exact Calm.pickT rfl rfl | exact Calm.pickF rfl rfl)) ?_
        refine rC (Calm.assign rfl) ?_
        refine arun_nil ?_
        refine athen_n ?_
        refine AWP.sub [(0, _), (1, _), (2, _), (4, _), (5, _), (6, _), (13, _), (7, _), (8, _), (9, _), (30, _), (37, _)] ⟨rfl, rfl, rfl, rfl, rfl, rfl, rfl, rfl, rfl, rfl, rfl, rfl, trivial⟩ ?_
        rcases Bool.eq_false_or_eq_true (lessB x (key ks (win ks 1))) with hb | hb
        · refine AWP.condT rfl (hb) ?_
          rw [if_pos ⟨hx00, hb⟩]
          refine AWP.seq ?_
          refine AWP.region ?_
          refine rC (Calm.move rfl) ?_
          refine rC (Calm.nilCheck rfl) ?_
          refine rC (Calm.fieldAddr ty_field_64_0 rfl) ?_
          refine rC (ldA_ (cs := [_, _]) ty_agg_25 ty_size_25 rfl) ?_
          first | refine ARun.storeAll rfl rfl ty_size_25 own_ rfl rfl ?_ | refine ARun.store rfl rfl ty_size_25 own_ lens_ rfl ?_
          (try simp only [Mem.set_set, List.set_cons_zero, List.set_cons_succ, Nat.zero_add, Nat.reduceAdd])
          refine rC (Calm.assign rfl) ?_
          refine arun_nil ?_
          refine athen_n ?_
          refine AWP.sub [(0, _), (1, _), (2, _), (4, _), (5, _), (6, _), (13, _), (7, _), (8, _), (9, _), (30, _), (37, _)] ⟨rfl, rfl, rfl, rfl, rfl, rfl, rfl, rfl, rfl, rfl, rfl, rfl, trivial⟩ ?_
          refine AWP.ret ?_
          refine ain_ret ?_
          refine athen_ret ?_
          refine ⟨_, losM M b q b24 hs (treeOf ks) ks.length c, ⟨_, _, _, rfl, .inr ⟨ty_agg_25, [_, _], ty_size_25, rds_, rfl⟩, ⟨_, _, rfl, rfl, rfl⟩, rfl⟩, (Mem.less_set _ _ _ hF4.1), ?_⟩
          exact ⟨_, _, rfl, hSl, hLo⟩
        · refine AWP.condF rfl (hb) ?_
          rw [if_neg (fun h => by rw [hb] at h; exact absurd h.2 (by simp))]
          have hfq2 := fresh_more (r := ⟨32, hs, ks.length⟩) hF.fq (Ne.symm nbq)
          have hfp2 := fresh_more (r := ⟨3, (treeOf ks).map (fun x => Value.int .i64 x), c⟩) (fresh_more (r := ⟨32, hs, ks.length⟩) hF.fp (Ne.symm nbp)) (Ne.symm nqp)
          refine AWP.skip ?_
          refine ain_n ?_
          refine athen_n ?_
          refine AWP.seq ?_
          refine AWP.region ?_
          refine rC (Calm.move rfl) ?_
          refine rC (Calm.move rfl) ?_
          refine ARun.call (lit_lt rfl) go_50 rfl (((((losV_CloneU x _ M (rowR_less _ _ _ _ hx hMl) hxl).frame hF.fb).frame hfq2).frame hfp2).frame hF4) ?_
          rintro vc S5 ⟨S5a, ⟨S5b, ⟨S5c, ⟨M', hcl, fb', rfl⟩, fq', rfl⟩, fp', rfl⟩, f4', rfl⟩
          have hF' : LosF M' b q b24 := ⟨fb', (fresh_set fq').1, (fresh_set (fresh_set fp').1).1, nbq, nbp, nqp⟩
          have hr' : ∀ i (h : i < ks.length) (h' : i < hs.length), RowR M' hs[i] ks[i] := fun i h h' => rowR_less _ _ _ _ (hrM i h h') hcl.less
          have hxc : RowR M' vc x := hcl.sl (by omega)
          refine ARun.call (lit_lt rfl) go_52 rfl ((losV_Replace b q b24 ks hs ks.length c x vc M' hF' hhl rfl hc1 hc2 (by omega) hr' hxc).frame f4') ?_
          rintro _ S6 ⟨_, rfl, f4'', rfl⟩
          have hLo' : LoV (losM M' b q b24 (hs.set (win ks 1) vc) (treeOf (ks.set (win ks 1) x)) ks.length c) (.slice (some ⟨b, 0, none⟩) ks.length ks.length) (.slice (some ⟨q, 0, none⟩) ks.length c) (ks.set (win ks 1) x) (treeOf (ks.set (win ks 1) x)) := losM_lo hF' (by simp [hhl]) (by simp) hc2 (by rw [treeOf_length]; simp) (by omega) (rows_set hr' hxc)
          have hSl' : S.Less (losM M' b q b24 (hs.set (win ks 1) vc) (treeOf (ks.set (win ks 1) x)) ks.length c) := hMl.trans (hcl.less.trans (losM_less hF'))
          unfold losM at f4'' ⊢
          refine arun_nil ?_
          refine athen_n ?_
          refine AWP.sub [(0, _), (1, _), (2, _), (4, _), (5, _), (6, _), (13, _), (7, _), (8, _), (9, _), (30, _), (37, _)] ⟨rfl, rfl, rfl, rfl, rfl, rfl, rfl, rfl, rfl, rfl, rfl, rfl, trivial⟩ ?_
          refine AWP.seq ?_
          refine AWP.region ?_
          refine rC (Calm.move rfl) ?_
          refine rC (Calm.nilCheck rfl) ?_
          refine rC (Calm.fieldAddr ty_field_64_0 rfl) ?_
          refine rC (ldA_ (cs := [_, _]) ty_agg_25 ty_size_25 rfl) ?_
          first | refine ARun.storeAll rfl rfl ty_size_25 own_ rfl rfl ?_ | refine ARun.store rfl rfl ty_size_25 own_ lens_ rfl ?_
          (try simp only [Mem.set_set, List.set_cons_zero, List.set_cons_succ, Nat.zero_add, Nat.reduceAdd])
          refine rC (Calm.assign rfl) ?_
          refine arun_nil ?_
          refine athen_n ?_
          refine AWP.sub [(0, _), (1, _), (2, _), (4, _), (5, _), (6, _), (13, _), (7, _), (8, _), (9, _), (30, _), (37, _)] ⟨rfl, rfl, rfl, rfl, rfl, rfl, rfl, rfl, rfl, rfl, rfl, rfl, trivial⟩ ?_
          refine AWP.ret ?_
          refine ⟨_, losM M' b q b24 (hs.set (win ks 1) vc) (treeOf (ks.set (win ks 1) x)) ks.length c, ⟨_, _, _, rfl, .inr ⟨ty_agg_25, [_, _], ty_size_25, rds_, rfl⟩, ⟨_, _, rfl, rfl, rfl⟩, rfl⟩, (Mem.less_set _ _ _ f4''.1), ?_⟩
          exact ⟨_, _, rfl, hSl', hLo'⟩
  · rw [if_pos (by rw [hc]; simp)]
    refine ACall.enter (args := [.agg #[hk, ht], vx]) (rs := [.cell 4 25, .tmp 5]) 65 [(0, .agg #[hk, ht]), (1, vx)] Try.func20 rfl rfl (Nat.le_of_ble_eq_true rfl) rfl ⟨rfl, rfl, trivial⟩ ?_
    refine AWP.seq ?_
    refine AWP.region ?_
    refine ARun.boxA (cs := [_, _]) (lit_lt rfl) rfl ?_
    intro b2 f2
    have g2 := f2
    repeat ((with_reducible replace g2 := fresh_set g2); obtain ⟨g2, _⟩ := g2)
    (try simp only [List.length_cons, List.length_nil, Nat.zero_add, Nat.reduceAdd])
    refine ARun.alloc (lit_lt rfl) ty_zero_25 ?_
    intro b4 f4
    have g4 := f4
    repeat ((with_reducible replace g4 := fresh_set g4); obtain ⟨g4, _⟩ := g4)
    (try simp only [List.length_cons, List.length_nil, Nat.zero_add, Nat.reduceAdd])
    refine rC (Calm.assign rfl) ?_
    refine arun_nil ?_
    refine athen_n ?_
    refine AWP.seq ?_
    refine AWP.seq ?_
    refine AWP.region ?_
    refine rC (ldA_ (cs := [_, _]) ty_agg_25 ty_size_25 rfl) ?_
    refine ARun.call (lit_lt rfl) go_26 rfl (losV_Check hk ht ks tr _ (hl.less less_)) ?_
    rintro _ S1 ⟨rfl, h1⟩
    rw [h1, hc]; clear h1 S1
    refine rC (Calm.assign rfl) ?_
    refine arun_nil ?_
    refine athen_n ?_
    refine AWP.sub [(0, _), (1, _), (2, _), (4, _), (5, _), (6, _)] ⟨rfl, rfl, rfl, rfl, rfl, rfl, trivial⟩ ?_
    refine AWP.seq ?_
    refine AWP.region ?_
    refine rC (Calm.move rfl) ?_
    refine rC (Calm.bin rfl rfl b_neq) ?_
    refine arun_nil ?_
    refine athen_n ?_
    refine AWP.sub [(0, _), (1, _), (2, _), (4, _), (5, _), (6, _), (13, _)] ⟨rfl, rfl, rfl, rfl, rfl, rfl, rfl, trivial⟩ ?_
    refine AWP.condT rfl (by first | rfl | (simp; done) | (simp; omega)) ?_
    refine AWP.seq ?_
    refine AWP.region ?_
    refine rC (Calm.build (cs := [_, _]) ty_bld_25 rfl rfl) ?_
    refine rC (Calm.move rfl) ?_
    first | refine ARun.storeAll rfl rfl ty_size_25 own_ rfl rfl ?_ | refine ARun.store rfl rfl ty_size_25 own_ lens_ rfl ?_
    (try simp only [Mem.set_set, List.set_cons_zero, List.set_cons_succ, Nat.zero_add, Nat.reduceAdd])
    refine rC (Calm.assign rfl) ?_
    refine arun_nil ?_
    refine athen_n ?_
    refine AWP.sub [(0, _), (1, _), (2, _), (4, _), (5, _), (6, _), (13, _)] ⟨rfl, rfl, rfl, rfl, rfl, rfl, rfl, trivial⟩ ?_
    refine AWP.ret ?_
    refine athen_ret ?_
    refine ⟨_, S, ⟨_, _, _, rfl, .inr ⟨ty_agg_25, [_, _], ty_size_25, rds_, rfl⟩, ⟨_, _, rfl, rfl, rfl⟩, rfl⟩, less_, ?_⟩
    exact ⟨_, _, rfl, Mem.Less.refl _, loV_nil _⟩
end Go.Proofs.Ytddabbfjoejalaa
