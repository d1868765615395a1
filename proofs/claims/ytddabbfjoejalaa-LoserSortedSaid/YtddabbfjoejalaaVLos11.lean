/-
  Loser: the law LoserSorted walked.
-/
import Derived.Test.YtddabbfjoejalaaVLos10
namespace Go.Proofs.Ytddabbfjoejalaa
open Go.RowKit
open Mv Num Loser
set_option linter.unusedVariables false
set_option linter.unusedSimpArgs false
set_option maxRecDepth 4000
theorem slOf_at {S : Mem} {pa : Option Addr} {n ca : Nat} {ks : List (List Nat)} (h : SlOf RowR S (.slice pa n ca) ks) (j : Nat) (hj : j < ks.length) : ∃ b off g, pa = some ⟨b, off, none⟩ ∧ S.Knows ⟨b, off + j * 1, none⟩ [g] ∧ RowR S g (key ks j) := by
  obtain ⟨gs, hgl, ⟨pa', ca', e, a1, a2, a3⟩, hge⟩ := h
  cases e
  obtain ⟨b, off, rfl, hkn⟩ := a3.resolve_left (by intro h; rw [h] at hgl; simp at hgl; omega)
  exact ⟨b, off, gs[j]'(by omega), rfl, hkn j (by omega), by rw [key_get ks j hj]; exact hge j hj (by omega)⟩
theorem LosR.of {a : List (List Nat)} {b : List Int} {c : Int} {S S' : Mem} {r : Value} {n m : Nat} (h : LosR (a, b, c) S r S') (ha : a.length = n) (hb : b.length = m) : ∃ pa ca pt ct, r = .tuple #[.agg #[.slice pa n ca, .slice pt m ct], .int .i64 c] ∧ S.Less S' ∧ LoV S' (.slice pa n ca) (.slice pt m ct) a b := by
  subst ha hb; exact h.slices
/-- What holds between two rounds of a sorting by a tree: some are told, the rest comes behind what was told last. -/
structure SoI (ks cur : List (List Nat)) (told : List Bool) (last : List Nat) (at_ : Int) (m : Nat) : Prop where
  tl : told.length = ks.length
  cl : cur.length = ks.length
  cur_ : ∀ i, i < ks.length → key cur i = if told.getD i false = true then [] else key ks i
  told_ : ∀ i, i < ks.length → told.getD i false = true → key ks i ≠ []
  rest : ∀ j, j < ks.length → key cur j ≠ [] → lessB (key cur j) last = false ∧ (key cur j = last → at_ ≤ j)
  cnt : told.count true = m
  rl : ∀ y ∈ cur, y.length ≤ 17592186043904
theorem lessB_nil (x : List Nat) : lessB x [] = false := by cases x <;> rfl
theorem SoI.start (ks : List (List Nat)) (hr : ∀ y ∈ ks, y.length ≤ 17592186043904) : SoI ks ks (List.replicate ks.length false) [] (-1) 0 := by
  have hz : ∀ i, (List.replicate ks.length false).getD i false = false := fun i => by
    by_cases h : i < ks.length <;> simp [List.getD, h]
  exact ⟨by simp, rfl, fun i h => by rw [hz]; rfl, fun i h e => (by rw [hz] at e; cases e), fun j h e => ⟨lessB_nil _, fun e' => absurd e' e⟩, by simp [List.count_replicate], hr⟩
theorem SoI.win_ {ks cur : List (List Nat)} {told : List Bool} {last : List Nat} {at_ : Int} {m : Nat} (h : SoI ks cur told last at_ m) (hk : 1 ≤ ks.length) (he : key cur (win cur 1) ≠ []) :
    win cur 1 < ks.length ∧ told.getD (win cur 1) false = false ∧ key cur (win cur 1) = key ks (win cur 1) ∧ lessB (key cur (win cur 1)) last = false ∧ (key cur (win cur 1) = last → at_ ≤ (win cur 1 : Nat)) := by
  have hw := win_lt (ks := cur) (n := 1) (by decide) (by rw [h.cl]; omega)
  rw [h.cl] at hw
  have hc := h.cur_ _ hw
  have ht : told.getD (win cur 1) false = false := by
    cases ht : told.getD (win cur 1) false with
    | false => rfl
    | true => rw [ht] at hc; exact absurd hc he
  rw [ht] at hc
  exact ⟨hw, ht, hc, h.rest _ hw he⟩
theorem SoI.step {ks cur : List (List Nat)} {told : List Bool} {last : List Nat} {at_ : Int} {m : Nat} (h : SoI ks cur told last at_ m) (hk : 1 ≤ ks.length) (he : key cur (win cur 1) ≠ []) :
    SoI ks (cur.set (win cur 1) []) (told.set (win cur 1) true) (key cur (win cur 1)) (win cur 1 : Nat) (m + 1) := by
  obtain ⟨hw, ht, hc, _⟩ := h.win_ hk he
  have hcl := h.cl
  have hset : ∀ i, i ≠ win cur 1 → (told.set (win cur 1) true).getD i false = told.getD i false := fun i e => by simp [List.getD, Ne.symm e]
  have hsame : (told.set (win cur 1) true).getD (win cur 1) false = true := by simp [List.getD, h.tl, hw]
  refine ⟨by simp [h.tl], by simp [hcl], fun i hi => ?_, fun i hi hti => ?_, fun j hj hje => ?_, ?_, fun y hy => ?_⟩
  · by_cases e : i = win cur 1
    · subst e; rw [hsame, key_set_same _ _ _ (by omega)]; rfl
    · rw [hset i e, key_set_other _ _ _ _ e]; exact h.cur_ i hi
  · by_cases e : i = win cur 1
    · subst e; rw [← hc]; exact he
    · rw [hset i e] at hti; exact h.told_ i hi hti
  · by_cases e : j = win cur 1
    · subst e; rw [key_set_same _ _ _ (by omega)] at hje; exact absurd rfl hje
    · rw [key_set_other _ _ _ _ e] at hje ⊢
      have hb := win_beats (ks := cur) (n := 1) (i := j) (by decide) (by omega) (by omega) (under_top (by omega)) e
      unfold beatsP at hb
      rw [kLess_lessB _ _ he hje] at hb
      simp only [Bool.or_eq_true, Bool.and_eq_true, decide_eq_true_eq] at hb
      rcases hb with hb | ⟨hb, hb'⟩
      · refine ⟨?_, fun e' => ?_⟩
        · cases h' : lessB (key cur j) (key cur (win cur 1)) with
          | false => rfl
          | true => have := lessB_trans _ _ _ hb h'; rw [lessB_irrefl] at this; cases this
        · rw [e', lessB_irrefl] at hb; cases hb
      · rw [← hb]; exact ⟨lessB_irrefl _, fun _ => by omega⟩
  · have hw' : win cur 1 < told.length := by rw [h.tl]; exact hw
    rw [List.count_set hw']
    have : told[win cur 1] = false := by simpa [List.getD, hw'] using ht
    rw [this, h.cnt]; simp
  · rcases List.mem_or_eq_of_mem_set hy with hy | rfl
    · exact h.rl y hy
    · simp
theorem SoI.done1 {ks cur : List (List Nat)} {told : List Bool} {last : List Nat} {at_ : Int} {m : Nat} (h : SoI ks cur told last at_ m) (hk : 1 ≤ ks.length) (he : key cur (win cur 1) = []) :
    ∀ i, i < ks.length → told.getD i false = decide (key ks i ≠ []) := fun i hi => by
  have hcl := h.cl
  have hce : key cur i = [] := by
    by_cases e : i = win cur 1
    · rw [e]; exact he
    · have hb := win_beats (ks := cur) (n := 1) (i := i) (by decide) (by omega) (by omega) (under_top (by omega)) e
      unfold beatsP at hb
      rw [he] at hb
      simp only [kLess, Bool.false_or, Bool.and_eq_true, decide_eq_true_eq] at hb
      exact hb.1.symm
  cases ht : told.getD i false with
  | true => rw [decide_eq_true (h.told_ i hi ht)]
  | false =>
    have := h.cur_ i hi
    rw [ht, hce] at this
    rw [decide_eq_false (fun e => e this.symm)]
theorem SoI.done2 {ks cur : List (List Nat)} {told : List Bool} {last : List Nat} {at_ : Int} {m : Nat} (h : SoI ks cur told last at_ m) (hm : ks.length ≤ m) :
    ∀ i, i < ks.length → told.getD i false = decide (key ks i ≠ []) := fun i hi => by
  have hc : told.count true = told.length := by
    have := List.count_le_length (a := true) (l := told)
    have := h.cnt; have := h.tl; omega
  have hall := List.count_eq_length.1 hc
  have hi' : i < told.length := by rw [h.tl]; exact hi
  have ht : told.getD i false = true := by
    have := hall told[i] (List.getElem_mem _)
    simp [List.getD, hi', ← this]
  rw [ht, decide_eq_true (h.told_ i hi ht)]
/-- The state of the law's loop. -/
structure SoX where
  (m : Nat) (told : List Bool) (cur : List (List Nat)) (last : List Nat) (at_ : Int) (M : Mem) (lp : Option Addr) (lc : Nat) (ka : Option Addr) (kc : Nat) (ta : Option Addr) (tc : Nat)
theorem bcells_set (l : List Bool) (j : Nat) (x : Bool) : (l.map fun x => Value.bool x).set j (.bool x) = (l.set j x).map fun x => Value.bool x := by rw [List.map_set]
theorem bcells_get (l : List Bool) (j : Nat) (h : j < l.length) : (l.map fun x => Value.bool x)[j]? = some (.bool (l.getD j false)) := by simp [List.getD, h]
set_option maxHeartbeats 4000000 in
theorem law_LoserSorted (v : Value) (ks : List (List Nat)) (S : Mem) (hks : SlOf RowR S v ks) (hkl : ks.length ≤ 5864062014634) (hrow : ∀ x ∈ ks, x.length ≤ 17592186043904) :
    ACall Try.prog 5 #[v] S fun r S' => r = .bool true := by
  obtain ⟨gs, hgl, ⟨pk, ck, ev, _⟩, _⟩ := id hks
  rw [hgl] at ev
  subst ev
  by_cases hk : 1 ≤ ks.length ∧ ks.length ≤ 256
  · have hmk : makeP ks = (ks, treeOf ks, 0) := by unfold makeP; rw [if_pos hk]
    obtain ⟨hk1, hk2⟩ := hk
    refine ACall.enter (args := [.slice pk ks.length ck]) (rs := [.tmp 2]) 114 [(0, .slice pk ks.length ck)] Try.func5 rfl rfl (Nat.le_of_ble_eq_true rfl) rfl ⟨rfl, trivial⟩ ?_
    refine AWP.seq ?_
    refine AWP.region ?_
    refine rC (Calm.assign rfl) ?_
    refine arun_nil ?_
    refine athen_n ?_
    refine AWP.seq ?_
    refine AWP.seq ?_
    refine AWP.region ?_
    refine ARun.call (lit_lt rfl) go_15 rfl (losV_lives _) ?_
    rintro _ S1 ⟨rfl, h1⟩
    rw [h1]; clear h1 S1
    refine rC (Calm.un rfl (una_not _)) ?_
    refine arun_nil ?_
    refine athen_n ?_
    refine AWP.sub [(0, _), (2, _), (15, _)] ⟨rfl, rfl, rfl, trivial⟩ ?_
    refine AWP.condF rfl (by first | rfl | (simp; done) | (simp; omega)) ?_
    refine AWP.skip ?_
    refine athen_n ?_
    refine AWP.seq ?_
    refine AWP.region ?_
    refine rC (Calm.move rfl) ?_
    refine ARun.call (lit_lt rfl) go_13 rfl (losV_Make _ ks S hks hrow) ?_
    rintro _ S1 hr1
    rw [hmk] at hr1
    obtain ⟨pa1, ca1, pt1, ct1, rfl, hS1, hlo1⟩ := hr1.slices
    refine rC (Calm.move rfl) ?_
    refine rC (Calm.extract rfl rfl) ?_
    refine rC (Calm.extract rfl rfl) ?_
    refine ARun.alloc (lit_lt rfl) ty_zero_25 ?_
    intro b3 f3
    have g3 := f3
    repeat ((with_reducible replace g3 := fresh_set g3); obtain ⟨g3, _⟩ := g3)
    (try simp only [List.length_cons, List.length_nil, Nat.zero_add, Nat.reduceAdd])
    first | refine ARun.storeAll rfl rfl ty_size_25 own_ rfl rfl ?_ | refine ARun.store rfl rfl ty_size_25 own_ lens_ rfl ?_
    (try simp only [Mem.set_set, List.set_cons_zero, List.set_cons_succ, Nat.zero_add, Nat.reduceAdd])
    refine rC (Calm.assign rfl) ?_
    refine arun_nil ?_
    refine athen_n ?_
    refine AWP.sub [(0, _), (2, _), (15, _), (3, _), (4, _)] ⟨rfl, rfl, rfl, rfl, rfl, trivial⟩ ?_
    refine AWP.seq ?_
    refine AWP.seq ?_
    refine AWP.region ?_
    refine rC (Calm.move rfl) ?_
    refine rC (Calm.bin rfl rfl b_neq) ?_
    refine arun_nil ?_
    refine athen_n ?_
    refine AWP.sub [(0, _), (2, _), (15, _), (3, _), (4, _), (22, _)] ⟨rfl, rfl, rfl, rfl, rfl, rfl, trivial⟩ ?_
    refine AWP.condF rfl (by first | rfl | (simp; done) | (simp; omega)) ?_
    refine AWP.skip ?_
    refine athen_n ?_
    refine AWP.seq ?_
    refine AWP.region ?_
    refine rC (Calm.move rfl) ?_
    refine rC (Calm.lenSl Try.underlying22 rfl) ?_
    refine ARun.makeSlice (lit_lt rfl) ty_sl_43 rfl rfl (by omega) (by omega) (by omega) (by omega) ?_
    intro b33 f33
    have g33 := f33
    repeat ((with_reducible replace g33 := fresh_set g33); obtain ⟨g33, _⟩ := g33)
    refine rC (Calm.assign rfl) ?_
    refine arun_nil ?_
    refine athen_n ?_
    refine AWP.sub [(0, _), (2, _), (15, _), (3, _), (4, _), (22, _), (5, _)] ⟨rfl, rfl, rfl, rfl, rfl, rfl, rfl, trivial⟩ ?_
    simp only [Nat.mul_one, madeL_one, Int.toNat_natCast]
    have hz : ∀ n, List.replicate n (Value.bool false) = (List.replicate n false).map fun x => Value.bool x := fun n => by simp
    rw [hz]
    rw [treeOf_length ks] at *
    refine AWP.seq ?_
    refine AWP.region ?_
    refine rC (Calm.assign rfl) ?_
    refine arun_nil ?_
    refine athen_n ?_
    refine AWP.seq ?_
    refine AWP.region ?_
    refine rC (Calm.assign rfl) ?_
    refine arun_nil ?_
    refine athen_n ?_
    refine AWP.seq ?_
    refine AWP.seq ?_
    refine AWP.region ?_
    refine rC (Calm.assign rfl) ?_
    refine arun_nil ?_
    refine athen_n ?_
    refine AWP.block ?_
    refine AWP.loop (X := SoX) (fun x => [(0, .slice pk ks.length ck), (3, .pointer (some ⟨b3, 0, none⟩)), (5, .slice (some ⟨b33, 0, none⟩) ks.length ks.length), (6, .slice x.lp x.last.length x.lc), (7, .int .i64 x.at_), (8, .int .i64 x.m)]) (fun x => (x.M.set b3 ⟨25, [.slice x.ka ks.length x.kc, .slice x.ta ks.length x.tc], 2⟩).set b33 ⟨4, x.told.map fun x => Value.bool x, ks.length⟩) (fun x => x.m ≤ ks.length ∧ SoI ks x.cur x.told x.last x.at_ x.m ∧ S.Less x.M ∧ Fresh x.M b3 ∧ Fresh x.M b33 ∧ LoV x.M (.slice x.ka ks.length x.kc) (.slice x.ta ks.length x.tc) x.cur (treeOf x.cur) ∧ RowR x.M (.slice x.lp x.last.length x.lc) x.last ∧ -9223372036854775808 ≤ x.at_ ∧ x.at_ ≤ 9223372036854775807) (fun x => ks.length - x.m) (⟨0, List.replicate ks.length false, ks, [], -1, S1, none, 0, pa1, ca1, pt1, ct1⟩) ⟨rfl, rfl, rfl, rfl, rfl, rfl, trivial⟩ less_ (⟨Nat.zero_le _, SoI.start ks hrow, hS1, g3, g33, hlo1, Sl.nil _ _ _, (show (-9223372036854775808 : Int) ≤ -1 by decide), (show (-1 : Int) ≤ 9223372036854775807 by decide)⟩) ?_
    rintro ⟨m, told, cur, last, at_, M, lp, lc, ka, kc, ta, tc⟩ ⟨hm, hI, hSM, f3M, f33M, hlo, hlast, hat0, hat1⟩
    (try dsimp only at *)
    have n33 : b33 ≠ b3 := by assumption
    have f33' := fresh_more (r := ⟨25, [.slice ka ks.length kc, .slice ta ks.length tc], 2⟩) f33M n33
    have hMm : M.Less ((M.set b3 ⟨25, [.slice ka ks.length kc, .slice ta ks.length tc], 2⟩).set b33 ⟨4, told.map fun x => Value.bool x, ks.length⟩) := (Mem.less_set _ _ _ f3M.1).trans (Mem.less_set _ _ _ f33'.1)
    have htl := treeOf_length cur
    have hcl := hI.cl
    have htdl := hI.tl
    have htop := losV_Top _ _ cur (treeOf cur) M hlo hI.rl
    have hput := losV_Put _ _ _ cur (treeOf cur) [] M hlo (Sl.nil _ _ _) (Nat.zero_le _) hI.rl
    refine AWP.seq ?_
    refine AWP.seq ?_
    refine AWP.region ?_
    refine rC (Calm.move rfl) ?_
    refine rC (Calm.move rfl) ?_
    refine rC (Calm.lenSl Try.underlying22 rfl) ?_
    refine rC (Calm.bin rfl rfl b_lss) ?_
    refine arun_nil ?_
    refine athen_n ?_
    refine AWP.sub [(0, _), (3, _), (5, _), (6, _), (7, _), (8, _), (37, _)] ⟨rfl, rfl, rfl, rfl, rfl, rfl, rfl, trivial⟩ ?_
    refine AWP.condB rfl (fun hmk1 => ?_) (fun hmk1 => ?_)
    · have hmk1 : m < ks.length := by have := of_decide_eq_true hmk1; omega
      have hcs := (topP_put cur (treeOf cur) []).resolve_left (fun h => by have := h.1; rw [chk_ok ⟨by omega, by omega, rfl⟩] at this; exact absurd this (by decide))
      rcases hcs with ⟨hc, hc1, hc2, _, he, htp, hpp⟩ | ⟨hc, hc1, hc2, _, he, htp, hpp⟩
      · rw [htp] at htop
        have hdone := hI.done1 hk1 he
        refine AWP.skip ?_
        refine athen_n ?_
        refine AWP.seq ?_
        refine AWP.block ?_
        refine AWP.seq ?_
        refine AWP.region ?_
        refine rC (ldA_ (cs := [_, _]) ty_agg_25 ty_size_25 rfl) ?_
        refine ARun.call (lit_lt rfl) go_18 rfl ((htop.frame f3M).frame f33') ?_
        rintro _ S2 ⟨S2a, ⟨Mt, ⟨v43, rfl, hMt, hv43⟩, f3t, rfl⟩, f33t, rfl⟩
        refine rC (Calm.move rfl) ?_
        refine rC (Calm.extract rfl rfl) ?_
        refine rC (Calm.extract rfl rfl) ?_
        refine rC (Calm.extract rfl rfl) ?_
        refine rC (Calm.assign rfl) ?_
        refine rC (Calm.assign rfl) ?_
        refine rC (Calm.assign rfl) ?_
        refine arun_nil ?_
        refine athen_n ?_
        refine AWP.sub [(0, _), (3, _), (5, _), (6, _), (7, _), (8, _), (37, _), (9, _), (10, _), (11, _)] ⟨rfl, rfl, rfl, rfl, rfl, rfl, rfl, rfl, rfl, rfl, trivial⟩ ?_
        refine AWP.seq ?_
        refine AWP.seq ?_
        refine AWP.region ?_
        refine rC (Calm.move rfl) ?_
        refine rC (Calm.bin rfl rfl b_neq) ?_
        refine arun_nil ?_
        refine athen_n ?_
        refine AWP.sub [(0, _), (3, _), (5, _), (6, _), (7, _), (8, _), (37, _), (9, _), (10, _), (11, _), (47, _)] ⟨rfl, rfl, rfl, rfl, rfl, rfl, rfl, rfl, rfl, rfl, rfl, trivial⟩ ?_
        refine AWP.condT rfl (by first | rfl | (simp; done) | (simp; omega)) ?_
        have hSm : S.Less ((Mt.set b3 ⟨25, [.slice ka ks.length kc, .slice ta ks.length tc], 2⟩).set b33 ⟨4, told.map fun x => Value.bool x, ks.length⟩) := (hSM.trans hMt).trans ((Mem.less_set _ _ _ f3t.1).trans (Mem.less_set _ _ _ f33t.1))
        have hown := Mem.own_set_same (Mt.set b3 ⟨25, [.slice ka ks.length kc, .slice ta ks.length tc], 2⟩) b33 ⟨4, told.map fun x => Value.bool x, ks.length⟩
        refine AWP.exit ?_
        refine athen_exit ?_
        refine ain_other rfl ?_
        refine athen_exit ?_
        refine athen_exit ?_
        refine ain_same ?_
        refine athen_n ?_
        refine AWP.seq ?_
        refine AWP.seq ?_
        refine AWP.region ?_
        refine rC (Calm.move rfl) ?_
        refine rC (Calm.lenSl Try.underlying22 rfl) ?_
        refine rC (Calm.move rfl) ?_
        refine arun_nil ?_
        refine athen_n ?_
        refine AWP.block ?_
        refine AWP.loop (X := Nat) (fun x => [(0, .slice pk ks.length ck), (5, .slice (some ⟨b33, 0, none⟩) ks.length ks.length), (98, .slice pk ks.length ck), (99, .int .i64 ks.length), (100, .int .i64 x)]) (fun x => (Mt.set b3 ⟨25, [.slice ka ks.length kc, .slice ta ks.length tc], 2⟩).set b33 ⟨4, told.map fun x => Value.bool x, ks.length⟩) (fun x => x ≤ ks.length) (fun x => ks.length - x) (0) ⟨rfl, rfl, rfl, rfl, rfl, trivial⟩ (Mem.Less.refl _) (Nat.zero_le _) ?_
        rintro j hj0
        (try dsimp only at *)
        refine AWP.seq ?_
        refine AWP.region ?_
        refine rC (Calm.bin rfl rfl b_lss) ?_
        refine arun_nil ?_
        refine athen_n ?_
        refine AWP.seq ?_
        refine AWP.condB rfl (fun hj => ?_) (fun hj => ?_)
        · have hj : j < ks.length := by have := of_decide_eq_true hj; omega
          obtain ⟨b0, off, g, rfl, hkk, hr⟩ := slOf_at hks j hj
          obtain ⟨qx, dx, rfl, x1, x2, _⟩ := id hr
          replace hkk := hkk.less hSm
          have k1 := kn_cell hown j (bcells_get told j (by rw [hI.tl]; exact hj))
          rw [hdone j hj] at k1
          have hd : decide ((0 : Int) < ((key ks j).length : Int)) = decide (key ks j ≠ []) := by rw [Bool.eq_iff_iff]; simp only [decide_eq_true_eq, ne_eq, ← List.length_eq_zero_iff]; omega
          refine AWP.skip ?_
          refine athen_n ?_
          refine AWP.seq ?_
          refine AWP.block ?_
          refine AWP.seq ?_
          refine AWP.region ?_
          refine rC (Calm.move rfl) ?_
          refine rC (Calm.indexS Try.underlying22 ty_size_32 rfl rfl (by omega) (by omega)) ?_
          refine rC (ld_ ty_plain_32 rfl) ?_
          refine rC (Calm.assign rfl) ?_
          refine rC (Calm.assign rfl) ?_
          refine arun_nil ?_
          refine athen_n ?_
          refine AWP.sub [(0, _), (5, _), (98, _), (99, _), (100, _), (101, _), (12, _), (13, _)] ⟨rfl, rfl, rfl, rfl, rfl, rfl, rfl, rfl, trivial⟩ ?_
          refine AWP.seq ?_
          refine AWP.region ?_
          refine rC (Calm.move rfl) ?_
          refine rC (Calm.move rfl) ?_
          refine rC (Calm.indexS Try.underlying43 ty_size_4 rfl rfl (by omega) (by omega)) ?_
          refine rC (ld_ ty_plain_4 rfl) ?_
          refine rC (Calm.move rfl) ?_
          refine rC (Calm.lenSl Try.underlying32 rfl) ?_
          refine rC (Calm.bin rfl rfl (bin_bool (bin_gtr _ _) hd)) ?_
          refine rC (Calm.bin rfl rfl (bin_bool (bin_bool_neq _ _ Try.underlying4) (by simp : (!(decide (key ks j ≠ []) == decide (key ks j ≠ []))) = false))) ?_
          refine arun_nil ?_
          refine athen_n ?_
          refine AWP.sub [(0, _), (5, _), (98, _), (99, _), (100, _), (101, _), (12, _), (13, _), (112, _)] ⟨rfl, rfl, rfl, rfl, rfl, rfl, rfl, rfl, rfl, trivial⟩ ?_
          refine AWP.condF rfl (by first | rfl | (simp; done) | (simp; omega)) ?_
          refine AWP.skip ?_
          refine ain_n ?_
          refine athen_n ?_
          refine AWP.region ?_
          refine rC (Calm.bin rfl rfl b_add_i64) ?_
          refine rC (Calm.move rfl) ?_
          refine arun_nil ?_
          refine athen_n ?_
          refine ⟨j + 1, ?_, ?_, ?_, ?_⟩
          all_goals (try dsimp only)
          · exact ⟨rfl, rfl, rfl, rfl, rfl, trivial⟩
          · exact Mem.Less.refl _
          · exact hj
          · omega
        · refine AWP.exit ?_
          refine athen_exit ?_
          refine athen_exit ?_
          refine ain_same ?_
          refine athen_n ?_
          refine AWP.seq ?_
          refine AWP.region ?_
          refine rC (Calm.assign rfl) ?_
          refine arun_nil ?_
          refine athen_n ?_
          refine AWP.ret ?_
          refine ⟨_, _, ⟨_, _, rfl, rfl, rfl⟩, less_, ?_⟩
          rfl
      · rw [htp] at htop
        refine AWP.skip ?_
        refine athen_n ?_
        refine AWP.seq ?_
        refine AWP.block ?_
        refine AWP.seq ?_
        refine AWP.region ?_
        refine rC (ldA_ (cs := [_, _]) ty_agg_25 ty_size_25 rfl) ?_
        refine ARun.call (lit_lt rfl) go_18 rfl ((htop.frame f3M).frame f33') ?_
        rintro _ S2 ⟨S2a, ⟨Mt, ⟨v43, rfl, hMt, hv43⟩, f3t, rfl⟩, f33t, rfl⟩
        refine rC (Calm.move rfl) ?_
        refine rC (Calm.extract rfl rfl) ?_
        refine rC (Calm.extract rfl rfl) ?_
        refine rC (Calm.extract rfl rfl) ?_
        refine rC (Calm.assign rfl) ?_
        refine rC (Calm.assign rfl) ?_
        refine rC (Calm.assign rfl) ?_
        refine arun_nil ?_
        refine athen_n ?_
        refine AWP.sub [(0, _), (3, _), (5, _), (6, _), (7, _), (8, _), (37, _), (9, _), (10, _), (11, _)] ⟨rfl, rfl, rfl, rfl, rfl, rfl, rfl, rfl, rfl, rfl, trivial⟩ ?_
        refine AWP.seq ?_
        refine AWP.seq ?_
        refine AWP.region ?_
        refine rC (Calm.move rfl) ?_
        refine rC (Calm.bin rfl rfl b_neq) ?_
        refine arun_nil ?_
        refine athen_n ?_
        refine AWP.sub [(0, _), (3, _), (5, _), (6, _), (7, _), (8, _), (37, _), (9, _), (10, _), (11, _), (47, _)] ⟨rfl, rfl, rfl, rfl, rfl, rfl, rfl, rfl, rfl, rfl, rfl, trivial⟩ ?_
        refine AWP.condF rfl (by first | rfl | (simp; done) | (simp; omega)) ?_
        obtain ⟨hw, htw, hkw, hlw, haw⟩ := hI.win_ hk1 he
        have hSM1 : S.Less ((Mt.set b3 ⟨25, [.slice ka ks.length kc, .slice ta ks.length tc], 2⟩).set b33 ⟨4, told.map fun x => Value.bool x, ks.length⟩) := (hSM.trans hMt).trans ((Mem.less_set _ _ _ f3t.1).trans (Mem.less_set _ _ _ f33t.1))
        have hMt1 : Mt.Less ((Mt.set b3 ⟨25, [.slice ka ks.length kc, .slice ta ks.length tc], 2⟩).set b33 ⟨4, told.map fun x => Value.bool x, ks.length⟩) := (Mem.less_set _ _ _ f3t.1).trans (Mem.less_set _ _ _ f33t.1)
        obtain ⟨b0, off, g, rfl, hkk, hr⟩ := slOf_at hks (win cur 1) hw
        replace hkk := hkk.less hSM1
        replace hr := rowR_less _ _ _ _ hr hSM1
        have k1 := kn_cell (Mem.own_set_same (Mt.set b3 ⟨25, [.slice ka ks.length kc, .slice ta ks.length tc], 2⟩) b33 ⟨4, told.map fun x => Value.bool x, ks.length⟩) (win cur 1) (bcells_get told _ (by rw [hI.tl]; exact hw))
        rw [htw] at k1
        replace hlast := rowR_less _ _ _ _ hlast (hMt.trans hMt1)
        have hv43' := rowR_less _ _ _ _ hv43 hMt1
        have hstep := hI.step hk1 he
        obtain ⟨p43, c43, rfl, _⟩ := id hv43
        simp only [] at *
        by_cases heq : key cur (win cur 1) = last
        · have haw2 := haw heq
          refine AWP.skip ?_
          refine athen_n ?_
          refine AWP.seq ?_
          refine AWP.seq ?_
          refine AWP.region ?_
          refine rC (Calm.move rfl) ?_
          refine rC (Calm.bin rfl rfl b_lss) ?_
          refine rC (Calm.move rfl) ?_
          first | refine rS 50 ?_ | refine rU 50 ?_ | refine rG 50 (Calm.move rfl) ?_
          first | refine rS 50 ?_ | refine rU 50 ?_ | refine rG 50 (Calm.move rfl) ?_
          first | refine rS 50 ?_ | refine rU 50 ?_ | refine rG 50 (Calm.lenSl Try.underlying22 rfl) ?_
          first | refine rS 50 ?_ | refine rU 50 ?_ | refine rG 50 (Calm.bin rfl rfl b_geq) ?_
          refine rC ((by first | exact Calm.pickT rfl rfl | exact Calm.pickF rfl rfl)) ?_
          refine rC (Calm.move rfl) ?_
          first | refine rS 56 ?_ | refine rU 56 ?_ | refine rG 56 (Calm.move rfl) ?_
          first | refine rS 56 ?_ | refine rU 56 ?_ | refine rG 56 (Calm.move rfl) ?_
          first | refine rS 56 ?_ | refine rU 56 ?_ | refine rG 56 (Calm.indexS Try.underlying43 ty_size_4 rfl rfl (by omega) (by omega)) ?_
          first | refine rS 56 ?_ | refine rU 56 ?_ | refine rG 56 (ld_ ty_plain_4 rfl) ?_
          refine rC ((by first | exact Calm.pickT rfl rfl | exact Calm.pickF rfl rfl)) ?_
          refine rC (Calm.move rfl) ?_
          first | refine rS 62 ?_ | refine rU 62 ?_ | refine rG 62 (Calm.move rfl) ?_
          first | refine rS 62 ?_ | refine rU 62 ?_ | refine rG 62 (Calm.move rfl) ?_
          first | refine rS 62 ?_ | refine rU 62 ?_ | refine rG 62 (Calm.move rfl) ?_
          first | refine rS 62 ?_ | refine rU 62 ?_ | refine rG 62 (Calm.indexS Try.underlying22 ty_size_32 rfl rfl (by omega) (by omega)) ?_
          first | refine rS 62 ?_ | refine rU 62 ?_ | refine rG 62 (ld_ ty_plain_32 rfl) ?_
          refine ARun.callG 14 false 62 rfl (lit_lt rfl) rfl (lit_lt rfl) go_24 rfl (rnumV_SameOne _ _ _ _ _ hv43' hr) ?_
          rintro _ S4 ⟨rfl, h1⟩
          rw [h1, decide_eq_true hkw]; clear h1 S4
          first | refine rS 62 ?_ | refine rU 62 ?_ | refine rG 62 (Calm.un rfl (una_not _)) ?_
          refine rC ((by first | exact Calm.pickT rfl rfl | exact Calm.pickF rfl rfl)) ?_
          refine rC (Calm.move rfl) ?_
          first | refine rS 71 ?_ | refine rU 71 ?_ | refine rG 71 (Calm.move rfl) ?_
          first | refine rS 71 ?_ | refine rU 71 ?_ | refine rG 71 (Calm.move rfl) ?_
          refine ARun.callG 23 false 71 rfl (lit_lt rfl) rfl (lit_lt rfl) go_28 rfl (numV_Less _ _ _ _ _ hv43' hlast) ?_
          rintro _ S4 ⟨rfl, h1⟩
          rw [h1, hlw]; clear h1 S4
          refine rC ((by first | exact Calm.pickT rfl rfl | exact Calm.pickF rfl rfl)) ?_
          refine rC (Calm.move rfl) ?_
          first | refine rS 76 ?_ | refine rU 76 ?_ | refine rG 76 (Calm.move rfl) ?_
          first | refine rS 76 ?_ | refine rU 76 ?_ | refine rG 76 (Calm.move rfl) ?_
          refine ARun.callG 28 false 76 rfl (lit_lt rfl) rfl (lit_lt rfl) go_24 rfl (rnumV_SameOne _ _ _ _ _ hv43' hlast) ?_
          rintro _ S4 ⟨rfl, h1⟩
          rw [h1, decide_eq_true heq]; clear h1 S4
          first | refine rS 76 ?_ | refine rU 76 ?_ | refine rG 76 (Calm.move rfl) ?_
          first | refine rS 80 ?_ | refine rU 80 ?_ | refine rG 80 (Calm.move rfl) ?_
          first | refine rS 80 ?_ | refine rU 80 ?_ | refine rG 80 (Calm.move rfl) ?_
          first | refine rS 80 ?_ | refine rU 80 ?_ | refine rG 80 (Calm.bin rfl rfl b_lss) ?_
          first | refine rS 76 ?_ | refine rU 76 ?_ | refine rG 76 ((by first | exact Calm.pickT rfl rfl | exact Calm.pickF rfl rfl)) ?_
          refine rC ((by first | exact Calm.pickT rfl rfl | exact Calm.pickF rfl rfl)) ?_
          refine arun_nil ?_
          refine athen_n ?_
          refine AWP.sub [(0, _), (3, _), (5, _), (6, _), (7, _), (8, _), (37, _), (9, _), (10, _), (11, _), (47, _), (85, _)] ⟨rfl, rfl, rfl, rfl, rfl, rfl, rfl, rfl, rfl, rfl, rfl, rfl, trivial⟩ ?_
          refine AWP.condF rfl (by first | rfl | (simp; done) | (simp; omega)) ?_
          refine AWP.skip ?_
          refine athen_n ?_
          refine AWP.seq ?_
          refine AWP.region ?_
          refine rC (Calm.move rfl) ?_
          refine rC (Calm.move rfl) ?_
          refine rC (Calm.indexS Try.underlying43 ty_size_4 rfl rfl (by omega) (by omega)) ?_
          refine ARun.store1 rfl rfl ty_size_4 rfl own_ lens_ rfl ?_
          (try simp only [Mem.set_set, List.set_cons_zero, List.set_cons_succ, Nat.zero_add, Nat.reduceAdd])
          refine arun_nil ?_
          refine athen_n ?_
          refine AWP.sub [(0, _), (3, _), (5, _), (6, _), (7, _), (8, _), (37, _), (9, _), (10, _), (11, _), (47, _), (85, _)] ⟨rfl, rfl, rfl, rfl, rfl, rfl, rfl, rfl, rfl, rfl, rfl, rfl, trivial⟩ ?_
          simp only [Nat.zero_add, Nat.mul_one, Int.toNat_natCast, bcells_set]
          refine AWP.seq ?_
          refine AWP.region ?_
          refine rC (Calm.move rfl) ?_
          refine rC (Calm.assign rfl) ?_
          refine arun_nil ?_
          refine athen_n ?_
          refine AWP.sub [(0, _), (3, _), (5, _), (6, _), (7, _), (8, _), (37, _), (9, _), (10, _), (11, _), (47, _), (85, _)] ⟨rfl, rfl, rfl, rfl, rfl, rfl, rfl, rfl, rfl, rfl, rfl, rfl, trivial⟩ ?_
          refine AWP.seq ?_
          refine AWP.region ?_
          refine rC (Calm.move rfl) ?_
          refine rC (Calm.assign rfl) ?_
          refine arun_nil ?_
          refine athen_n ?_
          refine AWP.sub [(0, _), (3, _), (5, _), (6, _), (7, _), (8, _), (37, _), (9, _), (10, _), (11, _), (47, _), (85, _)] ⟨rfl, rfl, rfl, rfl, rfl, rfl, rfl, rfl, rfl, rfl, rfl, rfl, trivial⟩ ?_
          refine AWP.seq ?_
          refine AWP.region ?_
          refine rC (ldA_ (cs := [_, _]) ty_agg_25 ty_size_25 rfl) ?_
          refine ARun.call (lit_lt rfl) go_20 rfl (((losV_Put _ _ _ cur (treeOf cur) [] Mt (hlo.less hMt) (Sl.nil _ _ _) (Nat.zero_le _) hI.rl).frame f3t).frame f33t) ?_
          rintro _ S5 ⟨S5a, ⟨Mu, hr5, f3u, rfl⟩, f33u, rfl⟩
          rw [hpp, if_neg (fun h => h.1 rfl)] at hr5
          obtain ⟨p5, c5, q5, d5, rfl, hMu, hlo5⟩ := hr5.of (n := ks.length) (m := ks.length) (by rw [List.length_set, hcl]) (by rw [treeOf_length, List.length_set, hcl])
          have f33m := (fresh_set f33u).1
          refine rC (Calm.move rfl) ?_
          refine rC (Calm.extract rfl rfl) ?_
          refine rC (Calm.extract rfl rfl) ?_
          first | refine ARun.storeAll rfl rfl ty_size_25 own_ rfl rfl ?_ | refine ARun.store rfl rfl ty_size_25 own_ lens_ rfl ?_
          (try simp only [Mem.set_set, List.set_cons_zero, List.set_cons_succ, Nat.zero_add, Nat.reduceAdd])
          refine rC (Calm.assign rfl) ?_
          refine arun_nil ?_
          refine athen_n ?_
          refine AWP.sub [(0, _), (3, _), (5, _), (6, _), (7, _), (8, _), (37, _), (9, _), (10, _), (11, _), (47, _), (85, _)] ⟨rfl, rfl, rfl, rfl, rfl, rfl, rfl, rfl, rfl, rfl, rfl, rfl, trivial⟩ ?_
          refine AWP.seq ?_
          refine AWP.region ?_
          refine rC (Calm.move rfl) ?_
          refine rC (Calm.bin rfl rfl b_neq) ?_
          refine arun_nil ?_
          refine athen_n ?_
          refine AWP.sub [(0, _), (3, _), (5, _), (6, _), (7, _), (8, _), (37, _), (9, _), (10, _), (11, _), (47, _), (85, _), (97, _)] ⟨rfl, rfl, rfl, rfl, rfl, rfl, rfl, rfl, rfl, rfl, rfl, rfl, rfl, trivial⟩ ?_
          refine AWP.condF rfl (by first | rfl | (simp; done) | (simp; omega)) ?_
          refine AWP.skip ?_
          refine ain_n ?_
          refine athen_n ?_
          refine AWP.region ?_
          refine rC (Calm.move rfl) ?_
          refine rC (Calm.bin rfl rfl b_add_i64) ?_
          refine rC (Calm.assign rfl) ?_
          refine arun_nil ?_
          refine athen_n ?_
          refine ⟨⟨m + 1, told.set (win cur 1) true, cur.set (win cur 1) [], key cur (win cur 1), (win cur 1 : Nat), Mu, p43, c43, p5, c5, q5, d5⟩, ?_, ?_, ?_, ?_⟩
          all_goals (try dsimp only)
          · exact ⟨rfl, rfl, rfl, rfl, rfl, rfl, trivial⟩
          · exact less_
          · exact ⟨hmk1, hstep, (hSM.trans hMt).trans hMu, f3u, f33m, hlo5, rowR_less _ _ _ _ hv43 hMu, by omega, by omega⟩
          · omega
        · refine AWP.skip ?_
          refine athen_n ?_
          refine AWP.seq ?_
          refine AWP.seq ?_
          refine AWP.region ?_
          refine rC (Calm.move rfl) ?_
          refine rC (Calm.bin rfl rfl b_lss) ?_
          refine rC (Calm.move rfl) ?_
          first | refine rS 50 ?_ | refine rU 50 ?_ | refine rG 50 (Calm.move rfl) ?_
          first | refine rS 50 ?_ | refine rU 50 ?_ | refine rG 50 (Calm.move rfl) ?_
          first | refine rS 50 ?_ | refine rU 50 ?_ | refine rG 50 (Calm.lenSl Try.underlying22 rfl) ?_
          first | refine rS 50 ?_ | refine rU 50 ?_ | refine rG 50 (Calm.bin rfl rfl b_geq) ?_
          refine rC ((by first | exact Calm.pickT rfl rfl | exact Calm.pickF rfl rfl)) ?_
          refine rC (Calm.move rfl) ?_
          first | refine rS 56 ?_ | refine rU 56 ?_ | refine rG 56 (Calm.move rfl) ?_
          first | refine rS 56 ?_ | refine rU 56 ?_ | refine rG 56 (Calm.move rfl) ?_
          first | refine rS 56 ?_ | refine rU 56 ?_ | refine rG 56 (Calm.indexS Try.underlying43 ty_size_4 rfl rfl (by omega) (by omega)) ?_
          first | refine rS 56 ?_ | refine rU 56 ?_ | refine rG 56 (ld_ ty_plain_4 rfl) ?_
          refine rC ((by first | exact Calm.pickT rfl rfl | exact Calm.pickF rfl rfl)) ?_
          refine rC (Calm.move rfl) ?_
          first | refine rS 62 ?_ | refine rU 62 ?_ | refine rG 62 (Calm.move rfl) ?_
          first | refine rS 62 ?_ | refine rU 62 ?_ | refine rG 62 (Calm.move rfl) ?_
          first | refine rS 62 ?_ | refine rU 62 ?_ | refine rG 62 (Calm.move rfl) ?_
          first | refine rS 62 ?_ | refine rU 62 ?_ | refine rG 62 (Calm.indexS Try.underlying22 ty_size_32 rfl rfl (by omega) (by omega)) ?_
          first | refine rS 62 ?_ | refine rU 62 ?_ | refine rG 62 (ld_ ty_plain_32 rfl) ?_
          refine ARun.callG 14 false 62 rfl (lit_lt rfl) rfl (lit_lt rfl) go_24 rfl (rnumV_SameOne _ _ _ _ _ hv43' hr) ?_
          rintro _ S4 ⟨rfl, h1⟩
          rw [h1, decide_eq_true hkw]; clear h1 S4
          first | refine rS 62 ?_ | refine rU 62 ?_ | refine rG 62 (Calm.un rfl (una_not _)) ?_
          refine rC ((by first | exact Calm.pickT rfl rfl | exact Calm.pickF rfl rfl)) ?_
          refine rC (Calm.move rfl) ?_
          first | refine rS 71 ?_ | refine rU 71 ?_ | refine rG 71 (Calm.move rfl) ?_
          first | refine rS 71 ?_ | refine rU 71 ?_ | refine rG 71 (Calm.move rfl) ?_
          refine ARun.callG 23 false 71 rfl (lit_lt rfl) rfl (lit_lt rfl) go_28 rfl (numV_Less _ _ _ _ _ hv43' hlast) ?_
          rintro _ S4 ⟨rfl, h1⟩
          rw [h1, hlw]; clear h1 S4
          refine rC ((by first | exact Calm.pickT rfl rfl | exact Calm.pickF rfl rfl)) ?_
          refine rC (Calm.move rfl) ?_
          first | refine rS 76 ?_ | refine rU 76 ?_ | refine rG 76 (Calm.move rfl) ?_
          first | refine rS 76 ?_ | refine rU 76 ?_ | refine rG 76 (Calm.move rfl) ?_
          refine ARun.callG 28 false 76 rfl (lit_lt rfl) rfl (lit_lt rfl) go_24 rfl (rnumV_SameOne _ _ _ _ _ hv43' hlast) ?_
          rintro _ S4 ⟨rfl, h1⟩
          rw [h1, decide_eq_false heq]; clear h1 S4
          first | refine rS 76 ?_ | refine rU 76 ?_ | refine rG 76 (Calm.move rfl) ?_
          first | refine rS 80 ?_ | refine rU 80 ?_ | refine rG 80 (Calm.move rfl) ?_
          first | refine rS 80 ?_ | refine rU 80 ?_ | refine rG 80 (Calm.move rfl) ?_
          first | refine rS 80 ?_ | refine rU 80 ?_ | refine rG 80 (Calm.bin rfl rfl b_lss) ?_
          first | refine rS 76 ?_ | refine rU 76 ?_ | refine rG 76 ((by first | exact Calm.pickT rfl rfl | exact Calm.pickF rfl rfl)) ?_
          refine rC ((by first | exact Calm.pickT rfl rfl | exact Calm.pickF rfl rfl)) ?_
          refine arun_nil ?_
          refine athen_n ?_
          refine AWP.sub [(0, _), (3, _), (5, _), (6, _), (7, _), (8, _), (37, _), (9, _), (10, _), (11, _), (47, _), (85, _)] ⟨rfl, rfl, rfl, rfl, rfl, rfl, rfl, rfl, rfl, rfl, rfl, rfl, trivial⟩ ?_
          refine AWP.condF rfl (by first | rfl | (simp; done) | (simp; omega)) ?_
          refine AWP.skip ?_
          refine athen_n ?_
          refine AWP.seq ?_
          refine AWP.region ?_
          refine rC (Calm.move rfl) ?_
          refine rC (Calm.move rfl) ?_
          refine rC (Calm.indexS Try.underlying43 ty_size_4 rfl rfl (by omega) (by omega)) ?_
          refine ARun.store1 rfl rfl ty_size_4 rfl own_ lens_ rfl ?_
          (try simp only [Mem.set_set, List.set_cons_zero, List.set_cons_succ, Nat.zero_add, Nat.reduceAdd])
          refine arun_nil ?_
          refine athen_n ?_
          refine AWP.sub [(0, _), (3, _), (5, _), (6, _), (7, _), (8, _), (37, _), (9, _), (10, _), (11, _), (47, _), (85, _)] ⟨rfl, rfl, rfl, rfl, rfl, rfl, rfl, rfl, rfl, rfl, rfl, rfl, trivial⟩ ?_
          simp only [Nat.zero_add, Nat.mul_one, Int.toNat_natCast, bcells_set]
          refine AWP.seq ?_
          refine AWP.region ?_
          refine rC (Calm.move rfl) ?_
          refine rC (Calm.assign rfl) ?_
          refine arun_nil ?_
          refine athen_n ?_
          refine AWP.sub [(0, _), (3, _), (5, _), (6, _), (7, _), (8, _), (37, _), (9, _), (10, _), (11, _), (47, _), (85, _)] ⟨rfl, rfl, rfl, rfl, rfl, rfl, rfl, rfl, rfl, rfl, rfl, rfl, trivial⟩ ?_
          refine AWP.seq ?_
          refine AWP.region ?_
          refine rC (Calm.move rfl) ?_
          refine rC (Calm.assign rfl) ?_
          refine arun_nil ?_
          refine athen_n ?_
          refine AWP.sub [(0, _), (3, _), (5, _), (6, _), (7, _), (8, _), (37, _), (9, _), (10, _), (11, _), (47, _), (85, _)] ⟨rfl, rfl, rfl, rfl, rfl, rfl, rfl, rfl, rfl, rfl, rfl, rfl, trivial⟩ ?_
          refine AWP.seq ?_
          refine AWP.region ?_
          refine rC (ldA_ (cs := [_, _]) ty_agg_25 ty_size_25 rfl) ?_
          refine ARun.call (lit_lt rfl) go_20 rfl (((losV_Put _ _ _ cur (treeOf cur) [] Mt (hlo.less hMt) (Sl.nil _ _ _) (Nat.zero_le _) hI.rl).frame f3t).frame f33t) ?_
          rintro _ S5 ⟨S5a, ⟨Mu, hr5, f3u, rfl⟩, f33u, rfl⟩
          rw [hpp, if_neg (fun h => h.1 rfl)] at hr5
          obtain ⟨p5, c5, q5, d5, rfl, hMu, hlo5⟩ := hr5.of (n := ks.length) (m := ks.length) (by rw [List.length_set, hcl]) (by rw [treeOf_length, List.length_set, hcl])
          have f33m := (fresh_set f33u).1
          refine rC (Calm.move rfl) ?_
          refine rC (Calm.extract rfl rfl) ?_
          refine rC (Calm.extract rfl rfl) ?_
          first | refine ARun.storeAll rfl rfl ty_size_25 own_ rfl rfl ?_ | refine ARun.store rfl rfl ty_size_25 own_ lens_ rfl ?_
          (try simp only [Mem.set_set, List.set_cons_zero, List.set_cons_succ, Nat.zero_add, Nat.reduceAdd])
          refine rC (Calm.assign rfl) ?_
          refine arun_nil ?_
          refine athen_n ?_
          refine AWP.sub [(0, _), (3, _), (5, _), (6, _), (7, _), (8, _), (37, _), (9, _), (10, _), (11, _), (47, _), (85, _)] ⟨rfl, rfl, rfl, rfl, rfl, rfl, rfl, rfl, rfl, rfl, rfl, rfl, trivial⟩ ?_
          refine AWP.seq ?_
          refine AWP.region ?_
          refine rC (Calm.move rfl) ?_
          refine rC (Calm.bin rfl rfl b_neq) ?_
          refine arun_nil ?_
          refine athen_n ?_
          refine AWP.sub [(0, _), (3, _), (5, _), (6, _), (7, _), (8, _), (37, _), (9, _), (10, _), (11, _), (47, _), (85, _), (97, _)] ⟨rfl, rfl, rfl, rfl, rfl, rfl, rfl, rfl, rfl, rfl, rfl, rfl, rfl, trivial⟩ ?_
          refine AWP.condF rfl (by first | rfl | (simp; done) | (simp; omega)) ?_
          refine AWP.skip ?_
          refine ain_n ?_
          refine athen_n ?_
          refine AWP.region ?_
          refine rC (Calm.move rfl) ?_
          refine rC (Calm.bin rfl rfl b_add_i64) ?_
          refine rC (Calm.assign rfl) ?_
          refine arun_nil ?_
          refine athen_n ?_
          refine ⟨⟨m + 1, told.set (win cur 1) true, cur.set (win cur 1) [], key cur (win cur 1), (win cur 1 : Nat), Mu, p43, c43, p5, c5, q5, d5⟩, ?_, ?_, ?_, ?_⟩
          all_goals (try dsimp only)
          · exact ⟨rfl, rfl, rfl, rfl, rfl, rfl, trivial⟩
          · exact less_
          · exact ⟨hmk1, hstep, (hSM.trans hMt).trans hMu, f3u, f33m, hlo5, rowR_less _ _ _ _ hv43 hMu, by omega, by omega⟩
          · omega
    · have hmk1 : ks.length ≤ m := by have := of_decide_eq_false hmk1; omega
      have hdone := hI.done2 hmk1
      have hSm : S.Less ((M.set b3 ⟨25, [.slice ka ks.length kc, .slice ta ks.length tc], 2⟩).set b33 ⟨4, told.map fun x => Value.bool x, ks.length⟩) := hSM.trans hMm
      have hown := Mem.own_set_same (M.set b3 ⟨25, [.slice ka ks.length kc, .slice ta ks.length tc], 2⟩) b33 ⟨4, told.map fun x => Value.bool x, ks.length⟩
      refine AWP.exit ?_
      refine athen_exit ?_
      refine athen_exit ?_
      refine ain_same ?_
      refine athen_n ?_
      refine AWP.seq ?_
      refine AWP.seq ?_
      refine AWP.region ?_
      refine rC (Calm.move rfl) ?_
      refine rC (Calm.lenSl Try.underlying22 rfl) ?_
      refine rC (Calm.move rfl) ?_
      refine arun_nil ?_
      refine athen_n ?_
      refine AWP.block ?_
      refine AWP.loop (X := Nat) (fun x => [(0, .slice pk ks.length ck), (5, .slice (some ⟨b33, 0, none⟩) ks.length ks.length), (98, .slice pk ks.length ck), (99, .int .i64 ks.length), (100, .int .i64 x)]) (fun x => (M.set b3 ⟨25, [.slice ka ks.length kc, .slice ta ks.length tc], 2⟩).set b33 ⟨4, told.map fun x => Value.bool x, ks.length⟩) (fun x => x ≤ ks.length) (fun x => ks.length - x) (0) ⟨rfl, rfl, rfl, rfl, rfl, trivial⟩ (Mem.Less.refl _) (Nat.zero_le _) ?_
      rintro j hj0
      (try dsimp only at *)
      refine AWP.seq ?_
      refine AWP.region ?_
      refine rC (Calm.bin rfl rfl b_lss) ?_
      refine arun_nil ?_
      refine athen_n ?_
      refine AWP.seq ?_
      refine AWP.condB rfl (fun hj => ?_) (fun hj => ?_)
      · have hj : j < ks.length := by have := of_decide_eq_true hj; omega
        obtain ⟨b0, off, g, rfl, hkk, hr⟩ := slOf_at hks j hj
        obtain ⟨qx, dx, rfl, x1, x2, _⟩ := id hr
        replace hkk := hkk.less hSm
        have k1 := kn_cell hown j (bcells_get told j (by rw [hI.tl]; exact hj))
        rw [hdone j hj] at k1
        have hd : decide ((0 : Int) < ((key ks j).length : Int)) = decide (key ks j ≠ []) := by rw [Bool.eq_iff_iff]; simp only [decide_eq_true_eq, ne_eq, ← List.length_eq_zero_iff]; omega
        refine AWP.skip ?_
        refine athen_n ?_
        refine AWP.seq ?_
        refine AWP.block ?_
        refine AWP.seq ?_
        refine AWP.region ?_
        refine rC (Calm.move rfl) ?_
        refine rC (Calm.indexS Try.underlying22 ty_size_32 rfl rfl (by omega) (by omega)) ?_
        refine rC (ld_ ty_plain_32 rfl) ?_
        refine rC (Calm.assign rfl) ?_
        refine rC (Calm.assign rfl) ?_
        refine arun_nil ?_
        refine athen_n ?_
        refine AWP.sub [(0, _), (5, _), (98, _), (99, _), (100, _), (101, _), (12, _), (13, _)] ⟨rfl, rfl, rfl, rfl, rfl, rfl, rfl, rfl, trivial⟩ ?_
        refine AWP.seq ?_
        refine AWP.region ?_
        refine rC (Calm.move rfl) ?_
        refine rC (Calm.move rfl) ?_
        refine rC (Calm.indexS Try.underlying43 ty_size_4 rfl rfl (by omega) (by omega)) ?_
        refine rC (ld_ ty_plain_4 rfl) ?_
        refine rC (Calm.move rfl) ?_
        refine rC (Calm.lenSl Try.underlying32 rfl) ?_
        refine rC (Calm.bin rfl rfl (bin_bool (bin_gtr _ _) hd)) ?_
        refine rC (Calm.bin rfl rfl (bin_bool (bin_bool_neq _ _ Try.underlying4) (by simp : (!(decide (key ks j ≠ []) == decide (key ks j ≠ []))) = false))) ?_
        refine arun_nil ?_
        refine athen_n ?_
        refine AWP.sub [(0, _), (5, _), (98, _), (99, _), (100, _), (101, _), (12, _), (13, _), (112, _)] ⟨rfl, rfl, rfl, rfl, rfl, rfl, rfl, rfl, rfl, trivial⟩ ?_
        refine AWP.condF rfl (by first | rfl | (simp; done) | (simp; omega)) ?_
        refine AWP.skip ?_
        refine ain_n ?_
        refine athen_n ?_
        refine AWP.region ?_
        refine rC (Calm.bin rfl rfl b_add_i64) ?_
        refine rC (Calm.move rfl) ?_
        refine arun_nil ?_
        refine athen_n ?_
        refine ⟨j + 1, ?_, ?_, ?_, ?_⟩
        all_goals (try dsimp only)
        · exact ⟨rfl, rfl, rfl, rfl, rfl, trivial⟩
        · exact Mem.Less.refl _
        · exact hj
        · omega
      · refine AWP.exit ?_
        refine athen_exit ?_
        refine athen_exit ?_
        refine ain_same ?_
        refine athen_n ?_
        refine AWP.seq ?_
        refine AWP.region ?_
        refine rC (Calm.assign rfl) ?_
        refine arun_nil ?_
        refine athen_n ?_
        refine AWP.ret ?_
        refine ⟨_, _, ⟨_, _, rfl, rfl, rfl⟩, less_, ?_⟩
        rfl
  · have hmk : makeP ks = ([], [], 1) := by unfold makeP; rw [if_neg hk]
    by_cases hk0 : ks.length = 0
    · have hk00 := hk0
      refine ACall.enter (args := [.slice pk ks.length ck]) (rs := [.tmp 2]) 114 [(0, .slice pk ks.length ck)] Try.func5 rfl rfl (Nat.le_of_ble_eq_true rfl) rfl ⟨rfl, trivial⟩ ?_
      refine AWP.seq ?_
      refine AWP.region ?_
      refine rC (Calm.assign rfl) ?_
      refine arun_nil ?_
      refine athen_n ?_
      refine AWP.seq ?_
      refine AWP.seq ?_
      refine AWP.region ?_
      refine ARun.call (lit_lt rfl) go_15 rfl (losV_lives _) ?_
      rintro _ S1 ⟨rfl, h1⟩
      rw [h1]; clear h1 S1
      refine rC (Calm.un rfl (una_not _)) ?_
      refine arun_nil ?_
      refine athen_n ?_
      refine AWP.sub [(0, _), (2, _), (15, _)] ⟨rfl, rfl, rfl, trivial⟩ ?_
      refine AWP.condF rfl (by first | rfl | (simp; done) | (simp; omega)) ?_
      refine AWP.skip ?_
      refine athen_n ?_
      refine AWP.seq ?_
      refine AWP.region ?_
      refine rC (Calm.move rfl) ?_
      refine ARun.call (lit_lt rfl) go_13 rfl (losV_Make _ ks S hks hrow) ?_
      rintro _ S1 hr1
      rw [hmk] at hr1
      obtain ⟨pa1, ca1, pt1, ct1, rfl, hS1, hlo1⟩ := hr1.slices
      refine rC (Calm.move rfl) ?_
      refine rC (Calm.extract rfl rfl) ?_
      refine rC (Calm.extract rfl rfl) ?_
      refine ARun.alloc (lit_lt rfl) ty_zero_25 ?_
      intro b3 f3
      have g3 := f3
      repeat ((with_reducible replace g3 := fresh_set g3); obtain ⟨g3, _⟩ := g3)
      (try simp only [List.length_cons, List.length_nil, Nat.zero_add, Nat.reduceAdd])
      first | refine ARun.storeAll rfl rfl ty_size_25 own_ rfl rfl ?_ | refine ARun.store rfl rfl ty_size_25 own_ lens_ rfl ?_
      (try simp only [Mem.set_set, List.set_cons_zero, List.set_cons_succ, Nat.zero_add, Nat.reduceAdd])
      refine rC (Calm.assign rfl) ?_
      refine arun_nil ?_
      refine athen_n ?_
      refine AWP.sub [(0, _), (2, _), (15, _), (3, _), (4, _)] ⟨rfl, rfl, rfl, rfl, rfl, trivial⟩ ?_
      refine AWP.seq ?_
      refine AWP.seq ?_
      refine AWP.region ?_
      refine rC (Calm.move rfl) ?_
      refine rC (Calm.bin rfl rfl b_neq) ?_
      refine arun_nil ?_
      refine athen_n ?_
      refine AWP.sub [(0, _), (2, _), (15, _), (3, _), (4, _), (22, _)] ⟨rfl, rfl, rfl, rfl, rfl, rfl, trivial⟩ ?_
      refine AWP.condT rfl (by first | rfl | (simp; done) | (simp; omega)) ?_
      refine AWP.seq ?_
      refine AWP.region ?_
      refine rC (Calm.move rfl) ?_
      refine rC (Calm.lenSl Try.underlying22 rfl) ?_
      refine rC (Calm.bin rfl rfl b_eql) ?_
      refine rC (Calm.move rfl) ?_
      first | refine rS 26 ?_ | refine rU 26 ?_ | refine rG 26 (Calm.move rfl) ?_
      first | refine rS 26 ?_ | refine rU 26 ?_ | refine rG 26 (Calm.lenSl Try.underlying22 rfl) ?_
      first | refine rS 26 ?_ | refine rU 26 ?_ | refine rG 26 (Calm.bin rfl rfl b_gtr) ?_
      refine rC ((by first | exact Calm.pickT rfl rfl | exact Calm.pickF rfl rfl)) ?_
      refine rC (Calm.assign rfl) ?_
      refine arun_nil ?_
      refine athen_n ?_
      refine AWP.sub [(0, _), (2, _), (15, _), (3, _), (4, _), (22, _)] ⟨rfl, rfl, rfl, rfl, rfl, rfl, trivial⟩ ?_
      refine AWP.ret ?_
      refine athen_ret ?_
      refine ⟨_, _, ⟨_, _, rfl, rfl, rfl⟩, less_, ?_⟩
      rfl
    · have hk00 := hk0
      have hk1 : 256 < ks.length := by omega
      refine ACall.enter (args := [.slice pk ks.length ck]) (rs := [.tmp 2]) 114 [(0, .slice pk ks.length ck)] Try.func5 rfl rfl (Nat.le_of_ble_eq_true rfl) rfl ⟨rfl, trivial⟩ ?_
      refine AWP.seq ?_
      refine AWP.region ?_
      refine rC (Calm.assign rfl) ?_
      refine arun_nil ?_
      refine athen_n ?_
      refine AWP.seq ?_
      refine AWP.seq ?_
      refine AWP.region ?_
      refine ARun.call (lit_lt rfl) go_15 rfl (losV_lives _) ?_
      rintro _ S1 ⟨rfl, h1⟩
      rw [h1]; clear h1 S1
      refine rC (Calm.un rfl (una_not _)) ?_
      refine arun_nil ?_
      refine athen_n ?_
      refine AWP.sub [(0, _), (2, _), (15, _)] ⟨rfl, rfl, rfl, trivial⟩ ?_
      refine AWP.condF rfl (by first | rfl | (simp; done) | (simp; omega)) ?_
      refine AWP.skip ?_
      refine athen_n ?_
      refine AWP.seq ?_
      refine AWP.region ?_
      refine rC (Calm.move rfl) ?_
      refine ARun.call (lit_lt rfl) go_13 rfl (losV_Make _ ks S hks hrow) ?_
      rintro _ S1 hr1
      rw [hmk] at hr1
      obtain ⟨pa1, ca1, pt1, ct1, rfl, hS1, hlo1⟩ := hr1.slices
      refine rC (Calm.move rfl) ?_
      refine rC (Calm.extract rfl rfl) ?_
      refine rC (Calm.extract rfl rfl) ?_
      refine ARun.alloc (lit_lt rfl) ty_zero_25 ?_
      intro b3 f3
      have g3 := f3
      repeat ((with_reducible replace g3 := fresh_set g3); obtain ⟨g3, _⟩ := g3)
      (try simp only [List.length_cons, List.length_nil, Nat.zero_add, Nat.reduceAdd])
      first | refine ARun.storeAll rfl rfl ty_size_25 own_ rfl rfl ?_ | refine ARun.store rfl rfl ty_size_25 own_ lens_ rfl ?_
      (try simp only [Mem.set_set, List.set_cons_zero, List.set_cons_succ, Nat.zero_add, Nat.reduceAdd])
      refine rC (Calm.assign rfl) ?_
      refine arun_nil ?_
      refine athen_n ?_
      refine AWP.sub [(0, _), (2, _), (15, _), (3, _), (4, _)] ⟨rfl, rfl, rfl, rfl, rfl, trivial⟩ ?_
      refine AWP.seq ?_
      refine AWP.seq ?_
      refine AWP.region ?_
      refine rC (Calm.move rfl) ?_
      refine rC (Calm.bin rfl rfl b_neq) ?_
      refine arun_nil ?_
      refine athen_n ?_
      refine AWP.sub [(0, _), (2, _), (15, _), (3, _), (4, _), (22, _)] ⟨rfl, rfl, rfl, rfl, rfl, rfl, trivial⟩ ?_
      refine AWP.condT rfl (by first | rfl | (simp; done) | (simp; omega)) ?_
      refine AWP.seq ?_
      refine AWP.region ?_
      refine rC (Calm.move rfl) ?_
      refine rC (Calm.lenSl Try.underlying22 rfl) ?_
      refine rC (Calm.bin rfl rfl b_eql) ?_
      refine rC (Calm.move rfl) ?_
      first | refine rS 26 ?_ | refine rU 26 ?_ | refine rG 26 (Calm.move rfl) ?_
      first | refine rS 26 ?_ | refine rU 26 ?_ | refine rG 26 (Calm.lenSl Try.underlying22 rfl) ?_
      first | refine rS 26 ?_ | refine rU 26 ?_ | refine rG 26 (Calm.bin rfl rfl b_gtr) ?_
      refine rC ((by first | exact Calm.pickT rfl rfl | exact Calm.pickF rfl rfl)) ?_
      refine rC (Calm.assign rfl) ?_
      refine arun_nil ?_
      refine athen_n ?_
      refine AWP.sub [(0, _), (2, _), (15, _), (3, _), (4, _), (22, _)] ⟨rfl, rfl, rfl, rfl, rfl, rfl, trivial⟩ ?_
      refine AWP.ret ?_
      refine athen_ret ?_
      refine ⟨_, _, ⟨_, _, rfl, rfl, rfl⟩, less_, ?_⟩
      rfl
theorem walk_LoserSorted (p : Option Addr) (n c : Nat) (ks : List (List Nat)) (w : World) (hks : SlOf RowR (roM w) (.slice p n c) ks) (hb : ∀ x ∈ ks, ∀ n ∈ x, n < 18446744073709551616) (hl : ks.length ≤ 5864062014634) (hr : ∀ x ∈ ks, x.length ≤ 17592186043904) :
    Calls Try.prog 5 #[.slice p n c] w fun e w' => e = .returned (.bool true) ∧ Below w.heap.size w w' :=
  ACall.callsW (law_LoserSorted _ ks _ hks hl hr)
end Go.Proofs.Ytddabbfjoejalaa
