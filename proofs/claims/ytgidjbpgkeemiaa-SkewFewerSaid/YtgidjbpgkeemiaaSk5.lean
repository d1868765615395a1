/-
  Skew: the reduced list, by the program.
-/
import Derived.Test.YtgidjbpgkeemiaaSk4
import Derived.Laws.StructEq
namespace Go.Proofs.Ytgidjbpgkeemiaa
open Go.RowKit
open Mv Num Loser Skew Srt
set_option linter.unusedVariables false
set_option linter.unusedSimpArgs false
set_option maxRecDepth 4000
theorem bin_arr3 {P : Program} {t e : TypeId} {x y : Operand} (ht : P.underlying t = some (.array 3 e)) (he : sizeT P e = some 1) (hi : P.underlying e = some (.int .u64)) (hg : P.eqGuardType P.depth t = false) (a0 a1 a2 b0 b1 b2 : Nat) :
    Bin P .neq t x y (.agg #[gU a0, gU a1, gU a2]) (.agg #[gU b0, gU b1, gU b2]) (.bool (!decide ([a0, a1, a2] = [b0, b1, b2]))) := fun w => by
  have hs := run_sizeT he w
  have h1 : ∀ d a b, (Op.equalIn (d + 1) e (gU a) (gU b)).run P w = .ok (decide (a = b)) w := fun d a b => by
    unfold gU
    rw [run_equalIn_int w d e .u64 .u64 _ _ hi]
    congr 1
    rw [Bool.eq_iff_iff]; simp only [beq_iff_eq, decide_eq_true_eq]; omega
  simp only [Sem.run_bind, run_eqGuard_agg w .neq t x y _ _ hg, Result.andThen_ok, run_neq_struct]
  have hE : ∀ d, (Op.equalIn (d + 1 + 1) t (.agg #[gU a0, gU a1, gU a2]) (.agg #[gU b0, gU b1, gU b2])).run P w = .ok (decide ([a0, a1, a2] = [b0, b1, b2])) w := fun d => by
    have hp : ∀ (cs : Array Value) (k : Nat) (v : Value), cs[k]? = some v → (part e cs k).run P w = .ok v w := fun cs k v hv => by
      have hpl : plainT P e = true := by unfold plainT; rw [hi]
      simp only [part, Sem.run_bind, run_isAgg_f hpl, Result.andThen_ok, Bool.false_eq_true, if_false, hv, Sem.run_pure]
    rw [Op.equalIn]
    simp only [Sem.run_bind, run_underlying ht, Result.andThen_ok, hs, Std.Legacy.Range.forIn_eq_forIn_range', Std.Legacy.Range.size, Nat.sub_zero, Nat.add_sub_cancel, Nat.div_one, List.range'_succ, List.range'_zero, List.forIn_cons, List.forIn_nil]
    have p0 : ∀ u0 u1 u2 : Value, (part e #[u0, u1, u2] 0).run P w = .ok u0 w := fun u0 u1 u2 => hp _ 0 _ rfl
    have p1 : ∀ u0 u1 u2 : Value, (part e #[u0, u1, u2] 1).run P w = .ok u1 w := fun u0 u1 u2 => hp _ 1 _ rfl
    have p2 : ∀ u0 u1 u2 : Value, (part e #[u0, u1, u2] 2).run P w = .ok u2 w := fun u0 u1 u2 => hp _ 2 _ rfl
    by_cases c0 : a0 = b0 <;> by_cases c1 : a1 = b1 <;> by_cases c2 : a2 = b2 <;> simp [c0, c1, c2, p0, p1, p2, h1]
  rw [hE 9998]; rfl
def redM (S : Mem) (b1 b6 p : Nat) : Mem := (S.set b1 ⟨76, [.pointer (some ⟨p, 0, none⟩)], 1⟩).set b6 ⟨118, [keyF b1], 1⟩
def triNe (l : List Nat) (a b : Nat) : Bool := !decide (tri l a = tri l b)
/-- What the sort hands back. -/
theorem sorted_keys (l : List Nat) (m : Nat) (d' : Array Nat) (hd : d' = Go.Sort.pdq (lq fun a b => cmpB (tkey l a) (tkey l b)) (List.range m).toArray 0 m (Go.Sort.bitsLen m) true true) :
    d'.toList.Perm (List.range m) ∧ ∀ i j, i < j → j < d'.toList.length → lessB (tkey l (d'.toList.getD j 0)) (tkey l (d'.toList.getD i 0)) = false := by
  have hO : Go.Sort.SWO (lq fun a b => cmpB (tkey l a) (tkey l b)) := by
    have e : ∀ a b, lq (fun a b => cmpB (tkey l a) (tkey l b)) a b = lessB (tkey l a) (tkey l b) := fun a b => cmpB_lt _ _
    exact ⟨fun a => by rw [e]; exact lessB_irrefl _, fun a b c => by rw [e, e, e]; exact lessB_trans _ _ _, fun a b c => by rw [e, e, e]; exact Ord.lessB_neg _ _ _⟩
  have hsz : (List.range m).toArray.size = m := by simp
  obtain ⟨h1, h2⟩ := Go.Sort.pdq_sorts _ hO (List.range m).toArray 0 m (Go.Sort.bitsLen m) true true (Nat.zero_le _) (by rw [hsz]; exact Nat.le_refl _) (Or.inl rfl)
  rw [← hd] at h1 h2
  have hs : d'.size = m := by rw [h1.1, hsz]
  have hp : d'.toList.Perm (List.range m) := by
    have := h1.2.2
    rw [show d'.extract 0 m = d' by rw [← hs]; simp, show (List.range m).toArray.extract 0 m = (List.range m).toArray by simp] at this
    simpa using this
  refine ⟨hp, fun i j hij hj => ?_⟩
  have hj' : j < m := by simpa [hs] using hj
  have := h2 i j (Nat.zero_le _) hij hj'
  unfold lq at this
  rw [cmpB_lt] at this
  rw [getD_get _ _ _ hj, getD_get _ _ _ (by omega)]
  rw [getElem!_pos d' j (by omega), getElem!_pos d' i (by omega)] at this
  simpa using this
theorem names_out (l e o : List Nat) (hp : e.Perm (List.range (numP l.length))) (hs : ∀ i j, i < j → j < e.length → lessB (tkey l (e.getD j 0)) (tkey l (e.getD i 0)) = false) (ho : o.length = numP l.length)
    (hat : ∀ j, j < e.length → o.getD (e.getD j 0) 0 = 1 + Ord.ups (fun a b => lessB (tkey l a) (tkey l b)) e j) : o = red l := by
  have hn := ups_names (tkey l) _ e hp hs
  refine List.ext_getElem (by rw [ho, red_length]) fun k h1 h2 => ?_
  obtain ⟨j, hj, e1⟩ := List.getElem_of_mem (hp.mem_iff.2 (List.mem_range.2 (by rw [← ho]; exact h1)))
  have hj2 : e.getD j 0 = k := by rw [getD_get _ _ _ hj]; exact e1
  have := hat j hj
  rw [hn j hj, hj2, getD_get _ _ _ h1] at this
  rw [this, red_at]; rfl
theorem names_next (l e : List Nat) (i : Nat) (hs : ∀ i j, i < j → j < e.length → lessB (tkey l (e.getD j 0)) (tkey l (e.getD i 0)) = false) (hi : i < e.length) :
    (if (decide (i = 0) || !decide (tkey l (e.getD (i - 1) 0) = tkey l (e.getD i 0))) = true then (if i = 0 then 0 else 1 + Ord.ups (fun a b => lessB (tkey l a) (tkey l b)) e (i - 1)) + 1 else (if i = 0 then 0 else 1 + Ord.ups (fun a b => lessB (tkey l a) (tkey l b)) e (i - 1))) = 1 + Ord.ups (fun a b => lessB (tkey l a) (tkey l b)) e i := by
  cases i with
  | zero => rfl
  | succ i =>
    rw [if_neg (Nat.succ_ne_zero i), Nat.add_sub_cancel, Ord.ups]
    have h1 := hs i (i + 1) (by omega) hi
    by_cases hk : tkey l (e.getD i 0) = tkey l (e.getD (i + 1) 0)
    · rw [decide_eq_false (Nat.succ_ne_zero i), Bool.false_or, decide_eq_true hk, hk, lessB_irrefl]; rfl
    · have h2 : lessB (tkey l (e.getD i 0)) (tkey l (e.getD (i + 1) 0)) = true := by
        cases hc : lessB (tkey l (e.getD i 0)) (tkey l (e.getD (i + 1) 0)) with
        | true => rfl
        | false => exact absurd (lessB_total _ _ hc h1) hk
      rw [decide_eq_false (Nat.succ_ne_zero i), Bool.false_or, decide_eq_false hk, h2, if_pos rfl]; show 1 + _ + 1 = _; omega
theorem names_set (l e o : List Nat) {m i k nx : Nat} (hp : e.Perm (List.range m)) (ho : o.length = m) (hi : i < e.length) (q4 : ∀ j, j < i → o.getD (e.getD j 0) 0 = 1 + Ord.ups (fun a b => lessB (tkey l a) (tkey l b)) e j) (hek : e.getD i 0 = k) (hnn : nx = 1 + Ord.ups (fun a b => lessB (tkey l a) (tkey l b)) e i) :
    ∀ j, j < i + 1 → (o.set k nx).getD (e.getD j 0) 0 = 1 + Ord.ups (fun a b => lessB (tkey l a) (tkey l b)) e j := by
  intro j hj
  have hlt : ∀ q, q < e.length → e.getD q 0 < m := fun q hq => by rw [getD_get e q 0 hq]; exact List.mem_range.1 (hp.mem_iff.1 (List.getElem_mem hq))
  have hk := hlt i hi
  rcases Nat.lt_or_ge j i with h | h
  · have hne : k ≠ e.getD j 0 := fun h' => by
      have hnd : e.Nodup := hp.nodup_iff.2 List.nodup_range
      rw [← hek, getD_get e i 0 hi, getD_get e j 0 (by omega)] at h'
      exact absurd h'.symm (List.pairwise_iff_getElem.1 hnd j i (by omega) hi h)
    rw [List.getD_eq_getElem?_getD, List.getElem?_set_ne hne, ← List.getD_eq_getElem?_getD, q4 j h]
  · obtain rfl : j = i := by omega
    rw [hek, List.getD_eq_getElem?_getD, List.getElem?_set_self (by omega), hnn]; rfl
theorem many_zero (l : List Nat) (h : numP l.length = 0) : many l = 0 := many_of l 0 (fun y hy => by have := red_le l y hy; omega) (.inr rfl)
set_option maxHeartbeats 4000000 in
theorem sk_reduced (p : Nat) (l : List Nat) (S : Mem) (hv : LvR S p l) (hl : l.length ≤ 4096) :
    ACall Try.prog 63 #[.pointer (some ⟨p, 0, none⟩)] S fun r S' => ∃ u, r = .tuple #[u, .int .i64 (many l : Nat)] ∧ RdL gU (red l) S u S' := by
  have hv0 := hv
  obtain ⟨vt, vs, h1, h2, h3, h4⟩ := hv
  obtain ⟨ps, pc, rfl, p1, p2, p3⟩ := id h4
  have hml := places_le l.length hl
  obtain ⟨m, hmm⟩ : ∃ m, m = (places l.length).length := ⟨_, rfl⟩
  have hnp : numP l.length = m := hmm.symm
  rw [← hmm] at h2 p1 p2 hml
  refine ACall.enter (args := [.pointer (some ⟨p, 0, none⟩)]) (rs := [.tmp 2, .tmp 3]) 84 [(0, .pointer (some ⟨p, 0, none⟩))] Try.func63 rfl rfl (Nat.le_of_ble_eq_true rfl) rfl ⟨rfl, trivial⟩ ?_
  refine AWP.seq ?_
  refine AWP.region ?_
  refine ARun.box1 (lit_lt rfl) rfl rfl ?_
  intro b1 f1
  have g1 := f1
  repeat ((with_reducible replace g1 := fresh_set g1); obtain ⟨g1, _⟩ := g1)
  (try simp only [List.length_cons, List.length_nil, Nat.zero_add, Nat.reduceAdd])
  refine rC (Calm.assign rfl) ?_
  refine rC (Calm.assign rfl) ?_
  refine arun_nil ?_
  refine athen_n ?_
  refine AWP.seq ?_
  refine AWP.region ?_
  refine rC (ld_ ty_plain_76 rfl) ?_
  refine rC (Calm.nilCheck rfl) ?_
  refine rC (Calm.fieldAddr ty_field_78_1 rfl) ?_
  refine rC (ld_ ty_plain_24 rfl) ?_
  refine rC (Calm.lenSl Try.underlying24 rfl) ?_
  refine ARun.makeSlice (lit_lt rfl) ty_sl_24 rfl rfl (by omega) (by omega) (by omega) (by omega) ?_
  intro b16 f16
  have g16 := f16
  repeat ((with_reducible replace g16 := fresh_set g16); obtain ⟨g16, _⟩ := g16)
  refine rC (Calm.assign rfl) ?_
  refine arun_nil ?_
  refine athen_n ?_
  refine AWP.sub [(0, _), (1, _), (2, _), (3, _), (4, _)] ⟨rfl, rfl, rfl, rfl, rfl, trivial⟩ ?_
  simp only [Nat.mul_one, madeL_one, Int.toNat_natCast]
  refine AWP.seq ?_
  refine AWP.seq ?_
  refine AWP.region ?_
  refine rC (Calm.move rfl) ?_
  refine rC (Calm.lenSl Try.underlying24 rfl) ?_
  refine rC (Calm.move rfl) ?_
  refine arun_nil ?_
  refine athen_n ?_
  refine AWP.sub [(0, _), (1, _), (2, _), (3, _), (4, _), (18, _), (19, _)] ⟨rfl, rfl, rfl, rfl, rfl, rfl, rfl, trivial⟩ ?_
  refine AWP.block ?_
  refine AWP.loop (X := Nat) (fun x => [(1, .pointer (some ⟨b1, 0, none⟩)), (4, .slice (some ⟨b16, 0, none⟩) m m), (18, .int .i64 m), (19, .int .i64 x)]) (fun x => (S.set b1 ⟨76, [.pointer (some ⟨p, 0, none⟩)], 1⟩).set b16 ⟨3, (List.range x).map gI ++ List.replicate (m - x) (gI 0), m⟩) (fun x => x ≤ m) (fun x => m - x) (0) ⟨rfl, rfl, rfl, rfl, trivial⟩ (Mem.Less.refl _) (Nat.zero_le _) ?_
  rintro i hi
  (try dsimp only at *)
  by_cases hc : i < m
  · refine AWP.seq ?_
    refine AWP.region ?_
    refine rC (Calm.bin rfl rfl b_lss) ?_
    refine arun_nil ?_
    refine athen_n ?_
    refine AWP.seq ?_
    refine AWP.condT rfl (by first | rfl | (simp; done) | (simp; omega)) ?_
    have hlr : ((List.range i).map gI ++ List.replicate (m - i) (gI 0)).length = m := by simp; omega
    refine AWP.skip ?_
    refine athen_n ?_
    refine AWP.seq ?_
    refine AWP.block ?_
    refine AWP.seq ?_
    refine AWP.region ?_
    refine rC (Calm.move rfl) ?_
    refine rC (Calm.assign rfl) ?_
    refine arun_nil ?_
    refine athen_n ?_
    refine AWP.sub [(1, _), (4, _), (18, _), (19, _), (20, _), (5, _)] ⟨rfl, rfl, rfl, rfl, rfl, rfl, trivial⟩ ?_
    refine AWP.region ?_
    refine rC (Calm.move rfl) ?_
    refine rC (Calm.move rfl) ?_
    refine rC (Calm.move rfl) ?_
    refine rC (Calm.indexS Try.underlying24 ty_size_3 rfl rfl (by omega) (by omega)) ?_
    refine ARun.store1 rfl rfl ty_size_3 rfl own_ lens_ rfl ?_
    (try simp only [Mem.set_set, List.set_cons_zero, List.set_cons_succ, Nat.zero_add, Nat.reduceAdd])
    refine arun_nil ?_
    refine ain_n ?_
    refine athen_n ?_
    refine AWP.sub [(1, _), (4, _), (18, _), (19, _), (20, _), (5, _)] ⟨rfl, rfl, rfl, rfl, rfl, rfl, trivial⟩ ?_
    simp only [Nat.zero_add, Nat.mul_one, Int.toNat_natCast]
    rw [show (Value.int .i64 (i : Int)) = gI i from rfl, fill_map gI (List.range i) 0 m i i (by simp) hc, ← List.range_succ]
    refine AWP.region ?_
    refine rC (Calm.bin rfl rfl b_add_i64) ?_
    refine rC (Calm.move rfl) ?_
    refine arun_nil ?_
    refine athen_n ?_
    refine ⟨i + 1, ?_, ?_, ?_, ?_⟩
    all_goals (try dsimp only)
    · exact ⟨sq_, sq_, sq_, sq_, trivial⟩
    · exact Mem.Less.refl _
    · exact hc
    · omega
  · obtain rfl : m = i := by omega
    refine AWP.seq ?_
    refine AWP.region ?_
    refine rC (Calm.bin rfl rfl b_lss) ?_
    refine arun_nil ?_
    refine athen_n ?_
    refine AWP.seq ?_
    refine AWP.condF rfl (by first | rfl | (simp; done) | (simp; omega)) ?_
    rw [Nat.sub_self, List.replicate_zero, List.append_nil]
    refine AWP.exit ?_
    refine athen_exit ?_
    refine athen_exit ?_
    refine ain_same ?_
    refine athen_n ?_
    refine AWP.seq ?_
    refine AWP.region ?_
    refine rC (Calm.makeFunc rfl rfl) ?_
    refine ARun.alloc (lit_lt rfl) ty_zero_118 ?_
    intro b6 f6
    have g6 := f6
    repeat ((with_reducible replace g6 := fresh_set g6); obtain ⟨g6, _⟩ := g6)
    (try simp only [List.length_cons, List.length_nil, Nat.zero_add, Nat.reduceAdd])
    refine ARun.store1 rfl rfl ty_size_118 rfl own_ lens_ rfl ?_
    (try simp only [Mem.set_set, List.set_cons_zero, List.set_cons_succ, Nat.zero_add, Nat.reduceAdd])
    refine arun_nil ?_
    refine athen_n ?_
    refine AWP.sub [(1, _), (4, _), (18, _), (19, _), (20, _), (6, _)] ⟨rfl, rfl, rfl, rfl, rfl, rfl, trivial⟩ ?_
    refine AWP.less ((redM S b1 b6 p).set b16 ⟨3, (List.range m).toArray.toList.map gI, m⟩) (by unfold redM keyF; exact less_) ?_
    have fr1 : Fresh (redM S b1 b6 p) b16 := fresh_more (fresh_more g16 ne_) ne_
    have o1 : (redM S b1 b6 p).own b1 = some ⟨76, [.pointer (some ⟨p, 0, none⟩)], 1⟩ := by unfold redM; exact own_
    have o6 : (redM S b1 b6 p).own b6 = some ⟨118, [keyF b1], 1⟩ := by unfold redM; exact own_
    have hless : S.Less (redM S b1 b6 p) := by unfold redM; exact less_
    obtain ⟨S0, hS0⟩ : ∃ S0, S0 = redM S b1 b6 p := ⟨_, rfl⟩
    rw [← hS0] at fr1 o1 o6 hless ⊢
    have hC : CmpC Try.prog gI (fun a b => cmpB (tkey l a) (tkey l b)) (fun k => k < m) 102 [.pointer (some ⟨b6, 0, none⟩)] S0 := ⟨fun x => ⟨rfl, rfl⟩, go_102, fun x y hx hy => sk_kcmp x y b6 b1 p l S0 (Mem.own_knows o6 0 _ (fun j v hj => by rw [Nat.zero_add]; exact hj)) (Mem.own_knows o1 0 _ (fun j v hj => by rw [Nat.zero_add]; exact hj)) (hv0.less hless) (by omega) (by omega) hl⟩
    have hR : Rw (fun k => k < m) m (List.range m).toArray := ⟨by simp, fun i hi => by rw [getElem!_pos _ i (by simpa using hi)]; simpa using hi⟩
    have hsort := soC_sort hC b16 m m m fr1 (by omega) (List.range m).toArray hR
    obtain ⟨d', hd'⟩ : ∃ d', d' = Go.Sort.pdq (lq fun a b => cmpB (tkey l a) (tkey l b)) (List.range m).toArray 0 m (Go.Sort.bitsLen m) true true := ⟨_, rfl⟩
    rw [← hd'] at hsort
    obtain ⟨hp, hs⟩ := sorted_keys l m d' hd'
    obtain ⟨e, he⟩ : ∃ e, e = d'.toList := ⟨_, rfl⟩
    rw [← he] at hsort hp hs
    have hel : e.length = m := by rw [hp.length_eq, List.length_range]
    clear hR hC hd'
    refine AWP.seq ?_
    refine AWP.region ?_
    refine rC (Calm.move rfl) ?_
    refine rC (Calm.makeFunc rfl rfl) ?_
    refine ARun.call (lit_lt rfl) go_101 rfl (hsort) ?_
    rintro _ _ ⟨rfl, _⟩
    obtain ⟨T, hT⟩ : ∃ T, T = S0.set b16 ⟨3, e.map gI, m⟩ := ⟨_, rfl⟩
    have hST : S0.Less T := by rw [hT]; exact Mem.less_set _ _ _ fr1.1
    have oe : T.own b16 = some ⟨3, e.map gI, m⟩ := by rw [hT]; exact Mem.own_set_same _ _ _
    rw [← hT]
    replace o1 := hST.own o1
    replace hless := hless.trans hST
    clear hsort fr1 o6 hST hS0 hT he f6 g6 f16
    refine arun_nil ?_
    refine athen_n ?_
    refine AWP.sub [(1, _), (4, _), (18, _), (19, _), (20, _), (6, _)] ⟨rfl, rfl, rfl, rfl, rfl, rfl, trivial⟩ ?_
    refine AWP.seq ?_
    refine AWP.region ?_
    refine rC (Calm.move rfl) ?_
    refine rC (Calm.lenSl Try.underlying24 rfl) ?_
    refine ARun.makeSlice (lit_lt rfl) ty_sl_22 rfl rfl (by omega) (by omega) (by omega) (by omega) ?_
    intro b33 f33
    have g33 := f33
    repeat ((with_reducible replace g33 := fresh_set g33); obtain ⟨g33, _⟩ := g33)
    refine rC (Calm.assign rfl) ?_
    refine arun_nil ?_
    refine athen_n ?_
    refine AWP.sub [(1, _), (4, _), (18, _), (19, _), (20, _), (6, _), (7, _)] ⟨rfl, rfl, rfl, rfl, rfl, rfl, rfl, trivial⟩ ?_
    simp only [Nat.mul_one, madeL_one, Int.toNat_natCast]
    refine AWP.seq ?_
    refine AWP.region ?_
    refine rC (Calm.assign rfl) ?_
    refine arun_nil ?_
    refine athen_n ?_
    refine AWP.seq ?_
    refine AWP.seq ?_
    refine AWP.region ?_
    refine rC (Calm.move rfl) ?_
    refine rC (Calm.lenSl Try.underlying24 rfl) ?_
    refine rC (Calm.move rfl) ?_
    refine arun_nil ?_
    refine athen_n ?_
    refine AWP.block ?_
    refine AWP.loop (X := Nat × List Nat × Nat) (fun x => [(1, .pointer (some ⟨b1, 0, none⟩)), (4, .slice (some ⟨b16, 0, none⟩) m m), (7, .slice (some ⟨b33, 0, none⟩) m m), (8, .int .i64 x.2.2), (34, .slice (some ⟨b16, 0, none⟩) m m), (35, .int .i64 m), (36, .int .i64 x.1)]) (fun x => T.set b33 ⟨41, x.2.1.map gU, m⟩) (fun x => x.1 ≤ m ∧ x.2.1.length = m ∧ x.2.2 = (if x.1 = 0 then 0 else 1 + Ord.ups (fun a b => lessB (tkey l a) (tkey l b)) e (x.1 - 1)) ∧ ∀ j, j < x.1 → x.2.1.getD (e.getD j 0) 0 = 1 + Ord.ups (fun a b => lessB (tkey l a) (tkey l b)) e j) (fun x => m - x.1) ((0, List.replicate m 0, 0)) ⟨sq_, sq_, sq_, sq_, sq_, sq_, sq_, trivial⟩ (by dsimp only; rw [List.map_replicate]; exact Mem.Less.refl _) (⟨Nat.zero_le _, by simp, rfl, fun j h => absurd h (Nat.not_lt_zero _)⟩) ?_
    rintro ⟨i, o, nm⟩ ⟨q1, q2, q3, q4⟩
    (try dsimp only at *)
    by_cases hc : i < m
    · refine AWP.seq ?_
      refine AWP.region ?_
      refine rC (Calm.bin rfl rfl b_lss) ?_
      refine arun_nil ?_
      refine athen_n ?_
      refine AWP.seq ?_
      refine AWP.condT rfl (by first | rfl | (simp; done) | (simp; omega)) ?_
      have hT2 : T.Less (T.set b33 ⟨41, o.map gU, m⟩) := Mem.less_set _ _ _ f33.1
      have oe2 := hT2.own oe
      have hm2 := hless.trans hT2
      have o12 := hT2.own o1
      have hei : e[i]'(by omega) < m := List.mem_range.1 (hp.mem_iff.1 (List.getElem_mem _))
      refine AWP.skip ?_
      refine athen_n ?_
      refine AWP.seq ?_
      refine AWP.block ?_
      refine AWP.seq ?_
      refine AWP.region ?_
      refine rC (Calm.move rfl) ?_
      refine rC (Calm.indexS Try.underlying24 ty_size_3 rfl rfl (by omega) (by omega)) ?_
      refine rC (Calm.load ty_plain_3 rfl (rd_list (g := gI) i (by omega) oe2 rw_)) ?_
      refine rC (Calm.assign rfl) ?_
      refine rC (Calm.assign rfl) ?_
      refine arun_nil ?_
      refine athen_n ?_
      refine AWP.sub [(1, _), (4, _), (7, _), (8, _), (34, _), (35, _), (36, _), (37, _), (9, _), (10, _)] ⟨rfl, rfl, rfl, rfl, rfl, rfl, rfl, rfl, rfl, rfl, trivial⟩ ?_
      obtain ⟨k, hk⟩ : ∃ k, k = e[i]'(by omega) := ⟨_, rfl⟩
      rw [← hk] at hei ⊢
      unfold gI
      refine AWP.seq ?_
      refine AWP.seq ?_
      refine AWP.join (X := Bool) (fun x => [(1, .pointer (some ⟨b1, 0, none⟩)), (4, .slice (some ⟨b16, 0, none⟩) m m), (7, .slice (some ⟨b33, 0, none⟩) m m), (8, .int .i64 nm), (9, .int .i64 i), (10, .int .i64 k), (34, .slice (some ⟨b16, 0, none⟩) m m), (35, .int .i64 m), (36, .int .i64 i), (73, .bool x)]) (fun _ => T.set b33 ⟨41, o.map gU, m⟩) (fun x => x = (decide (i = 0) || !decide (tkey l (e.getD (i - 1) 0) = tkey l k))) ?_ ?_
      · by_cases h0 : i = 0
        · refine AWP.draw [(0, true), (1, true), (2, true), (3, true), (4, true), (5, true), (6, true), (7, true), (8, true), (9, true), (10, true), (11, true), (12, true), (13, true), (14, true), (15, true), (16, true), (17, true), (19, true), (20, true), (21, true), (22, true), (23, true), (24, true), (25, true), (26, true), (27, true), (28, true), (29, true), (18, false), (30, false), (31, true), (32, true)] [] mixed (by kernel_rfl) ?_
          refine dP (hc := fun _ => Calm.move rfl) (h := ?_)
          refine dP (hc := fun _ => Calm.bin rfl rfl b_eql) (h := ?_)
          refine dP (hc := fun _ => Calm.move rfl) (h := ?_)
          first | refine dS ?_ | refine dU ?_ | refine dL (hc := ld_ ty_plain_76 rfl) (h := ?_)
          first | refine dS ?_ | refine dU ?_ | refine dG (hc := fun _ => Calm.nilCheck rfl) (h := ?_)
          first | refine dS ?_ | refine dU ?_ | refine dG (hc := fun _ => Calm.fieldAddr ty_field_78_0 rfl) (h := ?_)
          first | refine dS ?_ | refine dU ?_ | refine dL (hc := ld_ ty_plain_72 rfl) (h := ?_)
          first | refine dS ?_ | refine dU ?_ | refine dL (hc := ld_ ty_plain_76 rfl) (h := ?_)
          first | refine dS ?_ | refine dU ?_ | refine dG (hc := fun _ => Calm.nilCheck rfl) (h := ?_)
          first | refine dS ?_ | refine dU ?_ | refine dG (hc := fun _ => Calm.fieldAddr ty_field_78_1 rfl) (h := ?_)
          first | refine dS ?_ | refine dU ?_ | refine dL (hc := ld_ ty_plain_24 rfl) (h := ?_)
          first | refine dS ?_ | refine dU ?_ | refine dG (hc := fun _ => Calm.move rfl) (h := ?_)
          first | refine dS ?_ | refine dU ?_ | refine dG (hc := fun _ => Calm.move rfl) (h := ?_)
          first | refine dS ?_ | refine dU ?_ | refine dG (hc := fun _ => Calm.bin rfl rfl b_sub_i64) (h := ?_)
          first | refine dS ?_ | refine dU ?_ | refine dG (hc := fun _ => Calm.indexS Try.underlying24 ty_size_3 rfl rfl (by omega) (by omega)) (h := ?_)
          first | refine dS ?_ | refine dU ?_ | refine dL (hc := ld_ ty_plain_3 rfl) (h := ?_)
          first | refine dS ?_ | refine dU ?_ | refine dG (hc := fun _ => Calm.indexS Try.underlying24 ty_size_3 rfl rfl (by omega) (by omega)) (h := ?_)
          first | refine dS ?_ | refine dU ?_ | refine dL (hc := ld_ ty_plain_3 rfl) (h := ?_)
          first | refine dS ?_ | refine dU ?_ | refine dL (hc := ld_ ty_plain_76 rfl) (h := ?_)
          first | refine dS ?_ | refine dU ?_ | refine dG (hc := fun _ => Calm.nilCheck rfl) (h := ?_)
          first | refine dS ?_ | refine dU ?_ | refine dG (hc := fun _ => Calm.fieldAddr ty_field_78_0 rfl) (h := ?_)
          first | refine dS ?_ | refine dU ?_ | refine dL (hc := ld_ ty_plain_72 rfl) (h := ?_)
          first | refine dS ?_ | refine dU ?_ | refine dL (hc := ld_ ty_plain_76 rfl) (h := ?_)
          first | refine dS ?_ | refine dU ?_ | refine dG (hc := fun _ => Calm.nilCheck rfl) (h := ?_)
          first | refine dS ?_ | refine dU ?_ | refine dG (hc := fun _ => Calm.fieldAddr ty_field_78_1 rfl) (h := ?_)
          first | refine dS ?_ | refine dU ?_ | refine dL (hc := ld_ ty_plain_24 rfl) (h := ?_)
          first | refine dS ?_ | refine dU ?_ | refine dG (hc := fun _ => Calm.move rfl) (h := ?_)
          first | refine dS ?_ | refine dU ?_ | refine dG (hc := fun _ => Calm.indexS Try.underlying24 ty_size_3 rfl rfl (by omega) (by omega)) (h := ?_)
          first | refine dS ?_ | refine dU ?_ | refine dL (hc := ld_ ty_plain_3 rfl) (h := ?_)
          refine draw_only rfl ?_
          first | refine rS 43 ?_ | refine rU 43 ?_
          refine arun_nil ⟨fun _ => less_, ?_⟩
          refine draw_only rfl ?_
          first | refine rS 43 ?_ | refine rU 43 ?_
          refine arun_nil ⟨fun _ => less_, ?_⟩
          first | refine dS ?_ | refine dU ?_ | refine dG (hc := fun _ => Calm.bin rfl rfl (BIN_array)) (h := ?_)
          refine dP (hc := fun _ => (by first | exact Calm.pickT rfl rfl | exact Calm.pickF rfl rfl)) (h := ?_)
          refine draw_nil ?_
          refine ⟨true, ?_, ?_, ?_⟩
          all_goals (try dsimp only)
          · rw [decide_eq_true h0]; rfl
          · exact ⟨sq_, sq_, sq_, sq_, sq_, sq_, sq_, sq_, sq_, sq_, trivial⟩
          · exact Mem.Less.refl _
        · obtain ⟨j, rfl⟩ : ∃ q, i = q + 1 := ⟨i - 1, by omega⟩
          obtain ⟨pb, po, rfl, hkn⟩ := p3.resolve_left (fun e => by rw [e] at hmm; simp at hmm; omega)
          have hej : e[j]'(by omega) < m := List.mem_range.1 (hp.mem_iff.1 (List.getElem_mem _))
          obtain ⟨k', hk'⟩ : ∃ k', k' = e[j]'(by omega) := ⟨_, rfl⟩
          rw [← hk'] at hej
          have k1 : T.Knows ⟨pb, po + k * 1, none⟩ [.int .i64 (plc l.length k : Int)] := by rw [places_getD (by omega)]; exact (hkn k (by omega)).less hless
          have k2 : T.Knows ⟨pb, po + k' * 1, none⟩ [.int .i64 (plc l.length k' : Int)] := by rw [places_getD (by omega)]; exact (hkn k' (by omega)).less hless
          have b1_ := (plc_lt l.length k (by omega)).2.2
          have b2_ := (plc_lt l.length k' (by omega)).2.2
          refine AWP.draw [(0, true), (1, true), (2, true), (3, true), (4, true), (5, true), (6, true), (7, true), (8, true), (9, true), (10, true), (11, true), (12, true), (13, true), (14, true), (15, true), (16, true), (17, true), (19, true), (20, true), (21, true), (22, true), (23, true), (24, true), (25, true), (26, true), (27, true), (28, true), (29, true), (18, false), (30, false), (31, true), (32, true)] [] mixed (by kernel_rfl) ?_
          refine dP (hc := fun _ => Calm.move rfl) (h := ?_)
          refine dP (hc := fun _ => Calm.bin rfl rfl b_eql) (h := ?_)
          refine dP (hc := fun _ => Calm.move rfl) (h := ?_)
          first | refine dS ?_ | refine dU ?_ | refine dL (hc := ld_ ty_plain_76 rfl) (h := ?_)
          first | refine dS ?_ | refine dU ?_ | refine dG (hc := fun _ => Calm.nilCheck rfl) (h := ?_)
          first | refine dS ?_ | refine dU ?_ | refine dG (hc := fun _ => Calm.fieldAddr ty_field_78_0 rfl) (h := ?_)
          first | refine dS ?_ | refine dU ?_ | refine dL (hc := ld_ ty_plain_72 rfl) (h := ?_)
          first | refine dS ?_ | refine dU ?_ | refine dL (hc := ld_ ty_plain_76 rfl) (h := ?_)
          first | refine dS ?_ | refine dU ?_ | refine dG (hc := fun _ => Calm.nilCheck rfl) (h := ?_)
          first | refine dS ?_ | refine dU ?_ | refine dG (hc := fun _ => Calm.fieldAddr ty_field_78_1 rfl) (h := ?_)
          first | refine dS ?_ | refine dU ?_ | refine dL (hc := ld_ ty_plain_24 rfl) (h := ?_)
          first | refine dS ?_ | refine dU ?_ | refine dG (hc := fun _ => Calm.move rfl) (h := ?_)
          first | refine dS ?_ | refine dU ?_ | refine dG (hc := fun _ => Calm.move rfl) (h := ?_)
          first | refine dS ?_ | refine dU ?_ | refine dG (hc := fun _ => Calm.bin rfl rfl b_sub_i64) (h := ?_)
          first | refine dS ?_ | refine dU ?_ | refine dG (hc := fun _ => Calm.indexS Try.underlying24 ty_size_3 rfl rfl (by omega) (by omega)) (h := ?_)
          first | refine dS ?_ | refine dU ?_ | refine dL (hc := Calm.as (show gI (e[j]'(by omega)) = .int .i64 (k' : Int) by rw [← hk']; rfl) (Calm.load ty_plain_3 rfl (rd_list (g := gI) j (by omega) oe2 rw_))) (h := ?_)
          first | refine dS ?_ | refine dU ?_ | refine dG (hc := fun _ => Calm.indexS Try.underlying24 ty_size_3 rfl rfl (by omega) (by omega)) (h := ?_)
          first | refine dS ?_ | refine dU ?_ | refine dL (hc := ld_ ty_plain_3 rfl) (h := ?_)
          first | refine dS ?_ | refine dU ?_ | refine dL (hc := ld_ ty_plain_76 rfl) (h := ?_)
          first | refine dS ?_ | refine dU ?_ | refine dG (hc := fun _ => Calm.nilCheck rfl) (h := ?_)
          first | refine dS ?_ | refine dU ?_ | refine dG (hc := fun _ => Calm.fieldAddr ty_field_78_0 rfl) (h := ?_)
          first | refine dS ?_ | refine dU ?_ | refine dL (hc := ld_ ty_plain_72 rfl) (h := ?_)
          first | refine dS ?_ | refine dU ?_ | refine dL (hc := ld_ ty_plain_76 rfl) (h := ?_)
          first | refine dS ?_ | refine dU ?_ | refine dG (hc := fun _ => Calm.nilCheck rfl) (h := ?_)
          first | refine dS ?_ | refine dU ?_ | refine dG (hc := fun _ => Calm.fieldAddr ty_field_78_1 rfl) (h := ?_)
          first | refine dS ?_ | refine dU ?_ | refine dL (hc := ld_ ty_plain_24 rfl) (h := ?_)
          first | refine dS ?_ | refine dU ?_ | refine dG (hc := fun _ => Calm.move rfl) (h := ?_)
          first | refine dS ?_ | refine dU ?_ | refine dG (hc := fun _ => Calm.indexS Try.underlying24 ty_size_3 rfl rfl (by omega) (by omega)) (h := ?_)
          first | refine dS ?_ | refine dU ?_ | refine dL (hc := ld_ ty_plain_3 rfl) (h := ?_)
          refine draw_only rfl ?_
          refine ARun.callG 2 false 43 rfl (lit_lt rfl) rfl (lit_lt rfl) go_61 rfl (sk_triple vt l _ (plc l.length k') rfl _ (h3.less (hless.trans hT2)) (by omega)) ?_
          rintro _ _ ⟨rfl, rfl⟩
          refine arun_nil ⟨fun _ => less_, ?_⟩
          refine draw_only rfl ?_
          refine ARun.callG 2 false 43 rfl (lit_lt rfl) rfl (lit_lt rfl) go_61 rfl (sk_triple vt l _ (plc l.length k) rfl _ (h3.less (hless.trans hT2)) (by omega)) ?_
          rintro _ _ ⟨rfl, rfl⟩
          refine arun_nil ⟨fun _ => less_, ?_⟩
          first | refine dS ?_ | refine dU ?_ | refine dG (hc := fun _ => Calm.bin rfl rfl (bin_arr3 Try.underlying71 ty_size_41 Try.underlying41 (by kernel_rfl) _ _ _ _ _ _)) (h := ?_)
          refine dP (hc := fun _ => (by first | exact Calm.pickT rfl rfl | exact Calm.pickF rfl rfl)) (h := ?_)
          refine draw_nil ?_
          refine ⟨(!decide (tkey l k' = tkey l k)), ?_, ?_, ?_⟩
          all_goals (try dsimp only)
          · rw [decide_eq_false h0, Nat.add_sub_cancel, getD_get e j 0 (by omega), ← hk']; rfl
          · exact ⟨sq_, sq_, sq_, sq_, sq_, sq_, sq_, sq_, sq_, sq_, trivial⟩
          · exact Mem.Less.refl _
      rintro x hx
      intro _ _ hs_ hl_
      (try dsimp only at *)
      refine athen_n ?_
      refine AWP.sub _ hs_ (AWP.less _ hl_ ?_)
      clear hs_ hl_
      have hnx : (if x = true then nm + 1 else nm) = 1 + Ord.ups (fun a b => lessB (tkey l a) (tkey l b)) e i := by rw [hx, q3, hk, ← getD_get e i 0 (by omega)]; exact names_next l e i hs (by omega)
      have hek : e.getD i 0 = k := by rw [getD_get e i 0 (by omega)]; exact hk.symm
      have hul := ups_le (fun a b => lessB (tkey l a) (tkey l b)) e i
      refine AWP.join (X := Unit) (fun _ => [(1, .pointer (some ⟨b1, 0, none⟩)), (4, .slice (some ⟨b16, 0, none⟩) m m), (7, .slice (some ⟨b33, 0, none⟩) m m), (8, .int .i64 ((1 + Ord.ups (fun a b => lessB (tkey l a) (tkey l b)) e i : Nat) : Int)), (10, .int .i64 k), (34, .slice (some ⟨b16, 0, none⟩) m m), (35, .int .i64 m), (36, .int .i64 i)]) (fun _ => T.set b33 ⟨41, o.map gU, m⟩) (fun _ => i < m) ?_ ?_
      · cases x
        · simp only [Bool.false_eq_true, if_false] at hnx
          refine AWP.condF rfl (by first | rfl | (simp; done) | (simp; omega)) ?_
          refine AWP.skip ?_
          refine ⟨(), ?_, ?_, ?_⟩
          all_goals (try dsimp only)
          · exact hc
          · exact ⟨sq_, sq_, sq_, sq_, sq_, sq_, sq_, sq_, trivial⟩
          · exact Mem.Less.refl _
        · simp only [if_true] at hnx
          refine AWP.condT rfl (by first | rfl | (simp; done) | (simp; omega)) ?_
          refine AWP.region ?_
          refine rC (Calm.move rfl) ?_
          refine rC (Calm.bin rfl rfl b_add_i64) ?_
          refine rC (Calm.assign rfl) ?_
          refine arun_nil ?_
          refine ⟨(), ?_, ?_, ?_⟩
          all_goals (try dsimp only)
          · exact hc
          · exact ⟨sq_, sq_, sq_, sq_, sq_, sq_, sq_, sq_, trivial⟩
          · exact Mem.Less.refl _
      rintro _ _
      intro _ _ hs_ hl_
      (try dsimp only at *)
      refine athen_n ?_
      refine AWP.sub _ hs_ (AWP.less _ hl_ ?_)
      clear hs_ hl_
      obtain ⟨nx, hnn⟩ : ∃ nx, nx = 1 + Ord.ups (fun a b => lessB (tkey l a) (tkey l b)) e i := ⟨_, rfl⟩
      rw [← hnn] at hnx ⊢
      refine AWP.region ?_
      refine rC (Calm.move rfl) ?_
      refine rC (Calm.move rfl) ?_
      refine rC (Calm.move rfl) ?_
      refine rC (Calm.conv rfl (by first | exact conv_intW Try.underlying3 Try.underlying41 (IntWalk.u64_in _ (by omega)) | exact conv_int Try.underlying3 Try.underlying41)) ?_
      refine rC (Calm.indexS Try.underlying22 ty_size_41 rfl rfl (by omega) (by omega)) ?_
      refine ARun.store1 rfl rfl ty_size_41 rfl own_ lens_ rfl ?_
      (try simp only [Mem.set_set, List.set_cons_zero, List.set_cons_succ, Nat.zero_add, Nat.reduceAdd])
      refine arun_nil ?_
      refine ain_n ?_
      refine athen_n ?_
      refine AWP.sub [(1, _), (4, _), (7, _), (8, _), (10, _), (34, _), (35, _), (36, _)] ⟨rfl, rfl, rfl, rfl, rfl, rfl, rfl, rfl, trivial⟩ ?_
      simp only [Nat.zero_add, Nat.mul_one, Int.toNat_natCast]
      refine AWP.region ?_
      refine rC (Calm.bin rfl rfl b_add_i64) ?_
      refine rC (Calm.move rfl) ?_
      refine arun_nil ?_
      refine athen_n ?_
      refine ⟨(i + 1, o.set k nx, nx), ?_, ?_, ?_, ?_⟩
      all_goals (try dsimp only)
      · exact ⟨sq_, sq_, sq_, sq_, sq_, sq_, sq_, trivial⟩
      · rw [List.map_set]; exact Mem.Less.refl _
      · exact ⟨hc, by rw [List.length_set]; exact q2, by rw [if_neg (by omega), Nat.add_sub_cancel]; exact hnn, fun j hj => names_set l e o hp (by omega) (by omega) q4 hek hnn j hj⟩
      · omega
    · obtain rfl : i = m := by omega
      refine AWP.seq ?_
      refine AWP.region ?_
      refine rC (Calm.bin rfl rfl b_lss) ?_
      refine arun_nil ?_
      refine athen_n ?_
      refine AWP.seq ?_
      refine AWP.condF rfl (by first | rfl | (simp; done) | (simp; omega)) ?_
      have hor := names_out l e o (by rw [hnp]; exact hp) hs (by omega) (by rw [hel]; exact q4)
      have hmn : nm = many l := by rw [q3]; split; (exact (many_zero l (by omega)).symm); (rw [many_ups l e (by rw [hnp]; exact hp) hs (by omega), hel])
      rw [hor, hmn]
      refine AWP.exit ?_
      refine athen_exit ?_
      refine athen_exit ?_
      refine ain_same ?_
      refine athen_n ?_
      refine AWP.seq ?_
      refine AWP.region ?_
      refine rC (Calm.move rfl) ?_
      refine rC (Calm.move rfl) ?_
      refine rC (Calm.assign rfl) ?_
      refine rC (Calm.assign rfl) ?_
      refine arun_nil ?_
      refine athen_n ?_
      refine AWP.sub [(1, _), (4, _), (7, _), (8, _), (34, _), (35, _), (36, _), (37, _), (2, _), (3, _)] ⟨rfl, rfl, rfl, rfl, rfl, rfl, rfl, rfl, rfl, rfl, trivial⟩ ?_
      refine AWP.ret ?_
      refine ⟨_, _, ⟨_, _, rfl, ⟨_, _, rfl, rfl, rfl⟩, rfl⟩, Mem.Less.refl _, ?_⟩
      exact ⟨_, rfl, (hless.trans (Mem.less_set _ _ _ f33.1)), Sl.own1 (g := gU) (l := red l) (Mem.own_set_same _ _ _) List.prefix_rfl (by rw [red_length, hnp]) (Nat.le_refl _) (by omega)⟩
def redP (l : List Nat) : List Nat := if chkL l = 0 then red l else []
def manyP (l : List Nat) : Nat := if chkL l = 0 then many l else 0
theorem lvR_box {S : Mem} {b : Nat} {T : TypeId} {vt vs : Value} {l : List Nat} {room : Nat} (hb : S.own b = some ⟨T, [vt, vs], room⟩) (h1 : RowR S vt l) (h2 : IdxR S vs (places l.length)) : LvR S b l :=
  ⟨vt, vs, Mem.own_knows hb 0 _ (fun j v hj => by cases j with | zero => exact hj | succ j => simp at hj), Mem.own_knows hb 1 _ (fun j v hj => by cases j with | zero => exact hj | succ j => simp at hj), h1, h2⟩
theorem sk_Reduce (v : Value) (l : List Nat) (S : Mem) (hl : RowR S v l) :
    ACall Try.prog 19 #[v] S fun r S' => ∃ u, r = .tuple #[u, .int .i64 (manyP l : Nat), .int .i64 (chkL l)] ∧ RdL gU (redP l) S u S' := by
  have hS := sk_Samples v l S hl
  obtain ⟨a, cap, rfl, h1, h2, h3⟩ := id hl
  by_cases hc : chkL l = 0
  · have hlen := (chk_ok hc).1
    have es : smpL l = places l.length := if_pos hc
    have er : redP l = red l := if_pos hc
    have em : manyP l = many l := if_pos hc
    rw [er, em, hc]
    rw [es, hc] at hS
    refine ACall.enter (args := [.slice a l.length cap]) (rs := [.tmp 2, .tmp 3, .tmp 4]) 27 [(0, .slice a l.length cap)] Try.func19 rfl rfl (Nat.le_of_ble_eq_true rfl) rfl ⟨rfl, trivial⟩ ?_
    refine AWP.seq ?_
    refine AWP.region ?_
    refine rC (Calm.assign rfl) ?_
    refine rC (Calm.assign rfl) ?_
    refine rC (Calm.assign rfl) ?_
    refine arun_nil ?_
    refine athen_n ?_
    refine AWP.seq ?_
    refine AWP.region ?_
    refine rC (Calm.move rfl) ?_
    refine ARun.call (lit_lt rfl) go_15 rfl (hS) ?_
    rintro vs S1 ⟨u, rfl, hSS, hu⟩
    obtain ⟨pa, pc, rfl, _⟩ := id hu
    refine rC (Calm.move rfl) ?_
    refine rC (Calm.extract rfl rfl) ?_
    refine rC (Calm.extract rfl rfl) ?_
    refine rC (Calm.assign rfl) ?_
    refine rC (Calm.assign rfl) ?_
    refine arun_nil ?_
    refine athen_n ?_
    refine AWP.sub [(0, _), (2, _), (3, _), (4, _), (5, _), (6, _)] ⟨rfl, rfl, rfl, rfl, rfl, rfl, trivial⟩ ?_
    refine AWP.seq ?_
    refine AWP.seq ?_
    refine AWP.region ?_
    refine rC (Calm.move rfl) ?_
    refine rC (Calm.bin rfl rfl b_neq) ?_
    refine arun_nil ?_
    refine athen_n ?_
    refine AWP.sub [(0, _), (2, _), (3, _), (4, _), (5, _), (6, _), (15, _)] ⟨rfl, rfl, rfl, rfl, rfl, rfl, rfl, trivial⟩ ?_
    refine AWP.condF rfl (by first | rfl | (simp; done) | (simp; omega)) ?_
    refine AWP.skip ?_
    refine athen_n ?_
    refine AWP.seq ?_
    refine AWP.region ?_
    refine rC (Calm.move rfl) ?_
    refine rC (Calm.move rfl) ?_
    refine rC (Calm.build (cs := [_, _]) ty_bld_78 rfl rfl) ?_
    refine ARun.boxA (cs := [_, _]) (lit_lt rfl) rfl ?_
    intro b21 f21
    have g21 := f21
    repeat ((with_reducible replace g21 := fresh_set g21); obtain ⟨g21, _⟩ := g21)
    (try simp only [List.length_cons, List.length_nil, Nat.zero_add, Nat.reduceAdd])
    refine ARun.call (lit_lt rfl) go_63 rfl (sk_reduced b21 l _ (lvR_box own_ (hl.less (hSS.trans less_)) (idxR_less _ _ _ _ hu less_)) hlen) ?_
    rintro _ S2 ⟨u2, rfl, hS2, hu2⟩
    refine rC (Calm.move rfl) ?_
    refine rC (Calm.extract rfl rfl) ?_
    refine rC (Calm.extract rfl rfl) ?_
    refine rC (Calm.assign rfl) ?_
    refine rC (Calm.assign rfl) ?_
    refine arun_nil ?_
    refine athen_n ?_
    refine AWP.sub [(0, _), (2, _), (3, _), (4, _), (5, _), (6, _), (15, _), (7, _), (8, _)] ⟨rfl, rfl, rfl, rfl, rfl, rfl, rfl, rfl, rfl, trivial⟩ ?_
    refine AWP.seq ?_
    refine AWP.region ?_
    refine rC (Calm.move rfl) ?_
    refine rC (Calm.move rfl) ?_
    refine rC (Calm.assign rfl) ?_
    refine rC (Calm.assign rfl) ?_
    refine rC (Calm.assign rfl) ?_
    refine arun_nil ?_
    refine athen_n ?_
    refine AWP.sub [(0, _), (2, _), (3, _), (4, _), (5, _), (6, _), (15, _), (7, _), (8, _)] ⟨rfl, rfl, rfl, rfl, rfl, rfl, rfl, rfl, rfl, trivial⟩ ?_
    refine AWP.ret ?_
    refine ⟨_, S2, ⟨_, _, rfl, ⟨_, _, rfl, ⟨_, _, rfl, rfl, rfl⟩, rfl⟩, rfl⟩, Mem.Less.refl _, ?_⟩
    exact ⟨u2, rfl, hSS.trans ((Mem.less_set _ _ _ f21.1).trans hS2), hu2⟩
  · have es : smpL l = [] := if_neg hc
    have er : redP l = [] := if_neg hc
    have em : manyP l = 0 := if_neg hc
    have e1 := chk_no hc
    rw [er, em, e1]
    rw [es, e1] at hS
    refine ACall.enter (args := [.slice a l.length cap]) (rs := [.tmp 2, .tmp 3, .tmp 4]) 27 [(0, .slice a l.length cap)] Try.func19 rfl rfl (Nat.le_of_ble_eq_true rfl) rfl ⟨rfl, trivial⟩ ?_
    refine AWP.seq ?_
    refine AWP.region ?_
    refine rC (Calm.assign rfl) ?_
    refine rC (Calm.assign rfl) ?_
    refine rC (Calm.assign rfl) ?_
    refine arun_nil ?_
    refine athen_n ?_
    refine AWP.seq ?_
    refine AWP.region ?_
    refine rC (Calm.move rfl) ?_
    refine ARun.call (lit_lt rfl) go_15 rfl (hS) ?_
    rintro vs S1 ⟨u, rfl, hSS, hu⟩
    refine rC (Calm.move rfl) ?_
    refine rC (Calm.extract rfl rfl) ?_
    refine rC (Calm.extract rfl rfl) ?_
    refine rC (Calm.assign rfl) ?_
    refine rC (Calm.assign rfl) ?_
    refine arun_nil ?_
    refine athen_n ?_
    refine AWP.sub [(0, _), (2, _), (3, _), (4, _), (5, _), (6, _)] ⟨rfl, rfl, rfl, rfl, rfl, rfl, trivial⟩ ?_
    refine AWP.seq ?_
    refine AWP.seq ?_
    refine AWP.region ?_
    refine rC (Calm.move rfl) ?_
    refine rC (Calm.bin rfl rfl b_neq) ?_
    refine arun_nil ?_
    refine athen_n ?_
    refine AWP.sub [(0, _), (2, _), (3, _), (4, _), (5, _), (6, _), (15, _)] ⟨rfl, rfl, rfl, rfl, rfl, rfl, rfl, trivial⟩ ?_
    refine AWP.condT rfl (by first | rfl | (simp; done) | (simp; omega)) ?_
    refine AWP.seq ?_
    refine AWP.region ?_
    refine rC (Calm.move rfl) ?_
    refine rC (Calm.assign rfl) ?_
    refine rC (Calm.assign rfl) ?_
    refine rC (Calm.assign rfl) ?_
    refine arun_nil ?_
    refine athen_n ?_
    refine AWP.sub [(0, _), (2, _), (3, _), (4, _), (5, _), (6, _), (15, _)] ⟨rfl, rfl, rfl, rfl, rfl, rfl, rfl, trivial⟩ ?_
    refine AWP.ret ?_
    refine athen_ret ?_
    refine ⟨_, S, ⟨_, _, rfl, ⟨_, _, rfl, ⟨_, _, rfl, rfl, rfl⟩, rfl⟩, rfl⟩, hSS, ?_⟩
    exact ⟨_, rfl, Mem.Less.refl _, Sl.nil _ _ _⟩
end Go.Proofs.Ytgidjbpgkeemiaa
