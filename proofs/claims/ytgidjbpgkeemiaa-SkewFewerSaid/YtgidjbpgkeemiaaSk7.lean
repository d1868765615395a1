/-
  Skew: the places that leave no rest, sorted; all ends in order, by the program.
-/
import Derived.Test.YtgidjbpgkeemiaaSk6
namespace Go.Proofs.Ytgidjbpgkeemiaa
open Go.RowKit
open Mv Num Loser Skew Srt
set_option linter.unusedVariables false
set_option linter.unusedSimpArgs false
set_option maxRecDepth 4000
theorem swo2 (l : List Nat) (x : List Int) : Go.Sort.SWO (lq (cf2 l x)) := by
  have e : ∀ a b, lq (cf2 l x) a b = true ↔ at0 l a < at0 l b ∨ at0 l a = at0 l b ∧ x.getD (a + 1) 0 < x.getD (b + 1) 0 := fun a b => by unfold lq; rw [decide_eq_true_eq, cf2_neg]
  have e0 : ∀ a b, lq (cf2 l x) a b = false ↔ ¬ (at0 l a < at0 l b ∨ at0 l a = at0 l b ∧ x.getD (a + 1) 0 < x.getD (b + 1) 0) := fun a b => by rw [← e]; simp
  exact ⟨fun a => by rw [e0]; omega, fun a b c h1 h2 => by rw [e] at *; omega, fun a b c h1 h2 => by rw [e0] at *; omega⟩
theorem sorted_rest (l e : List Nat) (x : List Int) (h1 : ∀ y ∈ l, 1 ≤ y) (he : Ord.SortedE (red l) e) (hr : Rk l e x) (L : List Nat) (hL : L = restP 0 l.length) (d' : Array Nat) (hd : d' = Go.Sort.pdq (lq (cf2 l x)) L.toArray 0 L.length (Go.Sort.bitsLen L.length) true true) :
    d'.toList.Perm (restP 0 l.length) ∧ d'.toList.Pairwise (fun a b => Ord.sl l a b = true) := by
  obtain ⟨p1, p2⟩ := Go.Sort.pdq_sorts _ (swo2 l x) L.toArray 0 L.length (Go.Sort.bitsLen L.length) true true (Nat.zero_le _) (by simp) (Or.inl rfl)
  rw [← hd] at p1 p2
  have hs : d'.size = L.length := by rw [p1.1]; simp
  have hp : d'.toList.Perm L := by
    have := p1.2.2
    rw [show d'.extract 0 L.length = d' by rw [← hs]; simp, show L.toArray.extract 0 L.length = L.toArray by simp] at this
    simpa using this
  rw [hL] at hp
  refine ⟨hp, rest_sorted l e x h1 he hr _ hp fun i j hij hj => ?_⟩
  have hj' : j < L.length := by simpa [hs] using hj
  have := p2 i j (Nat.zero_le _) hij hj'
  unfold lq at this
  rw [decide_eq_false_iff_not, cf2_neg] at this
  rw [getD_get _ _ _ hj, getD_get _ _ _ (by omega)]
  rw [getElem!_pos d' j (by omega), getElem!_pos d' i (by omega)] at this
  simpa using this
theorem restP_nil {L : List Nat} {n : Nat} (hL : L = restP 0 n) (h : L = []) : n = 0 := by
  have := congrArg List.length hL
  rw [h, restP_length 0 (by omega)] at this
  simp at this; omega
theorem arr_list (d : Array Nat) (g : Nat → Value) (L : List Nat) (h : d.toList = L) : d.toList.map g = L.map g := by rw [h]
set_option maxHeartbeats 2000000 in
theorem sk_rest (p : Nat) (vx : Value) (l e : List Nat) (x : List Int) (S : Mem) (hv : LvR S p l) (hx : Sl 1 i64s S vx x) (h1 : ∀ y ∈ l, 1 ≤ y) (he : Ord.SortedE (red l) e) (hr : Rk l e x) (hl : l.length ≤ 4096) :
    ACall Try.prog 106 #[.pointer (some ⟨p, 0, none⟩), vx] S fun r S' => ∃ zs, zs.Perm (restP 0 l.length) ∧ zs.Pairwise (fun a b => Ord.sl l a b = true) ∧ RdL gI zs S r S' := by
  have hv0 := hv
  obtain ⟨vt, vs, v1, v2, v3, v4⟩ := hv
  obtain ⟨ta, tc, rfl, _⟩ := id v3
  obtain ⟨xa, xc, rfl, _⟩ := id hx
  refine ACall.enter (args := [.pointer (some ⟨p, 0, none⟩), .slice xa x.length xc]) (rs := [.tmp 4]) 24 [(0, .pointer (some ⟨p, 0, none⟩)), (1, .slice xa x.length xc)] Try.func106 rfl rfl (Nat.le_of_ble_eq_true rfl) rfl ⟨rfl, rfl, trivial⟩ ?_
  refine AWP.seq ?_
  refine AWP.region ?_
  refine ARun.box1 (lit_lt rfl) rfl rfl ?_
  intro b2 f2
  have g2 := f2
  repeat ((with_reducible replace g2 := fresh_set g2); obtain ⟨g2, _⟩ := g2)
  (try simp only [List.length_cons, List.length_nil, Nat.zero_add, Nat.reduceAdd])
  refine ARun.box1 (lit_lt rfl) rfl rfl ?_
  intro b3 f3
  have g3 := f3
  repeat ((with_reducible replace g3 := fresh_set g3); obtain ⟨g3, _⟩ := g3)
  (try simp only [List.length_cons, List.length_nil, Nat.zero_add, Nat.reduceAdd])
  refine rC (Calm.assign rfl) ?_
  refine arun_nil ?_
  refine athen_n ?_
  obtain ⟨B, hB⟩ : ∃ B, B = (S.set b2 ⟨76, [.pointer (some ⟨p, 0, none⟩)], 1⟩).set b3 ⟨24, [.slice xa x.length xc], 1⟩ := ⟨_, rfl⟩
  have hSB : S.Less B := by rw [hB]; exact less_
  have o2 : B.own b2 = some ⟨76, [.pointer (some ⟨p, 0, none⟩)], 1⟩ := by rw [hB]; exact own_
  have o3 : B.own b3 = some ⟨24, [.slice xa x.length xc], 1⟩ := by rw [hB]; exact own_
  rw [← hB]
  clear hB f2 f3 g2 g3
  refine AWP.seq ?_
  refine AWP.region ?_
  refine rC (Calm.assign rfl) ?_
  refine arun_nil ?_
  refine athen_n ?_
  refine AWP.seq ?_
  refine AWP.seq ?_
  refine AWP.region ?_
  refine rC (Calm.assign rfl) ?_
  refine arun_nil ?_
  refine athen_n ?_
  refine AWP.block ?_
  refine AWP.loop (X := Nat × List Nat × Option (Nat × Nat)) (fun x => [(2, .pointer (some ⟨b2, 0, none⟩)), (3, .pointer (some ⟨b3, 0, none⟩)), (5, outV x.2.2 x.2.1.length), (6, .int .i64 x.1)]) (fun x => outM B x.2.2 3 (x.2.1.map gI)) (fun x => x.1 % 3 = 0 ∧ x.1 < l.length + 3 ∧ x.2.1 = restP 0 x.1 ∧ OkO B x.2.2 x.2.1.length) (fun x => l.length + 3 - x.1) ((0, [], none)) ⟨rfl, rfl, rfl, rfl, trivial⟩ (Mem.Less.refl _) (⟨rfl, by dsimp only; omega, rfl, okO_nil _⟩) ?_
  rintro ⟨i, L, o⟩ ⟨k1, k2, k3, k4⟩
  (try dsimp only at *)
  have q2 := own_outM (e := 3) (cs := L.map gI) k4 o2
  have hSo : S.Less (outM B o 3 (L.map gI)) := hSB.trans (outM_over k4)
  have hLl : L.length ≤ l.length + 3 := by rw [k3, restP_length 0 (by omega)]; omega
  by_cases hi : i < l.length
  · refine AWP.seq ?_
    refine AWP.seq ?_
    refine AWP.region ?_
    refine rC (Calm.move rfl) ?_
    refine rC (ld_ ty_plain_76 rfl) ?_
    refine rC (Calm.nilCheck rfl) ?_
    refine rC (Calm.fieldAddr ty_field_78_0 rfl) ?_
    refine rC (ld_ ty_plain_72 rfl) ?_
    refine rC (Calm.lenSl Try.underlying72 rfl) ?_
    refine rC (Calm.bin rfl rfl b_lss) ?_
    refine arun_nil ?_
    refine athen_n ?_
    refine AWP.sub [(2, _), (3, _), (5, _), (6, _), (13, _)] ⟨rfl, rfl, rfl, rfl, rfl, trivial⟩ ?_
    refine AWP.condT rfl (by first | rfl | (simp; done) | (simp; omega)) ?_
    refine AWP.skip ?_
    refine athen_n ?_
    refine AWP.seq ?_
    refine AWP.block ?_
    refine AWP.region ?_
    refine rC (Calm.move rfl) ?_
    refine rC (Calm.move rfl) ?_
    refine ARun.build1s (lit_lt rfl) ty_sl_24 rfl rfl ?_
    intro b18 f18
    have g18 := f18
    repeat ((with_reducible replace g18 := fresh_set g18); obtain ⟨g18, _⟩ := g18)
    refine ARun.appendO (lit_lt rfl) ty_sl_24 rfl map_len (appO_of k4 map_len f18) rfl (news := [_]) rds_ rfl (by omega) (by simp [Value.oneCell']) (by omega) (by omega) ?_
    intro b19 c19 ho2
    refine rC (Calm.assign rfl) ?_
    refine arun_nil ?_
    refine ain_n ?_
    refine athen_n ?_
    refine AWP.sub [(2, _), (3, _), (5, _), (6, _), (13, _)] ⟨rfl, rfl, rfl, rfl, rfl, trivial⟩ ?_
    refine AWP.region ?_
    refine rC (Calm.move rfl) ?_
    refine rC (Calm.bin rfl rfl b_add_i64) ?_
    refine rC (Calm.assign rfl) ?_
    refine arun_nil ?_
    refine athen_n ?_
    refine ⟨(i + 3, L ++ [i], some (b19, c19)), ?_, ?_, ?_, ?_⟩
    all_goals (try dsimp only)
    · exact ⟨sq_, sq_, sq_, sq_, trivial⟩
    · exact push_less rfl
    · exact ⟨by omega, by omega, by rw [k3, restP_step 0 i k1], push_ok ho2 rfl⟩
    · omega
  · refine AWP.seq ?_
    refine AWP.seq ?_
    refine AWP.region ?_
    refine rC (Calm.move rfl) ?_
    refine rC (ld_ ty_plain_76 rfl) ?_
    refine rC (Calm.nilCheck rfl) ?_
    refine rC (Calm.fieldAddr ty_field_78_0 rfl) ?_
    refine rC (ld_ ty_plain_72 rfl) ?_
    refine rC (Calm.lenSl Try.underlying72 rfl) ?_
    refine rC (Calm.bin rfl rfl b_lss) ?_
    refine arun_nil ?_
    refine athen_n ?_
    refine AWP.sub [(2, _), (3, _), (5, _), (6, _), (13, _)] ⟨rfl, rfl, rfl, rfl, rfl, trivial⟩ ?_
    refine AWP.condF rfl (by first | rfl | (simp; done) | (simp; omega)) ?_
    have hL : L = restP 0 l.length := by rw [k3, restP_over 0 l.length (by omega) i (by omega) k2 k1]
    have hLm : ∀ k ∈ L, k < l.length := fun k hk => by rw [hL] at hk; unfold restP at hk; simp at hk; exact hk.1
    cases o
    · have hn : L = [] := List.length_eq_zero_iff.1 (k4.nil rfl)
      rw [hn]
      refine AWP.exit ?_
      refine athen_exit ?_
      refine athen_exit ?_
      refine ain_same ?_
      refine athen_n ?_
      refine AWP.seq ?_
      refine AWP.region ?_
      refine rC (Calm.move rfl) ?_
      refine rC (Calm.makeFunc rfl rfl) ?_
      refine ARun.call (lit_lt rfl) go_101 rfl (soC_sort0 _ _) ?_
      rintro _ S1 h5
      rw [h5]; clear h5 S1
      refine arun_nil ?_
      refine athen_n ?_
      refine AWP.sub [(2, _), (3, _), (5, _), (6, _), (13, _)] ⟨rfl, rfl, rfl, rfl, rfl, trivial⟩ ?_
      refine AWP.seq ?_
      refine AWP.region ?_
      refine rC (Calm.move rfl) ?_
      refine rC (Calm.assign rfl) ?_
      refine arun_nil ?_
      refine athen_n ?_
      refine AWP.sub [(2, _), (3, _), (5, _), (6, _), (13, _), (4, _)] ⟨rfl, rfl, rfl, rfl, rfl, rfl, trivial⟩ ?_
      refine AWP.ret ?_
      refine ⟨_, _, ⟨_, _, rfl, rfl, rfl⟩, Mem.Less.refl _, ?_⟩
      exact ⟨[], by rw [← hL, hn], List.Pairwise.nil, hSB, Sl.nil _ _ _⟩
    · rename_i q
      obtain ⟨b, c⟩ := q
      obtain ⟨fb, hbc⟩ := k4.own b c rfl
      have hC : CmpC Try.prog gI (cf2 l x) (fun k => k < l.length) 138 [.pointer (some ⟨b2, 0, none⟩), .pointer (some ⟨b3, 0, none⟩)] B := ⟨fun x => ⟨rfl, rfl⟩, go_138, fun a b ha hb => sk_rcmp a b b2 b3 p _ l x B (Mem.own_knows o2 0 _ (fun j v hj => by rw [Nat.zero_add]; exact hj)) (Mem.own_knows o3 0 _ (fun j v hj => by rw [Nat.zero_add]; exact hj)) (hv0.less hSB) (hx.less hSB) hr.len ha hb hl⟩
      have hR : Rw (fun k => k < l.length) L.length L.toArray := ⟨by simp, fun i hi => by rw [getElem!_pos _ i (by simpa using hi)]; exact hLm _ (by simp)⟩
      have hsort := soC_sort hC b c L.length c fb (by omega) L.toArray hR
      obtain ⟨d', hd'⟩ : ∃ d', d' = Go.Sort.pdq (lq (cf2 l x)) L.toArray 0 L.length (Go.Sort.bitsLen L.length) true true := ⟨_, rfl⟩
      obtain ⟨hp, hs⟩ := sorted_rest l e x h1 he hr L hL d' hd'
      rw [← hd'] at hsort
      have hdl : d'.toList.length = L.length := by rw [hp.length_eq, ← hL]
      clear hd' hC hR
      refine AWP.exit ?_
      refine athen_exit ?_
      refine athen_exit ?_
      refine ain_same ?_
      refine athen_n ?_
      refine AWP.seq ?_
      refine AWP.region ?_
      refine rC (Calm.move rfl) ?_
      refine rC (Calm.makeFunc rfl rfl) ?_
      refine ARun.call (lit_lt rfl) go_101 rfl (hsort) ?_
      rintro _ _ ⟨rfl, _⟩
      refine arun_nil ?_
      refine athen_n ?_
      refine AWP.sub [(2, _), (3, _), (5, _), (6, _), (13, _)] ⟨rfl, rfl, rfl, rfl, rfl, trivial⟩ ?_
      refine AWP.seq ?_
      refine AWP.region ?_
      refine rC (Calm.move rfl) ?_
      refine rC (Calm.assign rfl) ?_
      refine arun_nil ?_
      refine athen_n ?_
      refine AWP.sub [(2, _), (3, _), (5, _), (6, _), (13, _), (4, _)] ⟨rfl, rfl, rfl, rfl, rfl, rfl, trivial⟩ ?_
      refine AWP.ret ?_
      refine ⟨_, _, ⟨_, _, rfl, rfl, rfl⟩, Mem.Less.refl _, ?_⟩
      exact ⟨d'.toList, hp, hs, hSB.trans (Mem.less_set _ _ _ fb.1), Sl.own1 (g := gI) (l := d'.toList) (Mem.own_set_same _ _ _) List.prefix_rfl hdl hbc (by omega)⟩
/-- A sample's place as it stands in the list that is told. -/
theorem tw_cons (l : List Nat) (s z : Nat) (zs : List Nat) (h : Ord.sl l s z = false) : (z :: zs).takeWhile (fun z => !Ord.sl l s z) = z :: zs.takeWhile (fun z => !Ord.sl l s z) ∧ (z :: zs).dropWhile (fun z => !Ord.sl l s z) = zs.dropWhile (fun z => !Ord.sl l s z) := by
  constructor
  · rw [List.takeWhile_cons_of_pos (by simp [h])]
  · rw [List.dropWhile_cons_of_pos (by simp [h])]
theorem tw_stop (l : List Nat) (s z : Nat) (zs : List Nat) (h : Ord.sl l s z = true) : (z :: zs).takeWhile (fun z => !Ord.sl l s z) = [] ∧ (z :: zs).dropWhile (fun z => !Ord.sl l s z) = z :: zs := by
  constructor
  · rw [List.takeWhile_cons_of_neg (by simp [h])]
  · rw [List.dropWhile_cons_of_neg (by simp [h])]
/-- What is still to be told: out, then the zeros that are less than s, s, and the rest. -/
def mgS (l : List Nat) (s : Nat) (ks zs : List Nat) : List Nat := zs.takeWhile (fun z => !Ord.sl l s z) ++ s :: mg l ks (zs.dropWhile (fun z => !Ord.sl l s z))
theorem src1 {S : Mem} {v : Value} {L : List Nat} (h : IdxR S v L) : Src S v L.length (L.map gI) := src_sl h
set_option maxHeartbeats 4000000 in
theorem sk_expanded (p : Nat) (ve : Value) (l e : List Nat) (S : Mem) (hv : LvR S p l) (hve : IdxR S ve e) (h1 : ∀ y ∈ l, 1 ≤ y) (he : Ord.SortedE (red l) e) (hl : l.length ≤ 4096) :
    ACall Try.prog 68 #[.pointer (some ⟨p, 0, none⟩), ve] S (RdL gI (Ord.endsR l l.length) S) := by
  have hv0 := hv
  obtain ⟨vt, vs, v1, v2, v3, v4⟩ := hv
  obtain ⟨ta, tc, rfl, _⟩ := id v3
  obtain ⟨ea, ec, rfl, e1, e2, e3⟩ := id hve
  obtain ⟨pa, pc, rfl, p1, p2, p3⟩ := id v4
  have hperm : e.Perm (List.range (numP l.length)) := by have := he.1; rw [red_length] at this; exact this
  have hel : e.length = numP l.length := by rw [hperm.length_eq, List.length_range]
  have hml : numP l.length ≤ 3000 := places_le l.length hl
  have hmm : (places l.length).length = numP l.length := rfl
  rw [hmm] at p1 p2 v2
  refine ACall.enter (args := [.pointer (some ⟨p, 0, none⟩), .slice ea e.length ec]) (rs := [.tmp 4]) 72 [(0, .pointer (some ⟨p, 0, none⟩)), (1, .slice ea e.length ec)] Try.func68 rfl rfl (Nat.le_of_ble_eq_true rfl) rfl ⟨rfl, rfl, trivial⟩ ?_
  refine AWP.seq ?_
  refine AWP.region ?_
  refine rC (Calm.assign rfl) ?_
  refine arun_nil ?_
  refine athen_n ?_
  refine AWP.seq ?_
  refine AWP.region ?_
  refine rC (Calm.move rfl) ?_
  refine rC (Calm.move rfl) ?_
  refine ARun.call (lit_lt rfl) go_105 rfl (sk_ranks p _ l e S hv0 hve hperm hl) ?_
  rintro vx S1 ⟨x, hr, hS1, hx⟩
  refine rC (Calm.assign rfl) ?_
  refine arun_nil ?_
  refine athen_n ?_
  refine AWP.sub [(0, _), (1, _), (4, _), (5, _)] ⟨rfl, rfl, rfl, rfl, trivial⟩ ?_
  refine AWP.seq ?_
  refine AWP.region ?_
  refine rC (Calm.move rfl) ?_
  refine rC (Calm.move rfl) ?_
  refine ARun.call (lit_lt rfl) go_106 rfl (sk_rest p vx l e x S1 (hv0.less hS1) hx h1 he hr hl) ?_
  rintro vz S2 ⟨zs, hzp, hzs, hS12, hz⟩
  have hres := Ord.sortedE_one (mg_ok l e zs h1 he hzp hzs) (Ord.endsR_ok l)
  have hzm : ∀ z ∈ zs, z < l.length ∧ z % 3 = 0 := fun z hz => by have := hzp.mem_iff.1 hz; unfold restP at this; simpa using this
  have hzl : zs.length ≤ l.length + 3 := by rw [hzp.length_eq, restP_length 0 (by omega)]; omega
  have hS2 := hS1.trans hS12
  replace hx := hx.less hS12
  clear hS12 hzp hzs
  refine rC (Calm.assign rfl) ?_
  refine arun_nil ?_
  refine athen_n ?_
  refine AWP.sub [(0, _), (1, _), (4, _), (5, _), (6, _)] ⟨rfl, rfl, rfl, rfl, rfl, trivial⟩ ?_
  refine AWP.seq ?_
  refine AWP.region ?_
  refine rC (Calm.move rfl) ?_
  refine rC (Calm.nilCheck rfl) ?_
  refine rC (Calm.fieldAddr ty_field_78_0 rfl) ?_
  refine rC (ld_ ty_plain_72 rfl) ?_
  refine rC (Calm.lenSl Try.underlying72 rfl) ?_
  refine ARun.makeSliceP (lit_lt rfl) ty_sl_24 rfl rfl (by omega) (by omega) (by omega) (by omega) ?_
  intro b22 f22
  have g22 := f22
  repeat ((with_reducible replace g22 := fresh_set g22); obtain ⟨g22, _⟩ := g22)
  refine rC (Calm.assign rfl) ?_
  refine arun_nil ?_
  refine athen_n ?_
  refine AWP.sub [(0, _), (1, _), (4, _), (5, _), (6, _), (7, _)] ⟨rfl, rfl, rfl, rfl, rfl, rfl, trivial⟩ ?_
  refine AWP.seq ?_
  refine AWP.seq ?_
  refine AWP.region ?_
  refine rC (Calm.move rfl) ?_
  refine rC (Calm.lenSl Try.underlying24 rfl) ?_
  refine rC (Calm.move rfl) ?_
  refine arun_nil ?_
  refine athen_n ?_
  refine AWP.block ?_
  refine AWP.loop (X := Nat × List Nat × Option (Nat × Nat) × List Nat × Value) (fun y => [(0, .pointer (some ⟨p, 0, none⟩)), (5, vx), (6, y.2.2.2.2), (7, outV y.2.2.1 y.2.1.length), (23, .slice ea e.length ec), (24, .int .i64 e.length), (25, .int .i64 y.1)]) (fun y => outM S2 y.2.2.1 3 (y.2.1.map gI)) (fun y => y.1 ≤ e.length ∧ y.2.1.length + y.2.2.2.1.length ≤ l.length + 3 + y.1 ∧ (∀ z ∈ y.2.2.2.1, z < l.length ∧ z % 3 = 0) ∧ IdxR S2 y.2.2.2.2 y.2.2.2.1 ∧ OkO S2 y.2.2.1 y.2.1.length ∧ y.2.1 ++ mg l (e.drop y.1) y.2.2.2.1 = Ord.endsR l l.length) (fun y => e.length - y.1) ((0, [], some (b22, l.length), zs, vz)) ⟨rfl, rfl, rfl, rfl, rfl, rfl, rfl, trivial⟩ (by show (S2.set b22 _).Less _; simp only [List.map_nil]; rw [show ((l.length : Int)).toNat * 1 = l.length by omega, show madeL [Value.int .i64 0] (Int.toNat 0 * 1) = [] from List.length_eq_zero_iff.1 (madeL_length _ _)]; exact Mem.Less.refl _) (⟨Nat.zero_le _, by show 0 + zs.length ≤ _; omega, hzm, hz, okO_own f22 (Nat.zero_le _), hres⟩) ?_
  rintro ⟨i, L, o, Z, uz⟩ ⟨q1, q2, q3, q4, q5, q6⟩
  (try dsimp only at *)
  have hSo : S2.Less (outM S2 o 3 (L.map gI)) := outM_over q5
  have hSS : S.Less (outM S2 o 3 (L.map gI)) := hS2.trans hSo
  by_cases hc : i < e.length
  · refine AWP.seq ?_
    refine AWP.region ?_
    refine rC (Calm.bin rfl rfl b_lss) ?_
    refine arun_nil ?_
    refine athen_n ?_
    refine AWP.seq ?_
    refine AWP.condT rfl (by first | rfl | (simp; done) | (simp; omega)) ?_
    obtain ⟨eb, eo, rfl, hke⟩ := e3.resolve_left (fun h => by rw [h] at hc; exact absurd hc (Nat.not_lt_zero _))
    have hei : e[i] < numP l.length := List.mem_range.1 (hperm.mem_iff.1 (List.getElem_mem hc))
    obtain ⟨pb, po, rfl, hkn⟩ := p3.resolve_left (fun h => by rw [← hmm, h] at hei; exact absurd hei (Nat.not_lt_zero _))
    have k0 : S.Knows ⟨eb, eo + i * 1, none⟩ [.int .i64 (e[i] : Int)] := hke i hc
    have k1 : S.Knows ⟨pb, po + e[i] * 1, none⟩ [.int .i64 (plc l.length e[i] : Int)] := by rw [places_getD hei]; exact hkn e[i] hei
    have hb := plc_lt l.length e[i] hei
    rw [List.drop_eq_getElem_cons hc, mg] at q6
    obtain ⟨s, hs⟩ : ∃ s, s = plc l.length e[i] := ⟨_, rfl⟩
    rw [← hs] at k1 hb q6
    by_cases hsl : l.length ≤ s
    · refine AWP.skip ?_
      refine athen_n ?_
      refine AWP.seq ?_
      refine AWP.block ?_
      refine AWP.seq ?_
      refine AWP.region ?_
      refine rC (Calm.indexS Try.underlying24 ty_size_3 rfl rfl (by omega) (by omega)) ?_
      refine rC (ld_ ty_plain_3 rfl) ?_
      refine rC (Calm.assign rfl) ?_
      refine arun_nil ?_
      refine athen_n ?_
      refine AWP.sub [(0, _), (5, _), (6, _), (7, _), (23, _), (24, _), (25, _), (26, _), (9, _)] ⟨rfl, rfl, rfl, rfl, rfl, rfl, rfl, rfl, rfl, trivial⟩ ?_
      refine AWP.seq ?_
      refine AWP.region ?_
      refine rC (Calm.move rfl) ?_
      refine rC (Calm.nilCheck rfl) ?_
      refine rC (Calm.fieldAddr ty_field_78_1 rfl) ?_
      refine rC (ld_ ty_plain_24 rfl) ?_
      refine rC (Calm.move rfl) ?_
      refine rC (Calm.indexS Try.underlying24 ty_size_3 rfl rfl (by omega) (by omega)) ?_
      refine rC (ld_ ty_plain_3 rfl) ?_
      refine rC (Calm.assign rfl) ?_
      refine arun_nil ?_
      refine athen_n ?_
      refine AWP.sub [(0, _), (5, _), (6, _), (7, _), (23, _), (24, _), (25, _), (26, _), (9, _), (10, _)] ⟨rfl, rfl, rfl, rfl, rfl, rfl, rfl, rfl, rfl, rfl, trivial⟩ ?_
      refine AWP.seq ?_
      refine AWP.seq ?_
      refine AWP.region ?_
      refine rC (Calm.move rfl) ?_
      refine rC (Calm.move rfl) ?_
      refine rC (Calm.nilCheck rfl) ?_
      refine rC (Calm.fieldAddr ty_field_78_0 rfl) ?_
      refine rC (ld_ ty_plain_72 rfl) ?_
      refine rC (Calm.lenSl Try.underlying72 rfl) ?_
      refine rC (Calm.bin rfl rfl b_geq) ?_
      refine arun_nil ?_
      refine athen_n ?_
      refine AWP.sub [(0, _), (5, _), (6, _), (7, _), (23, _), (24, _), (25, _), (26, _), (9, _), (10, _), (42, _)] ⟨rfl, rfl, rfl, rfl, rfl, rfl, rfl, rfl, rfl, rfl, rfl, trivial⟩ ?_
      refine AWP.condT rfl (by first | rfl | (simp; done) | (simp; omega)) ?_
      rw [if_pos hsl] at q6
      refine AWP.exit ?_
      refine athen_exit ?_
      refine ain_same ?_
      refine athen_n ?_
      refine AWP.region ?_
      refine rC (Calm.bin rfl rfl b_add_i64) ?_
      refine rC (Calm.move rfl) ?_
      refine arun_nil ?_
      refine athen_n ?_
      refine ⟨(i + 1, L, o, Z, uz), ?_, ?_, ?_, ?_⟩
      all_goals (try dsimp only)
      · exact ⟨sq_, sq_, sq_, sq_, sq_, sq_, sq_, trivial⟩
      · exact Mem.Less.refl _
      · exact ⟨hc, by omega, q3, q4, q5, q6⟩
      · omega
    · refine AWP.skip ?_
      refine athen_n ?_
      refine AWP.seq ?_
      refine AWP.block ?_
      refine AWP.seq ?_
      refine AWP.region ?_
      refine rC (Calm.indexS Try.underlying24 ty_size_3 rfl rfl (by omega) (by omega)) ?_
      refine rC (ld_ ty_plain_3 rfl) ?_
      refine rC (Calm.assign rfl) ?_
      refine arun_nil ?_
      refine athen_n ?_
      refine AWP.sub [(0, _), (5, _), (6, _), (7, _), (23, _), (24, _), (25, _), (26, _), (9, _)] ⟨rfl, rfl, rfl, rfl, rfl, rfl, rfl, rfl, rfl, trivial⟩ ?_
      refine AWP.seq ?_
      refine AWP.region ?_
      refine rC (Calm.move rfl) ?_
      refine rC (Calm.nilCheck rfl) ?_
      refine rC (Calm.fieldAddr ty_field_78_1 rfl) ?_
      refine rC (ld_ ty_plain_24 rfl) ?_
      refine rC (Calm.move rfl) ?_
      refine rC (Calm.indexS Try.underlying24 ty_size_3 rfl rfl (by omega) (by omega)) ?_
      refine rC (ld_ ty_plain_3 rfl) ?_
      refine rC (Calm.assign rfl) ?_
      refine arun_nil ?_
      refine athen_n ?_
      refine AWP.sub [(0, _), (5, _), (6, _), (7, _), (23, _), (24, _), (25, _), (26, _), (9, _), (10, _)] ⟨rfl, rfl, rfl, rfl, rfl, rfl, rfl, rfl, rfl, rfl, trivial⟩ ?_
      refine AWP.seq ?_
      refine AWP.seq ?_
      refine AWP.region ?_
      refine rC (Calm.move rfl) ?_
      refine rC (Calm.move rfl) ?_
      refine rC (Calm.nilCheck rfl) ?_
      refine rC (Calm.fieldAddr ty_field_78_0 rfl) ?_
      refine rC (ld_ ty_plain_72 rfl) ?_
      refine rC (Calm.lenSl Try.underlying72 rfl) ?_
      refine rC (Calm.bin rfl rfl b_geq) ?_
      refine arun_nil ?_
      refine athen_n ?_
      refine AWP.sub [(0, _), (5, _), (6, _), (7, _), (23, _), (24, _), (25, _), (26, _), (9, _), (10, _), (42, _)] ⟨rfl, rfl, rfl, rfl, rfl, rfl, rfl, rfl, rfl, rfl, rfl, trivial⟩ ?_
      refine AWP.condF rfl (by first | rfl | (simp; done) | (simp; omega)) ?_
      rw [if_neg hsl] at q6
      refine AWP.skip ?_
      refine athen_n ?_
      refine AWP.seq ?_
      refine AWP.join (X := List Nat × Option (Nat × Nat) × List Nat × Value) (fun y => [(0, .pointer (some ⟨p, 0, none⟩)), (5, vx), (6, y.2.2.2), (7, outV y.2.1 y.1.length), (10, .int .i64 s), (23, .slice (some ⟨eb, eo, none⟩) e.length ec), (24, .int .i64 e.length), (25, .int .i64 i)]) (fun y => outM S2 y.2.1 3 (y.1.map gI)) (fun y => y.1.length + y.2.2.1.length ≤ l.length + 3 + i ∧ (∀ z ∈ y.2.2.1, z < l.length ∧ z % 3 = 0) ∧ IdxR S2 y.2.2.2 y.2.2.1 ∧ OkO S2 y.2.1 y.1.length ∧ y.1 ++ s :: mg l (e.drop (i + 1)) y.2.2.1 = Ord.endsR l l.length) ?_ ?_
      · refine AWP.block ?_
        refine AWP.loop (X := List Nat × Option (Nat × Nat) × List Nat × Value) (fun y => [(0, .pointer (some ⟨p, 0, none⟩)), (5, vx), (6, y.2.2.2), (7, outV y.2.1 y.1.length), (10, .int .i64 s), (23, .slice (some ⟨eb, eo, none⟩) e.length ec), (24, .int .i64 e.length), (25, .int .i64 i)]) (fun y => outM S2 y.2.1 3 (y.1.map gI)) (fun y => y.1.length + y.2.2.1.length ≤ l.length + 3 + i ∧ (∀ z ∈ y.2.2.1, z < l.length ∧ z % 3 = 0) ∧ IdxR S2 y.2.2.2 y.2.2.1 ∧ OkO S2 y.2.1 y.1.length ∧ y.1 ++ mgS l s (e.drop (i + 1)) y.2.2.1 = Ord.endsR l l.length) (fun y => y.2.2.1.length) ((L, o, Z, uz)) ⟨rfl, rfl, rfl, rfl, rfl, rfl, rfl, rfl, trivial⟩ (Mem.Less.refl _) (⟨q2, q3, q4, q5, q6⟩) ?_
        rintro ⟨L2, o2, Z2, uz2⟩ ⟨r2, r3, r4, r5, r6⟩
        (try dsimp only at *)
        unfold mgS at r6
        cases Z2
        · obtain ⟨za, zc, rfl, _⟩ := id r4
          refine AWP.seq ?_
          refine AWP.seq ?_
          refine AWP.region ?_
          refine rC (Calm.move rfl) ?_
          refine rC (Calm.lenSl Try.underlying24 rfl) ?_
          refine rC (Calm.bin rfl rfl b_gtr) ?_
          refine rC (Calm.move rfl) ?_
          first | refine rS 46 ?_ | refine rU 46 ?_ | refine rG 46 (Calm.move rfl) ?_
          first | refine rS 46 ?_ | refine rU 46 ?_ | refine rG 46 (Calm.move rfl) ?_
          first | refine rS 46 ?_ | refine rU 46 ?_ | refine rG 46 (Calm.move rfl) ?_
          first | refine rS 46 ?_ | refine rU 46 ?_ | refine rG 46 (Calm.move rfl) ?_
          first | refine rS 46 ?_ | refine rU 46 ?_ | refine rG 46 (Calm.indexS Try.underlying24 ty_size_3 rfl rfl (by omega) (by omega)) ?_
          first | refine rS 46 ?_ | refine rU 46 ?_ | refine rG 46 (ld_ ty_plain_3 rfl) ?_
          first | refine rS 46 ?_ | refine rU 46 ?_
          first | refine rS 46 ?_ | refine rU 46 ?_ | refine rG 46 (Calm.un rfl (una_not _)) ?_
          refine rC ((by first | exact Calm.pickT rfl rfl | exact Calm.pickF rfl rfl)) ?_
          refine arun_nil ?_
          refine athen_n ?_
          refine AWP.sub [(0, _), (5, _), (6, _), (7, _), (10, _), (23, _), (24, _), (25, _), (55, _)] ⟨rfl, rfl, rfl, rfl, rfl, rfl, rfl, rfl, rfl, trivial⟩ ?_
          refine AWP.condF rfl (by first | rfl | (simp; done) | (simp; omega)) ?_
          refine AWP.exit ?_
          refine athen_exit ?_
          refine athen_exit ?_
          refine ain_same ?_
          refine ⟨(L2, o2, [], .slice za 0 zc), ?_, ?_, ?_⟩
          all_goals (try dsimp only)
          · exact ⟨r2, r3, r4, r5, r6⟩
          · exact ⟨sq_, sq_, sq_, sq_, sq_, sq_, sq_, sq_, trivial⟩
          · exact Mem.Less.refl _
        · rename_i z Z2
          obtain ⟨zb, zo, zc, rfl, hzc, _⟩ := Sl.cons_addr r4
          have hzh := (Sl.head1 r4).1
          have hSo2 : S2.Less (outM S2 o2 3 (L2.map gI)) := outM_over r5
          have kz : Mem.Knows (outM S2 o2 3 (L2.map gI)) ⟨zb, zo + 0 * 1, none⟩ [.int .i64 (z : Int)] := hzh.less hSo2
          obtain ⟨hz1, hz2⟩ := r3 z (List.mem_cons_self ..)
          refine AWP.seq ?_
          refine AWP.seq ?_
          refine AWP.region ?_
          refine rC (Calm.move rfl) ?_
          refine rC (Calm.lenSl Try.underlying24 rfl) ?_
          refine rC (Calm.bin rfl rfl b_gtr) ?_
          refine rC (Calm.move rfl) ?_
          first | refine rS 46 ?_ | refine rU 46 ?_ | refine rG 46 (Calm.move rfl) ?_
          first | refine rS 46 ?_ | refine rU 46 ?_ | refine rG 46 (Calm.move rfl) ?_
          first | refine rS 46 ?_ | refine rU 46 ?_ | refine rG 46 (Calm.move rfl) ?_
          first | refine rS 46 ?_ | refine rU 46 ?_ | refine rG 46 (Calm.move rfl) ?_
          first | refine rS 46 ?_ | refine rU 46 ?_ | refine rG 46 (Calm.indexS Try.underlying24 ty_size_3 rfl rfl (by omega) (by omega)) ?_
          first | refine rS 46 ?_ | refine rU 46 ?_ | refine rG 46 (ld_ ty_plain_3 rfl) ?_
          refine ARun.callG 3 true 46 rfl (lit_lt rfl) rfl (lit_lt rfl) go_107 rfl (sk_ahead p s z _ _ rfl rfl vx l e x _ (hv0.less (hS2.trans hSo2)) (hx.less hSo2) h1 he hr (by omega) hz1 hb.2.1 hz2 hl) ?_
          rintro _ _ ⟨rfl, rfl⟩
          first | refine rS 46 ?_ | refine rU 46 ?_ | refine rG 46 (Calm.un rfl (una_not _)) ?_
          refine rC ((by first | exact Calm.pickT rfl rfl | exact Calm.pickF rfl rfl)) ?_
          refine arun_nil ?_
          refine athen_n ?_
          refine AWP.sub [(0, _), (5, _), (6, _), (7, _), (10, _), (23, _), (24, _), (25, _), (55, _)] ⟨rfl, rfl, rfl, rfl, rfl, rfl, rfl, rfl, rfl, trivial⟩ ?_
          refine AWP.condB rfl (fun hah => ?_) (fun hah => ?_)
          · have hah : Ord.sl l s z = false := nt_ hah
            obtain ⟨w1, w2⟩ := tw_cons l s z Z2 hah
            rw [w1, w2] at r6
            have hL2 : (L2.map gI).length = L2.length := List.length_map ..
            refine AWP.skip ?_
            refine athen_n ?_
            refine AWP.block ?_
            refine AWP.draw [(0, true), (1, true), (2, true), (3, true), (6, true), (7, true), (4, false), (5, false), (8, true), (9, true)] [5] mixed (by kernel_rfl) ?_
            refine dP (hc := fun _ => Calm.move rfl) (h := ?_)
            refine dP (hc := fun _ => Calm.move rfl) (h := ?_)
            refine dP (hc := fun _ => Calm.indexS Try.underlying24 ty_size_3 rfl rfl (by omega) (by omega)) (h := ?_)
            refine dC (hc := ld_ ty_plain_3 rfl) (h := ?_)
            refine dP (hc := fun _ => Calm.move rfl) (h := ?_)
            refine dP (hc := fun _ => (by first | exact Calm.sliceSl Try.underlying24 ty_size_3 rfl (bnd_none _ _) (by simp) (bnd_none _ _) (bnd_some _ _ rfl (by omega) (by omega)) | exact Calm.sliceNil Try.underlying24 ty_size_3 rfl (bnd_none _ _) (by simp) (bnd_none _ _) (bnd_zero _ _ rfl))) (h := ?_)
            refine draw_only rfl ?_
            refine ARun.build1s (lit_lt rfl) ty_sl_24 rfl rfl ?_
            intro b60 f60
            have g60 := f60
            repeat ((with_reducible replace g60 := fresh_set g60); obtain ⟨g60, _⟩ := g60)
            refine arun_nil ⟨fun _ => less_, ?_⟩
            refine draw_only rfl ?_
            refine ARun.appendO (lit_lt rfl) ty_sl_24 rfl map_len (appO_of r5 map_len f60) rfl (news := [_]) rds_ rfl (by omega) (by simp [Value.oneCell']) (by simp at r2; omega) (by simp at r2; omega) ?_
            intro b61 c61 ho2
            refine arun_nil ⟨fun h => absurd h (by decide), ?_⟩
            refine dP (hc := fun _ => Calm.assign rfl) (h := ?_)
            refine dP (hc := fun _ => Calm.assign rfl) (h := ?_)
            refine draw_nil ?_
            refine ain_n ?_
            refine athen_n ?_
            refine ⟨(L2 ++ [z], some (b61, c61), Z2, .slice (some ⟨zb, if zc = 1 then zo else zo + 1 * 1, none⟩) (Z2.length + 1 - 1) (zc - 1)), ?_, ?_, ?_, ?_⟩
            all_goals (try dsimp only)
            · exact ⟨sq_, sq_, sq_, sq_, sq_, sq_, sq_, sq_, trivial⟩
            · exact push_less rfl
            · exact ⟨by simp at r2 ⊢; omega, fun y hy => r3 y (List.mem_cons_of_mem _ hy), Sl.tail1 r4, push_ok ho2 rfl, by unfold mgS; rw [List.append_assoc]; exact r6⟩
            · simp
          · have hah : Ord.sl l s z = true := nf_ hah
            obtain ⟨w1, w2⟩ := tw_stop l s z Z2 hah
            rw [w1, w2] at r6
            refine AWP.exit ?_
            refine athen_exit ?_
            refine athen_exit ?_
            refine ain_same ?_
            refine ⟨(L2, o2, z :: Z2, .slice (some ⟨zb, zo, none⟩) (Z2.length + 1) zc), ?_, ?_, ?_⟩
            all_goals (try dsimp only)
            · exact ⟨r2, r3, r4, r5, r6⟩
            · exact ⟨sq_, sq_, sq_, sq_, sq_, sq_, sq_, sq_, trivial⟩
            · exact Mem.Less.refl _
      rintro ⟨L2, o2, Z2, uz2⟩ ⟨r2, r3, r4, r5, r6⟩
      intro _ _ hs_ hl_
      (try dsimp only at *)
      refine athen_n ?_
      refine AWP.sub _ hs_ (AWP.less _ hl_ ?_)
      clear hs_ hl_
      refine AWP.region ?_
      refine rC (Calm.move rfl) ?_
      refine rC (Calm.move rfl) ?_
      refine ARun.build1s (lit_lt rfl) ty_sl_24 rfl rfl ?_
      intro b66 f66
      have g66 := f66
      repeat ((with_reducible replace g66 := fresh_set g66); obtain ⟨g66, _⟩ := g66)
      refine ARun.appendO (lit_lt rfl) ty_sl_24 rfl map_len (appO_of r5 map_len f66) rfl (news := [_]) rds_ rfl (by omega) (by simp [Value.oneCell']) (by omega) (by omega) ?_
      intro b67 c67 ho2
      refine rC (Calm.assign rfl) ?_
      refine arun_nil ?_
      refine ain_n ?_
      refine athen_n ?_
      refine AWP.sub [(0, _), (5, _), (6, _), (7, _), (10, _), (23, _), (24, _), (25, _)] ⟨rfl, rfl, rfl, rfl, rfl, rfl, rfl, rfl, trivial⟩ ?_
      refine AWP.region ?_
      refine rC (Calm.bin rfl rfl b_add_i64) ?_
      refine rC (Calm.move rfl) ?_
      refine arun_nil ?_
      refine athen_n ?_
      refine ⟨(i + 1, L2 ++ [s], some (b67, c67), Z2, uz2), ?_, ?_, ?_, ?_⟩
      all_goals (try dsimp only)
      · exact ⟨sq_, sq_, sq_, sq_, sq_, sq_, sq_, trivial⟩
      · exact push_less rfl
      · exact ⟨hc, by rw [List.length_append]; show L2.length + 1 + _ ≤ _; omega, r3, r4, push_ok ho2 rfl, by rw [List.append_assoc]; exact r6⟩
      · omega
  · obtain rfl : i = e.length := by omega
    refine AWP.seq ?_
    refine AWP.region ?_
    refine rC (Calm.bin rfl rfl b_lss) ?_
    refine arun_nil ?_
    refine athen_n ?_
    refine AWP.seq ?_
    refine AWP.condF rfl (by first | rfl | (simp; done) | (simp; omega)) ?_
    rw [List.drop_eq_nil_of_le (Nat.le_refl _), mg] at q6
    have hlen : L.length + Z.length = l.length := by have := congrArg List.length q6; rw [List.length_append, (Ord.endsR_ok l).len] at this; exact this
    refine AWP.exit ?_
    refine athen_exit ?_
    refine athen_exit ?_
    refine ain_same ?_
    refine athen_n ?_
    refine AWP.seq ?_
    refine AWP.region ?_
    refine rC (Calm.move rfl) ?_
    refine rC (Calm.move rfl) ?_
    refine ARun.appendOK (n := 1) (o := o) (k := L.length) (m := Z.length) (cs := L.map gI) (news := Z.map gI) (lit_lt rfl) ty_sl_24 rfl rfl (by rw [List.length_map, Nat.mul_one]) q5 (appN1 q5 map_len) rfl ((src1 q4).less hSo) (by rw [List.length_map, Nat.mul_one]) (fun v hv => by obtain ⟨y, _, rfl⟩ := List.mem_map.1 hv; rfl) (by omega) (by omega) ?_
    intro o' ho'
    rw [outN_one, ← List.map_append, q6]
    refine rC (Calm.assign rfl) ?_
    refine arun_nil ?_
    refine athen_n ?_
    refine AWP.sub [(0, _), (5, _), (6, _), (7, _), (23, _), (24, _), (25, _), (26, _), (4, _)] ⟨rfl, rfl, rfl, rfl, rfl, rfl, rfl, rfl, rfl, trivial⟩ ?_
    refine AWP.ret ?_
    refine ⟨_, _, ⟨_, _, rfl, rfl, rfl⟩, Mem.Less.refl _, ?_⟩
    exact ⟨hS2.trans (outM_over ho'), sl_outV ho' (by rw [(Ord.endsR_ok l).len, hlen]) (by omega)⟩
end Go.Proofs.Ytgidjbpgkeemiaa
