/-
  Skew: ranks, what stands ahead, by the program.
-/
import Derived.Test.YtgidjbpgkeemiaaSk5
namespace Go.Proofs.Ytgidjbpgkeemiaa
open Go.RowKit
open Mv Num Loser Skew Srt
set_option linter.unusedVariables false
set_option linter.unusedSimpArgs false
set_option maxRecDepth 4000

set_option maxHeartbeats 1000000 in
theorem sk_ranks (p : Nat) (ve : Value) (l e : List Nat) (S : Mem) (hv : LvR S p l) (he : IdxR S ve e) (hp : e.Perm (List.range (numP l.length))) (hl : l.length ≤ 4096) :
    ACall Try.prog 105 #[.pointer (some ⟨p, 0, none⟩), ve] S fun r S' => ∃ x, Rk l e x ∧ RdL gZ x S r S' := by
  obtain ⟨vt, vs, h1, h2, h3, h4⟩ := hv
  obtain ⟨ta, tc, rfl, _⟩ := id h3
  obtain ⟨ea, ec, rfl, e1, e2, e3⟩ := id he
  obtain ⟨pa, pc, rfl, p1, p2, p3⟩ := id h4
  have hel : e.length = numP l.length := by rw [hp.length_eq, List.length_range]
  have hml : numP l.length ≤ 3000 := places_le l.length hl
  have hmm : (places l.length).length = numP l.length := rfl
  rw [hmm] at p1 p2 h2
  refine ACall.enter (args := [.pointer (some ⟨p, 0, none⟩), .slice ea e.length ec]) (rs := [.tmp 4]) 35 [(0, .pointer (some ⟨p, 0, none⟩)), (1, .slice ea e.length ec)] Try.func105 rfl rfl (Nat.le_of_ble_eq_true rfl) rfl ⟨rfl, rfl, trivial⟩ ?_
  refine AWP.seq ?_
  refine AWP.region ?_
  refine rC (Calm.assign rfl) ?_
  refine arun_nil ?_
  refine athen_n ?_
  refine AWP.seq ?_
  refine AWP.region ?_
  refine rC (Calm.move rfl) ?_
  refine rC (Calm.nilCheck rfl) ?_
  refine rC (Calm.fieldAddr ty_field_78_0 rfl) ?_
  refine rC (ld_ ty_plain_72 rfl) ?_
  refine rC (Calm.lenSl Try.underlying72 rfl) ?_
  refine rC (Calm.bin rfl rfl b_add_i64) ?_
  refine ARun.makeSlice (lit_lt rfl) ty_sl_24 rfl rfl (by omega) (by omega) (by omega) (by omega) ?_
  intro b14 f14
  have g14 := f14
  repeat ((with_reducible replace g14 := fresh_set g14); obtain ⟨g14, _⟩ := g14)
  refine rC (Calm.assign rfl) ?_
  refine arun_nil ?_
  refine athen_n ?_
  refine AWP.sub [(0, _), (1, _), (4, _), (5, _)] ⟨rfl, rfl, rfl, rfl, trivial⟩ ?_
  have hz : List.replicate (l.length + 3) (Value.int .i64 0) = (List.replicate (l.length + 3) (0 : Int)).map gZ := by rw [List.map_replicate]; rfl
  rw [show ((l.length : Int) + 3).toNat = l.length + 3 by omega, Nat.mul_one, madeL_one, hz]
  refine AWP.seq ?_
  refine AWP.seq ?_
  refine AWP.region ?_
  refine rC (Calm.move rfl) ?_
  refine rC (Calm.lenSl Try.underlying24 rfl) ?_
  refine rC (Calm.move rfl) ?_
  refine arun_nil ?_
  refine athen_n ?_
  refine AWP.block ?_
  refine AWP.loop (X := Nat × List Int) (fun x => [(0, .pointer (some ⟨p, 0, none⟩)), (5, .slice (some ⟨b14, 0, none⟩) (l.length + 3) (l.length + 3)), (15, .slice ea e.length ec), (16, .int .i64 e.length), (17, .int .i64 x.1)]) (fun x => S.set b14 ⟨3, x.2.map gZ, l.length + 3⟩) (fun x => x.1 ≤ e.length ∧ RkI l.length e x.1 x.2) (fun x => e.length - x.1) ((0, List.replicate (l.length + 3) 0)) ⟨rfl, rfl, rfl, rfl, rfl, trivial⟩ (Mem.Less.refl _) (⟨Nat.zero_le _, RkI.start _ _⟩) ?_
  rintro ⟨i, x⟩ ⟨hi, hr⟩
  (try dsimp only at *)
  by_cases hc : i < e.length
  · refine AWP.seq ?_
    refine AWP.region ?_
    refine rC (Calm.bin rfl rfl b_lss) ?_
    refine arun_nil ?_
    refine athen_n ?_
    refine AWP.seq ?_
    refine AWP.condT rfl (by first | rfl | (simp; done) | (simp; omega)) ?_
    have hxl := hr.len
    obtain ⟨eb, eo, rfl, hke⟩ := e3.resolve_left (fun h => by rw [h] at hc; exact absurd hc (Nat.not_lt_zero _))
    have hei : e[i] < numP l.length := List.mem_range.1 (hp.mem_iff.1 (List.getElem_mem hc))
    obtain ⟨pb, po, rfl, hkn⟩ := p3.resolve_left (fun h => by rw [← hmm, h] at hei; exact absurd hei (Nat.not_lt_zero _))
    have k0 : S.Knows ⟨eb, eo + i * 1, none⟩ [.int .i64 (e[i] : Int)] := hke i hc
    have k1 : S.Knows ⟨pb, po + e[i] * 1, none⟩ [.int .i64 (plc l.length e[i] : Int)] := by rw [places_getD hei]; exact hkn e[i] hei
    have hb := (plc_lt l.length e[i] hei).2.2
    have hst := hr.step hp hc
    rw [getD_get e i 0 hc] at hst
    refine AWP.skip ?_
    refine athen_n ?_
    refine AWP.seq ?_
    refine AWP.block ?_
    refine AWP.seq ?_
    refine AWP.region ?_
    refine rC (Calm.move rfl) ?_
    refine rC (Calm.indexS Try.underlying24 ty_size_3 rfl rfl (by omega) (by omega)) ?_
    refine rC (ld_ ty_plain_3 rfl) ?_
    refine rC (Calm.assign rfl) ?_
    refine rC (Calm.assign rfl) ?_
    refine arun_nil ?_
    refine athen_n ?_
    refine AWP.sub [(0, _), (5, _), (15, _), (16, _), (17, _), (18, _), (6, _), (7, _)] ⟨rfl, rfl, rfl, rfl, rfl, rfl, rfl, rfl, trivial⟩ ?_
    refine AWP.region ?_
    refine rC (Calm.move rfl) ?_
    refine rC (Calm.move rfl) ?_
    refine rC (Calm.nilCheck rfl) ?_
    refine rC (Calm.fieldAddr ty_field_78_1 rfl) ?_
    refine rC (ld_ ty_plain_24 rfl) ?_
    refine rC (Calm.move rfl) ?_
    refine rC (Calm.indexS Try.underlying24 ty_size_3 rfl rfl (by omega) (by omega)) ?_
    refine rC (ld_ ty_plain_3 rfl) ?_
    refine rC (Calm.move rfl) ?_
    refine rC (Calm.bin rfl rfl b_add_i64) ?_
    refine rC (Calm.indexS Try.underlying24 ty_size_3 rfl rfl (by omega) (by omega)) ?_
    refine ARun.store1 rfl rfl ty_size_3 rfl own_ lens_ rfl ?_
    (try simp only [Mem.set_set, List.set_cons_zero, List.set_cons_succ, Nat.zero_add, Nat.reduceAdd])
    refine arun_nil ?_
    refine ain_n ?_
    refine athen_n ?_
    refine AWP.sub [(0, _), (5, _), (15, _), (16, _), (17, _), (18, _), (6, _), (7, _)] ⟨rfl, rfl, rfl, rfl, rfl, rfl, rfl, rfl, trivial⟩ ?_
    simp only [Nat.zero_add, Nat.mul_one, Int.toNat_natCast]
    refine AWP.region ?_
    refine rC (Calm.bin rfl rfl b_add_i64) ?_
    refine rC (Calm.move rfl) ?_
    refine arun_nil ?_
    refine athen_n ?_
    refine ⟨(i + 1, x.set (plc l.length e[i]) ((i + 1 : Nat) : Int)), ?_, ?_, ?_, ?_⟩
    all_goals (try dsimp only)
    · exact ⟨sq_, sq_, sq_, sq_, sq_, trivial⟩
    · rw [List.map_set]; exact Mem.Less.refl _
    · exact ⟨hc, hst⟩
    · omega
  · obtain rfl : i = e.length := by omega
    refine AWP.seq ?_
    refine AWP.region ?_
    refine rC (Calm.bin rfl rfl b_lss) ?_
    refine arun_nil ?_
    refine athen_n ?_
    refine AWP.seq ?_
    refine AWP.condF rfl (by first | rfl | (simp; done) | (simp; omega)) ?_
    refine AWP.exit ?_
    refine athen_exit ?_
    refine athen_exit ?_
    refine ain_same ?_
    refine athen_n ?_
    refine AWP.seq ?_
    refine AWP.region ?_
    refine rC (Calm.move rfl) ?_
    refine rC (Calm.assign rfl) ?_
    refine arun_nil ?_
    refine athen_n ?_
    refine AWP.sub [(0, _), (5, _), (15, _), (16, _), (17, _), (18, _), (4, _)] ⟨rfl, rfl, rfl, rfl, rfl, rfl, rfl, trivial⟩ ?_
    refine AWP.ret ?_
    refine ⟨_, _, ⟨_, _, rfl, rfl, rfl⟩, Mem.Less.refl _, ?_⟩
    exact ⟨x, hr, Mem.less_set _ _ _ f14.1, Sl.own1 (g := gZ) (l := x) (Mem.own_set_same _ _ _) List.prefix_rfl hr.len (Nat.le_refl _) (by omega)⟩
def cf2 (l : List Nat) (x : List Int) (a b : Nat) : Int := orL [cmpU (at0 l a) (at0 l b), cmpZ (x.getD (a + 1) 0) (x.getD (b + 1) 0)]
def cf3 (l : List Nat) (x : List Int) (a b : Nat) : Int := orL [cmpU (at0 l a) (at0 l b), cmpU (at0 l (a + 1)) (at0 l (b + 1)), cmpZ (x.getD (a + 2) 0) (x.getD (b + 2) 0)]
theorem cf2_neg (l : List Nat) (x : List Int) (a b : Nat) : cf2 l x a b < 0 ↔ at0 l a < at0 l b ∨ at0 l a = at0 l b ∧ x.getD (a + 1) 0 < x.getD (b + 1) 0 := by
  unfold cf2 orL orL orL
  have h1 := cmpU_neg (at0 l a) (at0 l b)
  have h2 := cmpU_zero (at0 l a) (at0 l b)
  have h3 := cmpZ_neg (x.getD (a + 1) 0) (x.getD (b + 1) 0)
  have h4 := cmpZ_zero (x.getD (a + 1) 0) (x.getD (b + 1) 0)
  split
  · split <;> omega
  · omega
theorem cf3_neg (l : List Nat) (x : List Int) (a b : Nat) : cf3 l x a b < 0 ↔ at0 l a < at0 l b ∨ at0 l a = at0 l b ∧ (at0 l (a + 1) < at0 l (b + 1) ∨ at0 l (a + 1) = at0 l (b + 1) ∧ x.getD (a + 2) 0 < x.getD (b + 2) 0) := by
  unfold cf3 orL orL orL orL
  have h1 := cmpU_neg (at0 l a) (at0 l b)
  have h2 := cmpU_zero (at0 l a) (at0 l b)
  have h5 := cmpU_neg (at0 l (a + 1)) (at0 l (b + 1))
  have h6 := cmpU_zero (at0 l (a + 1)) (at0 l (b + 1))
  have h3 := cmpZ_neg (x.getD (a + 2) 0) (x.getD (b + 2) 0)
  have h4 := cmpZ_zero (x.getD (a + 2) 0) (x.getD (b + 2) 0)
  split
  · split
    · split <;> omega
    · omega
  · omega
set_option maxHeartbeats 1000000 in
theorem sk_rcmp (a b c2 c3 p : Nat) (vx : Value) (l : List Nat) (x : List Int) (S : Mem) (h2 : S.Knows ⟨c2, 0, none⟩ [.pointer (some ⟨p, 0, none⟩)]) (h3 : S.Knows ⟨c3, 0, none⟩ [vx]) (hv : LvR S p l) (hx : Sl 1 i64s S vx x) (hxl : x.length = l.length + 3) (ha : a < l.length) (hb : b < l.length) (hl : l.length ≤ 4096) :
    ACall Try.prog 138 #[gI a, gI b, .pointer (some ⟨c2, 0, none⟩), .pointer (some ⟨c3, 0, none⟩)] S fun r S' => r = .int .i64 (cf2 l x a b) ∧ S' = S := by
  unfold gI at *
  obtain ⟨vt, vs, v1, v2, v3, v4⟩ := hv
  obtain ⟨xa, xc, rfl, x1, x2, x3⟩ := id hx
  obtain ⟨xb, xo, rfl, hkx⟩ := x3.resolve_left (fun h => by rw [h] at hxl; simp at hxl)
  have k1 : S.Knows ⟨xb, xo + (a + 1) * 1, none⟩ [.int .i64 (x.getD (a + 1) 0)] := by rw [getD_get x (a + 1) 0 (by omega)]; exact hkx (a + 1) (by omega)
  have k2 : S.Knows ⟨xb, xo + (b + 1) * 1, none⟩ [.int .i64 (x.getD (b + 1) 0)] := by rw [getD_get x (b + 1) 0 (by omega)]; exact hkx (b + 1) (by omega)
  refine ACall.enter (args := [.int .i64 (a : Int), .int .i64 (b : Int), .pointer (some ⟨c2, 0, none⟩), .pointer (some ⟨c3, 0, none⟩)]) (rs := [.tmp 6]) 33 [(0, .int .i64 (a : Int)), (1, .int .i64 (b : Int)), (2, .pointer (some ⟨c2, 0, none⟩)), (3, .pointer (some ⟨c3, 0, none⟩))] Try.func138 rfl rfl (Nat.le_of_ble_eq_true rfl) rfl ⟨rfl, rfl, rfl, rfl, trivial⟩ ?_
  refine AWP.seq ?_
  refine AWP.region ?_
  refine rC (Calm.assign rfl) ?_
  refine arun_nil ?_
  refine athen_n ?_
  refine AWP.seq ?_
  refine AWP.draw [(0, true), (1, true), (2, true), (3, true), (4, true), (6, true), (7, true), (8, true), (9, true), (10, true), (13, true), (14, true), (15, true), (16, true), (17, true), (18, true), (19, true), (20, true), (21, true), (22, true), (5, false), (11, false), (12, false), (23, false), (24, false), (25, false), (26, true)] [] mixed (by kernel_rfl) ?_
  refine dC (hc := ld_ ty_plain_76 rfl) (h := ?_)
  refine dP (hc := fun _ => Calm.nilCheck rfl) (h := ?_)
  refine dP (hc := fun _ => Calm.fieldAddr ty_field_78_0 rfl) (h := ?_)
  refine dC (hc := ld_ ty_plain_72 rfl) (h := ?_)
  refine dP (hc := fun _ => Calm.move rfl) (h := ?_)
  refine dC (hc := ld_ ty_plain_76 rfl) (h := ?_)
  refine dP (hc := fun _ => Calm.nilCheck rfl) (h := ?_)
  refine dP (hc := fun _ => Calm.fieldAddr ty_field_78_0 rfl) (h := ?_)
  refine dC (hc := ld_ ty_plain_72 rfl) (h := ?_)
  refine dP (hc := fun _ => Calm.move rfl) (h := ?_)
  refine dC (hc := ld_ ty_plain_24 rfl) (h := ?_)
  refine dP (hc := fun _ => Calm.move rfl) (h := ?_)
  refine dP (hc := fun _ => Calm.bin rfl rfl b_add_i64) (h := ?_)
  refine dP (hc := fun _ => Calm.indexS Try.underlying24 ty_size_3 rfl rfl (by omega) (by omega)) (h := ?_)
  refine dC (hc := ld_ ty_plain_3 rfl) (h := ?_)
  refine dC (hc := ld_ ty_plain_24 rfl) (h := ?_)
  refine dP (hc := fun _ => Calm.move rfl) (h := ?_)
  refine dP (hc := fun _ => Calm.bin rfl rfl b_add_i64) (h := ?_)
  refine dP (hc := fun _ => Calm.indexS Try.underlying24 ty_size_3 rfl rfl (by omega) (by omega)) (h := ?_)
  refine dC (hc := ld_ ty_plain_3 rfl) (h := ?_)
  refine draw_only rfl ?_
  refine ARun.call (lit_lt rfl) go_98 rfl (sk_at vt l _ a rfl _ v3) ?_
  rintro _ S1 ⟨rfl, h5⟩
  rw [h5]; clear h5 S1
  refine arun_nil ⟨fun _ => less_, ?_⟩
  refine draw_only rfl ?_
  refine ARun.call (lit_lt rfl) go_98 rfl (sk_at vt l _ b rfl _ v3) ?_
  rintro _ S1 ⟨rfl, h5⟩
  rw [h5]; clear h5 S1
  refine arun_nil ⟨fun _ => less_, ?_⟩
  refine draw_only rfl ?_
  refine ARun.call (lit_lt rfl) go_94 rfl (numV_cmp2 (at0 l a) (at0 l b) _) ?_
  rintro _ S1 ⟨rfl, h5⟩
  rw [h5]; clear h5 S1
  refine arun_nil ⟨fun _ => less_, ?_⟩
  refine draw_only rfl ?_
  refine ARun.call (lit_lt rfl) go_95 rfl (si_cmp (x.getD (a + 1) 0) (x.getD (b + 1) 0) _) ?_
  rintro _ S1 ⟨rfl, h5⟩
  rw [h5]; clear h5 S1
  refine arun_nil ⟨fun _ => less_, ?_⟩
  refine draw_only rfl ?_
  refine ARun.buildN (cs := [_, _]) (lit_lt rfl) ty_sl_24 rfl rfl rfl rfl ?_
  intro b31 f31
  have g31 := f31
  repeat ((with_reducible replace g31 := fresh_set g31); obtain ⟨g31, _⟩ := g31)
  refine arun_nil ⟨fun _ => less_, ?_⟩
  refine draw_only rfl ?_
  refine ARun.call (lit_lt rfl) go_93 rfl (si_Or _ _ _ (sl_own2 own_)) ?_
  rintro _ _ ⟨rfl, rfl⟩
  refine arun_nil ⟨fun _ => less_, ?_⟩
  refine dP (hc := fun _ => Calm.assign rfl) (h := ?_)
  refine draw_nil ?_
  refine athen_n ?_
  refine AWP.sub [(0, _), (1, _), (2, _), (3, _), (6, _)] ⟨rfl, rfl, rfl, rfl, rfl, trivial⟩ ?_
  refine AWP.ret ?_
  refine ⟨_, S, ⟨_, _, rfl, rfl, rfl⟩, less_, ?_⟩
  exact ⟨rfl, rfl⟩
set_option maxHeartbeats 2000000 in
theorem sk_ahead (p s z : Nat) (iS iz : Int) (es : iS = s) (ez : iz = z) (vx : Value) (l e : List Nat) (x : List Int) (S : Mem) (hv : LvR S p l) (hx : Sl 1 i64s S vx x) (h1 : ∀ y ∈ l, 1 ≤ y) (he : Ord.SortedE (red l) e) (hr : Rk l e x) (hs : s < l.length) (hz : z < l.length) (hs3 : s % 3 ≠ 0) (hz3 : z % 3 = 0) (hl : l.length ≤ 4096) :
    ACall Try.prog 107 #[.pointer (some ⟨p, 0, none⟩), vx, .int .i64 iS, .int .i64 iz] S fun r S' => r = .bool (Ord.sl l s z) ∧ S' = S := by
  subst es ez
  have hxl := hr.len
  obtain ⟨vt, vs, v1, v2, v3, v4⟩ := hv
  obtain ⟨xa, xc, rfl, x1, x2, x3⟩ := id hx
  obtain ⟨xb, xo, rfl, hkx⟩ := x3.resolve_left (fun h => by rw [h] at hxl; simp at hxl)
  have kx : ∀ k, k < x.length → S.Knows ⟨xb, xo + k * 1, none⟩ [.int .i64 (x.getD k 0)] := fun k hk => by rw [getD_get x k 0 hk]; exact hkx k hk
  have k1 := kx (s + 1) (by omega)
  have k2 := kx (z + 1) (by omega)
  have k3 := kx (s + 2) (by omega)
  have k4 := kx (z + 2) (by omega)
  clear kx hkx
  by_cases h3 : s % 3 = 1
  · have hans : decide (cf2 l x s z < 0) = Ord.sl l s z := by rw [Bool.eq_iff_iff, decide_eq_true_eq, cf2_neg, sl_one l e x h1 he hr s z hs hz (by omega) (by omega) (by omega)]
    refine ACall.enter (args := [.pointer (some ⟨p, 0, none⟩), .slice (some ⟨xb, xo, none⟩) x.length xc, .int .i64 (s : Int), .int .i64 (z : Int)]) (rs := [.tmp 8]) 81 [(0, .pointer (some ⟨p, 0, none⟩)), (1, .slice (some ⟨xb, xo, none⟩) x.length xc), (2, .int .i64 (s : Int)), (3, .int .i64 (z : Int))] Try.func107 rfl rfl (Nat.le_of_ble_eq_true rfl) rfl ⟨rfl, rfl, rfl, rfl, trivial⟩ ?_
    refine AWP.seq ?_
    refine AWP.region ?_
    refine rC (Calm.assign rfl) ?_
    refine arun_nil ?_
    refine athen_n ?_
    refine AWP.seq ?_
    refine AWP.seq ?_
    refine AWP.region ?_
    refine rC (Calm.move rfl) ?_
    refine rC (Calm.bin rfl rfl b_rem) ?_
    refine rC (Calm.bin rfl rfl b_eql) ?_
    refine arun_nil ?_
    refine athen_n ?_
    refine AWP.sub [(0, _), (1, _), (2, _), (3, _), (8, _), (11, _)] ⟨rfl, rfl, rfl, rfl, rfl, rfl, trivial⟩ ?_
    refine AWP.condT rfl (by first | rfl | (simp; done) | (simp; omega)) ?_
    refine AWP.seq ?_
    refine AWP.draw [(0, true), (1, true), (2, true), (3, true), (4, true), (6, true), (7, true), (8, true), (9, true), (10, true), (13, true), (14, true), (15, true), (16, true), (17, true), (18, true), (19, true), (20, true), (21, true), (22, true), (5, false), (11, false), (12, false), (23, false), (24, false), (25, false), (26, true), (27, true)] [] mixed (by kernel_rfl) ?_
    refine dP (hc := fun _ => Calm.move rfl) (h := ?_)
    refine dP (hc := fun _ => Calm.nilCheck rfl) (h := ?_)
    refine dP (hc := fun _ => Calm.fieldAddr ty_field_78_0 rfl) (h := ?_)
    refine dC (hc := ld_ ty_plain_72 rfl) (h := ?_)
    refine dP (hc := fun _ => Calm.move rfl) (h := ?_)
    refine dP (hc := fun _ => Calm.move rfl) (h := ?_)
    refine dP (hc := fun _ => Calm.nilCheck rfl) (h := ?_)
    refine dP (hc := fun _ => Calm.fieldAddr ty_field_78_0 rfl) (h := ?_)
    refine dC (hc := ld_ ty_plain_72 rfl) (h := ?_)
    refine dP (hc := fun _ => Calm.move rfl) (h := ?_)
    refine dP (hc := fun _ => Calm.move rfl) (h := ?_)
    refine dP (hc := fun _ => Calm.move rfl) (h := ?_)
    refine dP (hc := fun _ => Calm.bin rfl rfl b_add_i64) (h := ?_)
    refine dP (hc := fun _ => Calm.indexS Try.underlying24 ty_size_3 rfl rfl (by omega) (by omega)) (h := ?_)
    refine dC (hc := ld_ ty_plain_3 rfl) (h := ?_)
    refine dP (hc := fun _ => Calm.move rfl) (h := ?_)
    refine dP (hc := fun _ => Calm.move rfl) (h := ?_)
    refine dP (hc := fun _ => Calm.bin rfl rfl b_add_i64) (h := ?_)
    refine dP (hc := fun _ => Calm.indexS Try.underlying24 ty_size_3 rfl rfl (by omega) (by omega)) (h := ?_)
    refine dC (hc := ld_ ty_plain_3 rfl) (h := ?_)
    refine draw_only rfl ?_
    refine ARun.call (lit_lt rfl) go_98 rfl (sk_at vt l _ s rfl _ v3) ?_
    rintro _ S1 ⟨rfl, h5⟩
    rw [h5]; clear h5 S1
    refine arun_nil ⟨fun _ => less_, ?_⟩
    refine draw_only rfl ?_
    refine ARun.call (lit_lt rfl) go_98 rfl (sk_at vt l _ z rfl _ v3) ?_
    rintro _ S1 ⟨rfl, h5⟩
    rw [h5]; clear h5 S1
    refine arun_nil ⟨fun _ => less_, ?_⟩
    refine draw_only rfl ?_
    refine ARun.call (lit_lt rfl) go_94 rfl (numV_cmp2 (at0 l s) (at0 l z) _) ?_
    rintro _ S1 ⟨rfl, h5⟩
    rw [h5]; clear h5 S1
    refine arun_nil ⟨fun _ => less_, ?_⟩
    refine draw_only rfl ?_
    refine ARun.call (lit_lt rfl) go_95 rfl (si_cmp (x.getD (s + 1) 0) (x.getD (z + 1) 0) _) ?_
    rintro _ S1 ⟨rfl, h5⟩
    rw [h5]; clear h5 S1
    refine arun_nil ⟨fun _ => less_, ?_⟩
    refine draw_only rfl ?_
    refine ARun.buildN (cs := [_, _]) (lit_lt rfl) ty_sl_24 rfl rfl rfl rfl ?_
    intro b36 f36
    have g36 := f36
    repeat ((with_reducible replace g36 := fresh_set g36); obtain ⟨g36, _⟩ := g36)
    refine arun_nil ⟨fun _ => less_, ?_⟩
    refine draw_only rfl ?_
    refine ARun.call (lit_lt rfl) go_93 rfl (si_Or _ _ _ (sl_own2 own_)) ?_
    rintro _ _ ⟨rfl, rfl⟩
    refine arun_nil ⟨fun _ => less_, ?_⟩
    refine dP (hc := fun _ => Calm.bin rfl rfl (bin_bool (bin_lss _ _) hans)) (h := ?_)
    refine dP (hc := fun _ => Calm.assign rfl) (h := ?_)
    refine draw_nil ?_
    refine athen_n ?_
    refine AWP.sub [(0, _), (1, _), (2, _), (3, _), (8, _), (11, _)] ⟨rfl, rfl, rfl, rfl, rfl, rfl, trivial⟩ ?_
    refine AWP.ret ?_
    refine athen_ret ?_
    refine ⟨_, S, ⟨_, _, rfl, rfl, rfl⟩, less_, ?_⟩
    exact ⟨rfl, rfl⟩
  · have hans : decide (cf3 l x s z < 0) = Ord.sl l s z := by rw [Bool.eq_iff_iff, decide_eq_true_eq, cf3_neg, sl_two l e x h1 he hr s z hs hz (by omega) (by omega) (by omega)]
    refine ACall.enter (args := [.pointer (some ⟨p, 0, none⟩), .slice (some ⟨xb, xo, none⟩) x.length xc, .int .i64 (s : Int), .int .i64 (z : Int)]) (rs := [.tmp 8]) 81 [(0, .pointer (some ⟨p, 0, none⟩)), (1, .slice (some ⟨xb, xo, none⟩) x.length xc), (2, .int .i64 (s : Int)), (3, .int .i64 (z : Int))] Try.func107 rfl rfl (Nat.le_of_ble_eq_true rfl) rfl ⟨rfl, rfl, rfl, rfl, trivial⟩ ?_
    refine AWP.seq ?_
    refine AWP.region ?_
    refine rC (Calm.assign rfl) ?_
    refine arun_nil ?_
    refine athen_n ?_
    refine AWP.seq ?_
    refine AWP.seq ?_
    refine AWP.region ?_
    refine rC (Calm.move rfl) ?_
    refine rC (Calm.bin rfl rfl b_rem) ?_
    refine rC (Calm.bin rfl rfl b_eql) ?_
    refine arun_nil ?_
    refine athen_n ?_
    refine AWP.sub [(0, _), (1, _), (2, _), (3, _), (8, _), (11, _)] ⟨rfl, rfl, rfl, rfl, rfl, rfl, trivial⟩ ?_
    refine AWP.condF rfl (by first | rfl | (simp; done) | (simp; omega)) ?_
    refine AWP.skip ?_
    refine athen_n ?_
    refine AWP.seq ?_
    refine AWP.draw [(0, true), (1, true), (2, true), (3, true), (4, true), (6, true), (7, true), (8, true), (9, true), (10, true), (13, true), (14, true), (15, true), (16, true), (17, true), (18, true), (20, true), (21, true), (22, true), (23, true), (24, true), (25, true), (28, true), (29, true), (30, true), (31, true), (32, true), (33, true), (34, true), (35, true), (36, true), (37, true), (5, false), (11, false), (12, false), (19, false), (26, false), (27, false), (38, false), (39, false), (40, false), (41, true), (42, true)] [] mixed (by kernel_rfl) ?_
    refine dP (hc := fun _ => Calm.move rfl) (h := ?_)
    refine dP (hc := fun _ => Calm.nilCheck rfl) (h := ?_)
    refine dP (hc := fun _ => Calm.fieldAddr ty_field_78_0 rfl) (h := ?_)
    refine dC (hc := ld_ ty_plain_72 rfl) (h := ?_)
    refine dP (hc := fun _ => Calm.move rfl) (h := ?_)
    refine dP (hc := fun _ => Calm.move rfl) (h := ?_)
    refine dP (hc := fun _ => Calm.nilCheck rfl) (h := ?_)
    refine dP (hc := fun _ => Calm.fieldAddr ty_field_78_0 rfl) (h := ?_)
    refine dC (hc := ld_ ty_plain_72 rfl) (h := ?_)
    refine dP (hc := fun _ => Calm.move rfl) (h := ?_)
    refine dP (hc := fun _ => Calm.move rfl) (h := ?_)
    refine dP (hc := fun _ => Calm.nilCheck rfl) (h := ?_)
    refine dP (hc := fun _ => Calm.fieldAddr ty_field_78_0 rfl) (h := ?_)
    refine dC (hc := ld_ ty_plain_72 rfl) (h := ?_)
    refine dP (hc := fun _ => Calm.move rfl) (h := ?_)
    refine dP (hc := fun _ => Calm.bin rfl rfl b_add_i64) (h := ?_)
    refine dP (hc := fun _ => Calm.move rfl) (h := ?_)
    refine dP (hc := fun _ => Calm.nilCheck rfl) (h := ?_)
    refine dP (hc := fun _ => Calm.fieldAddr ty_field_78_0 rfl) (h := ?_)
    refine dC (hc := ld_ ty_plain_72 rfl) (h := ?_)
    refine dP (hc := fun _ => Calm.move rfl) (h := ?_)
    refine dP (hc := fun _ => Calm.bin rfl rfl b_add_i64) (h := ?_)
    refine dP (hc := fun _ => Calm.move rfl) (h := ?_)
    refine dP (hc := fun _ => Calm.move rfl) (h := ?_)
    refine dP (hc := fun _ => Calm.bin rfl rfl b_add_i64) (h := ?_)
    refine dP (hc := fun _ => Calm.indexS Try.underlying24 ty_size_3 rfl rfl (by omega) (by omega)) (h := ?_)
    refine dC (hc := ld_ ty_plain_3 rfl) (h := ?_)
    refine dP (hc := fun _ => Calm.move rfl) (h := ?_)
    refine dP (hc := fun _ => Calm.move rfl) (h := ?_)
    refine dP (hc := fun _ => Calm.bin rfl rfl b_add_i64) (h := ?_)
    refine dP (hc := fun _ => Calm.indexS Try.underlying24 ty_size_3 rfl rfl (by omega) (by omega)) (h := ?_)
    refine dC (hc := ld_ ty_plain_3 rfl) (h := ?_)
    refine draw_only rfl ?_
    refine ARun.call (lit_lt rfl) go_98 rfl (sk_at vt l _ s rfl _ v3) ?_
    rintro _ S1 ⟨rfl, h5⟩
    rw [h5]; clear h5 S1
    refine arun_nil ⟨fun _ => less_, ?_⟩
    refine draw_only rfl ?_
    refine ARun.call (lit_lt rfl) go_98 rfl (sk_at vt l _ z rfl _ v3) ?_
    rintro _ S1 ⟨rfl, h5⟩
    rw [h5]; clear h5 S1
    refine arun_nil ⟨fun _ => less_, ?_⟩
    refine draw_only rfl ?_
    refine ARun.call (lit_lt rfl) go_94 rfl (numV_cmp2 (at0 l s) (at0 l z) _) ?_
    rintro _ S1 ⟨rfl, h5⟩
    rw [h5]; clear h5 S1
    refine arun_nil ⟨fun _ => less_, ?_⟩
    refine draw_only rfl ?_
    refine ARun.call (lit_lt rfl) go_98 rfl (sk_at vt l _ (s + 1) om_ _ v3) ?_
    rintro _ S1 ⟨rfl, h5⟩
    rw [h5]; clear h5 S1
    refine arun_nil ⟨fun _ => less_, ?_⟩
    refine draw_only rfl ?_
    refine ARun.call (lit_lt rfl) go_98 rfl (sk_at vt l _ (z + 1) om_ _ v3) ?_
    rintro _ S1 ⟨rfl, h5⟩
    rw [h5]; clear h5 S1
    refine arun_nil ⟨fun _ => less_, ?_⟩
    refine draw_only rfl ?_
    refine ARun.call (lit_lt rfl) go_94 rfl (numV_cmp2 (at0 l (s + 1)) (at0 l (z + 1)) _) ?_
    rintro _ S1 ⟨rfl, h5⟩
    rw [h5]; clear h5 S1
    refine arun_nil ⟨fun _ => less_, ?_⟩
    refine draw_only rfl ?_
    refine ARun.call (lit_lt rfl) go_95 rfl (si_cmp (x.getD (s + 2) 0) (x.getD (z + 2) 0) _) ?_
    rintro _ S1 ⟨rfl, h5⟩
    rw [h5]; clear h5 S1
    refine arun_nil ⟨fun _ => less_, ?_⟩
    refine draw_only rfl ?_
    refine ARun.buildN (cs := [_, _, _]) (lit_lt rfl) ty_sl_24 rfl rfl rfl rfl ?_
    intro b78 f78
    have g78 := f78
    repeat ((with_reducible replace g78 := fresh_set g78); obtain ⟨g78, _⟩ := g78)
    refine arun_nil ⟨fun _ => less_, ?_⟩
    refine draw_only rfl ?_
    refine ARun.call (lit_lt rfl) go_93 rfl (si_Or _ _ _ (sl_own3 own_)) ?_
    rintro _ _ ⟨rfl, rfl⟩
    refine arun_nil ⟨fun _ => less_, ?_⟩
    refine dP (hc := fun _ => Calm.bin rfl rfl (bin_bool (bin_lss _ _) hans)) (h := ?_)
    refine dP (hc := fun _ => Calm.assign rfl) (h := ?_)
    refine draw_nil ?_
    refine athen_n ?_
    refine AWP.sub [(0, _), (1, _), (2, _), (3, _), (8, _), (11, _)] ⟨rfl, rfl, rfl, rfl, rfl, rfl, trivial⟩ ?_
    refine AWP.ret ?_
    refine ⟨_, S, ⟨_, _, rfl, rfl, rfl⟩, less_, ?_⟩
    exact ⟨rfl, rfl⟩
end Go.Proofs.Ytgidjbpgkeemiaa
