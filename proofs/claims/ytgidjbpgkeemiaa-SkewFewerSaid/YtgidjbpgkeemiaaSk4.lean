/-
  Skew: a level at work: keys, and how they are held against each other.
-/
import Derived.Test.YtgidjbpgkeemiaaSk3
import Derived.Test.YtgidjbpgkeemiaaSort3CI
import Derived.Test.YtgidjbpgkeemiaaDraw
namespace Go.Proofs.Ytgidjbpgkeemiaa
open Go.RowKit
open Mv Num Loser Skew
set_option linter.unusedVariables false
set_option linter.unusedSimpArgs false
set_option maxRecDepth 4000
/-- A level behind a pointer. -/
def LvR (S : Mem) (p : Nat) (l : List Nat) : Prop := ∃ vt vs, S.Knows ⟨p, 0, none⟩ [vt] ∧ S.Knows ⟨p, 1, none⟩ [vs] ∧ RowR S vt l ∧ IdxR S vs (places l.length)
theorem LvR.less {S S' : Mem} {p : Nat} {l : List Nat} (h : LvR S p l) (hl : S.Less S') : LvR S' p l := by
  obtain ⟨vt, vs, h1, h2, h3, h4⟩ := h
  exact ⟨vt, vs, h1.less hl, h2.less hl, h3.less hl, h4.less hl⟩
theorem places_getD {n k : Nat} (hk : k < numP n) : plc n k = (places n)[k]'hk := by
  unfold plc; rw [List.getD_eq_getElem?_getD, List.getElem?_eq_getElem hk]; rfl
set_option maxHeartbeats 1000000 in
theorem sk_key (ii : Int) (k c p : Nat) (l : List Nat) (ei : ii = k) (S : Mem) (hc : S.Knows ⟨c, 0, none⟩ [.pointer (some ⟨p, 0, none⟩)]) (hv : LvR S p l) (hk : k < numP l.length) (hl : l.length ≤ 4096) :
    ACall Try.prog 100 #[.int .i64 ii, .pointer (some ⟨c, 0, none⟩)] S fun r S' => S.Less S' ∧ RowR S' r (tkey l k) := by
  subst ei
  obtain ⟨vt, vs, h1, h2, h3, h4⟩ := hv
  obtain ⟨ps, pc, rfl, p1, p2, p3⟩ := id h4
  obtain ⟨pb, po, rfl, hkn⟩ := p3.resolve_left (fun e => by unfold numP at hk; rw [e] at hk; exact absurd hk (Nat.not_lt_zero _))
  have hki : S.Knows ⟨pb, po + k * 1, none⟩ [.int .i64 (plc l.length k : Int)] := by rw [places_getD hk]; exact hkn k hk
  have hkl : (k : Int) < ((places l.length).length : Nat) := by unfold numP at hk; omega
  have hpl := (plc_lt l.length k hk).2.2
  unfold tkey
  refine ACall.enter (args := [.int .i64 (k : Int), .pointer (some ⟨c, 0, none⟩)]) (rs := [.tmp 3]) 18 [(0, .int .i64 (k : Int)), (1, .pointer (some ⟨c, 0, none⟩))] Try.func100 rfl rfl (Nat.le_of_ble_eq_true rfl) rfl ⟨rfl, rfl, trivial⟩ ?_
  refine AWP.seq ?_
  refine AWP.region ?_
  refine rC (Calm.assign rfl) ?_
  refine arun_nil ?_
  refine athen_n ?_
  refine AWP.seq ?_
  refine AWP.drawG [13] mixed ?_
  refine DG.look 0 (by kernel_rfl) (by kernel_rfl) rfl rfl rfl rfl (lit_lt rfl) less_ (ld_ ty_plain_76 rfl) ?_
  refine DG.pure 1 (by kernel_rfl) (by kernel_rfl) rfl rfl rfl rfl (lit_lt rfl) (fun _ => Calm.nilCheck rfl) ?_
  refine DG.pure 2 (by kernel_rfl) (by kernel_rfl) rfl rfl rfl rfl (lit_lt rfl) (fun _ => Calm.fieldAddr ty_field_78_0 rfl) ?_
  refine DG.look 3 (by kernel_rfl) (by kernel_rfl) rfl rfl rfl rfl (lit_lt rfl) less_ (ld_ ty_plain_72 rfl) ?_
  refine DG.look 4 (by kernel_rfl) (by kernel_rfl) rfl rfl rfl rfl (lit_lt rfl) less_ (ld_ ty_plain_76 rfl) ?_
  refine DG.pure 5 (by kernel_rfl) (by kernel_rfl) rfl rfl rfl rfl (lit_lt rfl) (fun _ => Calm.nilCheck rfl) ?_
  refine DG.pure 6 (by kernel_rfl) (by kernel_rfl) rfl rfl rfl rfl (lit_lt rfl) (fun _ => Calm.fieldAddr ty_field_78_1 rfl) ?_
  refine DG.look 7 (by kernel_rfl) (by kernel_rfl) rfl rfl rfl rfl (lit_lt rfl) less_ (ld_ ty_plain_24 rfl) ?_
  refine DG.pure 8 (by kernel_rfl) (by kernel_rfl) rfl rfl rfl rfl (lit_lt rfl) (fun _ => Calm.move rfl) ?_
  refine DG.pure 9 (by kernel_rfl) (by kernel_rfl) rfl rfl rfl rfl (lit_lt rfl) (fun _ => Calm.indexS Try.underlying24 ty_size_3 rfl rfl (by omega) (by omega)) ?_
  refine DG.look 10 (by kernel_rfl) (by kernel_rfl) rfl rfl rfl rfl (lit_lt rfl) less_ (ld_ ty_plain_3 rfl) ?_
  refine DG.two 11 12 (by kernel_rfl) rfl ?_ rfl ?_
  · refine ARun.call (lit_lt rfl) go_61 rfl (sk_triple vt l _ (plc l.length k) rfl _ (h3.less less_) (by omega)) ?_
    rintro _ S1 ⟨rfl, h5⟩
    rw [h5]; clear h5 S1
    unfold triV
    refine arun_nil ⟨fun _ => less_, ?_⟩
    refine DG.only 12 (by kernel_rfl) rfl ?_
    refine ARun.alloc (lit_lt rfl) ty_zero_71 ?_
    intro b4 f4
    have g4 := f4
    repeat ((with_reducible replace g4 := fresh_set g4); obtain ⟨g4, _⟩ := g4)
    (try simp only [List.length_cons, List.length_nil, Nat.zero_add, Nat.reduceAdd])
    refine arun_nil ⟨fun _ => less_, ?_⟩
    refine DG.only 13 (by kernel_rfl) rfl ?_
    first | refine ARun.storeAll rfl rfl ty_size_71 own_ rfl rfl ?_ | refine ARun.store rfl rfl ty_size_71 own_ lens_ rfl ?_
    (try simp only [Mem.set_set, List.set_cons_zero, List.set_cons_succ, Nat.zero_add, Nat.reduceAdd])
    refine arun_nil ⟨fun h => absurd h (by decide), ?_⟩
    refine DG.end_ (by kernel_rfl) ?_
    refine athen_n ?_
    refine AWP.sub [(0, _), (1, _), (3, _), (4, _)] ⟨rfl, rfl, rfl, rfl, trivial⟩ ?_
    refine AWP.seq ?_
    refine AWP.region ?_
    refine rC (Calm.sliceArr Try.underlying71 ty_size_41 rfl (bnd_none _ _)) ?_
    refine rC (Calm.assign rfl) ?_
    refine arun_nil ?_
    refine athen_n ?_
    refine AWP.sub [(0, _), (1, _), (3, _), (4, _)] ⟨rfl, rfl, rfl, rfl, trivial⟩ ?_
    refine AWP.ret ?_
    refine ⟨_, _, ⟨_, _, rfl, rfl, rfl⟩, Mem.Less.refl _, ?_⟩
    exact ⟨less_, Sl.own1 (g := gU) (l := tri l (plc l.length k)) (Mem.own_set_same _ _ _) List.prefix_rfl rfl (Nat.le_refl _) (by decide)⟩
  · refine ARun.alloc (lit_lt rfl) ty_zero_71 ?_
    intro b4 f4
    have g4 := f4
    repeat ((with_reducible replace g4 := fresh_set g4); obtain ⟨g4, _⟩ := g4)
    (try simp only [List.length_cons, List.length_nil, Nat.zero_add, Nat.reduceAdd])
    refine arun_nil ⟨fun _ => less_, ?_⟩
    refine DG.only 11 (by kernel_rfl) rfl ?_
    refine ARun.call (lit_lt rfl) go_61 rfl (sk_triple vt l _ (plc l.length k) rfl _ (h3.less less_) (by omega)) ?_
    rintro _ _ ⟨rfl, rfl⟩
    unfold triV
    refine arun_nil ⟨fun _ => less_, ?_⟩
    refine DG.only 13 (by kernel_rfl) rfl ?_
    first | refine ARun.storeAll rfl rfl ty_size_71 own_ rfl rfl ?_ | refine ARun.store rfl rfl ty_size_71 own_ lens_ rfl ?_
    (try simp only [Mem.set_set, List.set_cons_zero, List.set_cons_succ, Nat.zero_add, Nat.reduceAdd])
    refine arun_nil ⟨fun h => absurd h (by decide), ?_⟩
    refine DG.end_ (by kernel_rfl) ?_
    refine athen_n ?_
    refine AWP.sub [(0, _), (1, _), (3, _), (4, _)] ⟨rfl, rfl, rfl, rfl, trivial⟩ ?_
    refine AWP.seq ?_
    refine AWP.region ?_
    refine rC (Calm.sliceArr Try.underlying71 ty_size_41 rfl (bnd_none _ _)) ?_
    refine rC (Calm.assign rfl) ?_
    refine arun_nil ?_
    refine athen_n ?_
    refine AWP.sub [(0, _), (1, _), (3, _), (4, _)] ⟨rfl, rfl, rfl, rfl, trivial⟩ ?_
    refine AWP.ret ?_
    refine ⟨_, _, ⟨_, _, rfl, rfl, rfl⟩, Mem.Less.refl _, ?_⟩
    exact ⟨less_, Sl.own1 (g := gU) (l := tri l (plc l.length k)) (Mem.own_set_same _ _ _) List.prefix_rfl rfl (Nat.le_refl _) (by decide)⟩
def keyF (c : Nat) : Value := .func (.func 100) #[] #[.pointer (some ⟨c, 0, none⟩)]
set_option maxHeartbeats 1000000 in
theorem sk_kcmp (a b c6 c p : Nat) (l : List Nat) (S : Mem) (h6 : S.Knows ⟨c6, 0, none⟩ [keyF c]) (hc : S.Knows ⟨c, 0, none⟩ [.pointer (some ⟨p, 0, none⟩)]) (hv : LvR S p l) (ha : a < numP l.length) (hb : b < numP l.length) (hl : l.length ≤ 4096) :
    ACall Try.prog 102 #[gI a, gI b, .pointer (some ⟨c6, 0, none⟩)] S fun r S' => r = .int .i64 (cmpB (tkey l a) (tkey l b)) ∧ S' = S := by
  unfold gI keyF at *
  refine ACall.enter (args := [.int .i64 (a : Int), .int .i64 (b : Int), .pointer (some ⟨c6, 0, none⟩)]) (rs := [.tmp 5]) 13 [(0, .int .i64 (a : Int)), (1, .int .i64 (b : Int)), (2, .pointer (some ⟨c6, 0, none⟩))] Try.func102 rfl rfl (Nat.le_of_ble_eq_true rfl) rfl ⟨rfl, rfl, rfl, trivial⟩ ?_
  refine AWP.seq ?_
  refine AWP.region ?_
  refine rC (Calm.assign rfl) ?_
  refine arun_nil ?_
  refine athen_n ?_
  refine AWP.seq ?_
  refine AWP.draw [(0, true), (1, true), (3, true), (4, true), (2, false), (5, false), (6, false), (7, true)] [] mixed (by kernel_rfl) ?_
  refine dC (hc := ld_ ty_plain_118 rfl) (h := ?_)
  refine dP (hc := fun _ => Calm.move rfl) (h := ?_)
  refine dC (hc := ld_ ty_plain_118 rfl) (h := ?_)
  refine dP (hc := fun _ => Calm.move rfl) (h := ?_)
  refine draw_only rfl ?_
  refine ARun.callV (lit_lt rfl) go_100 rfl rfl (sk_key _ a c p l rfl _ hc hv ha hl) ?_
  rintro va S1 ⟨hS1, hva⟩
  refine arun_nil ⟨fun _ => less_, ?_⟩
  refine draw_only rfl ?_
  refine ARun.callV (lit_lt rfl) go_100 rfl rfl (sk_key _ b c p l rfl _ (hc.less hS1) (hv.less hS1) hb hl) ?_
  rintro vb S2 ⟨hS12, hvb⟩
  have hS2 := hS1.trans hS12
  refine arun_nil ⟨fun _ => less_, ?_⟩
  refine draw_only rfl ?_
  refine ARun.call (lit_lt rfl) go_69 rfl (numV_Compare _ _ va vb _ (hva.less hS12) hvb) ?_
  rintro _ S3 ⟨rfl, h3⟩
  rw [h3]; clear h3 S3
  refine arun_nil ⟨fun _ => less_, ?_⟩
  refine dP (hc := fun _ => Calm.assign rfl) (h := ?_)
  refine draw_nil ?_
  refine athen_n ?_
  refine AWP.sub [(0, _), (1, _), (2, _), (5, _)] ⟨rfl, rfl, rfl, rfl, trivial⟩ ?_
  refine AWP.ret ?_
  refine ⟨_, S, ⟨_, _, rfl, rfl, rfl⟩, hS2, ?_⟩
  exact ⟨rfl, rfl⟩
end Go.Proofs.Ytgidjbpgkeemiaa
