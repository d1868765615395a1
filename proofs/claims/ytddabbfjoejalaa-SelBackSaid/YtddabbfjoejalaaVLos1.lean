/-
  Loser: games, a tree that grows, copies of slices.
-/
import Derived.Test.YtddabbfjoejalaaVNum5
import Derived.Test.YtddabbfjoejalaaLoserMath2
namespace Go.Proofs.Ytddabbfjoejalaa
open Go.RowKit
open Mv Num Loser
set_option linter.unusedVariables false
set_option linter.unusedSimpArgs false
set_option maxRecDepth 4000
/-- The block of a tree at work. -/
def treeB (hk ht : Value) : Blk := ⟨64, [hk, ht], 2⟩
def intB (l : List Int) (c : Nat) : Blk := ⟨3, l.map (fun x => Value.int .i64 x), c⟩
theorem beats_cmp (ks : List (List Nat)) (a b : Nat) (hx : key ks a ≠ []) (hy : key ks b ≠ []) : beatsP ks a b = (decide (cmpB (key ks a) (key ks b) < 0) || (decide (cmpB (key ks a) (key ks b) = 0) && decide (a < b))) := by
  unfold beatsP
  rw [cmpB_lt]
  have h1 : kLess (key ks a) (key ks b) = lessB (key ks a) (key ks b) := by
    generalize key ks a = x at *; generalize key ks b = y at *
    cases x with
    | nil => exact absurd rfl hx
    | cons _ _ => cases y with
      | nil => exact absurd rfl hy
      | cons _ _ => rfl
  have h2 : ∀ x y : List Nat, cmpB x y = 0 ↔ x = y := by
    intro x
    induction x with
    | nil => intro y; cases y <;> simp [cmpB]
    | cons a x ih =>
      intro y
      cases y with
      | nil => simp [cmpB]
      | cons b y =>
        simp only [cmpB]
        split
        · simp; omega
        · split
          · simp; omega
          · rw [ih]; simp; omega
  rw [h1]
  congr 1; congr 1; rw [Bool.eq_iff_iff]; simp [h2]
set_option maxHeartbeats 1000000 in
theorem losV_beats (p : Nat) (hk ht : Value) (ks : List (List Nat)) (a b : Nat) (S : Mem) (hp : S.own p = some (treeB hk ht)) (hks : SlOf RowR S hk ks) (ha : a < ks.length) (hb : b < ks.length) :
    ACall Try.prog 75 #[.pointer (some ⟨p, 0, none⟩), .int .i64 a, .int .i64 b] S fun r S' => r = .bool (beatsP ks a b) ∧ S' = S := by
  unfold treeB at hp
  obtain ⟨hs, hsl, ⟨pa, ca, rfl, h1, h2, h3⟩, hse⟩ := hks
  obtain ⟨b0, off, rfl, hkn⟩ := h3.resolve_left (by intro h; rw [h] at hsl; simp at hsl; omega)
  have hka := hkn a (by omega)
  have hkb := hkn b (by omega)
  have hra := hse a ha (by omega)
  have hrb := hse b hb (by omega)
  rw [← key_get ks a ha] at hra
  rw [← key_get ks b hb] at hrb
  have hcmp := beats_cmp ks a b
  have hb1 : key ks a = [] → key ks b = [] → beatsP ks a b = decide (a < b) := fun h1 h2 => by unfold beatsP; rw [h1, h2]; simp [kLess]
  have hb2 : key ks a = [] → key ks b ≠ [] → beatsP ks a b = false := fun h1 h2 => by
    unfold beatsP; rw [h1]
    have : decide ([] = key ks b) = false := decide_eq_false (Ne.symm h2)
    rw [this]; simp [kLess]
  have hb3 : key ks a ≠ [] → key ks b = [] → beatsP ks a b = true := fun h1 h2 => by
    unfold beatsP; rw [h2]
    cases h : key ks a with
    | nil => exact absurd h h1
    | cons _ _ => rfl
  have hlt : decide ((a : Int) < (b : Int)) = decide (a < b) := by rw [Bool.eq_iff_iff]; simp
  have lz : ∀ l : List Nat, l.length = 0 ↔ l = [] := fun l => List.length_eq_zero_iff
  generalize key ks a = x at *
  generalize key ks b = y at *
  obtain ⟨ga, hga⟩ : ∃ g, g = hs[a] := ⟨_, rfl⟩
  obtain ⟨gb, hgb⟩ : ∃ g, g = hs[b] := ⟨_, rfl⟩
  rw [← hga] at hka hra
  rw [← hgb] at hkb hrb
  obtain ⟨qa, da, rfl, xa1, xa2, _⟩ := id hra
  obtain ⟨qb, db, rfl, xb1, xb2, _⟩ := id hrb
  by_cases hx : x.length = 0
  · by_cases hy : y.length = 0
    · rw [hb1 ((lz x).1 hx) ((lz y).1 hy)]
      refine ACall.enter (args := [.pointer (some ⟨p, 0, none⟩), .int .i64 a, .int .i64 b]) (rs := [.tmp 6]) 60 [(0, .pointer (some ⟨p, 0, none⟩)), (1, .int .i64 a), (2, .int .i64 b)] Try.func75 rfl rfl (Nat.le_of_ble_eq_true rfl) rfl ⟨rfl, rfl, rfl, trivial⟩ ?_
      refine AWP.seq ?_
      refine AWP.region ?_
      refine rC (Calm.assign rfl) ?_
      refine arun_nil ?_
      refine athen_n ?_
      refine AWP.seq ?_
      refine AWP.draw [(0, true), (1, true), (2, true), (3, true), (4, true), (5, true), (6, true), (7, true), (8, true), (9, true), (10, true), (11, true), (12, true), (13, true), (14, true), (15, true), (16, true), (17, true)] [] mixed (by kernel_rfl) ?_
      refine draw_pure rfl rfl rfl rfl (lit_lt rfl) (fun _ => Calm.move rfl) ?_
      refine draw_pure rfl rfl rfl rfl (lit_lt rfl) (fun _ => Calm.nilCheck rfl) ?_
      refine draw_pure rfl rfl rfl rfl (lit_lt rfl) (fun _ => Calm.fieldAddr ty_field_64_0 rfl) ?_
      refine draw_pure rfl rfl rfl rfl (lit_lt rfl) (fun _ => Calm.fieldAddr ty_field_25_0 rfl) ?_
      refine draw_calm rfl rfl rfl (lit_lt rfl) less_ (fun S' hS' => by obtain rfl := hS'.resolve_left (by decide); exact ld_ ty_plain_22 rfl) ?_
      refine draw_pure rfl rfl rfl rfl (lit_lt rfl) (fun _ => Calm.move rfl) ?_
      refine draw_pure rfl rfl rfl rfl (lit_lt rfl) (fun _ => Calm.indexS Try.underlying22 ty_size_32 rfl rfl (by omega) (by omega)) ?_
      refine draw_calm rfl rfl rfl (lit_lt rfl) less_ (fun S' hS' => by obtain rfl := hS'.resolve_left (by decide); exact ld_ ty_plain_32 rfl) ?_
      refine draw_pure rfl rfl rfl rfl (lit_lt rfl) (fun _ => Calm.move rfl) ?_
      refine draw_pure rfl rfl rfl rfl (lit_lt rfl) (fun _ => Calm.nilCheck rfl) ?_
      refine draw_pure rfl rfl rfl rfl (lit_lt rfl) (fun _ => Calm.fieldAddr ty_field_64_0 rfl) ?_
      refine draw_pure rfl rfl rfl rfl (lit_lt rfl) (fun _ => Calm.fieldAddr ty_field_25_0 rfl) ?_
      refine draw_calm rfl rfl rfl (lit_lt rfl) less_ (fun S' hS' => by obtain rfl := hS'.resolve_left (by decide); exact ld_ ty_plain_22 rfl) ?_
      refine draw_pure rfl rfl rfl rfl (lit_lt rfl) (fun _ => Calm.move rfl) ?_
      refine draw_pure rfl rfl rfl rfl (lit_lt rfl) (fun _ => Calm.indexS Try.underlying22 ty_size_32 rfl rfl (by omega) (by omega)) ?_
      refine draw_calm rfl rfl rfl (lit_lt rfl) less_ (fun S' hS' => by obtain rfl := hS'.resolve_left (by decide); exact ld_ ty_plain_32 rfl) ?_
      refine draw_pure rfl rfl rfl rfl (lit_lt rfl) (fun _ => Calm.assign rfl) ?_
      refine draw_pure rfl rfl rfl rfl (lit_lt rfl) (fun _ => Calm.assign rfl) ?_
      refine draw_nil ?_
      refine athen_n ?_
      refine AWP.sub [(0, _), (1, _), (2, _), (6, _), (7, _), (8, _)] ⟨rfl, rfl, rfl, rfl, rfl, rfl, trivial⟩ ?_
      refine AWP.seq ?_
      refine AWP.block ?_
      refine AWP.seq ?_
      refine AWP.region ?_
      refine rC (Calm.move rfl) ?_
      refine rC (Calm.lenSl Try.underlying32 rfl) ?_
      refine rC (Calm.bin rfl rfl b_eql) ?_
      refine rC (Calm.move rfl) ?_
      first | refine rS 30 ?_ | refine rU 30 ?_ | refine rG 30 (Calm.move rfl) ?_
      first | refine rS 30 ?_ | refine rU 30 ?_ | refine rG 30 (Calm.lenSl Try.underlying32 rfl) ?_
      first | refine rS 30 ?_ | refine rU 30 ?_ | refine rG 30 (Calm.bin rfl rfl b_eql) ?_
      refine rC ((by first | exact Calm.pickT rfl rfl | exact Calm.pickF rfl rfl)) ?_
      refine rC (Calm.assign rfl) ?_
      refine arun_nil ?_
      refine athen_n ?_
      refine AWP.sub [(0, _), (1, _), (2, _), (6, _), (7, _), (8, _), (26, _)] ⟨rfl, rfl, rfl, rfl, rfl, rfl, rfl, trivial⟩ ?_
      refine AWP.condT rfl (by first | rfl | (simp; done) | (simp; omega)) ?_
      refine AWP.seq ?_
      refine AWP.region ?_
      refine rC (Calm.move rfl) ?_
      refine rC (Calm.move rfl) ?_
      refine rC (Calm.bin rfl rfl (bin_bool (bin_lss _ _) hlt)) ?_
      refine rC (Calm.assign rfl) ?_
      refine arun_nil ?_
      refine athen_n ?_
      refine AWP.sub [(0, _), (1, _), (2, _), (6, _), (7, _), (8, _), (26, _)] ⟨rfl, rfl, rfl, rfl, rfl, rfl, rfl, trivial⟩ ?_
      refine AWP.ret ?_
      refine ain_ret ?_
      refine athen_ret ?_
      refine ⟨_, S, ⟨_, _, rfl, rfl, rfl⟩, less_, ?_⟩
      exact ⟨rfl, rfl⟩
    · rw [hb2 ((lz x).1 hx) (fun e => hy ((lz y).2 e))]
      refine ACall.enter (args := [.pointer (some ⟨p, 0, none⟩), .int .i64 a, .int .i64 b]) (rs := [.tmp 6]) 60 [(0, .pointer (some ⟨p, 0, none⟩)), (1, .int .i64 a), (2, .int .i64 b)] Try.func75 rfl rfl (Nat.le_of_ble_eq_true rfl) rfl ⟨rfl, rfl, rfl, trivial⟩ ?_
      refine AWP.seq ?_
      refine AWP.region ?_
      refine rC (Calm.assign rfl) ?_
      refine arun_nil ?_
      refine athen_n ?_
      refine AWP.seq ?_
      refine AWP.draw [(0, true), (1, true), (2, true), (3, true), (4, true), (5, true), (6, true), (7, true), (8, true), (9, true), (10, true), (11, true), (12, true), (13, true), (14, true), (15, true), (16, true), (17, true)] [] mixed (by kernel_rfl) ?_
      refine draw_pure rfl rfl rfl rfl (lit_lt rfl) (fun _ => Calm.move rfl) ?_
      refine draw_pure rfl rfl rfl rfl (lit_lt rfl) (fun _ => Calm.nilCheck rfl) ?_
      refine draw_pure rfl rfl rfl rfl (lit_lt rfl) (fun _ => Calm.fieldAddr ty_field_64_0 rfl) ?_
      refine draw_pure rfl rfl rfl rfl (lit_lt rfl) (fun _ => Calm.fieldAddr ty_field_25_0 rfl) ?_
      refine draw_calm rfl rfl rfl (lit_lt rfl) less_ (fun S' hS' => by obtain rfl := hS'.resolve_left (by decide); exact ld_ ty_plain_22 rfl) ?_
      refine draw_pure rfl rfl rfl rfl (lit_lt rfl) (fun _ => Calm.move rfl) ?_
      refine draw_pure rfl rfl rfl rfl (lit_lt rfl) (fun _ => Calm.indexS Try.underlying22 ty_size_32 rfl rfl (by omega) (by omega)) ?_
      refine draw_calm rfl rfl rfl (lit_lt rfl) less_ (fun S' hS' => by obtain rfl := hS'.resolve_left (by decide); exact ld_ ty_plain_32 rfl) ?_
      refine draw_pure rfl rfl rfl rfl (lit_lt rfl) (fun _ => Calm.move rfl) ?_
      refine draw_pure rfl rfl rfl rfl (lit_lt rfl) (fun _ => Calm.nilCheck rfl) ?_
      refine draw_pure rfl rfl rfl rfl (lit_lt rfl) (fun _ => Calm.fieldAddr ty_field_64_0 rfl) ?_
      refine draw_pure rfl rfl rfl rfl (lit_lt rfl) (fun _ => Calm.fieldAddr ty_field_25_0 rfl) ?_
      refine draw_calm rfl rfl rfl (lit_lt rfl) less_ (fun S' hS' => by obtain rfl := hS'.resolve_left (by decide); exact ld_ ty_plain_22 rfl) ?_
      refine draw_pure rfl rfl rfl rfl (lit_lt rfl) (fun _ => Calm.move rfl) ?_
      refine draw_pure rfl rfl rfl rfl (lit_lt rfl) (fun _ => Calm.indexS Try.underlying22 ty_size_32 rfl rfl (by omega) (by omega)) ?_
      refine draw_calm rfl rfl rfl (lit_lt rfl) less_ (fun S' hS' => by obtain rfl := hS'.resolve_left (by decide); exact ld_ ty_plain_32 rfl) ?_
      refine draw_pure rfl rfl rfl rfl (lit_lt rfl) (fun _ => Calm.assign rfl) ?_
      refine draw_pure rfl rfl rfl rfl (lit_lt rfl) (fun _ => Calm.assign rfl) ?_
      refine draw_nil ?_
      refine athen_n ?_
      refine AWP.sub [(0, _), (1, _), (2, _), (6, _), (7, _), (8, _)] ⟨rfl, rfl, rfl, rfl, rfl, rfl, trivial⟩ ?_
      refine AWP.seq ?_
      refine AWP.block ?_
      refine AWP.seq ?_
      refine AWP.region ?_
      refine rC (Calm.move rfl) ?_
      refine rC (Calm.lenSl Try.underlying32 rfl) ?_
      refine rC (Calm.bin rfl rfl b_eql) ?_
      refine rC (Calm.move rfl) ?_
      first | refine rS 30 ?_ | refine rU 30 ?_ | refine rG 30 (Calm.move rfl) ?_
      first | refine rS 30 ?_ | refine rU 30 ?_ | refine rG 30 (Calm.lenSl Try.underlying32 rfl) ?_
      first | refine rS 30 ?_ | refine rU 30 ?_ | refine rG 30 (Calm.bin rfl rfl b_eql) ?_
      refine rC ((by first | exact Calm.pickT rfl rfl | exact Calm.pickF rfl rfl)) ?_
      refine rC (Calm.assign rfl) ?_
      refine arun_nil ?_
      refine athen_n ?_
      refine AWP.sub [(0, _), (1, _), (2, _), (6, _), (7, _), (8, _), (26, _)] ⟨rfl, rfl, rfl, rfl, rfl, rfl, rfl, trivial⟩ ?_
      refine AWP.condF rfl (by first | rfl | (simp; done) | (simp; omega)) ?_
      refine AWP.seq ?_
      refine AWP.region ?_
      refine rC (Calm.move rfl) ?_
      refine rC (Calm.lenSl Try.underlying32 rfl) ?_
      refine rC (Calm.bin rfl rfl b_eql) ?_
      refine rC (Calm.move rfl) ?_
      first | refine rS 42 ?_ | refine rU 42 ?_ | refine rG 42 (Calm.move rfl) ?_
      first | refine rS 42 ?_ | refine rU 42 ?_ | refine rG 42 (Calm.lenSl Try.underlying32 rfl) ?_
      first | refine rS 42 ?_ | refine rU 42 ?_ | refine rG 42 (Calm.bin rfl rfl b_eql) ?_
      refine rC ((by first | exact Calm.pickT rfl rfl | exact Calm.pickF rfl rfl)) ?_
      refine rC (Calm.assign rfl) ?_
      refine arun_nil ?_
      refine athen_n ?_
      refine AWP.sub [(0, _), (1, _), (2, _), (6, _), (7, _), (8, _), (26, _), (38, _)] ⟨rfl, rfl, rfl, rfl, rfl, rfl, rfl, rfl, trivial⟩ ?_
      refine AWP.condT rfl (by first | rfl | (simp; done) | (simp; omega)) ?_
      refine AWP.seq ?_
      refine AWP.region ?_
      refine rC (Calm.move rfl) ?_
      refine rC (Calm.lenSl Try.underlying32 rfl) ?_
      refine rC (Calm.bin rfl rfl b_gtr) ?_
      refine rC (Calm.assign rfl) ?_
      refine arun_nil ?_
      refine athen_n ?_
      refine AWP.sub [(0, _), (1, _), (2, _), (6, _), (7, _), (8, _), (26, _), (38, _)] ⟨rfl, rfl, rfl, rfl, rfl, rfl, rfl, rfl, trivial⟩ ?_
      refine AWP.ret ?_
      refine ain_ret ?_
      refine athen_ret ?_
      refine ⟨_, S, ⟨_, _, rfl, rfl, rfl⟩, less_, ?_⟩
      exact ⟨rfl, rfl⟩
  · by_cases hy : y.length = 0
    · rw [hb3 (fun e => hx ((lz x).2 e)) ((lz y).1 hy)]
      refine ACall.enter (args := [.pointer (some ⟨p, 0, none⟩), .int .i64 a, .int .i64 b]) (rs := [.tmp 6]) 60 [(0, .pointer (some ⟨p, 0, none⟩)), (1, .int .i64 a), (2, .int .i64 b)] Try.func75 rfl rfl (Nat.le_of_ble_eq_true rfl) rfl ⟨rfl, rfl, rfl, trivial⟩ ?_
      refine AWP.seq ?_
      refine AWP.region ?_
      refine rC (Calm.assign rfl) ?_
      refine arun_nil ?_
      refine athen_n ?_
      refine AWP.seq ?_
      refine AWP.draw [(0, true), (1, true), (2, true), (3, true), (4, true), (5, true), (6, true), (7, true), (8, true), (9, true), (10, true), (11, true), (12, true), (13, true), (14, true), (15, true), (16, true), (17, true)] [] mixed (by kernel_rfl) ?_
      refine draw_pure rfl rfl rfl rfl (lit_lt rfl) (fun _ => Calm.move rfl) ?_
      refine draw_pure rfl rfl rfl rfl (lit_lt rfl) (fun _ => Calm.nilCheck rfl) ?_
      refine draw_pure rfl rfl rfl rfl (lit_lt rfl) (fun _ => Calm.fieldAddr ty_field_64_0 rfl) ?_
      refine draw_pure rfl rfl rfl rfl (lit_lt rfl) (fun _ => Calm.fieldAddr ty_field_25_0 rfl) ?_
      refine draw_calm rfl rfl rfl (lit_lt rfl) less_ (fun S' hS' => by obtain rfl := hS'.resolve_left (by decide); exact ld_ ty_plain_22 rfl) ?_
      refine draw_pure rfl rfl rfl rfl (lit_lt rfl) (fun _ => Calm.move rfl) ?_
      refine draw_pure rfl rfl rfl rfl (lit_lt rfl) (fun _ => Calm.indexS Try.underlying22 ty_size_32 rfl rfl (by omega) (by omega)) ?_
      refine draw_calm rfl rfl rfl (lit_lt rfl) less_ (fun S' hS' => by obtain rfl := hS'.resolve_left (by decide); exact ld_ ty_plain_32 rfl) ?_
      refine draw_pure rfl rfl rfl rfl (lit_lt rfl) (fun _ => Calm.move rfl) ?_
      refine draw_pure rfl rfl rfl rfl (lit_lt rfl) (fun _ => Calm.nilCheck rfl) ?_
      refine draw_pure rfl rfl rfl rfl (lit_lt rfl) (fun _ => Calm.fieldAddr ty_field_64_0 rfl) ?_
      refine draw_pure rfl rfl rfl rfl (lit_lt rfl) (fun _ => Calm.fieldAddr ty_field_25_0 rfl) ?_
      refine draw_calm rfl rfl rfl (lit_lt rfl) less_ (fun S' hS' => by obtain rfl := hS'.resolve_left (by decide); exact ld_ ty_plain_22 rfl) ?_
      refine draw_pure rfl rfl rfl rfl (lit_lt rfl) (fun _ => Calm.move rfl) ?_
      refine draw_pure rfl rfl rfl rfl (lit_lt rfl) (fun _ => Calm.indexS Try.underlying22 ty_size_32 rfl rfl (by omega) (by omega)) ?_
      refine draw_calm rfl rfl rfl (lit_lt rfl) less_ (fun S' hS' => by obtain rfl := hS'.resolve_left (by decide); exact ld_ ty_plain_32 rfl) ?_
      refine draw_pure rfl rfl rfl rfl (lit_lt rfl) (fun _ => Calm.assign rfl) ?_
      refine draw_pure rfl rfl rfl rfl (lit_lt rfl) (fun _ => Calm.assign rfl) ?_
      refine draw_nil ?_
      refine athen_n ?_
      refine AWP.sub [(0, _), (1, _), (2, _), (6, _), (7, _), (8, _)] ⟨rfl, rfl, rfl, rfl, rfl, rfl, trivial⟩ ?_
      refine AWP.seq ?_
      refine AWP.block ?_
      refine AWP.seq ?_
      refine AWP.region ?_
      refine rC (Calm.move rfl) ?_
      refine rC (Calm.lenSl Try.underlying32 rfl) ?_
      refine rC (Calm.bin rfl rfl b_eql) ?_
      refine rC (Calm.move rfl) ?_
      first | refine rS 30 ?_ | refine rU 30 ?_ | refine rG 30 (Calm.move rfl) ?_
      first | refine rS 30 ?_ | refine rU 30 ?_ | refine rG 30 (Calm.lenSl Try.underlying32 rfl) ?_
      first | refine rS 30 ?_ | refine rU 30 ?_ | refine rG 30 (Calm.bin rfl rfl b_eql) ?_
      refine rC ((by first | exact Calm.pickT rfl rfl | exact Calm.pickF rfl rfl)) ?_
      refine rC (Calm.assign rfl) ?_
      refine arun_nil ?_
      refine athen_n ?_
      refine AWP.sub [(0, _), (1, _), (2, _), (6, _), (7, _), (8, _), (26, _)] ⟨rfl, rfl, rfl, rfl, rfl, rfl, rfl, trivial⟩ ?_
      refine AWP.condF rfl (by first | rfl | (simp; done) | (simp; omega)) ?_
      refine AWP.seq ?_
      refine AWP.region ?_
      refine rC (Calm.move rfl) ?_
      refine rC (Calm.lenSl Try.underlying32 rfl) ?_
      refine rC (Calm.bin rfl rfl b_eql) ?_
      refine rC (Calm.move rfl) ?_
      first | refine rS 42 ?_ | refine rU 42 ?_ | refine rG 42 (Calm.move rfl) ?_
      first | refine rS 42 ?_ | refine rU 42 ?_ | refine rG 42 (Calm.lenSl Try.underlying32 rfl) ?_
      first | refine rS 42 ?_ | refine rU 42 ?_ | refine rG 42 (Calm.bin rfl rfl b_eql) ?_
      refine rC ((by first | exact Calm.pickT rfl rfl | exact Calm.pickF rfl rfl)) ?_
      refine rC (Calm.assign rfl) ?_
      refine arun_nil ?_
      refine athen_n ?_
      refine AWP.sub [(0, _), (1, _), (2, _), (6, _), (7, _), (8, _), (26, _), (38, _)] ⟨rfl, rfl, rfl, rfl, rfl, rfl, rfl, rfl, trivial⟩ ?_
      refine AWP.condT rfl (by first | rfl | (simp; done) | (simp; omega)) ?_
      refine AWP.seq ?_
      refine AWP.region ?_
      refine rC (Calm.move rfl) ?_
      refine rC (Calm.lenSl Try.underlying32 rfl) ?_
      refine rC (Calm.bin rfl rfl b_gtr) ?_
      refine rC (Calm.assign rfl) ?_
      refine arun_nil ?_
      refine athen_n ?_
      refine AWP.sub [(0, _), (1, _), (2, _), (6, _), (7, _), (8, _), (26, _), (38, _)] ⟨rfl, rfl, rfl, rfl, rfl, rfl, rfl, rfl, trivial⟩ ?_
      refine AWP.ret ?_
      refine ain_ret ?_
      refine athen_ret ?_
      refine ⟨_, S, ⟨_, _, rfl, rfl, rfl⟩, less_, ?_⟩
      exact ⟨rfl, rfl⟩
    · rw [hcmp (fun e => hx ((lz x).2 e)) (fun e => hy ((lz y).2 e))]
      by_cases hc : cmpB x y = 0
      · have hc0 := hc
        refine ACall.enter (args := [.pointer (some ⟨p, 0, none⟩), .int .i64 a, .int .i64 b]) (rs := [.tmp 6]) 60 [(0, .pointer (some ⟨p, 0, none⟩)), (1, .int .i64 a), (2, .int .i64 b)] Try.func75 rfl rfl (Nat.le_of_ble_eq_true rfl) rfl ⟨rfl, rfl, rfl, trivial⟩ ?_
        refine AWP.seq ?_
        refine AWP.region ?_
        refine rC (Calm.assign rfl) ?_
        refine arun_nil ?_
        refine athen_n ?_
        refine AWP.seq ?_
        refine AWP.draw [(0, true), (1, true), (2, true), (3, true), (4, true), (5, true), (6, true), (7, true), (8, true), (9, true), (10, true), (11, true), (12, true), (13, true), (14, true), (15, true), (16, true), (17, true)] [] mixed (by kernel_rfl) ?_
        refine draw_pure rfl rfl rfl rfl (lit_lt rfl) (fun _ => Calm.move rfl) ?_
        refine draw_pure rfl rfl rfl rfl (lit_lt rfl) (fun _ => Calm.nilCheck rfl) ?_
        refine draw_pure rfl rfl rfl rfl (lit_lt rfl) (fun _ => Calm.fieldAddr ty_field_64_0 rfl) ?_
        refine draw_pure rfl rfl rfl rfl (lit_lt rfl) (fun _ => Calm.fieldAddr ty_field_25_0 rfl) ?_
        refine draw_calm rfl rfl rfl (lit_lt rfl) less_ (fun S' hS' => by obtain rfl := hS'.resolve_left (by decide); exact ld_ ty_plain_22 rfl) ?_
        refine draw_pure rfl rfl rfl rfl (lit_lt rfl) (fun _ => Calm.move rfl) ?_
        refine draw_pure rfl rfl rfl rfl (lit_lt rfl) (fun _ => Calm.indexS Try.underlying22 ty_size_32 rfl rfl (by omega) (by omega)) ?_
        refine draw_calm rfl rfl rfl (lit_lt rfl) less_ (fun S' hS' => by obtain rfl := hS'.resolve_left (by decide); exact ld_ ty_plain_32 rfl) ?_
        refine draw_pure rfl rfl rfl rfl (lit_lt rfl) (fun _ => Calm.move rfl) ?_
        refine draw_pure rfl rfl rfl rfl (lit_lt rfl) (fun _ => Calm.nilCheck rfl) ?_
        refine draw_pure rfl rfl rfl rfl (lit_lt rfl) (fun _ => Calm.fieldAddr ty_field_64_0 rfl) ?_
        refine draw_pure rfl rfl rfl rfl (lit_lt rfl) (fun _ => Calm.fieldAddr ty_field_25_0 rfl) ?_
        refine draw_calm rfl rfl rfl (lit_lt rfl) less_ (fun S' hS' => by obtain rfl := hS'.resolve_left (by decide); exact ld_ ty_plain_22 rfl) ?_
        refine draw_pure rfl rfl rfl rfl (lit_lt rfl) (fun _ => Calm.move rfl) ?_
        refine draw_pure rfl rfl rfl rfl (lit_lt rfl) (fun _ => Calm.indexS Try.underlying22 ty_size_32 rfl rfl (by omega) (by omega)) ?_
        refine draw_calm rfl rfl rfl (lit_lt rfl) less_ (fun S' hS' => by obtain rfl := hS'.resolve_left (by decide); exact ld_ ty_plain_32 rfl) ?_
        refine draw_pure rfl rfl rfl rfl (lit_lt rfl) (fun _ => Calm.assign rfl) ?_
        refine draw_pure rfl rfl rfl rfl (lit_lt rfl) (fun _ => Calm.assign rfl) ?_
        refine draw_nil ?_
        refine athen_n ?_
        refine AWP.sub [(0, _), (1, _), (2, _), (6, _), (7, _), (8, _)] ⟨rfl, rfl, rfl, rfl, rfl, rfl, trivial⟩ ?_
        refine AWP.seq ?_
        refine AWP.block ?_
        refine AWP.seq ?_
        refine AWP.region ?_
        refine rC (Calm.move rfl) ?_
        refine rC (Calm.lenSl Try.underlying32 rfl) ?_
        refine rC (Calm.bin rfl rfl b_eql) ?_
        refine rC (Calm.move rfl) ?_
        first | refine rS 30 ?_ | refine rU 30 ?_ | refine rG 30 (Calm.move rfl) ?_
        first | refine rS 30 ?_ | refine rU 30 ?_ | refine rG 30 (Calm.lenSl Try.underlying32 rfl) ?_
        first | refine rS 30 ?_ | refine rU 30 ?_ | refine rG 30 (Calm.bin rfl rfl b_eql) ?_
        refine rC ((by first | exact Calm.pickT rfl rfl | exact Calm.pickF rfl rfl)) ?_
        refine rC (Calm.assign rfl) ?_
        refine arun_nil ?_
        refine athen_n ?_
        refine AWP.sub [(0, _), (1, _), (2, _), (6, _), (7, _), (8, _), (26, _)] ⟨rfl, rfl, rfl, rfl, rfl, rfl, rfl, trivial⟩ ?_
        refine AWP.condF rfl (by first | rfl | (simp; done) | (simp; omega)) ?_
        refine AWP.seq ?_
        refine AWP.region ?_
        refine rC (Calm.move rfl) ?_
        refine rC (Calm.lenSl Try.underlying32 rfl) ?_
        refine rC (Calm.bin rfl rfl b_eql) ?_
        refine rC (Calm.move rfl) ?_
        first | refine rS 42 ?_ | refine rU 42 ?_ | refine rG 42 (Calm.move rfl) ?_
        first | refine rS 42 ?_ | refine rU 42 ?_ | refine rG 42 (Calm.lenSl Try.underlying32 rfl) ?_
        first | refine rS 42 ?_ | refine rU 42 ?_ | refine rG 42 (Calm.bin rfl rfl b_eql) ?_
        refine rC ((by first | exact Calm.pickT rfl rfl | exact Calm.pickF rfl rfl)) ?_
        refine rC (Calm.assign rfl) ?_
        refine arun_nil ?_
        refine athen_n ?_
        refine AWP.sub [(0, _), (1, _), (2, _), (6, _), (7, _), (8, _), (26, _), (38, _)] ⟨rfl, rfl, rfl, rfl, rfl, rfl, rfl, rfl, trivial⟩ ?_
        refine AWP.condF rfl (by first | rfl | (simp; done) | (simp; omega)) ?_
        refine AWP.skip ?_
        refine ain_n ?_
        refine athen_n ?_
        refine AWP.seq ?_
        refine AWP.seq ?_
        refine AWP.region ?_
        refine rC (Calm.move rfl) ?_
        refine rC (Calm.move rfl) ?_
        refine ARun.call (lit_lt rfl) go_55 rfl (numV_Compare x y _ _ S hra hrb) ?_
        rintro _ S1 ⟨rfl, h1⟩
        rw [h1]; clear h1 S1
        refine rC (Calm.assign rfl) ?_
        refine arun_nil ?_
        refine athen_n ?_
        refine AWP.sub [(0, _), (1, _), (2, _), (6, _), (7, _), (8, _), (26, _), (38, _), (9, _)] ⟨rfl, rfl, rfl, rfl, rfl, rfl, rfl, rfl, rfl, trivial⟩ ?_
        refine AWP.seq ?_
        refine AWP.region ?_
        refine rC (Calm.move rfl) ?_
        refine rC (Calm.bin rfl rfl b_neq) ?_
        refine arun_nil ?_
        refine athen_n ?_
        refine AWP.sub [(0, _), (1, _), (2, _), (6, _), (7, _), (8, _), (26, _), (38, _), (9, _), (54, _)] ⟨rfl, rfl, rfl, rfl, rfl, rfl, rfl, rfl, rfl, rfl, trivial⟩ ?_
        refine AWP.condF rfl (by first | rfl | (simp; done) | (simp; omega)) ?_
        refine AWP.skip ?_
        refine athen_n ?_
        refine AWP.seq ?_
        refine AWP.region ?_
        refine rC (Calm.move rfl) ?_
        refine rC (Calm.move rfl) ?_
        refine rC (Calm.bin rfl rfl (bin_bool (bin_lss _ _) hlt)) ?_
        refine rC (Calm.assign rfl) ?_
        refine arun_nil ?_
        refine athen_n ?_
        refine AWP.sub [(0, _), (1, _), (2, _), (6, _), (7, _), (8, _), (26, _), (38, _), (9, _), (54, _)] ⟨rfl, rfl, rfl, rfl, rfl, rfl, rfl, rfl, rfl, rfl, trivial⟩ ?_
        refine AWP.ret ?_
        refine ⟨_, S, ⟨_, _, rfl, rfl, rfl⟩, less_, ?_⟩
        exact ⟨by rw [hc]; simp [one], rfl⟩
      · have hc0 := hc
        refine ACall.enter (args := [.pointer (some ⟨p, 0, none⟩), .int .i64 a, .int .i64 b]) (rs := [.tmp 6]) 60 [(0, .pointer (some ⟨p, 0, none⟩)), (1, .int .i64 a), (2, .int .i64 b)] Try.func75 rfl rfl (Nat.le_of_ble_eq_true rfl) rfl ⟨rfl, rfl, rfl, trivial⟩ ?_
        refine AWP.seq ?_
        refine AWP.region ?_
        refine rC (Calm.assign rfl) ?_
        refine arun_nil ?_
        refine athen_n ?_
        refine AWP.seq ?_
        refine AWP.draw [(0, true), (1, true), (2, true), (3, true), (4, true), (5, true), (6, true), (7, true), (8, true), (9, true), (10, true), (11, true), (12, true), (13, true), (14, true), (15, true), (16, true), (17, true)] [] mixed (by kernel_rfl) ?_
        refine draw_pure rfl rfl rfl rfl (lit_lt rfl) (fun _ => Calm.move rfl) ?_
        refine draw_pure rfl rfl rfl rfl (lit_lt rfl) (fun _ => Calm.nilCheck rfl) ?_
        refine draw_pure rfl rfl rfl rfl (lit_lt rfl) (fun _ => Calm.fieldAddr ty_field_64_0 rfl) ?_
        refine draw_pure rfl rfl rfl rfl (lit_lt rfl) (fun _ => Calm.fieldAddr ty_field_25_0 rfl) ?_
        refine draw_calm rfl rfl rfl (lit_lt rfl) less_ (fun S' hS' => by obtain rfl := hS'.resolve_left (by decide); exact ld_ ty_plain_22 rfl) ?_
        refine draw_pure rfl rfl rfl rfl (lit_lt rfl) (fun _ => Calm.move rfl) ?_
        refine draw_pure rfl rfl rfl rfl (lit_lt rfl) (fun _ => Calm.indexS Try.underlying22 ty_size_32 rfl rfl (by omega) (by omega)) ?_
        refine draw_calm rfl rfl rfl (lit_lt rfl) less_ (fun S' hS' => by obtain rfl := hS'.resolve_left (by decide); exact ld_ ty_plain_32 rfl) ?_
        refine draw_pure rfl rfl rfl rfl (lit_lt rfl) (fun _ => Calm.move rfl) ?_
        refine draw_pure rfl rfl rfl rfl (lit_lt rfl) (fun _ => Calm.nilCheck rfl) ?_
        refine draw_pure rfl rfl rfl rfl (lit_lt rfl) (fun _ => Calm.fieldAddr ty_field_64_0 rfl) ?_
        refine draw_pure rfl rfl rfl rfl (lit_lt rfl) (fun _ => Calm.fieldAddr ty_field_25_0 rfl) ?_
        refine draw_calm rfl rfl rfl (lit_lt rfl) less_ (fun S' hS' => by obtain rfl := hS'.resolve_left (by decide); exact ld_ ty_plain_22 rfl) ?_
        refine draw_pure rfl rfl rfl rfl (lit_lt rfl) (fun _ => Calm.move rfl) ?_
        refine draw_pure rfl rfl rfl rfl (lit_lt rfl) (fun _ => Calm.indexS Try.underlying22 ty_size_32 rfl rfl (by omega) (by omega)) ?_
        refine draw_calm rfl rfl rfl (lit_lt rfl) less_ (fun S' hS' => by obtain rfl := hS'.resolve_left (by decide); exact ld_ ty_plain_32 rfl) ?_
        refine draw_pure rfl rfl rfl rfl (lit_lt rfl) (fun _ => Calm.assign rfl) ?_
        refine draw_pure rfl rfl rfl rfl (lit_lt rfl) (fun _ => Calm.assign rfl) ?_
        refine draw_nil ?_
        refine athen_n ?_
        refine AWP.sub [(0, _), (1, _), (2, _), (6, _), (7, _), (8, _)] ⟨rfl, rfl, rfl, rfl, rfl, rfl, trivial⟩ ?_
        refine AWP.seq ?_
        refine AWP.block ?_
        refine AWP.seq ?_
        refine AWP.region ?_
        refine rC (Calm.move rfl) ?_
        refine rC (Calm.lenSl Try.underlying32 rfl) ?_
        refine rC (Calm.bin rfl rfl b_eql) ?_
        refine rC (Calm.move rfl) ?_
        first | refine rS 30 ?_ | refine rU 30 ?_ | refine rG 30 (Calm.move rfl) ?_
        first | refine rS 30 ?_ | refine rU 30 ?_ | refine rG 30 (Calm.lenSl Try.underlying32 rfl) ?_
        first | refine rS 30 ?_ | refine rU 30 ?_ | refine rG 30 (Calm.bin rfl rfl b_eql) ?_
        refine rC ((by first | exact Calm.pickT rfl rfl | exact Calm.pickF rfl rfl)) ?_
        refine rC (Calm.assign rfl) ?_
        refine arun_nil ?_
        refine athen_n ?_
        refine AWP.sub [(0, _), (1, _), (2, _), (6, _), (7, _), (8, _), (26, _)] ⟨rfl, rfl, rfl, rfl, rfl, rfl, rfl, trivial⟩ ?_
        refine AWP.condF rfl (by first | rfl | (simp; done) | (simp; omega)) ?_
        refine AWP.seq ?_
        refine AWP.region ?_
        refine rC (Calm.move rfl) ?_
        refine rC (Calm.lenSl Try.underlying32 rfl) ?_
        refine rC (Calm.bin rfl rfl b_eql) ?_
        refine rC (Calm.move rfl) ?_
        first | refine rS 42 ?_ | refine rU 42 ?_ | refine rG 42 (Calm.move rfl) ?_
        first | refine rS 42 ?_ | refine rU 42 ?_ | refine rG 42 (Calm.lenSl Try.underlying32 rfl) ?_
        first | refine rS 42 ?_ | refine rU 42 ?_ | refine rG 42 (Calm.bin rfl rfl b_eql) ?_
        refine rC ((by first | exact Calm.pickT rfl rfl | exact Calm.pickF rfl rfl)) ?_
        refine rC (Calm.assign rfl) ?_
        refine arun_nil ?_
        refine athen_n ?_
        refine AWP.sub [(0, _), (1, _), (2, _), (6, _), (7, _), (8, _), (26, _), (38, _)] ⟨rfl, rfl, rfl, rfl, rfl, rfl, rfl, rfl, trivial⟩ ?_
        refine AWP.condF rfl (by first | rfl | (simp; done) | (simp; omega)) ?_
        refine AWP.skip ?_
        refine ain_n ?_
        refine athen_n ?_
        refine AWP.seq ?_
        refine AWP.seq ?_
        refine AWP.region ?_
        refine rC (Calm.move rfl) ?_
        refine rC (Calm.move rfl) ?_
        refine ARun.call (lit_lt rfl) go_55 rfl (numV_Compare x y _ _ S hra hrb) ?_
        rintro _ S1 ⟨rfl, h1⟩
        rw [h1]; clear h1 S1
        refine rC (Calm.assign rfl) ?_
        refine arun_nil ?_
        refine athen_n ?_
        refine AWP.sub [(0, _), (1, _), (2, _), (6, _), (7, _), (8, _), (26, _), (38, _), (9, _)] ⟨rfl, rfl, rfl, rfl, rfl, rfl, rfl, rfl, rfl, trivial⟩ ?_
        refine AWP.seq ?_
        refine AWP.region ?_
        refine rC (Calm.move rfl) ?_
        refine rC (Calm.bin rfl rfl b_neq) ?_
        refine arun_nil ?_
        refine athen_n ?_
        refine AWP.sub [(0, _), (1, _), (2, _), (6, _), (7, _), (8, _), (26, _), (38, _), (9, _), (54, _)] ⟨rfl, rfl, rfl, rfl, rfl, rfl, rfl, rfl, rfl, rfl, trivial⟩ ?_
        refine AWP.condT rfl (by first | rfl | (simp; done) | (simp; omega)) ?_
        refine AWP.seq ?_
        refine AWP.region ?_
        refine rC (Calm.move rfl) ?_
        refine rC (Calm.bin rfl rfl b_lss) ?_
        refine rC (Calm.assign rfl) ?_
        refine arun_nil ?_
        refine athen_n ?_
        refine AWP.sub [(0, _), (1, _), (2, _), (6, _), (7, _), (8, _), (26, _), (38, _), (9, _), (54, _)] ⟨rfl, rfl, rfl, rfl, rfl, rfl, rfl, rfl, rfl, rfl, trivial⟩ ?_
        refine AWP.ret ?_
        refine athen_ret ?_
        refine ⟨_, S, ⟨_, _, rfl, rfl, rfl⟩, less_, ?_⟩
        exact ⟨by simp [one, hc], rfl⟩
theorem zeros_get (n m : Nat) (h : m < n) : (List.replicate n (0 : Int))[m]? = some 0 := by simp [h]
set_option maxRecDepth 10000 in
set_option maxHeartbeats 4000000 in
theorem losV_grow (p : Nat) (hk ht : Value) (ks : List (List Nat)) (S : Mem) (hf : Fresh S p) (hks : SlOf RowR S hk ks) (hl1 : 1 ≤ ks.length) (hl2 : ks.length ≤ 256) :
    ACall Try.prog 73 #[.pointer (some ⟨p, 0, none⟩)] (S.set p (treeB hk ht)) fun r S' => ∃ q, Fresh S q ∧ q ≠ p ∧ S' = (S.set q (intB (treeOf ks) ks.length)).set p (treeB hk (.slice (some ⟨q, 0, none⟩) ks.length ks.length)) := by
  unfold treeB intB
  obtain ⟨pa, ca, rfl⟩ : ∃ pa ca, hk = .slice pa ks.length ca := by
    obtain ⟨hs, hsl, ⟨pa, ca, e, _⟩, _⟩ := id hks
    exact ⟨pa, ca, by rw [e, hsl]⟩
  refine ACall.enter (args := [.pointer (some ⟨p, 0, none⟩)]) (rs := []) 80 [(0, .pointer (some ⟨p, 0, none⟩))] Try.func73 rfl rfl (Nat.le_of_ble_eq_true rfl) rfl ⟨rfl, trivial⟩ ?_
  refine AWP.seq ?_
  refine AWP.region ?_
  refine rC (Calm.move rfl) ?_
  refine rC (Calm.nilCheck rfl) ?_
  refine rC (Calm.fieldAddr ty_field_64_0 rfl) ?_
  refine rC (Calm.fieldAddr ty_field_25_0 rfl) ?_
  refine rC (ld_ ty_plain_22 rfl) ?_
  refine rC (Calm.lenSl Try.underlying22 rfl) ?_
  refine rC (Calm.assign rfl) ?_
  refine arun_nil ?_
  refine athen_n ?_
  refine AWP.sub [(0, _), (2, _)] ⟨rfl, rfl, trivial⟩ ?_
  refine AWP.seq ?_
  refine AWP.region ?_
  refine rC (Calm.move rfl) ?_
  refine rC (Calm.move rfl) ?_
  refine ARun.makeSlice (lit_lt rfl) ty_sl_23 rfl rfl (by omega) (by omega) (by omega) (by omega) ?_
  intro b16 f16
  have g16 := f16
  repeat ((with_reducible replace g16 := fresh_set g16); obtain ⟨g16, _⟩ := g16)
  refine rC (Calm.nilCheck rfl) ?_
  refine rC (Calm.fieldAddr ty_field_64_0 rfl) ?_
  refine rC (Calm.fieldAddr ty_field_25_1 rfl) ?_
  refine ARun.store1 rfl rfl ty_size_23 rfl own_ lens_ rfl ?_
  (try simp only [Mem.set_set, List.set_cons_zero, List.set_cons_succ, Nat.zero_add, Nat.reduceAdd])
  refine arun_nil ?_
  refine athen_n ?_
  refine AWP.sub [(0, _), (2, _)] ⟨rfl, rfl, trivial⟩ ?_
  simp only [Nat.mul_one, madeL_one, Int.toNat_natCast]
  refine AWP.seq ?_
  refine AWP.region ?_
  refine rC (Calm.move rfl) ?_
  refine rC (Calm.bin rfl rfl b_mul_i64) ?_
  refine ARun.makeSlice (lit_lt rfl) ty_sl_23 rfl rfl (by omega) (by omega) (by omega) (by omega) ?_
  intro b22 f22
  have g22 := f22
  repeat ((with_reducible replace g22 := fresh_set g22); obtain ⟨g22, _⟩ := g22)
  refine rC (Calm.assign rfl) ?_
  refine arun_nil ?_
  refine athen_n ?_
  refine AWP.sub [(0, _), (2, _), (3, _)] ⟨rfl, rfl, rfl, trivial⟩ ?_
  have em2 : (2 * (ks.length : Int)).toNat = 2 * ks.length := by omega
  simp only [Nat.mul_one, madeL_one, em2]
  have hz : ∀ n, List.replicate n (Value.int .i64 0) = (List.replicate n (0 : Int)).map fun x => Value.int .i64 x := fun n => by simp
  rw [hz, hz]
  refine AWP.seq ?_
  refine AWP.seq ?_
  refine AWP.region ?_
  refine rC (Calm.move rfl) ?_
  refine rC (Calm.move rfl) ?_
  refine arun_nil ?_
  refine athen_n ?_
  refine AWP.block ?_
  refine AWP.loop (X := Nat × List Int) (fun x => [(0, .pointer (some ⟨p, 0, none⟩)), (2, .int .i64 ks.length), (3, .slice (some ⟨b22, 0, none⟩) (2 * ks.length) (2 * ks.length)), (23, .int .i64 ks.length), (24, .int .i64 x.1)]) (fun x => ((S.set b16 ⟨3, (List.replicate ks.length (0 : Int)).map (fun x => Value.int .i64 x), ks.length⟩).set b22 ⟨3, x.2.map (fun x => Value.int .i64 x), 2 * ks.length⟩).set p ⟨64, [.slice pa ks.length ca, .slice (some ⟨b16, 0, none⟩) ks.length ks.length], 2⟩) (fun x => x.1 ≤ ks.length ∧ x.2.length = 2 * ks.length ∧ ∀ m, ks.length ≤ m → m < ks.length + x.1 → x.2[m]? = some ((m - ks.length : Nat) : Int)) (fun x => ks.length - x.1) ((0, List.replicate (2 * ks.length) (0 : Int))) ⟨rfl, rfl, rfl, rfl, rfl, trivial⟩ less_ (⟨Nat.zero_le _, by simp, fun m h1 h2 => by omega⟩) ?_
  rintro ⟨i, ws⟩ ⟨hi, hwl, hw⟩
  (try dsimp only at *)
  refine AWP.seq ?_
  refine AWP.region ?_
  refine rC (Calm.bin rfl rfl b_lss) ?_
  refine arun_nil ?_
  refine athen_n ?_
  refine AWP.seq ?_
  refine AWP.condB rfl (fun hil => ?_) (fun hil => ?_)
  · have hil : i < ks.length := by have := of_decide_eq_true hil; omega
    have eki : ((ks.length : Int) + (i : Int)).toNat = ks.length + i := by omega
    refine AWP.skip ?_
    refine athen_n ?_
    refine AWP.seq ?_
    refine AWP.block ?_
    refine AWP.seq ?_
    refine AWP.region ?_
    refine rC (Calm.move rfl) ?_
    refine rC (Calm.assign rfl) ?_
    refine arun_nil ?_
    refine athen_n ?_
    refine AWP.sub [(0, _), (2, _), (3, _), (23, _), (24, _), (25, _), (4, _)] ⟨rfl, rfl, rfl, rfl, rfl, rfl, rfl, trivial⟩ ?_
    refine AWP.region ?_
    refine rC (Calm.move rfl) ?_
    refine rC (Calm.move rfl) ?_
    refine rC (Calm.move rfl) ?_
    refine rC (Calm.bin rfl rfl b_add_i64) ?_
    refine rC (Calm.move rfl) ?_
    refine rC (Calm.indexS Try.underlying23 ty_size_3 rfl rfl (by omega) (by omega)) ?_
    refine ARun.store1 rfl rfl ty_size_3 rfl own_ lens_ rfl ?_
    (try simp only [Mem.set_set, List.set_cons_zero, List.set_cons_succ, Nat.zero_add, Nat.reduceAdd])
    refine arun_nil ?_
    refine ain_n ?_
    refine athen_n ?_
    refine AWP.sub [(0, _), (2, _), (3, _), (23, _), (24, _), (25, _), (4, _)] ⟨rfl, rfl, rfl, rfl, rfl, rfl, rfl, trivial⟩ ?_
    simp only [Nat.zero_add, Nat.mul_one, eki, icells_set]
    refine AWP.region ?_
    refine rC (Calm.bin rfl rfl b_add_i64) ?_
    refine rC (Calm.move rfl) ?_
    refine arun_nil ?_
    refine athen_n ?_
    refine ⟨(i + 1, ws.set (ks.length + i) (i : Int)), ?_, ?_, ?_, ?_⟩
    all_goals (try dsimp only)
    · exact ⟨rfl, rfl, rfl, rfl, rfl, trivial⟩
    · exact less_
    · exact ⟨hil, by rw [List.length_set]; exact hwl, fun m h1 h2 => by by_cases e : ks.length + i = m; (subst e; rw [List.getElem?_set_self (by omega)]; simp); (rw [List.getElem?_set_ne e]; exact hw m h1 (by omega))⟩
    · omega
  · have hil : i = ks.length := by have := of_decide_eq_false hil; omega
    have hG : GroI ks (ks.length - 1) ws (List.replicate ks.length (0 : Int)) := ⟨hwl, by simp, fun m h1 h2 => by rw [hw m (by omega) (by omega), win_leaf ks m (by omega)], fun m h1 h2 h3 => by omega, .inl (zeros_get _ 0 (by omega))⟩
    refine AWP.exit ?_
    refine athen_exit ?_
    refine athen_exit ?_
    refine ain_same ?_
    refine athen_n ?_
    refine AWP.seq ?_
    refine AWP.seq ?_
    refine AWP.region ?_
    refine rC (Calm.move rfl) ?_
    refine rC (Calm.bin rfl rfl b_sub_i64) ?_
    refine rC (Calm.assign rfl) ?_
    refine arun_nil ?_
    refine athen_n ?_
    refine AWP.sub [(0, _), (2, _), (3, _), (23, _), (24, _), (25, _), (5, _)] ⟨rfl, rfl, rfl, rfl, rfl, rfl, rfl, trivial⟩ ?_
    refine AWP.block ?_
    refine AWP.loop (X := Nat × List Int × List Int) (fun x => [(0, .pointer (some ⟨p, 0, none⟩)), (2, .int .i64 ks.length), (3, .slice (some ⟨b22, 0, none⟩) (2 * ks.length) (2 * ks.length)), (5, .int .i64 x.1)]) (fun x => ((S.set b16 ⟨3, x.2.2.map (fun x => Value.int .i64 x), ks.length⟩).set b22 ⟨3, x.2.1.map (fun x => Value.int .i64 x), 2 * ks.length⟩).set p ⟨64, [.slice pa ks.length ca, .slice (some ⟨b16, 0, none⟩) ks.length ks.length], 2⟩) (fun x => x.1 < ks.length ∧ GroI ks x.1 x.2.1 x.2.2) (fun x => x.1) ((ks.length - 1, ws, List.replicate ks.length (0 : Int))) ⟨rfl, rfl, rfl, some_int (by omega), trivial⟩ less_ (⟨by omega, hG⟩) ?_
    rintro ⟨n, vs, tr⟩ ⟨hn, hI⟩
    (try dsimp only at *)
    have hvl := hI.wl
    have htl := hI.tl
    by_cases hn1 : 1 ≤ n
    · refine AWP.seq ?_
      refine AWP.seq ?_
      refine AWP.region ?_
      refine rC (Calm.move rfl) ?_
      refine rC (Calm.bin rfl rfl b_geq) ?_
      refine arun_nil ?_
      refine athen_n ?_
      refine AWP.sub [(0, _), (2, _), (3, _), (5, _), (37, _)] ⟨rfl, rfl, rfl, rfl, rfl, trivial⟩ ?_
      refine AWP.condT rfl (by first | rfl | (simp; done) | (simp; omega)) ?_
      have k1 := kn_int (S := ((S.set b16 ⟨3, tr.map (fun x => Value.int .i64 x), ks.length⟩).set b22 ⟨3, vs.map (fun x => Value.int .i64 x), 2 * ks.length⟩).set p ⟨64, [.slice pa ks.length ca, .slice (some ⟨b16, 0, none⟩) ks.length ks.length], 2⟩) (b := b22) own_ (2 * n) (hI.win_ (2 * n) (by omega) (by omega))
      have k2 := kn_int (S := ((S.set b16 ⟨3, tr.map (fun x => Value.int .i64 x), ks.length⟩).set b22 ⟨3, vs.map (fun x => Value.int .i64 x), 2 * ks.length⟩).set p ⟨64, [.slice pa ks.length ca, .slice (some ⟨b16, 0, none⟩) ks.length ks.length], 2⟩) (b := b22) own_ (2 * n + 1) (hI.win_ (2 * n + 1) (by omega) (by omega))
      have hw1 := win_lt (ks := ks) (n := 2 * n) (by omega) (by omega)
      have hw2 := win_lt (ks := ks) (n := 2 * n + 1) (by omega) (by omega)
      have hg := game ks n (2 * n) (2 * n + 1) hn1 hn (.inl ⟨rfl, rfl⟩)
      refine AWP.skip ?_
      refine athen_n ?_
      refine AWP.seq ?_
      refine AWP.block ?_
      refine AWP.seq ?_
      refine AWP.draw [(0, true), (1, true), (2, true), (3, true), (4, true), (5, true), (6, true), (7, true), (8, true), (9, true), (10, true), (11, true), (12, true)] [] mixed (by kernel_rfl) ?_
      refine draw_pure rfl rfl rfl rfl (lit_lt rfl) (fun _ => Calm.move rfl) ?_
      refine draw_pure rfl rfl rfl rfl (lit_lt rfl) (fun _ => Calm.move rfl) ?_
      refine draw_pure rfl rfl rfl rfl (lit_lt rfl) (fun _ => Calm.bin rfl rfl b_mul_i64) ?_
      refine draw_pure rfl rfl rfl rfl (lit_lt rfl) (fun _ => Calm.indexS Try.underlying23 ty_size_3 rfl rfl (by omega) (by omega)) ?_
      refine draw_calm rfl rfl rfl (lit_lt rfl) less_ (fun S' hS' => by obtain rfl := hS'.resolve_left (by decide); exact ld_ ty_plain_3 rfl) ?_
      refine draw_pure rfl rfl rfl rfl (lit_lt rfl) (fun _ => Calm.move rfl) ?_
      refine draw_pure rfl rfl rfl rfl (lit_lt rfl) (fun _ => Calm.move rfl) ?_
      refine draw_pure rfl rfl rfl rfl (lit_lt rfl) (fun _ => Calm.bin rfl rfl b_mul_i64) ?_
      refine draw_pure rfl rfl rfl rfl (lit_lt rfl) (fun _ => Calm.bin rfl rfl b_add_i64) ?_
      refine draw_pure rfl rfl rfl rfl (lit_lt rfl) (fun _ => Calm.indexS Try.underlying23 ty_size_3 rfl rfl (by omega) (by omega)) ?_
      refine draw_calm rfl rfl rfl (lit_lt rfl) less_ (fun S' hS' => by obtain rfl := hS'.resolve_left (by decide); exact ld_ ty_plain_3 rfl) ?_
      refine draw_pure rfl rfl rfl rfl (lit_lt rfl) (fun _ => Calm.assign rfl) ?_
      refine draw_pure rfl rfl rfl rfl (lit_lt rfl) (fun _ => Calm.assign rfl) ?_
      refine draw_nil ?_
      refine athen_n ?_
      refine AWP.sub [(0, _), (2, _), (3, _), (5, _), (37, _), (6, _), (7, _)] ⟨rfl, rfl, rfl, rfl, rfl, rfl, rfl, trivial⟩ ?_
      refine AWP.seq ?_
      refine AWP.seq ?_
      refine AWP.region ?_
      refine rC (Calm.move rfl) ?_
      refine rC (Calm.move rfl) ?_
      refine rC (Calm.move rfl) ?_
      refine ARun.call (lit_lt rfl) go_75 rfl (losV_beats p _ _ ks _ _ _ own_ (hks.less rowR_less less_) hw2 hw1) ?_
      rintro _ S1 ⟨rfl, h1⟩
      rw [h1]; clear h1 S1
      refine arun_nil ?_
      refine athen_n ?_
      refine AWP.sub [(0, _), (2, _), (3, _), (5, _), (37, _), (6, _), (7, _), (54, _)] ⟨rfl, rfl, rfl, rfl, rfl, rfl, rfl, rfl, trivial⟩ ?_
      rcases Bool.eq_false_or_eq_true (beatsP ks (win ks (2 * n + 1)) (win ks (2 * n))) with hb | hb
      · obtain ⟨e1, e2⟩ := hg.1 hb
        refine AWP.condT rfl (hb) ?_
        refine AWP.region ?_
        refine rC (Calm.move rfl) ?_
        refine rC (Calm.move rfl) ?_
        refine rC (Calm.assign rfl) ?_
        refine rC (Calm.assign rfl) ?_
        refine arun_nil ?_
        refine athen_n ?_
        refine AWP.sub [(0, _), (2, _), (3, _), (5, _), (37, _), (6, _), (7, _), (54, _)] ⟨rfl, rfl, rfl, rfl, rfl, rfl, rfl, rfl, trivial⟩ ?_
        refine AWP.region ?_
        refine rC (Calm.move rfl) ?_
        refine rC (Calm.move rfl) ?_
        refine rC (Calm.move rfl) ?_
        refine rC (Calm.nilCheck rfl) ?_
        refine rC (Calm.fieldAddr ty_field_64_0 rfl) ?_
        refine rC (Calm.fieldAddr ty_field_25_1 rfl) ?_
        refine rC (ld_ ty_plain_23 rfl) ?_
        refine rC (Calm.move rfl) ?_
        refine rC (Calm.move rfl) ?_
        refine rC (Calm.move rfl) ?_
        refine rC (Calm.indexS Try.underlying23 ty_size_3 rfl rfl (by omega) (by omega)) ?_
        refine ARun.store1 rfl rfl ty_size_3 rfl own_ lens_ rfl ?_
        (try simp only [Mem.set_set, List.set_cons_zero, List.set_cons_succ, Nat.zero_add, Nat.reduceAdd])
        refine rC (Calm.indexS Try.underlying23 ty_size_3 rfl rfl (by omega) (by omega)) ?_
        refine ARun.store1 rfl rfl ty_size_3 rfl own_ lens_ rfl ?_
        (try simp only [Mem.set_set, List.set_cons_zero, List.set_cons_succ, Nat.zero_add, Nat.reduceAdd])
        refine arun_nil ?_
        refine ain_n ?_
        refine athen_n ?_
        refine AWP.sub [(0, _), (2, _), (3, _), (5, _), (37, _), (6, _), (7, _), (54, _)] ⟨rfl, rfl, rfl, rfl, rfl, rfl, rfl, rfl, trivial⟩ ?_
        simp only [Nat.zero_add, Nat.mul_one, Int.toNat_natCast, icells_set]
        rw [← e1, ← e2]
        refine AWP.region ?_
        refine rC (Calm.move rfl) ?_
        refine rC (Calm.bin rfl rfl b_sub_i64) ?_
        refine rC (Calm.assign rfl) ?_
        refine arun_nil ?_
        refine athen_n ?_
        refine ⟨(n - 1, vs.set n (win ks n : Int), tr.set n (los ks n : Int)), ?_, ?_, ?_, ?_⟩
        all_goals (try dsimp only)
        · exact ⟨rfl, rfl, rfl, some_int (by omega), trivial⟩
        · exact less_
        · exact ⟨by omega, hI.step hn1 hn⟩
        · omega
      · obtain ⟨e1, e2⟩ := hg.2 hb
        refine AWP.condF rfl (hb) ?_
        refine AWP.skip ?_
        refine athen_n ?_
        refine AWP.region ?_
        refine rC (Calm.move rfl) ?_
        refine rC (Calm.move rfl) ?_
        refine rC (Calm.move rfl) ?_
        refine rC (Calm.nilCheck rfl) ?_
        refine rC (Calm.fieldAddr ty_field_64_0 rfl) ?_
        refine rC (Calm.fieldAddr ty_field_25_1 rfl) ?_
        refine rC (ld_ ty_plain_23 rfl) ?_
        refine rC (Calm.move rfl) ?_
        refine rC (Calm.move rfl) ?_
        refine rC (Calm.move rfl) ?_
        refine rC (Calm.indexS Try.underlying23 ty_size_3 rfl rfl (by omega) (by omega)) ?_
        refine ARun.store1 rfl rfl ty_size_3 rfl own_ lens_ rfl ?_
        (try simp only [Mem.set_set, List.set_cons_zero, List.set_cons_succ, Nat.zero_add, Nat.reduceAdd])
        refine rC (Calm.indexS Try.underlying23 ty_size_3 rfl rfl (by omega) (by omega)) ?_
        refine ARun.store1 rfl rfl ty_size_3 rfl own_ lens_ rfl ?_
        (try simp only [Mem.set_set, List.set_cons_zero, List.set_cons_succ, Nat.zero_add, Nat.reduceAdd])
        refine arun_nil ?_
        refine ain_n ?_
        refine athen_n ?_
        refine AWP.sub [(0, _), (2, _), (3, _), (5, _), (37, _), (6, _), (7, _), (54, _)] ⟨rfl, rfl, rfl, rfl, rfl, rfl, rfl, rfl, trivial⟩ ?_
        simp only [Nat.zero_add, Nat.mul_one, Int.toNat_natCast, icells_set]
        rw [← e1, ← e2]
        refine AWP.region ?_
        refine rC (Calm.move rfl) ?_
        refine rC (Calm.bin rfl rfl b_sub_i64) ?_
        refine rC (Calm.assign rfl) ?_
        refine arun_nil ?_
        refine athen_n ?_
        refine ⟨(n - 1, vs.set n (win ks n : Int), tr.set n (los ks n : Int)), ?_, ?_, ?_, ?_⟩
        all_goals (try dsimp only)
        · exact ⟨rfl, rfl, rfl, some_int (by omega), trivial⟩
        · exact less_
        · exact ⟨by omega, hI.step hn1 hn⟩
        · omega
    · obtain rfl : n = 0 := by omega
      refine AWP.seq ?_
      refine AWP.seq ?_
      refine AWP.region ?_
      refine rC (Calm.move rfl) ?_
      refine rC (Calm.bin rfl rfl b_geq) ?_
      refine arun_nil ?_
      refine athen_n ?_
      refine AWP.sub [(0, _), (2, _), (3, _), (5, _), (37, _)] ⟨rfl, rfl, rfl, rfl, rfl, trivial⟩ ?_
      refine AWP.condF rfl (by first | rfl | (simp; done) | (simp; omega)) ?_
      by_cases hk1 : 1 < ks.length
      · refine AWP.exit ?_
        refine athen_exit ?_
        refine athen_exit ?_
        refine ain_same ?_
        refine athen_n ?_
        refine AWP.seq ?_
        refine AWP.region ?_
        refine rC (Calm.move rfl) ?_
        refine rC (Calm.bin rfl rfl b_gtr) ?_
        refine arun_nil ?_
        refine athen_n ?_
        refine AWP.sub [(0, _), (2, _), (3, _), (5, _), (37, _), (70, _)] ⟨rfl, rfl, rfl, rfl, rfl, rfl, trivial⟩ ?_
        refine AWP.condT rfl (by first | rfl | (simp; done) | (simp; omega)) ?_
        have k1 := kn_int (S := ((S.set b16 ⟨3, tr.map (fun x => Value.int .i64 x), ks.length⟩).set b22 ⟨3, vs.map (fun x => Value.int .i64 x), 2 * ks.length⟩).set p ⟨64, [.slice pa ks.length ca, .slice (some ⟨b16, 0, none⟩) ks.length ks.length], 2⟩) (b := b22) own_ 1 (hI.win_ 1 (by omega) (by omega))
        refine AWP.draw [(0, true), (1, true), (2, true), (3, true), (4, true), (5, true), (6, true), (7, true), (8, true), (9, false)] [9] mixed (by kernel_rfl) ?_
        refine draw_pure rfl rfl rfl rfl (lit_lt rfl) (fun _ => Calm.move rfl) ?_
        refine draw_pure rfl rfl rfl rfl (lit_lt rfl) (fun _ => Calm.nilCheck rfl) ?_
        refine draw_pure rfl rfl rfl rfl (lit_lt rfl) (fun _ => Calm.fieldAddr ty_field_64_0 rfl) ?_
        refine draw_pure rfl rfl rfl rfl (lit_lt rfl) (fun _ => Calm.fieldAddr ty_field_25_1 rfl) ?_
        refine draw_calm rfl rfl rfl (lit_lt rfl) less_ (fun S' hS' => by obtain rfl := hS'.resolve_left (by decide); exact ld_ ty_plain_23 rfl) ?_
        refine draw_pure rfl rfl rfl rfl (lit_lt rfl) (fun _ => Calm.move rfl) ?_
        refine draw_pure rfl rfl rfl rfl (lit_lt rfl) (fun _ => Calm.indexS Try.underlying23 ty_size_3 rfl rfl (by omega) (by omega)) ?_
        refine draw_calm rfl rfl rfl (lit_lt rfl) less_ (fun S' hS' => by obtain rfl := hS'.resolve_left (by decide); exact ld_ ty_plain_3 rfl) ?_
        refine draw_pure rfl rfl rfl rfl (lit_lt rfl) (fun _ => Calm.indexS Try.underlying23 ty_size_3 rfl rfl (by omega) (by omega)) ?_
        refine draw_only rfl ?_
        refine ARun.store1 rfl rfl ty_size_3 rfl own_ lens_ rfl ?_
        (try simp only [Mem.set_set, List.set_cons_zero, List.set_cons_succ, Nat.zero_add, Nat.reduceAdd])
        refine arun_nil ⟨fun h => absurd h (by decide), ?_⟩
        refine draw_nil ?_
        simp only [Nat.zero_add, Nat.mul_one, Int.toNat_zero, icells_set, hI.done hk1]
        refine ⟨_, (S.set b16 ⟨3, (treeOf ks).map (fun x => Value.int .i64 x), ks.length⟩).set p ⟨64, [.slice pa ks.length ca, .slice (some ⟨b16, 0, none⟩) ks.length ks.length], 2⟩, rfl, less_, ?_⟩
        exact ⟨b16, g16, by assumption, rfl⟩
      · refine AWP.exit ?_
        refine athen_exit ?_
        refine athen_exit ?_
        refine ain_same ?_
        refine athen_n ?_
        refine AWP.seq ?_
        refine AWP.region ?_
        refine rC (Calm.move rfl) ?_
        refine rC (Calm.bin rfl rfl b_gtr) ?_
        refine arun_nil ?_
        refine athen_n ?_
        refine AWP.sub [(0, _), (2, _), (3, _), (5, _), (37, _), (70, _)] ⟨rfl, rfl, rfl, rfl, rfl, rfl, trivial⟩ ?_
        refine AWP.condF rfl (by first | rfl | (simp; done) | (simp; omega)) ?_
        rw [hI.done1 (by omega)]
        refine AWP.skip ?_
        refine ⟨_, (S.set b16 ⟨3, (treeOf ks).map (fun x => Value.int .i64 x), ks.length⟩).set p ⟨64, [.slice pa ks.length ca, .slice (some ⟨b16, 0, none⟩) ks.length ks.length], 2⟩, rfl, less_, ?_⟩
        exact ⟨b16, g16, by assumption, rfl⟩
theorem losV_Of (hk : Value) (ks : List (List Nat)) (S : Mem) (hks : SlOf RowR S hk ks) (hl1 : 1 ≤ ks.length) (hl2 : ks.length ≤ 256) :
    ACall Try.prog 45 #[hk] S fun r S' => ∃ p q, Fresh S p ∧ Fresh S q ∧ q ≠ p ∧ r = .pointer (some ⟨p, 0, none⟩) ∧ S' = (S.set q (intB (treeOf ks) ks.length)).set p (treeB hk (.slice (some ⟨q, 0, none⟩) ks.length ks.length)) := by
  obtain ⟨pa, ca, rfl⟩ : ∃ pa ca, hk = .slice pa ks.length ca := by
    obtain ⟨hs, hsl, ⟨pa, ca, e, _⟩, _⟩ := id hks
    exact ⟨pa, ca, by rw [e, hsl]⟩
  refine ACall.enter (args := [.slice pa ks.length ca]) (rs := [.tmp 2]) 11 [(0, .slice pa ks.length ca)] Try.func45 rfl rfl (Nat.le_of_ble_eq_true rfl) rfl ⟨rfl, trivial⟩ ?_
  refine AWP.seq ?_
  refine AWP.region ?_
  refine rC (Calm.assign rfl) ?_
  refine arun_nil ?_
  refine athen_n ?_
  refine AWP.seq ?_
  refine AWP.region ?_
  refine rC (Calm.move rfl) ?_
  refine rC (Calm.build (cs := [_, _]) ty_bld_25 rfl rfl) ?_
  refine rC (Calm.build (cs := [_, _]) ty_bld_64 rfl rfl) ?_
  refine ARun.boxA (cs := [_, _]) (lit_lt rfl) rfl ?_
  intro b7 f7
  have g7 := f7
  repeat ((with_reducible replace g7 := fresh_set g7); obtain ⟨g7, _⟩ := g7)
  (try simp only [List.length_cons, List.length_nil, Nat.zero_add, Nat.reduceAdd])
  refine rC (Calm.assign rfl) ?_
  refine arun_nil ?_
  refine athen_n ?_
  refine AWP.sub [(0, _), (2, _), (3, _)] ⟨rfl, rfl, rfl, trivial⟩ ?_
  refine AWP.seq ?_
  refine AWP.region ?_
  refine rC (Calm.move rfl) ?_
  refine ARun.call (lit_lt rfl) go_73 rfl (losV_grow b7 _ _ ks S g7 hks hl1 hl2) ?_
  rintro _ S1 ⟨q, hq1, hq2, h1⟩
  rw [h1]; clear h1 S1
  refine arun_nil ?_
  refine athen_n ?_
  refine AWP.sub [(0, _), (2, _), (3, _)] ⟨rfl, rfl, rfl, trivial⟩ ?_
  refine AWP.seq ?_
  refine AWP.region ?_
  refine rC (Calm.move rfl) ?_
  refine rC (Calm.assign rfl) ?_
  refine arun_nil ?_
  refine athen_n ?_
  refine AWP.sub [(0, _), (2, _), (3, _)] ⟨rfl, rfl, rfl, trivial⟩ ?_
  refine AWP.ret ?_
  refine ⟨_, _, ⟨_, _, rfl, rfl, rfl⟩, Mem.Less.refl _, ?_⟩
  exact ⟨b7, q, g7, hq1, hq2, rfl, rfl⟩
/-! ### Copies, and lists that are held against each other -/
set_option maxHeartbeats 1000000 in
theorem losV_CloneU (l : List Nat) (v : Value) (S : Mem) (hv : RowR S v l) (hl : l.length ≤ 17592186043904) :
    ACall Try.prog 50 #[v] S fun r S' => CloneR (fun n : Nat => Value.int .u64 (n : Int)) 59 l S r S' := by
  obtain ⟨a, cap, rfl, h1, h2, h3⟩ := id hv
  cases a with
  | none =>
    have hl0 : l = [] := h3.resolve_right (by rintro ⟨b, off, h, _⟩; cases h)
    refine ACall.enter (args := [.slice none l.length cap]) (rs := [.tmp 2]) 8 [(0, .slice none l.length cap)] Try.func50 rfl rfl (Nat.le_of_ble_eq_true rfl) rfl ⟨rfl, trivial⟩ ?_
    refine AWP.seq ?_
    refine AWP.region ?_
    refine rC (Calm.assign rfl) ?_
    refine arun_nil ?_
    refine athen_n ?_
    refine AWP.seq ?_
    refine AWP.seq ?_
    refine AWP.region ?_
    refine rC (Calm.move rfl) ?_
    refine rC (Calm.bin rfl rfl (bin_nil_eql Try.underlying32)) ?_
    refine arun_nil ?_
    refine athen_n ?_
    refine AWP.sub [(0, _), (2, _), (4, _)] ⟨rfl, rfl, rfl, trivial⟩ ?_
    refine AWP.condT rfl (by first | rfl | (simp; done) | (simp; omega)) ?_
    refine AWP.seq ?_
    refine AWP.region ?_
    refine rC (Calm.assign rfl) ?_
    refine arun_nil ?_
    refine athen_n ?_
    refine AWP.ret ?_
    refine athen_ret ?_
    refine ⟨_, S, ⟨_, _, rfl, rfl, rfl⟩, less_, ?_⟩
    exact .inl ⟨hl0, rfl, _, rfl⟩
  | some a =>
    by_cases hl0 : l = []
    · subst hl0
      refine ACall.enter (args := [.slice (some a) 0 cap]) (rs := [.tmp 2]) 8 [(0, .slice (some a) 0 cap)] Try.func50 rfl rfl (Nat.le_of_ble_eq_true rfl) rfl ⟨rfl, trivial⟩ ?_
      refine AWP.seq ?_
      refine AWP.region ?_
      refine rC (Calm.assign rfl) ?_
      refine arun_nil ?_
      refine athen_n ?_
      refine AWP.seq ?_
      refine AWP.seq ?_
      refine AWP.region ?_
      refine rC (Calm.move rfl) ?_
      refine rC (Calm.bin rfl rfl (bin_nil_eql Try.underlying32)) ?_
      refine arun_nil ?_
      refine athen_n ?_
      refine AWP.sub [(0, _), (2, _), (4, _)] ⟨rfl, rfl, rfl, trivial⟩ ?_
      refine AWP.condF rfl (by first | rfl | (simp; done) | (simp; omega)) ?_
      refine AWP.skip ?_
      refine athen_n ?_
      refine AWP.seq ?_
      refine AWP.region ?_
      refine ARun.build0 (lit_lt rfl) ty_sl_32 ?_
      intro b5 f5
      have g5 := f5
      repeat ((with_reducible replace g5 := fresh_set g5); obtain ⟨g5, _⟩ := g5)
      refine rC (Calm.move rfl) ?_
      refine ARun.appendNone (lit_lt rfl) ty_sl_32 (Nat.le_refl 0) rfl rfl ?_
      refine rC (Calm.assign rfl) ?_
      refine arun_nil ?_
      refine athen_n ?_
      refine AWP.sub [(0, _), (2, _), (4, _)] ⟨rfl, rfl, rfl, trivial⟩ ?_
      refine AWP.ret ?_
      refine ⟨_, S, ⟨_, _, rfl, rfl, rfl⟩, less_, ?_⟩
      exact .inl ⟨rfl, rfl, _, rfl⟩
    · obtain ⟨b, off, hab, hkn⟩ := h3.resolve_left hl0
      cases hab
      have hall := Sl.all (g := fun n : Nat => Value.int .u64 (n : Int)) hv
      refine ACall.enter (args := [.slice (some ⟨b, off, none⟩) l.length cap]) (rs := [.tmp 2]) 8 [(0, .slice (some ⟨b, off, none⟩) l.length cap)] Try.func50 rfl rfl (Nat.le_of_ble_eq_true rfl) rfl ⟨rfl, trivial⟩ ?_
      refine AWP.seq ?_
      refine AWP.region ?_
      refine rC (Calm.assign rfl) ?_
      refine arun_nil ?_
      refine athen_n ?_
      refine AWP.seq ?_
      refine AWP.seq ?_
      refine AWP.region ?_
      refine rC (Calm.move rfl) ?_
      refine rC (Calm.bin rfl rfl (bin_nil_eql Try.underlying32)) ?_
      refine arun_nil ?_
      refine athen_n ?_
      refine AWP.sub [(0, _), (2, _), (4, _)] ⟨rfl, rfl, rfl, trivial⟩ ?_
      refine AWP.condF rfl (by first | rfl | (simp; done) | (simp; omega)) ?_
      refine AWP.skip ?_
      refine athen_n ?_
      refine AWP.seq ?_
      refine AWP.region ?_
      refine ARun.build0 (lit_lt rfl) ty_sl_32 ?_
      intro b5 f5
      have g5 := f5
      repeat ((with_reducible replace g5 := fresh_set g5); obtain ⟨g5, _⟩ := g5)
      refine rC (Calm.move rfl) ?_
      refine ARun.append1K (lit_lt rfl) ty_sl_32 rfl own_ rfl rfl (hall.less less_) (by simp) (fun v hv => by obtain ⟨x, _, rfl⟩ := List.mem_map.1 hv; rfl) (by omega) (by omega) ?_
      intro b7 c7 f7 hc7
      rw [List.nil_append, set_del_same' (del_base g5)] at *
      rw [Nat.zero_add] at *
      refine rC (Calm.assign rfl) ?_
      refine arun_nil ?_
      refine athen_n ?_
      refine AWP.sub [(0, _), (2, _), (4, _)] ⟨rfl, rfl, rfl, trivial⟩ ?_
      refine AWP.ret ?_
      refine ⟨_, _, ⟨_, _, rfl, rfl, rfl⟩, Mem.Less.refl _, ?_⟩
      exact .inr ⟨b7, c7, f7, hc7, rfl, rfl⟩
end Go.Proofs.Ytddabbfjoejalaa
