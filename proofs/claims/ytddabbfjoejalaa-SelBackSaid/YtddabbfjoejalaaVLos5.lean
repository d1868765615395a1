/-
  Loser: games, trees, what is right, by the document.
-/
import Derived.Test.YtddabbfjoejalaaVLos4
namespace Go.Proofs.Ytddabbfjoejalaa
open Go.RowKit
open Mv Num Loser
set_option linter.unusedVariables false
set_option linter.unusedSimpArgs false
set_option maxRecDepth 4000
theorem kLess_lessB (x y : List Nat) (hx : x ≠ []) (hy : y ≠ []) : kLess x y = lessB x y := by
  cases x with
  | nil => exact absurd rfl hx
  | cons _ _ => cases y with
    | nil => exact absurd rfl hy
    | cons _ _ => rfl
set_option maxHeartbeats 1000000 in
theorem rlosV_beats (hk : Value) (ks : List (List Nat)) (a b : Nat) (S : Mem) (hks : SlOf RowR S hk ks) (ha : a < ks.length) (hb : b < ks.length) :
    ACall Try.prog 82 #[hk, .int .i64 a, .int .i64 b] S fun r S' => r = .bool (beatsP ks a b) ∧ S' = S := by
  obtain ⟨hs, hsl, ⟨pa, ca, rfl, h1, h2, h3⟩, hse⟩ := hks
  obtain ⟨b0, off, rfl, hkn⟩ := h3.resolve_left (by intro h; rw [h] at hsl; simp at hsl; omega)
  have hka := hkn a (by omega)
  have hkb := hkn b (by omega)
  have hra := hse a ha (by omega)
  have hrb := hse b hb (by omega)
  rw [← key_get ks a ha] at hra
  rw [← key_get ks b hb] at hrb
  have hdef : beatsP ks a b = (kLess (key ks a) (key ks b) || (decide (key ks a = key ks b) && decide (a < b))) := rfl
  have hlt : decide ((a : Int) < (b : Int)) = decide (a < b) := by rw [Bool.eq_iff_iff]; simp
  have lz : ∀ l : List Nat, l.length = 0 ↔ l = [] := fun l => List.length_eq_zero_iff
  rw [hdef]
  generalize key ks a = x at *
  generalize key ks b = y at *
  obtain ⟨ga, hga⟩ : ∃ g, g = hs[a] := ⟨_, rfl⟩
  obtain ⟨gb, hgb⟩ : ∃ g, g = hs[b] := ⟨_, rfl⟩
  rw [← hga] at hka hra
  rw [← hgb] at hkb hrb
  obtain ⟨qa, da, rfl, xa1, xa2, _⟩ := id hra
  obtain ⟨qb, db, rfl, xb1, xb2, _⟩ := id hrb
  by_cases hx : x.length = 0
  · by_cases hy : y.length = 0
    · have e : (kLess x y || (decide (x = y) && decide (a < b))) = decide (a < b) := by rw [(lz x).1 hx, (lz y).1 hy]; simp [kLess]
      rw [e]
      refine ACall.enter (args := [.slice (some ⟨b0, off, none⟩) hs.length ca, .int .i64 a, .int .i64 b]) (rs := [.tmp 6]) 52 [(0, .slice (some ⟨b0, off, none⟩) hs.length ca), (1, .int .i64 a), (2, .int .i64 b)] Try.func82 rfl rfl (Nat.le_of_ble_eq_true rfl) rfl ⟨rfl, rfl, rfl, trivial⟩ ?_
      refine AWP.seq ?_
      refine AWP.region ?_
      refine rC (Calm.assign rfl) ?_
      refine arun_nil ?_
      refine athen_n ?_
      refine AWP.seq ?_
      refine AWP.draw [(0, true), (1, true), (2, true), (3, true), (4, true), (5, true), (6, true), (7, true), (8, true), (9, true)] [] mixed (by kernel_rfl) ?_
      refine draw_pure rfl rfl rfl rfl (lit_lt rfl) (fun _ => Calm.move rfl) ?_
      refine draw_pure rfl rfl rfl rfl (lit_lt rfl) (fun _ => Calm.move rfl) ?_
      refine draw_pure rfl rfl rfl rfl (lit_lt rfl) (fun _ => Calm.indexS Try.underlying22 ty_size_32 rfl rfl (by omega) (by omega)) ?_
      refine draw_calm rfl rfl rfl (lit_lt rfl) less_ (fun S' hS' => by obtain rfl := hS'.resolve_left (by decide); exact ld_ ty_plain_32 rfl) ?_
      refine draw_pure rfl rfl rfl rfl (lit_lt rfl) (fun _ => Calm.move rfl) ?_
      refine draw_pure rfl rfl rfl rfl (lit_lt rfl) (fun _ => Calm.move rfl) ?_
      refine draw_pure rfl rfl rfl rfl (lit_lt rfl) (fun _ => Calm.indexS Try.underlying22 ty_size_32 rfl rfl (by omega) (by omega)) ?_
      refine draw_calm rfl rfl rfl (lit_lt rfl) less_ (fun S' hS' => by obtain rfl := hS'.resolve_left (by decide); exact ld_ ty_plain_32 rfl) ?_
      refine draw_pure rfl rfl rfl rfl (lit_lt rfl) (fun _ => Calm.assign rfl) ?_
      refine draw_pure rfl rfl rfl rfl (lit_lt rfl) (fun _ => Calm.assign rfl) ?_
      refine draw_nil ?_
      refine athen_n ?_
      refine AWP.sub [(0, _), (1, _), (2, _), (6, _), (7, _), (8, _)] ⟨rfl, rfl, rfl, rfl, rfl, rfl, trivial⟩ ?_
      refine AWP.seq ?_
      refine AWP.seq ?_
      refine AWP.region ?_
      refine rC (Calm.move rfl) ?_
      refine rC (Calm.lenSl Try.underlying32 rfl) ?_
      refine rC (Calm.bin rfl rfl b_eql) ?_
      refine rC (Calm.move rfl) ?_
      first | refine rS 20 ?_ | refine rU 20 ?_ | refine rG 20 (Calm.move rfl) ?_
      first | refine rS 20 ?_ | refine rU 20 ?_ | refine rG 20 (Calm.lenSl Try.underlying32 rfl) ?_
      first | refine rS 20 ?_ | refine rU 20 ?_ | refine rG 20 (Calm.bin rfl rfl b_eql) ?_
      refine rC ((by first | exact Calm.pickT rfl rfl | exact Calm.pickF rfl rfl)) ?_
      refine arun_nil ?_
      refine athen_n ?_
      refine AWP.sub [(0, _), (1, _), (2, _), (6, _), (7, _), (8, _), (24, _)] ⟨rfl, rfl, rfl, rfl, rfl, rfl, rfl, trivial⟩ ?_
      refine AWP.condT rfl (by first | rfl | (simp; done) | (simp; omega)) ?_
      refine AWP.seq ?_
      refine AWP.region ?_
      refine rC (Calm.move rfl) ?_
      refine rC (Calm.lenSl Try.underlying32 rfl) ?_
      refine rC (Calm.bin rfl rfl b_gtr) ?_
      refine rC (Calm.move rfl) ?_
      first | refine rS 28 ?_ | refine rU 28 ?_ | refine rG 28 (Calm.move rfl) ?_
      first | refine rS 28 ?_ | refine rU 28 ?_ | refine rG 28 (Calm.lenSl Try.underlying32 rfl) ?_
      first | refine rS 28 ?_ | refine rU 28 ?_ | refine rG 28 (Calm.bin rfl rfl b_eql) ?_
      first | refine rS 28 ?_ | refine rU 28 ?_ | refine rG 28 (Calm.move rfl) ?_
      first | refine rS 32 ?_ | refine rU 32 ?_ | refine rG 32 (Calm.move rfl) ?_
      first | refine rS 32 ?_ | refine rU 32 ?_ | refine rG 32 (Calm.move rfl) ?_
      first | refine rS 32 ?_ | refine rU 32 ?_ | refine rG 32 (Calm.bin rfl rfl (bin_bool (bin_lss _ _) hlt)) ?_
      first | refine rS 28 ?_ | refine rU 28 ?_ | refine rG 28 ((by first | exact Calm.pickT rfl rfl | exact Calm.pickF rfl rfl)) ?_
      refine rC ((by first | exact Calm.pickT rfl rfl | exact Calm.pickF rfl rfl)) ?_
      refine rC (Calm.assign rfl) ?_
      refine arun_nil ?_
      refine athen_n ?_
      refine AWP.sub [(0, _), (1, _), (2, _), (6, _), (7, _), (8, _), (24, _)] ⟨rfl, rfl, rfl, rfl, rfl, rfl, rfl, trivial⟩ ?_
      refine AWP.ret ?_
      refine athen_ret ?_
      refine ⟨_, S, ⟨_, _, rfl, rfl, rfl⟩, less_, ?_⟩
      exact ⟨rfl, rfl⟩
    · have e : (kLess x y || (decide (x = y) && decide (a < b))) = false := by
        rw [(lz x).1 hx]
        have : decide ([] = y) = false := decide_eq_false (fun e => hy (by rw [← e]; rfl))
        rw [this]; simp [kLess]
      rw [e]
      refine ACall.enter (args := [.slice (some ⟨b0, off, none⟩) hs.length ca, .int .i64 a, .int .i64 b]) (rs := [.tmp 6]) 52 [(0, .slice (some ⟨b0, off, none⟩) hs.length ca), (1, .int .i64 a), (2, .int .i64 b)] Try.func82 rfl rfl (Nat.le_of_ble_eq_true rfl) rfl ⟨rfl, rfl, rfl, trivial⟩ ?_
      refine AWP.seq ?_
      refine AWP.region ?_
      refine rC (Calm.assign rfl) ?_
      refine arun_nil ?_
      refine athen_n ?_
      refine AWP.seq ?_
      refine AWP.draw [(0, true), (1, true), (2, true), (3, true), (4, true), (5, true), (6, true), (7, true), (8, true), (9, true)] [] mixed (by kernel_rfl) ?_
      refine draw_pure rfl rfl rfl rfl (lit_lt rfl) (fun _ => Calm.move rfl) ?_
      refine draw_pure rfl rfl rfl rfl (lit_lt rfl) (fun _ => Calm.move rfl) ?_
      refine draw_pure rfl rfl rfl rfl (lit_lt rfl) (fun _ => Calm.indexS Try.underlying22 ty_size_32 rfl rfl (by omega) (by omega)) ?_
      refine draw_calm rfl rfl rfl (lit_lt rfl) less_ (fun S' hS' => by obtain rfl := hS'.resolve_left (by decide); exact ld_ ty_plain_32 rfl) ?_
      refine draw_pure rfl rfl rfl rfl (lit_lt rfl) (fun _ => Calm.move rfl) ?_
      refine draw_pure rfl rfl rfl rfl (lit_lt rfl) (fun _ => Calm.move rfl) ?_
      refine draw_pure rfl rfl rfl rfl (lit_lt rfl) (fun _ => Calm.indexS Try.underlying22 ty_size_32 rfl rfl (by omega) (by omega)) ?_
      refine draw_calm rfl rfl rfl (lit_lt rfl) less_ (fun S' hS' => by obtain rfl := hS'.resolve_left (by decide); exact ld_ ty_plain_32 rfl) ?_
      refine draw_pure rfl rfl rfl rfl (lit_lt rfl) (fun _ => Calm.assign rfl) ?_
      refine draw_pure rfl rfl rfl rfl (lit_lt rfl) (fun _ => Calm.assign rfl) ?_
      refine draw_nil ?_
      refine athen_n ?_
      refine AWP.sub [(0, _), (1, _), (2, _), (6, _), (7, _), (8, _)] ⟨rfl, rfl, rfl, rfl, rfl, rfl, trivial⟩ ?_
      refine AWP.seq ?_
      refine AWP.seq ?_
      refine AWP.region ?_
      refine rC (Calm.move rfl) ?_
      refine rC (Calm.lenSl Try.underlying32 rfl) ?_
      refine rC (Calm.bin rfl rfl b_eql) ?_
      refine rC (Calm.move rfl) ?_
      first | refine rS 20 ?_ | refine rU 20 ?_ | refine rG 20 (Calm.move rfl) ?_
      first | refine rS 20 ?_ | refine rU 20 ?_ | refine rG 20 (Calm.lenSl Try.underlying32 rfl) ?_
      first | refine rS 20 ?_ | refine rU 20 ?_ | refine rG 20 (Calm.bin rfl rfl b_eql) ?_
      refine rC ((by first | exact Calm.pickT rfl rfl | exact Calm.pickF rfl rfl)) ?_
      refine arun_nil ?_
      refine athen_n ?_
      refine AWP.sub [(0, _), (1, _), (2, _), (6, _), (7, _), (8, _), (24, _)] ⟨rfl, rfl, rfl, rfl, rfl, rfl, rfl, trivial⟩ ?_
      refine AWP.condT rfl (by first | rfl | (simp; done) | (simp; omega)) ?_
      refine AWP.seq ?_
      refine AWP.region ?_
      refine rC (Calm.move rfl) ?_
      refine rC (Calm.lenSl Try.underlying32 rfl) ?_
      refine rC (Calm.bin rfl rfl b_gtr) ?_
      refine rC (Calm.move rfl) ?_
      first | refine rS 28 ?_ | refine rU 28 ?_ | refine rG 28 (Calm.move rfl) ?_
      first | refine rS 28 ?_ | refine rU 28 ?_ | refine rG 28 (Calm.lenSl Try.underlying32 rfl) ?_
      first | refine rS 28 ?_ | refine rU 28 ?_ | refine rG 28 (Calm.bin rfl rfl b_eql) ?_
      first | refine rS 28 ?_ | refine rU 28 ?_ | refine rG 28 (Calm.move rfl) ?_
      first | refine rS 32 ?_ | refine rU 32 ?_ | refine rG 32 (Calm.move rfl) ?_
      first | refine rS 32 ?_ | refine rU 32 ?_ | refine rG 32 (Calm.move rfl) ?_
      first | refine rS 32 ?_ | refine rU 32 ?_ | refine rG 32 (Calm.bin rfl rfl b_lss) ?_
      first | refine rS 28 ?_ | refine rU 28 ?_ | refine rG 28 ((by first | exact Calm.pickT rfl rfl | exact Calm.pickF rfl rfl)) ?_
      refine rC ((by first | exact Calm.pickT rfl rfl | exact Calm.pickF rfl rfl)) ?_
      refine rC (Calm.assign rfl) ?_
      refine arun_nil ?_
      refine athen_n ?_
      refine AWP.sub [(0, _), (1, _), (2, _), (6, _), (7, _), (8, _), (24, _)] ⟨rfl, rfl, rfl, rfl, rfl, rfl, rfl, trivial⟩ ?_
      refine AWP.ret ?_
      refine athen_ret ?_
      refine ⟨_, S, ⟨_, _, rfl, rfl, rfl⟩, less_, ?_⟩
      exact ⟨rfl, rfl⟩
  · by_cases hy : y.length = 0
    · have e : (kLess x y || (decide (x = y) && decide (a < b))) = true := by
        rw [(lz y).1 hy]
        cases h : x with
        | nil => exact absurd ((lz x).2 h) hx
        | cons _ _ => rfl
      rw [e]
      refine ACall.enter (args := [.slice (some ⟨b0, off, none⟩) hs.length ca, .int .i64 a, .int .i64 b]) (rs := [.tmp 6]) 52 [(0, .slice (some ⟨b0, off, none⟩) hs.length ca), (1, .int .i64 a), (2, .int .i64 b)] Try.func82 rfl rfl (Nat.le_of_ble_eq_true rfl) rfl ⟨rfl, rfl, rfl, trivial⟩ ?_
      refine AWP.seq ?_
      refine AWP.region ?_
      refine rC (Calm.assign rfl) ?_
      refine arun_nil ?_
      refine athen_n ?_
      refine AWP.seq ?_
      refine AWP.draw [(0, true), (1, true), (2, true), (3, true), (4, true), (5, true), (6, true), (7, true), (8, true), (9, true)] [] mixed (by kernel_rfl) ?_
      refine draw_pure rfl rfl rfl rfl (lit_lt rfl) (fun _ => Calm.move rfl) ?_
      refine draw_pure rfl rfl rfl rfl (lit_lt rfl) (fun _ => Calm.move rfl) ?_
      refine draw_pure rfl rfl rfl rfl (lit_lt rfl) (fun _ => Calm.indexS Try.underlying22 ty_size_32 rfl rfl (by omega) (by omega)) ?_
      refine draw_calm rfl rfl rfl (lit_lt rfl) less_ (fun S' hS' => by obtain rfl := hS'.resolve_left (by decide); exact ld_ ty_plain_32 rfl) ?_
      refine draw_pure rfl rfl rfl rfl (lit_lt rfl) (fun _ => Calm.move rfl) ?_
      refine draw_pure rfl rfl rfl rfl (lit_lt rfl) (fun _ => Calm.move rfl) ?_
      refine draw_pure rfl rfl rfl rfl (lit_lt rfl) (fun _ => Calm.indexS Try.underlying22 ty_size_32 rfl rfl (by omega) (by omega)) ?_
      refine draw_calm rfl rfl rfl (lit_lt rfl) less_ (fun S' hS' => by obtain rfl := hS'.resolve_left (by decide); exact ld_ ty_plain_32 rfl) ?_
      refine draw_pure rfl rfl rfl rfl (lit_lt rfl) (fun _ => Calm.assign rfl) ?_
      refine draw_pure rfl rfl rfl rfl (lit_lt rfl) (fun _ => Calm.assign rfl) ?_
      refine draw_nil ?_
      refine athen_n ?_
      refine AWP.sub [(0, _), (1, _), (2, _), (6, _), (7, _), (8, _)] ⟨rfl, rfl, rfl, rfl, rfl, rfl, trivial⟩ ?_
      refine AWP.seq ?_
      refine AWP.seq ?_
      refine AWP.region ?_
      refine rC (Calm.move rfl) ?_
      refine rC (Calm.lenSl Try.underlying32 rfl) ?_
      refine rC (Calm.bin rfl rfl b_eql) ?_
      refine rC (Calm.move rfl) ?_
      first | refine rS 20 ?_ | refine rU 20 ?_ | refine rG 20 (Calm.move rfl) ?_
      first | refine rS 20 ?_ | refine rU 20 ?_ | refine rG 20 (Calm.lenSl Try.underlying32 rfl) ?_
      first | refine rS 20 ?_ | refine rU 20 ?_ | refine rG 20 (Calm.bin rfl rfl b_eql) ?_
      refine rC ((by first | exact Calm.pickT rfl rfl | exact Calm.pickF rfl rfl)) ?_
      refine arun_nil ?_
      refine athen_n ?_
      refine AWP.sub [(0, _), (1, _), (2, _), (6, _), (7, _), (8, _), (24, _)] ⟨rfl, rfl, rfl, rfl, rfl, rfl, rfl, trivial⟩ ?_
      refine AWP.condT rfl (by first | rfl | (simp; done) | (simp; omega)) ?_
      refine AWP.seq ?_
      refine AWP.region ?_
      refine rC (Calm.move rfl) ?_
      refine rC (Calm.lenSl Try.underlying32 rfl) ?_
      refine rC (Calm.bin rfl rfl b_gtr) ?_
      refine rC (Calm.move rfl) ?_
      first | refine rS 28 ?_ | refine rU 28 ?_ | refine rG 28 (Calm.move rfl) ?_
      first | refine rS 28 ?_ | refine rU 28 ?_ | refine rG 28 (Calm.lenSl Try.underlying32 rfl) ?_
      first | refine rS 28 ?_ | refine rU 28 ?_ | refine rG 28 (Calm.bin rfl rfl b_eql) ?_
      first | refine rS 28 ?_ | refine rU 28 ?_ | refine rG 28 (Calm.move rfl) ?_
      first | refine rS 32 ?_ | refine rU 32 ?_ | refine rG 32 (Calm.move rfl) ?_
      first | refine rS 32 ?_ | refine rU 32 ?_ | refine rG 32 (Calm.move rfl) ?_
      first | refine rS 32 ?_ | refine rU 32 ?_ | refine rG 32 (Calm.bin rfl rfl b_lss) ?_
      first | refine rS 28 ?_ | refine rU 28 ?_ | refine rG 28 ((by first | exact Calm.pickT rfl rfl | exact Calm.pickF rfl rfl)) ?_
      refine rC ((by first | exact Calm.pickT rfl rfl | exact Calm.pickF rfl rfl)) ?_
      refine rC (Calm.assign rfl) ?_
      refine arun_nil ?_
      refine athen_n ?_
      refine AWP.sub [(0, _), (1, _), (2, _), (6, _), (7, _), (8, _), (24, _)] ⟨rfl, rfl, rfl, rfl, rfl, rfl, rfl, trivial⟩ ?_
      refine AWP.ret ?_
      refine athen_ret ?_
      refine ⟨_, S, ⟨_, _, rfl, rfl, rfl⟩, less_, ?_⟩
      exact ⟨rfl, rfl⟩
    · rw [kLess_lessB x y (fun e => hx ((lz x).2 e)) (fun e => hy ((lz y).2 e))]
      cases hxy : lessB x y with
      | true =>
        refine ACall.enter (args := [.slice (some ⟨b0, off, none⟩) hs.length ca, .int .i64 a, .int .i64 b]) (rs := [.tmp 6]) 52 [(0, .slice (some ⟨b0, off, none⟩) hs.length ca), (1, .int .i64 a), (2, .int .i64 b)] Try.func82 rfl rfl (Nat.le_of_ble_eq_true rfl) rfl ⟨rfl, rfl, rfl, trivial⟩ ?_
        refine AWP.seq ?_
        refine AWP.region ?_
        refine rC (Calm.assign rfl) ?_
        refine arun_nil ?_
        refine athen_n ?_
        refine AWP.seq ?_
        refine AWP.draw [(0, true), (1, true), (2, true), (3, true), (4, true), (5, true), (6, true), (7, true), (8, true), (9, true)] [] mixed (by kernel_rfl) ?_
        refine draw_pure rfl rfl rfl rfl (lit_lt rfl) (fun _ => Calm.move rfl) ?_
        refine draw_pure rfl rfl rfl rfl (lit_lt rfl) (fun _ => Calm.move rfl) ?_
        refine draw_pure rfl rfl rfl rfl (lit_lt rfl) (fun _ => Calm.indexS Try.underlying22 ty_size_32 rfl rfl (by omega) (by omega)) ?_
        refine draw_calm rfl rfl rfl (lit_lt rfl) less_ (fun S' hS' => by obtain rfl := hS'.resolve_left (by decide); exact ld_ ty_plain_32 rfl) ?_
        refine draw_pure rfl rfl rfl rfl (lit_lt rfl) (fun _ => Calm.move rfl) ?_
        refine draw_pure rfl rfl rfl rfl (lit_lt rfl) (fun _ => Calm.move rfl) ?_
        refine draw_pure rfl rfl rfl rfl (lit_lt rfl) (fun _ => Calm.indexS Try.underlying22 ty_size_32 rfl rfl (by omega) (by omega)) ?_
        refine draw_calm rfl rfl rfl (lit_lt rfl) less_ (fun S' hS' => by obtain rfl := hS'.resolve_left (by decide); exact ld_ ty_plain_32 rfl) ?_
        refine draw_pure rfl rfl rfl rfl (lit_lt rfl) (fun _ => Calm.assign rfl) ?_
        refine draw_pure rfl rfl rfl rfl (lit_lt rfl) (fun _ => Calm.assign rfl) ?_
        refine draw_nil ?_
        refine athen_n ?_
        refine AWP.sub [(0, _), (1, _), (2, _), (6, _), (7, _), (8, _)] ⟨rfl, rfl, rfl, rfl, rfl, rfl, trivial⟩ ?_
        refine AWP.seq ?_
        refine AWP.seq ?_
        refine AWP.region ?_
        refine rC (Calm.move rfl) ?_
        refine rC (Calm.lenSl Try.underlying32 rfl) ?_
        refine rC (Calm.bin rfl rfl b_eql) ?_
        refine rC (Calm.move rfl) ?_
        first | refine rS 20 ?_ | refine rU 20 ?_ | refine rG 20 (Calm.move rfl) ?_
        first | refine rS 20 ?_ | refine rU 20 ?_ | refine rG 20 (Calm.lenSl Try.underlying32 rfl) ?_
        first | refine rS 20 ?_ | refine rU 20 ?_ | refine rG 20 (Calm.bin rfl rfl b_eql) ?_
        refine rC ((by first | exact Calm.pickT rfl rfl | exact Calm.pickF rfl rfl)) ?_
        refine arun_nil ?_
        refine athen_n ?_
        refine AWP.sub [(0, _), (1, _), (2, _), (6, _), (7, _), (8, _), (24, _)] ⟨rfl, rfl, rfl, rfl, rfl, rfl, rfl, trivial⟩ ?_
        refine AWP.condF rfl (by first | rfl | (simp; done) | (simp; omega)) ?_
        refine AWP.skip ?_
        refine athen_n ?_
        refine AWP.seq ?_
        refine AWP.seq ?_
        refine AWP.region ?_
        refine rC (Calm.move rfl) ?_
        refine rC (Calm.move rfl) ?_
        refine ARun.call (lit_lt rfl) go_53 rfl (rnumV_Less x y _ _ S hra hrb) ?_
        rintro _ S1 ⟨rfl, h1⟩
        rw [h1, hxy]; clear h1 S1
        refine rC (Calm.move rfl) ?_
        first | refine rS 41 ?_ | refine rU 41 ?_ | refine rG 41 (Calm.move rfl) ?_
        first | refine rS 41 ?_ | refine rU 41 ?_ | refine rG 41 (Calm.move rfl) ?_
        first | refine rS 41 ?_ | refine rU 41 ?_
        refine rC ((by first | exact Calm.pickT rfl rfl | exact Calm.pickF rfl rfl)) ?_
        refine arun_nil ?_
        refine athen_n ?_
        refine AWP.sub [(0, _), (1, _), (2, _), (6, _), (7, _), (8, _), (24, _), (45, _)] ⟨rfl, rfl, rfl, rfl, rfl, rfl, rfl, rfl, trivial⟩ ?_
        refine AWP.condT rfl (by first | rfl | (simp; done) | (simp; omega)) ?_
        refine AWP.seq ?_
        refine AWP.region ?_
        refine rC (Calm.move rfl) ?_
        refine rC (Calm.move rfl) ?_
        refine ARun.call (lit_lt rfl) go_53 rfl (rnumV_Less x y _ _ S hra hrb) ?_
        rintro _ S1 ⟨rfl, h1⟩
        rw [h1, hxy]; clear h1 S1
        refine rC (Calm.assign rfl) ?_
        refine arun_nil ?_
        refine athen_n ?_
        refine AWP.sub [(0, _), (1, _), (2, _), (6, _), (7, _), (8, _), (24, _), (45, _)] ⟨rfl, rfl, rfl, rfl, rfl, rfl, rfl, rfl, trivial⟩ ?_
        refine AWP.ret ?_
        refine athen_ret ?_
        refine ⟨_, S, ⟨_, _, rfl, rfl, rfl⟩, less_, ?_⟩
        exact ⟨rfl, rfl⟩
      | false =>
        cases hyx : lessB y x with
        | true =>
          have e : decide (x = y) = false := decide_eq_false fun e => by rw [e, lessB_irrefl] at hyx; cases hyx
          rw [e]
          refine ACall.enter (args := [.slice (some ⟨b0, off, none⟩) hs.length ca, .int .i64 a, .int .i64 b]) (rs := [.tmp 6]) 52 [(0, .slice (some ⟨b0, off, none⟩) hs.length ca), (1, .int .i64 a), (2, .int .i64 b)] Try.func82 rfl rfl (Nat.le_of_ble_eq_true rfl) rfl ⟨rfl, rfl, rfl, trivial⟩ ?_
          refine AWP.seq ?_
          refine AWP.region ?_
          refine rC (Calm.assign rfl) ?_
          refine arun_nil ?_
          refine athen_n ?_
          refine AWP.seq ?_
          refine AWP.draw [(0, true), (1, true), (2, true), (3, true), (4, true), (5, true), (6, true), (7, true), (8, true), (9, true)] [] mixed (by kernel_rfl) ?_
          refine draw_pure rfl rfl rfl rfl (lit_lt rfl) (fun _ => Calm.move rfl) ?_
          refine draw_pure rfl rfl rfl rfl (lit_lt rfl) (fun _ => Calm.move rfl) ?_
          refine draw_pure rfl rfl rfl rfl (lit_lt rfl) (fun _ => Calm.indexS Try.underlying22 ty_size_32 rfl rfl (by omega) (by omega)) ?_
          refine draw_calm rfl rfl rfl (lit_lt rfl) less_ (fun S' hS' => by obtain rfl := hS'.resolve_left (by decide); exact ld_ ty_plain_32 rfl) ?_
          refine draw_pure rfl rfl rfl rfl (lit_lt rfl) (fun _ => Calm.move rfl) ?_
          refine draw_pure rfl rfl rfl rfl (lit_lt rfl) (fun _ => Calm.move rfl) ?_
          refine draw_pure rfl rfl rfl rfl (lit_lt rfl) (fun _ => Calm.indexS Try.underlying22 ty_size_32 rfl rfl (by omega) (by omega)) ?_
          refine draw_calm rfl rfl rfl (lit_lt rfl) less_ (fun S' hS' => by obtain rfl := hS'.resolve_left (by decide); exact ld_ ty_plain_32 rfl) ?_
          refine draw_pure rfl rfl rfl rfl (lit_lt rfl) (fun _ => Calm.assign rfl) ?_
          refine draw_pure rfl rfl rfl rfl (lit_lt rfl) (fun _ => Calm.assign rfl) ?_
          refine draw_nil ?_
          refine athen_n ?_
          refine AWP.sub [(0, _), (1, _), (2, _), (6, _), (7, _), (8, _)] ⟨rfl, rfl, rfl, rfl, rfl, rfl, trivial⟩ ?_
          refine AWP.seq ?_
          refine AWP.seq ?_
          refine AWP.region ?_
          refine rC (Calm.move rfl) ?_
          refine rC (Calm.lenSl Try.underlying32 rfl) ?_
          refine rC (Calm.bin rfl rfl b_eql) ?_
          refine rC (Calm.move rfl) ?_
          first | refine rS 20 ?_ | refine rU 20 ?_ | refine rG 20 (Calm.move rfl) ?_
          first | refine rS 20 ?_ | refine rU 20 ?_ | refine rG 20 (Calm.lenSl Try.underlying32 rfl) ?_
          first | refine rS 20 ?_ | refine rU 20 ?_ | refine rG 20 (Calm.bin rfl rfl b_eql) ?_
          refine rC ((by first | exact Calm.pickT rfl rfl | exact Calm.pickF rfl rfl)) ?_
          refine arun_nil ?_
          refine athen_n ?_
          refine AWP.sub [(0, _), (1, _), (2, _), (6, _), (7, _), (8, _), (24, _)] ⟨rfl, rfl, rfl, rfl, rfl, rfl, rfl, trivial⟩ ?_
          refine AWP.condF rfl (by first | rfl | (simp; done) | (simp; omega)) ?_
          refine AWP.skip ?_
          refine athen_n ?_
          refine AWP.seq ?_
          refine AWP.seq ?_
          refine AWP.region ?_
          refine rC (Calm.move rfl) ?_
          refine rC (Calm.move rfl) ?_
          refine ARun.call (lit_lt rfl) go_53 rfl (rnumV_Less x y _ _ S hra hrb) ?_
          rintro _ S1 ⟨rfl, h1⟩
          rw [h1, hxy]; clear h1 S1
          refine rC (Calm.move rfl) ?_
          first | refine rS 41 ?_ | refine rU 41 ?_ | refine rG 41 (Calm.move rfl) ?_
          first | refine rS 41 ?_ | refine rU 41 ?_ | refine rG 41 (Calm.move rfl) ?_
          refine ARun.callG 3 false 41 rfl (lit_lt rfl) rfl (lit_lt rfl) go_53 rfl (rnumV_Less y x _ _ S hrb hra) ?_
          rintro _ S1 ⟨rfl, h1⟩
          rw [h1, hyx]; clear h1 S1
          refine rC ((by first | exact Calm.pickT rfl rfl | exact Calm.pickF rfl rfl)) ?_
          refine arun_nil ?_
          refine athen_n ?_
          refine AWP.sub [(0, _), (1, _), (2, _), (6, _), (7, _), (8, _), (24, _), (45, _)] ⟨rfl, rfl, rfl, rfl, rfl, rfl, rfl, rfl, trivial⟩ ?_
          refine AWP.condT rfl (by first | rfl | (simp; done) | (simp; omega)) ?_
          refine AWP.seq ?_
          refine AWP.region ?_
          refine rC (Calm.move rfl) ?_
          refine rC (Calm.move rfl) ?_
          refine ARun.call (lit_lt rfl) go_53 rfl (rnumV_Less x y _ _ S hra hrb) ?_
          rintro _ S1 ⟨rfl, h1⟩
          rw [h1, hxy]; clear h1 S1
          refine rC (Calm.assign rfl) ?_
          refine arun_nil ?_
          refine athen_n ?_
          refine AWP.sub [(0, _), (1, _), (2, _), (6, _), (7, _), (8, _), (24, _), (45, _)] ⟨rfl, rfl, rfl, rfl, rfl, rfl, rfl, rfl, trivial⟩ ?_
          refine AWP.ret ?_
          refine athen_ret ?_
          refine ⟨_, S, ⟨_, _, rfl, rfl, rfl⟩, less_, ?_⟩
          exact ⟨rfl, rfl⟩
        | false =>
          have e : decide (x = y) = true := decide_eq_true (lessB_total x y hxy hyx)
          rw [e]
          refine ACall.enter (args := [.slice (some ⟨b0, off, none⟩) hs.length ca, .int .i64 a, .int .i64 b]) (rs := [.tmp 6]) 52 [(0, .slice (some ⟨b0, off, none⟩) hs.length ca), (1, .int .i64 a), (2, .int .i64 b)] Try.func82 rfl rfl (Nat.le_of_ble_eq_true rfl) rfl ⟨rfl, rfl, rfl, trivial⟩ ?_
          refine AWP.seq ?_
          refine AWP.region ?_
          refine rC (Calm.assign rfl) ?_
          refine arun_nil ?_
          refine athen_n ?_
          refine AWP.seq ?_
          refine AWP.draw [(0, true), (1, true), (2, true), (3, true), (4, true), (5, true), (6, true), (7, true), (8, true), (9, true)] [] mixed (by kernel_rfl) ?_
          refine draw_pure rfl rfl rfl rfl (lit_lt rfl) (fun _ => Calm.move rfl) ?_
          refine draw_pure rfl rfl rfl rfl (lit_lt rfl) (fun _ => Calm.move rfl) ?_
          refine draw_pure rfl rfl rfl rfl (lit_lt rfl) (fun _ => Calm.indexS Try.underlying22 ty_size_32 rfl rfl (by omega) (by omega)) ?_
          refine draw_calm rfl rfl rfl (lit_lt rfl) less_ (fun S' hS' => by obtain rfl := hS'.resolve_left (by decide); exact ld_ ty_plain_32 rfl) ?_
          refine draw_pure rfl rfl rfl rfl (lit_lt rfl) (fun _ => Calm.move rfl) ?_
          refine draw_pure rfl rfl rfl rfl (lit_lt rfl) (fun _ => Calm.move rfl) ?_
          refine draw_pure rfl rfl rfl rfl (lit_lt rfl) (fun _ => Calm.indexS Try.underlying22 ty_size_32 rfl rfl (by omega) (by omega)) ?_
          refine draw_calm rfl rfl rfl (lit_lt rfl) less_ (fun S' hS' => by obtain rfl := hS'.resolve_left (by decide); exact ld_ ty_plain_32 rfl) ?_
          refine draw_pure rfl rfl rfl rfl (lit_lt rfl) (fun _ => Calm.assign rfl) ?_
          refine draw_pure rfl rfl rfl rfl (lit_lt rfl) (fun _ => Calm.assign rfl) ?_
          refine draw_nil ?_
          refine athen_n ?_
          refine AWP.sub [(0, _), (1, _), (2, _), (6, _), (7, _), (8, _)] ⟨rfl, rfl, rfl, rfl, rfl, rfl, trivial⟩ ?_
          refine AWP.seq ?_
          refine AWP.seq ?_
          refine AWP.region ?_
          refine rC (Calm.move rfl) ?_
          refine rC (Calm.lenSl Try.underlying32 rfl) ?_
          refine rC (Calm.bin rfl rfl b_eql) ?_
          refine rC (Calm.move rfl) ?_
          first | refine rS 20 ?_ | refine rU 20 ?_ | refine rG 20 (Calm.move rfl) ?_
          first | refine rS 20 ?_ | refine rU 20 ?_ | refine rG 20 (Calm.lenSl Try.underlying32 rfl) ?_
          first | refine rS 20 ?_ | refine rU 20 ?_ | refine rG 20 (Calm.bin rfl rfl b_eql) ?_
          refine rC ((by first | exact Calm.pickT rfl rfl | exact Calm.pickF rfl rfl)) ?_
          refine arun_nil ?_
          refine athen_n ?_
          refine AWP.sub [(0, _), (1, _), (2, _), (6, _), (7, _), (8, _), (24, _)] ⟨rfl, rfl, rfl, rfl, rfl, rfl, rfl, trivial⟩ ?_
          refine AWP.condF rfl (by first | rfl | (simp; done) | (simp; omega)) ?_
          refine AWP.skip ?_
          refine athen_n ?_
          refine AWP.seq ?_
          refine AWP.seq ?_
          refine AWP.region ?_
          refine rC (Calm.move rfl) ?_
          refine rC (Calm.move rfl) ?_
          refine ARun.call (lit_lt rfl) go_53 rfl (rnumV_Less x y _ _ S hra hrb) ?_
          rintro _ S1 ⟨rfl, h1⟩
          rw [h1, hxy]; clear h1 S1
          refine rC (Calm.move rfl) ?_
          first | refine rS 41 ?_ | refine rU 41 ?_ | refine rG 41 (Calm.move rfl) ?_
          first | refine rS 41 ?_ | refine rU 41 ?_ | refine rG 41 (Calm.move rfl) ?_
          refine ARun.callG 3 false 41 rfl (lit_lt rfl) rfl (lit_lt rfl) go_53 rfl (rnumV_Less y x _ _ S hrb hra) ?_
          rintro _ S1 ⟨rfl, h1⟩
          rw [h1, hyx]; clear h1 S1
          refine rC ((by first | exact Calm.pickT rfl rfl | exact Calm.pickF rfl rfl)) ?_
          refine arun_nil ?_
          refine athen_n ?_
          refine AWP.sub [(0, _), (1, _), (2, _), (6, _), (7, _), (8, _), (24, _), (45, _)] ⟨rfl, rfl, rfl, rfl, rfl, rfl, rfl, rfl, trivial⟩ ?_
          refine AWP.condF rfl (by first | rfl | (simp; done) | (simp; omega)) ?_
          refine AWP.skip ?_
          refine athen_n ?_
          refine AWP.seq ?_
          refine AWP.region ?_
          refine rC (Calm.move rfl) ?_
          refine rC (Calm.move rfl) ?_
          refine rC (Calm.bin rfl rfl (bin_bool (bin_lss _ _) hlt)) ?_
          refine rC (Calm.assign rfl) ?_
          refine arun_nil ?_
          refine athen_n ?_
          refine AWP.sub [(0, _), (1, _), (2, _), (6, _), (7, _), (8, _), (24, _), (45, _)] ⟨rfl, rfl, rfl, rfl, rfl, rfl, rfl, rfl, trivial⟩ ?_
          refine AWP.ret ?_
          refine ⟨_, S, ⟨_, _, rfl, rfl, rfl⟩, less_, ?_⟩
          exact ⟨rfl, rfl⟩
theorem game2 (ks : List (List Nat)) (n : Nat) (hn : 1 ≤ n) (h : n < ks.length) :
    (beatsP ks (win ks (2 * n)) (win ks (2 * n + 1)) = true → win ks n = win ks (2 * n) ∧ los ks n = win ks (2 * n + 1)) ∧ (beatsP ks (win ks (2 * n)) (win ks (2 * n + 1)) = false → win ks n = win ks (2 * n + 1) ∧ los ks n = win ks (2 * n)) :=
  game ks n (2 * n + 1) (2 * n) hn h (.inr ⟨rfl, rfl⟩)
set_option maxHeartbeats 1000000 in
theorem rlosV_both (b c : Nat) (hk : Value) (ks : List (List Nat)) (ws : List Int) (n : Nat) (S : Mem) (hks : SlOf RowR S hk ks) (hb : S.own b = some ⟨3, ws.map (fun x => Value.int .i64 x), c⟩) (hwl : ws.length = 2 * ks.length) (hn : 1 ≤ n) (hn2 : n < ks.length) (hl : ks.length ≤ 5864062014634)
    (h1 : ws[2 * n]? = some (win ks (2 * n) : Int)) (h2 : ws[2 * n + 1]? = some (win ks (2 * n + 1) : Int)) :
    ACall Try.prog 74 #[.slice (some ⟨b, 0, none⟩) (2 * ks.length) (2 * ks.length), hk, .int .i64 n] S fun r S' => r = .tuple #[.int .i64 (win ks n : Nat), .int .i64 (los ks n : Nat)] ∧ S' = S := by
  have k1 := kn_int hb (2 * n) h1
  have k2 := kn_int hb (2 * n + 1) h2
  have hw1 := win_lt (ks := ks) (n := 2 * n) (by omega) (by omega)
  have hw2 := win_lt (ks := ks) (n := 2 * n + 1) (by omega) (by omega)
  have hg := game2 ks n hn hn2
  refine ACall.enter (args := [.slice (some ⟨b, 0, none⟩) (2 * ks.length) (2 * ks.length), hk, .int .i64 n]) (rs := [.tmp 6, .tmp 7]) 29 [(0, .slice (some ⟨b, 0, none⟩) (2 * ks.length) (2 * ks.length)), (1, hk), (2, .int .i64 n)] Try.func74 rfl rfl (Nat.le_of_ble_eq_true rfl) rfl ⟨rfl, rfl, rfl, trivial⟩ ?_
  refine AWP.seq ?_
  refine AWP.region ?_
  refine rC (Calm.assign rfl) ?_
  refine rC (Calm.assign rfl) ?_
  refine arun_nil ?_
  refine athen_n ?_
  refine AWP.seq ?_
  refine AWP.draw [(0, true), (1, true), (2, true), (3, true), (4, true), (5, true), (6, true), (7, true), (8, true), (9, true), (10, true), (11, true), (12, true)] [] mixed (by kernel_rfl) ?_
  refine draw_pure rfl rfl rfl rfl (lit_lt rfl) (fun _ => Calm.move rfl) ?_
  refine draw_pure rfl rfl rfl rfl (lit_lt rfl) (fun _ => Calm.move rfl) ?_
  refine draw_pure rfl rfl rfl rfl (lit_lt rfl) (fun _ => Calm.bin rfl rfl b_mul_i64) ?_
  refine draw_pure rfl rfl rfl rfl (lit_lt rfl) (fun _ => Calm.indexS Try.underlying23 ty_size_3 rfl rfl (by omega) (by omega)) ?_
  refine draw_calm rfl rfl rfl (lit_lt rfl) less_ (fun S' hS' => by obtain rfl := hS'.resolve_left (by decide); exact ld_ ty_plain_3 rfl) ?_
  refine draw_pure rfl rfl rfl rfl (lit_lt rfl) (fun _ => Calm.move rfl) ?_
  refine draw_pure rfl rfl rfl rfl (lit_lt rfl) (fun _ => Calm.move rfl) ?_
  refine draw_pure rfl rfl rfl rfl (lit_lt rfl) (fun _ => Calm.bin rfl rfl b_mul_i64) ?_
  refine draw_pure rfl rfl rfl rfl (lit_lt rfl) (fun _ => Calm.bin rfl rfl b_add_i64) ?_
  refine draw_pure rfl rfl rfl rfl (lit_lt rfl) (fun _ => Calm.indexS Try.underlying23 ty_size_3 rfl rfl (by omega) (by omega)) ?_
  refine draw_calm rfl rfl rfl (lit_lt rfl) less_ (fun S' hS' => by obtain rfl := hS'.resolve_left (by decide); exact ld_ ty_plain_3 rfl) ?_
  refine draw_pure rfl rfl rfl rfl (lit_lt rfl) (fun _ => Calm.assign rfl) ?_
  refine draw_pure rfl rfl rfl rfl (lit_lt rfl) (fun _ => Calm.assign rfl) ?_
  refine draw_nil ?_
  refine athen_n ?_
  refine AWP.sub [(0, _), (1, _), (2, _), (6, _), (7, _), (8, _), (9, _)] ⟨rfl, rfl, rfl, rfl, rfl, rfl, rfl, trivial⟩ ?_
  refine AWP.seq ?_
  refine AWP.seq ?_
  refine AWP.region ?_
  refine rC (Calm.move rfl) ?_
  refine rC (Calm.move rfl) ?_
  refine rC (Calm.move rfl) ?_
  refine ARun.call (lit_lt rfl) go_82 rfl (rlosV_beats hk ks _ _ S hks hw1 hw2) ?_
  rintro _ S1 ⟨rfl, h1⟩
  rw [h1]; clear h1 S1
  refine arun_nil ?_
  refine athen_n ?_
  refine AWP.sub [(0, _), (1, _), (2, _), (6, _), (7, _), (8, _), (9, _), (24, _)] ⟨rfl, rfl, rfl, rfl, rfl, rfl, rfl, rfl, trivial⟩ ?_
  rcases Bool.eq_false_or_eq_true (beatsP ks (win ks (2 * n)) (win ks (2 * n + 1))) with hb | hb
  · obtain ⟨e1, e2⟩ := hg.1 hb
    refine AWP.condT rfl (hb) ?_
    refine AWP.seq ?_
    refine AWP.region ?_
    refine rC (Calm.move rfl) ?_
    refine rC (Calm.move rfl) ?_
    refine rC (Calm.assign rfl) ?_
    refine rC (Calm.assign rfl) ?_
    refine arun_nil ?_
    refine athen_n ?_
    refine AWP.sub [(0, _), (1, _), (2, _), (6, _), (7, _), (8, _), (9, _), (24, _)] ⟨rfl, rfl, rfl, rfl, rfl, rfl, rfl, rfl, trivial⟩ ?_
    refine AWP.ret ?_
    refine athen_ret ?_
    refine ⟨_, S, ⟨_, _, rfl, ⟨_, _, rfl, rfl, rfl⟩, rfl⟩, less_, ?_⟩
    exact ⟨by rw [e1, e2]; rfl, rfl⟩
  · obtain ⟨e1, e2⟩ := hg.2 hb
    refine AWP.condF rfl (hb) ?_
    refine AWP.skip ?_
    refine athen_n ?_
    refine AWP.seq ?_
    refine AWP.region ?_
    refine rC (Calm.move rfl) ?_
    refine rC (Calm.move rfl) ?_
    refine rC (Calm.assign rfl) ?_
    refine rC (Calm.assign rfl) ?_
    refine arun_nil ?_
    refine athen_n ?_
    refine AWP.sub [(0, _), (1, _), (2, _), (6, _), (7, _), (8, _), (9, _), (24, _)] ⟨rfl, rfl, rfl, rfl, rfl, rfl, rfl, rfl, trivial⟩ ?_
    refine AWP.ret ?_
    refine ⟨_, S, ⟨_, _, rfl, ⟨_, _, rfl, rfl, rfl⟩, rfl⟩, less_, ?_⟩
    exact ⟨by rw [e1, e2]; rfl, rfl⟩
set_option maxHeartbeats 4000000 in
theorem rlosV_tree (hk : Value) (ks : List (List Nat)) (S : Mem) (hks : SlOf RowR S hk ks) (hl1 : 1 ≤ ks.length) (hl2 : ks.length ≤ 256) :
    ACall Try.prog 47 #[hk] S fun r S' => ∃ q, Fresh S q ∧ r = .slice (some ⟨q, 0, none⟩) ks.length ks.length ∧ S' = S.set q (intB (treeOf ks) ks.length) := by
  unfold intB
  obtain ⟨pa, ca, rfl⟩ : ∃ pa ca, hk = .slice pa ks.length ca := by
    obtain ⟨hs, hsl, ⟨pa, ca, e, _⟩, _⟩ := id hks
    exact ⟨pa, ca, by rw [e, hsl]⟩
  refine ACall.enter (args := [.slice pa ks.length ca]) (rs := [.tmp 2]) 53 [(0, .slice pa ks.length ca)] Try.func47 rfl rfl (Nat.le_of_ble_eq_true rfl) rfl ⟨rfl, trivial⟩ ?_
  refine AWP.seq ?_
  refine AWP.region ?_
  refine rC (Calm.assign rfl) ?_
  refine arun_nil ?_
  refine athen_n ?_
  refine AWP.seq ?_
  refine AWP.region ?_
  refine rC (Calm.move rfl) ?_
  refine rC (Calm.lenSl Try.underlying22 rfl) ?_
  refine rC (Calm.assign rfl) ?_
  refine arun_nil ?_
  refine athen_n ?_
  refine AWP.sub [(0, _), (2, _), (3, _)] ⟨rfl, rfl, rfl, trivial⟩ ?_
  refine AWP.seq ?_
  refine AWP.region ?_
  refine rC (Calm.move rfl) ?_
  refine rC (Calm.bin rfl rfl b_mul_i64) ?_
  refine ARun.makeSlice (lit_lt rfl) ty_sl_23 rfl rfl (by omega) (by omega) (by omega) (by omega) ?_
  intro b12 f12
  have g12 := f12
  repeat ((with_reducible replace g12 := fresh_set g12); obtain ⟨g12, _⟩ := g12)
  refine rC (Calm.assign rfl) ?_
  refine arun_nil ?_
  refine athen_n ?_
  refine AWP.sub [(0, _), (2, _), (3, _), (4, _)] ⟨rfl, rfl, rfl, rfl, trivial⟩ ?_
  have em2 : (2 * (ks.length : Int)).toNat = 2 * ks.length := by omega
  simp only [Nat.mul_one, madeL_one, em2]
  refine AWP.seq ?_
  refine AWP.region ?_
  refine rC (Calm.move rfl) ?_
  refine ARun.makeSlice (lit_lt rfl) ty_sl_23 rfl rfl (by omega) (by omega) (by omega) (by omega) ?_
  intro b14 f14
  have g14 := f14
  repeat ((with_reducible replace g14 := fresh_set g14); obtain ⟨g14, _⟩ := g14)
  refine rC (Calm.assign rfl) ?_
  refine arun_nil ?_
  refine athen_n ?_
  refine AWP.sub [(0, _), (2, _), (3, _), (4, _), (5, _)] ⟨rfl, rfl, rfl, rfl, rfl, trivial⟩ ?_
  simp only [Nat.mul_one, madeL_one, Int.toNat_natCast]
  have hz : ∀ n, List.replicate n (Value.int .i64 0) = (List.replicate n (0 : Int)).map fun x => Value.int .i64 x := fun n => by simp
  rw [hz, hz]
  refine AWP.seq ?_
  refine AWP.seq ?_
  refine AWP.region ?_
  refine rC (Calm.assign rfl) ?_
  refine arun_nil ?_
  refine athen_n ?_
  refine AWP.block ?_
  refine AWP.loop (X := Nat × List Int) (fun x => [(0, .slice pa ks.length ca), (3, .int .i64 ks.length), (4, .slice (some ⟨b12, 0, none⟩) (2 * ks.length) (2 * ks.length)), (5, .slice (some ⟨b14, 0, none⟩) ks.length ks.length), (6, .int .i64 x.1)]) (fun x => (S.set b14 ⟨3, (List.replicate ks.length (0 : Int)).map (fun x => Value.int .i64 x), ks.length⟩).set b12 ⟨3, x.2.map (fun x => Value.int .i64 x), 2 * ks.length⟩) (fun x => x.1 ≤ ks.length ∧ x.2.length = 2 * ks.length ∧ ∀ m, ks.length ≤ m → m < ks.length + x.1 → x.2[m]? = some ((m - ks.length : Nat) : Int)) (fun x => ks.length - x.1) ((0, List.replicate (2 * ks.length) (0 : Int))) ⟨rfl, rfl, rfl, rfl, rfl, trivial⟩ less_ (⟨Nat.zero_le _, by simp, fun m h1 h2 => by omega⟩) ?_
  rintro ⟨i, ws⟩ ⟨hi, hwl, hw⟩
  (try dsimp only at *)
  refine AWP.seq ?_
  refine AWP.seq ?_
  refine AWP.region ?_
  refine rC (Calm.move rfl) ?_
  refine rC (Calm.move rfl) ?_
  refine rC (Calm.bin rfl rfl b_lss) ?_
  refine arun_nil ?_
  refine athen_n ?_
  refine AWP.sub [(0, _), (3, _), (4, _), (5, _), (6, _), (17, _)] ⟨rfl, rfl, rfl, rfl, rfl, rfl, trivial⟩ ?_
  refine AWP.condB rfl (fun hil => ?_) (fun hil => ?_)
  · have hil : i < ks.length := by have := of_decide_eq_true hil; omega
    have eki : ((ks.length : Int) + (i : Int)).toNat = ks.length + i := by omega
    refine AWP.skip ?_
    refine athen_n ?_
    refine AWP.seq ?_
    refine AWP.block ?_
    refine AWP.region ?_
    refine rC (Calm.move rfl) ?_
    refine rC (Calm.move rfl) ?_
    refine rC (Calm.move rfl) ?_
    refine rC (Calm.bin rfl rfl b_add_i64) ?_
    refine rC (Calm.move rfl) ?_
    refine rC (Calm.indexS Try.underlying23 ty_size_3 rfl rfl (by omega) (by omega)) ?_
    refine ARun.store1 rfl rfl ty_size_3 rfl own_ lens_ rfl ?_
    (try simp only [Mem.set_set, List.set_cons_zero, List.set_cons_succ, Nat.zero_add, Nat.reduceAdd])
    refine arun_nil ?_
    refine ain_n ?_
    refine athen_n ?_
    refine AWP.sub [(0, _), (3, _), (4, _), (5, _), (6, _), (17, _)] ⟨rfl, rfl, rfl, rfl, rfl, rfl, trivial⟩ ?_
    simp only [Nat.zero_add, Nat.mul_one, eki, icells_set]
    refine AWP.region ?_
    refine rC (Calm.move rfl) ?_
    refine rC (Calm.bin rfl rfl b_add_i64) ?_
    refine rC (Calm.assign rfl) ?_
    refine arun_nil ?_
    refine athen_n ?_
    refine ⟨(i + 1, ws.set (ks.length + i) (i : Int)), ?_, ?_, ?_, ?_⟩
    all_goals (try dsimp only)
    · exact ⟨rfl, rfl, rfl, rfl, rfl, trivial⟩
    · exact less_
    · exact ⟨hil, by rw [List.length_set]; exact hwl, fun m h1 h2 => by by_cases e : ks.length + i = m; (subst e; rw [List.getElem?_set_self (by omega)]; simp); (rw [List.getElem?_set_ne e]; exact hw m h1 (by omega))⟩
    · omega
  · have hil : i = ks.length := by have := of_decide_eq_false hil; omega
    have hG : GroI ks (ks.length - 1) ws (List.replicate ks.length (0 : Int)) := ⟨hwl, by simp, fun m h1 h2 => by rw [hw m (by omega) (by omega), win_leaf ks m (by omega)], fun m h1 h2 h3 => by omega, .inl (zeros_get _ 0 (by omega))⟩
    refine AWP.exit ?_
    refine athen_exit ?_
    refine athen_exit ?_
    refine ain_same ?_
    refine athen_n ?_
    refine AWP.seq ?_
    refine AWP.seq ?_
    refine AWP.region ?_
    refine rC (Calm.move rfl) ?_
    refine rC (Calm.bin rfl rfl b_sub_i64) ?_
    refine rC (Calm.assign rfl) ?_
    refine arun_nil ?_
    refine athen_n ?_
    refine AWP.sub [(0, _), (3, _), (4, _), (5, _), (6, _), (17, _), (7, _)] ⟨rfl, rfl, rfl, rfl, rfl, rfl, rfl, trivial⟩ ?_
    refine AWP.block ?_
    refine AWP.loop (X := Nat × List Int × List Int) (fun x => [(0, .slice pa ks.length ca), (3, .int .i64 ks.length), (4, .slice (some ⟨b12, 0, none⟩) (2 * ks.length) (2 * ks.length)), (5, .slice (some ⟨b14, 0, none⟩) ks.length ks.length), (7, .int .i64 x.1)]) (fun x => (S.set b14 ⟨3, x.2.2.map (fun x => Value.int .i64 x), ks.length⟩).set b12 ⟨3, x.2.1.map (fun x => Value.int .i64 x), 2 * ks.length⟩) (fun x => x.1 < ks.length ∧ GroI ks x.1 x.2.1 x.2.2) (fun x => x.1) ((ks.length - 1, ws, List.replicate ks.length (0 : Int))) ⟨rfl, rfl, rfl, rfl, some_int (by omega), trivial⟩ less_ (⟨by omega, hG⟩) ?_
    rintro ⟨n, vs, tr⟩ ⟨hn, hI⟩
    (try dsimp only at *)
    have hvl := hI.wl
    have htl := hI.tl
    by_cases hn1 : 1 ≤ n
    · refine AWP.seq ?_
      refine AWP.seq ?_
      refine AWP.region ?_
      refine rC (Calm.move rfl) ?_
      refine rC (Calm.bin rfl rfl b_geq) ?_
      refine arun_nil ?_
      refine athen_n ?_
      refine AWP.sub [(0, _), (3, _), (4, _), (5, _), (7, _), (29, _)] ⟨rfl, rfl, rfl, rfl, rfl, rfl, trivial⟩ ?_
      refine AWP.condT rfl (by first | rfl | (simp; done) | (simp; omega)) ?_
      refine AWP.skip ?_
      refine athen_n ?_
      refine AWP.seq ?_
      refine AWP.block ?_
      refine AWP.region ?_
      refine rC (Calm.move rfl) ?_
      refine rC (Calm.move rfl) ?_
      refine rC (Calm.move rfl) ?_
      refine rC (Calm.move rfl) ?_
      refine rC (Calm.move rfl) ?_
      refine rC (Calm.move rfl) ?_
      refine rC (Calm.move rfl) ?_
      refine ARun.call (lit_lt rfl) go_74 rfl (rlosV_both b12 _ _ ks vs n _ (hks.less rowR_less less_) own_ hvl hn1 hn (by omega) (hI.win_ _ (by omega) (by omega)) (hI.win_ _ (by omega) (by omega))) ?_
      rintro _ S1 ⟨rfl, h1⟩
      rw [h1]; clear h1 S1
      refine rC (Calm.move rfl) ?_
      refine rC (Calm.extract rfl rfl) ?_
      refine rC (Calm.extract rfl rfl) ?_
      refine rC (Calm.indexS Try.underlying23 ty_size_3 rfl rfl (by omega) (by omega)) ?_
      refine ARun.store1 rfl rfl ty_size_3 rfl own_ lens_ rfl ?_
      (try simp only [Mem.set_set, List.set_cons_zero, List.set_cons_succ, Nat.zero_add, Nat.reduceAdd])
      refine rC (Calm.indexS Try.underlying23 ty_size_3 rfl rfl (by omega) (by omega)) ?_
      refine ARun.store1 rfl rfl ty_size_3 rfl own_ lens_ rfl ?_
      (try simp only [Mem.set_set, List.set_cons_zero, List.set_cons_succ, Nat.zero_add, Nat.reduceAdd])
      refine arun_nil ?_
      refine ain_n ?_
      refine athen_n ?_
      refine AWP.sub [(0, _), (3, _), (4, _), (5, _), (7, _), (29, _)] ⟨rfl, rfl, rfl, rfl, rfl, rfl, trivial⟩ ?_
      simp only [Nat.zero_add, Nat.mul_one, Int.toNat_natCast, List.getElem_toArray, List.getElem_cons_zero, List.getElem_cons_succ, icells_set]
      refine AWP.region ?_
      refine rC (Calm.move rfl) ?_
      refine rC (Calm.bin rfl rfl b_sub_i64) ?_
      refine rC (Calm.assign rfl) ?_
      refine arun_nil ?_
      refine athen_n ?_
      refine ⟨(n - 1, vs.set n (win ks n : Int), tr.set n (los ks n : Int)), ?_, ?_, ?_, ?_⟩
      all_goals (try dsimp only)
      · exact ⟨rfl, rfl, rfl, rfl, some_int (by omega), trivial⟩
      · exact less_
      · exact ⟨by omega, hI.step hn1 hn⟩
      · omega
    · obtain rfl : n = 0 := by omega
      refine AWP.seq ?_
      refine AWP.seq ?_
      refine AWP.region ?_
      refine rC (Calm.move rfl) ?_
      refine rC (Calm.bin rfl rfl b_geq) ?_
      refine arun_nil ?_
      refine athen_n ?_
      refine AWP.sub [(0, _), (3, _), (4, _), (5, _), (7, _), (29, _)] ⟨rfl, rfl, rfl, rfl, rfl, rfl, trivial⟩ ?_
      refine AWP.condF rfl (by first | rfl | (simp; done) | (simp; omega)) ?_
      by_cases hk1 : 1 < ks.length
      · refine AWP.exit ?_
        refine athen_exit ?_
        refine athen_exit ?_
        refine ain_same ?_
        refine athen_n ?_
        refine AWP.seq ?_
        refine AWP.seq ?_
        refine AWP.region ?_
        refine rC (Calm.move rfl) ?_
        refine rC (Calm.bin rfl rfl b_gtr) ?_
        refine arun_nil ?_
        refine athen_n ?_
        refine AWP.sub [(0, _), (3, _), (4, _), (5, _), (7, _), (29, _), (46, _)] ⟨rfl, rfl, rfl, rfl, rfl, rfl, rfl, trivial⟩ ?_
        refine AWP.condT rfl (by first | rfl | (simp; done) | (simp; omega)) ?_
        have k1 := kn_int (S := (S.set b14 ⟨3, tr.map (fun x => Value.int .i64 x), ks.length⟩).set b12 ⟨3, vs.map (fun x => Value.int .i64 x), 2 * ks.length⟩) (b := b12) own_ 1 (hI.win_ 1 (by omega) (by omega))
        refine AWP.region ?_
        refine rC (Calm.move rfl) ?_
        refine rC (Calm.move rfl) ?_
        refine rC (Calm.indexS Try.underlying23 ty_size_3 rfl rfl (by omega) (by omega)) ?_
        refine rC (ld_ ty_plain_3 rfl) ?_
        refine rC (Calm.indexS Try.underlying23 ty_size_3 rfl rfl (by omega) (by omega)) ?_
        refine ARun.store1 rfl rfl ty_size_3 rfl own_ lens_ rfl ?_
        (try simp only [Mem.set_set, List.set_cons_zero, List.set_cons_succ, Nat.zero_add, Nat.reduceAdd])
        refine arun_nil ?_
        refine athen_n ?_
        refine AWP.sub [(0, _), (3, _), (4, _), (5, _), (7, _), (29, _), (46, _)] ⟨rfl, rfl, rfl, rfl, rfl, rfl, rfl, trivial⟩ ?_
        simp only [Nat.zero_add, Nat.mul_one, Int.toNat_zero, icells_set, hI.done hk1]
        refine AWP.seq ?_
        refine AWP.region ?_
        refine rC (Calm.move rfl) ?_
        refine rC (Calm.assign rfl) ?_
        refine arun_nil ?_
        refine athen_n ?_
        refine AWP.sub [(0, _), (3, _), (4, _), (5, _), (7, _), (29, _), (46, _), (2, _)] ⟨rfl, rfl, rfl, rfl, rfl, rfl, rfl, rfl, trivial⟩ ?_
        refine AWP.ret ?_
        refine ⟨_, S.set b14 ⟨3, (treeOf ks).map (fun x => Value.int .i64 x), ks.length⟩, ⟨_, _, rfl, rfl, rfl⟩, less_, ?_⟩
        exact ⟨b14, g14, rfl, rfl⟩
      · refine AWP.exit ?_
        refine athen_exit ?_
        refine athen_exit ?_
        refine ain_same ?_
        refine athen_n ?_
        refine AWP.seq ?_
        refine AWP.seq ?_
        refine AWP.region ?_
        refine rC (Calm.move rfl) ?_
        refine rC (Calm.bin rfl rfl b_gtr) ?_
        refine arun_nil ?_
        refine athen_n ?_
        refine AWP.sub [(0, _), (3, _), (4, _), (5, _), (7, _), (29, _), (46, _)] ⟨rfl, rfl, rfl, rfl, rfl, rfl, rfl, trivial⟩ ?_
        refine AWP.condF rfl (by first | rfl | (simp; done) | (simp; omega)) ?_
        rw [hI.done1 (by omega)]
        refine AWP.skip ?_
        refine athen_n ?_
        refine AWP.seq ?_
        refine AWP.region ?_
        refine rC (Calm.move rfl) ?_
        refine rC (Calm.assign rfl) ?_
        refine arun_nil ?_
        refine athen_n ?_
        refine AWP.sub [(0, _), (3, _), (4, _), (5, _), (7, _), (29, _), (46, _), (2, _)] ⟨rfl, rfl, rfl, rfl, rfl, rfl, rfl, rfl, trivial⟩ ?_
        refine AWP.ret ?_
        refine ⟨_, S.set b14 ⟨3, (treeOf ks).map (fun x => Value.int .i64 x), ks.length⟩, ⟨_, _, rfl, rfl, rfl⟩, less_, ?_⟩
        exact ⟨b14, g14, rfl, rfl⟩
set_option maxHeartbeats 2000000 in
theorem rlosV_Check (hk ht : Value) (ks : List (List Nat)) (tr : List Int) (S : Mem) (hl : LoV S hk ht ks tr) :
    ACall Try.prog 27 #[.agg #[hk, ht]] S fun r S' => r = .int .i64 (chkP ks tr) ∧ S' = S := by
  obtain ⟨hks, hts⟩ := hl
  obtain ⟨pt, ct, rfl, t1, t2, t3⟩ := id hts
  obtain ⟨gs, hgl, ⟨pa, ca, rfl, h1, h2, h3⟩, hge⟩ := id hks
  by_cases c1 : gs.length < 1
  · rw [chk_two (by omega)]
    refine ACall.enter (args := [.agg #[.slice pa gs.length ca, .slice pt tr.length ct]]) (rs := [.tmp 2]) 41 [(0, .agg #[.slice pa gs.length ca, .slice pt tr.length ct])] Try.func27 rfl rfl (Nat.le_of_ble_eq_true rfl) rfl ⟨rfl, trivial⟩ ?_
    refine AWP.seq ?_
    refine AWP.region ?_
    refine ARun.boxA (cs := [_, _]) (lit_lt rfl) rfl ?_
    intro b1 f1
    have g1 := f1
    repeat ((with_reducible replace g1 := fresh_set g1); obtain ⟨g1, _⟩ := g1)
    (try simp only [List.length_cons, List.length_nil, Nat.zero_add, Nat.reduceAdd])
    refine rC (Calm.assign rfl) ?_
    refine arun_nil ?_
    refine athen_n ?_
    refine AWP.seq ?_
    refine AWP.seq ?_
    refine AWP.region ?_
    refine rC (Calm.fieldAddr ty_field_25_0 rfl) ?_
    refine rC (ld_ ty_plain_22 rfl) ?_
    refine rC (Calm.lenSl Try.underlying22 rfl) ?_
    refine rC (Calm.bin rfl rfl b_lss) ?_
    refine rC (Calm.move rfl) ?_
    first | refine rS 9 ?_ | refine rU 9 ?_ | refine rG 9 (Calm.fieldAddr ty_field_25_0 rfl) ?_
    first | refine rS 9 ?_ | refine rU 9 ?_ | refine rG 9 (ld_ ty_plain_22 rfl) ?_
    first | refine rS 9 ?_ | refine rU 9 ?_ | refine rG 9 (Calm.lenSl Try.underlying22 rfl) ?_
    first | refine rS 9 ?_ | refine rU 9 ?_ | refine rG 9 (Calm.bin rfl rfl b_gtr) ?_
    refine rC ((by first | exact Calm.pickT rfl rfl | exact Calm.pickF rfl rfl)) ?_
    refine rC (Calm.move rfl) ?_
    first | refine rS 15 ?_ | refine rU 15 ?_ | refine rG 15 (Calm.fieldAddr ty_field_25_1 rfl) ?_
    first | refine rS 15 ?_ | refine rU 15 ?_ | refine rG 15 (ld_ ty_plain_23 rfl) ?_
    first | refine rS 15 ?_ | refine rU 15 ?_ | refine rG 15 (Calm.lenSl Try.underlying23 rfl) ?_
    first | refine rS 15 ?_ | refine rU 15 ?_ | refine rG 15 (Calm.fieldAddr ty_field_25_0 rfl) ?_
    first | refine rS 15 ?_ | refine rU 15 ?_ | refine rG 15 (ld_ ty_plain_22 rfl) ?_
    first | refine rS 15 ?_ | refine rU 15 ?_ | refine rG 15 (Calm.lenSl Try.underlying22 rfl) ?_
    first | refine rS 15 ?_ | refine rU 15 ?_ | refine rG 15 (Calm.bin rfl rfl b_neq) ?_
    refine rC ((by first | exact Calm.pickT rfl rfl | exact Calm.pickF rfl rfl)) ?_
    refine arun_nil ?_
    refine athen_n ?_
    refine AWP.sub [(0, _), (1, _), (2, _), (23, _)] ⟨rfl, rfl, rfl, rfl, trivial⟩ ?_
    refine AWP.condT rfl (by first | rfl | (simp; done) | (simp; omega)) ?_
    refine AWP.seq ?_
    refine AWP.region ?_
    refine rC (Calm.assign rfl) ?_
    refine arun_nil ?_
    refine athen_n ?_
    refine AWP.ret ?_
    refine athen_ret ?_
    refine ⟨_, S, ⟨_, _, rfl, rfl, rfl⟩, less_, ?_⟩
    exact ⟨rfl, rfl⟩
  by_cases c2 : 256 < gs.length
  · rw [chk_two (by omega)]
    refine ACall.enter (args := [.agg #[.slice pa gs.length ca, .slice pt tr.length ct]]) (rs := [.tmp 2]) 41 [(0, .agg #[.slice pa gs.length ca, .slice pt tr.length ct])] Try.func27 rfl rfl (Nat.le_of_ble_eq_true rfl) rfl ⟨rfl, trivial⟩ ?_
    refine AWP.seq ?_
    refine AWP.region ?_
    refine ARun.boxA (cs := [_, _]) (lit_lt rfl) rfl ?_
    intro b1 f1
    have g1 := f1
    repeat ((with_reducible replace g1 := fresh_set g1); obtain ⟨g1, _⟩ := g1)
    (try simp only [List.length_cons, List.length_nil, Nat.zero_add, Nat.reduceAdd])
    refine rC (Calm.assign rfl) ?_
    refine arun_nil ?_
    refine athen_n ?_
    refine AWP.seq ?_
    refine AWP.seq ?_
    refine AWP.region ?_
    refine rC (Calm.fieldAddr ty_field_25_0 rfl) ?_
    refine rC (ld_ ty_plain_22 rfl) ?_
    refine rC (Calm.lenSl Try.underlying22 rfl) ?_
    refine rC (Calm.bin rfl rfl b_lss) ?_
    refine rC (Calm.move rfl) ?_
    first | refine rS 9 ?_ | refine rU 9 ?_ | refine rG 9 (Calm.fieldAddr ty_field_25_0 rfl) ?_
    first | refine rS 9 ?_ | refine rU 9 ?_ | refine rG 9 (ld_ ty_plain_22 rfl) ?_
    first | refine rS 9 ?_ | refine rU 9 ?_ | refine rG 9 (Calm.lenSl Try.underlying22 rfl) ?_
    first | refine rS 9 ?_ | refine rU 9 ?_ | refine rG 9 (Calm.bin rfl rfl b_gtr) ?_
    refine rC ((by first | exact Calm.pickT rfl rfl | exact Calm.pickF rfl rfl)) ?_
    refine rC (Calm.move rfl) ?_
    first | refine rS 15 ?_ | refine rU 15 ?_ | refine rG 15 (Calm.fieldAddr ty_field_25_1 rfl) ?_
    first | refine rS 15 ?_ | refine rU 15 ?_ | refine rG 15 (ld_ ty_plain_23 rfl) ?_
    first | refine rS 15 ?_ | refine rU 15 ?_ | refine rG 15 (Calm.lenSl Try.underlying23 rfl) ?_
    first | refine rS 15 ?_ | refine rU 15 ?_ | refine rG 15 (Calm.fieldAddr ty_field_25_0 rfl) ?_
    first | refine rS 15 ?_ | refine rU 15 ?_ | refine rG 15 (ld_ ty_plain_22 rfl) ?_
    first | refine rS 15 ?_ | refine rU 15 ?_ | refine rG 15 (Calm.lenSl Try.underlying22 rfl) ?_
    first | refine rS 15 ?_ | refine rU 15 ?_ | refine rG 15 (Calm.bin rfl rfl b_neq) ?_
    refine rC ((by first | exact Calm.pickT rfl rfl | exact Calm.pickF rfl rfl)) ?_
    refine arun_nil ?_
    refine athen_n ?_
    refine AWP.sub [(0, _), (1, _), (2, _), (23, _)] ⟨rfl, rfl, rfl, rfl, trivial⟩ ?_
    refine AWP.condT rfl (by first | rfl | (simp; done) | (simp; omega)) ?_
    refine AWP.seq ?_
    refine AWP.region ?_
    refine rC (Calm.assign rfl) ?_
    refine arun_nil ?_
    refine athen_n ?_
    refine AWP.ret ?_
    refine athen_ret ?_
    refine ⟨_, S, ⟨_, _, rfl, rfl, rfl⟩, less_, ?_⟩
    exact ⟨rfl, rfl⟩
  by_cases c3 : tr.length = gs.length
  · have htl := treeOf_length ks
    obtain ⟨bt, offt, rfl, htk⟩ := t3.resolve_left (by intro h; rw [h] at c3; simp at c3; omega)
    have hcd : ∀ i (h : i < ks.length), (treeOf ks)[i]'(by omega) ≠ tr[i]'(by omega) → chkP ks tr = 2 := fun i h e => chk_two (fun hh => e (by simp only [hh.2.2]))
    have hce : (∀ i (h : i < (treeOf ks).length) (h' : i < tr.length), (treeOf ks)[i] = tr[i]) → chkP ks tr = 0 := fun h => chk_ok ⟨by omega, by omega, (List.ext_getElem (by omega) h).symm⟩
    refine ACall.enter (args := [.agg #[.slice pa gs.length ca, .slice (some ⟨bt, offt, none⟩) tr.length ct]]) (rs := [.tmp 2]) 41 [(0, .agg #[.slice pa gs.length ca, .slice (some ⟨bt, offt, none⟩) tr.length ct])] Try.func27 rfl rfl (Nat.le_of_ble_eq_true rfl) rfl ⟨rfl, trivial⟩ ?_
    refine AWP.seq ?_
    refine AWP.region ?_
    refine ARun.boxA (cs := [_, _]) (lit_lt rfl) rfl ?_
    intro b1 f1
    have g1 := f1
    repeat ((with_reducible replace g1 := fresh_set g1); obtain ⟨g1, _⟩ := g1)
    (try simp only [List.length_cons, List.length_nil, Nat.zero_add, Nat.reduceAdd])
    refine rC (Calm.assign rfl) ?_
    refine arun_nil ?_
    refine athen_n ?_
    refine AWP.seq ?_
    refine AWP.seq ?_
    refine AWP.region ?_
    refine rC (Calm.fieldAddr ty_field_25_0 rfl) ?_
    refine rC (ld_ ty_plain_22 rfl) ?_
    refine rC (Calm.lenSl Try.underlying22 rfl) ?_
    refine rC (Calm.bin rfl rfl b_lss) ?_
    refine rC (Calm.move rfl) ?_
    first | refine rS 9 ?_ | refine rU 9 ?_ | refine rG 9 (Calm.fieldAddr ty_field_25_0 rfl) ?_
    first | refine rS 9 ?_ | refine rU 9 ?_ | refine rG 9 (ld_ ty_plain_22 rfl) ?_
    first | refine rS 9 ?_ | refine rU 9 ?_ | refine rG 9 (Calm.lenSl Try.underlying22 rfl) ?_
    first | refine rS 9 ?_ | refine rU 9 ?_ | refine rG 9 (Calm.bin rfl rfl b_gtr) ?_
    refine rC ((by first | exact Calm.pickT rfl rfl | exact Calm.pickF rfl rfl)) ?_
    refine rC (Calm.move rfl) ?_
    first | refine rS 15 ?_ | refine rU 15 ?_ | refine rG 15 (Calm.fieldAddr ty_field_25_1 rfl) ?_
    first | refine rS 15 ?_ | refine rU 15 ?_ | refine rG 15 (ld_ ty_plain_23 rfl) ?_
    first | refine rS 15 ?_ | refine rU 15 ?_ | refine rG 15 (Calm.lenSl Try.underlying23 rfl) ?_
    first | refine rS 15 ?_ | refine rU 15 ?_ | refine rG 15 (Calm.fieldAddr ty_field_25_0 rfl) ?_
    first | refine rS 15 ?_ | refine rU 15 ?_ | refine rG 15 (ld_ ty_plain_22 rfl) ?_
    first | refine rS 15 ?_ | refine rU 15 ?_ | refine rG 15 (Calm.lenSl Try.underlying22 rfl) ?_
    first | refine rS 15 ?_ | refine rU 15 ?_ | refine rG 15 (Calm.bin rfl rfl b_neq) ?_
    refine rC ((by first | exact Calm.pickT rfl rfl | exact Calm.pickF rfl rfl)) ?_
    refine arun_nil ?_
    refine athen_n ?_
    refine AWP.sub [(0, _), (1, _), (2, _), (23, _)] ⟨rfl, rfl, rfl, rfl, trivial⟩ ?_
    refine AWP.condF rfl (by first | rfl | (simp; done) | (simp; omega)) ?_
    refine AWP.skip ?_
    refine athen_n ?_
    refine AWP.seq ?_
    refine AWP.seq ?_
    refine AWP.region ?_
    refine rC (Calm.fieldAddr ty_field_25_0 rfl) ?_
    refine rC (ld_ ty_plain_22 rfl) ?_
    refine ARun.call (lit_lt rfl) go_47 rfl (rlosV_tree _ ks _ (hks.less rowR_less less_) (by omega) (by omega)) ?_
    rintro _ S1 ⟨q, hq, rfl, h1⟩
    rw [h1]; clear h1 S1; unfold intB
    have gq := (fresh_set hq).1
    have nq1 := (fresh_set hq).2
    refine rC (Calm.lenSl Try.underlying23 rfl) ?_
    refine rC (Calm.move rfl) ?_
    refine arun_nil ?_
    refine athen_n ?_
    refine AWP.sub [(0, _), (1, _), (2, _), (23, _), (26, _), (27, _), (28, _)] ⟨rfl, rfl, rfl, rfl, rfl, rfl, rfl, trivial⟩ ?_
    refine AWP.block ?_
    refine AWP.loop (X := Nat) (fun x => [(1, .pointer (some ⟨b1, 0, none⟩)), (26, .slice (some ⟨q, 0, none⟩) ks.length ks.length), (27, .int .i64 ks.length), (28, .int .i64 x)]) (fun x => (S.set b1 ⟨25, [.slice pa gs.length ca, .slice (some ⟨bt, offt, none⟩) tr.length ct], 2⟩).set q ⟨3, (treeOf ks).map (fun x => Value.int .i64 x), ks.length⟩) (fun x => x ≤ ks.length ∧ ∀ i (h : i < (treeOf ks).length) (h' : i < tr.length), i < x → (treeOf ks)[i] = tr[i]) (fun x => ks.length - x) (0) ⟨rfl, rfl, rfl, rfl, trivial⟩ (Mem.Less.refl _) (⟨Nat.zero_le _, fun _ _ _ h => absurd h (Nat.not_lt_zero _)⟩) ?_
    rintro i ⟨hi, hq2⟩
    (try dsimp only at *)
    refine AWP.seq ?_
    refine AWP.region ?_
    refine rC (Calm.bin rfl rfl b_lss) ?_
    refine arun_nil ?_
    refine athen_n ?_
    refine AWP.seq ?_
    refine AWP.condB rfl (fun hil => ?_) (fun hil => ?_)
    · have hil : i < ks.length := by have := of_decide_eq_true hil; omega
      have k1 := kn_int (S := (S.set b1 ⟨25, [.slice pa gs.length ca, .slice (some ⟨bt, offt, none⟩) tr.length ct], 2⟩).set q ⟨3, (treeOf ks).map (fun x => Value.int .i64 x), ks.length⟩) (b := q) own_ i (List.getElem?_eq_getElem (by omega : i < (treeOf ks).length))
      have k2 := htk i (by omega)
      unfold i64s at k2
      by_cases e : (treeOf ks)[i]'(by omega) = tr[i]'(by omega)
      · refine AWP.skip ?_
        refine athen_n ?_
        refine AWP.seq ?_
        refine AWP.block ?_
        refine AWP.seq ?_
        refine AWP.region ?_
        refine rC (Calm.move rfl) ?_
        refine rC (Calm.indexS Try.underlying23 ty_size_3 rfl rfl (by omega) (by omega)) ?_
        refine rC (ld_ ty_plain_3 rfl) ?_
        refine rC (Calm.assign rfl) ?_
        refine rC (Calm.assign rfl) ?_
        refine arun_nil ?_
        refine athen_n ?_
        refine AWP.sub [(1, _), (26, _), (27, _), (28, _), (29, _), (3, _), (4, _)] ⟨rfl, rfl, rfl, rfl, rfl, rfl, rfl, trivial⟩ ?_
        refine AWP.seq ?_
        refine AWP.region ?_
        refine rC (Calm.fieldAddr ty_field_25_1 rfl) ?_
        refine rC (ld_ ty_plain_23 rfl) ?_
        refine rC (Calm.move rfl) ?_
        refine rC (Calm.indexS Try.underlying23 ty_size_3 rfl rfl (by omega) (by omega)) ?_
        refine rC (ld_ ty_plain_3 rfl) ?_
        refine rC (Calm.move rfl) ?_
        refine rC (Calm.bin rfl rfl b_neq) ?_
        refine arun_nil ?_
        refine athen_n ?_
        refine AWP.sub [(1, _), (26, _), (27, _), (28, _), (29, _), (3, _), (4, _), (39, _)] ⟨rfl, rfl, rfl, rfl, rfl, rfl, rfl, rfl, trivial⟩ ?_
        refine AWP.condF rfl (by first | rfl | (simp; done) | (simp; omega)) ?_
        refine AWP.skip ?_
        refine ain_n ?_
        refine athen_n ?_
        refine AWP.region ?_
        refine rC (Calm.bin rfl rfl b_add_i64) ?_
        refine rC (Calm.move rfl) ?_
        refine arun_nil ?_
        refine athen_n ?_
        refine ⟨i + 1, ?_, ?_, ?_, ?_⟩
        all_goals (try dsimp only)
        · exact ⟨rfl, rfl, rfl, rfl, trivial⟩
        · exact Mem.Less.refl _
        · exact ⟨hil, fun j h h' hj => by rcases Nat.lt_or_ge j i with hji | hji; exact hq2 j h h' hji; obtain rfl : j = i := (by omega); exact e⟩
        · omega
      · refine AWP.skip ?_
        refine athen_n ?_
        refine AWP.seq ?_
        refine AWP.block ?_
        refine AWP.seq ?_
        refine AWP.region ?_
        refine rC (Calm.move rfl) ?_
        refine rC (Calm.indexS Try.underlying23 ty_size_3 rfl rfl (by omega) (by omega)) ?_
        refine rC (ld_ ty_plain_3 rfl) ?_
        refine rC (Calm.assign rfl) ?_
        refine rC (Calm.assign rfl) ?_
        refine arun_nil ?_
        refine athen_n ?_
        refine AWP.sub [(1, _), (26, _), (27, _), (28, _), (29, _), (3, _), (4, _)] ⟨rfl, rfl, rfl, rfl, rfl, rfl, rfl, trivial⟩ ?_
        refine AWP.seq ?_
        refine AWP.region ?_
        refine rC (Calm.fieldAddr ty_field_25_1 rfl) ?_
        refine rC (ld_ ty_plain_23 rfl) ?_
        refine rC (Calm.move rfl) ?_
        refine rC (Calm.indexS Try.underlying23 ty_size_3 rfl rfl (by omega) (by omega)) ?_
        refine rC (ld_ ty_plain_3 rfl) ?_
        refine rC (Calm.move rfl) ?_
        refine rC (Calm.bin rfl rfl b_neq) ?_
        refine arun_nil ?_
        refine athen_n ?_
        refine AWP.sub [(1, _), (26, _), (27, _), (28, _), (29, _), (3, _), (4, _), (39, _)] ⟨rfl, rfl, rfl, rfl, rfl, rfl, rfl, rfl, trivial⟩ ?_
        refine AWP.condT rfl (by first | rfl | (simp; done) | (simp; omega)) ?_
        refine AWP.seq ?_
        refine AWP.region ?_
        refine rC (Calm.assign rfl) ?_
        refine arun_nil ?_
        refine athen_n ?_
        refine AWP.ret ?_
        refine ain_ret ?_
        refine athen_ret ?_
        refine athen_ret ?_
        refine ain_ret ?_
        refine athen_ret ?_
        refine ⟨_, S, ⟨_, _, rfl, rfl, rfl⟩, less_, ?_⟩
        exact ⟨by rw [hcd i hil e]; rfl, rfl⟩
    · have hil : i = ks.length := by have := of_decide_eq_false hil; omega
      refine AWP.exit ?_
      refine athen_exit ?_
      refine athen_exit ?_
      refine ain_same ?_
      refine athen_n ?_
      refine AWP.seq ?_
      refine AWP.region ?_
      refine rC (Calm.assign rfl) ?_
      refine arun_nil ?_
      refine athen_n ?_
      refine AWP.ret ?_
      refine ⟨_, S, ⟨_, _, rfl, rfl, rfl⟩, less_, ?_⟩
      exact ⟨by rw [hce (fun j h h' => hq2 j h h' (by omega))]; rfl, rfl⟩
  · rw [chk_two (by rintro ⟨_, _, e⟩; rw [e, treeOf_length] at c3; omega)]
    refine ACall.enter (args := [.agg #[.slice pa gs.length ca, .slice pt tr.length ct]]) (rs := [.tmp 2]) 41 [(0, .agg #[.slice pa gs.length ca, .slice pt tr.length ct])] Try.func27 rfl rfl (Nat.le_of_ble_eq_true rfl) rfl ⟨rfl, trivial⟩ ?_
    refine AWP.seq ?_
    refine AWP.region ?_
    refine ARun.boxA (cs := [_, _]) (lit_lt rfl) rfl ?_
    intro b1 f1
    have g1 := f1
    repeat ((with_reducible replace g1 := fresh_set g1); obtain ⟨g1, _⟩ := g1)
    (try simp only [List.length_cons, List.length_nil, Nat.zero_add, Nat.reduceAdd])
    refine rC (Calm.assign rfl) ?_
    refine arun_nil ?_
    refine athen_n ?_
    refine AWP.seq ?_
    refine AWP.seq ?_
    refine AWP.region ?_
    refine rC (Calm.fieldAddr ty_field_25_0 rfl) ?_
    refine rC (ld_ ty_plain_22 rfl) ?_
    refine rC (Calm.lenSl Try.underlying22 rfl) ?_
    refine rC (Calm.bin rfl rfl b_lss) ?_
    refine rC (Calm.move rfl) ?_
    first | refine rS 9 ?_ | refine rU 9 ?_ | refine rG 9 (Calm.fieldAddr ty_field_25_0 rfl) ?_
    first | refine rS 9 ?_ | refine rU 9 ?_ | refine rG 9 (ld_ ty_plain_22 rfl) ?_
    first | refine rS 9 ?_ | refine rU 9 ?_ | refine rG 9 (Calm.lenSl Try.underlying22 rfl) ?_
    first | refine rS 9 ?_ | refine rU 9 ?_ | refine rG 9 (Calm.bin rfl rfl b_gtr) ?_
    refine rC ((by first | exact Calm.pickT rfl rfl | exact Calm.pickF rfl rfl)) ?_
    refine rC (Calm.move rfl) ?_
    first | refine rS 15 ?_ | refine rU 15 ?_ | refine rG 15 (Calm.fieldAddr ty_field_25_1 rfl) ?_
    first | refine rS 15 ?_ | refine rU 15 ?_ | refine rG 15 (ld_ ty_plain_23 rfl) ?_
    first | refine rS 15 ?_ | refine rU 15 ?_ | refine rG 15 (Calm.lenSl Try.underlying23 rfl) ?_
    first | refine rS 15 ?_ | refine rU 15 ?_ | refine rG 15 (Calm.fieldAddr ty_field_25_0 rfl) ?_
    first | refine rS 15 ?_ | refine rU 15 ?_ | refine rG 15 (ld_ ty_plain_22 rfl) ?_
    first | refine rS 15 ?_ | refine rU 15 ?_ | refine rG 15 (Calm.lenSl Try.underlying22 rfl) ?_
    first | refine rS 15 ?_ | refine rU 15 ?_ | refine rG 15 (Calm.bin rfl rfl b_neq) ?_
    refine rC ((by first | exact Calm.pickT rfl rfl | exact Calm.pickF rfl rfl)) ?_
    refine arun_nil ?_
    refine athen_n ?_
    refine AWP.sub [(0, _), (1, _), (2, _), (23, _)] ⟨rfl, rfl, rfl, rfl, trivial⟩ ?_
    refine AWP.condT rfl (by first | rfl | (simp; done) | (simp; omega)) ?_
    refine AWP.seq ?_
    refine AWP.region ?_
    refine rC (Calm.assign rfl) ?_
    refine arun_nil ?_
    refine athen_n ?_
    refine AWP.ret ?_
    refine athen_ret ?_
    refine ⟨_, S, ⟨_, _, rfl, rfl, rfl⟩, less_, ?_⟩
    exact ⟨rfl, rfl⟩
end Go.Proofs.Ytddabbfjoejalaa
