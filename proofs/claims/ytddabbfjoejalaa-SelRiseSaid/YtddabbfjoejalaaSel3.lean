/-
  Sel: rows are right or not; rows are made of bits.
-/
import Derived.Test.YtddabbfjoejalaaSel2
import Derived.Test.YtddabbfjoejalaaVLos6
namespace Go.Proofs.Ytddabbfjoejalaa
open Go.RowKit
open Mv Bits Sel
set_option linter.unusedVariables false
set_option linter.unusedSimpArgs false
set_option maxRecDepth 20000
namespace Sel
noncomputable def chkR (s : ByteArray) (N : Int) (cs : List Int) : Int := if chk s.data.toList N = 0 ∧ cs = rows s.data.toList N.toNat then 0 else 2
theorem chkR_or (s : ByteArray) (N : Int) (cs : List Int) : (chkR s N cs = 0 ∧ chk s.data.toList N = 0 ∧ cs = rows s.data.toList N.toNat) ∨ chkR s N cs = 2 := by
  unfold chkR
  by_cases h : chk s.data.toList N = 0 ∧ cs = rows s.data.toList N.toNat
  · left; exact ⟨if_pos h, h⟩
  · right; exact if_neg h
end Sel
theorem chk_nat {s : ByteArray} {N : Int} (h : chk s.data.toList N = 0) : ∃ n : Nat, N = n ∧ n ≤ 1048576 ∧ n ≤ 8 * s.size ∧ s.size = (n + 7) / 8 := by
  obtain ⟨hN0, hN1, hR⟩ := chk_right h
  have hs1 : s.size = (N.toNat + 7) / 8 := by rw [← hR.1]; exact size_list s
  exact ⟨N.toNat, by omega, by omega, by omega, hs1⟩
set_option maxHeartbeats 1000000 in
theorem selV_Check (s : ByteArray) (N : Int) (hc : Value) (cs : List Int) (S : Mem) (hs : s.size ≤ 281474976710656) (hv : Sl 1 i64s S hc cs) :
    ACall Try.prog 35 #[.agg #[.string s, .int .i64 N, hc]] S fun r S' => r = .int .i64 (chkR s N cs) ∧ S' = S := by
  obtain ⟨pc, cc, rfl, _⟩ := id hv
  unfold chkR
  by_cases hck : chk s.data.toList N = 0
  · obtain ⟨n, rfl, hn1, hn2, _⟩ := chk_nat hck
    have hrl := rows_length s.data.toList n
    rw [Int.toNat_natCast]
    refine ACall.enter (args := [.agg #[.string s, .int .i64 (n : Int), .slice pc cs.length cc]]) (rs := [.tmp 2]) 16 [(0, .agg #[.string s, .int .i64 (n : Int), .slice pc cs.length cc])] Try.func35 rfl rfl (Nat.le_of_ble_eq_true rfl) rfl ⟨rfl, trivial⟩ ?_
    refine AWP.seq ?_
    refine AWP.region ?_
    refine ARun.boxA (cs := [_, _, _]) (lit_lt rfl) rfl ?_
    intro b1 f1
    have g1 := f1
    repeat ((with_reducible replace g1 := fresh_set g1); obtain ⟨g1, _⟩ := g1)
    (try simp only [List.length_cons, List.length_nil, Nat.zero_add, Nat.reduceAdd])
    refine rC (Calm.assign rfl) ?_
    refine arun_nil ?_
    refine athen_n ?_
    refine AWP.seq ?_
    refine AWP.seq ?_
    refine AWP.draw [(0, true), (1, true), (2, false), (3, true), (4, true), (5, true), (6, true), (7, true), (8, true), (9, false), (10, false), (11, true), (12, true)] [] mixed (by kernel_rfl) ?_
    refine draw_pure rfl rfl rfl rfl (lit_lt rfl) (fun _ => Calm.fieldAddr ty_field_49_0 rfl) ?_
    refine draw_calm rfl rfl rfl (lit_lt rfl) less_ (fun S' hS' => by obtain rfl := hS'.resolve_left (by decide); exact ldA_ (cs := [_, _]) ty_agg_47 ty_size_47 rfl) ?_
    refine draw_only rfl ?_
    refine ARun.call (lit_lt rfl) go_56 rfl (bitsV_Check s n _ (by omega)) ?_
    rintro _ S1 ⟨rfl, h1⟩
    rw [h1, hck]; clear h1 S1
    refine arun_nil ⟨fun _ => less_, ?_⟩
    refine draw_pure rfl rfl rfl rfl (lit_lt rfl) (fun _ => Calm.bin rfl rfl b_neq) ?_
    refine draw_pure rfl rfl rfl rfl (lit_lt rfl) (fun _ => Calm.move rfl) ?_
    first | refine draw_skipG 4 false _ 7 rfl rfl rfl (lit_lt rfl) rfl rfl rfl (lit_lt rfl) less_ ?_ | refine draw_skipU 4 false 7 rfl rfl rfl (lit_lt rfl) rfl rfl (lit_lt rfl) less_ ?_ | refine draw_calmG 4 false 7 rfl rfl rfl (lit_lt rfl) rfl rfl (lit_lt rfl) less_ (fun S' hS' => Calm.fieldAddr ty_field_49_1 rfl) ?_
    first | refine draw_skipG 4 false _ 7 rfl rfl rfl (lit_lt rfl) rfl rfl rfl (lit_lt rfl) less_ ?_ | refine draw_skipU 4 false 7 rfl rfl rfl (lit_lt rfl) rfl rfl (lit_lt rfl) less_ ?_ | refine draw_calmG 4 false 7 rfl rfl rfl (lit_lt rfl) rfl rfl (lit_lt rfl) less_ (fun S' hS' => by obtain rfl := hS'.resolve_left (by decide); exact ld_ ty_plain_23 rfl) ?_
    first | refine draw_skipG 4 false _ 7 rfl rfl rfl (lit_lt rfl) rfl rfl rfl (lit_lt rfl) less_ ?_ | refine draw_skipU 4 false 7 rfl rfl rfl (lit_lt rfl) rfl rfl (lit_lt rfl) less_ ?_ | refine draw_calmG 4 false 7 rfl rfl rfl (lit_lt rfl) rfl rfl (lit_lt rfl) less_ (fun S' hS' => Calm.fieldAddr ty_field_49_0 rfl) ?_
    first | refine draw_skipG 4 false _ 7 rfl rfl rfl (lit_lt rfl) rfl rfl rfl (lit_lt rfl) less_ ?_ | refine draw_skipU 4 false 7 rfl rfl rfl (lit_lt rfl) rfl rfl (lit_lt rfl) less_ ?_ | refine draw_calmG 4 false 7 rfl rfl rfl (lit_lt rfl) rfl rfl (lit_lt rfl) less_ (fun S' hS' => by obtain rfl := hS'.resolve_left (by decide); exact ldA_ (cs := [_, _]) ty_agg_47 ty_size_47 rfl) ?_
    refine draw_only rfl ?_
    refine ARun.callG 4 false 7 rfl (lit_lt rfl) rfl (lit_lt rfl) go_57 rfl (selV_counts s n _ hs hn1 hn2) ?_
    rintro _ S1 ⟨b, c, fb, hbc, rfl, h1⟩
    rw [h1]; clear h1 S1; unfold intB
    have gb := (fresh_set fb).1
    refine arun_nil ⟨fun _ => less_, ?_⟩
    refine draw_only rfl ?_
    refine ARun.callG 4 false 7 rfl (lit_lt rfl) rfl (lit_lt rfl) go_54 rfl (losV_EqualI cs (rows s.data.toList n) _ _ _ (hv.less less_) (sl_intB own_ rfl hbc (by omega))) ?_
    rintro _ S1 ⟨rfl, h1⟩
    rw [h1]; clear h1 S1
    refine arun_nil ⟨fun _ => less_, ?_⟩
    first | refine draw_skipG 4 false _ 7 rfl rfl rfl (lit_lt rfl) rfl rfl rfl (lit_lt rfl) less_ ?_ | refine draw_skipU 4 false 7 rfl rfl rfl (lit_lt rfl) rfl rfl (lit_lt rfl) less_ ?_ | refine draw_calmG 4 false 7 rfl rfl rfl (lit_lt rfl) rfl rfl (lit_lt rfl) less_ (fun S' hS' => Calm.un rfl (una_not _)) ?_
    refine draw_pure rfl rfl rfl rfl (lit_lt rfl) (fun _ => (by first | exact Calm.pickT rfl rfl | exact Calm.pickF rfl rfl)) ?_
    refine draw_nil ?_
    refine athen_n ?_
    refine AWP.sub [(0, _), (1, _), (2, _), (15, _)] ⟨rfl, rfl, rfl, rfl, trivial⟩ ?_
    by_cases e : cs = rows s.data.toList n
    · refine AWP.condF rfl ((by rw [decide_eq_true e]; rfl)) ?_
      refine AWP.skip ?_
      refine athen_n ?_
      refine AWP.seq ?_
      refine AWP.region ?_
      refine rC (Calm.assign rfl) ?_
      refine arun_nil ?_
      refine athen_n ?_
      refine AWP.ret ?_
      refine ⟨_, S, ⟨_, _, rfl, rfl, rfl⟩, less_, ?_⟩
      exact ⟨by rw [if_pos ⟨rfl, e⟩]; rfl, rfl⟩
    · refine AWP.condT rfl ((by rw [decide_eq_false e]; rfl)) ?_
      refine AWP.seq ?_
      refine AWP.region ?_
      refine rC (Calm.assign rfl) ?_
      refine arun_nil ?_
      refine athen_n ?_
      refine AWP.ret ?_
      refine athen_ret ?_
      refine ⟨_, S, ⟨_, _, rfl, rfl, rfl⟩, less_, ?_⟩
      exact ⟨by rw [if_neg (fun h => e h.2)]; rfl, rfl⟩
  · rw [if_neg (fun h => hck h.1)]
    have hck2 := chk_two hck
    refine ACall.enter (args := [.agg #[.string s, .int .i64 N, .slice pc cs.length cc]]) (rs := [.tmp 2]) 16 [(0, .agg #[.string s, .int .i64 N, .slice pc cs.length cc])] Try.func35 rfl rfl (Nat.le_of_ble_eq_true rfl) rfl ⟨rfl, trivial⟩ ?_
    refine AWP.seq ?_
    refine AWP.region ?_
    refine ARun.boxA (cs := [_, _, _]) (lit_lt rfl) rfl ?_
    intro b1 f1
    have g1 := f1
    repeat ((with_reducible replace g1 := fresh_set g1); obtain ⟨g1, _⟩ := g1)
    (try simp only [List.length_cons, List.length_nil, Nat.zero_add, Nat.reduceAdd])
    refine rC (Calm.assign rfl) ?_
    refine arun_nil ?_
    refine athen_n ?_
    refine AWP.seq ?_
    refine AWP.seq ?_
    refine AWP.draw [(0, true), (1, true), (2, false), (3, true), (4, true), (5, true), (6, true), (7, true), (8, true), (9, false), (10, false), (11, true), (12, true)] [] mixed (by kernel_rfl) ?_
    refine draw_pure rfl rfl rfl rfl (lit_lt rfl) (fun _ => Calm.fieldAddr ty_field_49_0 rfl) ?_
    refine draw_calm rfl rfl rfl (lit_lt rfl) less_ (fun S' hS' => by obtain rfl := hS'.resolve_left (by decide); exact ldA_ (cs := [_, _]) ty_agg_47 ty_size_47 rfl) ?_
    refine draw_only rfl ?_
    refine ARun.call (lit_lt rfl) go_56 rfl (bitsV_Check s N _ (by omega)) ?_
    rintro _ S1 ⟨rfl, h1⟩
    rw [h1, hck2]; clear h1 S1
    refine arun_nil ⟨fun _ => less_, ?_⟩
    refine draw_pure rfl rfl rfl rfl (lit_lt rfl) (fun _ => Calm.bin rfl rfl b_neq) ?_
    refine draw_pure rfl rfl rfl rfl (lit_lt rfl) (fun _ => Calm.move rfl) ?_
    first | refine draw_skipG 4 false _ 7 rfl rfl rfl (lit_lt rfl) rfl rfl rfl (lit_lt rfl) less_ ?_ | refine draw_skipU 4 false 7 rfl rfl rfl (lit_lt rfl) rfl rfl (lit_lt rfl) less_ ?_ | refine draw_calmG 4 false 7 rfl rfl rfl (lit_lt rfl) rfl rfl (lit_lt rfl) less_ (fun S' hS' => Calm.fieldAddr ty_field_49_1 rfl) ?_
    first | refine draw_skipG 4 false _ 7 rfl rfl rfl (lit_lt rfl) rfl rfl rfl (lit_lt rfl) less_ ?_ | refine draw_skipU 4 false 7 rfl rfl rfl (lit_lt rfl) rfl rfl (lit_lt rfl) less_ ?_ | refine draw_calmG 4 false 7 rfl rfl rfl (lit_lt rfl) rfl rfl (lit_lt rfl) less_ (fun S' hS' => by obtain rfl := hS'.resolve_left (by decide); exact ld_ ty_plain_23 rfl) ?_
    first | refine draw_skipG 4 false _ 7 rfl rfl rfl (lit_lt rfl) rfl rfl rfl (lit_lt rfl) less_ ?_ | refine draw_skipU 4 false 7 rfl rfl rfl (lit_lt rfl) rfl rfl (lit_lt rfl) less_ ?_ | refine draw_calmG 4 false 7 rfl rfl rfl (lit_lt rfl) rfl rfl (lit_lt rfl) less_ (fun S' hS' => Calm.fieldAddr ty_field_49_0 rfl) ?_
    first | refine draw_skipG 4 false _ 7 rfl rfl rfl (lit_lt rfl) rfl rfl rfl (lit_lt rfl) less_ ?_ | refine draw_skipU 4 false 7 rfl rfl rfl (lit_lt rfl) rfl rfl (lit_lt rfl) less_ ?_ | refine draw_calmG 4 false 7 rfl rfl rfl (lit_lt rfl) rfl rfl (lit_lt rfl) less_ (fun S' hS' => by obtain rfl := hS'.resolve_left (by decide); exact ldA_ (cs := [_, _]) ty_agg_47 ty_size_47 rfl) ?_
    refine draw_only rfl ?_
    first | refine rS 7 ?_ | refine rU 7 ?_
    refine arun_nil ⟨fun _ => less_, ?_⟩
    refine draw_only rfl ?_
    first | refine rS 7 ?_ | refine rU 7 ?_
    refine arun_nil ⟨fun _ => less_, ?_⟩
    first | refine draw_skipG 4 false _ 7 rfl rfl rfl (lit_lt rfl) rfl rfl rfl (lit_lt rfl) less_ ?_ | refine draw_skipU 4 false 7 rfl rfl rfl (lit_lt rfl) rfl rfl (lit_lt rfl) less_ ?_ | refine draw_calmG 4 false 7 rfl rfl rfl (lit_lt rfl) rfl rfl (lit_lt rfl) less_ (fun S' hS' => Calm.un rfl (una_not _)) ?_
    refine draw_pure rfl rfl rfl rfl (lit_lt rfl) (fun _ => (by first | exact Calm.pickT rfl rfl | exact Calm.pickF rfl rfl)) ?_
    refine draw_nil ?_
    refine athen_n ?_
    refine AWP.sub [(0, _), (1, _), (2, _), (15, _)] ⟨rfl, rfl, rfl, rfl, trivial⟩ ?_
    refine AWP.condT rfl (by first | rfl | (simp; done) | (simp; omega)) ?_
    refine AWP.seq ?_
    refine AWP.region ?_
    refine rC (Calm.assign rfl) ?_
    refine arun_nil ?_
    refine athen_n ?_
    refine AWP.ret ?_
    refine athen_ret ?_
    refine ⟨_, S, ⟨_, _, rfl, rfl, rfl⟩, less_, ?_⟩
    exact ⟨rfl, rfl⟩
set_option maxHeartbeats 1000000 in
theorem rselV_Check (s : ByteArray) (N : Int) (hc : Value) (cs : List Int) (S : Mem) (hs : s.size ≤ 281474976710656) (hv : Sl 1 i64s S hc cs) :
    ACall Try.prog 36 #[.agg #[.string s, .int .i64 N, hc]] S fun r S' => r = .int .i64 (chkR s N cs) ∧ S' = S := by
  obtain ⟨pc, cc, rfl, _⟩ := id hv
  unfold chkR
  by_cases hck : chk s.data.toList N = 0
  · obtain ⟨n, rfl, hn1, hn2, _⟩ := chk_nat hck
    have hrl := rows_length s.data.toList n
    rw [Int.toNat_natCast]
    refine ACall.enter (args := [.agg #[.string s, .int .i64 (n : Int), .slice pc cs.length cc]]) (rs := [.tmp 2]) 16 [(0, .agg #[.string s, .int .i64 (n : Int), .slice pc cs.length cc])] Try.func36 rfl rfl (Nat.le_of_ble_eq_true rfl) rfl ⟨rfl, trivial⟩ ?_
    refine AWP.seq ?_
    refine AWP.region ?_
    refine ARun.boxA (cs := [_, _, _]) (lit_lt rfl) rfl ?_
    intro b1 f1
    have g1 := f1
    repeat ((with_reducible replace g1 := fresh_set g1); obtain ⟨g1, _⟩ := g1)
    (try simp only [List.length_cons, List.length_nil, Nat.zero_add, Nat.reduceAdd])
    refine rC (Calm.assign rfl) ?_
    refine arun_nil ?_
    refine athen_n ?_
    refine AWP.seq ?_
    refine AWP.seq ?_
    refine AWP.draw [(0, true), (1, true), (2, false), (3, true), (4, true), (5, true), (6, true), (7, true), (8, true), (9, false), (10, false), (11, true), (12, true)] [] mixed (by kernel_rfl) ?_
    refine draw_pure rfl rfl rfl rfl (lit_lt rfl) (fun _ => Calm.fieldAddr ty_field_49_0 rfl) ?_
    refine draw_calm rfl rfl rfl (lit_lt rfl) less_ (fun S' hS' => by obtain rfl := hS'.resolve_left (by decide); exact ldA_ (cs := [_, _]) ty_agg_47 ty_size_47 rfl) ?_
    refine draw_only rfl ?_
    refine ARun.call (lit_lt rfl) go_58 rfl (refV_Check s n _ (by omega)) ?_
    rintro _ S1 ⟨rfl, h1⟩
    rw [h1, hck]; clear h1 S1
    refine arun_nil ⟨fun _ => less_, ?_⟩
    refine draw_pure rfl rfl rfl rfl (lit_lt rfl) (fun _ => Calm.bin rfl rfl b_neq) ?_
    refine draw_pure rfl rfl rfl rfl (lit_lt rfl) (fun _ => Calm.move rfl) ?_
    first | refine draw_skipG 4 false _ 7 rfl rfl rfl (lit_lt rfl) rfl rfl rfl (lit_lt rfl) less_ ?_ | refine draw_skipU 4 false 7 rfl rfl rfl (lit_lt rfl) rfl rfl (lit_lt rfl) less_ ?_ | refine draw_calmG 4 false 7 rfl rfl rfl (lit_lt rfl) rfl rfl (lit_lt rfl) less_ (fun S' hS' => Calm.fieldAddr ty_field_49_1 rfl) ?_
    first | refine draw_skipG 4 false _ 7 rfl rfl rfl (lit_lt rfl) rfl rfl rfl (lit_lt rfl) less_ ?_ | refine draw_skipU 4 false 7 rfl rfl rfl (lit_lt rfl) rfl rfl (lit_lt rfl) less_ ?_ | refine draw_calmG 4 false 7 rfl rfl rfl (lit_lt rfl) rfl rfl (lit_lt rfl) less_ (fun S' hS' => by obtain rfl := hS'.resolve_left (by decide); exact ld_ ty_plain_23 rfl) ?_
    first | refine draw_skipG 4 false _ 7 rfl rfl rfl (lit_lt rfl) rfl rfl rfl (lit_lt rfl) less_ ?_ | refine draw_skipU 4 false 7 rfl rfl rfl (lit_lt rfl) rfl rfl (lit_lt rfl) less_ ?_ | refine draw_calmG 4 false 7 rfl rfl rfl (lit_lt rfl) rfl rfl (lit_lt rfl) less_ (fun S' hS' => Calm.fieldAddr ty_field_49_0 rfl) ?_
    first | refine draw_skipG 4 false _ 7 rfl rfl rfl (lit_lt rfl) rfl rfl rfl (lit_lt rfl) less_ ?_ | refine draw_skipU 4 false 7 rfl rfl rfl (lit_lt rfl) rfl rfl (lit_lt rfl) less_ ?_ | refine draw_calmG 4 false 7 rfl rfl rfl (lit_lt rfl) rfl rfl (lit_lt rfl) less_ (fun S' hS' => by obtain rfl := hS'.resolve_left (by decide); exact ldA_ (cs := [_, _]) ty_agg_47 ty_size_47 rfl) ?_
    refine draw_only rfl ?_
    refine ARun.callG 4 false 7 rfl (lit_lt rfl) rfl (lit_lt rfl) go_59 rfl (rselV_counts s n _ hs hn1 hn2) ?_
    rintro _ S1 ⟨b, c, fb, hbc, rfl, h1⟩
    rw [h1]; clear h1 S1; unfold intB
    have gb := (fresh_set fb).1
    refine arun_nil ⟨fun _ => less_, ?_⟩
    refine draw_only rfl ?_
    refine ARun.callG 4 false 7 rfl (lit_lt rfl) rfl (lit_lt rfl) go_25 rfl (rlosV_SameNumbers cs (rows s.data.toList n) _ _ _ (hv.less less_) (sl_intB own_ rfl hbc (by omega))) ?_
    rintro _ S1 ⟨rfl, h1⟩
    rw [h1]; clear h1 S1
    refine arun_nil ⟨fun _ => less_, ?_⟩
    first | refine draw_skipG 4 false _ 7 rfl rfl rfl (lit_lt rfl) rfl rfl rfl (lit_lt rfl) less_ ?_ | refine draw_skipU 4 false 7 rfl rfl rfl (lit_lt rfl) rfl rfl (lit_lt rfl) less_ ?_ | refine draw_calmG 4 false 7 rfl rfl rfl (lit_lt rfl) rfl rfl (lit_lt rfl) less_ (fun S' hS' => Calm.un rfl (una_not _)) ?_
    refine draw_pure rfl rfl rfl rfl (lit_lt rfl) (fun _ => (by first | exact Calm.pickT rfl rfl | exact Calm.pickF rfl rfl)) ?_
    refine draw_nil ?_
    refine athen_n ?_
    refine AWP.sub [(0, _), (1, _), (2, _), (15, _)] ⟨rfl, rfl, rfl, rfl, trivial⟩ ?_
    by_cases e : cs = rows s.data.toList n
    · refine AWP.condF rfl ((by rw [decide_eq_true e]; rfl)) ?_
      refine AWP.skip ?_
      refine athen_n ?_
      refine AWP.seq ?_
      refine AWP.region ?_
      refine rC (Calm.assign rfl) ?_
      refine arun_nil ?_
      refine athen_n ?_
      refine AWP.ret ?_
      refine ⟨_, S, ⟨_, _, rfl, rfl, rfl⟩, less_, ?_⟩
      exact ⟨by rw [if_pos ⟨rfl, e⟩]; rfl, rfl⟩
    · refine AWP.condT rfl ((by rw [decide_eq_false e]; rfl)) ?_
      refine AWP.seq ?_
      refine AWP.region ?_
      refine rC (Calm.assign rfl) ?_
      refine arun_nil ?_
      refine athen_n ?_
      refine AWP.ret ?_
      refine athen_ret ?_
      refine ⟨_, S, ⟨_, _, rfl, rfl, rfl⟩, less_, ?_⟩
      exact ⟨by rw [if_neg (fun h => e h.2)]; rfl, rfl⟩
  · rw [if_neg (fun h => hck h.1)]
    have hck2 := chk_two hck
    refine ACall.enter (args := [.agg #[.string s, .int .i64 N, .slice pc cs.length cc]]) (rs := [.tmp 2]) 16 [(0, .agg #[.string s, .int .i64 N, .slice pc cs.length cc])] Try.func36 rfl rfl (Nat.le_of_ble_eq_true rfl) rfl ⟨rfl, trivial⟩ ?_
    refine AWP.seq ?_
    refine AWP.region ?_
    refine ARun.boxA (cs := [_, _, _]) (lit_lt rfl) rfl ?_
    intro b1 f1
    have g1 := f1
    repeat ((with_reducible replace g1 := fresh_set g1); obtain ⟨g1, _⟩ := g1)
    (try simp only [List.length_cons, List.length_nil, Nat.zero_add, Nat.reduceAdd])
    refine rC (Calm.assign rfl) ?_
    refine arun_nil ?_
    refine athen_n ?_
    refine AWP.seq ?_
    refine AWP.seq ?_
    refine AWP.draw [(0, true), (1, true), (2, false), (3, true), (4, true), (5, true), (6, true), (7, true), (8, true), (9, false), (10, false), (11, true), (12, true)] [] mixed (by kernel_rfl) ?_
    refine draw_pure rfl rfl rfl rfl (lit_lt rfl) (fun _ => Calm.fieldAddr ty_field_49_0 rfl) ?_
    refine draw_calm rfl rfl rfl (lit_lt rfl) less_ (fun S' hS' => by obtain rfl := hS'.resolve_left (by decide); exact ldA_ (cs := [_, _]) ty_agg_47 ty_size_47 rfl) ?_
    refine draw_only rfl ?_
    refine ARun.call (lit_lt rfl) go_58 rfl (refV_Check s N _ (by omega)) ?_
    rintro _ S1 ⟨rfl, h1⟩
    rw [h1, hck2]; clear h1 S1
    refine arun_nil ⟨fun _ => less_, ?_⟩
    refine draw_pure rfl rfl rfl rfl (lit_lt rfl) (fun _ => Calm.bin rfl rfl b_neq) ?_
    refine draw_pure rfl rfl rfl rfl (lit_lt rfl) (fun _ => Calm.move rfl) ?_
    first | refine draw_skipG 4 false _ 7 rfl rfl rfl (lit_lt rfl) rfl rfl rfl (lit_lt rfl) less_ ?_ | refine draw_skipU 4 false 7 rfl rfl rfl (lit_lt rfl) rfl rfl (lit_lt rfl) less_ ?_ | refine draw_calmG 4 false 7 rfl rfl rfl (lit_lt rfl) rfl rfl (lit_lt rfl) less_ (fun S' hS' => Calm.fieldAddr ty_field_49_1 rfl) ?_
    first | refine draw_skipG 4 false _ 7 rfl rfl rfl (lit_lt rfl) rfl rfl rfl (lit_lt rfl) less_ ?_ | refine draw_skipU 4 false 7 rfl rfl rfl (lit_lt rfl) rfl rfl (lit_lt rfl) less_ ?_ | refine draw_calmG 4 false 7 rfl rfl rfl (lit_lt rfl) rfl rfl (lit_lt rfl) less_ (fun S' hS' => by obtain rfl := hS'.resolve_left (by decide); exact ld_ ty_plain_23 rfl) ?_
    first | refine draw_skipG 4 false _ 7 rfl rfl rfl (lit_lt rfl) rfl rfl rfl (lit_lt rfl) less_ ?_ | refine draw_skipU 4 false 7 rfl rfl rfl (lit_lt rfl) rfl rfl (lit_lt rfl) less_ ?_ | refine draw_calmG 4 false 7 rfl rfl rfl (lit_lt rfl) rfl rfl (lit_lt rfl) less_ (fun S' hS' => Calm.fieldAddr ty_field_49_0 rfl) ?_
    first | refine draw_skipG 4 false _ 7 rfl rfl rfl (lit_lt rfl) rfl rfl rfl (lit_lt rfl) less_ ?_ | refine draw_skipU 4 false 7 rfl rfl rfl (lit_lt rfl) rfl rfl (lit_lt rfl) less_ ?_ | refine draw_calmG 4 false 7 rfl rfl rfl (lit_lt rfl) rfl rfl (lit_lt rfl) less_ (fun S' hS' => by obtain rfl := hS'.resolve_left (by decide); exact ldA_ (cs := [_, _]) ty_agg_47 ty_size_47 rfl) ?_
    refine draw_only rfl ?_
    first | refine rS 7 ?_ | refine rU 7 ?_
    refine arun_nil ⟨fun _ => less_, ?_⟩
    refine draw_only rfl ?_
    first | refine rS 7 ?_ | refine rU 7 ?_
    refine arun_nil ⟨fun _ => less_, ?_⟩
    first | refine draw_skipG 4 false _ 7 rfl rfl rfl (lit_lt rfl) rfl rfl rfl (lit_lt rfl) less_ ?_ | refine draw_skipU 4 false 7 rfl rfl rfl (lit_lt rfl) rfl rfl (lit_lt rfl) less_ ?_ | refine draw_calmG 4 false 7 rfl rfl rfl (lit_lt rfl) rfl rfl (lit_lt rfl) less_ (fun S' hS' => Calm.un rfl (una_not _)) ?_
    refine draw_pure rfl rfl rfl rfl (lit_lt rfl) (fun _ => (by first | exact Calm.pickT rfl rfl | exact Calm.pickF rfl rfl)) ?_
    refine draw_nil ?_
    refine athen_n ?_
    refine AWP.sub [(0, _), (1, _), (2, _), (15, _)] ⟨rfl, rfl, rfl, rfl, trivial⟩ ?_
    refine AWP.condT rfl (by first | rfl | (simp; done) | (simp; omega)) ?_
    refine AWP.seq ?_
    refine AWP.region ?_
    refine rC (Calm.assign rfl) ?_
    refine arun_nil ?_
    refine athen_n ?_
    refine AWP.ret ?_
    refine athen_ret ?_
    refine ⟨_, S, ⟨_, _, rfl, rfl, rfl⟩, less_, ?_⟩
    exact ⟨rfl, rfl⟩
namespace Sel
noncomputable def makeR (s : ByteArray) (N : Int) : ByteArray × Int × List Int × Int := if chk s.data.toList N = 0 then (s, N, rows s.data.toList N.toNat, 0) else (ByteArray.empty, 0, [], 2)
end Sel
/-- Rows that are made, and an error. -/
def RwR (p : ByteArray × Int × List Int × Int) (S : Mem) (r : Value) (S' : Mem) : Prop := ∃ hc, r = .tuple #[.agg #[.string p.1, .int .i64 p.2.1, hc], .int .i64 p.2.2.2] ∧ S.Less S' ∧ Sl 1 i64s S' hc p.2.2.1
set_option maxHeartbeats 1000000 in
theorem selV_Make (s : ByteArray) (N : Int) (S : Mem) (hs : s.size ≤ 281474976710656) :
    ACall Try.prog 30 #[.agg #[.string s, .int .i64 N]] S (RwR (makeR s N) S) := by
  unfold makeR
  by_cases hck : chk s.data.toList N = 0
  · obtain ⟨n, rfl, hn1, hn2, _⟩ := chk_nat hck
    have hrl := rows_length s.data.toList n
    rw [if_pos hck, Int.toNat_natCast]
    refine ACall.enter (args := [.agg #[.string s, .int .i64 (n : Int)]]) (rs := [.cell 2 49, .tmp 3]) 15 [(0, .agg #[.string s, .int .i64 (n : Int)])] Try.func30 rfl rfl (Nat.le_of_ble_eq_true rfl) rfl ⟨rfl, trivial⟩ ?_
    refine AWP.seq ?_
    refine AWP.region ?_
    refine ARun.boxA (cs := [_, _]) (lit_lt rfl) rfl ?_
    intro b1 f1
    have g1 := f1
    repeat ((with_reducible replace g1 := fresh_set g1); obtain ⟨g1, _⟩ := g1)
    (try simp only [List.length_cons, List.length_nil, Nat.zero_add, Nat.reduceAdd])
    refine ARun.alloc (lit_lt rfl) ty_zero_49 ?_
    intro b2 f2
    have g2 := f2
    repeat ((with_reducible replace g2 := fresh_set g2); obtain ⟨g2, _⟩ := g2)
    (try simp only [List.length_cons, List.length_nil, Nat.zero_add, Nat.reduceAdd])
    refine rC (Calm.assign rfl) ?_
    refine arun_nil ?_
    refine athen_n ?_
    refine AWP.seq ?_
    refine AWP.seq ?_
    refine AWP.region ?_
    refine rC (ldA_ (cs := [_, _]) ty_agg_47 ty_size_47 rfl) ?_
    refine ARun.call (lit_lt rfl) go_56 rfl (bitsV_Check s n _ (by omega)) ?_
    rintro _ S1 ⟨rfl, h1⟩
    rw [h1, hck]; clear h1 S1
    refine rC (Calm.assign rfl) ?_
    refine arun_nil ?_
    refine athen_n ?_
    refine AWP.sub [(0, _), (1, _), (2, _), (3, _), (4, _)] ⟨rfl, rfl, rfl, rfl, rfl, trivial⟩ ?_
    refine AWP.seq ?_
    refine AWP.region ?_
    refine rC (Calm.move rfl) ?_
    refine rC (Calm.bin rfl rfl b_neq) ?_
    refine arun_nil ?_
    refine athen_n ?_
    refine AWP.sub [(0, _), (1, _), (2, _), (3, _), (4, _), (8, _)] ⟨rfl, rfl, rfl, rfl, rfl, rfl, trivial⟩ ?_
    refine AWP.condF rfl (by first | rfl | (simp; done) | (simp; omega)) ?_
    refine AWP.skip ?_
    refine athen_n ?_
    refine AWP.seq ?_
    refine AWP.draw [(0, true), (1, true), (2, false), (3, true), (4, false), (5, true)] [4] mixed (by kernel_rfl) ?_
    refine draw_calm rfl rfl rfl (lit_lt rfl) less_ (fun S' hS' => by obtain rfl := hS'.resolve_left (by decide); exact ldA_ (cs := [_, _]) ty_agg_47 ty_size_47 rfl) ?_
    refine draw_calm rfl rfl rfl (lit_lt rfl) less_ (fun S' hS' => by obtain rfl := hS'.resolve_left (by decide); exact ldA_ (cs := [_, _]) ty_agg_47 ty_size_47 rfl) ?_
    refine draw_only rfl ?_
    refine ARun.call (lit_lt rfl) go_57 rfl (selV_counts s n _ hs hn1 hn2) ?_
    rintro _ S1 ⟨b, c, fb, hbc, rfl, h1⟩
    rw [h1]; clear h1 S1; unfold intB
    obtain ⟨fb2, nb2⟩ := fresh_set fb; obtain ⟨fb1, nb1⟩ := fresh_set fb2; have nb2' := Ne.symm nb2; have nb1' := Ne.symm nb1
    refine arun_nil ⟨fun _ => less_, ?_⟩
    refine draw_pure rfl rfl rfl rfl (lit_lt rfl) (fun _ => Calm.build (cs := [_, _, _]) ty_bld_49 rfl rfl) ?_
    refine draw_only rfl ?_
    first | refine ARun.storeAll rfl rfl ty_size_49 own_ rfl rfl ?_ | refine ARun.store rfl rfl ty_size_49 own_ lens_ rfl ?_
    (try simp only [Mem.set_set, List.set_cons_zero, List.set_cons_succ, Nat.zero_add, Nat.reduceAdd])
    refine arun_nil ⟨fun h => absurd h (by decide), ?_⟩
    refine draw_pure rfl rfl rfl rfl (lit_lt rfl) (fun _ => Calm.assign rfl) ?_
    refine draw_nil ?_
    refine athen_n ?_
    refine AWP.sub [(0, _), (1, _), (2, _), (3, _), (4, _), (8, _)] ⟨rfl, rfl, rfl, rfl, rfl, rfl, trivial⟩ ?_
    refine AWP.ret ?_
    refine ⟨_, S.set b ⟨3, (rows s.data.toList n).map fun x => Value.int .i64 x, c⟩, ⟨_, _, _, rfl, .inr ⟨ty_agg_49, [_, _, _], ty_size_49, rds_, rfl⟩, ⟨_, _, rfl, rfl, rfl⟩, rfl⟩, less_, ?_⟩
    exact ⟨_, rfl, Mem.less_set _ _ _ fb1.1, sl_intB (Mem.own_set_same _ _ _) rfl hbc (by omega)⟩
  · rw [if_neg hck]
    have hck2 := chk_two hck
    refine ACall.enter (args := [.agg #[.string s, .int .i64 N]]) (rs := [.cell 2 49, .tmp 3]) 15 [(0, .agg #[.string s, .int .i64 N])] Try.func30 rfl rfl (Nat.le_of_ble_eq_true rfl) rfl ⟨rfl, trivial⟩ ?_
    refine AWP.seq ?_
    refine AWP.region ?_
    refine ARun.boxA (cs := [_, _]) (lit_lt rfl) rfl ?_
    intro b1 f1
    have g1 := f1
    repeat ((with_reducible replace g1 := fresh_set g1); obtain ⟨g1, _⟩ := g1)
    (try simp only [List.length_cons, List.length_nil, Nat.zero_add, Nat.reduceAdd])
    refine ARun.alloc (lit_lt rfl) ty_zero_49 ?_
    intro b2 f2
    have g2 := f2
    repeat ((with_reducible replace g2 := fresh_set g2); obtain ⟨g2, _⟩ := g2)
    (try simp only [List.length_cons, List.length_nil, Nat.zero_add, Nat.reduceAdd])
    refine rC (Calm.assign rfl) ?_
    refine arun_nil ?_
    refine athen_n ?_
    refine AWP.seq ?_
    refine AWP.seq ?_
    refine AWP.region ?_
    refine rC (ldA_ (cs := [_, _]) ty_agg_47 ty_size_47 rfl) ?_
    refine ARun.call (lit_lt rfl) go_56 rfl (bitsV_Check s N _ (by omega)) ?_
    rintro _ S1 ⟨rfl, h1⟩
    rw [h1, hck2]; clear h1 S1
    refine rC (Calm.assign rfl) ?_
    refine arun_nil ?_
    refine athen_n ?_
    refine AWP.sub [(0, _), (1, _), (2, _), (3, _), (4, _)] ⟨rfl, rfl, rfl, rfl, rfl, trivial⟩ ?_
    refine AWP.seq ?_
    refine AWP.region ?_
    refine rC (Calm.move rfl) ?_
    refine rC (Calm.bin rfl rfl b_neq) ?_
    refine arun_nil ?_
    refine athen_n ?_
    refine AWP.sub [(0, _), (1, _), (2, _), (3, _), (4, _), (8, _)] ⟨rfl, rfl, rfl, rfl, rfl, rfl, trivial⟩ ?_
    refine AWP.condT rfl (by first | rfl | (simp; done) | (simp; omega)) ?_
    refine AWP.seq ?_
    refine AWP.region ?_
    refine rC (Calm.build (cs := [_, _, _]) ty_bld_49 rfl rfl) ?_
    refine rC (Calm.move rfl) ?_
    first | refine ARun.storeAll rfl rfl ty_size_49 own_ rfl rfl ?_ | refine ARun.store rfl rfl ty_size_49 own_ lens_ rfl ?_
    (try simp only [Mem.set_set, List.set_cons_zero, List.set_cons_succ, Nat.zero_add, Nat.reduceAdd])
    refine rC (Calm.assign rfl) ?_
    refine arun_nil ?_
    refine athen_n ?_
    refine AWP.sub [(0, _), (1, _), (2, _), (3, _), (4, _), (8, _)] ⟨rfl, rfl, rfl, rfl, rfl, rfl, trivial⟩ ?_
    refine AWP.ret ?_
    refine athen_ret ?_
    refine ⟨_, S, ⟨_, _, _, rfl, .inr ⟨ty_agg_49, [_, _, _], ty_size_49, rds_, rfl⟩, ⟨_, _, rfl, rfl, rfl⟩, rfl⟩, less_, ?_⟩
    exact ⟨_, rfl, Mem.Less.refl _, Sl.nil _ _ _⟩
set_option maxHeartbeats 1000000 in
theorem rselV_Make (s : ByteArray) (N : Int) (S : Mem) (hs : s.size ≤ 281474976710656) :
    ACall Try.prog 31 #[.agg #[.string s, .int .i64 N]] S (RwR (makeR s N) S) := by
  unfold makeR
  by_cases hck : chk s.data.toList N = 0
  · obtain ⟨n, rfl, hn1, hn2, _⟩ := chk_nat hck
    have hrl := rows_length s.data.toList n
    rw [if_pos hck, Int.toNat_natCast]
    refine ACall.enter (args := [.agg #[.string s, .int .i64 (n : Int)]]) (rs := [.cell 2 49, .tmp 3]) 12 [(0, .agg #[.string s, .int .i64 (n : Int)])] Try.func31 rfl rfl (Nat.le_of_ble_eq_true rfl) rfl ⟨rfl, trivial⟩ ?_
    refine AWP.seq ?_
    refine AWP.region ?_
    refine ARun.boxA (cs := [_, _]) (lit_lt rfl) rfl ?_
    intro b1 f1
    have g1 := f1
    repeat ((with_reducible replace g1 := fresh_set g1); obtain ⟨g1, _⟩ := g1)
    (try simp only [List.length_cons, List.length_nil, Nat.zero_add, Nat.reduceAdd])
    refine ARun.alloc (lit_lt rfl) ty_zero_49 ?_
    intro b2 f2
    have g2 := f2
    repeat ((with_reducible replace g2 := fresh_set g2); obtain ⟨g2, _⟩ := g2)
    (try simp only [List.length_cons, List.length_nil, Nat.zero_add, Nat.reduceAdd])
    refine rC (Calm.assign rfl) ?_
    refine arun_nil ?_
    refine athen_n ?_
    refine AWP.seq ?_
    refine AWP.seq ?_
    refine AWP.region ?_
    refine rC (ldA_ (cs := [_, _]) ty_agg_47 ty_size_47 rfl) ?_
    refine ARun.call (lit_lt rfl) go_58 rfl (refV_Check s n _ (by omega)) ?_
    rintro _ S1 ⟨rfl, h1⟩
    rw [h1, hck]; clear h1 S1
    refine rC (Calm.bin rfl rfl b_neq) ?_
    refine arun_nil ?_
    refine athen_n ?_
    refine AWP.sub [(0, _), (1, _), (2, _), (3, _), (6, _)] ⟨rfl, rfl, rfl, rfl, rfl, trivial⟩ ?_
    refine AWP.condF rfl (by first | rfl | (simp; done) | (simp; omega)) ?_
    refine AWP.skip ?_
    refine athen_n ?_
    refine AWP.seq ?_
    refine AWP.draw [(0, true), (1, true), (2, false), (3, true), (4, false), (5, true)] [4] mixed (by kernel_rfl) ?_
    refine draw_calm rfl rfl rfl (lit_lt rfl) less_ (fun S' hS' => by obtain rfl := hS'.resolve_left (by decide); exact ldA_ (cs := [_, _]) ty_agg_47 ty_size_47 rfl) ?_
    refine draw_calm rfl rfl rfl (lit_lt rfl) less_ (fun S' hS' => by obtain rfl := hS'.resolve_left (by decide); exact ldA_ (cs := [_, _]) ty_agg_47 ty_size_47 rfl) ?_
    refine draw_only rfl ?_
    refine ARun.call (lit_lt rfl) go_59 rfl (rselV_counts s n _ hs hn1 hn2) ?_
    rintro _ S1 ⟨b, c, fb, hbc, rfl, h1⟩
    rw [h1]; clear h1 S1; unfold intB
    obtain ⟨fb2, nb2⟩ := fresh_set fb; obtain ⟨fb1, nb1⟩ := fresh_set fb2; have nb2' := Ne.symm nb2; have nb1' := Ne.symm nb1
    refine arun_nil ⟨fun _ => less_, ?_⟩
    refine draw_pure rfl rfl rfl rfl (lit_lt rfl) (fun _ => Calm.build (cs := [_, _, _]) ty_bld_49 rfl rfl) ?_
    refine draw_only rfl ?_
    first | refine ARun.storeAll rfl rfl ty_size_49 own_ rfl rfl ?_ | refine ARun.store rfl rfl ty_size_49 own_ lens_ rfl ?_
    (try simp only [Mem.set_set, List.set_cons_zero, List.set_cons_succ, Nat.zero_add, Nat.reduceAdd])
    refine arun_nil ⟨fun h => absurd h (by decide), ?_⟩
    refine draw_pure rfl rfl rfl rfl (lit_lt rfl) (fun _ => Calm.assign rfl) ?_
    refine draw_nil ?_
    refine athen_n ?_
    refine AWP.sub [(0, _), (1, _), (2, _), (3, _), (6, _)] ⟨rfl, rfl, rfl, rfl, rfl, trivial⟩ ?_
    refine AWP.ret ?_
    refine ⟨_, S.set b ⟨3, (rows s.data.toList n).map fun x => Value.int .i64 x, c⟩, ⟨_, _, _, rfl, .inr ⟨ty_agg_49, [_, _, _], ty_size_49, rds_, rfl⟩, ⟨_, _, rfl, rfl, rfl⟩, rfl⟩, less_, ?_⟩
    exact ⟨_, rfl, Mem.less_set _ _ _ fb1.1, sl_intB (Mem.own_set_same _ _ _) rfl hbc (by omega)⟩
  · rw [if_neg hck]
    have hck2 := chk_two hck
    refine ACall.enter (args := [.agg #[.string s, .int .i64 N]]) (rs := [.cell 2 49, .tmp 3]) 12 [(0, .agg #[.string s, .int .i64 N])] Try.func31 rfl rfl (Nat.le_of_ble_eq_true rfl) rfl ⟨rfl, trivial⟩ ?_
    refine AWP.seq ?_
    refine AWP.region ?_
    refine ARun.boxA (cs := [_, _]) (lit_lt rfl) rfl ?_
    intro b1 f1
    have g1 := f1
    repeat ((with_reducible replace g1 := fresh_set g1); obtain ⟨g1, _⟩ := g1)
    (try simp only [List.length_cons, List.length_nil, Nat.zero_add, Nat.reduceAdd])
    refine ARun.alloc (lit_lt rfl) ty_zero_49 ?_
    intro b2 f2
    have g2 := f2
    repeat ((with_reducible replace g2 := fresh_set g2); obtain ⟨g2, _⟩ := g2)
    (try simp only [List.length_cons, List.length_nil, Nat.zero_add, Nat.reduceAdd])
    refine rC (Calm.assign rfl) ?_
    refine arun_nil ?_
    refine athen_n ?_
    refine AWP.seq ?_
    refine AWP.seq ?_
    refine AWP.region ?_
    refine rC (ldA_ (cs := [_, _]) ty_agg_47 ty_size_47 rfl) ?_
    refine ARun.call (lit_lt rfl) go_58 rfl (refV_Check s N _ (by omega)) ?_
    rintro _ S1 ⟨rfl, h1⟩
    rw [h1, hck2]; clear h1 S1
    refine rC (Calm.bin rfl rfl b_neq) ?_
    refine arun_nil ?_
    refine athen_n ?_
    refine AWP.sub [(0, _), (1, _), (2, _), (3, _), (6, _)] ⟨rfl, rfl, rfl, rfl, rfl, trivial⟩ ?_
    refine AWP.condT rfl (by first | rfl | (simp; done) | (simp; omega)) ?_
    refine AWP.seq ?_
    refine AWP.region ?_
    refine rC (Calm.build (cs := [_, _, _]) ty_bld_49 rfl rfl) ?_
    first | refine ARun.storeAll rfl rfl ty_size_49 own_ rfl rfl ?_ | refine ARun.store rfl rfl ty_size_49 own_ lens_ rfl ?_
    (try simp only [Mem.set_set, List.set_cons_zero, List.set_cons_succ, Nat.zero_add, Nat.reduceAdd])
    refine rC (Calm.assign rfl) ?_
    refine arun_nil ?_
    refine athen_n ?_
    refine AWP.sub [(0, _), (1, _), (2, _), (3, _), (6, _)] ⟨rfl, rfl, rfl, rfl, rfl, trivial⟩ ?_
    refine AWP.ret ?_
    refine athen_ret ?_
    refine ⟨_, S, ⟨_, _, _, rfl, .inr ⟨ty_agg_49, [_, _, _], ty_size_49, rds_, rfl⟩, ⟨_, _, rfl, rfl, rfl⟩, rfl⟩, less_, ?_⟩
    exact ⟨_, rfl, Mem.Less.refl _, Sl.nil _ _ _⟩
end Go.Proofs.Ytddabbfjoejalaa
