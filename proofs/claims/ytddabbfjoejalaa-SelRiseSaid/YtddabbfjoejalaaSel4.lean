/-
  Sel: a sheet of rows: a place within it, how many are ahead; Rank, by the program and by the document.
-/
import Derived.Test.YtddabbfjoejalaaSel3
namespace Go.Proofs.Ytddabbfjoejalaa
open Go.RowKit
open Mv Bits Sel
set_option linter.unusedVariables false
set_option linter.unusedSimpArgs false
set_option maxRecDepth 20000
theorem Mem.less_set2 {S : Mem} {b p : Nat} {r q : Blk} (h1 : Fresh S b) (h2 : Fresh (S.set b r) p) : S.Less ((S.set b r).set p q) := (Mem.less_set _ _ _ h1.1).trans (Mem.less_set _ _ _ h2.1)
def sheetB (s : ByteArray) (N : Int) (hc : Value) : Blk := ⟨92, [.string s, .int .i64 N, hc], 3⟩
set_option maxHeartbeats 1000000 in
theorem selV_open (s : ByteArray) (N : Int) (hc : Value) (cs : List Int) (S : Mem) (hs : s.size ≤ 281474976710656) (hv : Sl 1 i64s S hc cs) (hk : chkR s N cs = 0) :
    ACall Try.prog 63 #[.agg #[.string s, .int .i64 N, hc]] S fun r S' => ∃ p, Fresh S p ∧ r = .tuple #[.pointer (some ⟨p, 0, none⟩), .int .i64 0] ∧ S' = S.set p (sheetB s N hc) := by
  obtain ⟨pc, cc, rfl, _⟩ := id hv
  unfold sheetB
  refine ACall.enter (args := [.agg #[.string s, .int .i64 N, .slice pc cs.length cc]]) (rs := [.tmp 2, .tmp 3]) 13 [(0, .agg #[.string s, .int .i64 N, .slice pc cs.length cc])] Try.func63 rfl rfl (Nat.le_of_ble_eq_true rfl) rfl ⟨rfl, trivial⟩ ?_
  refine AWP.seq ?_
  refine AWP.region ?_
  refine ARun.boxA (cs := [_, _, _]) (lit_lt rfl) rfl ?_
  intro b1 f1
  have g1 := f1
  repeat ((with_reducible replace g1 := fresh_set g1); obtain ⟨g1, _⟩ := g1)
  (try simp only [List.length_cons, List.length_nil, Nat.zero_add, Nat.reduceAdd])
  refine rC (Calm.assign rfl) ?_
  refine rC (Calm.assign rfl) ?_
  refine arun_nil ?_
  refine athen_n ?_
  refine AWP.seq ?_
  refine AWP.seq ?_
  refine AWP.region ?_
  refine rC (ldA_ (cs := [_, _, _]) ty_agg_49 ty_size_49 rfl) ?_
  refine ARun.call (lit_lt rfl) go_35 rfl (selV_Check s N _ cs _ hs (hv.less less_)) ?_
  rintro _ S1 ⟨rfl, h1⟩
  rw [h1, hk]; clear h1 S1
  refine rC (Calm.assign rfl) ?_
  refine arun_nil ?_
  refine athen_n ?_
  refine AWP.sub [(0, _), (1, _), (2, _), (3, _), (4, _)] ⟨rfl, rfl, rfl, rfl, rfl, trivial⟩ ?_
  refine AWP.seq ?_
  refine AWP.region ?_
  refine rC (Calm.move rfl) ?_
  refine rC (Calm.bin rfl rfl b_neq) ?_
  refine arun_nil ?_
  refine athen_n ?_
  refine AWP.sub [(0, _), (1, _), (2, _), (3, _), (4, _), (8, _)] ⟨rfl, rfl, rfl, rfl, rfl, rfl, trivial⟩ ?_
  refine AWP.condF rfl (by first | rfl | (simp; done) | (simp; omega)) ?_
  refine AWP.skip ?_
  refine athen_n ?_
  refine AWP.seq ?_
  refine AWP.region ?_
  refine rC (ldA_ (cs := [_, _, _]) ty_agg_49 ty_size_49 rfl) ?_
  refine rC (Calm.build (cs := [_, _, _]) ty_bld_92 rfl rfl) ?_
  refine ARun.boxA (cs := [_, _, _]) (lit_lt rfl) rfl ?_
  intro b12 f12
  have g12 := f12
  repeat ((with_reducible replace g12 := fresh_set g12); obtain ⟨g12, _⟩ := g12)
  (try simp only [List.length_cons, List.length_nil, Nat.zero_add, Nat.reduceAdd])
  refine rC (Calm.assign rfl) ?_
  refine rC (Calm.assign rfl) ?_
  refine arun_nil ?_
  refine athen_n ?_
  refine AWP.sub [(0, _), (1, _), (2, _), (3, _), (4, _), (8, _)] ⟨rfl, rfl, rfl, rfl, rfl, rfl, trivial⟩ ?_
  refine AWP.ret ?_
  refine ⟨_, S.set b12 ⟨92, [.string s, .int .i64 N, .slice pc cs.length cc], 3⟩, ⟨_, _, rfl, ⟨_, _, rfl, rfl, rfl⟩, rfl⟩, less_, ?_⟩
  exact ⟨b12, g12, rfl, rfl⟩
set_option maxHeartbeats 1000000 in
theorem selV_open2 (s : ByteArray) (N : Int) (hc : Value) (cs : List Int) (S : Mem) (hs : s.size ≤ 281474976710656) (hv : Sl 1 i64s S hc cs) (hk : chkR s N cs = 2) :
    ACall Try.prog 63 #[.agg #[.string s, .int .i64 N, hc]] S fun r S' => r = .tuple #[.pointer none, .int .i64 2] ∧ S' = S := by
  obtain ⟨pc, cc, rfl, _⟩ := id hv
  refine ACall.enter (args := [.agg #[.string s, .int .i64 N, .slice pc cs.length cc]]) (rs := [.tmp 2, .tmp 3]) 13 [(0, .agg #[.string s, .int .i64 N, .slice pc cs.length cc])] Try.func63 rfl rfl (Nat.le_of_ble_eq_true rfl) rfl ⟨rfl, trivial⟩ ?_
  refine AWP.seq ?_
  refine AWP.region ?_
  refine ARun.boxA (cs := [_, _, _]) (lit_lt rfl) rfl ?_
  intro b1 f1
  have g1 := f1
  repeat ((with_reducible replace g1 := fresh_set g1); obtain ⟨g1, _⟩ := g1)
  (try simp only [List.length_cons, List.length_nil, Nat.zero_add, Nat.reduceAdd])
  refine rC (Calm.assign rfl) ?_
  refine rC (Calm.assign rfl) ?_
  refine arun_nil ?_
  refine athen_n ?_
  refine AWP.seq ?_
  refine AWP.seq ?_
  refine AWP.region ?_
  refine rC (ldA_ (cs := [_, _, _]) ty_agg_49 ty_size_49 rfl) ?_
  refine ARun.call (lit_lt rfl) go_35 rfl (selV_Check s N _ cs _ hs (hv.less less_)) ?_
  rintro _ S1 ⟨rfl, h1⟩
  rw [h1, hk]; clear h1 S1
  refine rC (Calm.assign rfl) ?_
  refine arun_nil ?_
  refine athen_n ?_
  refine AWP.sub [(0, _), (1, _), (2, _), (3, _), (4, _)] ⟨rfl, rfl, rfl, rfl, rfl, trivial⟩ ?_
  refine AWP.seq ?_
  refine AWP.region ?_
  refine rC (Calm.move rfl) ?_
  refine rC (Calm.bin rfl rfl b_neq) ?_
  refine arun_nil ?_
  refine athen_n ?_
  refine AWP.sub [(0, _), (1, _), (2, _), (3, _), (4, _), (8, _)] ⟨rfl, rfl, rfl, rfl, rfl, rfl, trivial⟩ ?_
  refine AWP.condT rfl (by first | rfl | (simp; done) | (simp; omega)) ?_
  refine AWP.seq ?_
  refine AWP.region ?_
  refine rC (Calm.move rfl) ?_
  refine rC (Calm.assign rfl) ?_
  refine rC (Calm.assign rfl) ?_
  refine arun_nil ?_
  refine athen_n ?_
  refine AWP.sub [(0, _), (1, _), (2, _), (3, _), (4, _), (8, _)] ⟨rfl, rfl, rfl, rfl, rfl, rfl, trivial⟩ ?_
  refine AWP.ret ?_
  refine athen_ret ?_
  refine ⟨_, S, ⟨_, _, rfl, ⟨_, _, rfl, rfl, rfl⟩, rfl⟩, less_, ?_⟩
  exact ⟨rfl, rfl⟩
theorem selV_within (p : Nat) (s : ByteArray) (N i : Int) (hc : Value) (S : Mem) (hp : S.own p = some (sheetB s N hc)) :
    ACall Try.prog 64 #[.pointer (some ⟨p, 0, none⟩), .int .i64 i] S fun r S' => r = .int .i64 (if i < 0 ∨ N < i then 1 else 0) ∧ S' = S := by
  unfold sheetB at hp
  by_cases h1 : i < 0
  · rw [if_pos (.inl h1)]
    refine ACall.enter (args := [.pointer (some ⟨p, 0, none⟩), .int .i64 i]) (rs := [.tmp 4]) 17 [(0, .pointer (some ⟨p, 0, none⟩)), (1, .int .i64 i)] Try.func64 rfl rfl (Nat.le_of_ble_eq_true rfl) rfl ⟨rfl, rfl, trivial⟩ ?_
    refine AWP.seq ?_
    refine AWP.region ?_
    refine rC (Calm.assign rfl) ?_
    refine arun_nil ?_
    refine athen_n ?_
    refine AWP.seq ?_
    refine AWP.seq ?_
    refine AWP.region ?_
    refine rC (Calm.move rfl) ?_
    refine rC (Calm.bin rfl rfl b_lss) ?_
    refine rC (Calm.move rfl) ?_
    first | refine rS 7 ?_ | refine rU 7 ?_ | refine rG 7 (Calm.move rfl) ?_
    first | refine rS 7 ?_ | refine rU 7 ?_ | refine rG 7 (Calm.move rfl) ?_
    first | refine rS 7 ?_ | refine rU 7 ?_ | refine rG 7 (Calm.nilCheck rfl) ?_
    first | refine rS 7 ?_ | refine rU 7 ?_ | refine rG 7 (Calm.fieldAddr ty_field_92_0 rfl) ?_
    first | refine rS 7 ?_ | refine rU 7 ?_ | refine rG 7 (Calm.fieldAddr ty_field_49_0 rfl) ?_
    first | refine rS 7 ?_ | refine rU 7 ?_ | refine rG 7 (Calm.fieldAddr ty_field_47_1 rfl) ?_
    first | refine rS 7 ?_ | refine rU 7 ?_ | refine rG 7 (ld_ ty_plain_3 rfl) ?_
    first | refine rS 7 ?_ | refine rU 7 ?_ | refine rG 7 (Calm.bin rfl rfl b_gtr) ?_
    refine rC ((by first | exact Calm.pickT rfl rfl | exact Calm.pickF rfl rfl)) ?_
    refine arun_nil ?_
    refine athen_n ?_
    refine AWP.sub [(0, _), (1, _), (4, _), (16, _)] ⟨rfl, rfl, rfl, rfl, trivial⟩ ?_
    refine AWP.condT rfl (by first | rfl | (simp; done) | (simp; omega)) ?_
    refine AWP.seq ?_
    refine AWP.region ?_
    refine rC (Calm.assign rfl) ?_
    refine arun_nil ?_
    refine athen_n ?_
    refine AWP.ret ?_
    refine athen_ret ?_
    refine ⟨_, S, ⟨_, _, rfl, rfl, rfl⟩, less_, ?_⟩
    exact ⟨rfl, rfl⟩
  · by_cases h2 : N < i
    · rw [if_pos (.inr h2)]
      refine ACall.enter (args := [.pointer (some ⟨p, 0, none⟩), .int .i64 i]) (rs := [.tmp 4]) 17 [(0, .pointer (some ⟨p, 0, none⟩)), (1, .int .i64 i)] Try.func64 rfl rfl (Nat.le_of_ble_eq_true rfl) rfl ⟨rfl, rfl, trivial⟩ ?_
      refine AWP.seq ?_
      refine AWP.region ?_
      refine rC (Calm.assign rfl) ?_
      refine arun_nil ?_
      refine athen_n ?_
      refine AWP.seq ?_
      refine AWP.seq ?_
      refine AWP.region ?_
      refine rC (Calm.move rfl) ?_
      refine rC (Calm.bin rfl rfl b_lss) ?_
      refine rC (Calm.move rfl) ?_
      first | refine rS 7 ?_ | refine rU 7 ?_ | refine rG 7 (Calm.move rfl) ?_
      first | refine rS 7 ?_ | refine rU 7 ?_ | refine rG 7 (Calm.move rfl) ?_
      first | refine rS 7 ?_ | refine rU 7 ?_ | refine rG 7 (Calm.nilCheck rfl) ?_
      first | refine rS 7 ?_ | refine rU 7 ?_ | refine rG 7 (Calm.fieldAddr ty_field_92_0 rfl) ?_
      first | refine rS 7 ?_ | refine rU 7 ?_ | refine rG 7 (Calm.fieldAddr ty_field_49_0 rfl) ?_
      first | refine rS 7 ?_ | refine rU 7 ?_ | refine rG 7 (Calm.fieldAddr ty_field_47_1 rfl) ?_
      first | refine rS 7 ?_ | refine rU 7 ?_ | refine rG 7 (ld_ ty_plain_3 rfl) ?_
      first | refine rS 7 ?_ | refine rU 7 ?_ | refine rG 7 (Calm.bin rfl rfl b_gtr) ?_
      refine rC ((by first | exact Calm.pickT rfl rfl | exact Calm.pickF rfl rfl)) ?_
      refine arun_nil ?_
      refine athen_n ?_
      refine AWP.sub [(0, _), (1, _), (4, _), (16, _)] ⟨rfl, rfl, rfl, rfl, trivial⟩ ?_
      refine AWP.condT rfl (by first | rfl | (simp; done) | (simp; omega)) ?_
      refine AWP.seq ?_
      refine AWP.region ?_
      refine rC (Calm.assign rfl) ?_
      refine arun_nil ?_
      refine athen_n ?_
      refine AWP.ret ?_
      refine athen_ret ?_
      refine ⟨_, S, ⟨_, _, rfl, rfl, rfl⟩, less_, ?_⟩
      exact ⟨rfl, rfl⟩
    · rw [if_neg (by omega)]
      refine ACall.enter (args := [.pointer (some ⟨p, 0, none⟩), .int .i64 i]) (rs := [.tmp 4]) 17 [(0, .pointer (some ⟨p, 0, none⟩)), (1, .int .i64 i)] Try.func64 rfl rfl (Nat.le_of_ble_eq_true rfl) rfl ⟨rfl, rfl, trivial⟩ ?_
      refine AWP.seq ?_
      refine AWP.region ?_
      refine rC (Calm.assign rfl) ?_
      refine arun_nil ?_
      refine athen_n ?_
      refine AWP.seq ?_
      refine AWP.seq ?_
      refine AWP.region ?_
      refine rC (Calm.move rfl) ?_
      refine rC (Calm.bin rfl rfl b_lss) ?_
      refine rC (Calm.move rfl) ?_
      first | refine rS 7 ?_ | refine rU 7 ?_ | refine rG 7 (Calm.move rfl) ?_
      first | refine rS 7 ?_ | refine rU 7 ?_ | refine rG 7 (Calm.move rfl) ?_
      first | refine rS 7 ?_ | refine rU 7 ?_ | refine rG 7 (Calm.nilCheck rfl) ?_
      first | refine rS 7 ?_ | refine rU 7 ?_ | refine rG 7 (Calm.fieldAddr ty_field_92_0 rfl) ?_
      first | refine rS 7 ?_ | refine rU 7 ?_ | refine rG 7 (Calm.fieldAddr ty_field_49_0 rfl) ?_
      first | refine rS 7 ?_ | refine rU 7 ?_ | refine rG 7 (Calm.fieldAddr ty_field_47_1 rfl) ?_
      first | refine rS 7 ?_ | refine rU 7 ?_ | refine rG 7 (ld_ ty_plain_3 rfl) ?_
      first | refine rS 7 ?_ | refine rU 7 ?_ | refine rG 7 (Calm.bin rfl rfl b_gtr) ?_
      refine rC ((by first | exact Calm.pickT rfl rfl | exact Calm.pickF rfl rfl)) ?_
      refine arun_nil ?_
      refine athen_n ?_
      refine AWP.sub [(0, _), (1, _), (4, _), (16, _)] ⟨rfl, rfl, rfl, rfl, trivial⟩ ?_
      refine AWP.condF rfl (by first | rfl | (simp; done) | (simp; omega)) ?_
      refine AWP.skip ?_
      refine athen_n ?_
      refine AWP.seq ?_
      refine AWP.region ?_
      refine rC (Calm.assign rfl) ?_
      refine arun_nil ?_
      refine athen_n ?_
      refine AWP.ret ?_
      refine ⟨_, S, ⟨_, _, rfl, rfl, rfl⟩, less_, ?_⟩
      exact ⟨rfl, rfl⟩
theorem rselV_ahead (s : ByteArray) (N : Int) (i : Nat) (S : Mem) (hs : s.size ≤ 281474976710656) (hi : i ≤ 8 * s.size) :
    ACall Try.prog 66 #[.agg #[.string s, .int .i64 N], .int .i64 i] S fun r S' => r = .int .i64 (cnt s.data.toList i : Nat) ∧ S' = S := by
  refine ACall.enter (args := [.agg #[.string s, .int .i64 N], .int .i64 (i : Int)]) (rs := [.tmp 4]) 18 [(0, .agg #[.string s, .int .i64 N]), (1, .int .i64 (i : Int))] Try.func66 rfl rfl (Nat.le_of_ble_eq_true rfl) rfl ⟨rfl, rfl, trivial⟩ ?_
  refine AWP.seq ?_
  refine AWP.region ?_
  refine ARun.boxA (cs := [_, _]) (lit_lt rfl) rfl ?_
  intro b2 f2
  have g2 := f2
  repeat ((with_reducible replace g2 := fresh_set g2); obtain ⟨g2, _⟩ := g2)
  (try simp only [List.length_cons, List.length_nil, Nat.zero_add, Nat.reduceAdd])
  refine rC (Calm.assign rfl) ?_
  refine arun_nil ?_
  refine athen_n ?_
  refine AWP.seq ?_
  refine AWP.region ?_
  refine rC (Calm.assign rfl) ?_
  refine arun_nil ?_
  refine athen_n ?_
  refine AWP.seq ?_
  refine AWP.seq ?_
  refine AWP.region ?_
  refine rC (Calm.assign rfl) ?_
  refine arun_nil ?_
  refine athen_n ?_
  refine AWP.block ?_
  refine AWP.loop (X := Nat) (fun x => [(1, .int .i64 i), (2, .pointer (some ⟨b2, 0, none⟩)), (5, .int .i64 (cnt s.data.toList x : Nat)), (6, .int .i64 x)]) (fun x => S.set b2 ⟨47, [.string s, .int .i64 N], 2⟩) (fun x => x ≤ i) (fun x => i - x) (0) ⟨rfl, rfl, rfl, rfl, trivial⟩ (Mem.Less.refl _) (Nat.zero_le _) ?_
  rintro k hk
  (try dsimp only at *)
  have hck := cnt_le s.data.toList k
  by_cases hl : k < i
  · refine AWP.seq ?_
    refine AWP.seq ?_
    refine AWP.region ?_
    refine rC (Calm.move rfl) ?_
    refine rC (Calm.move rfl) ?_
    refine rC (Calm.bin rfl rfl b_lss) ?_
    refine arun_nil ?_
    refine athen_n ?_
    refine AWP.sub [(1, _), (2, _), (5, _), (6, _), (9, _)] ⟨rfl, rfl, rfl, rfl, rfl, trivial⟩ ?_
    refine AWP.condT rfl (by first | rfl | (simp; done) | (simp; omega)) ?_
    refine AWP.skip ?_
    refine athen_n ?_
    refine AWP.seq ?_
    refine AWP.block ?_
    refine AWP.seq ?_
    refine AWP.region ?_
    refine rC (ldA_ (cs := [_, _]) ty_agg_47 ty_size_47 rfl) ?_
    refine rC (Calm.move rfl) ?_
    refine ARun.call (lit_lt rfl) go_68 rfl (refV_Is s N k _ (by omega) (by omega) hs) ?_
    rintro _ S1 ⟨rfl, h1⟩
    rw [h1, Int.toNat_natCast]; clear h1 S1
    refine arun_nil ?_
    refine athen_n ?_
    refine AWP.sub [(1, _), (2, _), (5, _), (6, _), (9, _), (14, _)] ⟨rfl, rfl, rfl, rfl, rfl, rfl, trivial⟩ ?_
    rcases Bool.eq_false_or_eq_true (isBit s.data.toList k) with hbt | hbt
    · have hcs := cnt_succ s.data.toList k; rw [hbt] at hcs; simp only [if_true] at hcs
      refine AWP.condT rfl (hbt) ?_
      refine AWP.region ?_
      refine rC (Calm.move rfl) ?_
      refine rC (Calm.bin rfl rfl b_add_i64) ?_
      refine rC (Calm.assign rfl) ?_
      refine arun_nil ?_
      refine ain_n ?_
      refine athen_n ?_
      refine AWP.sub [(1, _), (2, _), (5, _), (6, _), (9, _), (14, _)] ⟨rfl, rfl, rfl, rfl, rfl, rfl, trivial⟩ ?_
      refine AWP.region ?_
      refine rC (Calm.move rfl) ?_
      refine rC (Calm.bin rfl rfl b_add_i64) ?_
      refine rC (Calm.assign rfl) ?_
      refine arun_nil ?_
      refine athen_n ?_
      refine ⟨k + 1, ?_, ?_, ?_, ?_⟩
      all_goals (try dsimp only)
      · exact ⟨rfl, rfl, some_int (by rw [hcs]; omega), some_int (by omega), trivial⟩
      · exact Mem.Less.refl _
      · exact hl
      · omega
    · have hcs := cnt_succ s.data.toList k; rw [hbt] at hcs; simp only [if_false, Bool.false_eq_true] at hcs
      refine AWP.condF rfl (hbt) ?_
      refine AWP.skip ?_
      refine ain_n ?_
      refine athen_n ?_
      refine AWP.region ?_
      refine rC (Calm.move rfl) ?_
      refine rC (Calm.bin rfl rfl b_add_i64) ?_
      refine rC (Calm.assign rfl) ?_
      refine arun_nil ?_
      refine athen_n ?_
      refine ⟨k + 1, ?_, ?_, ?_, ?_⟩
      all_goals (try dsimp only)
      · exact ⟨rfl, rfl, some_int (by rw [hcs]; omega), some_int (by omega), trivial⟩
      · exact Mem.Less.refl _
      · exact hl
      · omega
  · refine AWP.seq ?_
    refine AWP.seq ?_
    refine AWP.region ?_
    refine rC (Calm.move rfl) ?_
    refine rC (Calm.move rfl) ?_
    refine rC (Calm.bin rfl rfl b_lss) ?_
    refine arun_nil ?_
    refine athen_n ?_
    refine AWP.sub [(1, _), (2, _), (5, _), (6, _), (9, _)] ⟨rfl, rfl, rfl, rfl, rfl, trivial⟩ ?_
    refine AWP.condF rfl (by first | rfl | (simp; done) | (simp; omega)) ?_
    obtain rfl : k = i := by omega
    refine AWP.exit ?_
    refine athen_exit ?_
    refine athen_exit ?_
    refine ain_same ?_
    refine athen_n ?_
    refine AWP.seq ?_
    refine AWP.region ?_
    refine rC (Calm.move rfl) ?_
    refine rC (Calm.assign rfl) ?_
    refine arun_nil ?_
    refine athen_n ?_
    refine AWP.sub [(1, _), (2, _), (5, _), (6, _), (9, _), (4, _)] ⟨rfl, rfl, rfl, rfl, rfl, rfl, trivial⟩ ?_
    refine AWP.ret ?_
    refine ⟨_, S, ⟨_, _, rfl, rfl, rfl⟩, less_, ?_⟩
    exact ⟨rfl, rfl⟩
set_option maxHeartbeats 1000000 in
theorem selV_Ahead (p : Nat) (s : ByteArray) (n i : Nat) (hc : Value) (S : Mem) (hs : s.size ≤ 281474976710656) (hp : S.own p = some (sheetB s n hc)) (hv : Sl 1 i64s S hc (rows s.data.toList n)) (hi : i ≤ n) (hn : n ≤ 8 * s.size) (hn2 : n ≤ 1048576) :
    ACall Try.prog 65 #[.pointer (some ⟨p, 0, none⟩), .int .i64 i] S fun r S' => r = .int .i64 (cnt s.data.toList i : Nat) ∧ S' = S := by
  unfold sheetB at hp
  have hrl := rows_length s.data.toList n
  obtain ⟨pc, cc, rfl, a1, a2, a3⟩ := id hv
  obtain ⟨b0, off, rfl, hkn⟩ := a3.resolve_left (by intro h; rw [h] at hrl; simp at hrl)
  have k1 := hkn (i / 32) (by omega)
  rw [rows_get] at k1
  unfold i64s at k1
  have hc1 := cnt_le s.data.toList i
  have hc2 := cnt_mono s.data.toList (a := 32 * (i / 32)) (b := i) (by omega)
  refine ACall.enter (args := [.pointer (some ⟨p, 0, none⟩), .int .i64 (i : Int)]) (rs := [.tmp 4]) 27 [(0, .pointer (some ⟨p, 0, none⟩)), (1, .int .i64 (i : Int))] Try.func65 rfl rfl (Nat.le_of_ble_eq_true rfl) rfl ⟨rfl, rfl, trivial⟩ ?_
  refine AWP.seq ?_
  refine AWP.region ?_
  refine rC (Calm.assign rfl) ?_
  refine arun_nil ?_
  refine athen_n ?_
  refine AWP.seq ?_
  refine AWP.region ?_
  refine rC (Calm.move rfl) ?_
  refine rC (Calm.bin rfl rfl b_quo_i64) ?_
  refine rC (Calm.assign rfl) ?_
  refine arun_nil ?_
  refine athen_n ?_
  refine AWP.sub [(0, _), (1, _), (4, _), (5, _)] ⟨rfl, rfl, rfl, rfl, trivial⟩ ?_
  refine AWP.seq ?_
  refine AWP.draw [(0, true), (1, true), (2, true), (3, true), (4, true), (5, true), (6, true), (7, true), (8, true), (9, true), (10, true), (11, true), (12, true), (13, true), (14, true), (15, true), (16, true), (17, false), (18, true), (19, true)] [] mixed (by kernel_rfl) ?_
  refine draw_pure rfl rfl rfl rfl (lit_lt rfl) (fun _ => Calm.move rfl) ?_
  refine draw_pure rfl rfl rfl rfl (lit_lt rfl) (fun _ => Calm.nilCheck rfl) ?_
  refine draw_pure rfl rfl rfl rfl (lit_lt rfl) (fun _ => Calm.fieldAddr ty_field_92_0 rfl) ?_
  refine draw_pure rfl rfl rfl rfl (lit_lt rfl) (fun _ => Calm.fieldAddr ty_field_49_1 rfl) ?_
  refine draw_calm rfl rfl rfl (lit_lt rfl) less_ (fun S' hS' => by obtain rfl := hS'.resolve_left (by decide); exact ld_ ty_plain_23 rfl) ?_
  refine draw_pure rfl rfl rfl rfl (lit_lt rfl) (fun _ => Calm.move rfl) ?_
  refine draw_pure rfl rfl rfl rfl (lit_lt rfl) (fun _ => Calm.indexS Try.underlying23 ty_size_3 rfl rfl (by omega) (by omega)) ?_
  refine draw_calm rfl rfl rfl (lit_lt rfl) less_ (fun S' hS' => by obtain rfl := hS'.resolve_left (by decide); exact ld_ ty_plain_3 rfl) ?_
  refine draw_pure rfl rfl rfl rfl (lit_lt rfl) (fun _ => Calm.move rfl) ?_
  refine draw_pure rfl rfl rfl rfl (lit_lt rfl) (fun _ => Calm.nilCheck rfl) ?_
  refine draw_pure rfl rfl rfl rfl (lit_lt rfl) (fun _ => Calm.fieldAddr ty_field_92_0 rfl) ?_
  refine draw_pure rfl rfl rfl rfl (lit_lt rfl) (fun _ => Calm.fieldAddr ty_field_49_0 rfl) ?_
  refine draw_pure rfl rfl rfl rfl (lit_lt rfl) (fun _ => Calm.fieldAddr ty_field_47_0 rfl) ?_
  refine draw_calm rfl rfl rfl (lit_lt rfl) less_ (fun S' hS' => by obtain rfl := hS'.resolve_left (by decide); exact ld_ ty_plain_9 rfl) ?_
  refine draw_pure rfl rfl rfl rfl (lit_lt rfl) (fun _ => Calm.move rfl) ?_
  refine draw_pure rfl rfl rfl rfl (lit_lt rfl) (fun _ => Calm.bin rfl rfl b_mul_i64) ?_
  refine draw_pure rfl rfl rfl rfl (lit_lt rfl) (fun _ => Calm.move rfl) ?_
  refine draw_only rfl ?_
  refine ARun.call (lit_lt rfl) go_77 rfl (selV_onesI s _ _ (32 * (i / 32)) i _ (by omega) (by omega) hs (by omega) (by omega) (by omega)) ?_
  rintro _ S1 ⟨rfl, h1⟩
  rw [h1]; clear h1 S1
  refine arun_nil ⟨fun _ => less_, ?_⟩
  refine draw_pure rfl rfl rfl rfl (lit_lt rfl) (fun _ => Calm.bin rfl rfl b_add_i64) ?_
  refine draw_pure rfl rfl rfl rfl (lit_lt rfl) (fun _ => Calm.assign rfl) ?_
  refine draw_nil ?_
  refine athen_n ?_
  refine AWP.sub [(0, _), (1, _), (4, _), (5, _)] ⟨rfl, rfl, rfl, rfl, trivial⟩ ?_
  rw [show (cnt s.data.toList (32 * (i / 32)) : Int) + (cnt s.data.toList i - cnt s.data.toList (32 * (i / 32)) : Nat) = (cnt s.data.toList i : Nat) from by omega]
  refine AWP.ret ?_
  refine ⟨_, S, ⟨_, _, rfl, rfl, rfl⟩, less_, ?_⟩
  exact ⟨rfl, rfl⟩
namespace Sel
noncomputable def rankP (s : ByteArray) (N : Int) (cs : List Int) (i : Int) : Int × Int := if chkR s N cs ≠ 0 then (0, 2) else if i < 0 ∨ N < i then (0, 1) else ((cnt s.data.toList i.toNat : Nat), 0)
end Sel
def two2 (p : Int × Int) : Value := .tuple #[.int .i64 p.1, .int .i64 p.2]
set_option maxHeartbeats 1000000 in
theorem selV_Rank (s : ByteArray) (N i : Int) (hc : Value) (cs : List Int) (S : Mem) (hs : s.size ≤ 281474976710656) (hv : Sl 1 i64s S hc cs) :
    ACall Try.prog 37 #[.agg #[.string s, .int .i64 N, hc], .int .i64 i] S fun r S' => r = two2 (rankP s N cs i) ∧ S' = S := by
  obtain ⟨pc, cc, rfl, _⟩ := id hv
  unfold rankP two2
  rcases chkR_or s N cs with ⟨hk, hk1, rfl⟩ | hk
  · have hw := fun p M h => selV_within p s N i (.slice pc (rows s.data.toList N.toNat).length cc) M h
    rw [if_neg (fun h => h hk)]
    by_cases hb : i < 0 ∨ N < i
    · rw [if_pos hb] at hw ⊢
      refine ACall.enter (args := [.agg #[.string s, .int .i64 N, .slice pc (rows s.data.toList N.toNat).length cc], .int .i64 i]) (rs := [.tmp 4, .tmp 5]) 24 [(0, .agg #[.string s, .int .i64 N, .slice pc (rows s.data.toList N.toNat).length cc]), (1, .int .i64 i)] Try.func37 rfl rfl (Nat.le_of_ble_eq_true rfl) rfl ⟨rfl, rfl, trivial⟩ ?_
      refine AWP.seq ?_
      refine AWP.region ?_
      refine ARun.boxA (cs := [_, _, _]) (lit_lt rfl) rfl ?_
      intro b2 f2
      have g2 := f2
      repeat ((with_reducible replace g2 := fresh_set g2); obtain ⟨g2, _⟩ := g2)
      (try simp only [List.length_cons, List.length_nil, Nat.zero_add, Nat.reduceAdd])
      refine rC (Calm.assign rfl) ?_
      refine rC (Calm.assign rfl) ?_
      refine arun_nil ?_
      refine athen_n ?_
      refine AWP.seq ?_
      refine AWP.region ?_
      refine rC (ldA_ (cs := [_, _, _]) ty_agg_49 ty_size_49 rfl) ?_
      refine ARun.call (lit_lt rfl) go_63 rfl (selV_open s N _ _ _ hs (hv.less less_) hk) ?_
      rintro _ S1 ⟨p, fp, rfl, h1⟩
      rw [h1]; clear h1 S1
      have gp := (fresh_set fp).1
      have hpo := Mem.own_set_same (S.set b2 ⟨49, [.string s, .int .i64 N, .slice pc (rows s.data.toList N.toNat).length cc], 3⟩) p (sheetB s N (.slice pc (rows s.data.toList N.toNat).length cc))
      refine rC (Calm.move rfl) ?_
      refine rC (Calm.extract rfl rfl) ?_
      refine rC (Calm.extract rfl rfl) ?_
      refine rC (Calm.assign rfl) ?_
      refine rC (Calm.assign rfl) ?_
      refine arun_nil ?_
      refine athen_n ?_
      refine AWP.sub [(0, _), (1, _), (2, _), (4, _), (5, _), (6, _), (7, _)] ⟨rfl, rfl, rfl, rfl, rfl, rfl, rfl, trivial⟩ ?_
      refine AWP.seq ?_
      refine AWP.seq ?_
      refine AWP.region ?_
      refine rC (Calm.move rfl) ?_
      refine rC (Calm.bin rfl rfl b_eql) ?_
      refine arun_nil ?_
      refine athen_n ?_
      refine AWP.sub [(0, _), (1, _), (2, _), (4, _), (5, _), (6, _), (7, _), (14, _)] ⟨rfl, rfl, rfl, rfl, rfl, rfl, rfl, rfl, trivial⟩ ?_
      refine AWP.condT rfl (by first | rfl | (simp; done) | (simp; omega)) ?_
      refine AWP.region ?_
      refine rC (Calm.move rfl) ?_
      refine rC (Calm.move rfl) ?_
      refine ARun.call (lit_lt rfl) go_64 rfl (hw p _ hpo) ?_
      rintro _ S1 ⟨rfl, h1⟩
      rw [h1]; clear h1 S1
      refine rC (Calm.assign rfl) ?_
      refine arun_nil ?_
      refine athen_n ?_
      refine AWP.sub [(0, _), (1, _), (2, _), (4, _), (5, _), (6, _), (7, _), (14, _)] ⟨rfl, rfl, rfl, rfl, rfl, rfl, rfl, rfl, trivial⟩ ?_
      refine AWP.seq ?_
      refine AWP.seq ?_
      refine AWP.region ?_
      refine rC (Calm.move rfl) ?_
      refine rC (Calm.bin rfl rfl b_neq) ?_
      refine arun_nil ?_
      refine athen_n ?_
      refine AWP.sub [(0, _), (1, _), (2, _), (4, _), (5, _), (6, _), (7, _), (14, _), (19, _)] ⟨rfl, rfl, rfl, rfl, rfl, rfl, rfl, rfl, rfl, trivial⟩ ?_
      refine AWP.condT rfl (by first | rfl | (simp; done) | (simp; omega)) ?_
      refine AWP.seq ?_
      refine AWP.region ?_
      refine rC (Calm.move rfl) ?_
      refine rC (Calm.assign rfl) ?_
      refine rC (Calm.assign rfl) ?_
      refine arun_nil ?_
      refine athen_n ?_
      refine AWP.sub [(0, _), (1, _), (2, _), (4, _), (5, _), (6, _), (7, _), (14, _), (19, _)] ⟨rfl, rfl, rfl, rfl, rfl, rfl, rfl, rfl, rfl, trivial⟩ ?_
      refine AWP.ret ?_
      refine athen_ret ?_
      refine ⟨_, S, ⟨_, _, rfl, ⟨_, _, rfl, rfl, rfl⟩, rfl⟩, (Mem.less_set2 g2 fp), ?_⟩
      exact ⟨rfl, rfl⟩
    · rw [if_neg hb] at hw ⊢
      obtain ⟨n, rfl, hn1, hn2, _⟩ := chk_nat hk1
      obtain ⟨j, rfl⟩ : ∃ j : Nat, i = j := ⟨i.toNat, by omega⟩
      simp only [Int.toNat_natCast] at hv hk hw ⊢
      refine ACall.enter (args := [.agg #[.string s, .int .i64 (n : Int), .slice pc (rows s.data.toList n).length cc], .int .i64 (j : Int)]) (rs := [.tmp 4, .tmp 5]) 24 [(0, .agg #[.string s, .int .i64 (n : Int), .slice pc (rows s.data.toList n).length cc]), (1, .int .i64 (j : Int))] Try.func37 rfl rfl (Nat.le_of_ble_eq_true rfl) rfl ⟨rfl, rfl, trivial⟩ ?_
      refine AWP.seq ?_
      refine AWP.region ?_
      refine ARun.boxA (cs := [_, _, _]) (lit_lt rfl) rfl ?_
      intro b2 f2
      have g2 := f2
      repeat ((with_reducible replace g2 := fresh_set g2); obtain ⟨g2, _⟩ := g2)
      (try simp only [List.length_cons, List.length_nil, Nat.zero_add, Nat.reduceAdd])
      refine rC (Calm.assign rfl) ?_
      refine rC (Calm.assign rfl) ?_
      refine arun_nil ?_
      refine athen_n ?_
      refine AWP.seq ?_
      refine AWP.region ?_
      refine rC (ldA_ (cs := [_, _, _]) ty_agg_49 ty_size_49 rfl) ?_
      refine ARun.call (lit_lt rfl) go_63 rfl (selV_open s n _ _ _ hs (hv.less less_) hk) ?_
      rintro _ S1 ⟨p, fp, rfl, h1⟩
      rw [h1]; clear h1 S1
      have gp := (fresh_set fp).1
      have hpo := Mem.own_set_same (S.set b2 ⟨49, [.string s, .int .i64 n, .slice pc (rows s.data.toList n).length cc], 3⟩) p (sheetB s n (.slice pc (rows s.data.toList n).length cc))
      refine rC (Calm.move rfl) ?_
      refine rC (Calm.extract rfl rfl) ?_
      refine rC (Calm.extract rfl rfl) ?_
      refine rC (Calm.assign rfl) ?_
      refine rC (Calm.assign rfl) ?_
      refine arun_nil ?_
      refine athen_n ?_
      refine AWP.sub [(0, _), (1, _), (2, _), (4, _), (5, _), (6, _), (7, _)] ⟨rfl, rfl, rfl, rfl, rfl, rfl, rfl, trivial⟩ ?_
      refine AWP.seq ?_
      refine AWP.seq ?_
      refine AWP.region ?_
      refine rC (Calm.move rfl) ?_
      refine rC (Calm.bin rfl rfl b_eql) ?_
      refine arun_nil ?_
      refine athen_n ?_
      refine AWP.sub [(0, _), (1, _), (2, _), (4, _), (5, _), (6, _), (7, _), (14, _)] ⟨rfl, rfl, rfl, rfl, rfl, rfl, rfl, rfl, trivial⟩ ?_
      refine AWP.condT rfl (by first | rfl | (simp; done) | (simp; omega)) ?_
      refine AWP.region ?_
      refine rC (Calm.move rfl) ?_
      refine rC (Calm.move rfl) ?_
      refine ARun.call (lit_lt rfl) go_64 rfl (hw p _ hpo) ?_
      rintro _ S1 ⟨rfl, h1⟩
      rw [h1]; clear h1 S1
      refine rC (Calm.assign rfl) ?_
      refine arun_nil ?_
      refine athen_n ?_
      refine AWP.sub [(0, _), (1, _), (2, _), (4, _), (5, _), (6, _), (7, _), (14, _)] ⟨rfl, rfl, rfl, rfl, rfl, rfl, rfl, rfl, trivial⟩ ?_
      refine AWP.seq ?_
      refine AWP.seq ?_
      refine AWP.region ?_
      refine rC (Calm.move rfl) ?_
      refine rC (Calm.bin rfl rfl b_neq) ?_
      refine arun_nil ?_
      refine athen_n ?_
      refine AWP.sub [(0, _), (1, _), (2, _), (4, _), (5, _), (6, _), (7, _), (14, _), (19, _)] ⟨rfl, rfl, rfl, rfl, rfl, rfl, rfl, rfl, rfl, trivial⟩ ?_
      refine AWP.condF rfl (by first | rfl | (simp; done) | (simp; omega)) ?_
      refine AWP.skip ?_
      refine athen_n ?_
      refine AWP.seq ?_
      refine AWP.region ?_
      refine rC (Calm.move rfl) ?_
      refine rC (Calm.move rfl) ?_
      refine ARun.call (lit_lt rfl) go_65 rfl (selV_Ahead p s n j _ _ hs hpo (hv.less (Mem.less_set2 g2 fp)) (by omega) hn2 hn1) ?_
      rintro _ S1 ⟨rfl, h1⟩
      rw [h1]; clear h1 S1
      refine rC (Calm.assign rfl) ?_
      refine rC (Calm.assign rfl) ?_
      refine arun_nil ?_
      refine athen_n ?_
      refine AWP.sub [(0, _), (1, _), (2, _), (4, _), (5, _), (6, _), (7, _), (14, _), (19, _)] ⟨rfl, rfl, rfl, rfl, rfl, rfl, rfl, rfl, rfl, trivial⟩ ?_
      refine AWP.ret ?_
      refine ⟨_, S, ⟨_, _, rfl, ⟨_, _, rfl, rfl, rfl⟩, rfl⟩, (Mem.less_set2 g2 fp), ?_⟩
      exact ⟨rfl, rfl⟩
  · rw [if_pos (by rw [hk]; decide)]
    refine ACall.enter (args := [.agg #[.string s, .int .i64 N, .slice pc cs.length cc], .int .i64 i]) (rs := [.tmp 4, .tmp 5]) 24 [(0, .agg #[.string s, .int .i64 N, .slice pc cs.length cc]), (1, .int .i64 i)] Try.func37 rfl rfl (Nat.le_of_ble_eq_true rfl) rfl ⟨rfl, rfl, trivial⟩ ?_
    refine AWP.seq ?_
    refine AWP.region ?_
    refine ARun.boxA (cs := [_, _, _]) (lit_lt rfl) rfl ?_
    intro b2 f2
    have g2 := f2
    repeat ((with_reducible replace g2 := fresh_set g2); obtain ⟨g2, _⟩ := g2)
    (try simp only [List.length_cons, List.length_nil, Nat.zero_add, Nat.reduceAdd])
    refine rC (Calm.assign rfl) ?_
    refine rC (Calm.assign rfl) ?_
    refine arun_nil ?_
    refine athen_n ?_
    refine AWP.seq ?_
    refine AWP.region ?_
    refine rC (ldA_ (cs := [_, _, _]) ty_agg_49 ty_size_49 rfl) ?_
    refine ARun.call (lit_lt rfl) go_63 rfl (selV_open2 s N _ cs _ hs (hv.less less_) hk) ?_
    rintro _ S1 ⟨rfl, h1⟩
    rw [h1]; clear h1 S1
    refine rC (Calm.move rfl) ?_
    refine rC (Calm.extract rfl rfl) ?_
    refine rC (Calm.extract rfl rfl) ?_
    refine rC (Calm.assign rfl) ?_
    refine rC (Calm.assign rfl) ?_
    refine arun_nil ?_
    refine athen_n ?_
    refine AWP.sub [(0, _), (1, _), (2, _), (4, _), (5, _), (6, _), (7, _)] ⟨rfl, rfl, rfl, rfl, rfl, rfl, rfl, trivial⟩ ?_
    refine AWP.seq ?_
    refine AWP.seq ?_
    refine AWP.region ?_
    refine rC (Calm.move rfl) ?_
    refine rC (Calm.bin rfl rfl b_eql) ?_
    refine arun_nil ?_
    refine athen_n ?_
    refine AWP.sub [(0, _), (1, _), (2, _), (4, _), (5, _), (6, _), (7, _), (14, _)] ⟨rfl, rfl, rfl, rfl, rfl, rfl, rfl, rfl, trivial⟩ ?_
    refine AWP.condF rfl (by first | rfl | (simp; done) | (simp; omega)) ?_
    refine AWP.skip ?_
    refine athen_n ?_
    refine AWP.seq ?_
    refine AWP.seq ?_
    refine AWP.region ?_
    refine rC (Calm.move rfl) ?_
    refine rC (Calm.bin rfl rfl b_neq) ?_
    refine arun_nil ?_
    refine athen_n ?_
    refine AWP.sub [(0, _), (1, _), (2, _), (4, _), (5, _), (6, _), (7, _), (14, _), (19, _)] ⟨rfl, rfl, rfl, rfl, rfl, rfl, rfl, rfl, rfl, trivial⟩ ?_
    refine AWP.condT rfl (by first | rfl | (simp; done) | (simp; omega)) ?_
    refine AWP.seq ?_
    refine AWP.region ?_
    refine rC (Calm.move rfl) ?_
    refine rC (Calm.assign rfl) ?_
    refine rC (Calm.assign rfl) ?_
    refine arun_nil ?_
    refine athen_n ?_
    refine AWP.sub [(0, _), (1, _), (2, _), (4, _), (5, _), (6, _), (7, _), (14, _), (19, _)] ⟨rfl, rfl, rfl, rfl, rfl, rfl, rfl, rfl, rfl, trivial⟩ ?_
    refine AWP.ret ?_
    refine athen_ret ?_
    refine ⟨_, S, ⟨_, _, rfl, ⟨_, _, rfl, rfl, rfl⟩, rfl⟩, less_, ?_⟩
    exact ⟨rfl, rfl⟩
end Go.Proofs.Ytddabbfjoejalaa
