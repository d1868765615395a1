/-
  Sel: rows of counts, by the program and by the document.
-/
import Derived.Test.YtddabbfjoejalaaSel1
namespace Go.Proofs.Ytddabbfjoejalaa
open Go.RowKit
open Mv Bits Sel
set_option linter.unusedVariables false
set_option linter.unusedSimpArgs false
set_option maxRecDepth 20000
theorem selV_onesI (s : ByteArray) (x y : Int) (a b : Nat) (S : Mem) (hx : x = a) (hy : y = b) (hs : s.size ≤ 281474976710656) (ha : a % 8 = 0) (hab : a ≤ b) (hb : b ≤ 8 * s.size) :
    ACall Try.prog 77 #[.string s, .int .i64 x, .int .i64 y] S fun r S' => r = .int .i64 (cnt s.data.toList b - cnt s.data.toList a : Nat) ∧ S' = S := by
  subst hx hy; exact selV_ones s a b S hs ha hab hb
/-- Rows of counts in a block of their own. -/
def RowsR (s : ByteArray) (N : Nat) (S : Mem) (r : Value) (S' : Mem) : Prop := ∃ b c, Fresh S b ∧ (rows s.data.toList N).length ≤ c ∧ r = .slice (some ⟨b, 0, none⟩) (rows s.data.toList N).length c ∧ S' = S.set b (intB (rows s.data.toList N) c)
set_option maxHeartbeats 1000000 in
theorem selV_counts (s : ByteArray) (N : Nat) (S : Mem) (hs : s.size ≤ 281474976710656) (hN : N ≤ 1048576) (hb : N ≤ 8 * s.size) :
    ACall Try.prog 57 #[.agg #[.string s, .int .i64 N]] S (RowsR s N S) := by
  refine ACall.enter (args := [.agg #[.string s, .int .i64 (N : Int)]]) (rs := [.tmp 2]) 29 [(0, .agg #[.string s, .int .i64 (N : Int)])] Try.func57 rfl rfl (Nat.le_of_ble_eq_true rfl) rfl ⟨rfl, trivial⟩ ?_
  refine AWP.seq ?_
  refine AWP.region ?_
  refine ARun.boxA (cs := [_, _]) (lit_lt rfl) rfl ?_
  intro b1 f1
  have g1 := f1
  repeat ((with_reducible replace g1 := fresh_set g1); obtain ⟨g1, _⟩ := g1)
  (try simp only [List.length_cons, List.length_nil, Nat.zero_add, Nat.reduceAdd])
  refine rC (Calm.assign rfl) ?_
  refine arun_nil ?_
  refine athen_n ?_
  refine AWP.seq ?_
  refine AWP.region ?_
  refine ARun.build1s (lit_lt rfl) ty_sl_23 rfl rfl ?_
  intro b5 f5
  have g5 := f5
  repeat ((with_reducible replace g5 := fresh_set g5); obtain ⟨g5, _⟩ := g5)
  refine rC (Calm.assign rfl) ?_
  refine arun_nil ?_
  refine athen_n ?_
  refine AWP.sub [(0, _), (1, _), (2, _), (3, _)] ⟨rfl, rfl, rfl, rfl, trivial⟩ ?_
  refine AWP.seq ?_
  refine AWP.seq ?_
  refine AWP.region ?_
  refine rC (Calm.assign rfl) ?_
  refine arun_nil ?_
  refine athen_n ?_
  refine AWP.block ?_
  refine AWP.loop (X := Nat × Nat × Nat) (fun x => [(1, .pointer (some ⟨b1, 0, none⟩)), (3, .slice (some ⟨x.2.1, 0, none⟩) (x.1 + 1) x.2.2), (4, .int .i64 (32 * (x.1 + 1) : Nat))]) (fun x => (S.set b1 ⟨47, [.string s, .int .i64 N], 2⟩).set x.2.1 ⟨3, (pre s.data.toList (x.1 + 1)).map fun x => Value.int .i64 x, x.2.2⟩) (fun x => 32 * x.1 ≤ N ∧ OkO (S.set b1 ⟨47, [.string s, .int .i64 N], 2⟩) (some (x.2.1, x.2.2)) (x.1 + 1)) (fun x => N - 32 * x.1) ((0, b5, 1)) ⟨rfl, rfl, rfl, trivial⟩ less_ (⟨by omega, okO_own f5 (Nat.le_refl _)⟩) ?_
  rintro ⟨j, b, c⟩ ⟨hj, ho⟩
  (try dsimp only at *)
  obtain ⟨fb, hbc⟩ := ho.own b c rfl
  obtain ⟨gb, nb1⟩ := fresh_set fb
  have nb2 := Ne.symm nb1
  have hpl : ((pre s.data.toList (j + 1)).map fun x => Value.int .i64 x).length = j + 1 := by rw [List.length_map, pre_length]
  by_cases hl : 32 * (j + 1) ≤ N
  · refine AWP.seq ?_
    refine AWP.seq ?_
    refine AWP.region ?_
    refine rC (Calm.move rfl) ?_
    refine rC (Calm.fieldAddr ty_field_47_1 rfl) ?_
    refine rC (ld_ ty_plain_3 rfl) ?_
    refine rC (Calm.bin rfl rfl b_leq) ?_
    refine arun_nil ?_
    refine athen_n ?_
    refine AWP.sub [(1, _), (3, _), (4, _), (9, _)] ⟨rfl, rfl, rfl, rfl, trivial⟩ ?_
    refine AWP.condT rfl (by first | rfl | (simp; done) | (simp; omega)) ?_
    have hc1 := cnt_le s.data.toList (32 * j)
    have hc2 := cnt_le s.data.toList (32 * (j + 1))
    have hc3 := cnt_mono s.data.toList (a := 32 * j) (b := 32 * (j + 1)) (by omega)
    have k1 := kn_int (S := (S.set b1 ⟨47, [.string s, .int .i64 N], 2⟩).set b ⟨3, (pre s.data.toList (j + 1)).map fun x => Value.int .i64 x, c⟩) (b := b) (Mem.own_set_same _ _ _) j (x := (cnt s.data.toList (32 * j) : Int)) (by simp [pre])
    have k2 : Mem.Knows ((S.set b1 ⟨47, [.string s, .int .i64 N], 2⟩).set b ⟨3, (pre s.data.toList (j + 1)).map fun x => Value.int .i64 x, c⟩) ⟨b, 0 + (((j + 1 : Nat) : Int) - 1).toNat * 1, none⟩ [.int .i64 (cnt s.data.toList (32 * j) : Int)] := by rw [show (((j + 1 : Nat) : Int) - 1).toNat = j from by omega]; exact k1
    refine AWP.skip ?_
    refine athen_n ?_
    refine AWP.seq ?_
    refine AWP.block ?_
    refine AWP.draw [(0, true), (1, true), (2, true), (3, true), (4, true), (5, true), (6, true), (7, true), (8, true), (9, true), (10, true), (11, true), (12, false), (13, true), (14, false), (15, false), (16, true)] [15] mixed (by kernel_rfl) ?_
    refine draw_pure rfl rfl rfl rfl (lit_lt rfl) (fun _ => Calm.move rfl) ?_
    refine draw_pure rfl rfl rfl rfl (lit_lt rfl) (fun _ => Calm.move rfl) ?_
    refine draw_pure rfl rfl rfl rfl (lit_lt rfl) (fun _ => Calm.move rfl) ?_
    refine draw_calm rfl rfl rfl (lit_lt rfl) less_ (fun S' hS' => by obtain rfl := hS'.resolve_left (by decide); exact Calm.lenSl Try.underlying23 rfl) ?_
    refine draw_pure rfl rfl rfl rfl (lit_lt rfl) (fun _ => Calm.bin rfl rfl b_sub_i64) ?_
    refine draw_pure rfl rfl rfl rfl (lit_lt rfl) (fun _ => Calm.indexS Try.underlying23 ty_size_3 rfl rfl (by omega) (by omega)) ?_
    refine draw_calm rfl rfl rfl (lit_lt rfl) less_ (fun S' hS' => by obtain rfl := hS'.resolve_left (by decide); exact ld_ ty_plain_3 rfl) ?_
    refine draw_pure rfl rfl rfl rfl (lit_lt rfl) (fun _ => Calm.fieldAddr ty_field_47_0 rfl) ?_
    refine draw_calm rfl rfl rfl (lit_lt rfl) less_ (fun S' hS' => by obtain rfl := hS'.resolve_left (by decide); exact ld_ ty_plain_9 rfl) ?_
    refine draw_pure rfl rfl rfl rfl (lit_lt rfl) (fun _ => Calm.move rfl) ?_
    refine draw_pure rfl rfl rfl rfl (lit_lt rfl) (fun _ => Calm.bin rfl rfl b_sub_i64) ?_
    refine draw_pure rfl rfl rfl rfl (lit_lt rfl) (fun _ => Calm.move rfl) ?_
    refine draw_only rfl ?_
    refine ARun.call (lit_lt rfl) go_77 rfl (selV_onesI s _ _ (32 * j) (32 * (j + 1)) _ (by omega) (by omega) hs (by omega) (by omega) (by omega)) ?_
    rintro _ S1 ⟨rfl, h1⟩
    rw [h1]; clear h1 S1
    refine arun_nil ⟨fun _ => less_, ?_⟩
    refine draw_pure rfl rfl rfl rfl (lit_lt rfl) (fun _ => Calm.bin rfl rfl b_add_i64) ?_
    refine draw_only rfl ?_
    refine ARun.build1s (lit_lt rfl) ty_sl_23 rfl rfl ?_
    intro b26 f26
    have g26 := f26
    repeat ((with_reducible replace g26 := fresh_set g26); obtain ⟨g26, _⟩ := g26)
    refine arun_nil ⟨fun _ => less_, ?_⟩
    refine draw_only rfl ?_
    refine ARun.appendO (lit_lt rfl) ty_sl_23 rfl hpl (appO_of ho hpl f26) rfl (news := [_]) rds_ rfl (by omega) (by simp [Value.oneCell']) (by omega) (by omega) ?_
    intro b27 c27 ho2
    rw [show (cnt s.data.toList (32 * j) : Int) + (cnt s.data.toList (32 * (j + 1)) - cnt s.data.toList (32 * j) : Nat) = (cnt s.data.toList (32 * (j + 1)) : Int) from by omega]
    refine arun_nil ⟨fun h => absurd h (by decide), ?_⟩
    refine draw_pure rfl rfl rfl rfl (lit_lt rfl) (fun _ => Calm.assign rfl) ?_
    refine draw_nil ?_
    refine ain_n ?_
    refine athen_n ?_
    refine AWP.sub [(1, _), (3, _), (4, _), (9, _)] ⟨rfl, rfl, rfl, rfl, trivial⟩ ?_
    refine AWP.region ?_
    refine rC (Calm.move rfl) ?_
    refine rC (Calm.bin rfl rfl b_add_i64) ?_
    refine rC (Calm.assign rfl) ?_
    refine arun_nil ?_
    refine athen_n ?_
    refine ⟨(j + 1, b27, c27), ?_, ?_, ?_, ?_⟩
    all_goals (try dsimp only)
    · exact ⟨rfl, rfl, some_int (by omega), trivial⟩
    · rw [pre_succ s.data.toList (j + 1), List.map_append]; exact Mem.Less.refl _
    · exact ⟨hl, ho2⟩
    · omega
  · refine AWP.seq ?_
    refine AWP.seq ?_
    refine AWP.region ?_
    refine rC (Calm.move rfl) ?_
    refine rC (Calm.fieldAddr ty_field_47_1 rfl) ?_
    refine rC (ld_ ty_plain_3 rfl) ?_
    refine rC (Calm.bin rfl rfl b_leq) ?_
    refine arun_nil ?_
    refine athen_n ?_
    refine AWP.sub [(1, _), (3, _), (4, _), (9, _)] ⟨rfl, rfl, rfl, rfl, trivial⟩ ?_
    refine AWP.condF rfl (by first | rfl | (simp; done) | (simp; omega)) ?_
    have ej : pre s.data.toList (j + 1) = rows s.data.toList N := by rw [← pre_all, show N / 32 = j from by omega]
    have er : (rows s.data.toList N).length = j + 1 := by rw [rows_length, show N / 32 = j from by omega]
    rw [ej]
    refine AWP.exit ?_
    refine athen_exit ?_
    refine athen_exit ?_
    refine ain_same ?_
    refine athen_n ?_
    refine AWP.seq ?_
    refine AWP.region ?_
    refine rC (Calm.move rfl) ?_
    refine rC (Calm.assign rfl) ?_
    refine arun_nil ?_
    refine athen_n ?_
    refine AWP.sub [(1, _), (3, _), (4, _), (9, _), (2, _)] ⟨rfl, rfl, rfl, rfl, rfl, trivial⟩ ?_
    refine AWP.ret ?_
    refine ⟨_, S.set b ⟨3, (rows s.data.toList N).map fun x => Value.int .i64 x, c⟩, ⟨_, _, rfl, rfl, rfl⟩, less_, ?_⟩
    exact ⟨b, c, gb, by rw [er]; exact hbc, by rw [er]; rfl, rfl⟩
set_option maxHeartbeats 1000000 in
theorem rselV_counts (s : ByteArray) (N : Nat) (S : Mem) (hs : s.size ≤ 281474976710656) (hN : N ≤ 1048576) (hb : N ≤ 8 * s.size) :
    ACall Try.prog 59 #[.agg #[.string s, .int .i64 N]] S (RowsR s N S) := by
  refine ACall.enter (args := [.agg #[.string s, .int .i64 (N : Int)]]) (rs := [.tmp 2]) 31 [(0, .agg #[.string s, .int .i64 (N : Int)])] Try.func59 rfl rfl (Nat.le_of_ble_eq_true rfl) rfl ⟨rfl, trivial⟩ ?_
  refine AWP.seq ?_
  refine AWP.region ?_
  refine ARun.boxA (cs := [_, _]) (lit_lt rfl) rfl ?_
  intro b1 f1
  have g1 := f1
  repeat ((with_reducible replace g1 := fresh_set g1); obtain ⟨g1, _⟩ := g1)
  (try simp only [List.length_cons, List.length_nil, Nat.zero_add, Nat.reduceAdd])
  refine rC (Calm.assign rfl) ?_
  refine arun_nil ?_
  refine athen_n ?_
  refine AWP.seq ?_
  refine AWP.region ?_
  refine rC (Calm.assign rfl) ?_
  refine arun_nil ?_
  refine athen_n ?_
  refine AWP.seq ?_
  refine AWP.region ?_
  refine rC (Calm.assign rfl) ?_
  refine arun_nil ?_
  refine athen_n ?_
  refine AWP.seq ?_
  refine AWP.seq ?_
  refine AWP.region ?_
  refine rC (Calm.assign rfl) ?_
  refine arun_nil ?_
  refine athen_n ?_
  refine AWP.block ?_
  refine AWP.loop (X := Nat × Option (Nat × Nat)) (fun x => [(1, .pointer (some ⟨b1, 0, none⟩)), (3, outV x.2 ((x.1 + 31) / 32)), (4, .int .i64 (cnt s.data.toList (min x.1 N) : Nat)), (5, .int .i64 x.1)]) (fun x => outM (S.set b1 ⟨47, [.string s, .int .i64 N], 2⟩) x.2 3 ((pre s.data.toList ((x.1 + 31) / 32)).map fun x => Value.int .i64 x)) (fun x => x.1 ≤ N + 1 ∧ OkO (S.set b1 ⟨47, [.string s, .int .i64 N], 2⟩) x.2 ((x.1 + 31) / 32)) (fun x => N + 1 - x.1) ((0, none)) ⟨rfl, rfl, some_int (by simp [cnt_zero]), some_int (by omega), trivial⟩ (Mem.Less.refl _) (⟨Nat.zero_le _, okO_nil _⟩) ?_
  rintro ⟨i, o⟩ ⟨hi, ho⟩
  (try dsimp only at *)
  have hpl : ((pre s.data.toList ((i + 31) / 32)).map fun x => Value.int .i64 x).length = (i + 31) / 32 := by rw [List.length_map, pre_length]
  have own1 := own_outM (e := 3) (cs := ((pre s.data.toList ((i + 31) / 32)).map fun x => Value.int .i64 x)) ho (Mem.own_set_same S b1 ⟨47, [.string s, .int .i64 N], 2⟩)
  have kN1 : Mem.Knows (outM (S.set b1 ⟨47, [.string s, .int .i64 N], 2⟩) o 3 ((pre s.data.toList ((i + 31) / 32)).map fun x => Value.int .i64 x)) ⟨b1, 0 + 1, none⟩ [.int .i64 N] := Mem.own_knows own1 _ _ (fun j v hj => by cases j with | zero => exact hj | succ j => simp at hj)
  have kB1 : Mem.Knows (outM (S.set b1 ⟨47, [.string s, .int .i64 N], 2⟩) o 3 ((pre s.data.toList ((i + 31) / 32)).map fun x => Value.int .i64 x)) ⟨b1, 0, none⟩ [.string s, .int .i64 N] := Mem.own_knows own1 _ _ (fun j v hj => by rw [Nat.zero_add]; exact hj)
  by_cases hl : i ≤ N
  · have hci := cnt_le s.data.toList i
    have em : min i N = i := by omega
    rw [em]
    refine AWP.seq ?_
    refine AWP.seq ?_
    refine AWP.region ?_
    refine rC (Calm.move rfl) ?_
    refine rC (Calm.fieldAddr ty_field_47_1 rfl) ?_
    refine rC (ld_ ty_plain_3 rfl) ?_
    refine rC (Calm.bin rfl rfl b_leq) ?_
    refine arun_nil ?_
    refine athen_n ?_
    refine AWP.sub [(1, _), (3, _), (4, _), (5, _), (9, _)] ⟨rfl, rfl, rfl, rfl, rfl, trivial⟩ ?_
    refine AWP.condT rfl (by first | rfl | (simp; done) | (simp; omega)) ?_
    by_cases hm : i % 32 = 0
    · refine AWP.skip ?_
      refine athen_n ?_
      refine AWP.seq ?_
      refine AWP.block ?_
      refine AWP.seq ?_
      refine AWP.seq ?_
      refine AWP.region ?_
      refine rC (Calm.move rfl) ?_
      refine rC (Calm.bin rfl rfl b_rem) ?_
      refine rC (Calm.bin rfl rfl b_eql) ?_
      refine arun_nil ?_
      refine athen_n ?_
      refine AWP.sub [(1, _), (3, _), (4, _), (5, _), (9, _), (14, _)] ⟨rfl, rfl, rfl, rfl, rfl, rfl, trivial⟩ ?_
      refine AWP.condT rfl (by first | rfl | (simp; done) | (simp; omega)) ?_
      refine AWP.region ?_
      refine rC (Calm.move rfl) ?_
      refine rC (Calm.move rfl) ?_
      refine ARun.build1s (lit_lt rfl) ty_sl_23 rfl rfl ?_
      intro b17 f17
      have g17 := f17
      repeat ((with_reducible replace g17 := fresh_set g17); obtain ⟨g17, _⟩ := g17)
      refine ARun.appendO (lit_lt rfl) ty_sl_23 rfl hpl (appO_of ho hpl f17) rfl (news := [_]) rds_ rfl (by omega) (by simp [Value.oneCell']) (by omega) (by omega) ?_
      intro b18 c18 ho2
      have eN : (i + 31) / 32 + 1 = (i + 1 + 31) / 32 := by omega
      have eL : ((pre s.data.toList ((i + 31) / 32)).map fun x => Value.int .i64 x) ++ [.int .i64 (cnt s.data.toList i : Nat)] = ((pre s.data.toList ((i + 1 + 31) / 32)).map fun x => Value.int .i64 x) := by rw [← eN, pre_succ, List.map_append, show 32 * ((i + 31) / 32) = i from by omega]; rfl
      rw [eL]
      rw [eN] at ho2 ⊢
      have own2 := own_outM (e := 3) (cs := ((pre s.data.toList ((i + 1 + 31) / 32)).map fun x => Value.int .i64 x)) ho2 (Mem.own_set_same S b1 ⟨47, [.string s, .int .i64 N], 2⟩)
      have kN2 : Mem.Knows (outM (S.set b1 ⟨47, [.string s, .int .i64 N], 2⟩) (some (b18, c18)) 3 ((pre s.data.toList ((i + 1 + 31) / 32)).map fun x => Value.int .i64 x)) ⟨b1, 0 + 1, none⟩ [.int .i64 N] := Mem.own_knows own2 _ _ (fun j v hj => by cases j with | zero => exact hj | succ j => simp at hj)
      have kB2 : Mem.Knows (outM (S.set b1 ⟨47, [.string s, .int .i64 N], 2⟩) (some (b18, c18)) 3 ((pre s.data.toList ((i + 1 + 31) / 32)).map fun x => Value.int .i64 x)) ⟨b1, 0, none⟩ [.string s, .int .i64 N] := Mem.own_knows own2 _ _ (fun j v hj => by rw [Nat.zero_add]; exact hj)
      refine rC (Calm.assign rfl) ?_
      refine arun_nil ?_
      refine athen_n ?_
      refine AWP.sub [(1, _), (3, _), (4, _), (5, _), (9, _), (14, _)] ⟨rfl, rfl, rfl, rfl, rfl, rfl, trivial⟩ ?_
      by_cases hn : i < N
      · have em2 : min (i + 1) N = i + 1 := by omega
        refine AWP.seq ?_
        refine AWP.region ?_
        refine rC (Calm.move rfl) ?_
        refine rC (Calm.fieldAddr ty_field_47_1 rfl) ?_
        refine rC (ld_ ty_plain_3 rfl) ?_
        refine rC (Calm.bin rfl rfl b_lss) ?_
        refine rC (Calm.move rfl) ?_
        first | refine rS 23 ?_ | refine rU 23 ?_ | refine rG 23 (ldA_ (cs := [_, _]) ty_agg_47 ty_size_47 rfl) ?_
        first | refine rS 23 ?_ | refine rU 23 ?_ | refine rG 23 (Calm.move rfl) ?_
        refine ARun.callG 4 true 23 rfl (lit_lt rfl) rfl (lit_lt rfl) go_68 rfl (refV_Is s N i _ (by omega) (by omega) hs) ?_
        rintro _ S1 ⟨rfl, h1⟩
        rw [h1, Int.toNat_natCast]; clear h1 S1
        refine rC ((by first | exact Calm.pickT rfl rfl | exact Calm.pickF rfl rfl)) ?_
        refine arun_nil ?_
        refine athen_n ?_
        refine AWP.sub [(1, _), (3, _), (4, _), (5, _), (9, _), (14, _), (27, _)] ⟨rfl, rfl, rfl, rfl, rfl, rfl, rfl, trivial⟩ ?_
        rcases Bool.eq_false_or_eq_true (isBit s.data.toList i) with hbt | hbt
        · have hcs := cnt_succ s.data.toList i; rw [hbt] at hcs; simp only [if_true, if_false, Bool.false_eq_true] at hcs
          refine AWP.condT rfl (hbt) ?_
          refine AWP.region ?_
          refine rC (Calm.move rfl) ?_
          refine rC (Calm.bin rfl rfl b_add_i64) ?_
          refine rC (Calm.assign rfl) ?_
          refine arun_nil ?_
          refine ain_n ?_
          refine athen_n ?_
          refine AWP.sub [(1, _), (3, _), (4, _), (5, _), (9, _), (14, _), (27, _)] ⟨rfl, rfl, rfl, rfl, rfl, rfl, rfl, trivial⟩ ?_
          refine AWP.region ?_
          refine rC (Calm.move rfl) ?_
          refine rC (Calm.bin rfl rfl b_add_i64) ?_
          refine rC (Calm.assign rfl) ?_
          refine arun_nil ?_
          refine athen_n ?_
          refine ⟨(i + 1, (some (b18, c18))), ?_, ?_, ?_, ?_⟩
          all_goals (try dsimp only)
          · exact ⟨rfl, rfl, some_int (by rw [em2, hcs]; omega), some_int (by omega), trivial⟩
          · exact Mem.Less.refl _
          · exact ⟨by omega, ho2⟩
          · omega
        · have hcs := cnt_succ s.data.toList i; rw [hbt] at hcs; simp only [if_true, if_false, Bool.false_eq_true] at hcs
          refine AWP.condF rfl (hbt) ?_
          refine AWP.skip ?_
          refine ain_n ?_
          refine athen_n ?_
          refine AWP.region ?_
          refine rC (Calm.move rfl) ?_
          refine rC (Calm.bin rfl rfl b_add_i64) ?_
          refine rC (Calm.assign rfl) ?_
          refine arun_nil ?_
          refine athen_n ?_
          refine ⟨(i + 1, (some (b18, c18))), ?_, ?_, ?_, ?_⟩
          all_goals (try dsimp only)
          · exact ⟨rfl, rfl, some_int (by rw [em2, hcs]; omega), some_int (by omega), trivial⟩
          · exact Mem.Less.refl _
          · exact ⟨by omega, ho2⟩
          · omega
      · have em2 : min (i + 1) N = i := by omega
        refine AWP.seq ?_
        refine AWP.region ?_
        refine rC (Calm.move rfl) ?_
        refine rC (Calm.fieldAddr ty_field_47_1 rfl) ?_
        refine rC (ld_ ty_plain_3 rfl) ?_
        refine rC (Calm.bin rfl rfl b_lss) ?_
        refine rC (Calm.move rfl) ?_
        first | refine rS 23 ?_ | refine rU 23 ?_ | refine rG 23 (ldA_ (cs := [_, _]) ty_agg_47 ty_size_47 rfl) ?_
        first | refine rS 23 ?_ | refine rU 23 ?_ | refine rG 23 (Calm.move rfl) ?_
        first | refine rS 23 ?_ | refine rU 23 ?_
        refine rC ((by first | exact Calm.pickT rfl rfl | exact Calm.pickF rfl rfl)) ?_
        refine arun_nil ?_
        refine athen_n ?_
        refine AWP.sub [(1, _), (3, _), (4, _), (5, _), (9, _), (14, _), (27, _)] ⟨rfl, rfl, rfl, rfl, rfl, rfl, rfl, trivial⟩ ?_
        refine AWP.condF rfl (by first | rfl | (simp; done) | (simp; omega)) ?_
        refine AWP.skip ?_
        refine ain_n ?_
        refine athen_n ?_
        refine AWP.region ?_
        refine rC (Calm.move rfl) ?_
        refine rC (Calm.bin rfl rfl b_add_i64) ?_
        refine rC (Calm.assign rfl) ?_
        refine arun_nil ?_
        refine athen_n ?_
        refine ⟨(i + 1, (some (b18, c18))), ?_, ?_, ?_, ?_⟩
        all_goals (try dsimp only)
        · exact ⟨rfl, rfl, some_int (by rw [em2]), some_int (by omega), trivial⟩
        · exact Mem.Less.refl _
        · exact ⟨by omega, ho2⟩
        · omega
    · refine AWP.skip ?_
      refine athen_n ?_
      refine AWP.seq ?_
      refine AWP.block ?_
      refine AWP.seq ?_
      refine AWP.seq ?_
      refine AWP.region ?_
      refine rC (Calm.move rfl) ?_
      refine rC (Calm.bin rfl rfl b_rem) ?_
      refine rC (Calm.bin rfl rfl b_eql) ?_
      refine arun_nil ?_
      refine athen_n ?_
      refine AWP.sub [(1, _), (3, _), (4, _), (5, _), (9, _), (14, _)] ⟨rfl, rfl, rfl, rfl, rfl, rfl, trivial⟩ ?_
      refine AWP.condF rfl (by first | rfl | (simp; done) | (simp; omega)) ?_
      have eN : (i + 31) / 32 = (i + 1 + 31) / 32 := by omega
      rw [eN] at ho ⊢
      have own2 := own_outM (e := 3) (cs := ((pre s.data.toList ((i + 1 + 31) / 32)).map fun x => Value.int .i64 x)) ho (Mem.own_set_same S b1 ⟨47, [.string s, .int .i64 N], 2⟩)
      have kN2 : Mem.Knows (outM (S.set b1 ⟨47, [.string s, .int .i64 N], 2⟩) o 3 ((pre s.data.toList ((i + 1 + 31) / 32)).map fun x => Value.int .i64 x)) ⟨b1, 0 + 1, none⟩ [.int .i64 N] := Mem.own_knows own2 _ _ (fun j v hj => by cases j with | zero => exact hj | succ j => simp at hj)
      have kB2 : Mem.Knows (outM (S.set b1 ⟨47, [.string s, .int .i64 N], 2⟩) o 3 ((pre s.data.toList ((i + 1 + 31) / 32)).map fun x => Value.int .i64 x)) ⟨b1, 0, none⟩ [.string s, .int .i64 N] := Mem.own_knows own2 _ _ (fun j v hj => by rw [Nat.zero_add]; exact hj)
      by_cases hn : i < N
      · have em2 : min (i + 1) N = i + 1 := by omega
        refine AWP.skip ?_
        refine athen_n ?_
        refine AWP.seq ?_
        refine AWP.region ?_
        refine rC (Calm.move rfl) ?_
        refine rC (Calm.fieldAddr ty_field_47_1 rfl) ?_
        refine rC (ld_ ty_plain_3 rfl) ?_
        refine rC (Calm.bin rfl rfl b_lss) ?_
        refine rC (Calm.move rfl) ?_
        first | refine rS 23 ?_ | refine rU 23 ?_ | refine rG 23 (ldA_ (cs := [_, _]) ty_agg_47 ty_size_47 rfl) ?_
        first | refine rS 23 ?_ | refine rU 23 ?_ | refine rG 23 (Calm.move rfl) ?_
        refine ARun.callG 4 true 23 rfl (lit_lt rfl) rfl (lit_lt rfl) go_68 rfl (refV_Is s N i _ (by omega) (by omega) hs) ?_
        rintro _ S1 ⟨rfl, h1⟩
        rw [h1, Int.toNat_natCast]; clear h1 S1
        refine rC ((by first | exact Calm.pickT rfl rfl | exact Calm.pickF rfl rfl)) ?_
        refine arun_nil ?_
        refine athen_n ?_
        refine AWP.sub [(1, _), (3, _), (4, _), (5, _), (9, _), (14, _), (27, _)] ⟨rfl, rfl, rfl, rfl, rfl, rfl, rfl, trivial⟩ ?_
        rcases Bool.eq_false_or_eq_true (isBit s.data.toList i) with hbt | hbt
        · have hcs := cnt_succ s.data.toList i; rw [hbt] at hcs; simp only [if_true, if_false, Bool.false_eq_true] at hcs
          refine AWP.condT rfl (hbt) ?_
          refine AWP.region ?_
          refine rC (Calm.move rfl) ?_
          refine rC (Calm.bin rfl rfl b_add_i64) ?_
          refine rC (Calm.assign rfl) ?_
          refine arun_nil ?_
          refine ain_n ?_
          refine athen_n ?_
          refine AWP.sub [(1, _), (3, _), (4, _), (5, _), (9, _), (14, _), (27, _)] ⟨rfl, rfl, rfl, rfl, rfl, rfl, rfl, trivial⟩ ?_
          refine AWP.region ?_
          refine rC (Calm.move rfl) ?_
          refine rC (Calm.bin rfl rfl b_add_i64) ?_
          refine rC (Calm.assign rfl) ?_
          refine arun_nil ?_
          refine athen_n ?_
          refine ⟨(i + 1, o), ?_, ?_, ?_, ?_⟩
          all_goals (try dsimp only)
          · exact ⟨rfl, rfl, some_int (by rw [em2, hcs]; omega), some_int (by omega), trivial⟩
          · exact Mem.Less.refl _
          · exact ⟨by omega, ho⟩
          · omega
        · have hcs := cnt_succ s.data.toList i; rw [hbt] at hcs; simp only [if_true, if_false, Bool.false_eq_true] at hcs
          refine AWP.condF rfl (hbt) ?_
          refine AWP.skip ?_
          refine ain_n ?_
          refine athen_n ?_
          refine AWP.region ?_
          refine rC (Calm.move rfl) ?_
          refine rC (Calm.bin rfl rfl b_add_i64) ?_
          refine rC (Calm.assign rfl) ?_
          refine arun_nil ?_
          refine athen_n ?_
          refine ⟨(i + 1, o), ?_, ?_, ?_, ?_⟩
          all_goals (try dsimp only)
          · exact ⟨rfl, rfl, some_int (by rw [em2, hcs]; omega), some_int (by omega), trivial⟩
          · exact Mem.Less.refl _
          · exact ⟨by omega, ho⟩
          · omega
      · have em2 : min (i + 1) N = i := by omega
        refine AWP.skip ?_
        refine athen_n ?_
        refine AWP.seq ?_
        refine AWP.region ?_
        refine rC (Calm.move rfl) ?_
        refine rC (Calm.fieldAddr ty_field_47_1 rfl) ?_
        refine rC (ld_ ty_plain_3 rfl) ?_
        refine rC (Calm.bin rfl rfl b_lss) ?_
        refine rC (Calm.move rfl) ?_
        first | refine rS 23 ?_ | refine rU 23 ?_ | refine rG 23 (ldA_ (cs := [_, _]) ty_agg_47 ty_size_47 rfl) ?_
        first | refine rS 23 ?_ | refine rU 23 ?_ | refine rG 23 (Calm.move rfl) ?_
        first | refine rS 23 ?_ | refine rU 23 ?_
        refine rC ((by first | exact Calm.pickT rfl rfl | exact Calm.pickF rfl rfl)) ?_
        refine arun_nil ?_
        refine athen_n ?_
        refine AWP.sub [(1, _), (3, _), (4, _), (5, _), (9, _), (14, _), (27, _)] ⟨rfl, rfl, rfl, rfl, rfl, rfl, rfl, trivial⟩ ?_
        refine AWP.condF rfl (by first | rfl | (simp; done) | (simp; omega)) ?_
        refine AWP.skip ?_
        refine ain_n ?_
        refine athen_n ?_
        refine AWP.region ?_
        refine rC (Calm.move rfl) ?_
        refine rC (Calm.bin rfl rfl b_add_i64) ?_
        refine rC (Calm.assign rfl) ?_
        refine arun_nil ?_
        refine athen_n ?_
        refine ⟨(i + 1, o), ?_, ?_, ?_, ?_⟩
        all_goals (try dsimp only)
        · exact ⟨rfl, rfl, some_int (by rw [em2]), some_int (by omega), trivial⟩
        · exact Mem.Less.refl _
        · exact ⟨by omega, ho⟩
        · omega
  · refine AWP.seq ?_
    refine AWP.seq ?_
    refine AWP.region ?_
    refine rC (Calm.move rfl) ?_
    refine rC (Calm.fieldAddr ty_field_47_1 rfl) ?_
    refine rC (ld_ ty_plain_3 rfl) ?_
    refine rC (Calm.bin rfl rfl b_leq) ?_
    refine arun_nil ?_
    refine athen_n ?_
    refine AWP.sub [(1, _), (3, _), (4, _), (5, _), (9, _)] ⟨rfl, rfl, rfl, rfl, rfl, trivial⟩ ?_
    refine AWP.condF rfl (by first | rfl | (simp; done) | (simp; omega)) ?_
    obtain rfl : i = N + 1 := by omega
    have eN : (N + 1 + 31) / 32 = N / 32 + 1 := by omega
    rw [eN] at ho ⊢
    obtain ⟨b, c, rfl⟩ := ho.some (by omega)
    obtain ⟨fb, hbc⟩ := ho.own b c rfl
    obtain ⟨gb, nb1⟩ := fresh_set fb
    have nb2 := Ne.symm nb1
    have er : (rows s.data.toList N).length = N / 32 + 1 := rows_length _ _
    refine AWP.exit ?_
    refine athen_exit ?_
    refine athen_exit ?_
    refine ain_same ?_
    refine athen_n ?_
    refine AWP.seq ?_
    refine AWP.region ?_
    refine rC (Calm.move rfl) ?_
    refine rC (Calm.assign rfl) ?_
    refine arun_nil ?_
    refine athen_n ?_
    refine AWP.sub [(1, _), (3, _), (4, _), (5, _), (9, _), (2, _)] ⟨rfl, rfl, rfl, rfl, rfl, rfl, trivial⟩ ?_
    refine AWP.ret ?_
    refine ⟨_, S.set b ⟨3, (rows s.data.toList N).map fun x => Value.int .i64 x, c⟩, ⟨_, _, rfl, rfl, rfl⟩, (show (S.set b ⟨3, (rows s.data.toList N).map fun x => Value.int .i64 x, c⟩).Less ((S.set b1 ⟨47, [.string s, .int .i64 N], 2⟩).set b ⟨3, (rows s.data.toList N).map fun x => Value.int .i64 x, c⟩) from less_), ?_⟩
    exact ⟨b, c, gb, by rw [er]; exact hbc, by rw [er]; rfl, rfl⟩
end Go.Proofs.Ytddabbfjoejalaa
