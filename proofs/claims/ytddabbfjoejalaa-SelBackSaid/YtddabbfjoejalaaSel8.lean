/-
  Sel: the n-th bit that is 1, by the program.
-/
import Derived.Test.YtddabbfjoejalaaSel7
namespace Go.Proofs.Ytddabbfjoejalaa
open Go.RowKit
open Mv Bits Sel
set_option linter.unusedVariables false
set_option linter.unusedSimpArgs false
set_option maxRecDepth 20000
theorem nth_skip (B : List UInt8) (N n : Nat) : ∀ a, a ≤ N → cnt B a ≤ n → nth B N 0 n = nth B (N - a) a (n - cnt B a) := by
  intro a
  induction a with
  | zero => intro _ _; rw [cnt_zero]; rfl
  | succ a ih =>
    intro ha hc
    have h1 := cnt_succ B a
    rw [ih (by omega) (by omega)]
    obtain ⟨d, hd⟩ : ∃ d, N - a = d + 1 := ⟨N - a - 1, by omega⟩
    rw [hd, nth, show N - (a + 1) = d from by omega]
    cases hb : isBit B a with
    | true =>
      rw [hb, if_pos rfl] at h1
      rw [if_pos rfl, if_neg (by omega), h1]; congr 1
    | false =>
      rw [hb, if_neg (by decide)] at h1
      rw [if_neg (by decide), h1]; rfl
theorem rows_mono (B : List UInt8) (N : Nat) : ∀ i j (h : i < (rows B N).length) (h' : j < (rows B N).length), i ≤ j → (rows B N)[i] ≤ (rows B N)[j] := fun i j h h' hij => by
  rw [rows_get, rows_get]
  have := cnt_mono B (a := 32 * i) (b := 32 * j) (by omega)
  omega
def findV (o : Option Nat) : Value := match o with
  | some i => .tuple #[.int .i64 (i : Nat), .bool true]
  | none => .tuple #[.int .i64 0, .bool false]
set_option maxHeartbeats 1000000 in
theorem selV_find (p : Nat) (s : ByteArray) (n m : Nat) (hc : Value) (S : Mem) (hs : s.size ≤ 200000) (hp : S.own p = some (sheetB s n hc)) (hv : Sl 1 i64s S hc (rows s.data.toList n)) (hn : n ≤ 8 * s.size) (hn2 : n ≤ 1048576) (hmn : m ≤ 1048576) :
    ACall Try.prog 79 #[.pointer (some ⟨p, 0, none⟩), .int .i64 m] S fun r S' => r = findV (nth s.data.toList n 0 m) ∧ S' = S := by
  have hps := hp
  unfold sheetB at hp
  have hrl := rows_length s.data.toList n
  obtain ⟨pc, cc, rfl, a1, a2, a3⟩ := id hv
  obtain ⟨b0, off, rfl, hkn⟩ := a3.resolve_left (by intro h; rw [h] at hrl; simp at hrl)
  have hse := fun S' h => selV_SearchInts (rows s.data.toList n) ((m : Int) + 1) (.slice (some ⟨b0, off, none⟩) (rows s.data.toList n).length cc) S' h (rows_mono _ _) (by omega)
  refine ACall.enter (args := [.pointer (some ⟨p, 0, none⟩), .int .i64 (m : Int)]) (rs := [.tmp 4, .tmp 5]) 51 [(0, .pointer (some ⟨p, 0, none⟩)), (1, .int .i64 (m : Int))] Try.func79 rfl rfl (Nat.le_of_ble_eq_true rfl) rfl ⟨rfl, rfl, trivial⟩ ?_
  refine AWP.seq ?_
  refine AWP.region ?_
  refine rC (Calm.assign rfl) ?_
  refine rC (Calm.assign rfl) ?_
  refine arun_nil ?_
  refine athen_n ?_
  refine AWP.seq ?_
  refine AWP.region ?_
  refine rC (Calm.move rfl) ?_
  refine rC (Calm.nilCheck rfl) ?_
  refine rC (Calm.fieldAddr ty_field_92_0 rfl) ?_
  refine rC (Calm.fieldAddr ty_field_49_1 rfl) ?_
  refine rC (ld_ ty_plain_23 rfl) ?_
  refine rC (Calm.move rfl) ?_
  refine rC (Calm.bin rfl rfl b_add_i64) ?_
  refine ARun.call (lit_lt rfl) go_84 rfl (hse _ hv) ?_
  rintro _ S1 ⟨⟨k, rfl, hk1, hk2, hk3⟩, h1⟩
  rw [h1]; clear h1 S1
  have hk0 : 1 ≤ k := by rcases Nat.eq_zero_or_pos k with e | e; (have := hk3 0 (by omega) (by omega); rw [rows_get] at this; simp [cnt_zero] at this; omega); exact e
  obtain ⟨j, rfl⟩ : ∃ j, k = j + 1 := ⟨k - 1, by omega⟩
  have hj := hk2 j (by omega) (by omega)
  rw [rows_get] at hj
  have k1 := hkn j (by omega)
  rw [rows_get] at k1; unfold i64s at k1
  have k2 : S.Knows ⟨b0, off + (((j + 1 : Nat) : Int) - 1).toNat * 1, none⟩ [.int .i64 (cnt s.data.toList (32 * j) : Nat)] := by rw [show (((j + 1 : Nat) : Int) - 1).toNat = j from by omega]; exact k1
  have hsk := nth_skip s.data.toList n m (32 * j) (by omega) (by omega)
  have hcl := cnt_le s.data.toList (32 * j)
  refine rC (Calm.bin rfl rfl b_sub_i64) ?_
  refine rC (Calm.assign rfl) ?_
  refine arun_nil ?_
  refine athen_n ?_
  refine AWP.sub [(0, _), (1, _), (4, _), (5, _), (6, _)] ⟨rfl, rfl, rfl, rfl, rfl, trivial⟩ ?_
  refine AWP.seq ?_
  refine AWP.seq ?_
  refine AWP.region ?_
  refine rC (Calm.move rfl) ?_
  refine rC (Calm.bin rfl rfl b_lss) ?_
  refine arun_nil ?_
  refine athen_n ?_
  refine AWP.sub [(0, _), (1, _), (4, _), (5, _), (6, _), (19, _)] ⟨rfl, rfl, rfl, rfl, rfl, rfl, trivial⟩ ?_
  refine AWP.condF rfl (by first | rfl | (simp; done) | (simp; omega)) ?_
  refine AWP.skip ?_
  refine athen_n ?_
  refine AWP.seq ?_
  refine AWP.region ?_
  refine rC (Calm.move rfl) ?_
  refine rC (Calm.move rfl) ?_
  refine rC (Calm.nilCheck rfl) ?_
  refine rC (Calm.fieldAddr ty_field_92_0 rfl) ?_
  refine rC (Calm.fieldAddr ty_field_49_1 rfl) ?_
  refine rC (ld_ ty_plain_23 rfl) ?_
  refine rC (Calm.move rfl) ?_
  refine rC (Calm.indexS Try.underlying23 ty_size_3 rfl rfl (by omega) (by omega)) ?_
  refine rC (ld_ ty_plain_3 rfl) ?_
  refine rC (Calm.bin rfl rfl b_sub_i64) ?_
  refine rC (Calm.assign rfl) ?_
  refine arun_nil ?_
  refine athen_n ?_
  refine AWP.sub [(0, _), (1, _), (4, _), (5, _), (6, _), (19, _), (7, _)] ⟨rfl, rfl, rfl, rfl, rfl, rfl, rfl, trivial⟩ ?_
  refine AWP.seq ?_
  refine AWP.seq ?_
  refine AWP.region ?_
  refine rC (Calm.move rfl) ?_
  refine rC (Calm.bin rfl rfl b_mul_i64) ?_
  refine rC (Calm.assign rfl) ?_
  refine arun_nil ?_
  refine athen_n ?_
  refine AWP.sub [(0, _), (1, _), (4, _), (5, _), (6, _), (19, _), (7, _), (8, _)] ⟨rfl, rfl, rfl, rfl, rfl, rfl, rfl, rfl, trivial⟩ ?_
  refine AWP.block ?_
  refine AWP.loop (X := Nat × Nat) (fun x => [(0, .pointer (some ⟨p, 0, none⟩)), (7, .int .i64 x.2), (8, .int .i64 x.1)]) (fun x => S) (fun x => x.1 ≤ n ∧ x.2 ≤ 1048576 ∧ nth s.data.toList (n - x.1) x.1 x.2 = nth s.data.toList n 0 m) (fun x => n - x.1) ((32 * j, m - cnt s.data.toList (32 * j))) ⟨rfl, some_int (by omega), some_int (by omega), trivial⟩ (Mem.Less.refl _) (⟨by omega, by omega, hsk.symm⟩) ?_
  rintro ⟨i, l⟩ ⟨hi0, hl0, hq⟩
  (try dsimp only at *)
  by_cases hl : i < n
  · obtain ⟨d, hd⟩ : ∃ d, n - i = d + 1 := ⟨n - i - 1, by omega⟩
    rw [hd, nth] at hq
    have hd2 : n - (i + 1) = d := by omega
    refine AWP.seq ?_
    refine AWP.seq ?_
    refine AWP.region ?_
    refine rC (Calm.move rfl) ?_
    refine rC (Calm.move rfl) ?_
    refine rC (Calm.nilCheck rfl) ?_
    refine rC (Calm.fieldAddr ty_field_92_0 rfl) ?_
    refine rC (Calm.fieldAddr ty_field_49_0 rfl) ?_
    refine rC (Calm.fieldAddr ty_field_47_1 rfl) ?_
    refine rC (ld_ ty_plain_3 rfl) ?_
    refine rC (Calm.bin rfl rfl b_lss) ?_
    refine arun_nil ?_
    refine athen_n ?_
    refine AWP.sub [(0, _), (7, _), (8, _), (39, _)] ⟨rfl, rfl, rfl, rfl, trivial⟩ ?_
    refine AWP.condT rfl (by first | rfl | (simp; done) | (simp; omega)) ?_
    refine AWP.skip ?_
    refine athen_n ?_
    refine AWP.seq ?_
    refine AWP.block ?_
    refine AWP.seq ?_
    refine AWP.seq ?_
    refine AWP.region ?_
    refine rC (Calm.move rfl) ?_
    refine rC (Calm.move rfl) ?_
    refine ARun.call (lit_lt rfl) go_85 rfl (selV_Is p s n i _ S hs hps (by omega)) ?_
    rintro _ S1 ⟨rfl, h1⟩
    rw [h1]; clear h1 S1
    refine rC (Calm.un rfl (una_not _)) ?_
    refine arun_nil ?_
    refine athen_n ?_
    refine AWP.sub [(0, _), (7, _), (8, _), (39, _), (45, _)] ⟨rfl, rfl, rfl, rfl, rfl, trivial⟩ ?_
    rcases Bool.eq_false_or_eq_true (isBit s.data.toList i) with hbt | hbt
    · rw [if_pos hbt] at hq
      refine AWP.condF rfl ((by rw [hbt]; rfl)) ?_
      by_cases hmz : l = 0
      · rw [if_pos hmz] at hq
        refine AWP.skip ?_
        refine athen_n ?_
        refine AWP.seq ?_
        refine AWP.seq ?_
        refine AWP.region ?_
        refine rC (Calm.move rfl) ?_
        refine rC (Calm.bin rfl rfl b_eql) ?_
        refine arun_nil ?_
        refine athen_n ?_
        refine AWP.sub [(0, _), (7, _), (8, _), (39, _), (45, _), (47, _)] ⟨rfl, rfl, rfl, rfl, rfl, rfl, trivial⟩ ?_
        refine AWP.condT rfl (by first | rfl | (simp; done) | (simp; omega)) ?_
        refine AWP.seq ?_
        refine AWP.region ?_
        refine rC (Calm.move rfl) ?_
        refine rC (Calm.assign rfl) ?_
        refine rC (Calm.assign rfl) ?_
        refine arun_nil ?_
        refine athen_n ?_
        refine AWP.sub [(0, _), (7, _), (8, _), (39, _), (45, _), (47, _), (4, _), (5, _)] ⟨rfl, rfl, rfl, rfl, rfl, rfl, rfl, rfl, trivial⟩ ?_
        refine AWP.ret ?_
        refine athen_ret ?_
        refine ain_ret ?_
        refine athen_ret ?_
        refine athen_ret ?_
        refine ain_ret ?_
        refine athen_ret ?_
        refine ⟨_, S, ⟨_, _, rfl, ⟨_, _, rfl, rfl, rfl⟩, rfl⟩, less_, ?_⟩
        exact ⟨by rw [← hq]; rfl, rfl⟩
      · rw [if_neg hmz] at hq
        refine AWP.skip ?_
        refine athen_n ?_
        refine AWP.seq ?_
        refine AWP.seq ?_
        refine AWP.region ?_
        refine rC (Calm.move rfl) ?_
        refine rC (Calm.bin rfl rfl b_eql) ?_
        refine arun_nil ?_
        refine athen_n ?_
        refine AWP.sub [(0, _), (7, _), (8, _), (39, _), (45, _), (47, _)] ⟨rfl, rfl, rfl, rfl, rfl, rfl, trivial⟩ ?_
        refine AWP.condF rfl (by first | rfl | (simp; done) | (simp; omega)) ?_
        refine AWP.skip ?_
        refine athen_n ?_
        refine AWP.region ?_
        refine rC (Calm.move rfl) ?_
        refine rC (Calm.bin rfl rfl b_sub_i64) ?_
        refine rC (Calm.assign rfl) ?_
        refine arun_nil ?_
        refine ain_n ?_
        refine athen_n ?_
        refine AWP.sub [(0, _), (7, _), (8, _), (39, _), (45, _), (47, _)] ⟨rfl, rfl, rfl, rfl, rfl, rfl, trivial⟩ ?_
        refine AWP.region ?_
        refine rC (Calm.move rfl) ?_
        refine rC (Calm.bin rfl rfl b_add_i64) ?_
        refine rC (Calm.assign rfl) ?_
        refine arun_nil ?_
        refine athen_n ?_
        refine ⟨(i + 1, l - 1), ?_, ?_, ?_, ?_⟩
        all_goals (try dsimp only)
        · exact ⟨rfl, some_int (by omega), some_int (by omega), trivial⟩
        · exact Mem.Less.refl _
        · exact ⟨hl, by omega, by rw [hd2]; exact hq⟩
        · omega
    · rw [if_neg (by rw [hbt]; decide)] at hq
      refine AWP.condT rfl ((by rw [hbt]; rfl)) ?_
      refine AWP.exit ?_
      refine athen_exit ?_
      refine ain_same ?_
      refine athen_n ?_
      refine AWP.region ?_
      refine rC (Calm.move rfl) ?_
      refine rC (Calm.bin rfl rfl b_add_i64) ?_
      refine rC (Calm.assign rfl) ?_
      refine arun_nil ?_
      refine athen_n ?_
      refine ⟨(i + 1, l), ?_, ?_, ?_, ?_⟩
      all_goals (try dsimp only)
      · exact ⟨rfl, rfl, some_int (by omega), trivial⟩
      · exact Mem.Less.refl _
      · exact ⟨hl, by omega, by rw [hd2]; exact hq⟩
      · omega
  · rw [show n - i = 0 from by omega, nth] at hq
    refine AWP.seq ?_
    refine AWP.seq ?_
    refine AWP.region ?_
    refine rC (Calm.move rfl) ?_
    refine rC (Calm.move rfl) ?_
    refine rC (Calm.nilCheck rfl) ?_
    refine rC (Calm.fieldAddr ty_field_92_0 rfl) ?_
    refine rC (Calm.fieldAddr ty_field_49_0 rfl) ?_
    refine rC (Calm.fieldAddr ty_field_47_1 rfl) ?_
    refine rC (ld_ ty_plain_3 rfl) ?_
    refine rC (Calm.bin rfl rfl b_lss) ?_
    refine arun_nil ?_
    refine athen_n ?_
    refine AWP.sub [(0, _), (7, _), (8, _), (39, _)] ⟨rfl, rfl, rfl, rfl, trivial⟩ ?_
    refine AWP.condF rfl (by first | rfl | (simp; done) | (simp; omega)) ?_
    refine AWP.exit ?_
    refine athen_exit ?_
    refine athen_exit ?_
    refine ain_same ?_
    refine athen_n ?_
    refine AWP.seq ?_
    refine AWP.region ?_
    refine rC (Calm.assign rfl) ?_
    refine rC (Calm.assign rfl) ?_
    refine arun_nil ?_
    refine athen_n ?_
    refine AWP.ret ?_
    refine ⟨_, S, ⟨_, _, rfl, ⟨_, _, rfl, rfl, rfl⟩, rfl⟩, less_, ?_⟩
    exact ⟨by rw [← hq]; rfl, rfl⟩
end Go.Proofs.Ytddabbfjoejalaa
