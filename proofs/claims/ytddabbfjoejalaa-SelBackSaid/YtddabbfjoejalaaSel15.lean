/-
  Sel: the laws SelNext, SelBack, SelRise walked.
-/
import Derived.Test.YtddabbfjoejalaaSel13
namespace Go.Proofs.Ytddabbfjoejalaa
open Go.RowKit
open Mv Bits Sel
set_option linter.unusedVariables false
set_option linter.unusedSimpArgs false
set_option maxRecDepth 20000
namespace Sel
variable {s : ByteArray} {N : Int} {cs : List Int}
theorem rank_ok {n : Nat} (hk : chkR s N cs = 0) (hN : (n : Int) ≤ N) : rankP s N cs n = (((cnt s.data.toList n : Nat) : Int), 0) := by
  unfold rankP; rw [if_neg (fun h => h hk), if_neg (by omega), Int.toNat_natCast]
theorem select_ok (n : Nat) (hk : chkR s N cs = 0) : selectP s N cs n = optP (nth s.data.toList N.toNat 0 n) := by
  unfold selectP; rw [if_neg (fun h => h hk), if_neg (by omega), Int.toNat_natCast]
theorem get_ok {i : Nat} (hk : chk s.data.toList N = 0) (h : (i : Int) < N) : getP s N i 1 = two (.int .u64 (if isBit s.data.toList i = true then 1 else 0)) 0 := by
  unfold getP; rw [if_neg (fun h => h hk), if_neg (by omega), if_neg (by omega)]
  have := num_snoc s.data.toList i 0
  have e : slc s.data.toList i 0 = [] := rfl
  rw [e] at this
  rw [show (1 : Int).toNat = 0 + 1 from rfl, Int.toNat_natCast, this]
  have e0 : num ([] : List Bool) = 0 := rfl
  rw [e0, Nat.mul_zero, Nat.zero_add, Nat.add_zero]
  by_cases hb : isBit s.data.toList i = true
  · rw [if_pos hb, if_pos hb]; rfl
  · rw [if_neg hb, if_neg hb]; rfl
theorem get_end (hk : chk s.data.toList N = 0) : getP s N N 1 = two (.int .u64 0) 5 := by
  have := (chk_right hk).1
  unfold getP; rw [if_neg (fun h => h hk), if_neg (by omega), if_pos (by omega)]
theorem get_form (i : Int) : ∃ x b : Int, getP s N i 1 = two (.int .u64 x) b := by
  unfold getP; repeat' split
  all_goals exact ⟨_, _, rfl⟩
/-- What Rank says: an error and 0, or how many are ahead. -/
theorem rank_or (s : ByteArray) (N : Int) (cs : List Int) (i : Int) : (∃ e, 0 < e ∧ rankP s N cs i = (0, e) ∧ nextP s N cs i = (0, e)) ∨ ∃ n m : Nat, i = n ∧ N = m ∧ n ≤ m ∧ m ≤ 1048576 ∧ chkR s N cs = 0 ∧ chk s.data.toList N = 0 := by
  unfold rankP nextP
  rcases chkR_or s N cs with ⟨hk, hk1, _⟩ | hk
  · obtain ⟨m, rfl, h1, _⟩ := chk_nat hk1
    by_cases hb : i < 0 ∨ (m : Int) < i
    · left; exact ⟨1, by decide, by rw [if_neg (fun h => h hk), if_pos hb], by rw [if_neg (fun h => h hk), if_pos hb]⟩
    · right; exact ⟨i.toNat, m, by omega, rfl, by omega, h1, hk, hk1⟩
  · left; exact ⟨2, by decide, by rw [if_pos (by rw [hk]; decide)], by rw [if_pos (by rw [hk]; decide)]⟩
theorem next_law (s : ByteArray) (N : Int) (cs : List Int) (i : Int) : (∃ e, 0 < e ∧ nextP s N cs i = (0, e) ∧ rankP s N cs i = (0, e)) ∨ ∃ n : Nat, n ≤ 1048576 ∧ rankP s N cs i = (((n : Nat) : Int), 0) ∧
    ((nextP s N cs i = (0, 3) ∧ selectP s N cs n = (0, 3)) ∨ ∃ j : Nat, nextP s N cs i = (((j : Nat) : Int), 0) ∧ selectP s N cs n = (((j : Nat) : Int), 0) ∧ i ≤ j) := by
  rcases rank_or s N cs i with ⟨e, h0, h1, h2⟩ | ⟨n, m, rfl, rfl, h1, h2, hk, hk1⟩
  · exact .inl ⟨e, h0, h2, h1⟩
  · right
    have hc := cnt_le s.data.toList n
    refine ⟨cnt s.data.toList n, by omega, rank_ok hk (by omega), ?_⟩
    have e1 : nextP s m cs n = optP (nth s.data.toList (m - n) n 0) := by
      unfold nextP; rw [if_neg (fun h => h hk), if_neg (by omega)]; rfl
    have e2 := select_ok (cnt s.data.toList n) hk
    rw [Int.toNat_natCast, nth_skip _ m _ n h1 (Nat.le_refl _), Nat.sub_self] at e2
    rw [e1, e2]
    cases h : nth s.data.toList (m - n) n 0 with
    | none => left; exact ⟨rfl, rfl⟩
    | some j => right; exact ⟨j, rfl, rfl, by have := (nth_some _ _ _ _ _ h).1; omega⟩
theorem back1 (s : ByteArray) (N : Int) (cs : List Int) (i : Int) : (∃ e, 0 < e ∧ selectP s N cs i = (0, e)) ∨ ∃ j : Nat, j ≤ 1048576 ∧ selectP s N cs i = (((j : Nat) : Int), 0) ∧ rankP s N cs j = (i, 0) ∧ getP s N j 1 = two (.int .u64 1) 0 := by
  rcases chkR_or s N cs with ⟨hk, hk1, _⟩ | hk
  · obtain ⟨m, rfl, h1, _⟩ := chk_nat hk1
    by_cases hb : i < 0
    · left; exact ⟨1, by decide, by unfold selectP; rw [if_neg (fun h => h hk), if_pos hb]⟩
    · obtain ⟨n, rfl⟩ : ∃ n : Nat, i = n := ⟨i.toNat, by omega⟩
      rw [select_ok n hk, Int.toNat_natCast]
      cases h : nth s.data.toList m 0 n with
      | none => left; exact ⟨3, by decide, rfl⟩
      | some j =>
        obtain ⟨_, q2, q3, q4⟩ := nth_some _ _ _ _ _ h
        rw [cnt_zero] at q4
        refine .inr ⟨j, by omega, rfl, ?_, ?_⟩
        · rw [rank_ok hk (by omega), q4, Nat.zero_add]
        · rw [get_ok hk1 (by omega), if_pos q3]
  · left; exact ⟨2, by decide, by unfold selectP; rw [if_pos (by rw [hk]; decide)]⟩
theorem back2 (s : ByteArray) (N : Int) (cs : List Int) (i : Int) : (∃ e, 0 < e ∧ rankP s N cs i = (0, e)) ∨ ∃ n : Nat, n ≤ 1048576 ∧ rankP s N cs i = (((n : Nat) : Int), 0) ∧
    ((∃ b, 0 < b ∧ getP s N i 1 = two (.int .u64 0) b) ∨ getP s N i 1 = two (.int .u64 0) 0 ∨ (getP s N i 1 = two (.int .u64 1) 0 ∧ selectP s N cs n = (i, 0))) := by
  rcases rank_or s N cs i with ⟨e, h0, h1, h2⟩ | ⟨n, m, rfl, rfl, h1, h2, hk, hk1⟩
  · exact .inl ⟨e, h0, h1⟩
  · right
    have hc := cnt_le s.data.toList n
    refine ⟨cnt s.data.toList n, by omega, rank_ok hk (by omega), ?_⟩
    by_cases hn : n = m
    · subst hn; left; exact ⟨5, by decide, get_end hk1⟩
    · rw [get_ok hk1 (by omega)]
      by_cases hb : isBit s.data.toList n = true
      · right; right
        rw [if_pos hb]
        refine ⟨rfl, ?_⟩
        rw [select_ok _ hk, Int.toNat_natCast, nth_of _ (by omega) hb rfl]; rfl
      · right; left; rw [if_neg hb]
theorem rise_law (s : ByteArray) (N : Int) (cs : List Int) (i : Int) : (∃ e, 0 < e ∧ rankP s N cs i = (0, e)) ∨ ∃ n a : Nat, n ≤ a ∧ a ≤ 1048576 ∧ rankP s N cs i = (((n : Nat) : Int), 0) ∧ rankP s N cs 0 = (0, 0) ∧ rankP s N cs N = (((a : Nat) : Int), 0) ∧ onesP s N = two (.int .i64 (a : Nat)) 0 ∧ 0 ≤ i ∧ i ≤ 1048576 ∧
    ((i = N ∧ getP s N i 1 = two (.int .u64 0) 5) ∨ ∃ x : Nat, x ≤ 1 ∧ getP s N i 1 = two (.int .u64 (x : Nat)) 0 ∧ rankP s N cs (i + 1) = (((n + x : Nat) : Int), 0)) := by
  rcases rank_or s N cs i with ⟨e, h0, h1, h2⟩ | ⟨n, m, rfl, rfl, h1, h2, hk, hk1⟩
  · exact .inl ⟨e, h0, h1⟩
  · right
    have hc := cnt_le s.data.toList m
    refine ⟨cnt s.data.toList n, cnt s.data.toList m, cnt_mono _ h1, by omega, rank_ok hk (by omega), rank_ok (n := 0) hk (by omega), rank_ok hk (by omega), ?_, by omega, by omega, ?_⟩
    · unfold onesP; rw [if_neg (fun h => h hk1)]; rfl
    · by_cases hn : n = m
      · subst hn; left; exact ⟨rfl, get_end hk1⟩
      · right
        refine ⟨if isBit s.data.toList n = true then 1 else 0, by split <;> omega, ?_, ?_⟩
        · rw [get_ok hk1 (by omega)]; split <;> rfl
        · have := rank_ok (n := n + 1) (cs := cs) hk (by omega)
          rw [cnt_succ] at this; exact this
end Sel
set_option maxHeartbeats 4000000 in
theorem law_SelNext (s : ByteArray) (N : Int) (hc : Value) (cs : List Int) (i : Int) (S : Mem) (z : s.size ≤ 281474976710656) (hv : Sl 1 i64s S hc cs) (hi0 : -9223372036854775808 ≤ i) (hi : i ≤ 9223372036854775807) :
    ACall Try.prog 10 #[.agg #[.string s, .int .i64 N, hc], .int .i64 i] S fun r S' => r = .bool true := by
  obtain ⟨pc, cc, rfl, _⟩ := id hv
  have hlaw := next_law s N cs i
  refine ACall.enter (args := [.agg #[.string s, .int .i64 N, .slice pc cs.length cc], .int .i64 i]) (rs := [.tmp 4]) 57 [(0, .agg #[.string s, .int .i64 N, .slice pc cs.length cc]), (1, .int .i64 i)] Try.func10 rfl rfl (Nat.le_of_ble_eq_true rfl) rfl ⟨rfl, rfl, trivial⟩ ?_
  refine AWP.seq ?_
  refine AWP.region ?_
  refine ARun.boxA (cs := [_, _, _]) (lit_lt rfl) rfl ?_
  intro b2 f2
  have g2 := f2
  repeat ((with_reducible replace g2 := fresh_set g2); obtain ⟨g2, _⟩ := g2)
  (try simp only [List.length_cons, List.length_nil, Nat.zero_add, Nat.reduceAdd])
  refine rC (Calm.assign rfl) ?_
  refine arun_nil ?_
  refine athen_n ?_
  refine named (S := S) (b := b2) g2.1 ?_
  intro T2 hT2 kb2
  replace hv := hv.less hT2
  refine AWP.seq ?_
  refine AWP.seq ?_
  refine AWP.region ?_
  refine ARun.call (lit_lt rfl) go_29 rfl (selV_lives _) ?_
  rintro _ S2 ⟨rfl, h1⟩
  rw [h1]; clear h1 S2
  refine rC (Calm.un rfl (una_not _)) ?_
  refine arun_nil ?_
  refine athen_n ?_
  refine AWP.sub [(0, _), (1, _), (2, _), (4, _), (12, _)] ⟨rfl, rfl, rfl, rfl, rfl, trivial⟩ ?_
  refine AWP.condF rfl (by first | rfl | (simp; done) | (simp; omega)) ?_
  rcases hlaw with ⟨e, h0, q1, q2⟩ | ⟨n, hn, q1, ⟨q2, q3⟩ | ⟨j, q2, q3, hij⟩⟩
  · refine AWP.skip ?_
    refine athen_n ?_
    refine AWP.seq ?_
    refine AWP.region ?_
    refine rC (ldA_ (cs := [_, _, _]) ty_agg_49 ty_size_49 rfl) ?_
    refine rC (Calm.move rfl) ?_
    refine ARun.call (lit_lt rfl) go_41 rfl (selV_Next s N i _ cs _ z hv) ?_
    rintro _ S2 ⟨rfl, h1⟩
    rw [h1, q1]; clear h1 S2
    refine rC (Calm.move rfl) ?_
    refine rC (Calm.extract rfl rfl) ?_
    refine rC (Calm.extract rfl rfl) ?_
    refine rC (Calm.assign rfl) ?_
    refine rC (Calm.assign rfl) ?_
    refine arun_nil ?_
    refine athen_n ?_
    refine AWP.sub [(0, _), (1, _), (2, _), (4, _), (12, _), (5, _), (6, _)] ⟨rfl, rfl, rfl, rfl, rfl, rfl, rfl, trivial⟩ ?_
    refine AWP.seq ?_
    refine AWP.region ?_
    refine rC (ldA_ (cs := [_, _, _]) ty_agg_49 ty_size_49 rfl) ?_
    refine rC (Calm.move rfl) ?_
    refine ARun.call (lit_lt rfl) go_37 rfl (selV_Rank s N i _ cs _ z hv) ?_
    rintro _ S2 ⟨rfl, h1⟩
    rw [h1, q2]; clear h1 S2
    refine rC (Calm.move rfl) ?_
    refine rC (Calm.extract rfl rfl) ?_
    refine rC (Calm.extract rfl rfl) ?_
    refine rC (Calm.assign rfl) ?_
    refine rC (Calm.assign rfl) ?_
    refine arun_nil ?_
    refine athen_n ?_
    refine AWP.sub [(0, _), (1, _), (2, _), (4, _), (12, _), (5, _), (6, _), (7, _), (8, _)] ⟨rfl, rfl, rfl, rfl, rfl, rfl, rfl, rfl, rfl, trivial⟩ ?_
    refine AWP.seq ?_
    refine AWP.seq ?_
    refine AWP.region ?_
    refine rC (Calm.move rfl) ?_
    refine rC (Calm.bin rfl rfl b_neq) ?_
    refine arun_nil ?_
    refine athen_n ?_
    refine AWP.sub [(0, _), (1, _), (2, _), (4, _), (12, _), (5, _), (6, _), (7, _), (8, _), (26, _)] ⟨rfl, rfl, rfl, rfl, rfl, rfl, rfl, rfl, rfl, rfl, trivial⟩ ?_
    refine AWP.condT rfl (by first | rfl | (simp; done) | (simp; omega)) ?_
    refine AWP.seq ?_
    refine AWP.region ?_
    refine rC (Calm.move rfl) ?_
    refine rC (Calm.move rfl) ?_
    refine rC (Calm.bin rfl rfl b_eql) ?_
    refine rC (Calm.move rfl) ?_
    first | refine rS 30 ?_ | refine rU 30 ?_ | refine rG 30 (Calm.move rfl) ?_
    first | refine rS 30 ?_ | refine rU 30 ?_ | refine rG 30 (Calm.bin rfl rfl b_eql) ?_
    refine rC ((by first | exact Calm.pickT rfl rfl | exact Calm.pickF rfl rfl)) ?_
    refine rC (Calm.assign rfl) ?_
    refine arun_nil ?_
    refine athen_n ?_
    refine AWP.sub [(0, _), (1, _), (2, _), (4, _), (12, _), (5, _), (6, _), (7, _), (8, _), (26, _)] ⟨rfl, rfl, rfl, rfl, rfl, rfl, rfl, rfl, rfl, rfl, trivial⟩ ?_
    refine AWP.ret ?_
    refine athen_ret ?_
    refine ⟨_, _, ⟨_, _, rfl, rfl, rfl⟩, less_, ?_⟩
    rfl
  · refine AWP.skip ?_
    refine athen_n ?_
    refine AWP.seq ?_
    refine AWP.region ?_
    refine rC (ldA_ (cs := [_, _, _]) ty_agg_49 ty_size_49 rfl) ?_
    refine rC (Calm.move rfl) ?_
    refine ARun.call (lit_lt rfl) go_41 rfl (selV_Next s N i _ cs _ z hv) ?_
    rintro _ S2 ⟨rfl, h1⟩
    rw [h1, q2]; clear h1 S2
    refine rC (Calm.move rfl) ?_
    refine rC (Calm.extract rfl rfl) ?_
    refine rC (Calm.extract rfl rfl) ?_
    refine rC (Calm.assign rfl) ?_
    refine rC (Calm.assign rfl) ?_
    refine arun_nil ?_
    refine athen_n ?_
    refine AWP.sub [(0, _), (1, _), (2, _), (4, _), (12, _), (5, _), (6, _)] ⟨rfl, rfl, rfl, rfl, rfl, rfl, rfl, trivial⟩ ?_
    refine AWP.seq ?_
    refine AWP.region ?_
    refine rC (ldA_ (cs := [_, _, _]) ty_agg_49 ty_size_49 rfl) ?_
    refine rC (Calm.move rfl) ?_
    refine ARun.call (lit_lt rfl) go_37 rfl (selV_Rank s N i _ cs _ z hv) ?_
    rintro _ S2 ⟨rfl, h1⟩
    rw [h1, q1]; clear h1 S2
    refine rC (Calm.move rfl) ?_
    refine rC (Calm.extract rfl rfl) ?_
    refine rC (Calm.extract rfl rfl) ?_
    refine rC (Calm.assign rfl) ?_
    refine rC (Calm.assign rfl) ?_
    refine arun_nil ?_
    refine athen_n ?_
    refine AWP.sub [(0, _), (1, _), (2, _), (4, _), (12, _), (5, _), (6, _), (7, _), (8, _)] ⟨rfl, rfl, rfl, rfl, rfl, rfl, rfl, rfl, rfl, trivial⟩ ?_
    refine AWP.seq ?_
    refine AWP.seq ?_
    refine AWP.region ?_
    refine rC (Calm.move rfl) ?_
    refine rC (Calm.bin rfl rfl b_neq) ?_
    refine arun_nil ?_
    refine athen_n ?_
    refine AWP.sub [(0, _), (1, _), (2, _), (4, _), (12, _), (5, _), (6, _), (7, _), (8, _), (26, _)] ⟨rfl, rfl, rfl, rfl, rfl, rfl, rfl, rfl, rfl, rfl, trivial⟩ ?_
    refine AWP.condF rfl (by first | rfl | (simp; done) | (simp; omega)) ?_
    refine AWP.skip ?_
    refine athen_n ?_
    refine AWP.seq ?_
    refine AWP.region ?_
    refine rC (ldA_ (cs := [_, _, _]) ty_agg_49 ty_size_49 rfl) ?_
    refine rC (Calm.move rfl) ?_
    refine ARun.call (lit_lt rfl) go_39 rfl (selV_Select s N n _ cs _ z hv (by omega)) ?_
    rintro _ S2 ⟨rfl, h1⟩
    rw [h1, q3]; clear h1 S2
    refine rC (Calm.move rfl) ?_
    refine rC (Calm.extract rfl rfl) ?_
    refine rC (Calm.extract rfl rfl) ?_
    refine rC (Calm.assign rfl) ?_
    refine rC (Calm.assign rfl) ?_
    refine arun_nil ?_
    refine athen_n ?_
    refine AWP.sub [(0, _), (1, _), (2, _), (4, _), (12, _), (5, _), (6, _), (7, _), (8, _), (26, _), (9, _), (10, _)] ⟨rfl, rfl, rfl, rfl, rfl, rfl, rfl, rfl, rfl, rfl, rfl, rfl, trivial⟩ ?_
    refine AWP.seq ?_
    refine AWP.region ?_
    refine rC (Calm.move rfl) ?_
    refine rC (Calm.move rfl) ?_
    refine rC (Calm.bin rfl rfl b_eql) ?_
    refine rC (Calm.move rfl) ?_
    first | refine rS 43 ?_ | refine rU 43 ?_ | refine rG 43 (Calm.move rfl) ?_
    first | refine rS 43 ?_ | refine rU 43 ?_ | refine rG 43 (Calm.move rfl) ?_
    first | refine rS 43 ?_ | refine rU 43 ?_ | refine rG 43 (Calm.bin rfl rfl b_eql) ?_
    refine rC ((by first | exact Calm.pickT rfl rfl | exact Calm.pickF rfl rfl)) ?_
    refine rC (Calm.move rfl) ?_
    first | refine rS 48 ?_ | refine rU 48 ?_ | refine rG 48 (Calm.move rfl) ?_
    first | refine rS 48 ?_ | refine rU 48 ?_ | refine rG 48 (Calm.bin rfl rfl b_neq) ?_
    first | refine rS 48 ?_ | refine rU 48 ?_ | refine rG 48 (Calm.move rfl) ?_
    first | refine rS 51 ?_ | refine rU 51 ?_ | refine rG 51 (Calm.move rfl) ?_
    first | refine rS 51 ?_ | refine rU 51 ?_ | refine rG 51 (Calm.move rfl) ?_
    first | refine rS 51 ?_ | refine rU 51 ?_ | refine rG 51 (Calm.bin rfl rfl b_geq) ?_
    first | refine rS 48 ?_ | refine rU 48 ?_ | refine rG 48 ((by first | exact Calm.pickT rfl rfl | exact Calm.pickF rfl rfl)) ?_
    refine rC ((by first | exact Calm.pickT rfl rfl | exact Calm.pickF rfl rfl)) ?_
    refine rC (Calm.assign rfl) ?_
    refine arun_nil ?_
    refine athen_n ?_
    refine AWP.sub [(0, _), (1, _), (2, _), (4, _), (12, _), (5, _), (6, _), (7, _), (8, _), (26, _), (9, _), (10, _)] ⟨rfl, rfl, rfl, rfl, rfl, rfl, rfl, rfl, rfl, rfl, rfl, rfl, trivial⟩ ?_
    refine AWP.ret ?_
    refine ⟨_, _, ⟨_, _, rfl, rfl, rfl⟩, less_, ?_⟩
    rfl
  · refine AWP.skip ?_
    refine athen_n ?_
    refine AWP.seq ?_
    refine AWP.region ?_
    refine rC (ldA_ (cs := [_, _, _]) ty_agg_49 ty_size_49 rfl) ?_
    refine rC (Calm.move rfl) ?_
    refine ARun.call (lit_lt rfl) go_41 rfl (selV_Next s N i _ cs _ z hv) ?_
    rintro _ S2 ⟨rfl, h1⟩
    rw [h1, q2]; clear h1 S2
    refine rC (Calm.move rfl) ?_
    refine rC (Calm.extract rfl rfl) ?_
    refine rC (Calm.extract rfl rfl) ?_
    refine rC (Calm.assign rfl) ?_
    refine rC (Calm.assign rfl) ?_
    refine arun_nil ?_
    refine athen_n ?_
    refine AWP.sub [(0, _), (1, _), (2, _), (4, _), (12, _), (5, _), (6, _)] ⟨rfl, rfl, rfl, rfl, rfl, rfl, rfl, trivial⟩ ?_
    refine AWP.seq ?_
    refine AWP.region ?_
    refine rC (ldA_ (cs := [_, _, _]) ty_agg_49 ty_size_49 rfl) ?_
    refine rC (Calm.move rfl) ?_
    refine ARun.call (lit_lt rfl) go_37 rfl (selV_Rank s N i _ cs _ z hv) ?_
    rintro _ S2 ⟨rfl, h1⟩
    rw [h1, q1]; clear h1 S2
    refine rC (Calm.move rfl) ?_
    refine rC (Calm.extract rfl rfl) ?_
    refine rC (Calm.extract rfl rfl) ?_
    refine rC (Calm.assign rfl) ?_
    refine rC (Calm.assign rfl) ?_
    refine arun_nil ?_
    refine athen_n ?_
    refine AWP.sub [(0, _), (1, _), (2, _), (4, _), (12, _), (5, _), (6, _), (7, _), (8, _)] ⟨rfl, rfl, rfl, rfl, rfl, rfl, rfl, rfl, rfl, trivial⟩ ?_
    refine AWP.seq ?_
    refine AWP.seq ?_
    refine AWP.region ?_
    refine rC (Calm.move rfl) ?_
    refine rC (Calm.bin rfl rfl b_neq) ?_
    refine arun_nil ?_
    refine athen_n ?_
    refine AWP.sub [(0, _), (1, _), (2, _), (4, _), (12, _), (5, _), (6, _), (7, _), (8, _), (26, _)] ⟨rfl, rfl, rfl, rfl, rfl, rfl, rfl, rfl, rfl, rfl, trivial⟩ ?_
    refine AWP.condF rfl (by first | rfl | (simp; done) | (simp; omega)) ?_
    refine AWP.skip ?_
    refine athen_n ?_
    refine AWP.seq ?_
    refine AWP.region ?_
    refine rC (ldA_ (cs := [_, _, _]) ty_agg_49 ty_size_49 rfl) ?_
    refine rC (Calm.move rfl) ?_
    refine ARun.call (lit_lt rfl) go_39 rfl (selV_Select s N n _ cs _ z hv (by omega)) ?_
    rintro _ S2 ⟨rfl, h1⟩
    rw [h1, q3]; clear h1 S2
    refine rC (Calm.move rfl) ?_
    refine rC (Calm.extract rfl rfl) ?_
    refine rC (Calm.extract rfl rfl) ?_
    refine rC (Calm.assign rfl) ?_
    refine rC (Calm.assign rfl) ?_
    refine arun_nil ?_
    refine athen_n ?_
    refine AWP.sub [(0, _), (1, _), (2, _), (4, _), (12, _), (5, _), (6, _), (7, _), (8, _), (26, _), (9, _), (10, _)] ⟨rfl, rfl, rfl, rfl, rfl, rfl, rfl, rfl, rfl, rfl, rfl, rfl, trivial⟩ ?_
    refine AWP.seq ?_
    refine AWP.region ?_
    refine rC (Calm.move rfl) ?_
    refine rC (Calm.move rfl) ?_
    refine rC (Calm.bin rfl rfl b_eql) ?_
    refine rC (Calm.move rfl) ?_
    first | refine rS 43 ?_ | refine rU 43 ?_ | refine rG 43 (Calm.move rfl) ?_
    first | refine rS 43 ?_ | refine rU 43 ?_ | refine rG 43 (Calm.move rfl) ?_
    first | refine rS 43 ?_ | refine rU 43 ?_ | refine rG 43 (Calm.bin rfl rfl b_eql) ?_
    refine rC ((by first | exact Calm.pickT rfl rfl | exact Calm.pickF rfl rfl)) ?_
    refine rC (Calm.move rfl) ?_
    first | refine rS 48 ?_ | refine rU 48 ?_ | refine rG 48 (Calm.move rfl) ?_
    first | refine rS 48 ?_ | refine rU 48 ?_ | refine rG 48 (Calm.bin rfl rfl b_neq) ?_
    first | refine rS 48 ?_ | refine rU 48 ?_ | refine rG 48 (Calm.move rfl) ?_
    first | refine rS 51 ?_ | refine rU 51 ?_ | refine rG 51 (Calm.move rfl) ?_
    first | refine rS 51 ?_ | refine rU 51 ?_ | refine rG 51 (Calm.move rfl) ?_
    first | refine rS 51 ?_ | refine rU 51 ?_ | refine rG 51 (Calm.bin rfl rfl (bin_bool b_geq (decide_eq_true (by omega)))) ?_
    first | refine rS 48 ?_ | refine rU 48 ?_ | refine rG 48 ((by first | exact Calm.pickT rfl rfl | exact Calm.pickF rfl rfl)) ?_
    refine rC ((by first | exact Calm.pickT rfl rfl | exact Calm.pickF rfl rfl)) ?_
    refine rC (Calm.assign rfl) ?_
    refine arun_nil ?_
    refine athen_n ?_
    refine AWP.sub [(0, _), (1, _), (2, _), (4, _), (12, _), (5, _), (6, _), (7, _), (8, _), (26, _), (9, _), (10, _)] ⟨rfl, rfl, rfl, rfl, rfl, rfl, rfl, rfl, rfl, rfl, rfl, rfl, trivial⟩ ?_
    refine AWP.ret ?_
    refine ⟨_, _, ⟨_, _, rfl, rfl, rfl⟩, less_, ?_⟩
    rfl
set_option maxHeartbeats 8000000 in
theorem law_SelRise (s : ByteArray) (N : Int) (hc : Value) (cs : List Int) (i : Int) (S : Mem) (z : s.size ≤ 281474976710656) (hv : Sl 1 i64s S hc cs) (hi0 : -9223372036854775808 ≤ i) (hi : i ≤ 9223372036854775807) :
    ACall Try.prog 12 #[.agg #[.string s, .int .i64 N, hc], .int .i64 i] S fun r S' => r = .bool true := by
  obtain ⟨pc, cc, rfl, _⟩ := id hv
  have hlaw := rise_law s N cs i
  refine ACall.enter (args := [.agg #[.string s, .int .i64 N, .slice pc cs.length cc], .int .i64 i]) (rs := [.tmp 4]) 103 [(0, .agg #[.string s, .int .i64 N, .slice pc cs.length cc]), (1, .int .i64 i)] Try.func12 rfl rfl (Nat.le_of_ble_eq_true rfl) rfl ⟨rfl, rfl, trivial⟩ ?_
  refine AWP.seq ?_
  refine AWP.region ?_
  refine ARun.boxA (cs := [_, _, _]) (lit_lt rfl) rfl ?_
  intro b2 f2
  have g2 := f2
  repeat ((with_reducible replace g2 := fresh_set g2); obtain ⟨g2, _⟩ := g2)
  (try simp only [List.length_cons, List.length_nil, Nat.zero_add, Nat.reduceAdd])
  refine rC (Calm.assign rfl) ?_
  refine arun_nil ?_
  refine athen_n ?_
  refine named (S := S) (b := b2) g2.1 ?_
  intro T2 hT2 kb2
  replace hv := hv.less hT2
  refine AWP.seq ?_
  refine AWP.seq ?_
  refine AWP.region ?_
  refine ARun.call (lit_lt rfl) go_29 rfl (selV_lives _) ?_
  rintro _ S2 ⟨rfl, h1⟩
  rw [h1]; clear h1 S2
  refine rC (Calm.un rfl (una_not _)) ?_
  refine arun_nil ?_
  refine athen_n ?_
  refine AWP.sub [(0, _), (1, _), (2, _), (4, _), (18, _)] ⟨rfl, rfl, rfl, rfl, rfl, trivial⟩ ?_
  refine AWP.condF rfl (by first | rfl | (simp; done) | (simp; omega)) ?_
  rcases hlaw with ⟨e, h0, q1⟩ | ⟨n, a, hna, ha, q1, q2, q3, q4, hi2, hi3, hq⟩
  · refine AWP.skip ?_
    refine athen_n ?_
    refine AWP.seq ?_
    refine AWP.region ?_
    refine rC (ldA_ (cs := [_, _, _]) ty_agg_49 ty_size_49 rfl) ?_
    refine rC (Calm.move rfl) ?_
    refine ARun.call (lit_lt rfl) go_37 rfl (selV_Rank s N i _ cs _ z hv) ?_
    rintro _ S2 ⟨rfl, h1⟩
    rw [h1, q1]; clear h1 S2
    refine rC (Calm.move rfl) ?_
    refine rC (Calm.extract rfl rfl) ?_
    refine rC (Calm.extract rfl rfl) ?_
    refine rC (Calm.assign rfl) ?_
    refine rC (Calm.assign rfl) ?_
    refine arun_nil ?_
    refine athen_n ?_
    refine AWP.sub [(0, _), (1, _), (2, _), (4, _), (18, _), (5, _), (6, _)] ⟨rfl, rfl, rfl, rfl, rfl, rfl, rfl, trivial⟩ ?_
    refine AWP.seq ?_
    refine AWP.seq ?_
    refine AWP.region ?_
    refine rC (Calm.move rfl) ?_
    refine rC (Calm.bin rfl rfl b_neq) ?_
    refine arun_nil ?_
    refine athen_n ?_
    refine AWP.sub [(0, _), (1, _), (2, _), (4, _), (18, _), (5, _), (6, _), (26, _)] ⟨rfl, rfl, rfl, rfl, rfl, rfl, rfl, rfl, trivial⟩ ?_
    refine AWP.condT rfl (by first | rfl | (simp; done) | (simp; omega)) ?_
    refine AWP.seq ?_
    refine AWP.region ?_
    refine rC (Calm.move rfl) ?_
    refine rC (Calm.bin rfl rfl b_eql) ?_
    refine rC (Calm.assign rfl) ?_
    refine arun_nil ?_
    refine athen_n ?_
    refine AWP.sub [(0, _), (1, _), (2, _), (4, _), (18, _), (5, _), (6, _), (26, _)] ⟨rfl, rfl, rfl, rfl, rfl, rfl, rfl, rfl, trivial⟩ ?_
    refine AWP.ret ?_
    refine athen_ret ?_
    refine ⟨_, _, ⟨_, _, rfl, rfl, rfl⟩, less_, ?_⟩
    rfl
  · refine AWP.skip ?_
    refine athen_n ?_
    refine AWP.seq ?_
    refine AWP.region ?_
    refine rC (ldA_ (cs := [_, _, _]) ty_agg_49 ty_size_49 rfl) ?_
    refine rC (Calm.move rfl) ?_
    refine ARun.call (lit_lt rfl) go_37 rfl (selV_Rank s N i _ cs _ z hv) ?_
    rintro _ S2 ⟨rfl, h1⟩
    rw [h1, q1]; clear h1 S2
    refine rC (Calm.move rfl) ?_
    refine rC (Calm.extract rfl rfl) ?_
    refine rC (Calm.extract rfl rfl) ?_
    refine rC (Calm.assign rfl) ?_
    refine rC (Calm.assign rfl) ?_
    refine arun_nil ?_
    refine athen_n ?_
    refine AWP.sub [(0, _), (1, _), (2, _), (4, _), (18, _), (5, _), (6, _)] ⟨rfl, rfl, rfl, rfl, rfl, rfl, rfl, trivial⟩ ?_
    refine AWP.seq ?_
    refine AWP.seq ?_
    refine AWP.region ?_
    refine rC (Calm.move rfl) ?_
    refine rC (Calm.bin rfl rfl b_neq) ?_
    refine arun_nil ?_
    refine athen_n ?_
    refine AWP.sub [(0, _), (1, _), (2, _), (4, _), (18, _), (5, _), (6, _), (26, _)] ⟨rfl, rfl, rfl, rfl, rfl, rfl, rfl, rfl, trivial⟩ ?_
    refine AWP.condF rfl (by first | rfl | (simp; done) | (simp; omega)) ?_
    refine AWP.skip ?_
    refine athen_n ?_
    refine AWP.seq ?_
    refine AWP.region ?_
    refine rC (ldA_ (cs := [_, _, _]) ty_agg_49 ty_size_49 rfl) ?_
    refine ARun.call (lit_lt rfl) go_37 rfl (selV_Rank s N 0 _ cs _ z hv) ?_
    rintro _ S2 ⟨rfl, h1⟩
    rw [h1, q2]; clear h1 S2
    refine rC (Calm.move rfl) ?_
    refine rC (Calm.extract rfl rfl) ?_
    refine rC (Calm.extract rfl rfl) ?_
    refine rC (Calm.assign rfl) ?_
    refine rC (Calm.assign rfl) ?_
    refine arun_nil ?_
    refine athen_n ?_
    refine AWP.sub [(0, _), (1, _), (2, _), (4, _), (18, _), (5, _), (6, _), (26, _), (7, _), (8, _)] ⟨rfl, rfl, rfl, rfl, rfl, rfl, rfl, rfl, rfl, rfl, trivial⟩ ?_
    refine AWP.seq ?_
    refine AWP.region ?_
    refine rC (ldA_ (cs := [_, _, _]) ty_agg_49 ty_size_49 rfl) ?_
    refine rC (Calm.fieldAddr ty_field_49_0 rfl) ?_
    refine rC (Calm.fieldAddr ty_field_47_1 rfl) ?_
    refine rC (ld_ ty_plain_3 rfl) ?_
    refine ARun.call (lit_lt rfl) go_37 rfl (selV_Rank s N N _ cs _ z hv) ?_
    rintro _ S2 ⟨rfl, h1⟩
    rw [h1, q3]; clear h1 S2
    refine rC (Calm.move rfl) ?_
    refine rC (Calm.extract rfl rfl) ?_
    refine rC (Calm.extract rfl rfl) ?_
    refine rC (Calm.assign rfl) ?_
    refine rC (Calm.assign rfl) ?_
    refine arun_nil ?_
    refine athen_n ?_
    refine AWP.sub [(0, _), (1, _), (2, _), (4, _), (18, _), (5, _), (6, _), (26, _), (7, _), (8, _), (9, _), (10, _)] ⟨rfl, rfl, rfl, rfl, rfl, rfl, rfl, rfl, rfl, rfl, rfl, rfl, trivial⟩ ?_
    refine AWP.seq ?_
    refine AWP.region ?_
    refine rC (Calm.fieldAddr ty_field_49_0 rfl) ?_
    refine rC (ldA_ (cs := [_, _]) ty_agg_47 ty_size_47 rfl) ?_
    refine ARun.call (lit_lt rfl) go_44 rfl (bitsV_Ones s N _ (by omega)) ?_
    rintro _ S2 ⟨rfl, h1⟩
    rw [h1, q4]; clear h1 S2
    refine rC (Calm.move rfl) ?_
    refine rC (Calm.extract rfl rfl) ?_
    refine rC (Calm.extract rfl rfl) ?_
    refine rC (Calm.assign rfl) ?_
    refine rC (Calm.assign rfl) ?_
    refine arun_nil ?_
    refine athen_n ?_
    refine AWP.sub [(0, _), (1, _), (2, _), (4, _), (18, _), (5, _), (6, _), (26, _), (7, _), (8, _), (9, _), (10, _), (11, _), (12, _)] ⟨rfl, rfl, rfl, rfl, rfl, rfl, rfl, rfl, rfl, rfl, rfl, rfl, rfl, rfl, trivial⟩ ?_
    refine AWP.seq ?_
    refine AWP.seq ?_
    refine AWP.region ?_
    refine rC (Calm.move rfl) ?_
    refine rC (Calm.bin rfl rfl b_neq) ?_
    refine rC (Calm.move rfl) ?_
    first | refine rS 50 ?_ | refine rU 50 ?_ | refine rG 50 (Calm.move rfl) ?_
    first | refine rS 50 ?_ | refine rU 50 ?_ | refine rG 50 (Calm.bin rfl rfl b_neq) ?_
    refine rC ((by first | exact Calm.pickT rfl rfl | exact Calm.pickF rfl rfl)) ?_
    refine rC (Calm.move rfl) ?_
    first | refine rS 54 ?_ | refine rU 54 ?_ | refine rG 54 (Calm.move rfl) ?_
    first | refine rS 54 ?_ | refine rU 54 ?_ | refine rG 54 (Calm.bin rfl rfl b_neq) ?_
    refine rC ((by first | exact Calm.pickT rfl rfl | exact Calm.pickF rfl rfl)) ?_
    refine rC (Calm.move rfl) ?_
    first | refine rS 58 ?_ | refine rU 58 ?_ | refine rG 58 (Calm.move rfl) ?_
    first | refine rS 58 ?_ | refine rU 58 ?_ | refine rG 58 (Calm.bin rfl rfl b_neq) ?_
    refine rC ((by first | exact Calm.pickT rfl rfl | exact Calm.pickF rfl rfl)) ?_
    refine rC (Calm.move rfl) ?_
    first | refine rS 62 ?_ | refine rU 62 ?_ | refine rG 62 (Calm.move rfl) ?_
    first | refine rS 62 ?_ | refine rU 62 ?_ | refine rG 62 (Calm.move rfl) ?_
    first | refine rS 62 ?_ | refine rU 62 ?_ | refine rG 62 (Calm.bin rfl rfl b_neq) ?_
    refine rC ((by first | exact Calm.pickT rfl rfl | exact Calm.pickF rfl rfl)) ?_
    refine rC (Calm.move rfl) ?_
    first | refine rS 67 ?_ | refine rU 67 ?_ | refine rG 67 (Calm.move rfl) ?_
    first | refine rS 67 ?_ | refine rU 67 ?_ | refine rG 67 (Calm.move rfl) ?_
    first | refine rS 67 ?_ | refine rU 67 ?_ | refine rG 67 (Calm.bin rfl rfl b_gtr) ?_
    refine rC ((by first | exact Calm.pickT rfl rfl | exact Calm.pickF rfl rfl)) ?_
    refine arun_nil ?_
    refine athen_n ?_
    refine AWP.sub [(0, _), (1, _), (2, _), (4, _), (18, _), (5, _), (6, _), (26, _), (7, _), (8, _), (9, _), (10, _), (11, _), (12, _), (71, _)] ⟨rfl, rfl, rfl, rfl, rfl, rfl, rfl, rfl, rfl, rfl, rfl, rfl, rfl, rfl, rfl, trivial⟩ ?_
    refine AWP.condF rfl (by first | rfl | (simp; done) | (simp; omega)) ?_
    rcases hq with ⟨rfl, q5⟩ | ⟨x, hx, q5, q6⟩
    · refine AWP.skip ?_
      refine athen_n ?_
      refine AWP.seq ?_
      refine AWP.region ?_
      refine rC (Calm.fieldAddr ty_field_49_0 rfl) ?_
      refine rC (ldA_ (cs := [_, _]) ty_agg_47 ty_size_47 rfl) ?_
      refine rC (Calm.move rfl) ?_
      refine ARun.call (lit_lt rfl) go_43 rfl (bitsV_Get s i i 1 _ (by omega) (by omega) (by omega)) ?_
      rintro _ S2 ⟨rfl, h1⟩
      rw [h1, q5]; clear h1 S2
      refine rC (Calm.move rfl) ?_
      refine rC (Calm.extract rfl rfl) ?_
      refine rC (Calm.extract rfl rfl) ?_
      refine rC (Calm.assign rfl) ?_
      refine rC (Calm.assign rfl) ?_
      refine arun_nil ?_
      refine athen_n ?_
      refine AWP.sub [(0, _), (1, _), (2, _), (4, _), (18, _), (5, _), (6, _), (26, _), (7, _), (8, _), (9, _), (10, _), (11, _), (12, _), (71, _), (13, _), (14, _)] ⟨rfl, rfl, rfl, rfl, rfl, rfl, rfl, rfl, rfl, rfl, rfl, rfl, rfl, rfl, rfl, rfl, rfl, trivial⟩ ?_
      refine AWP.seq ?_
      refine AWP.seq ?_
      refine AWP.region ?_
      refine rC (Calm.move rfl) ?_
      refine rC (Calm.bin rfl rfl b_neq) ?_
      refine arun_nil ?_
      refine athen_n ?_
      refine AWP.sub [(0, _), (1, _), (2, _), (4, _), (18, _), (5, _), (6, _), (26, _), (7, _), (8, _), (9, _), (10, _), (11, _), (12, _), (71, _), (13, _), (14, _), (80, _)] ⟨rfl, rfl, rfl, rfl, rfl, rfl, rfl, rfl, rfl, rfl, rfl, rfl, rfl, rfl, rfl, rfl, rfl, rfl, trivial⟩ ?_
      refine AWP.condT rfl (by first | rfl | (simp; done) | (simp; omega)) ?_
      refine AWP.seq ?_
      refine AWP.region ?_
      refine rC (Calm.move rfl) ?_
      refine rC (Calm.fieldAddr ty_field_49_0 rfl) ?_
      refine rC (Calm.fieldAddr ty_field_47_1 rfl) ?_
      refine rC (ld_ ty_plain_3 rfl) ?_
      refine rC (Calm.bin rfl rfl (bin_bool b_eql (decide_eq_true rfl))) ?_
      refine rC (Calm.assign rfl) ?_
      refine arun_nil ?_
      refine athen_n ?_
      refine AWP.sub [(0, _), (1, _), (2, _), (4, _), (18, _), (5, _), (6, _), (26, _), (7, _), (8, _), (9, _), (10, _), (11, _), (12, _), (71, _), (13, _), (14, _), (80, _)] ⟨rfl, rfl, rfl, rfl, rfl, rfl, rfl, rfl, rfl, rfl, rfl, rfl, rfl, rfl, rfl, rfl, rfl, rfl, trivial⟩ ?_
      refine AWP.ret ?_
      refine athen_ret ?_
      refine ⟨_, _, ⟨_, _, rfl, rfl, rfl⟩, less_, ?_⟩
      rfl
    · refine AWP.skip ?_
      refine athen_n ?_
      refine AWP.seq ?_
      refine AWP.region ?_
      refine rC (Calm.fieldAddr ty_field_49_0 rfl) ?_
      refine rC (ldA_ (cs := [_, _]) ty_agg_47 ty_size_47 rfl) ?_
      refine rC (Calm.move rfl) ?_
      refine ARun.call (lit_lt rfl) go_43 rfl (bitsV_Get s N i 1 _ (by omega) (by omega) (by omega)) ?_
      rintro _ S2 ⟨rfl, h1⟩
      rw [h1, q5]; clear h1 S2
      refine rC (Calm.move rfl) ?_
      refine rC (Calm.extract rfl rfl) ?_
      refine rC (Calm.extract rfl rfl) ?_
      refine rC (Calm.assign rfl) ?_
      refine rC (Calm.assign rfl) ?_
      refine arun_nil ?_
      refine athen_n ?_
      refine AWP.sub [(0, _), (1, _), (2, _), (4, _), (18, _), (5, _), (6, _), (26, _), (7, _), (8, _), (9, _), (10, _), (11, _), (12, _), (71, _), (13, _), (14, _)] ⟨rfl, rfl, rfl, rfl, rfl, rfl, rfl, rfl, rfl, rfl, rfl, rfl, rfl, rfl, rfl, rfl, rfl, trivial⟩ ?_
      refine AWP.seq ?_
      refine AWP.seq ?_
      refine AWP.region ?_
      refine rC (Calm.move rfl) ?_
      refine rC (Calm.bin rfl rfl b_neq) ?_
      refine arun_nil ?_
      refine athen_n ?_
      refine AWP.sub [(0, _), (1, _), (2, _), (4, _), (18, _), (5, _), (6, _), (26, _), (7, _), (8, _), (9, _), (10, _), (11, _), (12, _), (71, _), (13, _), (14, _), (80, _)] ⟨rfl, rfl, rfl, rfl, rfl, rfl, rfl, rfl, rfl, rfl, rfl, rfl, rfl, rfl, rfl, rfl, rfl, rfl, trivial⟩ ?_
      refine AWP.condF rfl (by first | rfl | (simp; done) | (simp; omega)) ?_
      refine AWP.skip ?_
      refine athen_n ?_
      refine AWP.seq ?_
      refine AWP.region ?_
      refine rC (ldA_ (cs := [_, _, _]) ty_agg_49 ty_size_49 rfl) ?_
      refine rC (Calm.move rfl) ?_
      refine rC (Calm.bin rfl rfl b_add_i64) ?_
      refine ARun.call (lit_lt rfl) go_37 rfl (selV_Rank s N (i + 1) _ cs _ z hv) ?_
      rintro _ S2 ⟨rfl, h1⟩
      rw [h1, q6]; clear h1 S2
      refine rC (Calm.move rfl) ?_
      refine rC (Calm.extract rfl rfl) ?_
      refine rC (Calm.extract rfl rfl) ?_
      refine rC (Calm.assign rfl) ?_
      refine rC (Calm.assign rfl) ?_
      refine arun_nil ?_
      refine athen_n ?_
      refine AWP.sub [(0, _), (1, _), (2, _), (4, _), (18, _), (5, _), (6, _), (26, _), (7, _), (8, _), (9, _), (10, _), (11, _), (12, _), (71, _), (13, _), (14, _), (80, _), (15, _), (16, _)] ⟨rfl, rfl, rfl, rfl, rfl, rfl, rfl, rfl, rfl, rfl, rfl, rfl, rfl, rfl, rfl, rfl, rfl, rfl, rfl, rfl, trivial⟩ ?_
      refine AWP.seq ?_
      refine AWP.region ?_
      refine rC (Calm.move rfl) ?_
      refine rC (Calm.bin rfl rfl b_eql) ?_
      refine rC (Calm.move rfl) ?_
      first | refine rS 95 ?_ | refine rU 95 ?_ | refine rG 95 (Calm.move rfl) ?_
      first | refine rS 95 ?_ | refine rU 95 ?_ | refine rG 95 (Calm.move rfl) ?_
      first | refine rS 95 ?_ | refine rU 95 ?_ | refine rG 95 (Calm.bin rfl rfl b_sub_i64) ?_
      first | refine rS 95 ?_ | refine rU 95 ?_ | refine rG 95 (Calm.move rfl) ?_
      first | refine rS 95 ?_ | refine rU 95 ?_ | refine rG 95 (Calm.conv rfl (by first | exact conv_intW Try.underlying59 Try.underlying3 (IntWalk.i64_in _ (by omega)) | exact conv_int Try.underlying59 Try.underlying3)) ?_
      first | refine rS 95 ?_ | refine rU 95 ?_ | refine rG 95 (Calm.bin rfl rfl (bin_bool b_eql (decide_eq_true (by omega)))) ?_
      refine rC ((by first | exact Calm.pickT rfl rfl | exact Calm.pickF rfl rfl)) ?_
      refine rC (Calm.assign rfl) ?_
      refine arun_nil ?_
      refine athen_n ?_
      refine AWP.sub [(0, _), (1, _), (2, _), (4, _), (18, _), (5, _), (6, _), (26, _), (7, _), (8, _), (9, _), (10, _), (11, _), (12, _), (71, _), (13, _), (14, _), (80, _), (15, _), (16, _)] ⟨rfl, rfl, rfl, rfl, rfl, rfl, rfl, rfl, rfl, rfl, rfl, rfl, rfl, rfl, rfl, rfl, rfl, rfl, rfl, rfl, trivial⟩ ?_
      refine AWP.ret ?_
      refine ⟨_, _, ⟨_, _, rfl, rfl, rfl⟩, less_, ?_⟩
      rfl
set_option maxHeartbeats 8000000 in
theorem law_SelBack (s : ByteArray) (N : Int) (hc : Value) (cs : List Int) (i : Int) (S : Mem) (z : s.size ≤ 281474976710656) (hv : Sl 1 i64s S hc cs) (hi0 : -9223372036854775808 ≤ i) (hi : i ≤ 9223372036854775807) :
    ACall Try.prog 11 #[.agg #[.string s, .int .i64 N, hc], .int .i64 i] S fun r S' => r = .bool true := by
  obtain ⟨pc, cc, rfl, _⟩ := id hv
  have hl1 := back1 s N cs i
  have hl2 := back2 s N cs i
  refine ACall.enter (args := [.agg #[.string s, .int .i64 N, .slice pc cs.length cc], .int .i64 i]) (rs := [.tmp 4]) 91 [(0, .agg #[.string s, .int .i64 N, .slice pc cs.length cc]), (1, .int .i64 i)] Try.func11 rfl rfl (Nat.le_of_ble_eq_true rfl) rfl ⟨rfl, rfl, trivial⟩ ?_
  refine AWP.seq ?_
  refine AWP.region ?_
  refine ARun.boxA (cs := [_, _, _]) (lit_lt rfl) rfl ?_
  intro b2 f2
  have g2 := f2
  repeat ((with_reducible replace g2 := fresh_set g2); obtain ⟨g2, _⟩ := g2)
  (try simp only [List.length_cons, List.length_nil, Nat.zero_add, Nat.reduceAdd])
  refine rC (Calm.assign rfl) ?_
  refine arun_nil ?_
  refine athen_n ?_
  refine named (S := S) (b := b2) g2.1 ?_
  intro T2 hT2 kb2
  replace hv := hv.less hT2
  refine AWP.seq ?_
  refine AWP.seq ?_
  refine AWP.region ?_
  refine ARun.call (lit_lt rfl) go_29 rfl (selV_lives _) ?_
  rintro _ S2 ⟨rfl, h1⟩
  rw [h1]; clear h1 S2
  refine rC (Calm.un rfl (una_not _)) ?_
  refine arun_nil ?_
  refine athen_n ?_
  refine AWP.sub [(0, _), (1, _), (2, _), (4, _), (18, _)] ⟨rfl, rfl, rfl, rfl, rfl, trivial⟩ ?_
  refine AWP.condF rfl (by first | rfl | (simp; done) | (simp; omega)) ?_
  rcases hl1 with ⟨e, h0, p1⟩ | ⟨j, hj, p1, p2, p3⟩
  · refine AWP.skip ?_
    refine athen_n ?_
    refine AWP.seq ?_
    refine AWP.region ?_
    refine rC (ldA_ (cs := [_, _, _]) ty_agg_49 ty_size_49 rfl) ?_
    refine rC (Calm.move rfl) ?_
    refine ARun.call (lit_lt rfl) go_39 rfl (selV_Select s N i _ cs _ z hv (by omega)) ?_
    rintro _ S2 ⟨rfl, h1⟩
    rw [h1, p1]; clear h1 S2
    refine rC (Calm.move rfl) ?_
    refine rC (Calm.extract rfl rfl) ?_
    refine rC (Calm.extract rfl rfl) ?_
    refine rC (Calm.assign rfl) ?_
    refine rC (Calm.assign rfl) ?_
    refine arun_nil ?_
    refine athen_n ?_
    refine AWP.sub [(0, _), (1, _), (2, _), (4, _), (18, _), (5, _), (6, _)] ⟨rfl, rfl, rfl, rfl, rfl, rfl, rfl, trivial⟩ ?_
    refine AWP.seq ?_
    refine AWP.seq ?_
    refine AWP.region ?_
    refine rC (Calm.move rfl) ?_
    refine rC (Calm.bin rfl rfl b_eql) ?_
    refine arun_nil ?_
    refine athen_n ?_
    refine AWP.sub [(0, _), (1, _), (2, _), (4, _), (18, _), (5, _), (6, _), (26, _)] ⟨rfl, rfl, rfl, rfl, rfl, rfl, rfl, rfl, trivial⟩ ?_
    refine AWP.condF rfl (by first | rfl | (simp; done) | (simp; omega)) ?_
    rcases hl2 with ⟨e, h0, q1⟩ | ⟨n, hn, q1, ⟨b, hb, q2⟩ | q2 | ⟨q2, q3⟩⟩
    · refine AWP.skip ?_
      refine athen_n ?_
      refine AWP.seq ?_
      refine AWP.region ?_
      refine rC (ldA_ (cs := [_, _, _]) ty_agg_49 ty_size_49 rfl) ?_
      refine rC (Calm.move rfl) ?_
      refine ARun.call (lit_lt rfl) go_37 rfl (selV_Rank s N i _ cs _ z hv) ?_
      rintro _ S2 ⟨rfl, h1⟩
      rw [h1, q1]; clear h1 S2
      refine rC (Calm.move rfl) ?_
      refine rC (Calm.extract rfl rfl) ?_
      refine rC (Calm.extract rfl rfl) ?_
      refine rC (Calm.assign rfl) ?_
      refine rC (Calm.assign rfl) ?_
      refine arun_nil ?_
      refine athen_n ?_
      refine AWP.sub [(0, _), (1, _), (2, _), (4, _), (18, _), (5, _), (6, _), (26, _), (11, _), (12, _)] ⟨rfl, rfl, rfl, rfl, rfl, rfl, rfl, rfl, rfl, rfl, trivial⟩ ?_
      refine AWP.seq ?_
      refine AWP.region ?_
      refine rC (Calm.fieldAddr ty_field_49_0 rfl) ?_
      refine rC (ldA_ (cs := [_, _]) ty_agg_47 ty_size_47 rfl) ?_
      refine rC (Calm.move rfl) ?_
      refine ARun.call (lit_lt rfl) go_43 rfl (bitsV_Get s N i 1 _ (by omega) (by omega) (by omega)) ?_
      rintro _ S2 ⟨rfl, h1⟩
      rw [h1, (get_form i).choose_spec.choose_spec]; clear h1 S2
      refine rC (Calm.move rfl) ?_
      refine rC (Calm.extract rfl rfl) ?_
      refine rC (Calm.extract rfl rfl) ?_
      refine rC (Calm.assign rfl) ?_
      refine rC (Calm.assign rfl) ?_
      refine arun_nil ?_
      refine athen_n ?_
      refine AWP.sub [(0, _), (1, _), (2, _), (4, _), (18, _), (5, _), (6, _), (26, _), (11, _), (12, _), (13, _), (14, _)] ⟨rfl, rfl, rfl, rfl, rfl, rfl, rfl, rfl, rfl, rfl, rfl, rfl, trivial⟩ ?_
      refine AWP.seq ?_
      refine AWP.seq ?_
      refine AWP.region ?_
      refine rC (Calm.move rfl) ?_
      refine rC (Calm.bin rfl rfl b_neq) ?_
      refine rC (Calm.move rfl) ?_
      first | refine rS 70 ?_ | refine rU 70 ?_ | refine rG 70 (Calm.move rfl) ?_
      first | refine rS 70 ?_ | refine rU 70 ?_ | refine rG 70 (Calm.bin rfl rfl b_neq) ?_
      refine rC ((by first | exact Calm.pickT rfl rfl | exact Calm.pickF rfl rfl)) ?_
      refine rC (Calm.move rfl) ?_
      first | refine rS 74 ?_ | refine rU 74 ?_ | refine rG 74 (Calm.move rfl) ?_
      first | refine rS 74 ?_ | refine rU 74 ?_ | refine rG 74 (Calm.bin rfl rfl b_eql) ?_
      refine rC ((by first | exact Calm.pickT rfl rfl | exact Calm.pickF rfl rfl)) ?_
      refine arun_nil ?_
      refine athen_n ?_
      refine AWP.sub [(0, _), (1, _), (2, _), (4, _), (18, _), (5, _), (6, _), (26, _), (11, _), (12, _), (13, _), (14, _), (77, _)] ⟨rfl, rfl, rfl, rfl, rfl, rfl, rfl, rfl, rfl, rfl, rfl, rfl, rfl, trivial⟩ ?_
      refine AWP.condT rfl (by first | rfl | (simp; done) | (simp; omega)) ?_
      refine AWP.seq ?_
      refine AWP.region ?_
      refine rC (Calm.assign rfl) ?_
      refine arun_nil ?_
      refine athen_n ?_
      refine AWP.ret ?_
      refine athen_ret ?_
      refine ⟨_, _, ⟨_, _, rfl, rfl, rfl⟩, less_, ?_⟩
      rfl
    · refine AWP.skip ?_
      refine athen_n ?_
      refine AWP.seq ?_
      refine AWP.region ?_
      refine rC (ldA_ (cs := [_, _, _]) ty_agg_49 ty_size_49 rfl) ?_
      refine rC (Calm.move rfl) ?_
      refine ARun.call (lit_lt rfl) go_37 rfl (selV_Rank s N i _ cs _ z hv) ?_
      rintro _ S2 ⟨rfl, h1⟩
      rw [h1, q1]; clear h1 S2
      refine rC (Calm.move rfl) ?_
      refine rC (Calm.extract rfl rfl) ?_
      refine rC (Calm.extract rfl rfl) ?_
      refine rC (Calm.assign rfl) ?_
      refine rC (Calm.assign rfl) ?_
      refine arun_nil ?_
      refine athen_n ?_
      refine AWP.sub [(0, _), (1, _), (2, _), (4, _), (18, _), (5, _), (6, _), (26, _), (11, _), (12, _)] ⟨rfl, rfl, rfl, rfl, rfl, rfl, rfl, rfl, rfl, rfl, trivial⟩ ?_
      refine AWP.seq ?_
      refine AWP.region ?_
      refine rC (Calm.fieldAddr ty_field_49_0 rfl) ?_
      refine rC (ldA_ (cs := [_, _]) ty_agg_47 ty_size_47 rfl) ?_
      refine rC (Calm.move rfl) ?_
      refine ARun.call (lit_lt rfl) go_43 rfl (bitsV_Get s N i 1 _ (by omega) (by omega) (by omega)) ?_
      rintro _ S2 ⟨rfl, h1⟩
      rw [h1, q2]; clear h1 S2
      refine rC (Calm.move rfl) ?_
      refine rC (Calm.extract rfl rfl) ?_
      refine rC (Calm.extract rfl rfl) ?_
      refine rC (Calm.assign rfl) ?_
      refine rC (Calm.assign rfl) ?_
      refine arun_nil ?_
      refine athen_n ?_
      refine AWP.sub [(0, _), (1, _), (2, _), (4, _), (18, _), (5, _), (6, _), (26, _), (11, _), (12, _), (13, _), (14, _)] ⟨rfl, rfl, rfl, rfl, rfl, rfl, rfl, rfl, rfl, rfl, rfl, rfl, trivial⟩ ?_
      refine AWP.seq ?_
      refine AWP.seq ?_
      refine AWP.region ?_
      refine rC (Calm.move rfl) ?_
      refine rC (Calm.bin rfl rfl b_neq) ?_
      refine rC (Calm.move rfl) ?_
      first | refine rS 70 ?_ | refine rU 70 ?_ | refine rG 70 (Calm.move rfl) ?_
      first | refine rS 70 ?_ | refine rU 70 ?_ | refine rG 70 (Calm.bin rfl rfl b_neq) ?_
      refine rC ((by first | exact Calm.pickT rfl rfl | exact Calm.pickF rfl rfl)) ?_
      refine rC (Calm.move rfl) ?_
      first | refine rS 74 ?_ | refine rU 74 ?_ | refine rG 74 (Calm.move rfl) ?_
      first | refine rS 74 ?_ | refine rU 74 ?_ | refine rG 74 (Calm.bin rfl rfl b_eql) ?_
      refine rC ((by first | exact Calm.pickT rfl rfl | exact Calm.pickF rfl rfl)) ?_
      refine arun_nil ?_
      refine athen_n ?_
      refine AWP.sub [(0, _), (1, _), (2, _), (4, _), (18, _), (5, _), (6, _), (26, _), (11, _), (12, _), (13, _), (14, _), (77, _)] ⟨rfl, rfl, rfl, rfl, rfl, rfl, rfl, rfl, rfl, rfl, rfl, rfl, rfl, trivial⟩ ?_
      refine AWP.condT rfl (by first | rfl | (simp; done) | (simp; omega)) ?_
      refine AWP.seq ?_
      refine AWP.region ?_
      refine rC (Calm.assign rfl) ?_
      refine arun_nil ?_
      refine athen_n ?_
      refine AWP.ret ?_
      refine athen_ret ?_
      refine ⟨_, _, ⟨_, _, rfl, rfl, rfl⟩, less_, ?_⟩
      rfl
    · refine AWP.skip ?_
      refine athen_n ?_
      refine AWP.seq ?_
      refine AWP.region ?_
      refine rC (ldA_ (cs := [_, _, _]) ty_agg_49 ty_size_49 rfl) ?_
      refine rC (Calm.move rfl) ?_
      refine ARun.call (lit_lt rfl) go_37 rfl (selV_Rank s N i _ cs _ z hv) ?_
      rintro _ S2 ⟨rfl, h1⟩
      rw [h1, q1]; clear h1 S2
      refine rC (Calm.move rfl) ?_
      refine rC (Calm.extract rfl rfl) ?_
      refine rC (Calm.extract rfl rfl) ?_
      refine rC (Calm.assign rfl) ?_
      refine rC (Calm.assign rfl) ?_
      refine arun_nil ?_
      refine athen_n ?_
      refine AWP.sub [(0, _), (1, _), (2, _), (4, _), (18, _), (5, _), (6, _), (26, _), (11, _), (12, _)] ⟨rfl, rfl, rfl, rfl, rfl, rfl, rfl, rfl, rfl, rfl, trivial⟩ ?_
      refine AWP.seq ?_
      refine AWP.region ?_
      refine rC (Calm.fieldAddr ty_field_49_0 rfl) ?_
      refine rC (ldA_ (cs := [_, _]) ty_agg_47 ty_size_47 rfl) ?_
      refine rC (Calm.move rfl) ?_
      refine ARun.call (lit_lt rfl) go_43 rfl (bitsV_Get s N i 1 _ (by omega) (by omega) (by omega)) ?_
      rintro _ S2 ⟨rfl, h1⟩
      rw [h1, q2]; clear h1 S2
      refine rC (Calm.move rfl) ?_
      refine rC (Calm.extract rfl rfl) ?_
      refine rC (Calm.extract rfl rfl) ?_
      refine rC (Calm.assign rfl) ?_
      refine rC (Calm.assign rfl) ?_
      refine arun_nil ?_
      refine athen_n ?_
      refine AWP.sub [(0, _), (1, _), (2, _), (4, _), (18, _), (5, _), (6, _), (26, _), (11, _), (12, _), (13, _), (14, _)] ⟨rfl, rfl, rfl, rfl, rfl, rfl, rfl, rfl, rfl, rfl, rfl, rfl, trivial⟩ ?_
      refine AWP.seq ?_
      refine AWP.seq ?_
      refine AWP.region ?_
      refine rC (Calm.move rfl) ?_
      refine rC (Calm.bin rfl rfl b_neq) ?_
      refine rC (Calm.move rfl) ?_
      first | refine rS 70 ?_ | refine rU 70 ?_ | refine rG 70 (Calm.move rfl) ?_
      first | refine rS 70 ?_ | refine rU 70 ?_ | refine rG 70 (Calm.bin rfl rfl b_neq) ?_
      refine rC ((by first | exact Calm.pickT rfl rfl | exact Calm.pickF rfl rfl)) ?_
      refine rC (Calm.move rfl) ?_
      first | refine rS 74 ?_ | refine rU 74 ?_ | refine rG 74 (Calm.move rfl) ?_
      first | refine rS 74 ?_ | refine rU 74 ?_ | refine rG 74 (Calm.bin rfl rfl b_eql) ?_
      refine rC ((by first | exact Calm.pickT rfl rfl | exact Calm.pickF rfl rfl)) ?_
      refine arun_nil ?_
      refine athen_n ?_
      refine AWP.sub [(0, _), (1, _), (2, _), (4, _), (18, _), (5, _), (6, _), (26, _), (11, _), (12, _), (13, _), (14, _), (77, _)] ⟨rfl, rfl, rfl, rfl, rfl, rfl, rfl, rfl, rfl, rfl, rfl, rfl, rfl, trivial⟩ ?_
      refine AWP.condT rfl (by first | rfl | (simp; done) | (simp; omega)) ?_
      refine AWP.seq ?_
      refine AWP.region ?_
      refine rC (Calm.assign rfl) ?_
      refine arun_nil ?_
      refine athen_n ?_
      refine AWP.ret ?_
      refine athen_ret ?_
      refine ⟨_, _, ⟨_, _, rfl, rfl, rfl⟩, less_, ?_⟩
      rfl
    · refine AWP.skip ?_
      refine athen_n ?_
      refine AWP.seq ?_
      refine AWP.region ?_
      refine rC (ldA_ (cs := [_, _, _]) ty_agg_49 ty_size_49 rfl) ?_
      refine rC (Calm.move rfl) ?_
      refine ARun.call (lit_lt rfl) go_37 rfl (selV_Rank s N i _ cs _ z hv) ?_
      rintro _ S2 ⟨rfl, h1⟩
      rw [h1, q1]; clear h1 S2
      refine rC (Calm.move rfl) ?_
      refine rC (Calm.extract rfl rfl) ?_
      refine rC (Calm.extract rfl rfl) ?_
      refine rC (Calm.assign rfl) ?_
      refine rC (Calm.assign rfl) ?_
      refine arun_nil ?_
      refine athen_n ?_
      refine AWP.sub [(0, _), (1, _), (2, _), (4, _), (18, _), (5, _), (6, _), (26, _), (11, _), (12, _)] ⟨rfl, rfl, rfl, rfl, rfl, rfl, rfl, rfl, rfl, rfl, trivial⟩ ?_
      refine AWP.seq ?_
      refine AWP.region ?_
      refine rC (Calm.fieldAddr ty_field_49_0 rfl) ?_
      refine rC (ldA_ (cs := [_, _]) ty_agg_47 ty_size_47 rfl) ?_
      refine rC (Calm.move rfl) ?_
      refine ARun.call (lit_lt rfl) go_43 rfl (bitsV_Get s N i 1 _ (by omega) (by omega) (by omega)) ?_
      rintro _ S2 ⟨rfl, h1⟩
      rw [h1, q2]; clear h1 S2
      refine rC (Calm.move rfl) ?_
      refine rC (Calm.extract rfl rfl) ?_
      refine rC (Calm.extract rfl rfl) ?_
      refine rC (Calm.assign rfl) ?_
      refine rC (Calm.assign rfl) ?_
      refine arun_nil ?_
      refine athen_n ?_
      refine AWP.sub [(0, _), (1, _), (2, _), (4, _), (18, _), (5, _), (6, _), (26, _), (11, _), (12, _), (13, _), (14, _)] ⟨rfl, rfl, rfl, rfl, rfl, rfl, rfl, rfl, rfl, rfl, rfl, rfl, trivial⟩ ?_
      refine AWP.seq ?_
      refine AWP.seq ?_
      refine AWP.region ?_
      refine rC (Calm.move rfl) ?_
      refine rC (Calm.bin rfl rfl b_neq) ?_
      refine rC (Calm.move rfl) ?_
      first | refine rS 70 ?_ | refine rU 70 ?_ | refine rG 70 (Calm.move rfl) ?_
      first | refine rS 70 ?_ | refine rU 70 ?_ | refine rG 70 (Calm.bin rfl rfl b_neq) ?_
      refine rC ((by first | exact Calm.pickT rfl rfl | exact Calm.pickF rfl rfl)) ?_
      refine rC (Calm.move rfl) ?_
      first | refine rS 74 ?_ | refine rU 74 ?_ | refine rG 74 (Calm.move rfl) ?_
      first | refine rS 74 ?_ | refine rU 74 ?_ | refine rG 74 (Calm.bin rfl rfl b_eql) ?_
      refine rC ((by first | exact Calm.pickT rfl rfl | exact Calm.pickF rfl rfl)) ?_
      refine arun_nil ?_
      refine athen_n ?_
      refine AWP.sub [(0, _), (1, _), (2, _), (4, _), (18, _), (5, _), (6, _), (26, _), (11, _), (12, _), (13, _), (14, _), (77, _)] ⟨rfl, rfl, rfl, rfl, rfl, rfl, rfl, rfl, rfl, rfl, rfl, rfl, rfl, trivial⟩ ?_
      refine AWP.condF rfl (by first | rfl | (simp; done) | (simp; omega)) ?_
      refine AWP.skip ?_
      refine athen_n ?_
      refine AWP.seq ?_
      refine AWP.region ?_
      refine rC (ldA_ (cs := [_, _, _]) ty_agg_49 ty_size_49 rfl) ?_
      refine rC (Calm.move rfl) ?_
      refine ARun.call (lit_lt rfl) go_39 rfl (selV_Select s N n _ cs _ z hv (by omega)) ?_
      rintro _ S2 ⟨rfl, h1⟩
      rw [h1, q3]; clear h1 S2
      refine rC (Calm.move rfl) ?_
      refine rC (Calm.extract rfl rfl) ?_
      refine rC (Calm.extract rfl rfl) ?_
      refine rC (Calm.assign rfl) ?_
      refine rC (Calm.assign rfl) ?_
      refine arun_nil ?_
      refine athen_n ?_
      refine AWP.sub [(0, _), (1, _), (2, _), (4, _), (18, _), (5, _), (6, _), (26, _), (11, _), (12, _), (13, _), (14, _), (77, _), (15, _), (16, _)] ⟨rfl, rfl, rfl, rfl, rfl, rfl, rfl, rfl, rfl, rfl, rfl, rfl, rfl, rfl, rfl, trivial⟩ ?_
      refine AWP.seq ?_
      refine AWP.region ?_
      refine rC (Calm.move rfl) ?_
      refine rC (Calm.bin rfl rfl b_eql) ?_
      refine rC (Calm.move rfl) ?_
      first | refine rS 86 ?_ | refine rU 86 ?_ | refine rG 86 (Calm.move rfl) ?_
      first | refine rS 86 ?_ | refine rU 86 ?_ | refine rG 86 (Calm.move rfl) ?_
      first | refine rS 86 ?_ | refine rU 86 ?_ | refine rG 86 (Calm.bin rfl rfl (bin_bool b_eql (decide_eq_true rfl))) ?_
      refine rC ((by first | exact Calm.pickT rfl rfl | exact Calm.pickF rfl rfl)) ?_
      refine rC (Calm.assign rfl) ?_
      refine arun_nil ?_
      refine athen_n ?_
      refine AWP.sub [(0, _), (1, _), (2, _), (4, _), (18, _), (5, _), (6, _), (26, _), (11, _), (12, _), (13, _), (14, _), (77, _), (15, _), (16, _)] ⟨rfl, rfl, rfl, rfl, rfl, rfl, rfl, rfl, rfl, rfl, rfl, rfl, rfl, rfl, rfl, trivial⟩ ?_
      refine AWP.ret ?_
      refine ⟨_, _, ⟨_, _, rfl, rfl, rfl⟩, less_, ?_⟩
      rfl
  · refine AWP.skip ?_
    refine athen_n ?_
    refine AWP.seq ?_
    refine AWP.region ?_
    refine rC (ldA_ (cs := [_, _, _]) ty_agg_49 ty_size_49 rfl) ?_
    refine rC (Calm.move rfl) ?_
    refine ARun.call (lit_lt rfl) go_39 rfl (selV_Select s N i _ cs _ z hv (by omega)) ?_
    rintro _ S2 ⟨rfl, h1⟩
    rw [h1, p1]; clear h1 S2
    refine rC (Calm.move rfl) ?_
    refine rC (Calm.extract rfl rfl) ?_
    refine rC (Calm.extract rfl rfl) ?_
    refine rC (Calm.assign rfl) ?_
    refine rC (Calm.assign rfl) ?_
    refine arun_nil ?_
    refine athen_n ?_
    refine AWP.sub [(0, _), (1, _), (2, _), (4, _), (18, _), (5, _), (6, _)] ⟨rfl, rfl, rfl, rfl, rfl, rfl, rfl, trivial⟩ ?_
    refine AWP.seq ?_
    refine AWP.seq ?_
    refine AWP.region ?_
    refine rC (Calm.move rfl) ?_
    refine rC (Calm.bin rfl rfl b_eql) ?_
    refine arun_nil ?_
    refine athen_n ?_
    refine AWP.sub [(0, _), (1, _), (2, _), (4, _), (18, _), (5, _), (6, _), (26, _)] ⟨rfl, rfl, rfl, rfl, rfl, rfl, rfl, rfl, trivial⟩ ?_
    refine AWP.condT rfl (by first | rfl | (simp; done) | (simp; omega)) ?_
    refine AWP.seq ?_
    refine AWP.region ?_
    refine rC (ldA_ (cs := [_, _, _]) ty_agg_49 ty_size_49 rfl) ?_
    refine rC (Calm.move rfl) ?_
    refine ARun.call (lit_lt rfl) go_37 rfl (selV_Rank s N j _ cs _ z hv) ?_
    rintro _ S2 ⟨rfl, h1⟩
    rw [h1, p2]; clear h1 S2
    refine rC (Calm.move rfl) ?_
    refine rC (Calm.extract rfl rfl) ?_
    refine rC (Calm.extract rfl rfl) ?_
    refine rC (Calm.assign rfl) ?_
    refine rC (Calm.assign rfl) ?_
    refine arun_nil ?_
    refine athen_n ?_
    refine AWP.sub [(0, _), (1, _), (2, _), (4, _), (18, _), (5, _), (6, _), (26, _), (7, _), (8, _)] ⟨rfl, rfl, rfl, rfl, rfl, rfl, rfl, rfl, rfl, rfl, trivial⟩ ?_
    refine AWP.seq ?_
    refine AWP.region ?_
    refine rC (Calm.fieldAddr ty_field_49_0 rfl) ?_
    refine rC (ldA_ (cs := [_, _]) ty_agg_47 ty_size_47 rfl) ?_
    refine rC (Calm.move rfl) ?_
    refine ARun.call (lit_lt rfl) go_43 rfl (bitsV_Get s N j 1 _ (by omega) (by omega) (by omega)) ?_
    rintro _ S2 ⟨rfl, h1⟩
    rw [h1, p3]; clear h1 S2
    refine rC (Calm.move rfl) ?_
    refine rC (Calm.extract rfl rfl) ?_
    refine rC (Calm.extract rfl rfl) ?_
    refine rC (Calm.assign rfl) ?_
    refine rC (Calm.assign rfl) ?_
    refine arun_nil ?_
    refine athen_n ?_
    refine AWP.sub [(0, _), (1, _), (2, _), (4, _), (18, _), (5, _), (6, _), (26, _), (7, _), (8, _), (9, _), (10, _)] ⟨rfl, rfl, rfl, rfl, rfl, rfl, rfl, rfl, rfl, rfl, rfl, rfl, trivial⟩ ?_
    refine AWP.seq ?_
    refine AWP.region ?_
    refine rC (Calm.move rfl) ?_
    refine rC (Calm.bin rfl rfl b_neq) ?_
    refine rC (Calm.move rfl) ?_
    first | refine rS 42 ?_ | refine rU 42 ?_ | refine rG 42 (Calm.move rfl) ?_
    first | refine rS 42 ?_ | refine rU 42 ?_ | refine rG 42 (Calm.move rfl) ?_
    first | refine rS 42 ?_ | refine rU 42 ?_ | refine rG 42 (Calm.bin rfl rfl (bin_bool b_neq (bnot_dec_false rfl))) ?_
    refine rC ((by first | exact Calm.pickT rfl rfl | exact Calm.pickF rfl rfl)) ?_
    refine rC (Calm.move rfl) ?_
    first | refine rS 47 ?_ | refine rU 47 ?_ | refine rG 47 (Calm.move rfl) ?_
    first | refine rS 47 ?_ | refine rU 47 ?_ | refine rG 47 (Calm.bin rfl rfl b_neq) ?_
    refine rC ((by first | exact Calm.pickT rfl rfl | exact Calm.pickF rfl rfl)) ?_
    refine rC (Calm.move rfl) ?_
    first | refine rS 51 ?_ | refine rU 51 ?_ | refine rG 51 (Calm.move rfl) ?_
    first | refine rS 51 ?_ | refine rU 51 ?_ | refine rG 51 (Calm.bin rfl rfl b_neq) ?_
    refine rC ((by first | exact Calm.pickT rfl rfl | exact Calm.pickF rfl rfl)) ?_
    refine arun_nil ?_
    refine athen_n ?_
    refine AWP.sub [(0, _), (1, _), (2, _), (4, _), (18, _), (5, _), (6, _), (26, _), (7, _), (8, _), (9, _), (10, _), (54, _)] ⟨rfl, rfl, rfl, rfl, rfl, rfl, rfl, rfl, rfl, rfl, rfl, rfl, rfl, trivial⟩ ?_
    refine AWP.condF rfl (by first | rfl | (simp; done) | (simp; omega)) ?_
    rcases hl2 with ⟨e, h0, q1⟩ | ⟨n, hn, q1, ⟨b, hb, q2⟩ | q2 | ⟨q2, q3⟩⟩
    · refine AWP.skip ?_
      refine athen_n ?_
      refine AWP.seq ?_
      refine AWP.region ?_
      refine rC (ldA_ (cs := [_, _, _]) ty_agg_49 ty_size_49 rfl) ?_
      refine rC (Calm.move rfl) ?_
      refine ARun.call (lit_lt rfl) go_37 rfl (selV_Rank s N i _ cs _ z hv) ?_
      rintro _ S2 ⟨rfl, h1⟩
      rw [h1, q1]; clear h1 S2
      refine rC (Calm.move rfl) ?_
      refine rC (Calm.extract rfl rfl) ?_
      refine rC (Calm.extract rfl rfl) ?_
      refine rC (Calm.assign rfl) ?_
      refine rC (Calm.assign rfl) ?_
      refine arun_nil ?_
      refine athen_n ?_
      refine AWP.sub [(0, _), (1, _), (2, _), (4, _), (18, _), (5, _), (6, _), (26, _), (7, _), (8, _), (9, _), (10, _), (54, _), (11, _), (12, _)] ⟨rfl, rfl, rfl, rfl, rfl, rfl, rfl, rfl, rfl, rfl, rfl, rfl, rfl, rfl, rfl, trivial⟩ ?_
      refine AWP.seq ?_
      refine AWP.region ?_
      refine rC (Calm.fieldAddr ty_field_49_0 rfl) ?_
      refine rC (ldA_ (cs := [_, _]) ty_agg_47 ty_size_47 rfl) ?_
      refine rC (Calm.move rfl) ?_
      refine ARun.call (lit_lt rfl) go_43 rfl (bitsV_Get s N i 1 _ (by omega) (by omega) (by omega)) ?_
      rintro _ S2 ⟨rfl, h1⟩
      rw [h1, (get_form i).choose_spec.choose_spec]; clear h1 S2
      refine rC (Calm.move rfl) ?_
      refine rC (Calm.extract rfl rfl) ?_
      refine rC (Calm.extract rfl rfl) ?_
      refine rC (Calm.assign rfl) ?_
      refine rC (Calm.assign rfl) ?_
      refine arun_nil ?_
      refine athen_n ?_
      refine AWP.sub [(0, _), (1, _), (2, _), (4, _), (18, _), (5, _), (6, _), (26, _), (7, _), (8, _), (9, _), (10, _), (54, _), (11, _), (12, _), (13, _), (14, _)] ⟨rfl, rfl, rfl, rfl, rfl, rfl, rfl, rfl, rfl, rfl, rfl, rfl, rfl, rfl, rfl, rfl, rfl, trivial⟩ ?_
      refine AWP.seq ?_
      refine AWP.seq ?_
      refine AWP.region ?_
      refine rC (Calm.move rfl) ?_
      refine rC (Calm.bin rfl rfl b_neq) ?_
      refine rC (Calm.move rfl) ?_
      first | refine rS 70 ?_ | refine rU 70 ?_ | refine rG 70 (Calm.move rfl) ?_
      first | refine rS 70 ?_ | refine rU 70 ?_ | refine rG 70 (Calm.bin rfl rfl b_neq) ?_
      refine rC ((by first | exact Calm.pickT rfl rfl | exact Calm.pickF rfl rfl)) ?_
      refine rC (Calm.move rfl) ?_
      first | refine rS 74 ?_ | refine rU 74 ?_ | refine rG 74 (Calm.move rfl) ?_
      first | refine rS 74 ?_ | refine rU 74 ?_ | refine rG 74 (Calm.bin rfl rfl b_eql) ?_
      refine rC ((by first | exact Calm.pickT rfl rfl | exact Calm.pickF rfl rfl)) ?_
      refine arun_nil ?_
      refine athen_n ?_
      refine AWP.sub [(0, _), (1, _), (2, _), (4, _), (18, _), (5, _), (6, _), (26, _), (7, _), (8, _), (9, _), (10, _), (54, _), (11, _), (12, _), (13, _), (14, _), (77, _)] ⟨rfl, rfl, rfl, rfl, rfl, rfl, rfl, rfl, rfl, rfl, rfl, rfl, rfl, rfl, rfl, rfl, rfl, rfl, trivial⟩ ?_
      refine AWP.condT rfl (by first | rfl | (simp; done) | (simp; omega)) ?_
      refine AWP.seq ?_
      refine AWP.region ?_
      refine rC (Calm.assign rfl) ?_
      refine arun_nil ?_
      refine athen_n ?_
      refine AWP.ret ?_
      refine athen_ret ?_
      refine ⟨_, _, ⟨_, _, rfl, rfl, rfl⟩, less_, ?_⟩
      rfl
    · refine AWP.skip ?_
      refine athen_n ?_
      refine AWP.seq ?_
      refine AWP.region ?_
      refine rC (ldA_ (cs := [_, _, _]) ty_agg_49 ty_size_49 rfl) ?_
      refine rC (Calm.move rfl) ?_
      refine ARun.call (lit_lt rfl) go_37 rfl (selV_Rank s N i _ cs _ z hv) ?_
      rintro _ S2 ⟨rfl, h1⟩
      rw [h1, q1]; clear h1 S2
      refine rC (Calm.move rfl) ?_
      refine rC (Calm.extract rfl rfl) ?_
      refine rC (Calm.extract rfl rfl) ?_
      refine rC (Calm.assign rfl) ?_
      refine rC (Calm.assign rfl) ?_
      refine arun_nil ?_
      refine athen_n ?_
      refine AWP.sub [(0, _), (1, _), (2, _), (4, _), (18, _), (5, _), (6, _), (26, _), (7, _), (8, _), (9, _), (10, _), (54, _), (11, _), (12, _)] ⟨rfl, rfl, rfl, rfl, rfl, rfl, rfl, rfl, rfl, rfl, rfl, rfl, rfl, rfl, rfl, trivial⟩ ?_
      refine AWP.seq ?_
      refine AWP.region ?_
      refine rC (Calm.fieldAddr ty_field_49_0 rfl) ?_
      refine rC (ldA_ (cs := [_, _]) ty_agg_47 ty_size_47 rfl) ?_
      refine rC (Calm.move rfl) ?_
      refine ARun.call (lit_lt rfl) go_43 rfl (bitsV_Get s N i 1 _ (by omega) (by omega) (by omega)) ?_
      rintro _ S2 ⟨rfl, h1⟩
      rw [h1, q2]; clear h1 S2
      refine rC (Calm.move rfl) ?_
      refine rC (Calm.extract rfl rfl) ?_
      refine rC (Calm.extract rfl rfl) ?_
      refine rC (Calm.assign rfl) ?_
      refine rC (Calm.assign rfl) ?_
      refine arun_nil ?_
      refine athen_n ?_
      refine AWP.sub [(0, _), (1, _), (2, _), (4, _), (18, _), (5, _), (6, _), (26, _), (7, _), (8, _), (9, _), (10, _), (54, _), (11, _), (12, _), (13, _), (14, _)] ⟨rfl, rfl, rfl, rfl, rfl, rfl, rfl, rfl, rfl, rfl, rfl, rfl, rfl, rfl, rfl, rfl, rfl, trivial⟩ ?_
      refine AWP.seq ?_
      refine AWP.seq ?_
      refine AWP.region ?_
      refine rC (Calm.move rfl) ?_
      refine rC (Calm.bin rfl rfl b_neq) ?_
      refine rC (Calm.move rfl) ?_
      first | refine rS 70 ?_ | refine rU 70 ?_ | refine rG 70 (Calm.move rfl) ?_
      first | refine rS 70 ?_ | refine rU 70 ?_ | refine rG 70 (Calm.bin rfl rfl b_neq) ?_
      refine rC ((by first | exact Calm.pickT rfl rfl | exact Calm.pickF rfl rfl)) ?_
      refine rC (Calm.move rfl) ?_
      first | refine rS 74 ?_ | refine rU 74 ?_ | refine rG 74 (Calm.move rfl) ?_
      first | refine rS 74 ?_ | refine rU 74 ?_ | refine rG 74 (Calm.bin rfl rfl b_eql) ?_
      refine rC ((by first | exact Calm.pickT rfl rfl | exact Calm.pickF rfl rfl)) ?_
      refine arun_nil ?_
      refine athen_n ?_
      refine AWP.sub [(0, _), (1, _), (2, _), (4, _), (18, _), (5, _), (6, _), (26, _), (7, _), (8, _), (9, _), (10, _), (54, _), (11, _), (12, _), (13, _), (14, _), (77, _)] ⟨rfl, rfl, rfl, rfl, rfl, rfl, rfl, rfl, rfl, rfl, rfl, rfl, rfl, rfl, rfl, rfl, rfl, rfl, trivial⟩ ?_
      refine AWP.condT rfl (by first | rfl | (simp; done) | (simp; omega)) ?_
      refine AWP.seq ?_
      refine AWP.region ?_
      refine rC (Calm.assign rfl) ?_
      refine arun_nil ?_
      refine athen_n ?_
      refine AWP.ret ?_
      refine athen_ret ?_
      refine ⟨_, _, ⟨_, _, rfl, rfl, rfl⟩, less_, ?_⟩
      rfl
    · refine AWP.skip ?_
      refine athen_n ?_
      refine AWP.seq ?_
      refine AWP.region ?_
      refine rC (ldA_ (cs := [_, _, _]) ty_agg_49 ty_size_49 rfl) ?_
      refine rC (Calm.move rfl) ?_
      refine ARun.call (lit_lt rfl) go_37 rfl (selV_Rank s N i _ cs _ z hv) ?_
      rintro _ S2 ⟨rfl, h1⟩
      rw [h1, q1]; clear h1 S2
      refine rC (Calm.move rfl) ?_
      refine rC (Calm.extract rfl rfl) ?_
      refine rC (Calm.extract rfl rfl) ?_
      refine rC (Calm.assign rfl) ?_
      refine rC (Calm.assign rfl) ?_
      refine arun_nil ?_
      refine athen_n ?_
      refine AWP.sub [(0, _), (1, _), (2, _), (4, _), (18, _), (5, _), (6, _), (26, _), (7, _), (8, _), (9, _), (10, _), (54, _), (11, _), (12, _)] ⟨rfl, rfl, rfl, rfl, rfl, rfl, rfl, rfl, rfl, rfl, rfl, rfl, rfl, rfl, rfl, trivial⟩ ?_
      refine AWP.seq ?_
      refine AWP.region ?_
      refine rC (Calm.fieldAddr ty_field_49_0 rfl) ?_
      refine rC (ldA_ (cs := [_, _]) ty_agg_47 ty_size_47 rfl) ?_
      refine rC (Calm.move rfl) ?_
      refine ARun.call (lit_lt rfl) go_43 rfl (bitsV_Get s N i 1 _ (by omega) (by omega) (by omega)) ?_
      rintro _ S2 ⟨rfl, h1⟩
      rw [h1, q2]; clear h1 S2
      refine rC (Calm.move rfl) ?_
      refine rC (Calm.extract rfl rfl) ?_
      refine rC (Calm.extract rfl rfl) ?_
      refine rC (Calm.assign rfl) ?_
      refine rC (Calm.assign rfl) ?_
      refine arun_nil ?_
      refine athen_n ?_
      refine AWP.sub [(0, _), (1, _), (2, _), (4, _), (18, _), (5, _), (6, _), (26, _), (7, _), (8, _), (9, _), (10, _), (54, _), (11, _), (12, _), (13, _), (14, _)] ⟨rfl, rfl, rfl, rfl, rfl, rfl, rfl, rfl, rfl, rfl, rfl, rfl, rfl, rfl, rfl, rfl, rfl, trivial⟩ ?_
      refine AWP.seq ?_
      refine AWP.seq ?_
      refine AWP.region ?_
      refine rC (Calm.move rfl) ?_
      refine rC (Calm.bin rfl rfl b_neq) ?_
      refine rC (Calm.move rfl) ?_
      first | refine rS 70 ?_ | refine rU 70 ?_ | refine rG 70 (Calm.move rfl) ?_
      first | refine rS 70 ?_ | refine rU 70 ?_ | refine rG 70 (Calm.bin rfl rfl b_neq) ?_
      refine rC ((by first | exact Calm.pickT rfl rfl | exact Calm.pickF rfl rfl)) ?_
      refine rC (Calm.move rfl) ?_
      first | refine rS 74 ?_ | refine rU 74 ?_ | refine rG 74 (Calm.move rfl) ?_
      first | refine rS 74 ?_ | refine rU 74 ?_ | refine rG 74 (Calm.bin rfl rfl b_eql) ?_
      refine rC ((by first | exact Calm.pickT rfl rfl | exact Calm.pickF rfl rfl)) ?_
      refine arun_nil ?_
      refine athen_n ?_
      refine AWP.sub [(0, _), (1, _), (2, _), (4, _), (18, _), (5, _), (6, _), (26, _), (7, _), (8, _), (9, _), (10, _), (54, _), (11, _), (12, _), (13, _), (14, _), (77, _)] ⟨rfl, rfl, rfl, rfl, rfl, rfl, rfl, rfl, rfl, rfl, rfl, rfl, rfl, rfl, rfl, rfl, rfl, rfl, trivial⟩ ?_
      refine AWP.condT rfl (by first | rfl | (simp; done) | (simp; omega)) ?_
      refine AWP.seq ?_
      refine AWP.region ?_
      refine rC (Calm.assign rfl) ?_
      refine arun_nil ?_
      refine athen_n ?_
      refine AWP.ret ?_
      refine athen_ret ?_
      refine ⟨_, _, ⟨_, _, rfl, rfl, rfl⟩, less_, ?_⟩
      rfl
    · refine AWP.skip ?_
      refine athen_n ?_
      refine AWP.seq ?_
      refine AWP.region ?_
      refine rC (ldA_ (cs := [_, _, _]) ty_agg_49 ty_size_49 rfl) ?_
      refine rC (Calm.move rfl) ?_
      refine ARun.call (lit_lt rfl) go_37 rfl (selV_Rank s N i _ cs _ z hv) ?_
      rintro _ S2 ⟨rfl, h1⟩
      rw [h1, q1]; clear h1 S2
      refine rC (Calm.move rfl) ?_
      refine rC (Calm.extract rfl rfl) ?_
      refine rC (Calm.extract rfl rfl) ?_
      refine rC (Calm.assign rfl) ?_
      refine rC (Calm.assign rfl) ?_
      refine arun_nil ?_
      refine athen_n ?_
      refine AWP.sub [(0, _), (1, _), (2, _), (4, _), (18, _), (5, _), (6, _), (26, _), (7, _), (8, _), (9, _), (10, _), (54, _), (11, _), (12, _)] ⟨rfl, rfl, rfl, rfl, rfl, rfl, rfl, rfl, rfl, rfl, rfl, rfl, rfl, rfl, rfl, trivial⟩ ?_
      refine AWP.seq ?_
      refine AWP.region ?_
      refine rC (Calm.fieldAddr ty_field_49_0 rfl) ?_
      refine rC (ldA_ (cs := [_, _]) ty_agg_47 ty_size_47 rfl) ?_
      refine rC (Calm.move rfl) ?_
      refine ARun.call (lit_lt rfl) go_43 rfl (bitsV_Get s N i 1 _ (by omega) (by omega) (by omega)) ?_
      rintro _ S2 ⟨rfl, h1⟩
      rw [h1, q2]; clear h1 S2
      refine rC (Calm.move rfl) ?_
      refine rC (Calm.extract rfl rfl) ?_
      refine rC (Calm.extract rfl rfl) ?_
      refine rC (Calm.assign rfl) ?_
      refine rC (Calm.assign rfl) ?_
      refine arun_nil ?_
      refine athen_n ?_
      refine AWP.sub [(0, _), (1, _), (2, _), (4, _), (18, _), (5, _), (6, _), (26, _), (7, _), (8, _), (9, _), (10, _), (54, _), (11, _), (12, _), (13, _), (14, _)] ⟨rfl, rfl, rfl, rfl, rfl, rfl, rfl, rfl, rfl, rfl, rfl, rfl, rfl, rfl, rfl, rfl, rfl, trivial⟩ ?_
      refine AWP.seq ?_
      refine AWP.seq ?_
      refine AWP.region ?_
      refine rC (Calm.move rfl) ?_
      refine rC (Calm.bin rfl rfl b_neq) ?_
      refine rC (Calm.move rfl) ?_
      first | refine rS 70 ?_ | refine rU 70 ?_ | refine rG 70 (Calm.move rfl) ?_
      first | refine rS 70 ?_ | refine rU 70 ?_ | refine rG 70 (Calm.bin rfl rfl b_neq) ?_
      refine rC ((by first | exact Calm.pickT rfl rfl | exact Calm.pickF rfl rfl)) ?_
      refine rC (Calm.move rfl) ?_
      first | refine rS 74 ?_ | refine rU 74 ?_ | refine rG 74 (Calm.move rfl) ?_
      first | refine rS 74 ?_ | refine rU 74 ?_ | refine rG 74 (Calm.bin rfl rfl b_eql) ?_
      refine rC ((by first | exact Calm.pickT rfl rfl | exact Calm.pickF rfl rfl)) ?_
      refine arun_nil ?_
      refine athen_n ?_
      refine AWP.sub [(0, _), (1, _), (2, _), (4, _), (18, _), (5, _), (6, _), (26, _), (7, _), (8, _), (9, _), (10, _), (54, _), (11, _), (12, _), (13, _), (14, _), (77, _)] ⟨rfl, rfl, rfl, rfl, rfl, rfl, rfl, rfl, rfl, rfl, rfl, rfl, rfl, rfl, rfl, rfl, rfl, rfl, trivial⟩ ?_
      refine AWP.condF rfl (by first | rfl | (simp; done) | (simp; omega)) ?_
      refine AWP.skip ?_
      refine athen_n ?_
      refine AWP.seq ?_
      refine AWP.region ?_
      refine rC (ldA_ (cs := [_, _, _]) ty_agg_49 ty_size_49 rfl) ?_
      refine rC (Calm.move rfl) ?_
      refine ARun.call (lit_lt rfl) go_39 rfl (selV_Select s N n _ cs _ z hv (by omega)) ?_
      rintro _ S2 ⟨rfl, h1⟩
      rw [h1, q3]; clear h1 S2
      refine rC (Calm.move rfl) ?_
      refine rC (Calm.extract rfl rfl) ?_
      refine rC (Calm.extract rfl rfl) ?_
      refine rC (Calm.assign rfl) ?_
      refine rC (Calm.assign rfl) ?_
      refine arun_nil ?_
      refine athen_n ?_
      refine AWP.sub [(0, _), (1, _), (2, _), (4, _), (18, _), (5, _), (6, _), (26, _), (7, _), (8, _), (9, _), (10, _), (54, _), (11, _), (12, _), (13, _), (14, _), (77, _), (15, _), (16, _)] ⟨rfl, rfl, rfl, rfl, rfl, rfl, rfl, rfl, rfl, rfl, rfl, rfl, rfl, rfl, rfl, rfl, rfl, rfl, rfl, rfl, trivial⟩ ?_
      refine AWP.seq ?_
      refine AWP.region ?_
      refine rC (Calm.move rfl) ?_
      refine rC (Calm.bin rfl rfl b_eql) ?_
      refine rC (Calm.move rfl) ?_
      first | refine rS 86 ?_ | refine rU 86 ?_ | refine rG 86 (Calm.move rfl) ?_
      first | refine rS 86 ?_ | refine rU 86 ?_ | refine rG 86 (Calm.move rfl) ?_
      first | refine rS 86 ?_ | refine rU 86 ?_ | refine rG 86 (Calm.bin rfl rfl (bin_bool b_eql (decide_eq_true rfl))) ?_
      refine rC ((by first | exact Calm.pickT rfl rfl | exact Calm.pickF rfl rfl)) ?_
      refine rC (Calm.assign rfl) ?_
      refine arun_nil ?_
      refine athen_n ?_
      refine AWP.sub [(0, _), (1, _), (2, _), (4, _), (18, _), (5, _), (6, _), (26, _), (7, _), (8, _), (9, _), (10, _), (54, _), (11, _), (12, _), (13, _), (14, _), (77, _), (15, _), (16, _)] ⟨rfl, rfl, rfl, rfl, rfl, rfl, rfl, rfl, rfl, rfl, rfl, rfl, rfl, rfl, rfl, rfl, rfl, rfl, rfl, rfl, trivial⟩ ?_
      refine AWP.ret ?_
      refine ⟨_, _, ⟨_, _, rfl, rfl, rfl⟩, less_, ?_⟩
      rfl
theorem walk_SelNext (cs : List Value) (y : ByteArray × Int × List Int) (a : Int) (W : World) (w0 : RowsV (roM W) cs y) (w1 : (Lit.int .i64 a).wf = true) :
    Calls Try.prog 10 #[.agg cs.toArray, .int .i64 a] W fun e w' => e = .returned (.bool true) ∧ Below W.heap.size W w' := by
  obtain ⟨hc, rfl, hv, z, _⟩ := w0
  exact ACall.callsW (law_SelNext y.1 y.2.1 hc y.2.2 a _ (by omega) hv (wf64 w1).1 (wf64 w1).2)
theorem walk_SelRise (cs : List Value) (y : ByteArray × Int × List Int) (a : Int) (W : World) (w0 : RowsV (roM W) cs y) (w1 : (Lit.int .i64 a).wf = true) :
    Calls Try.prog 12 #[.agg cs.toArray, .int .i64 a] W fun e w' => e = .returned (.bool true) ∧ Below W.heap.size W w' := by
  obtain ⟨hc, rfl, hv, z, _⟩ := w0
  exact ACall.callsW (law_SelRise y.1 y.2.1 hc y.2.2 a _ (by omega) hv (wf64 w1).1 (wf64 w1).2)
theorem walk_SelBack (cs : List Value) (y : ByteArray × Int × List Int) (a : Int) (W : World) (w0 : RowsV (roM W) cs y) (w1 : (Lit.int .i64 a).wf = true) :
    Calls Try.prog 11 #[.agg cs.toArray, .int .i64 a] W fun e w' => e = .returned (.bool true) ∧ Below W.heap.size W w' := by
  obtain ⟨hc, rfl, hv, z, _⟩ := w0
  exact ACall.callsW (law_SelBack y.1 y.2.1 hc y.2.2 a _ (by omega) hv (wf64 w1).1 (wf64 w1).2)
end Go.Proofs.Ytddabbfjoejalaa
