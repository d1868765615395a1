/-
  Skew: what is right, numbers at places, triples, the samples' places, by the program and by the document.
-/
import Derived.Test.YtgidjbpgkeemiaaOrd3
import Derived.Test.YtgidjbpgkeemiaaSeq
import Derived.Test.YtgidjbpgkeemiaaSkewMath3
namespace Go.Proofs.Ytgidjbpgkeemiaa
open Go.RowKit
open Mv Num Loser Skew
set_option linter.unusedVariables false
set_option linter.unusedSimpArgs false
set_option maxRecDepth 4000


namespace Skew
def bad (x : Nat) : Bool := decide (x < 1) || decide (1099511627776 ≤ x)
def chkL (l : List Nat) : Int := if 4096 < l.length ∨ l.any bad = true then 1 else 0
theorem chk_ok {l : List Nat} (h : chkL l = 0) : l.length ≤ 4096 ∧ (∀ x ∈ l, 1 ≤ x) ∧ ∀ x ∈ l, x < 1099511627776 := by
  unfold chkL at h
  split at h
  · omega
  · rename_i hn
    have h2 : l.any bad = false := by cases hb : l.any bad with
      | false => rfl
      | true => exact absurd (Or.inr hb) hn
    rw [List.any_eq_false] at h2
    have h3 : ∀ x ∈ l, 1 ≤ x ∧ x < 1099511627776 := fun x hx => by have := h2 x hx; unfold bad at this; simp at this; omega
    exact ⟨by omega, fun x hx => (h3 x hx).1, fun x hx => (h3 x hx).2⟩
theorem chk_no {l : List Nat} (h : chkL l ≠ 0) : chkL l = 1 := by unfold chkL at *; split at h <;> simp_all
theorem restP_step (r i : Nat) (h : i % 3 = r) : restP r (i + 3) = restP r i ++ [i] := by
  rw [restP_succ, restP_succ, restP_succ, if_pos h, if_neg (by omega), if_neg (by omega), List.append_nil, List.append_nil]
theorem restP_over (r E : Nat) (hr : r < 3) : ∀ (i : Nat), E ≤ i → i < E + 3 → i % 3 = r → restP r i = restP r E := by
  intro i h1 h2 h3
  rcases (by omega : i = E ∨ i = E + 1 ∨ i = E + 2) with h | h | h
  · rw [h]
  · rw [h, restP_succ, if_neg (by omega), List.append_nil]
  · rw [h, restP_succ, restP_succ, if_neg (by omega), if_neg (by omega), List.append_nil, List.append_nil]
theorem restP_small (r : Nat) (hr : r < 3) : restP r r = [] := by
  have : ∀ m, m ≤ r → restP r m = [] := by
    intro m
    induction m with
    | zero => intro _; rfl
    | succ m ih => intro h; rw [restP_succ, ih (by omega), if_neg (by omega)]; rfl
  exact this r (Nat.le_refl _)
def accP (E : Nat) : Nat → List Nat
  | 0 => []
  | 1 => []
  | 2 => restP 1 E
  | _ => restP 1 E ++ restP 2 E
theorem acc_step (E r : Nat) (h1 : 1 ≤ r) (h2 : r < 3) : accP E r ++ restP r E = accP E (r + 1) := by
  rcases (by omega : r = 1 ∨ r = 2) with rfl | rfl
  · rfl
  · rfl
theorem acc_len (E r : Nat) (hE : E ≤ 1048577) (hr : r < 3) : (accP E r).length ≤ r + 1048577 := by
  rcases (by omega : r = 0 ∨ r = 1 ∨ r = 2) with rfl | rfl | rfl
  · show 0 ≤ _; omega
  · show 0 ≤ _; omega
  · show (restP 1 E).length ≤ _; rw [restP_length 1 (by omega)]; omega
theorem acc_len3 (E : Nat) (hE : E ≤ 1048577) : (accP E 3).length ≤ 9223372036854775807 := by
  show (restP 1 E ++ restP 2 E).length ≤ _
  rw [List.length_append, restP_length 1 (by omega), restP_length 2 (by omega)]; omega
end Skew
theorem sk_chk1 (x : Nat) (S : Mem) : ACall Try.prog 66 #[.int .u64 (x : Int)] S fun r S' => r = .bool (bad x) ∧ S' = S := by
  unfold bad
  by_cases h : x < 1
  · have h0 := h
    rw [decide_eq_true h]
    refine ACall.enter (args := [.int .u64 (x : Int)]) (rs := [.tmp 2]) 9 [(0, .int .u64 (x : Int))] Try.func66 rfl rfl (Nat.le_of_ble_eq_true rfl) rfl ⟨rfl, trivial⟩ ?_
    refine AWP.seq ?_
    refine AWP.region ?_
    refine rC (Calm.assign rfl) ?_
    refine arun_nil ?_
    refine athen_n ?_
    refine AWP.seq ?_
    refine AWP.region ?_
    refine rC (Calm.move rfl) ?_
    refine rC (Calm.bin rfl rfl b_lss) ?_
    refine rC (Calm.move rfl) ?_
    first | refine rS 5 ?_ | refine rU 5 ?_ | refine rG 5 (Calm.move rfl) ?_
    first | refine rS 5 ?_ | refine rU 5 ?_ | refine rG 5 (Calm.bin rfl rfl b_geq) ?_
    refine rC ((by first | exact Calm.pickT rfl rfl | exact Calm.pickF rfl rfl)) ?_
    refine rC (Calm.assign rfl) ?_
    refine arun_nil ?_
    refine athen_n ?_
    refine AWP.sub [(0, _), (2, _)] ⟨rfl, rfl, trivial⟩ ?_
    refine AWP.ret ?_
    refine ⟨_, S, ⟨_, _, rfl, rfl, rfl⟩, less_, ?_⟩
    exact ⟨rfl, rfl⟩
  · have h0 := h
    rw [decide_eq_false h]
    by_cases h2 : 1099511627776 ≤ x
    · have h3 := h2
      rw [decide_eq_true h2]
      refine ACall.enter (args := [.int .u64 (x : Int)]) (rs := [.tmp 2]) 9 [(0, .int .u64 (x : Int))] Try.func66 rfl rfl (Nat.le_of_ble_eq_true rfl) rfl ⟨rfl, trivial⟩ ?_
      refine AWP.seq ?_
      refine AWP.region ?_
      refine rC (Calm.assign rfl) ?_
      refine arun_nil ?_
      refine athen_n ?_
      refine AWP.seq ?_
      refine AWP.region ?_
      refine rC (Calm.move rfl) ?_
      refine rC (Calm.bin rfl rfl b_lss) ?_
      refine rC (Calm.move rfl) ?_
      first | refine rS 5 ?_ | refine rU 5 ?_ | refine rG 5 (Calm.move rfl) ?_
      first | refine rS 5 ?_ | refine rU 5 ?_ | refine rG 5 (Calm.bin rfl rfl b_geq) ?_
      refine rC ((by first | exact Calm.pickT rfl rfl | exact Calm.pickF rfl rfl)) ?_
      refine rC (Calm.assign rfl) ?_
      refine arun_nil ?_
      refine athen_n ?_
      refine AWP.sub [(0, _), (2, _)] ⟨rfl, rfl, trivial⟩ ?_
      refine AWP.ret ?_
      refine ⟨_, S, ⟨_, _, rfl, rfl, rfl⟩, less_, ?_⟩
      exact ⟨rfl, rfl⟩
    · have h3 := h2
      rw [decide_eq_false h2]
      refine ACall.enter (args := [.int .u64 (x : Int)]) (rs := [.tmp 2]) 9 [(0, .int .u64 (x : Int))] Try.func66 rfl rfl (Nat.le_of_ble_eq_true rfl) rfl ⟨rfl, trivial⟩ ?_
      refine AWP.seq ?_
      refine AWP.region ?_
      refine rC (Calm.assign rfl) ?_
      refine arun_nil ?_
      refine athen_n ?_
      refine AWP.seq ?_
      refine AWP.region ?_
      refine rC (Calm.move rfl) ?_
      refine rC (Calm.bin rfl rfl b_lss) ?_
      refine rC (Calm.move rfl) ?_
      first | refine rS 5 ?_ | refine rU 5 ?_ | refine rG 5 (Calm.move rfl) ?_
      first | refine rS 5 ?_ | refine rU 5 ?_ | refine rG 5 (Calm.bin rfl rfl b_geq) ?_
      refine rC ((by first | exact Calm.pickT rfl rfl | exact Calm.pickF rfl rfl)) ?_
      refine rC (Calm.assign rfl) ?_
      refine arun_nil ?_
      refine athen_n ?_
      refine AWP.sub [(0, _), (2, _)] ⟨rfl, rfl, trivial⟩ ?_
      refine AWP.ret ?_
      refine ⟨_, S, ⟨_, _, rfl, rfl, rfl⟩, less_, ?_⟩
      exact ⟨rfl, rfl⟩
theorem sk_index (v : Value) (l : List Nat) (S : Mem) (hl : RowR S v l) :
    ACall Try.prog 103 #[v, .func (.func 66) #[] #[]] S fun r S' => (∃ n : Int, r = .int .i64 n ∧ decide (0 ≤ n) = l.any bad) ∧ S' = S := by
  obtain ⟨a, cap, rfl, h1, h2, h3⟩ := id hl
  refine ACall.enter (args := [.slice a l.length cap, .func (.func 66) #[] #[]]) (rs := [.tmp 4]) 19 [(0, .slice a l.length cap), (1, .func (.func 66) #[] #[])] Try.func103 rfl rfl (Nat.le_of_ble_eq_true rfl) rfl ⟨rfl, rfl, trivial⟩ ?_
  refine AWP.seq ?_
  refine AWP.region ?_
  refine rC (Calm.assign rfl) ?_
  refine arun_nil ?_
  refine athen_n ?_
  refine AWP.seq ?_
  refine AWP.seq ?_
  refine AWP.region ?_
  refine rC (Calm.move rfl) ?_
  refine rC (Calm.lenSl Try.underlying22 rfl) ?_
  refine rC (Calm.move rfl) ?_
  refine arun_nil ?_
  refine athen_n ?_
  refine AWP.sub [(0, _), (1, _), (4, _), (7, _), (8, _)] ⟨rfl, rfl, rfl, rfl, rfl, trivial⟩ ?_
  refine AWP.block ?_
  refine AWP.loop (X := Nat) (fun x => [(0, .slice a l.length cap), (1, .func (.func 66) #[] #[]), (7, .int .i64 l.length), (8, .int .i64 x)]) (fun x => S) (fun x => x ≤ l.length ∧ (l.drop x).any bad = l.any bad) (fun x => l.length - x) (0) ⟨rfl, rfl, rfl, rfl, trivial⟩ (Mem.Less.refl _) (⟨Nat.zero_le _, rfl⟩) ?_
  rintro i ⟨hi, hall⟩
  (try dsimp only at *)
  refine AWP.seq ?_
  refine AWP.region ?_
  refine rC (Calm.bin rfl rfl b_lss) ?_
  refine arun_nil ?_
  refine athen_n ?_
  refine AWP.seq ?_
  refine AWP.condB rfl (fun hc => ?_) (fun hc => ?_)
  · have hc : i < l.length := by have := of_decide_eq_true hc; omega
    obtain ⟨b, off, rfl, hk⟩ := h3.resolve_left (fun e => by subst e; simp at hc)
    have hki := hk i hc
    unfold u64s at hki
    rw [List.drop_eq_getElem_cons hc, List.any_cons] at hall
    refine AWP.skip ?_
    refine athen_n ?_
    refine AWP.seq ?_
    refine AWP.block ?_
    refine AWP.seq ?_
    refine AWP.region ?_
    refine rC (Calm.move rfl) ?_
    refine rC (Calm.assign rfl) ?_
    refine arun_nil ?_
    refine athen_n ?_
    refine AWP.sub [(0, _), (1, _), (7, _), (8, _), (9, _), (5, _)] ⟨rfl, rfl, rfl, rfl, rfl, rfl, trivial⟩ ?_
    refine AWP.seq ?_
    refine AWP.region ?_
    refine rC (Calm.move rfl) ?_
    refine rC (Calm.move rfl) ?_
    refine rC (Calm.move rfl) ?_
    refine rC (Calm.indexS Try.underlying22 ty_size_41 rfl rfl (by omega) (by omega)) ?_
    refine rC (ld_ ty_plain_41 rfl) ?_
    refine ARun.callV (lit_lt rfl) go_66 rfl rfl (sk_chk1 l[i] _) ?_
    rintro _ S1 ⟨rfl, h1⟩
    rw [h1]; clear h1 S1
    refine arun_nil ?_
    refine athen_n ?_
    refine AWP.sub [(0, _), (1, _), (7, _), (8, _), (9, _), (5, _), (16, _)] ⟨rfl, rfl, rfl, rfl, rfl, rfl, rfl, trivial⟩ ?_
    refine AWP.condB rfl (fun hb => ?_) (fun hb => ?_)
    · refine AWP.seq ?_
      refine AWP.region ?_
      refine rC (Calm.move rfl) ?_
      refine rC (Calm.assign rfl) ?_
      refine arun_nil ?_
      refine athen_n ?_
      refine AWP.sub [(0, _), (1, _), (7, _), (8, _), (9, _), (5, _), (16, _), (4, _)] ⟨rfl, rfl, rfl, rfl, rfl, rfl, rfl, rfl, trivial⟩ ?_
      refine AWP.ret ?_
      refine ain_ret ?_
      refine athen_ret ?_
      refine athen_ret ?_
      refine ain_ret ?_
      refine athen_ret ?_
      refine ⟨_, S, ⟨_, _, rfl, rfl, rfl⟩, less_, ?_⟩
      exact ⟨⟨i, rfl, by rw [← hall, hb, decide_eq_true (by omega)]; rfl⟩, rfl⟩
    · refine AWP.skip ?_
      refine ain_n ?_
      refine athen_n ?_
      refine AWP.region ?_
      refine rC (Calm.bin rfl rfl b_add_i64) ?_
      refine rC (Calm.move rfl) ?_
      refine arun_nil ?_
      refine athen_n ?_
      refine ⟨i + 1, ?_, ?_, ?_, ?_⟩
      all_goals (try dsimp only)
      · exact ⟨rfl, rfl, rfl, rfl, trivial⟩
      · exact less_
      · exact ⟨hc, by rw [hb, Bool.false_or] at hall; exact hall⟩
      · omega
  · have hc : i = l.length := by have := of_decide_eq_false hc; omega
    refine AWP.exit ?_
    refine athen_exit ?_
    refine athen_exit ?_
    refine ain_same ?_
    refine athen_n ?_
    refine AWP.seq ?_
    refine AWP.region ?_
    refine rC (Calm.assign rfl) ?_
    refine arun_nil ?_
    refine athen_n ?_
    refine AWP.ret ?_
    refine ⟨_, S, ⟨_, _, rfl, rfl, rfl⟩, less_, ?_⟩
    exact ⟨⟨-1, rfl, by rw [← hall, List.drop_eq_nil_of_le (by omega)]; rfl⟩, rfl⟩
theorem sk_contains (v : Value) (l : List Nat) (S : Mem) (hl : RowR S v l) :
    ACall Try.prog 65 #[v, .func (.func 66) #[] #[]] S fun r S' => r = .bool (l.any bad) ∧ S' = S := by
  refine ACall.enter (args := [v, .func (.func 66) #[] #[]]) (rs := [.tmp 4]) 9 [(0, v), (1, .func (.func 66) #[] #[])] Try.func65 rfl rfl (Nat.le_of_ble_eq_true rfl) rfl ⟨rfl, rfl, trivial⟩ ?_
  refine AWP.seq ?_
  refine AWP.region ?_
  refine rC (Calm.assign rfl) ?_
  refine arun_nil ?_
  refine athen_n ?_
  refine AWP.seq ?_
  refine AWP.region ?_
  refine rC (Calm.move rfl) ?_
  refine rC (Calm.move rfl) ?_
  refine ARun.call (lit_lt rfl) go_103 rfl (sk_index v l _ hl) ?_
  rintro _ S1 ⟨⟨n, rfl, hn⟩, h1⟩
  rw [h1]; clear h1 S1
  refine rC (Calm.bin rfl rfl (bin_bool (bin_geq _ _) hn)) ?_
  refine rC (Calm.assign rfl) ?_
  refine arun_nil ?_
  refine athen_n ?_
  refine AWP.sub [(0, _), (1, _), (4, _)] ⟨rfl, rfl, rfl, trivial⟩ ?_
  refine AWP.ret ?_
  refine ⟨_, S, ⟨_, _, rfl, rfl, rfl⟩, less_, ?_⟩
  exact ⟨rfl, rfl⟩
theorem sk_Check (v : Value) (l : List Nat) (S : Mem) (hl : RowR S v l) :
    ACall Try.prog 24 #[v] S fun r S' => r = .int .i64 (chkL l) ∧ S' = S := by
  obtain ⟨a, cap, rfl, h1, h2, h3⟩ := id hl
  unfold chkL
  by_cases h : 4096 < l.length
  · rw [if_pos (.inl h)]
    refine ACall.enter (args := [.slice a l.length cap]) (rs := [.tmp 2]) 10 [(0, .slice a l.length cap)] Try.func24 rfl rfl (Nat.le_of_ble_eq_true rfl) rfl ⟨rfl, trivial⟩ ?_
    refine AWP.seq ?_
    refine AWP.region ?_
    refine rC (Calm.assign rfl) ?_
    refine arun_nil ?_
    refine athen_n ?_
    refine AWP.seq ?_
    refine AWP.seq ?_
    refine AWP.region ?_
    refine rC (Calm.move rfl) ?_
    refine rC (Calm.lenSl Try.underlying22 rfl) ?_
    refine rC (Calm.bin rfl rfl b_gtr) ?_
    refine rC (Calm.move rfl) ?_
    first | refine rS 6 ?_ | refine rU 6 ?_ | refine rG 6 (Calm.move rfl) ?_
    first | refine rS 6 ?_ | refine rU 6 ?_
    refine rC ((by first | exact Calm.pickT rfl rfl | exact Calm.pickF rfl rfl)) ?_
    refine arun_nil ?_
    refine athen_n ?_
    refine AWP.sub [(0, _), (2, _), (9, _)] ⟨rfl, rfl, rfl, trivial⟩ ?_
    refine AWP.condT rfl (by first | rfl | (simp; done) | (simp; omega)) ?_
    refine AWP.seq ?_
    refine AWP.region ?_
    refine rC (Calm.assign rfl) ?_
    refine arun_nil ?_
    refine athen_n ?_
    refine AWP.ret ?_
    refine athen_ret ?_
    refine ⟨_, S, ⟨_, _, rfl, rfl, rfl⟩, less_, ?_⟩
    exact ⟨rfl, rfl⟩
  · have hn := h
    refine ACall.enter (args := [.slice a l.length cap]) (rs := [.tmp 2]) 10 [(0, .slice a l.length cap)] Try.func24 rfl rfl (Nat.le_of_ble_eq_true rfl) rfl ⟨rfl, trivial⟩ ?_
    refine AWP.seq ?_
    refine AWP.region ?_
    refine rC (Calm.assign rfl) ?_
    refine arun_nil ?_
    refine athen_n ?_
    refine AWP.seq ?_
    refine AWP.seq ?_
    refine AWP.region ?_
    refine rC (Calm.move rfl) ?_
    refine rC (Calm.lenSl Try.underlying22 rfl) ?_
    refine rC (Calm.bin rfl rfl b_gtr) ?_
    refine rC (Calm.move rfl) ?_
    first | refine rS 6 ?_ | refine rU 6 ?_ | refine rG 6 (Calm.move rfl) ?_
    refine ARun.callG 3 false 6 rfl (lit_lt rfl) rfl (lit_lt rfl) go_65 rfl (sk_contains _ l _ hl) ?_
    rintro _ S1 ⟨rfl, h1⟩
    rw [h1]; clear h1 S1
    refine rC ((by first | exact Calm.pickT rfl rfl | exact Calm.pickF rfl rfl)) ?_
    refine arun_nil ?_
    refine athen_n ?_
    refine AWP.sub [(0, _), (2, _), (9, _)] ⟨rfl, rfl, rfl, trivial⟩ ?_
    refine AWP.condB rfl (fun hb => ?_) (fun hb => ?_)
    · refine AWP.seq ?_
      refine AWP.region ?_
      refine rC (Calm.assign rfl) ?_
      refine arun_nil ?_
      refine athen_n ?_
      refine AWP.ret ?_
      refine athen_ret ?_
      refine ⟨_, S, ⟨_, _, rfl, rfl, rfl⟩, less_, ?_⟩
      exact ⟨by rw [if_pos (.inr hb)]; rfl, rfl⟩
    · refine AWP.skip ?_
      refine athen_n ?_
      refine AWP.seq ?_
      refine AWP.region ?_
      refine rC (Calm.assign rfl) ?_
      refine arun_nil ?_
      refine athen_n ?_
      refine AWP.ret ?_
      refine ⟨_, S, ⟨_, _, rfl, rfl, rfl⟩, less_, ?_⟩
      exact ⟨by rw [if_neg (by rw [hb]; simp; omega)]; rfl, rfl⟩
theorem rsk_Check (v : Value) (l : List Nat) (S : Mem) (hl : RowR S v l) :
    ACall Try.prog 25 #[v] S fun r S' => r = .int .i64 (chkL l) ∧ S' = S := by
  obtain ⟨a, cap, rfl, h1, h2, h3⟩ := id hl
  unfold chkL
  by_cases h : 4096 < l.length
  · rw [if_pos (.inl h)]
    refine ACall.enter (args := [.slice a l.length cap]) (rs := [.tmp 2]) 21 [(0, .slice a l.length cap)] Try.func25 rfl rfl (Nat.le_of_ble_eq_true rfl) rfl ⟨rfl, trivial⟩ ?_
    refine AWP.seq ?_
    refine AWP.region ?_
    refine rC (Calm.assign rfl) ?_
    refine arun_nil ?_
    refine athen_n ?_
    refine AWP.seq ?_
    refine AWP.seq ?_
    refine AWP.region ?_
    refine rC (Calm.move rfl) ?_
    refine rC (Calm.lenSl Try.underlying22 rfl) ?_
    refine rC (Calm.bin rfl rfl b_gtr) ?_
    refine arun_nil ?_
    refine athen_n ?_
    refine AWP.sub [(0, _), (2, _), (7, _)] ⟨rfl, rfl, rfl, trivial⟩ ?_
    refine AWP.condT rfl (by first | rfl | (simp; done) | (simp; omega)) ?_
    refine AWP.seq ?_
    refine AWP.region ?_
    refine rC (Calm.assign rfl) ?_
    refine arun_nil ?_
    refine athen_n ?_
    refine AWP.ret ?_
    refine athen_ret ?_
    refine ⟨_, S, ⟨_, _, rfl, rfl, rfl⟩, less_, ?_⟩
    exact ⟨rfl, rfl⟩
  · have hn := h
    refine ACall.enter (args := [.slice a l.length cap]) (rs := [.tmp 2]) 21 [(0, .slice a l.length cap)] Try.func25 rfl rfl (Nat.le_of_ble_eq_true rfl) rfl ⟨rfl, trivial⟩ ?_
    refine AWP.seq ?_
    refine AWP.region ?_
    refine rC (Calm.assign rfl) ?_
    refine arun_nil ?_
    refine athen_n ?_
    refine AWP.seq ?_
    refine AWP.seq ?_
    refine AWP.region ?_
    refine rC (Calm.move rfl) ?_
    refine rC (Calm.lenSl Try.underlying22 rfl) ?_
    refine rC (Calm.bin rfl rfl b_gtr) ?_
    refine arun_nil ?_
    refine athen_n ?_
    refine AWP.sub [(0, _), (2, _), (7, _)] ⟨rfl, rfl, rfl, trivial⟩ ?_
    refine AWP.condF rfl (by first | rfl | (simp; done) | (simp; omega)) ?_
    refine AWP.skip ?_
    refine athen_n ?_
    refine AWP.seq ?_
    refine AWP.seq ?_
    refine AWP.region ?_
    refine rC (Calm.move rfl) ?_
    refine rC (Calm.lenSl Try.underlying22 rfl) ?_
    refine rC (Calm.move rfl) ?_
    refine arun_nil ?_
    refine athen_n ?_
    refine AWP.block ?_
    refine AWP.loop (X := Nat) (fun x => [(8, .slice a l.length cap), (9, .int .i64 l.length), (10, .int .i64 x)]) (fun x => S) (fun x => x ≤ l.length ∧ (l.drop x).any bad = l.any bad) (fun x => l.length - x) (0) ⟨rfl, rfl, rfl, trivial⟩ (Mem.Less.refl _) (⟨Nat.zero_le _, rfl⟩) ?_
    rintro i ⟨hi, hall⟩
    (try dsimp only at *)
    by_cases hc : i < l.length
    · refine AWP.seq ?_
      refine AWP.region ?_
      refine rC (Calm.bin rfl rfl b_lss) ?_
      refine arun_nil ?_
      refine athen_n ?_
      refine AWP.seq ?_
      refine AWP.condT rfl (by first | rfl | (simp; done) | (simp; omega)) ?_
      obtain ⟨b, off, rfl, hk⟩ := h3.resolve_left (fun e => by subst e; simp at hc)
      have hki := hk i hc
      unfold u64s at hki
      rw [List.drop_eq_getElem_cons hc, List.any_cons] at hall
      by_cases c1 : l[i] < 1
      · refine AWP.skip ?_
        refine athen_n ?_
        refine AWP.seq ?_
        refine AWP.block ?_
        refine AWP.seq ?_
        refine AWP.region ?_
        refine rC (Calm.indexS Try.underlying22 ty_size_41 rfl rfl (by omega) (by omega)) ?_
        refine rC (ld_ ty_plain_41 rfl) ?_
        refine rC (Calm.assign rfl) ?_
        refine arun_nil ?_
        refine athen_n ?_
        refine AWP.sub [(8, _), (9, _), (10, _), (11, _), (4, _)] ⟨rfl, rfl, rfl, rfl, rfl, trivial⟩ ?_
        refine AWP.seq ?_
        refine AWP.region ?_
        refine rC (Calm.move rfl) ?_
        refine rC (Calm.bin rfl rfl b_lss) ?_
        refine rC (Calm.move rfl) ?_
        first | refine rS 16 ?_ | refine rU 16 ?_ | refine rG 16 (Calm.move rfl) ?_
        first | refine rS 16 ?_ | refine rU 16 ?_ | refine rG 16 (Calm.bin rfl rfl b_geq) ?_
        refine rC ((by first | exact Calm.pickT rfl rfl | exact Calm.pickF rfl rfl)) ?_
        refine arun_nil ?_
        refine athen_n ?_
        refine AWP.sub [(8, _), (9, _), (10, _), (11, _), (4, _), (19, _)] ⟨rfl, rfl, rfl, rfl, rfl, rfl, trivial⟩ ?_
        refine AWP.condT rfl (by first | rfl | (simp; done) | (simp; omega)) ?_
        refine AWP.seq ?_
        refine AWP.region ?_
        refine rC (Calm.assign rfl) ?_
        refine arun_nil ?_
        refine athen_n ?_
        refine AWP.ret ?_
        refine ain_ret ?_
        refine athen_ret ?_
        refine athen_ret ?_
        refine ain_ret ?_
        refine athen_ret ?_
        refine ⟨_, S, ⟨_, _, rfl, rfl, rfl⟩, less_, ?_⟩
        exact ⟨by rw [if_pos (.inr (by rw [← hall]; unfold bad; rw [decide_eq_true c1]; rfl))]; rfl, rfl⟩
      · by_cases c2 : 1099511627776 ≤ l[i]
        · refine AWP.skip ?_
          refine athen_n ?_
          refine AWP.seq ?_
          refine AWP.block ?_
          refine AWP.seq ?_
          refine AWP.region ?_
          refine rC (Calm.indexS Try.underlying22 ty_size_41 rfl rfl (by omega) (by omega)) ?_
          refine rC (ld_ ty_plain_41 rfl) ?_
          refine rC (Calm.assign rfl) ?_
          refine arun_nil ?_
          refine athen_n ?_
          refine AWP.sub [(8, _), (9, _), (10, _), (11, _), (4, _)] ⟨rfl, rfl, rfl, rfl, rfl, trivial⟩ ?_
          refine AWP.seq ?_
          refine AWP.region ?_
          refine rC (Calm.move rfl) ?_
          refine rC (Calm.bin rfl rfl b_lss) ?_
          refine rC (Calm.move rfl) ?_
          first | refine rS 16 ?_ | refine rU 16 ?_ | refine rG 16 (Calm.move rfl) ?_
          first | refine rS 16 ?_ | refine rU 16 ?_ | refine rG 16 (Calm.bin rfl rfl b_geq) ?_
          refine rC ((by first | exact Calm.pickT rfl rfl | exact Calm.pickF rfl rfl)) ?_
          refine arun_nil ?_
          refine athen_n ?_
          refine AWP.sub [(8, _), (9, _), (10, _), (11, _), (4, _), (19, _)] ⟨rfl, rfl, rfl, rfl, rfl, rfl, trivial⟩ ?_
          refine AWP.condT rfl (by first | rfl | (simp; done) | (simp; omega)) ?_
          refine AWP.seq ?_
          refine AWP.region ?_
          refine rC (Calm.assign rfl) ?_
          refine arun_nil ?_
          refine athen_n ?_
          refine AWP.ret ?_
          refine ain_ret ?_
          refine athen_ret ?_
          refine athen_ret ?_
          refine ain_ret ?_
          refine athen_ret ?_
          refine ⟨_, S, ⟨_, _, rfl, rfl, rfl⟩, less_, ?_⟩
          exact ⟨by rw [if_pos (.inr (by rw [← hall]; unfold bad; rw [decide_eq_true c2, Bool.or_true]; rfl))]; rfl, rfl⟩
        · refine AWP.skip ?_
          refine athen_n ?_
          refine AWP.seq ?_
          refine AWP.block ?_
          refine AWP.seq ?_
          refine AWP.region ?_
          refine rC (Calm.indexS Try.underlying22 ty_size_41 rfl rfl (by omega) (by omega)) ?_
          refine rC (ld_ ty_plain_41 rfl) ?_
          refine rC (Calm.assign rfl) ?_
          refine arun_nil ?_
          refine athen_n ?_
          refine AWP.sub [(8, _), (9, _), (10, _), (11, _), (4, _)] ⟨rfl, rfl, rfl, rfl, rfl, trivial⟩ ?_
          refine AWP.seq ?_
          refine AWP.region ?_
          refine rC (Calm.move rfl) ?_
          refine rC (Calm.bin rfl rfl b_lss) ?_
          refine rC (Calm.move rfl) ?_
          first | refine rS 16 ?_ | refine rU 16 ?_ | refine rG 16 (Calm.move rfl) ?_
          first | refine rS 16 ?_ | refine rU 16 ?_ | refine rG 16 (Calm.bin rfl rfl b_geq) ?_
          refine rC ((by first | exact Calm.pickT rfl rfl | exact Calm.pickF rfl rfl)) ?_
          refine arun_nil ?_
          refine athen_n ?_
          refine AWP.sub [(8, _), (9, _), (10, _), (11, _), (4, _), (19, _)] ⟨rfl, rfl, rfl, rfl, rfl, rfl, trivial⟩ ?_
          refine AWP.condF rfl (by first | rfl | (simp; done) | (simp; omega)) ?_
          refine AWP.skip ?_
          refine ain_n ?_
          refine athen_n ?_
          refine AWP.region ?_
          refine rC (Calm.bin rfl rfl b_add_i64) ?_
          refine rC (Calm.move rfl) ?_
          refine arun_nil ?_
          refine athen_n ?_
          refine ⟨i + 1, ?_, ?_, ?_, ?_⟩
          all_goals (try dsimp only)
          · exact ⟨rfl, rfl, rfl, trivial⟩
          · exact less_
          · exact ⟨hc, by rw [show bad l[i] = false by unfold bad; rw [decide_eq_false c1, decide_eq_false c2]; rfl, Bool.false_or] at hall; exact hall⟩
          · omega
    · refine AWP.seq ?_
      refine AWP.region ?_
      refine rC (Calm.bin rfl rfl b_lss) ?_
      refine arun_nil ?_
      refine athen_n ?_
      refine AWP.seq ?_
      refine AWP.condF rfl (by first | rfl | (simp; done) | (simp; omega)) ?_
      refine AWP.exit ?_
      refine athen_exit ?_
      refine athen_exit ?_
      refine ain_same ?_
      refine athen_n ?_
      refine AWP.seq ?_
      refine AWP.region ?_
      refine rC (Calm.assign rfl) ?_
      refine arun_nil ?_
      refine athen_n ?_
      refine AWP.ret ?_
      refine ⟨_, S, ⟨_, _, rfl, rfl, rfl⟩, less_, ?_⟩
      exact ⟨by rw [if_neg (by rw [← hall, List.drop_eq_nil_of_le (by omega)]; simp; omega)]; rfl, rfl⟩
theorem at0_in (l : List Nat) (i : Nat) (h : i < l.length) : at0 l i = l[i] := by unfold at0; rw [List.getD_eq_getElem?_getD, List.getElem?_eq_getElem h]; rfl
theorem at0_out (l : List Nat) (i : Nat) (h : ¬ i < l.length) : at0 l i = 0 := by unfold at0; rw [List.getD_eq_getElem?_getD, List.getElem?_eq_none (by omega)]; rfl
theorem sk_at (v : Value) (l : List Nat) (ii : Int) (i : Nat) (ei : ii = i) (S : Mem) (hl : RowR S v l) :
    ACall Try.prog 98 #[v, .int .i64 ii] S fun r S' => r = gU (at0 l i) ∧ S' = S := by
  subst ei
  unfold gU
  obtain ⟨a, cap, rfl, h1, h2, h3⟩ := id hl
  by_cases hc : i < l.length
  · rw [at0_in l i hc]
    obtain ⟨b, off, rfl, hk⟩ := h3.resolve_left (fun e => by subst e; simp at hc)
    have hki := hk i hc
    unfold u64s at hki
    refine ACall.enter (args := [.slice (some ⟨b, off, none⟩) l.length cap, .int .i64 (i : Int)]) (rs := [.tmp 4]) 13 [(0, .slice (some ⟨b, off, none⟩) l.length cap), (1, .int .i64 (i : Int))] Try.func98 rfl rfl (Nat.le_of_ble_eq_true rfl) rfl ⟨rfl, rfl, trivial⟩ ?_
    refine AWP.seq ?_
    refine AWP.region ?_
    refine rC (Calm.assign rfl) ?_
    refine arun_nil ?_
    refine athen_n ?_
    refine AWP.seq ?_
    refine AWP.seq ?_
    refine AWP.region ?_
    refine rC (Calm.move rfl) ?_
    refine rC (Calm.move rfl) ?_
    refine rC (Calm.lenSl Try.underlying72 rfl) ?_
    refine rC (Calm.bin rfl rfl b_lss) ?_
    refine arun_nil ?_
    refine athen_n ?_
    refine AWP.sub [(0, _), (1, _), (4, _), (8, _)] ⟨rfl, rfl, rfl, rfl, trivial⟩ ?_
    refine AWP.condT rfl (by first | rfl | (simp; done) | (simp; omega)) ?_
    refine AWP.seq ?_
    refine AWP.region ?_
    refine rC (Calm.move rfl) ?_
    refine rC (Calm.move rfl) ?_
    refine rC (Calm.indexS Try.underlying72 ty_size_41 rfl rfl (by omega) (by omega)) ?_
    refine rC (ld_ ty_plain_41 rfl) ?_
    refine rC (Calm.assign rfl) ?_
    refine arun_nil ?_
    refine athen_n ?_
    refine AWP.sub [(0, _), (1, _), (4, _), (8, _)] ⟨rfl, rfl, rfl, rfl, trivial⟩ ?_
    refine AWP.ret ?_
    refine athen_ret ?_
    refine ⟨_, S, ⟨_, _, rfl, rfl, rfl⟩, less_, ?_⟩
    exact ⟨rfl, rfl⟩
  · rw [at0_out l i hc]
    refine ACall.enter (args := [.slice a l.length cap, .int .i64 (i : Int)]) (rs := [.tmp 4]) 13 [(0, .slice a l.length cap), (1, .int .i64 (i : Int))] Try.func98 rfl rfl (Nat.le_of_ble_eq_true rfl) rfl ⟨rfl, rfl, trivial⟩ ?_
    refine AWP.seq ?_
    refine AWP.region ?_
    refine rC (Calm.assign rfl) ?_
    refine arun_nil ?_
    refine athen_n ?_
    refine AWP.seq ?_
    refine AWP.seq ?_
    refine AWP.region ?_
    refine rC (Calm.move rfl) ?_
    refine rC (Calm.move rfl) ?_
    refine rC (Calm.lenSl Try.underlying72 rfl) ?_
    refine rC (Calm.bin rfl rfl b_lss) ?_
    refine arun_nil ?_
    refine athen_n ?_
    refine AWP.sub [(0, _), (1, _), (4, _), (8, _)] ⟨rfl, rfl, rfl, rfl, trivial⟩ ?_
    refine AWP.condF rfl (by first | rfl | (simp; done) | (simp; omega)) ?_
    refine AWP.skip ?_
    refine athen_n ?_
    refine AWP.seq ?_
    refine AWP.region ?_
    refine rC (Calm.assign rfl) ?_
    refine arun_nil ?_
    refine athen_n ?_
    refine AWP.ret ?_
    refine ⟨_, S, ⟨_, _, rfl, rfl, rfl⟩, less_, ?_⟩
    exact ⟨rfl, rfl⟩
theorem rsk_at (v : Value) (l : List Nat) (ii : Int) (i : Nat) (ei : ii = i) (S : Mem) (hl : RowR S v l) :
    ACall Try.prog 99 #[v, .int .i64 ii] S fun r S' => r = gU (at0 l i) ∧ S' = S := by
  subst ei
  unfold gU
  obtain ⟨a, cap, rfl, h1, h2, h3⟩ := id hl
  by_cases hc : i < l.length
  · rw [at0_in l i hc]
    obtain ⟨b, off, rfl, hk⟩ := h3.resolve_left (fun e => by subst e; simp at hc)
    have hki := hk i hc
    unfold u64s at hki
    refine ACall.enter (args := [.slice (some ⟨b, off, none⟩) l.length cap, .int .i64 (i : Int)]) (rs := [.tmp 4]) 13 [(0, .slice (some ⟨b, off, none⟩) l.length cap), (1, .int .i64 (i : Int))] Try.func99 rfl rfl (Nat.le_of_ble_eq_true rfl) rfl ⟨rfl, rfl, trivial⟩ ?_
    refine AWP.seq ?_
    refine AWP.region ?_
    refine rC (Calm.assign rfl) ?_
    refine arun_nil ?_
    refine athen_n ?_
    refine AWP.seq ?_
    refine AWP.seq ?_
    refine AWP.region ?_
    refine rC (Calm.move rfl) ?_
    refine rC (Calm.move rfl) ?_
    refine rC (Calm.lenSl Try.underlying22 rfl) ?_
    refine rC (Calm.bin rfl rfl b_lss) ?_
    refine arun_nil ?_
    refine athen_n ?_
    refine AWP.sub [(0, _), (1, _), (4, _), (8, _)] ⟨rfl, rfl, rfl, rfl, trivial⟩ ?_
    refine AWP.condT rfl (by first | rfl | (simp; done) | (simp; omega)) ?_
    refine AWP.seq ?_
    refine AWP.region ?_
    refine rC (Calm.move rfl) ?_
    refine rC (Calm.move rfl) ?_
    refine rC (Calm.indexS Try.underlying22 ty_size_41 rfl rfl (by omega) (by omega)) ?_
    refine rC (ld_ ty_plain_41 rfl) ?_
    refine rC (Calm.assign rfl) ?_
    refine arun_nil ?_
    refine athen_n ?_
    refine AWP.sub [(0, _), (1, _), (4, _), (8, _)] ⟨rfl, rfl, rfl, rfl, trivial⟩ ?_
    refine AWP.ret ?_
    refine athen_ret ?_
    refine ⟨_, S, ⟨_, _, rfl, rfl, rfl⟩, less_, ?_⟩
    exact ⟨rfl, rfl⟩
  · rw [at0_out l i hc]
    refine ACall.enter (args := [.slice a l.length cap, .int .i64 (i : Int)]) (rs := [.tmp 4]) 13 [(0, .slice a l.length cap), (1, .int .i64 (i : Int))] Try.func99 rfl rfl (Nat.le_of_ble_eq_true rfl) rfl ⟨rfl, rfl, trivial⟩ ?_
    refine AWP.seq ?_
    refine AWP.region ?_
    refine rC (Calm.assign rfl) ?_
    refine arun_nil ?_
    refine athen_n ?_
    refine AWP.seq ?_
    refine AWP.seq ?_
    refine AWP.region ?_
    refine rC (Calm.move rfl) ?_
    refine rC (Calm.move rfl) ?_
    refine rC (Calm.lenSl Try.underlying22 rfl) ?_
    refine rC (Calm.bin rfl rfl b_lss) ?_
    refine arun_nil ?_
    refine athen_n ?_
    refine AWP.sub [(0, _), (1, _), (4, _), (8, _)] ⟨rfl, rfl, rfl, rfl, trivial⟩ ?_
    refine AWP.condF rfl (by first | rfl | (simp; done) | (simp; omega)) ?_
    refine AWP.skip ?_
    refine athen_n ?_
    refine AWP.seq ?_
    refine AWP.region ?_
    refine rC (Calm.assign rfl) ?_
    refine arun_nil ?_
    refine athen_n ?_
    refine AWP.ret ?_
    refine ⟨_, S, ⟨_, _, rfl, rfl, rfl⟩, less_, ?_⟩
    exact ⟨rfl, rfl⟩
/-- A triple as a value. -/
def triV (l : List Nat) (i : Nat) : Value := .agg #[gU (at0 l i), gU (at0 l (i + 1)), gU (at0 l (i + 2))]
theorem sk_triple (v : Value) (l : List Nat) (ii : Int) (i : Nat) (ei : ii = i) (S : Mem) (hl : RowR S v l) (hi : i ≤ 1048576) :
    ACall Try.prog 61 #[v, .int .i64 ii] S fun r S' => r = triV l i ∧ S' = S := by
  subst ei
  refine ACall.enter (args := [v, .int .i64 (i : Int)]) (rs := [.cell 4 71]) 17 [(0, v), (1, .int .i64 (i : Int))] Try.func61 rfl rfl (Nat.le_of_ble_eq_true rfl) rfl ⟨rfl, rfl, trivial⟩ ?_
  refine AWP.seq ?_
  refine AWP.region ?_
  refine ARun.alloc (lit_lt rfl) ty_zero_71 ?_
  intro b4 f4
  have g4 := f4
  repeat ((with_reducible replace g4 := fresh_set g4); obtain ⟨g4, _⟩ := g4)
  (try simp only [List.length_cons, List.length_nil, Nat.zero_add, Nat.reduceAdd])
  refine arun_nil ?_
  refine athen_n ?_
  refine AWP.seq ?_
  refine AWP.region ?_
  refine rC (Calm.move rfl) ?_
  refine rC (Calm.move rfl) ?_
  refine ARun.call (lit_lt rfl) go_98 rfl (sk_at v l _ i om_ _ (hl.less less_)) ?_
  rintro _ _ ⟨rfl, rfl⟩
  refine rC (Calm.move rfl) ?_
  refine rC (Calm.move rfl) ?_
  refine rC (Calm.bin rfl rfl b_add_i64) ?_
  refine ARun.call (lit_lt rfl) go_98 rfl (sk_at v l _ (i + 1) om_ _ (hl.less less_)) ?_
  rintro _ _ ⟨rfl, rfl⟩
  refine rC (Calm.move rfl) ?_
  refine rC (Calm.move rfl) ?_
  refine rC (Calm.bin rfl rfl b_add_i64) ?_
  refine ARun.call (lit_lt rfl) go_98 rfl (sk_at v l _ (i + 2) om_ _ (hl.less less_)) ?_
  rintro _ _ ⟨rfl, rfl⟩
  refine rC (Calm.buildArr (cs := [_, _, _]) ty_arr_71 rfl rfl) ?_
  first | refine ARun.storeAll rfl rfl ty_size_71 own_ rfl rfl ?_ | refine ARun.store rfl rfl ty_size_71 own_ lens_ rfl ?_
  (try simp only [Mem.set_set, List.set_cons_zero, List.set_cons_succ, Nat.zero_add, Nat.reduceAdd])
  refine arun_nil ?_
  refine athen_n ?_
  refine AWP.sub [(0, _), (1, _), (4, _)] ⟨rfl, rfl, rfl, trivial⟩ ?_
  refine AWP.ret ?_
  refine ⟨_, S, ⟨_, _, _, rfl, .inr ⟨ty_agg_71, [_, _, _], ty_size_71, rds_, rfl⟩, rfl, rfl⟩, less_, ?_⟩
  exact ⟨rfl, rfl⟩
theorem rsk_triple (v : Value) (l : List Nat) (ii : Int) (i : Nat) (ei : ii = i) (S : Mem) (hl : RowR S v l) (hi : i ≤ 1048576) :
    ACall Try.prog 62 #[v, .int .i64 ii] S fun r S' => S.Less S' ∧ RowR S' r (tri l i) := by
  subst ei
  refine ACall.enter (args := [v, .int .i64 (i : Int)]) (rs := [.tmp 4]) 17 [(0, v), (1, .int .i64 (i : Int))] Try.func62 rfl rfl (Nat.le_of_ble_eq_true rfl) rfl ⟨rfl, rfl, trivial⟩ ?_
  refine AWP.seq ?_
  refine AWP.region ?_
  refine rC (Calm.assign rfl) ?_
  refine arun_nil ?_
  refine athen_n ?_
  refine AWP.seq ?_
  refine AWP.region ?_
  refine rC (Calm.move rfl) ?_
  refine rC (Calm.move rfl) ?_
  refine ARun.call (lit_lt rfl) go_99 rfl (rsk_at v l _ i om_ _ hl) ?_
  rintro _ S1 ⟨rfl, h1⟩
  rw [h1]; clear h1 S1
  refine rC (Calm.move rfl) ?_
  refine rC (Calm.move rfl) ?_
  refine rC (Calm.bin rfl rfl b_add_i64) ?_
  refine ARun.call (lit_lt rfl) go_99 rfl (rsk_at v l _ (i + 1) om_ _ hl) ?_
  rintro _ S1 ⟨rfl, h1⟩
  rw [h1]; clear h1 S1
  refine rC (Calm.move rfl) ?_
  refine rC (Calm.move rfl) ?_
  refine rC (Calm.bin rfl rfl b_add_i64) ?_
  refine ARun.call (lit_lt rfl) go_99 rfl (rsk_at v l _ (i + 2) om_ _ hl) ?_
  rintro _ S1 ⟨rfl, h1⟩
  rw [h1]; clear h1 S1
  refine ARun.buildN (cs := [_, _, _]) (lit_lt rfl) ty_sl_22 rfl rfl rfl rfl ?_
  intro b16 f16
  have g16 := f16
  repeat ((with_reducible replace g16 := fresh_set g16); obtain ⟨g16, _⟩ := g16)
  refine rC (Calm.assign rfl) ?_
  refine arun_nil ?_
  refine athen_n ?_
  refine AWP.sub [(0, _), (1, _), (4, _)] ⟨rfl, rfl, rfl, trivial⟩ ?_
  refine AWP.ret ?_
  refine ⟨_, _, ⟨_, _, rfl, rfl, rfl⟩, Mem.Less.refl _, ?_⟩
  exact ⟨less_, Sl.own1 (g := gU) (l := tri l i) (Mem.own_set_same _ _ _) List.prefix_rfl rfl (Nat.le_refl _) (by decide)⟩
set_option maxHeartbeats 1000000 in
theorem sk_Places (ii : Int) (n : Nat) (ei : ii = n) (hn : n ≤ 1048576) (S : Mem) :
    ACall Try.prog 59 #[.int .i64 ii] S (RdL gI (places n) S) := by
  subst ei
  have hE := endP_or n
  have hp : places n = accP (endP n) 3 := rfl
  rw [hp]
  generalize endP n = E at *
  refine ACall.enter (args := [.int .i64 (n : Int)]) (rs := [.tmp 2]) 28 [(0, .int .i64 (n : Int))] Try.func59 rfl rfl (Nat.le_of_ble_eq_true rfl) rfl ⟨rfl, trivial⟩ ?_
  refine AWP.seq ?_
  refine AWP.region ?_
  refine rC (Calm.assign rfl) ?_
  refine arun_nil ?_
  refine athen_n ?_
  refine AWP.seq ?_
  refine AWP.region ?_
  refine rC (Calm.move rfl) ?_
  refine rC (Calm.assign rfl) ?_
  refine arun_nil ?_
  refine athen_n ?_
  refine AWP.sub [(0, _), (2, _), (3, _)] ⟨rfl, rfl, rfl, trivial⟩ ?_
  refine AWP.seq ?_
  refine AWP.seq ?_
  refine AWP.region ?_
  refine rC (Calm.move rfl) ?_
  refine rC (Calm.bin rfl rfl b_rem) ?_
  refine rC (Calm.bin rfl rfl b_eql) ?_
  refine arun_nil ?_
  refine athen_n ?_
  refine AWP.sub [(0, _), (2, _), (3, _), (10, _)] ⟨rfl, rfl, rfl, rfl, trivial⟩ ?_
  refine AWP.join (X := Unit) (fun _ => [(3, .int .i64 (E : Int))]) (fun _ => S) (fun _ => E ≤ n + 1) ?_ ?_
  · by_cases h1 : n % 3 = 1
    · refine AWP.condT rfl (by first | rfl | (simp; done) | (simp; omega)) ?_
      refine AWP.region ?_
      refine rC (Calm.move rfl) ?_
      refine rC (Calm.bin rfl rfl b_add_i64) ?_
      refine rC (Calm.assign rfl) ?_
      refine arun_nil ?_
      refine ⟨(), ?_, ?_, ?_⟩
      all_goals (try dsimp only)
      · omega
      · exact ⟨sq_, trivial⟩
      · exact Mem.Less.refl _
    · refine AWP.condF rfl (by first | rfl | (simp; done) | (simp; omega)) ?_
      refine AWP.skip ?_
      refine ⟨(), ?_, ?_, ?_⟩
      all_goals (try dsimp only)
      · omega
      · exact ⟨sq_, trivial⟩
      · exact Mem.Less.refl _
  rintro _ _
  intro _ _ hs_ hl_
  (try dsimp only at *)
  refine athen_n ?_
  refine AWP.sub _ hs_ (AWP.less _ hl_ ?_)
  clear hs_ hl_
  refine AWP.seq ?_
  refine AWP.region ?_
  refine rC (Calm.assign rfl) ?_
  refine arun_nil ?_
  refine athen_n ?_
  refine AWP.seq ?_
  refine AWP.seq ?_
  refine AWP.region ?_
  refine rC (Calm.assign rfl) ?_
  refine arun_nil ?_
  refine athen_n ?_
  refine AWP.block ?_
  refine AWP.loop (X := Nat × List Nat × Option (Nat × Nat)) (fun x => [(3, .int .i64 (E : Int)), (4, outV x.2.2 x.2.1.length), (5, .int .i64 x.1)]) (fun x => outM S x.2.2 3 (x.2.1.map gI)) (fun x => 1 ≤ x.1 ∧ x.1 ≤ 3 ∧ x.2.1 = accP E x.1 ∧ OkO S x.2.2 x.2.1.length) (fun x => 3 - x.1) ((1, [], none)) ⟨rfl, rfl, rfl, trivial⟩ (Mem.Less.refl _) (⟨Nat.le_refl _, by dsimp only; omega, rfl, okO_nil _⟩) ?_
  rintro ⟨r, L, o⟩ ⟨h1, h2, hL, ho⟩
  (try dsimp only at *)
  by_cases hr : r < 3
  · refine AWP.seq ?_
    refine AWP.seq ?_
    refine AWP.region ?_
    refine rC (Calm.move rfl) ?_
    refine rC (Calm.bin rfl rfl b_lss) ?_
    refine arun_nil ?_
    refine athen_n ?_
    refine AWP.sub [(3, _), (4, _), (5, _), (14, _)] ⟨rfl, rfl, rfl, rfl, trivial⟩ ?_
    refine AWP.condT rfl (by first | rfl | (simp; done) | (simp; omega)) ?_
    refine AWP.skip ?_
    refine athen_n ?_
    refine AWP.seq ?_
    refine AWP.block ?_
    refine AWP.seq ?_
    refine AWP.region ?_
    refine rC (Calm.move rfl) ?_
    refine rC (Calm.assign rfl) ?_
    refine arun_nil ?_
    refine athen_n ?_
    refine AWP.sub [(3, _), (4, _), (5, _), (14, _), (6, _)] ⟨rfl, rfl, rfl, rfl, rfl, trivial⟩ ?_
    refine AWP.block ?_
    refine AWP.loop (X := Nat × List Nat × Option (Nat × Nat)) (fun x => [(3, .int .i64 (E : Int)), (4, outV x.2.2 x.2.1.length), (5, .int .i64 r), (6, .int .i64 x.1)]) (fun x => outM S x.2.2 3 (x.2.1.map gI)) (fun x => x.1 % 3 = r % 3 ∧ x.1 < E + 3 ∧ x.2.1 = accP E r ++ restP r x.1 ∧ x.2.1.length ≤ x.1 + 1048577 ∧ OkO S x.2.2 x.2.1.length) (fun x => E + 3 - x.1) ((r, L, o)) ⟨rfl, rfl, rfl, rfl, trivial⟩ (Mem.Less.refl _) (⟨rfl, by dsimp only; omega, by dsimp only; rw [hL, restP_small r hr, List.append_nil], by dsimp only; rw [hL]; exact acc_len E r (by omega) hr, ho⟩) ?_
    rintro ⟨i, L2, o2⟩ ⟨k1, k2, k3, k5, k4⟩
    (try dsimp only at *)
    by_cases hi : i < E
    · refine AWP.seq ?_
      refine AWP.seq ?_
      refine AWP.region ?_
      refine rC (Calm.move rfl) ?_
      refine rC (Calm.move rfl) ?_
      refine rC (Calm.bin rfl rfl b_lss) ?_
      refine arun_nil ?_
      refine athen_n ?_
      refine AWP.sub [(3, _), (4, _), (5, _), (6, _), (20, _)] ⟨rfl, rfl, rfl, rfl, rfl, trivial⟩ ?_
      refine AWP.condT rfl (by first | rfl | (simp; done) | (simp; omega)) ?_
      refine AWP.skip ?_
      refine athen_n ?_
      refine AWP.seq ?_
      refine AWP.block ?_
      refine AWP.region ?_
      refine rC (Calm.move rfl) ?_
      refine rC (Calm.move rfl) ?_
      refine ARun.build1s (lit_lt rfl) ty_sl_24 rfl rfl ?_
      intro b25 f25
      have g25 := f25
      repeat ((with_reducible replace g25 := fresh_set g25); obtain ⟨g25, _⟩ := g25)
      refine ARun.appendO (lit_lt rfl) ty_sl_24 rfl map_len (appO_of k4 map_len f25) rfl (news := [_]) rds_ rfl (by omega) (by simp [Value.oneCell']) (by omega) (by omega) ?_
      intro b26 c26 ho2
      refine rC (Calm.assign rfl) ?_
      refine arun_nil ?_
      refine ain_n ?_
      refine athen_n ?_
      refine AWP.sub [(3, _), (4, _), (5, _), (6, _), (20, _)] ⟨rfl, rfl, rfl, rfl, rfl, trivial⟩ ?_
      refine AWP.region ?_
      refine rC (Calm.move rfl) ?_
      refine rC (Calm.bin rfl rfl b_add_i64) ?_
      refine rC (Calm.assign rfl) ?_
      refine arun_nil ?_
      refine athen_n ?_
      refine ⟨(i + 3, L2 ++ [i], some (b26, c26)), ?_, ?_, ?_, ?_⟩
      all_goals (try dsimp only)
      · exact ⟨sq_, sq_, sq_, sq_, trivial⟩
      · exact push_less rfl
      · exact ⟨by omega, by omega, by rw [k3, restP_step r i (by omega), List.append_assoc], by rw [List.length_append]; show L2.length + 1 ≤ _; omega, push_ok ho2 rfl⟩
      · omega
    · refine AWP.seq ?_
      refine AWP.seq ?_
      refine AWP.region ?_
      refine rC (Calm.move rfl) ?_
      refine rC (Calm.move rfl) ?_
      refine rC (Calm.bin rfl rfl b_lss) ?_
      refine arun_nil ?_
      refine athen_n ?_
      refine AWP.sub [(3, _), (4, _), (5, _), (6, _), (20, _)] ⟨rfl, rfl, rfl, rfl, rfl, trivial⟩ ?_
      refine AWP.condF rfl (by first | rfl | (simp; done) | (simp; omega)) ?_
      refine AWP.exit ?_
      refine athen_exit ?_
      refine athen_exit ?_
      refine ain_same ?_
      refine ain_n ?_
      refine athen_n ?_
      refine AWP.region ?_
      refine rC (Calm.move rfl) ?_
      refine rC (Calm.bin rfl rfl b_add_i64) ?_
      refine rC (Calm.assign rfl) ?_
      refine arun_nil ?_
      refine athen_n ?_
      refine ⟨(r + 1, L2, o2), ?_, ?_, ?_, ?_⟩
      all_goals (try dsimp only)
      · exact ⟨sq_, sq_, sq_, trivial⟩
      · exact Mem.Less.refl _
      · exact ⟨by omega, by omega, by rw [k3, restP_over r E hr i (by omega) k2 (by omega), acc_step E r h1 hr], k4⟩
      · omega
  · obtain rfl : r = 3 := by omega
    refine AWP.seq ?_
    refine AWP.seq ?_
    refine AWP.region ?_
    refine rC (Calm.move rfl) ?_
    refine rC (Calm.bin rfl rfl b_lss) ?_
    refine arun_nil ?_
    refine athen_n ?_
    refine AWP.sub [(3, _), (4, _), (5, _), (14, _)] ⟨rfl, rfl, rfl, rfl, trivial⟩ ?_
    refine AWP.condF rfl (by first | rfl | (simp; done) | (simp; omega)) ?_
    rw [← hL]
    refine AWP.exit ?_
    refine athen_exit ?_
    refine athen_exit ?_
    refine ain_same ?_
    refine athen_n ?_
    refine AWP.seq ?_
    refine AWP.region ?_
    refine rC (Calm.move rfl) ?_
    refine rC (Calm.assign rfl) ?_
    refine arun_nil ?_
    refine athen_n ?_
    refine AWP.sub [(3, _), (4, _), (5, _), (14, _), (2, _)] ⟨rfl, rfl, rfl, rfl, rfl, trivial⟩ ?_
    refine AWP.ret ?_
    refine ⟨_, _, ⟨_, _, rfl, rfl, rfl⟩, Mem.Less.refl _, ?_⟩
    exact RdL.of_out ho rfl (by rw [hL]; exact acc_len3 E (by omega))
end Go.Proofs.Ytgidjbpgkeemiaa
