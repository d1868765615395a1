/-
  Disk, the document's side: Named, Find, used.
-/
import Derived.Test.YtkeiphkccnfhoaaDiskR0
namespace Go.Proofs.Ytkeiphkccnfhoaa
open Go.RowKit
open Mv Disk
set_option linter.unusedVariables false
set_option linter.unusedSimpArgs false
set_option maxRecDepth 4000
theorem rd_Named (s : ByteArray) (S : Mem) : ACall Try.prog 49 #[.string s] S fun r S' => r = .bool (decide (nm s)) ∧ S' = S := by
  by_cases h0 : s.size = 0
  · have e : s = ByteArray.empty := (size0 s).2 h0
    refine ACall.enter (args := [.string s]) (rs := [.tmp 2]) 10 [(0, .string s)] Try.func49 rfl rfl (Nat.le_of_ble_eq_true rfl) rfl ⟨rfl, trivial⟩ ?_
    refine AWP.seq ?_
    refine AWP.region ?_
    refine rC (Calm.assign rfl) ?_
    refine arun_nil ?_
    refine athen_n ?_
    refine AWP.seq ?_
    refine AWP.region ?_
    refine rC (Calm.move rfl) ?_
    refine rC (Calm.bin rfl rfl (bin_bool (bin_str_neq _ _) (bnot_dec_false e))) ?_
    refine rC (Calm.move rfl) ?_
    first | refine rS 5 ?_ | refine rU 5 ?_ | refine rG 5 (Calm.move rfl) ?_
    first | refine rS 5 ?_ | refine rU 5 ?_ | refine rG 5 (Calm.lenStr (strT_spec ty_str_9) rfl) ?_
    first | refine rS 5 ?_ | refine rU 5 ?_ | refine rG 5 (Calm.bin rfl rfl b_leq) ?_
    refine rC ((by first | exact Calm.pickT rfl rfl | exact Calm.pickF rfl rfl)) ?_
    refine rC (Calm.assign rfl) ?_
    refine arun_nil ?_
    refine athen_n ?_
    refine AWP.sub [(0, _), (2, _)] ⟨rfl, rfl, trivial⟩ ?_
    refine AWP.ret ?_
    refine ⟨_, S, ⟨_, _, rfl, rfl, rfl⟩, less_, ?_⟩
    exact ⟨congrArg Value.bool (decide_eq_false (fun h => h.1 h0)).symm, rfl⟩
  · have e : ¬ s = ByteArray.empty := fun h => h0 ((size0 s).1 h)
    refine ACall.enter (args := [.string s]) (rs := [.tmp 2]) 10 [(0, .string s)] Try.func49 rfl rfl (Nat.le_of_ble_eq_true rfl) rfl ⟨rfl, trivial⟩ ?_
    refine AWP.seq ?_
    refine AWP.region ?_
    refine rC (Calm.assign rfl) ?_
    refine arun_nil ?_
    refine athen_n ?_
    refine AWP.seq ?_
    refine AWP.region ?_
    refine rC (Calm.move rfl) ?_
    refine rC (Calm.bin rfl rfl (bin_bool (bin_str_neq _ _) (bnot_dec_true e))) ?_
    refine rC (Calm.move rfl) ?_
    first | refine rS 5 ?_ | refine rU 5 ?_ | refine rG 5 (Calm.move rfl) ?_
    first | refine rS 5 ?_ | refine rU 5 ?_ | refine rG 5 (Calm.lenStr (strT_spec ty_str_9) rfl) ?_
    first | refine rS 5 ?_ | refine rU 5 ?_ | refine rG 5 (Calm.bin rfl rfl b_leq) ?_
    refine rC ((by first | exact Calm.pickT rfl rfl | exact Calm.pickF rfl rfl)) ?_
    refine rC (Calm.assign rfl) ?_
    refine arun_nil ?_
    refine athen_n ?_
    refine AWP.sub [(0, _), (2, _)] ⟨rfl, rfl, trivial⟩ ?_
    refine AWP.ret ?_
    refine ⟨_, S, ⟨_, _, rfl, rfl, rfl⟩, less_, ?_⟩
    exact ⟨congrArg Value.bool (decide_eq_decide.2 (by unfold nm; omega)), rfl⟩
theorem rd_Find (v : Value) (l : List Ext) (s : ByteArray) (S : Mem) (hl : Sl 2 extF S v l) (ha : Asc l) :
    ACall Try.prog 50 #[v, .string s] S fun r S' => r = .int .i64 (fnd l s) ∧ S' = S := by
  obtain ⟨a, cap, rfl, h1, h2, h3⟩ := id hl
  refine ACall.enter (args := [.slice a l.length cap, .string s]) (rs := [.tmp 4]) 20 [(0, .slice a l.length cap), (1, .string s)] Try.func50 rfl rfl (Nat.le_of_ble_eq_true rfl) rfl ⟨rfl, rfl, trivial⟩ ?_
  refine AWP.seq ?_
  refine AWP.region ?_
  refine rC (Calm.assign rfl) ?_
  refine arun_nil ?_
  refine athen_n ?_
  refine AWP.seq ?_
  refine AWP.seq ?_
  refine AWP.region ?_
  refine rC (Calm.move rfl) ?_
  refine rC (Calm.lenSl Try.underlying22 rfl) ?_
  refine rC (Calm.move rfl) ?_
  refine arun_nil ?_
  refine athen_n ?_
  refine AWP.block ?_
  refine AWP.loop (X := Nat) (fun x => [(1, .string s), (7, .slice a l.length cap), (8, .int .i64 l.length), (9, .int .i64 x)]) (fun x => S) (fun x => x ≤ l.length ∧ ∀ j (h : j < l.length), j < x → l[j].1 ≠ s) (fun x => l.length - x) (0) ⟨rfl, rfl, rfl, rfl, trivial⟩ (Mem.Less.refl _) (⟨Nat.zero_le _, fun j _ h => absurd h (Nat.not_lt_zero _)⟩) ?_
  rintro i ⟨hi, hall⟩
  (try dsimp only at *)
  refine AWP.seq ?_
  refine AWP.region ?_
  refine rC (Calm.bin rfl rfl b_lss) ?_
  refine arun_nil ?_
  refine athen_n ?_
  refine AWP.seq ?_
  refine AWP.condB rfl (fun hc => ?_) (fun hc => ?_)
  · have hc : i < l.length := by have := of_decide_eq_true hc; omega
    obtain ⟨b, off, rfl, hk⟩ := h3.resolve_left (fun e => by subst e; simp at hc)
    have hki := hk i hc
    unfold extF at hki
    refine AWP.skip ?_
    refine athen_n ?_
    refine AWP.seq ?_
    refine AWP.block ?_
    refine AWP.seq ?_
    refine AWP.region ?_
    refine rC (Calm.move rfl) ?_
    refine rC (Calm.indexS Try.underlying22 ty_size_54 rfl rfl (by omega) (by omega)) ?_
    refine rC (ldA_ (cs := [_, _]) ty_agg_54 ty_size_54 rfl) ?_
    refine ARun.alloc (lit_lt rfl) ty_zero_54 ?_
    intro b6 f6
    have g6 := f6
    repeat ((with_reducible replace g6 := fresh_set g6); obtain ⟨g6, _⟩ := g6)
    (try simp only [List.length_cons, List.length_nil, Nat.zero_add, Nat.reduceAdd])
    refine rC (Calm.assign rfl) ?_
    first | refine ARun.storeAll rfl rfl ty_size_54 own_ rfl rfl ?_ | refine ARun.store rfl rfl ty_size_54 own_ lens_ rfl ?_
    (try simp only [Mem.set_set, List.set_cons_zero, List.set_cons_succ, Nat.zero_add, Nat.reduceAdd])
    refine arun_nil ?_
    refine athen_n ?_
    refine AWP.sub [(1, _), (7, _), (8, _), (9, _), (10, _), (6, _), (5, _)] ⟨rfl, rfl, rfl, rfl, rfl, rfl, rfl, trivial⟩ ?_
    refine AWP.seq ?_
    refine AWP.region ?_
    refine rC (Calm.fieldAddr ty_field_54_0 rfl) ?_
    refine rC (ld_ ty_plain_9 rfl) ?_
    refine rC (Calm.move rfl) ?_
    refine rC (Calm.bin rfl rfl (bin_str_eql _ _)) ?_
    refine arun_nil ?_
    refine athen_n ?_
    refine AWP.sub [(1, _), (7, _), (8, _), (9, _), (10, _), (6, _), (5, _), (17, _)] ⟨rfl, rfl, rfl, rfl, rfl, rfl, rfl, rfl, trivial⟩ ?_
    refine AWP.condB rfl (fun hb => ?_) (fun hb => ?_)
    · refine AWP.seq ?_
      refine AWP.region ?_
      refine rC (Calm.move rfl) ?_
      refine rC (Calm.assign rfl) ?_
      refine arun_nil ?_
      refine athen_n ?_
      refine AWP.sub [(1, _), (7, _), (8, _), (9, _), (10, _), (6, _), (5, _), (17, _), (4, _)] ⟨rfl, rfl, rfl, rfl, rfl, rfl, rfl, rfl, rfl, trivial⟩ ?_
      refine AWP.ret ?_
      refine ain_ret ?_
      refine athen_ret ?_
      refine athen_ret ?_
      refine ain_ret ?_
      refine athen_ret ?_
      refine ⟨_, S, ⟨_, _, rfl, rfl, rfl⟩, less_, ?_⟩
      exact ⟨by rw [fnd_at ha hc (of_decide_eq_true hb)]; rfl, rfl⟩
    · refine AWP.skip ?_
      refine ain_n ?_
      refine athen_n ?_
      refine AWP.region ?_
      refine rC (Calm.bin rfl rfl b_add_i64) ?_
      refine rC (Calm.move rfl) ?_
      refine arun_nil ?_
      refine athen_n ?_
      refine ⟨i + 1, ?_, ?_, ?_, ?_⟩
      all_goals (try dsimp only)
      · exact ⟨rfl, rfl, rfl, rfl, trivial⟩
      · exact less_
      · exact ⟨hc, fun j h hj => by rcases Nat.lt_or_ge j i with h' | h'; exact hall j h h'; obtain rfl : j = i := (by omega); exact of_decide_eq_false hb⟩
      · omega
  · have hc : i = l.length := by have := of_decide_eq_false hc; omega
    refine AWP.exit ?_
    refine athen_exit ?_
    refine athen_exit ?_
    refine ain_same ?_
    refine athen_n ?_
    refine AWP.seq ?_
    refine AWP.region ?_
    refine rC (Calm.assign rfl) ?_
    refine arun_nil ?_
    refine athen_n ?_
    refine AWP.ret ?_
    refine ⟨_, S, ⟨_, _, rfl, rfl, rfl⟩, less_, ?_⟩
    exact ⟨by rw [fnd_none (fun j h => hall j h (by omega))]; rfl, rfl⟩
theorem rd_used (v : Value) (l : List Ext) (S : Mem) (hl : Sl 2 extF S v l) (hu : used l ≤ 9223372036854775807) (hz : ∀ x ∈ l, x.2.size ≤ 9223372036854775807) :
    ACall Try.prog 51 #[v] S fun r S' => r = .int .i64 (used l : Nat) ∧ S' = S := by
  obtain ⟨a, cap, rfl, h1, h2, h3⟩ := id hl
  refine ACall.enter (args := [.slice a l.length cap]) (rs := [.tmp 2]) 20 [(0, .slice a l.length cap)] Try.func51 rfl rfl (Nat.le_of_ble_eq_true rfl) rfl ⟨rfl, trivial⟩ ?_
  refine AWP.seq ?_
  refine AWP.region ?_
  refine rC (Calm.assign rfl) ?_
  refine arun_nil ?_
  refine athen_n ?_
  refine AWP.seq ?_
  refine AWP.region ?_
  refine rC (Calm.assign rfl) ?_
  refine arun_nil ?_
  refine athen_n ?_
  refine AWP.seq ?_
  refine AWP.seq ?_
  refine AWP.region ?_
  refine rC (Calm.move rfl) ?_
  refine rC (Calm.lenSl Try.underlying22 rfl) ?_
  refine rC (Calm.move rfl) ?_
  refine arun_nil ?_
  refine athen_n ?_
  refine AWP.block ?_
  refine AWP.loop (X := Nat) (fun x => [(3, .int .i64 (used (l.take x) : Nat)), (6, .slice a l.length cap), (7, .int .i64 l.length), (8, .int .i64 x)]) (fun x => S) (fun x => x ≤ l.length) (fun x => l.length - x) (0) ⟨some_int (by simp [used]), rfl, rfl, rfl, trivial⟩ (Mem.Less.refl _) (Nat.zero_le _) ?_
  rintro i hi
  (try dsimp only at *)
  refine AWP.seq ?_
  refine AWP.region ?_
  refine rC (Calm.bin rfl rfl b_lss) ?_
  refine arun_nil ?_
  refine athen_n ?_
  refine AWP.seq ?_
  refine AWP.condB rfl (fun hc => ?_) (fun hc => ?_)
  · have hc : i < l.length := by have := of_decide_eq_true hc; omega
    obtain ⟨b, off, rfl, hk⟩ := h3.resolve_left (fun e => by subst e; simp at hc)
    have hki := hk i hc
    have hut := used_take hc
    have hul := used_take_le l (i + 1)
    have hsx := hz _ (List.getElem_mem hc)
    generalize l[i] = x at *
    unfold extF at hki
    unfold sec at hut
    refine AWP.skip ?_
    refine athen_n ?_
    refine AWP.seq ?_
    refine AWP.block ?_
    refine AWP.seq ?_
    refine AWP.region ?_
    refine rC (Calm.indexS Try.underlying22 ty_size_54 rfl rfl (by omega) (by omega)) ?_
    refine rC (ldA_ (cs := [_, _]) ty_agg_54 ty_size_54 rfl) ?_
    refine ARun.alloc (lit_lt rfl) ty_zero_54 ?_
    intro b5 f5
    have g5 := f5
    repeat ((with_reducible replace g5 := fresh_set g5); obtain ⟨g5, _⟩ := g5)
    (try simp only [List.length_cons, List.length_nil, Nat.zero_add, Nat.reduceAdd])
    first | refine ARun.storeAll rfl rfl ty_size_54 own_ rfl rfl ?_ | refine ARun.store rfl rfl ty_size_54 own_ lens_ rfl ?_
    (try simp only [Mem.set_set, List.set_cons_zero, List.set_cons_succ, Nat.zero_add, Nat.reduceAdd])
    refine arun_nil ?_
    refine athen_n ?_
    refine AWP.sub [(3, _), (6, _), (7, _), (8, _), (9, _), (5, _)] ⟨rfl, rfl, rfl, rfl, rfl, rfl, trivial⟩ ?_
    refine AWP.region ?_
    refine rC (Calm.move rfl) ?_
    refine rC (Calm.fieldAddr ty_field_54_1 rfl) ?_
    refine rC (ld_ ty_plain_9 rfl) ?_
    refine rC (Calm.lenStr (strT_spec ty_str_9) rfl) ?_
    refine rC (Calm.bin rfl rfl b_quo_i64) ?_
    refine rC (Calm.bin rfl rfl b_add_i64) ?_
    refine rC (Calm.assign rfl) ?_
    refine arun_nil ?_
    refine ain_n ?_
    refine athen_n ?_
    refine AWP.sub [(3, _), (6, _), (7, _), (8, _), (9, _), (5, _)] ⟨rfl, rfl, rfl, rfl, rfl, rfl, trivial⟩ ?_
    refine AWP.region ?_
    refine rC (Calm.bin rfl rfl b_add_i64) ?_
    refine rC (Calm.move rfl) ?_
    refine arun_nil ?_
    refine athen_n ?_
    refine ⟨i + 1, ?_, ?_, ?_, ?_⟩
    all_goals (try dsimp only)
    · exact ⟨some_int (by omega), rfl, rfl, rfl, trivial⟩
    · exact less_
    · exact hc
    · omega
  · have hc : i = l.length := by have := of_decide_eq_false hc; omega
    subst hc
    rw [List.take_length]
    refine AWP.exit ?_
    refine athen_exit ?_
    refine athen_exit ?_
    refine ain_same ?_
    refine athen_n ?_
    refine AWP.seq ?_
    refine AWP.region ?_
    refine rC (Calm.move rfl) ?_
    refine rC (Calm.assign rfl) ?_
    refine arun_nil ?_
    refine athen_n ?_
    refine AWP.sub [(3, _), (6, _), (7, _), (8, _), (9, _), (2, _)] ⟨rfl, rfl, rfl, rfl, rfl, rfl, trivial⟩ ?_
    refine AWP.ret ?_
    refine ⟨_, S, ⟨_, _, rfl, rfl, rfl⟩, less_, ?_⟩
    exact ⟨rfl, rfl⟩
end Go.Proofs.Ytkeiphkccnfhoaa
