/-
  Disk: names held against each other; where an extent is.
-/
import Derived.Test.YtkeiphkccnfhoaaMemN
import Derived.Test.YtkeiphkccnfhoaaDiskMath
import Derived.Test.YtkeiphkccnfhoaaTypes
namespace Go.Proofs.Ytkeiphkccnfhoaa
open Go.RowKit
open Mv Disk
set_option linter.unusedVariables false
set_option linter.unusedSimpArgs false
set_option maxRecDepth 4000
def strs (s : ByteArray) : List Value := [.string s]
def cmpI (a b : ByteArray) : Int := if a = b then 0 else if lt a b = true then -1 else 1
theorem lt_def (a b : ByteArray) : Op.bytesLess a.data.toList b.data.toList = lt a b := rfl
theorem size0 (s : ByteArray) : (s = ByteArray.empty) ↔ s.size = 0 := ⟨fun h => by rw [h]; rfl, fun h => by
  apply str_ext
  have := size_data s
  rw [h] at this
  rw [List.eq_nil_of_length_eq_zero this]; rfl⟩
def bad (s : ByteArray) : Bool := decide (s.size = 0 ∨ 16 < s.size)
theorem bad_iff {s : ByteArray} : bad s = true ↔ ¬ nm s := by unfold bad nm; rw [decide_eq_true_eq]; omega
theorem bad_no {s : ByteArray} : bad s = false ↔ nm s := by unfold bad nm; rw [decide_eq_false_iff_not]; omega
theorem disk_named1 (s : ByteArray) (S : Mem) : ACall Try.prog 112 #[.string s] S fun r S' => r = .bool (bad s) ∧ S' = S := by
  by_cases h0 : s.size = 0
  · have e : (decide (s = ByteArray.empty)) = true := decide_eq_true ((size0 s).2 h0)
    refine ACall.enter (args := [.string s]) (rs := [.tmp 2]) 10 [(0, .string s)] Try.func112 rfl rfl (Nat.le_of_ble_eq_true rfl) rfl ⟨rfl, trivial⟩ ?_
    refine AWP.seq ?_
    refine AWP.region ?_
    refine rC (Calm.assign rfl) ?_
    refine arun_nil ?_
    refine athen_n ?_
    refine AWP.seq ?_
    refine AWP.region ?_
    refine rC (Calm.move rfl) ?_
    refine rC (Calm.bin rfl rfl (bin_bool (bin_str_eql _ _) e)) ?_
    refine rC (Calm.move rfl) ?_
    first | refine rS 5 ?_ | refine rU 5 ?_ | refine rG 5 (Calm.move rfl) ?_
    first | refine rS 5 ?_ | refine rU 5 ?_ | refine rG 5 (Calm.lenStr (strT_spec ty_str_9) rfl) ?_
    first | refine rS 5 ?_ | refine rU 5 ?_ | refine rG 5 (Calm.bin rfl rfl b_gtr) ?_
    refine rC ((by first | exact Calm.pickT rfl rfl | exact Calm.pickF rfl rfl)) ?_
    refine rC (Calm.assign rfl) ?_
    refine arun_nil ?_
    refine athen_n ?_
    refine AWP.sub [(0, _), (2, _)] ⟨rfl, rfl, trivial⟩ ?_
    refine AWP.ret ?_
    refine ⟨_, S, ⟨_, _, rfl, rfl, rfl⟩, less_, ?_⟩
    exact ⟨by rw [show bad s = true from decide_eq_true (.inl h0)]; rfl, rfl⟩
  · have e : (decide (s = ByteArray.empty)) = false := decide_eq_false (fun h => h0 ((size0 s).1 h))
    refine ACall.enter (args := [.string s]) (rs := [.tmp 2]) 10 [(0, .string s)] Try.func112 rfl rfl (Nat.le_of_ble_eq_true rfl) rfl ⟨rfl, trivial⟩ ?_
    refine AWP.seq ?_
    refine AWP.region ?_
    refine rC (Calm.assign rfl) ?_
    refine arun_nil ?_
    refine athen_n ?_
    refine AWP.seq ?_
    refine AWP.region ?_
    refine rC (Calm.move rfl) ?_
    refine rC (Calm.bin rfl rfl (bin_bool (bin_str_eql _ _) e)) ?_
    refine rC (Calm.move rfl) ?_
    first | refine rS 5 ?_ | refine rU 5 ?_ | refine rG 5 (Calm.move rfl) ?_
    first | refine rS 5 ?_ | refine rU 5 ?_ | refine rG 5 (Calm.lenStr (strT_spec ty_str_9) rfl) ?_
    first | refine rS 5 ?_ | refine rU 5 ?_ | refine rG 5 (Calm.bin rfl rfl b_gtr) ?_
    refine rC ((by first | exact Calm.pickT rfl rfl | exact Calm.pickF rfl rfl)) ?_
    refine rC (Calm.assign rfl) ?_
    refine arun_nil ?_
    refine athen_n ?_
    refine AWP.sub [(0, _), (2, _)] ⟨rfl, rfl, trivial⟩ ?_
    refine AWP.ret ?_
    refine ⟨_, S, ⟨_, _, rfl, rfl, rfl⟩, less_, ?_⟩
    exact ⟨congrArg Value.bool (decide_eq_decide.2 (by omega)), rfl⟩
theorem disk_index (v : Value) (l : List ByteArray) (S : Mem) (hl : Sl 1 strs S v l) :
    ACall Try.prog 131 #[v, .func (.func 112) #[] #[]] S fun r S' => (∃ n : Int, r = .int .i64 n ∧ (0 ≤ n ↔ ∃ s ∈ l, ¬ nm s)) ∧ S' = S := by
  obtain ⟨a, cap, rfl, h1, h2, h3⟩ := id hl
  refine ACall.enter (args := [.slice a l.length cap, .func (.func 112) #[] #[]]) (rs := [.tmp 4]) 19 [(0, .slice a l.length cap), (1, .func (.func 112) #[] #[])] Try.func131 rfl rfl (Nat.le_of_ble_eq_true rfl) rfl ⟨rfl, rfl, trivial⟩ ?_
  refine AWP.seq ?_
  refine AWP.region ?_
  refine rC (Calm.assign rfl) ?_
  refine arun_nil ?_
  refine athen_n ?_
  refine AWP.seq ?_
  refine AWP.seq ?_
  refine AWP.region ?_
  refine rC (Calm.move rfl) ?_
  refine rC (Calm.lenSl Try.underlying26 rfl) ?_
  refine rC (Calm.move rfl) ?_
  refine arun_nil ?_
  refine athen_n ?_
  refine AWP.sub [(0, _), (1, _), (4, _), (7, _), (8, _)] ⟨rfl, rfl, rfl, rfl, rfl, trivial⟩ ?_
  refine AWP.block ?_
  refine AWP.loop (X := Nat) (fun x => [(0, .slice a l.length cap), (1, .func (.func 112) #[] #[]), (7, .int .i64 l.length), (8, .int .i64 x)]) (fun x => S) (fun x => x ≤ l.length ∧ ∀ j (h : j < l.length), j < x → nm l[j]) (fun x => l.length - x) (0) ⟨rfl, rfl, rfl, rfl, trivial⟩ (Mem.Less.refl _) (⟨Nat.zero_le _, fun j _ h => absurd h (Nat.not_lt_zero _)⟩) ?_
  rintro i ⟨hi, hall⟩
  (try dsimp only at *)
  refine AWP.seq ?_
  refine AWP.region ?_
  refine rC (Calm.bin rfl rfl b_lss) ?_
  refine arun_nil ?_
  refine athen_n ?_
  refine AWP.seq ?_
  refine AWP.condB rfl (fun hc => ?_) (fun hc => ?_)
  · have hc : i < l.length := by have := of_decide_eq_true hc; omega
    obtain ⟨b, off, rfl, hk⟩ := h3.resolve_left (fun e => by subst e; simp at hc)
    have hki := hk i hc
    unfold strs at hki
    refine AWP.skip ?_
    refine athen_n ?_
    refine AWP.seq ?_
    refine AWP.block ?_
    refine AWP.seq ?_
    refine AWP.region ?_
    refine rC (Calm.move rfl) ?_
    refine rC (Calm.assign rfl) ?_
    refine arun_nil ?_
    refine athen_n ?_
    refine AWP.sub [(0, _), (1, _), (7, _), (8, _), (9, _), (5, _)] ⟨rfl, rfl, rfl, rfl, rfl, rfl, trivial⟩ ?_
    refine AWP.seq ?_
    refine AWP.region ?_
    refine rC (Calm.move rfl) ?_
    refine rC (Calm.move rfl) ?_
    refine rC (Calm.move rfl) ?_
    refine rC (Calm.indexS Try.underlying26 ty_size_9 rfl rfl (by omega) (by omega)) ?_
    refine rC (ld_ ty_plain_9 rfl) ?_
    refine ARun.callV (lit_lt rfl) go_112 rfl rfl (disk_named1 l[i] _) ?_
    rintro _ S1 ⟨rfl, h1⟩
    rw [h1]; clear h1 S1
    refine arun_nil ?_
    refine athen_n ?_
    refine AWP.sub [(0, _), (1, _), (7, _), (8, _), (9, _), (5, _), (16, _)] ⟨rfl, rfl, rfl, rfl, rfl, rfl, rfl, trivial⟩ ?_
    refine AWP.condB rfl (fun hb => ?_) (fun hb => ?_)
    · refine AWP.seq ?_
      refine AWP.region ?_
      refine rC (Calm.move rfl) ?_
      refine rC (Calm.assign rfl) ?_
      refine arun_nil ?_
      refine athen_n ?_
      refine AWP.sub [(0, _), (1, _), (7, _), (8, _), (9, _), (5, _), (16, _), (4, _)] ⟨rfl, rfl, rfl, rfl, rfl, rfl, rfl, rfl, trivial⟩ ?_
      refine AWP.ret ?_
      refine ain_ret ?_
      refine athen_ret ?_
      refine athen_ret ?_
      refine ain_ret ?_
      refine athen_ret ?_
      refine ⟨_, S, ⟨_, _, rfl, rfl, rfl⟩, less_, ?_⟩
      exact ⟨⟨i, rfl, by constructor; exact fun _ => ⟨_, List.getElem_mem hc, bad_iff.1 hb⟩; omega⟩, rfl⟩
    · refine AWP.skip ?_
      refine ain_n ?_
      refine athen_n ?_
      refine AWP.region ?_
      refine rC (Calm.bin rfl rfl b_add_i64) ?_
      refine rC (Calm.move rfl) ?_
      refine arun_nil ?_
      refine athen_n ?_
      refine ⟨i + 1, ?_, ?_, ?_, ?_⟩
      all_goals (try dsimp only)
      · exact ⟨rfl, rfl, rfl, rfl, trivial⟩
      · exact less_
      · exact ⟨hc, fun j h hj => by rcases Nat.lt_or_ge j i with h' | h'; exact hall j h h'; obtain rfl : j = i := (by omega); exact bad_no.1 hb⟩
      · omega
  · have hc : i = l.length := by have := of_decide_eq_false hc; omega
    refine AWP.exit ?_
    refine athen_exit ?_
    refine athen_exit ?_
    refine ain_same ?_
    refine athen_n ?_
    refine AWP.seq ?_
    refine AWP.region ?_
    refine rC (Calm.assign rfl) ?_
    refine arun_nil ?_
    refine athen_n ?_
    refine AWP.ret ?_
    refine ⟨_, S, ⟨_, _, rfl, rfl, rfl⟩, less_, ?_⟩
    exact ⟨⟨-1, rfl, by constructor; omega; rintro ⟨s, hs, hn⟩; obtain ⟨j, hj, rfl⟩ := List.getElem_of_mem hs; exact absurd (hall j hj (by omega)) hn⟩, rfl⟩
theorem disk_contains (v : Value) (l : List ByteArray) (S : Mem) (hl : Sl 1 strs S v l) :
    ACall Try.prog 111 #[v, .func (.func 112) #[] #[]] S fun r S' => (∃ t : Bool, r = .bool t ∧ (t = true ↔ ∃ s ∈ l, ¬ nm s)) ∧ S' = S := by
  refine ACall.enter (args := [v, .func (.func 112) #[] #[]]) (rs := [.tmp 4]) 9 [(0, v), (1, .func (.func 112) #[] #[])] Try.func111 rfl rfl (Nat.le_of_ble_eq_true rfl) rfl ⟨rfl, rfl, trivial⟩ ?_
  refine AWP.seq ?_
  refine AWP.region ?_
  refine rC (Calm.assign rfl) ?_
  refine arun_nil ?_
  refine athen_n ?_
  refine AWP.seq ?_
  refine AWP.region ?_
  refine rC (Calm.move rfl) ?_
  refine rC (Calm.move rfl) ?_
  refine ARun.call (lit_lt rfl) go_131 rfl (disk_index v l _ hl) ?_
  rintro _ S1 ⟨⟨n, rfl, hn⟩, h1⟩
  rw [h1]; clear h1 S1
  refine rC (Calm.bin rfl rfl b_geq) ?_
  refine rC (Calm.assign rfl) ?_
  refine arun_nil ?_
  refine athen_n ?_
  refine AWP.sub [(0, _), (1, _), (4, _)] ⟨rfl, rfl, rfl, trivial⟩ ?_
  refine AWP.ret ?_
  refine ⟨_, S, ⟨_, _, rfl, rfl, rfl⟩, less_, ?_⟩
  exact ⟨⟨decide (0 ≤ n), rfl, by rw [decide_eq_true_eq]; exact hn⟩, rfl⟩
theorem disk_named (v : Value) (l : List ByteArray) (S : Mem) (hl : Sl 1 strs S v l) :
    ACall Try.prog 83 #[v] S fun r S' => (∃ t : Bool, r = .bool t ∧ (t = true ↔ ∀ s ∈ l, nm s)) ∧ S' = S := by
  refine ACall.enter (args := [v]) (rs := [.tmp 2]) 6 [(0, v)] Try.func83 rfl rfl (Nat.le_of_ble_eq_true rfl) rfl ⟨rfl, trivial⟩ ?_
  refine AWP.seq ?_
  refine AWP.region ?_
  refine rC (Calm.assign rfl) ?_
  refine arun_nil ?_
  refine athen_n ?_
  refine AWP.seq ?_
  refine AWP.region ?_
  refine rC (Calm.move rfl) ?_
  refine ARun.call (lit_lt rfl) go_111 rfl (disk_contains v l _ hl) ?_
  rintro _ S1 ⟨⟨t, rfl, ht⟩, h1⟩
  rw [h1]; clear h1 S1
  refine rC (Calm.un rfl (una_not _)) ?_
  refine rC (Calm.assign rfl) ?_
  refine arun_nil ?_
  refine athen_n ?_
  refine AWP.sub [(0, _), (2, _)] ⟨rfl, rfl, trivial⟩ ?_
  refine AWP.ret ?_
  refine ⟨_, S, ⟨_, _, rfl, rfl, rfl⟩, less_, ?_⟩
  exact ⟨⟨!t, rfl, by cases t <;> simp at ht ⊢ <;> exact ht⟩, rfl⟩
theorem disk_nan (s : ByteArray) (S : Mem) : ACall Try.prog 123 #[.string s] S fun r S' => r = .bool false ∧ S' = S := by
  refine ACall.enter (args := [.string s]) (rs := [.tmp 2]) 6 [(0, .string s)] Try.func123 rfl rfl (Nat.le_of_ble_eq_true rfl) rfl ⟨rfl, trivial⟩ ?_
  refine AWP.seq ?_
  refine AWP.region ?_
  refine rC (Calm.assign rfl) ?_
  refine arun_nil ?_
  refine athen_n ?_
  refine AWP.seq ?_
  refine AWP.region ?_
  refine rC (Calm.move rfl) ?_
  refine rC (Calm.move rfl) ?_
  refine rC (Calm.bin rfl rfl (bin_bool (bin_str_neq _ _) (bnot_dec_false rfl))) ?_
  refine rC (Calm.assign rfl) ?_
  refine arun_nil ?_
  refine athen_n ?_
  refine AWP.sub [(0, _), (2, _)] ⟨rfl, rfl, trivial⟩ ?_
  refine AWP.ret ?_
  refine ⟨_, S, ⟨_, _, rfl, rfl, rfl⟩, less_, ?_⟩
  exact ⟨rfl, rfl⟩
theorem disk_compare (a b : ByteArray) (S : Mem) : ACall Try.prog 93 #[.string a, .string b] S fun r S' => r = .int .i64 (cmpI a b) ∧ S' = S := by
  unfold cmpI
  by_cases e : a = b
  · subst e
    rw [if_pos rfl]
    refine ACall.enter (args := [.string a, .string a]) (rs := [.tmp 4]) 20 [(0, .string a), (1, .string a)] Try.func93 rfl rfl (Nat.le_of_ble_eq_true rfl) rfl ⟨rfl, rfl, trivial⟩ ?_
    refine AWP.seq ?_
    refine AWP.region ?_
    refine rC (Calm.assign rfl) ?_
    refine arun_nil ?_
    refine athen_n ?_
    refine AWP.seq ?_
    refine AWP.region ?_
    refine rC (Calm.move rfl) ?_
    refine ARun.call (lit_lt rfl) go_123 rfl (disk_nan a _) ?_
    rintro _ S1 ⟨rfl, h1⟩
    rw [h1]; clear h1 S1
    refine rC (Calm.assign rfl) ?_
    refine arun_nil ?_
    refine athen_n ?_
    refine AWP.sub [(0, _), (1, _), (4, _), (5, _)] ⟨rfl, rfl, rfl, rfl, trivial⟩ ?_
    refine AWP.seq ?_
    refine AWP.region ?_
    refine rC (Calm.move rfl) ?_
    refine ARun.call (lit_lt rfl) go_123 rfl (disk_nan a _) ?_
    rintro _ S1 ⟨rfl, h1⟩
    rw [h1]; clear h1 S1
    refine rC (Calm.assign rfl) ?_
    refine arun_nil ?_
    refine athen_n ?_
    refine AWP.sub [(0, _), (1, _), (4, _), (5, _), (6, _)] ⟨rfl, rfl, rfl, rfl, rfl, trivial⟩ ?_
    refine AWP.seq ?_
    refine AWP.seq ?_
    refine AWP.region ?_
    refine rC (Calm.move rfl) ?_
    refine arun_nil ?_
    refine athen_n ?_
    refine AWP.condF rfl (by first | rfl | (simp; done) | (simp; omega)) ?_
    refine AWP.skip ?_
    refine athen_n ?_
    refine AWP.seq ?_
    refine AWP.seq ?_
    refine AWP.region ?_
    refine rC (Calm.move rfl) ?_
    refine arun_nil ?_
    refine athen_n ?_
    refine AWP.condF rfl (by first | rfl | (simp; done) | (simp; omega)) ?_
    refine AWP.skip ?_
    refine athen_n ?_
    refine AWP.seq ?_
    refine AWP.seq ?_
    refine AWP.region ?_
    refine rC (Calm.move rfl) ?_
    refine rC (Calm.move rfl) ?_
    refine rC (Calm.bin rfl rfl (bin_bool (bin_str_lss _ _) (lt_irrefl a))) ?_
    refine arun_nil ?_
    refine athen_n ?_
    refine AWP.sub [(0, _), (1, _), (4, _), (5, _), (6, _), (11, _), (13, _), (16, _)] ⟨rfl, rfl, rfl, rfl, rfl, rfl, rfl, rfl, trivial⟩ ?_
    refine AWP.condF rfl (by first | rfl | (simp; done) | (simp; omega)) ?_
    refine AWP.skip ?_
    refine athen_n ?_
    refine AWP.seq ?_
    refine AWP.seq ?_
    refine AWP.region ?_
    refine rC (Calm.move rfl) ?_
    refine rC (Calm.move rfl) ?_
    refine rC (Calm.bin rfl rfl (bin_bool (bin_str_gtr _ _) (by rw [lt_def, lt_irrefl, decide_eq_true rfl]; first | done | rfl))) ?_
    refine arun_nil ?_
    refine athen_n ?_
    refine AWP.sub [(0, _), (1, _), (4, _), (5, _), (6, _), (11, _), (13, _), (16, _), (19, _)] ⟨rfl, rfl, rfl, rfl, rfl, rfl, rfl, rfl, rfl, trivial⟩ ?_
    refine AWP.condF rfl (by first | rfl | (simp; done) | (simp; omega)) ?_
    refine AWP.skip ?_
    refine athen_n ?_
    refine AWP.seq ?_
    refine AWP.region ?_
    refine rC (Calm.assign rfl) ?_
    refine arun_nil ?_
    refine athen_n ?_
    refine AWP.ret ?_
    refine ⟨_, S, ⟨_, _, rfl, rfl, rfl⟩, less_, ?_⟩
    exact ⟨rfl, rfl⟩
  · rw [if_neg e]
    by_cases h : lt a b = true
    · rw [if_pos h]
      refine ACall.enter (args := [.string a, .string b]) (rs := [.tmp 4]) 20 [(0, .string a), (1, .string b)] Try.func93 rfl rfl (Nat.le_of_ble_eq_true rfl) rfl ⟨rfl, rfl, trivial⟩ ?_
      refine AWP.seq ?_
      refine AWP.region ?_
      refine rC (Calm.assign rfl) ?_
      refine arun_nil ?_
      refine athen_n ?_
      refine AWP.seq ?_
      refine AWP.region ?_
      refine rC (Calm.move rfl) ?_
      refine ARun.call (lit_lt rfl) go_123 rfl (disk_nan a _) ?_
      rintro _ S1 ⟨rfl, h1⟩
      rw [h1]; clear h1 S1
      refine rC (Calm.assign rfl) ?_
      refine arun_nil ?_
      refine athen_n ?_
      refine AWP.sub [(0, _), (1, _), (4, _), (5, _)] ⟨rfl, rfl, rfl, rfl, trivial⟩ ?_
      refine AWP.seq ?_
      refine AWP.region ?_
      refine rC (Calm.move rfl) ?_
      refine ARun.call (lit_lt rfl) go_123 rfl (disk_nan b _) ?_
      rintro _ S1 ⟨rfl, h1⟩
      rw [h1]; clear h1 S1
      refine rC (Calm.assign rfl) ?_
      refine arun_nil ?_
      refine athen_n ?_
      refine AWP.sub [(0, _), (1, _), (4, _), (5, _), (6, _)] ⟨rfl, rfl, rfl, rfl, rfl, trivial⟩ ?_
      refine AWP.seq ?_
      refine AWP.seq ?_
      refine AWP.region ?_
      refine rC (Calm.move rfl) ?_
      refine arun_nil ?_
      refine athen_n ?_
      refine AWP.condF rfl (by first | rfl | (simp; done) | (simp; omega)) ?_
      refine AWP.skip ?_
      refine athen_n ?_
      refine AWP.seq ?_
      refine AWP.seq ?_
      refine AWP.region ?_
      refine rC (Calm.move rfl) ?_
      refine arun_nil ?_
      refine athen_n ?_
      refine AWP.condF rfl (by first | rfl | (simp; done) | (simp; omega)) ?_
      refine AWP.skip ?_
      refine athen_n ?_
      refine AWP.seq ?_
      refine AWP.seq ?_
      refine AWP.region ?_
      refine rC (Calm.move rfl) ?_
      refine rC (Calm.move rfl) ?_
      refine rC (Calm.bin rfl rfl (bin_bool (bin_str_lss _ _) h)) ?_
      refine arun_nil ?_
      refine athen_n ?_
      refine AWP.sub [(0, _), (1, _), (4, _), (5, _), (6, _), (11, _), (13, _), (16, _)] ⟨rfl, rfl, rfl, rfl, rfl, rfl, rfl, rfl, trivial⟩ ?_
      refine AWP.condT rfl (by first | rfl | (simp; done) | (simp; omega)) ?_
      refine AWP.seq ?_
      refine AWP.region ?_
      refine rC (Calm.assign rfl) ?_
      refine arun_nil ?_
      refine athen_n ?_
      refine AWP.ret ?_
      refine athen_ret ?_
      refine ⟨_, S, ⟨_, _, rfl, rfl, rfl⟩, less_, ?_⟩
      exact ⟨rfl, rfl⟩
    · have h' : lt a b = false := by simpa using h
      rw [if_neg h]
      refine ACall.enter (args := [.string a, .string b]) (rs := [.tmp 4]) 20 [(0, .string a), (1, .string b)] Try.func93 rfl rfl (Nat.le_of_ble_eq_true rfl) rfl ⟨rfl, rfl, trivial⟩ ?_
      refine AWP.seq ?_
      refine AWP.region ?_
      refine rC (Calm.assign rfl) ?_
      refine arun_nil ?_
      refine athen_n ?_
      refine AWP.seq ?_
      refine AWP.region ?_
      refine rC (Calm.move rfl) ?_
      refine ARun.call (lit_lt rfl) go_123 rfl (disk_nan a _) ?_
      rintro _ S1 ⟨rfl, h1⟩
      rw [h1]; clear h1 S1
      refine rC (Calm.assign rfl) ?_
      refine arun_nil ?_
      refine athen_n ?_
      refine AWP.sub [(0, _), (1, _), (4, _), (5, _)] ⟨rfl, rfl, rfl, rfl, trivial⟩ ?_
      refine AWP.seq ?_
      refine AWP.region ?_
      refine rC (Calm.move rfl) ?_
      refine ARun.call (lit_lt rfl) go_123 rfl (disk_nan b _) ?_
      rintro _ S1 ⟨rfl, h1⟩
      rw [h1]; clear h1 S1
      refine rC (Calm.assign rfl) ?_
      refine arun_nil ?_
      refine athen_n ?_
      refine AWP.sub [(0, _), (1, _), (4, _), (5, _), (6, _)] ⟨rfl, rfl, rfl, rfl, rfl, trivial⟩ ?_
      refine AWP.seq ?_
      refine AWP.seq ?_
      refine AWP.region ?_
      refine rC (Calm.move rfl) ?_
      refine arun_nil ?_
      refine athen_n ?_
      refine AWP.condF rfl (by first | rfl | (simp; done) | (simp; omega)) ?_
      refine AWP.skip ?_
      refine athen_n ?_
      refine AWP.seq ?_
      refine AWP.seq ?_
      refine AWP.region ?_
      refine rC (Calm.move rfl) ?_
      refine arun_nil ?_
      refine athen_n ?_
      refine AWP.condF rfl (by first | rfl | (simp; done) | (simp; omega)) ?_
      refine AWP.skip ?_
      refine athen_n ?_
      refine AWP.seq ?_
      refine AWP.seq ?_
      refine AWP.region ?_
      refine rC (Calm.move rfl) ?_
      refine rC (Calm.move rfl) ?_
      refine rC (Calm.bin rfl rfl (bin_bool (bin_str_lss _ _) h')) ?_
      refine arun_nil ?_
      refine athen_n ?_
      refine AWP.sub [(0, _), (1, _), (4, _), (5, _), (6, _), (11, _), (13, _), (16, _)] ⟨rfl, rfl, rfl, rfl, rfl, rfl, rfl, rfl, trivial⟩ ?_
      refine AWP.condF rfl (by first | rfl | (simp; done) | (simp; omega)) ?_
      refine AWP.skip ?_
      refine athen_n ?_
      refine AWP.seq ?_
      refine AWP.seq ?_
      refine AWP.region ?_
      refine rC (Calm.move rfl) ?_
      refine rC (Calm.move rfl) ?_
      refine rC (Calm.bin rfl rfl (bin_bool (bin_str_gtr _ _) (by rw [lt_def, h', decide_eq_false e]; first | done | rfl))) ?_
      refine arun_nil ?_
      refine athen_n ?_
      refine AWP.sub [(0, _), (1, _), (4, _), (5, _), (6, _), (11, _), (13, _), (16, _), (19, _)] ⟨rfl, rfl, rfl, rfl, rfl, rfl, rfl, rfl, rfl, trivial⟩ ?_
      refine AWP.condT rfl (by first | rfl | (simp; done) | (simp; omega)) ?_
      refine AWP.seq ?_
      refine AWP.region ?_
      refine rC (Calm.assign rfl) ?_
      refine arun_nil ?_
      refine athen_n ?_
      refine AWP.ret ?_
      refine athen_ret ?_
      refine ⟨_, S, ⟨_, _, rfl, rfl, rfl⟩, less_, ?_⟩
      exact ⟨rfl, rfl⟩
theorem disk_find1 (x : Ext) (s : ByteArray) (S : Mem) : ACall Try.prog 92 #[.agg #[.string x.1, .string x.2], .string s] S fun r S' => r = .int .i64 (cmpI x.1 s) ∧ S' = S := by
  refine ACall.enter (args := [.agg #[.string x.1, .string x.2], .string s]) (rs := [.tmp 4]) 9 [(0, .agg #[.string x.1, .string x.2]), (1, .string s)] Try.func92 rfl rfl (Nat.le_of_ble_eq_true rfl) rfl ⟨rfl, rfl, trivial⟩ ?_
  refine AWP.seq ?_
  refine AWP.region ?_
  refine ARun.boxA (cs := [_, _]) (lit_lt rfl) rfl ?_
  intro b2 f2
  have g2 := f2
  repeat ((with_reducible replace g2 := fresh_set g2); obtain ⟨g2, _⟩ := g2)
  (try simp only [List.length_cons, List.length_nil, Nat.zero_add, Nat.reduceAdd])
  refine rC (Calm.assign rfl) ?_
  refine arun_nil ?_
  refine athen_n ?_
  refine AWP.seq ?_
  refine AWP.region ?_
  refine rC (Calm.fieldAddr ty_field_54_0 rfl) ?_
  refine rC (ld_ ty_plain_9 rfl) ?_
  refine rC (Calm.move rfl) ?_
  refine ARun.call (lit_lt rfl) go_93 rfl (disk_compare x.1 s _) ?_
  rintro _ S1 ⟨rfl, h1⟩
  rw [h1]; clear h1 S1
  refine rC (Calm.assign rfl) ?_
  refine arun_nil ?_
  refine athen_n ?_
  refine AWP.sub [(0, _), (1, _), (2, _), (4, _)] ⟨rfl, rfl, rfl, rfl, trivial⟩ ?_
  refine AWP.ret ?_
  refine ⟨_, S, ⟨_, _, rfl, rfl, rfl⟩, less_, ?_⟩
  exact ⟨rfl, rfl⟩
end Go.Proofs.Ytkeiphkccnfhoaa
