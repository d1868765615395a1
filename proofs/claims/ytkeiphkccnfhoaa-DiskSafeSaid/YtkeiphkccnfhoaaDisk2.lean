/-
  Disk: where an extent is; sectors; extents that are right.
-/
import Derived.Test.YtkeiphkccnfhoaaDisk1
namespace Go.Proofs.Ytkeiphkccnfhoaa
open Go.RowKit
open Mv Disk
set_option linter.unusedVariables false
set_option linter.unusedSimpArgs false
set_option maxRecDepth 4000
theorem cmpI_neg {a b : ByteArray} : cmpI a b < 0 ↔ lt a b = true := by
  unfold cmpI
  by_cases e : a = b
  · subst e; rw [if_pos rfl, lt_irrefl]; simp
  · rw [if_neg e]; by_cases h : lt a b = true
    · rw [if_pos h]; simp [h]
    · rw [if_neg h]; simp [h]
theorem cmpI_zero {a b : ByteArray} : cmpI a b = 0 ↔ a = b := by
  unfold cmpI
  by_cases e : a = b
  · rw [if_pos e]; simp [e]
  · rw [if_neg e]; by_cases h : lt a b = true
    · rw [if_pos h]; simp [e]
    · rw [if_neg h]; simp [e]
set_option maxHeartbeats 1000000 in
theorem disk_search (v : Value) (l : List Ext) (s : ByteArray) (S : Mem) (hl : Sl 2 extF S v l) (ha : Asc l) (hn : l.length ≤ 1048576) :
    ACall Try.prog 91 #[v, .string s, .func (.func 92) #[] #[]] S fun r S' => r = .tuple #[.int .i64 (pos l s : Nat), .bool (has l s)] ∧ S' = S := by
  obtain ⟨a, cap, rfl, h1, h2, h3⟩ := id hl
  refine ACall.enter (args := [.slice a l.length cap, .string s, .func (.func 92) #[] #[]]) (rs := [.tmp 6, .tmp 7]) 49 [(0, .slice a l.length cap), (1, .string s), (2, .func (.func 92) #[] #[])] Try.func91 rfl rfl (Nat.le_of_ble_eq_true rfl) rfl ⟨rfl, rfl, rfl, trivial⟩ ?_
  refine AWP.seq ?_
  refine AWP.region ?_
  refine rC (Calm.assign rfl) ?_
  refine rC (Calm.assign rfl) ?_
  refine arun_nil ?_
  refine athen_n ?_
  refine AWP.seq ?_
  refine AWP.region ?_
  refine rC (Calm.move rfl) ?_
  refine rC (Calm.lenSl Try.underlying22 rfl) ?_
  refine rC (Calm.assign rfl) ?_
  refine arun_nil ?_
  refine athen_n ?_
  refine AWP.sub [(0, _), (1, _), (2, _), (6, _), (7, _), (8, _)] ⟨rfl, rfl, rfl, rfl, rfl, rfl, trivial⟩ ?_
  refine AWP.seq ?_
  refine AWP.region ?_
  refine rC (Calm.move rfl) ?_
  refine rC (Calm.assign rfl) ?_
  refine rC (Calm.assign rfl) ?_
  refine arun_nil ?_
  refine athen_n ?_
  refine AWP.sub [(0, _), (1, _), (2, _), (6, _), (7, _), (8, _), (9, _), (10, _)] ⟨rfl, rfl, rfl, rfl, rfl, rfl, rfl, rfl, trivial⟩ ?_
  refine AWP.seq ?_
  refine AWP.block ?_
  refine AWP.loop (X := Nat × Nat) (fun x => [(0, .slice a l.length cap), (1, .string s), (2, .func (.func 92) #[] #[]), (8, .int .i64 l.length), (9, .int .i64 x.1), (10, .int .i64 x.2)]) (fun x => S) (fun x => x.1 ≤ x.2 ∧ x.2 ≤ l.length ∧ (∀ j (h : j < l.length), j < x.1 → lt l[j].1 s = true) ∧ ∀ j (h : j < l.length), x.2 ≤ j → lt l[j].1 s = false) (fun x => x.2 - x.1) ((0, l.length)) ⟨rfl, rfl, rfl, rfl, rfl, rfl, trivial⟩ (Mem.Less.refl _) (⟨Nat.zero_le _, Nat.le_refl _, fun j _ h => absurd h (Nat.not_lt_zero _), fun j h h' => absurd h (Nat.not_lt.2 h')⟩) ?_
  rintro ⟨i, j⟩ ⟨hij, hj, hlo, hhi⟩
  (try dsimp only at *)
  refine AWP.seq ?_
  refine AWP.seq ?_
  refine AWP.region ?_
  refine rC (Calm.move rfl) ?_
  refine rC (Calm.move rfl) ?_
  refine rC (Calm.bin rfl rfl b_lss) ?_
  refine arun_nil ?_
  refine athen_n ?_
  refine AWP.sub [(0, _), (1, _), (2, _), (8, _), (9, _), (10, _), (17, _)] ⟨rfl, rfl, rfl, rfl, rfl, rfl, rfl, trivial⟩ ?_
  refine AWP.condB rfl (fun hc => ?_) (fun hc => ?_)
  · have hc : i < j := by have := of_decide_eq_true hc; omega
    obtain ⟨b, off, rfl, hk⟩ := h3.resolve_left (fun e => by subst e; simp at hj; omega)
    obtain ⟨m, hm⟩ : ∃ m, (i + j) / 2 = m := ⟨_, rfl⟩
    have hml : m < l.length := by omega
    have hki := hk m hml
    unfold extF at hki
    have e1 : IntKind.i64.wrap (((i : Int) + (j : Int)) / 2 ^ (1 : Int).toNat) = (m : Int) := by rw [show (2 : Int) ^ (1 : Int).toNat = 2 from rfl, IntWalk.i64_in _ (by omega)]; omega
    refine AWP.skip ?_
    refine athen_n ?_
    refine AWP.block ?_
    refine AWP.seq ?_
    refine AWP.region ?_
    refine rC (Calm.move rfl) ?_
    refine rC (Calm.move rfl) ?_
    refine rC (Calm.bin rfl rfl b_add_i64) ?_
    refine rC (Calm.conv rfl (by first | exact conv_intW Try.underlying3 Try.underlying147 (IntWalk.u64_in _ (by omega)) | exact conv_int Try.underlying3 Try.underlying147)) ?_
    refine rC (Calm.bin rfl rfl b_shr) ?_
    refine rC (Calm.conv rfl (by first | exact conv_intW Try.underlying147 Try.underlying3 (IntWalk.i64_in _ (by omega)) | exact conv_int Try.underlying147 Try.underlying3)) ?_
    refine rC (Calm.assign rfl) ?_
    refine arun_nil ?_
    refine athen_n ?_
    refine AWP.sub [(0, _), (1, _), (2, _), (8, _), (9, _), (10, _), (17, _), (11, _)] ⟨rfl, rfl, rfl, rfl, rfl, rfl, rfl, rfl, trivial⟩ ?_
    rw [e1]
    refine AWP.seq ?_
    refine AWP.region ?_
    refine rC (Calm.move rfl) ?_
    refine rC (Calm.move rfl) ?_
    refine rC (Calm.move rfl) ?_
    refine rC (Calm.indexS Try.underlying22 ty_size_54 rfl rfl (by omega) (by omega)) ?_
    refine rC (ldA_ (cs := [_, _]) ty_agg_54 ty_size_54 rfl) ?_
    refine rC (Calm.move rfl) ?_
    refine ARun.callV (lit_lt rfl) go_92 rfl rfl (disk_find1 l[m] s _) ?_
    rintro _ S1 ⟨rfl, h1⟩
    rw [h1]; clear h1 S1
    refine rC (Calm.bin rfl rfl b_lss) ?_
    refine arun_nil ?_
    refine athen_n ?_
    refine AWP.sub [(0, _), (1, _), (2, _), (8, _), (9, _), (10, _), (17, _), (11, _), (31, _)] ⟨rfl, rfl, rfl, rfl, rfl, rfl, rfl, rfl, rfl, trivial⟩ ?_
    refine AWP.condB rfl (fun hb => ?_) (fun hb => ?_)
    · have hb : lt l[m].1 s = true := cmpI_neg.1 (of_decide_eq_true hb)
      have hlo' : ∀ k (h : k < l.length), k < m + 1 → lt l[k].1 s = true := fun k h hk' => by rcases Nat.lt_or_ge k m with h' | h'; exact lt_trans (asc_get ha hml h') hb; obtain rfl : k = m := (by omega); exact hb
      refine AWP.region ?_
      refine rC (Calm.move rfl) ?_
      refine rC (Calm.bin rfl rfl b_add_i64) ?_
      refine rC (Calm.assign rfl) ?_
      refine arun_nil ?_
      refine ain_n ?_
      refine athen_n ?_
      refine ⟨(m + 1, j), ?_, ?_, ?_, ?_⟩
      all_goals (try dsimp only)
      · exact ⟨rfl, rfl, rfl, rfl, rfl, rfl, trivial⟩
      · exact less_
      · exact ⟨by omega, hj, hlo', hhi⟩
      · omega
    · have hb : lt l[m].1 s = false := by have := of_decide_eq_false hb; rw [cmpI_neg] at this; simpa using this
      have hhi' : ∀ k (h : k < l.length), m ≤ k → lt l[k].1 s = false := fun k h hk' => by rcases Nat.lt_or_ge m k with h' | h'; (cases hq : lt l[k].1 s with | false => rfl | true => have := lt_trans (asc_get ha h h') hq; rw [hb] at this; cases this); obtain rfl : k = m := (by omega); exact hb
      refine AWP.region ?_
      refine rC (Calm.move rfl) ?_
      refine rC (Calm.assign rfl) ?_
      refine arun_nil ?_
      refine ain_n ?_
      refine athen_n ?_
      refine ⟨(i, m), ?_, ?_, ?_, ?_⟩
      all_goals (try dsimp only)
      · exact ⟨rfl, rfl, rfl, rfl, rfl, rfl, trivial⟩
      · exact less_
      · exact ⟨by omega, by omega, hlo, hhi'⟩
      · omega
  · have hc : i = j := by have := of_decide_eq_false hc; omega
    subst hc
    have hp : pos l s = i := pos_iff hj hlo (fun h => hhi i h (Nat.le_refl _))
    have hh := has_pos ha s
    by_cases hil : i < l.length
    · obtain ⟨b, off, rfl, hk⟩ := h3.resolve_left (fun e => by subst e; simp at hil)
      have hki := hk i hil
      unfold extF at hki
      refine AWP.exit ?_
      refine athen_exit ?_
      refine athen_exit ?_
      refine ain_same ?_
      refine athen_n ?_
      refine AWP.seq ?_
      refine AWP.region ?_
      refine rC (Calm.move rfl) ?_
      refine rC (Calm.move rfl) ?_
      refine rC (Calm.move rfl) ?_
      refine rC (Calm.bin rfl rfl b_lss) ?_
      refine rC (Calm.move rfl) ?_
      first | refine rS 39 ?_ | refine rU 39 ?_ | refine rG 39 (Calm.move rfl) ?_
      first | refine rS 39 ?_ | refine rU 39 ?_ | refine rG 39 (Calm.move rfl) ?_
      first | refine rS 39 ?_ | refine rU 39 ?_ | refine rG 39 (Calm.move rfl) ?_
      first | refine rS 39 ?_ | refine rU 39 ?_ | refine rG 39 (Calm.indexS Try.underlying22 ty_size_54 rfl rfl (by omega) (by omega)) ?_
      first | refine rS 39 ?_ | refine rU 39 ?_ | refine rG 39 (ldA_ (cs := [_, _]) ty_agg_54 ty_size_54 rfl) ?_
      first | refine rS 39 ?_ | refine rU 39 ?_ | refine rG 39 (Calm.move rfl) ?_
      refine rUn 39 ?_
      refine ARun.callV (lit_lt rfl) go_92 rfl rfl (disk_find1 l[i] s _) ?_
      rintro _ S1 ⟨rfl, h1⟩
      rw [h1]; clear h1 S1
      have hbb : decide (cmpI l[i].1 s = 0) = has l s := by rw [Bool.eq_iff_iff, decide_eq_true_eq, cmpI_zero, hh]; constructor; exact fun e => ⟨by rw [hp]; exact hil, by simp only [hp]; exact e⟩; exact fun ⟨_, e⟩ => by simpa only [hp] using e
      first | refine rS 39 ?_ | refine rU 39 ?_ | refine rG 39 (Calm.bin rfl rfl b_eql) ?_
      refine rC ((by first | exact Calm.pickT rfl rfl | exact Calm.pickF rfl rfl)) ?_
      refine rC (Calm.assign rfl) ?_
      refine rC (Calm.assign rfl) ?_
      refine arun_nil ?_
      refine athen_n ?_
      refine AWP.sub [(0, _), (1, _), (2, _), (8, _), (9, _), (10, _), (17, _), (6, _), (7, _)] ⟨rfl, rfl, rfl, rfl, rfl, rfl, rfl, rfl, rfl, trivial⟩ ?_
      refine AWP.ret ?_
      refine ⟨_, S, ⟨_, _, rfl, ⟨_, _, rfl, rfl, rfl⟩, rfl⟩, less_, ?_⟩
      exact ⟨by rw [hp, ← hbb]; rfl, rfl⟩
    · have hbb : has l s = false := by cases h : has l s with | false => rfl | true => obtain ⟨h', _⟩ := hh.1 h; rw [hp] at h'; omega
      refine AWP.exit ?_
      refine athen_exit ?_
      refine athen_exit ?_
      refine ain_same ?_
      refine athen_n ?_
      refine AWP.seq ?_
      refine AWP.region ?_
      refine rC (Calm.move rfl) ?_
      refine rC (Calm.move rfl) ?_
      refine rC (Calm.move rfl) ?_
      refine rC (Calm.bin rfl rfl b_lss) ?_
      refine rC (Calm.move rfl) ?_
      first | refine rS 39 ?_ | refine rU 39 ?_ | refine rG 39 (Calm.move rfl) ?_
      first | refine rS 39 ?_ | refine rU 39 ?_ | refine rG 39 (Calm.move rfl) ?_
      first | refine rS 39 ?_ | refine rU 39 ?_ | refine rG 39 (Calm.move rfl) ?_
      first | refine rS 39 ?_ | refine rU 39 ?_ | refine rG 39 (Calm.indexS Try.underlying22 ty_size_54 rfl rfl (by omega) (by omega)) ?_
      first | refine rS 39 ?_ | refine rU 39 ?_ | refine rG 39 (ldA_ (cs := [_, _]) ty_agg_54 ty_size_54 rfl) ?_
      first | refine rS 39 ?_ | refine rU 39 ?_ | refine rG 39 (Calm.move rfl) ?_
      first | refine rS 39 ?_ | refine rU 39 ?_
      first | refine rS 39 ?_ | refine rU 39 ?_ | refine rG 39 (Calm.bin rfl rfl b_eql) ?_
      refine rC ((by first | exact Calm.pickT rfl rfl | exact Calm.pickF rfl rfl)) ?_
      refine rC (Calm.assign rfl) ?_
      refine rC (Calm.assign rfl) ?_
      refine arun_nil ?_
      refine athen_n ?_
      refine AWP.sub [(0, _), (1, _), (2, _), (8, _), (9, _), (10, _), (17, _), (6, _), (7, _)] ⟨rfl, rfl, rfl, rfl, rfl, rfl, rfl, rfl, rfl, trivial⟩ ?_
      refine AWP.ret ?_
      refine ⟨_, S, ⟨_, _, rfl, ⟨_, _, rfl, rfl, rfl⟩, rfl⟩, less_, ?_⟩
      exact ⟨by rw [hp, hbb]; rfl, rfl⟩
theorem disk_find (v : Value) (l : List Ext) (s : ByteArray) (S : Mem) (hl : Sl 2 extF S v l) (ha : Asc l) (hn : l.length ≤ 1048576) :
    ACall Try.prog 59 #[v, .string s] S fun r S' => r = .tuple #[.int .i64 (pos l s : Nat), .bool (has l s)] ∧ S' = S := by
  refine ACall.enter (args := [v, .string s]) (rs := [.tmp 4, .tmp 5]) 11 [(0, v), (1, .string s)] Try.func59 rfl rfl (Nat.le_of_ble_eq_true rfl) rfl ⟨rfl, rfl, trivial⟩ ?_
  refine AWP.seq ?_
  refine AWP.region ?_
  refine rC (Calm.assign rfl) ?_
  refine rC (Calm.assign rfl) ?_
  refine arun_nil ?_
  refine athen_n ?_
  refine AWP.seq ?_
  refine AWP.region ?_
  refine rC (Calm.move rfl) ?_
  refine rC (Calm.move rfl) ?_
  refine ARun.call (lit_lt rfl) go_91 rfl (disk_search v l s _ hl ha hn) ?_
  rintro _ S1 ⟨rfl, h1⟩
  rw [h1]; clear h1 S1
  refine rC (Calm.extract rfl rfl) ?_
  refine rC (Calm.extract rfl rfl) ?_
  refine rC (Calm.assign rfl) ?_
  refine rC (Calm.assign rfl) ?_
  refine arun_nil ?_
  refine athen_n ?_
  refine AWP.sub [(0, _), (1, _), (4, _), (5, _)] ⟨rfl, rfl, rfl, rfl, trivial⟩ ?_
  refine AWP.ret ?_
  refine ⟨_, S, ⟨_, _, rfl, ⟨_, _, rfl, rfl, rfl⟩, rfl⟩, less_, ?_⟩
  exact ⟨rfl, rfl⟩
theorem disk_sectors (x : Ext) (S : Mem) (hx : x.2.size ≤ 9223372036854775807) : ACall Try.prog 60 #[.agg #[.string x.1, .string x.2]] S fun r S' => r = .int .i64 (sec x : Nat) ∧ S' = S := by
  refine ACall.enter (args := [.agg #[.string x.1, .string x.2]]) (rs := [.tmp 2]) 7 [(0, .agg #[.string x.1, .string x.2])] Try.func60 rfl rfl (Nat.le_of_ble_eq_true rfl) rfl ⟨rfl, trivial⟩ ?_
  refine AWP.seq ?_
  refine AWP.region ?_
  refine ARun.boxA (cs := [_, _]) (lit_lt rfl) rfl ?_
  intro b1 f1
  have g1 := f1
  repeat ((with_reducible replace g1 := fresh_set g1); obtain ⟨g1, _⟩ := g1)
  (try simp only [List.length_cons, List.length_nil, Nat.zero_add, Nat.reduceAdd])
  refine rC (Calm.assign rfl) ?_
  refine arun_nil ?_
  refine athen_n ?_
  refine AWP.seq ?_
  refine AWP.region ?_
  refine rC (Calm.fieldAddr ty_field_54_1 rfl) ?_
  refine rC (ld_ ty_plain_9 rfl) ?_
  refine rC (Calm.lenStr (strT_spec ty_str_9) rfl) ?_
  refine rC (Calm.bin rfl rfl b_quo_i64) ?_
  refine rC (Calm.assign rfl) ?_
  refine arun_nil ?_
  refine athen_n ?_
  refine AWP.sub [(0, _), (1, _), (2, _)] ⟨rfl, rfl, rfl, trivial⟩ ?_
  refine AWP.ret ?_
  refine ⟨_, S, ⟨_, _, rfl, rfl, rfl⟩, less_, ?_⟩
  exact ⟨val_int (by unfold sec; omega), rfl⟩
end Go.Proofs.Ytkeiphkccnfhoaa
