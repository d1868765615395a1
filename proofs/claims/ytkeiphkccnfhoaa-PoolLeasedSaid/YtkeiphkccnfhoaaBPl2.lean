/-
  Texts that belong together: DiskMath2, Disk3, Disk4, Disk5, Disk6, Disk7, Disk8, Shelf, Disk9, Disk10, Disk11, Disk14, Disk15, Disk16, Disk17, DiskMath3, Disk18.
-/
import Derived.Test.YtkeiphkccnfhoaaBPl1
import Derived.Shelf.Strings.Repeat
import Derived.Test.YtkeiphkccnfhoaaProg
namespace Go.Proofs.Ytkeiphkccnfhoaa
open Go.RowKit
set_option linter.unusedVariables false
set_option linter.unusedSimpArgs false
namespace Disk
theorem lt_empty {x : ByteArray} (h : x.size ≠ 0) : lt ByteArray.empty x = true := by
  unfold lt
  cases e : x.data.toList with
  | nil => have := Mv.size_data x; rw [e] at this; simp at this; omega
  | cons a l => rfl
theorem take_get {α : Type} {l : List α} {i : Nat} (h : i < l.length) : l.take (i + 1) = l.take i ++ [l[i]] := by
  rw [List.take_add_one, List.getElem?_eq_getElem h]; rfl
def lastN (l : List Ext) : Nat → ByteArray
  | 0 => ByteArray.empty
  | i + 1 => (l[i]?.map (·.1)).getD ByteArray.empty
theorem lastN_succ {l : List Ext} {i : Nat} (h : i < l.length) : lastN l (i + 1) = l[i].1 := by
  simp [lastN, List.getElem?_eq_getElem h]
/-- What is right so far. -/
structure Upto (l : List Ext) (size : Int) (i : Nat) : Prop where
  ok : ∀ x ∈ l.take i, eok x
  asc : Asc (l.take i)
  us : (used (l.take i) : Int) ≤ size
theorem upto_zero (l : List Ext) {size : Int} (h : 0 ≤ size) : Upto l size 0 := ⟨fun x h => by simp at h, by simp [Asc], by simpa [used] using h⟩
theorem upto_all {l : List Ext} {size : Int} (h : Upto l size l.length) : ERight l size := by
  obtain ⟨h1, h2, h3⟩ := h
  rw [List.take_length] at h1 h2 h3
  exact ⟨h1, h2, h3⟩
theorem upto_succ {l : List Ext} {size : Int} {i : Nat} (h : Upto l size i) (hi : i < l.length) (h1 : eok l[i]) (h2 : lt (lastN l i) l[i].1 = true) (h3 : (used (l.take i) : Int) + sec l[i] ≤ size) : Upto l size (i + 1) := by
  have e := take_get hi
  refine ⟨fun x hx => ?_, ?_, ?_⟩
  · rw [e, List.mem_append] at hx
    rcases hx with hx | hx
    · exact h.ok x hx
    · rw [List.mem_singleton.1 hx]; exact h1
  · rw [e]
    unfold Asc
    rw [List.pairwise_append]
    refine ⟨h.asc, by simp, fun a ha b hb => ?_⟩
    rw [List.mem_singleton.1 hb]
    obtain ⟨j, hj, rfl⟩ := List.getElem_of_mem ha
    have hj' : j < i := by simp at hj; omega
    cases i with
    | zero => omega
    | succ i =>
      rw [lastN_succ (by omega)] at h2
      by_cases hji : j = i
      · subst hji; simpa using h2
      · have := asc_get h.asc (i := j) (j := i) (by simp; omega) (by omega)
        simp only [List.getElem_take] at this ⊢
        exact lt_trans this h2
  · rw [e, used_append]; simp only [used]; omega
theorem right_at {l : List Ext} {size : Int} (h : ERight l size) {i : Nat} (hi : i < l.length) : eok l[i] ∧ lt (lastN l i) l[i].1 = true ∧ (used (l.take i) : Int) + sec l[i] ≤ size := by
  refine ⟨h.ok _ (List.getElem_mem hi), ?_, ?_⟩
  · cases i with
    | zero => exact lt_empty (h.ok _ (List.getElem_mem hi)).1.1
    | succ i => rw [lastN_succ (by omega)]; exact asc_get h.asc hi (by omega)
  · have h1 := h.us
    have e : l = l.take (i + 1) ++ l.drop (i + 1) := (List.take_append_drop _ _).symm
    rw [e, used_append, take_get hi, used_append] at h1
    simp only [used] at h1; omega
end Disk
end Go.Proofs.Ytkeiphkccnfhoaa
namespace Go.Proofs.Ytkeiphkccnfhoaa
open Go.RowKit
open Mv Disk
set_option linter.unusedVariables false
set_option linter.unusedSimpArgs false
set_option maxRecDepth 4000
theorem sl_str1 {S : Mem} {b : Nat} {e : TypeId} {s : ByteArray} (h : S.own b = some ⟨e, [.string s], 1⟩) : Sl 1 strs S (.slice (some ⟨b, 0, none⟩) 1 1) [s] :=
  Sl.own1 (g := fun s : ByteArray => .string s) h List.prefix_rfl rfl (by decide) (by decide)
theorem leq_no {a b : ByteArray} (h : lt a b = true) : (Op.bytesLess b.data.toList a.data.toList || decide (b = a)) = false := by
  rw [lt_def, lt_asymm h, decide_eq_false (Ne.symm (lt_ne h))]; rfl
theorem leq_yes {a b : ByteArray} (h : lt a b = false) : (Op.bytesLess b.data.toList a.data.toList || decide (b = a)) = true := by
  rw [lt_def]
  by_cases e : b = a
  · rw [decide_eq_true e, Bool.or_true]
  · rw [lt_tri (Ne.symm e) h]; rfl
theorem one_all {p : ByteArray → Prop} {s : ByteArray} : (∀ x ∈ [s], p x) ↔ p s := by simp
set_option maxHeartbeats 1000000 in
theorem disk_extents (v : Value) (l : List Ext) (size : Int) (S : Mem) (hl : Sl 2 extF S v l) (h0 : 0 ≤ size) (h1 : size ≤ 16384) (hz : ∀ x ∈ l, x.2.size ≤ 140737488351232) :
    ACall Try.prog 61 #[v, .int .i64 size] S fun r S' => (∃ t : Bool, r = .bool t ∧ (t = true ↔ ERight l size)) ∧ S' = S := by
  obtain ⟨a, cap, rfl, hl1, hl2, hl3⟩ := id hl
  refine ACall.enter (args := [.slice a l.length cap, .int .i64 size]) (rs := [.tmp 4]) 46 [(0, .slice a l.length cap), (1, .int .i64 size)] Try.func61 rfl rfl (Nat.le_of_ble_eq_true rfl) rfl ⟨rfl, rfl, trivial⟩ ?_
  refine AWP.seq ?_
  refine AWP.region ?_
  refine rC (Calm.assign rfl) ?_
  refine arun_nil ?_
  refine athen_n ?_
  refine AWP.seq ?_
  refine AWP.region ?_
  refine rC (Calm.assign rfl) ?_
  refine arun_nil ?_
  refine athen_n ?_
  refine AWP.seq ?_
  refine AWP.seq ?_
  refine AWP.region ?_
  refine rC (Calm.move rfl) ?_
  refine rC (Calm.lenSl Try.underlying22 rfl) ?_
  refine rC (Calm.move rfl) ?_
  refine arun_nil ?_
  refine athen_n ?_
  refine AWP.block ?_
  refine AWP.loop (X := Nat) (fun x => [(1, .int .i64 (size - used (l.take x))), (5, .string (lastN l x)), (8, .slice a l.length cap), (9, .int .i64 l.length), (10, .int .i64 x)]) (fun x => S) (fun x => x ≤ l.length ∧ Upto l size x) (fun x => l.length - x) (0) ⟨some_int (by simp [used]), rfl, rfl, rfl, rfl, trivial⟩ (Mem.Less.refl _) (⟨Nat.zero_le _, upto_zero l h0⟩) ?_
  rintro i ⟨hi, hup⟩
  (try dsimp only at *)
  refine AWP.seq ?_
  refine AWP.region ?_
  refine rC (Calm.bin rfl rfl b_lss) ?_
  refine arun_nil ?_
  refine athen_n ?_
  refine AWP.seq ?_
  refine AWP.condB rfl (fun hc => ?_) (fun hc => ?_)
  · have hc : i < l.length := by have := of_decide_eq_true hc; omega
    obtain ⟨b, off, rfl, hk⟩ := hl3.resolve_left (fun e => by subst e; simp at hc)
    have hki := hk i hc
    have hzi := hz _ (List.getElem_mem hc)
    have hus := hup.us
    have hra := fun h : ERight l size => right_at h hc
    have hut : used (l.take (i + 1)) = used (l.take i) + sec l[i] := by rw [take_get hc, used_append]; simp [used]
    have hln := lastN_succ hc
    have hsu := upto_succ hup hc
    generalize hx : l[i] = x at *
    unfold extF at hki
    have hsx : sec x ≤ 140737488351232 := by unfold sec; omega
    by_cases q1 : nm x.1
    · by_cases q2 : lt (lastN l i) x.1 = true
      · have q2' := leq_no q2
        by_cases q3 : x.2.size = 0
        · refine AWP.skip ?_
          refine athen_n ?_
          refine AWP.seq ?_
          refine AWP.block ?_
          refine AWP.seq ?_
          refine AWP.region ?_
          refine rC (Calm.indexS Try.underlying22 ty_size_54 rfl rfl (by omega) (by omega)) ?_
          refine rC (ldA_ (cs := [_, _]) ty_agg_54 ty_size_54 rfl) ?_
          refine ARun.alloc (lit_lt rfl) ty_zero_54 ?_
          intro b7 f7
          have g7 := f7
          repeat ((with_reducible replace g7 := fresh_set g7); obtain ⟨g7, _⟩ := g7)
          (try simp only [List.length_cons, List.length_nil, Nat.zero_add, Nat.reduceAdd])
          first | refine ARun.storeAll rfl rfl ty_size_54 own_ rfl rfl ?_ | refine ARun.store rfl rfl ty_size_54 own_ lens_ rfl ?_
          (try simp only [Mem.set_set, List.set_cons_zero, List.set_cons_succ, Nat.zero_add, Nat.reduceAdd])
          refine arun_nil ?_
          refine athen_n ?_
          refine AWP.sub [(1, _), (5, _), (8, _), (9, _), (10, _), (11, _), (7, _)] ⟨rfl, rfl, rfl, rfl, rfl, rfl, rfl, trivial⟩ ?_
          refine AWP.seq ?_
          refine AWP.seq ?_
          refine AWP.region ?_
          refine rC (Calm.fieldAddr ty_field_54_0 rfl) ?_
          refine rC (ld_ ty_plain_9 rfl) ?_
          refine ARun.build1s (lit_lt rfl) ty_sl_26 rfl rfl ?_
          intro b16 f16
          have g16 := f16
          repeat ((with_reducible replace g16 := fresh_set g16); obtain ⟨g16, _⟩ := g16)
          refine ARun.call (lit_lt rfl) go_83 rfl (disk_named _ [x.1] _ (sl_str1 own_)) ?_
          rintro _ S1 ⟨⟨t, rfl, ht⟩, h1⟩
          rw [h1]; clear h1 S1
          obtain rfl : t = true := ht.2 (one_all.2 q1)
          refine rC (Calm.un rfl (una_not _)) ?_
          refine rC (Calm.move rfl) ?_
          first | refine rS 19 ?_ | refine rU 19 ?_ | refine rG 19 (Calm.fieldAddr ty_field_54_0 rfl) ?_
          first | refine rS 19 ?_ | refine rU 19 ?_ | refine rG 19 (ld_ ty_plain_9 rfl) ?_
          first | refine rS 19 ?_ | refine rU 19 ?_ | refine rG 19 (Calm.move rfl) ?_
          first | refine rS 19 ?_ | refine rU 19 ?_ | refine rG 19 (Calm.bin rfl rfl (bin_bool (bin_str_leq _ _) q2')) ?_
          refine rC ((by first | exact Calm.pickT rfl rfl | exact Calm.pickF rfl rfl)) ?_
          refine rC (Calm.move rfl) ?_
          first | refine rS 25 ?_ | refine rU 25 ?_ | refine rG 25 (Calm.fieldAddr ty_field_54_1 rfl) ?_
          first | refine rS 25 ?_ | refine rU 25 ?_ | refine rG 25 (ld_ ty_plain_9 rfl) ?_
          first | refine rS 25 ?_ | refine rU 25 ?_ | refine rG 25 (Calm.bin rfl rfl (bin_bool (bin_str_eql _ _) (decide_eq_true ((size0 _).2 q3)))) ?_
          refine rC ((by first | exact Calm.pickT rfl rfl | exact Calm.pickF rfl rfl)) ?_
          refine rC (Calm.move rfl) ?_
          first | refine rS 30 ?_ | refine rU 30 ?_ | refine rG 30 (Calm.fieldAddr ty_field_54_1 rfl) ?_
          first | refine rS 30 ?_ | refine rU 30 ?_ | refine rG 30 (ld_ ty_plain_9 rfl) ?_
          first | refine rS 30 ?_ | refine rU 30 ?_ | refine rG 30 (Calm.lenStr (strT_spec ty_str_9) rfl) ?_
          first | refine rS 30 ?_ | refine rU 30 ?_ | refine rG 30 (Calm.bin rfl rfl b_rem) ?_
          first | refine rS 30 ?_ | refine rU 30 ?_ | refine rG 30 (Calm.bin rfl rfl b_neq) ?_
          refine rC ((by first | exact Calm.pickT rfl rfl | exact Calm.pickF rfl rfl)) ?_
          refine arun_nil ?_
          refine athen_n ?_
          refine AWP.sub [(1, _), (5, _), (8, _), (9, _), (10, _), (11, _), (7, _), (36, _)] ⟨rfl, rfl, rfl, rfl, rfl, rfl, rfl, rfl, trivial⟩ ?_
          refine AWP.condT rfl (by first | rfl | (simp; done) | (simp; omega)) ?_
          refine AWP.seq ?_
          refine AWP.region ?_
          refine rC (Calm.assign rfl) ?_
          refine arun_nil ?_
          refine athen_n ?_
          refine AWP.ret ?_
          refine athen_ret ?_
          refine ain_ret ?_
          refine athen_ret ?_
          refine athen_ret ?_
          refine ain_ret ?_
          refine athen_ret ?_
          refine ⟨_, S, ⟨_, _, rfl, rfl, rfl⟩, less_, ?_⟩
          exact ⟨⟨false, rfl, by simp; exact fun h => (hra h).1.2.1 q3⟩, rfl⟩
        · by_cases q4 : x.2.size % 64 = 0
          · refine AWP.skip ?_
            refine athen_n ?_
            refine AWP.seq ?_
            refine AWP.block ?_
            refine AWP.seq ?_
            refine AWP.region ?_
            refine rC (Calm.indexS Try.underlying22 ty_size_54 rfl rfl (by omega) (by omega)) ?_
            refine rC (ldA_ (cs := [_, _]) ty_agg_54 ty_size_54 rfl) ?_
            refine ARun.alloc (lit_lt rfl) ty_zero_54 ?_
            intro b7 f7
            have g7 := f7
            repeat ((with_reducible replace g7 := fresh_set g7); obtain ⟨g7, _⟩ := g7)
            (try simp only [List.length_cons, List.length_nil, Nat.zero_add, Nat.reduceAdd])
            first | refine ARun.storeAll rfl rfl ty_size_54 own_ rfl rfl ?_ | refine ARun.store rfl rfl ty_size_54 own_ lens_ rfl ?_
            (try simp only [Mem.set_set, List.set_cons_zero, List.set_cons_succ, Nat.zero_add, Nat.reduceAdd])
            refine arun_nil ?_
            refine athen_n ?_
            refine AWP.sub [(1, _), (5, _), (8, _), (9, _), (10, _), (11, _), (7, _)] ⟨rfl, rfl, rfl, rfl, rfl, rfl, rfl, trivial⟩ ?_
            refine AWP.seq ?_
            refine AWP.seq ?_
            refine AWP.region ?_
            refine rC (Calm.fieldAddr ty_field_54_0 rfl) ?_
            refine rC (ld_ ty_plain_9 rfl) ?_
            refine ARun.build1s (lit_lt rfl) ty_sl_26 rfl rfl ?_
            intro b16 f16
            have g16 := f16
            repeat ((with_reducible replace g16 := fresh_set g16); obtain ⟨g16, _⟩ := g16)
            refine ARun.call (lit_lt rfl) go_83 rfl (disk_named _ [x.1] _ (sl_str1 own_)) ?_
            rintro _ S1 ⟨⟨t, rfl, ht⟩, h1⟩
            rw [h1]; clear h1 S1
            obtain rfl : t = true := ht.2 (one_all.2 q1)
            refine rC (Calm.un rfl (una_not _)) ?_
            refine rC (Calm.move rfl) ?_
            first | refine rS 19 ?_ | refine rU 19 ?_ | refine rG 19 (Calm.fieldAddr ty_field_54_0 rfl) ?_
            first | refine rS 19 ?_ | refine rU 19 ?_ | refine rG 19 (ld_ ty_plain_9 rfl) ?_
            first | refine rS 19 ?_ | refine rU 19 ?_ | refine rG 19 (Calm.move rfl) ?_
            first | refine rS 19 ?_ | refine rU 19 ?_ | refine rG 19 (Calm.bin rfl rfl (bin_bool (bin_str_leq _ _) q2')) ?_
            refine rC ((by first | exact Calm.pickT rfl rfl | exact Calm.pickF rfl rfl)) ?_
            refine rC (Calm.move rfl) ?_
            first | refine rS 25 ?_ | refine rU 25 ?_ | refine rG 25 (Calm.fieldAddr ty_field_54_1 rfl) ?_
            first | refine rS 25 ?_ | refine rU 25 ?_ | refine rG 25 (ld_ ty_plain_9 rfl) ?_
            first | refine rS 25 ?_ | refine rU 25 ?_ | refine rG 25 (Calm.bin rfl rfl (bin_bool (bin_str_eql _ _) (decide_eq_false (fun e => q3 ((size0 _).1 e))))) ?_
            refine rC ((by first | exact Calm.pickT rfl rfl | exact Calm.pickF rfl rfl)) ?_
            refine rC (Calm.move rfl) ?_
            first | refine rS 30 ?_ | refine rU 30 ?_ | refine rG 30 (Calm.fieldAddr ty_field_54_1 rfl) ?_
            first | refine rS 30 ?_ | refine rU 30 ?_ | refine rG 30 (ld_ ty_plain_9 rfl) ?_
            first | refine rS 30 ?_ | refine rU 30 ?_ | refine rG 30 (Calm.lenStr (strT_spec ty_str_9) rfl) ?_
            first | refine rS 30 ?_ | refine rU 30 ?_ | refine rG 30 (Calm.bin rfl rfl b_rem) ?_
            first | refine rS 30 ?_ | refine rU 30 ?_ | refine rG 30 (Calm.bin rfl rfl b_neq) ?_
            refine rC ((by first | exact Calm.pickT rfl rfl | exact Calm.pickF rfl rfl)) ?_
            refine arun_nil ?_
            refine athen_n ?_
            refine AWP.sub [(1, _), (5, _), (8, _), (9, _), (10, _), (11, _), (7, _), (36, _)] ⟨rfl, rfl, rfl, rfl, rfl, rfl, rfl, rfl, trivial⟩ ?_
            refine AWP.condF rfl (by first | rfl | (simp; done) | (simp; omega)) ?_
            refine AWP.skip ?_
            refine athen_n ?_
            refine AWP.seq ?_
            refine AWP.seq ?_
            refine AWP.region ?_
            refine rC (Calm.move rfl) ?_
            refine rC (ldA_ (cs := [_, _]) ty_agg_54 ty_size_54 rfl) ?_
            refine ARun.call (lit_lt rfl) go_60 rfl (disk_sectors x _ (by omega)) ?_
            rintro _ S1 ⟨rfl, h1⟩
            rw [h1]; clear h1 S1
            refine rC (Calm.bin rfl rfl b_sub_i64) ?_
            refine rC (Calm.assign rfl) ?_
            refine arun_nil ?_
            refine athen_n ?_
            refine AWP.sub [(1, _), (5, _), (8, _), (9, _), (10, _), (11, _), (7, _), (36, _)] ⟨rfl, rfl, rfl, rfl, rfl, rfl, rfl, rfl, trivial⟩ ?_
            refine AWP.seq ?_
            refine AWP.region ?_
            refine rC (Calm.move rfl) ?_
            refine rC (Calm.bin rfl rfl b_lss) ?_
            refine arun_nil ?_
            refine athen_n ?_
            refine AWP.sub [(1, _), (5, _), (8, _), (9, _), (10, _), (11, _), (7, _), (36, _), (42, _)] ⟨rfl, rfl, rfl, rfl, rfl, rfl, rfl, rfl, rfl, trivial⟩ ?_
            refine AWP.condB rfl (fun q5 => ?_) (fun q5 => ?_)
            · refine AWP.seq ?_
              refine AWP.region ?_
              refine rC (Calm.assign rfl) ?_
              refine arun_nil ?_
              refine athen_n ?_
              refine AWP.ret ?_
              refine athen_ret ?_
              refine ain_ret ?_
              refine athen_ret ?_
              refine athen_ret ?_
              refine ain_ret ?_
              refine athen_ret ?_
              refine ⟨_, S, ⟨_, _, rfl, rfl, rfl⟩, less_, ?_⟩
              exact ⟨⟨false, rfl, by simp; exact fun h => absurd (hra h).2.2 (by have := of_decide_eq_true q5; omega)⟩, rfl⟩
            · have q5 := of_decide_eq_false q5
              refine AWP.skip ?_
              refine athen_n ?_
              refine AWP.region ?_
              refine rC (Calm.fieldAddr ty_field_54_0 rfl) ?_
              refine rC (ld_ ty_plain_9 rfl) ?_
              refine rC (Calm.assign rfl) ?_
              refine arun_nil ?_
              refine ain_n ?_
              refine athen_n ?_
              refine AWP.sub [(1, _), (5, _), (8, _), (9, _), (10, _), (11, _), (7, _), (36, _), (42, _)] ⟨rfl, rfl, rfl, rfl, rfl, rfl, rfl, rfl, rfl, trivial⟩ ?_
              refine AWP.region ?_
              refine rC (Calm.bin rfl rfl b_add_i64) ?_
              refine rC (Calm.move rfl) ?_
              refine arun_nil ?_
              refine athen_n ?_
              refine ⟨i + 1, ?_, ?_, ?_, ?_⟩
              all_goals (try dsimp only)
              · exact ⟨some_int (by rw [hut]; omega), some_str hln.symm, rfl, rfl, rfl, trivial⟩
              · exact less_
              · exact ⟨hc, hsu ⟨q1, q3, q4⟩ q2 (by omega)⟩
              · omega
          · refine AWP.skip ?_
            refine athen_n ?_
            refine AWP.seq ?_
            refine AWP.block ?_
            refine AWP.seq ?_
            refine AWP.region ?_
            refine rC (Calm.indexS Try.underlying22 ty_size_54 rfl rfl (by omega) (by omega)) ?_
            refine rC (ldA_ (cs := [_, _]) ty_agg_54 ty_size_54 rfl) ?_
            refine ARun.alloc (lit_lt rfl) ty_zero_54 ?_
            intro b7 f7
            have g7 := f7
            repeat ((with_reducible replace g7 := fresh_set g7); obtain ⟨g7, _⟩ := g7)
            (try simp only [List.length_cons, List.length_nil, Nat.zero_add, Nat.reduceAdd])
            first | refine ARun.storeAll rfl rfl ty_size_54 own_ rfl rfl ?_ | refine ARun.store rfl rfl ty_size_54 own_ lens_ rfl ?_
            (try simp only [Mem.set_set, List.set_cons_zero, List.set_cons_succ, Nat.zero_add, Nat.reduceAdd])
            refine arun_nil ?_
            refine athen_n ?_
            refine AWP.sub [(1, _), (5, _), (8, _), (9, _), (10, _), (11, _), (7, _)] ⟨rfl, rfl, rfl, rfl, rfl, rfl, rfl, trivial⟩ ?_
            refine AWP.seq ?_
            refine AWP.seq ?_
            refine AWP.region ?_
            refine rC (Calm.fieldAddr ty_field_54_0 rfl) ?_
            refine rC (ld_ ty_plain_9 rfl) ?_
            refine ARun.build1s (lit_lt rfl) ty_sl_26 rfl rfl ?_
            intro b16 f16
            have g16 := f16
            repeat ((with_reducible replace g16 := fresh_set g16); obtain ⟨g16, _⟩ := g16)
            refine ARun.call (lit_lt rfl) go_83 rfl (disk_named _ [x.1] _ (sl_str1 own_)) ?_
            rintro _ S1 ⟨⟨t, rfl, ht⟩, h1⟩
            rw [h1]; clear h1 S1
            obtain rfl : t = true := ht.2 (one_all.2 q1)
            refine rC (Calm.un rfl (una_not _)) ?_
            refine rC (Calm.move rfl) ?_
            first | refine rS 19 ?_ | refine rU 19 ?_ | refine rG 19 (Calm.fieldAddr ty_field_54_0 rfl) ?_
            first | refine rS 19 ?_ | refine rU 19 ?_ | refine rG 19 (ld_ ty_plain_9 rfl) ?_
            first | refine rS 19 ?_ | refine rU 19 ?_ | refine rG 19 (Calm.move rfl) ?_
            first | refine rS 19 ?_ | refine rU 19 ?_ | refine rG 19 (Calm.bin rfl rfl (bin_bool (bin_str_leq _ _) q2')) ?_
            refine rC ((by first | exact Calm.pickT rfl rfl | exact Calm.pickF rfl rfl)) ?_
            refine rC (Calm.move rfl) ?_
            first | refine rS 25 ?_ | refine rU 25 ?_ | refine rG 25 (Calm.fieldAddr ty_field_54_1 rfl) ?_
            first | refine rS 25 ?_ | refine rU 25 ?_ | refine rG 25 (ld_ ty_plain_9 rfl) ?_
            first | refine rS 25 ?_ | refine rU 25 ?_ | refine rG 25 (Calm.bin rfl rfl (bin_bool (bin_str_eql _ _) (decide_eq_false (fun e => q3 ((size0 _).1 e))))) ?_
            refine rC ((by first | exact Calm.pickT rfl rfl | exact Calm.pickF rfl rfl)) ?_
            refine rC (Calm.move rfl) ?_
            first | refine rS 30 ?_ | refine rU 30 ?_ | refine rG 30 (Calm.fieldAddr ty_field_54_1 rfl) ?_
            first | refine rS 30 ?_ | refine rU 30 ?_ | refine rG 30 (ld_ ty_plain_9 rfl) ?_
            first | refine rS 30 ?_ | refine rU 30 ?_ | refine rG 30 (Calm.lenStr (strT_spec ty_str_9) rfl) ?_
            first | refine rS 30 ?_ | refine rU 30 ?_ | refine rG 30 (Calm.bin rfl rfl b_rem) ?_
            first | refine rS 30 ?_ | refine rU 30 ?_ | refine rG 30 (Calm.bin rfl rfl b_neq) ?_
            refine rC ((by first | exact Calm.pickT rfl rfl | exact Calm.pickF rfl rfl)) ?_
            refine arun_nil ?_
            refine athen_n ?_
            refine AWP.sub [(1, _), (5, _), (8, _), (9, _), (10, _), (11, _), (7, _), (36, _)] ⟨rfl, rfl, rfl, rfl, rfl, rfl, rfl, rfl, trivial⟩ ?_
            refine AWP.condT rfl (by first | rfl | (simp; done) | (simp; omega)) ?_
            refine AWP.seq ?_
            refine AWP.region ?_
            refine rC (Calm.assign rfl) ?_
            refine arun_nil ?_
            refine athen_n ?_
            refine AWP.ret ?_
            refine athen_ret ?_
            refine ain_ret ?_
            refine athen_ret ?_
            refine athen_ret ?_
            refine ain_ret ?_
            refine athen_ret ?_
            refine ⟨_, S, ⟨_, _, rfl, rfl, rfl⟩, less_, ?_⟩
            exact ⟨⟨false, rfl, by simp; exact fun h => q4 (hra h).1.2.2⟩, rfl⟩
      · have q2' := leq_yes (Bool.eq_false_iff.2 q2)
        refine AWP.skip ?_
        refine athen_n ?_
        refine AWP.seq ?_
        refine AWP.block ?_
        refine AWP.seq ?_
        refine AWP.region ?_
        refine rC (Calm.indexS Try.underlying22 ty_size_54 rfl rfl (by omega) (by omega)) ?_
        refine rC (ldA_ (cs := [_, _]) ty_agg_54 ty_size_54 rfl) ?_
        refine ARun.alloc (lit_lt rfl) ty_zero_54 ?_
        intro b7 f7
        have g7 := f7
        repeat ((with_reducible replace g7 := fresh_set g7); obtain ⟨g7, _⟩ := g7)
        (try simp only [List.length_cons, List.length_nil, Nat.zero_add, Nat.reduceAdd])
        first | refine ARun.storeAll rfl rfl ty_size_54 own_ rfl rfl ?_ | refine ARun.store rfl rfl ty_size_54 own_ lens_ rfl ?_
        (try simp only [Mem.set_set, List.set_cons_zero, List.set_cons_succ, Nat.zero_add, Nat.reduceAdd])
        refine arun_nil ?_
        refine athen_n ?_
        refine AWP.sub [(1, _), (5, _), (8, _), (9, _), (10, _), (11, _), (7, _)] ⟨rfl, rfl, rfl, rfl, rfl, rfl, rfl, trivial⟩ ?_
        refine AWP.seq ?_
        refine AWP.seq ?_
        refine AWP.region ?_
        refine rC (Calm.fieldAddr ty_field_54_0 rfl) ?_
        refine rC (ld_ ty_plain_9 rfl) ?_
        refine ARun.build1s (lit_lt rfl) ty_sl_26 rfl rfl ?_
        intro b16 f16
        have g16 := f16
        repeat ((with_reducible replace g16 := fresh_set g16); obtain ⟨g16, _⟩ := g16)
        refine ARun.call (lit_lt rfl) go_83 rfl (disk_named _ [x.1] _ (sl_str1 own_)) ?_
        rintro _ S1 ⟨⟨t, rfl, ht⟩, h1⟩
        rw [h1]; clear h1 S1
        obtain rfl : t = true := ht.2 (one_all.2 q1)
        refine rC (Calm.un rfl (una_not _)) ?_
        refine rC (Calm.move rfl) ?_
        first | refine rS 19 ?_ | refine rU 19 ?_ | refine rG 19 (Calm.fieldAddr ty_field_54_0 rfl) ?_
        first | refine rS 19 ?_ | refine rU 19 ?_ | refine rG 19 (ld_ ty_plain_9 rfl) ?_
        first | refine rS 19 ?_ | refine rU 19 ?_ | refine rG 19 (Calm.move rfl) ?_
        first | refine rS 19 ?_ | refine rU 19 ?_ | refine rG 19 (Calm.bin rfl rfl (bin_bool (bin_str_leq _ _) q2')) ?_
        refine rC ((by first | exact Calm.pickT rfl rfl | exact Calm.pickF rfl rfl)) ?_
        refine rC (Calm.move rfl) ?_
        first | refine rS 25 ?_ | refine rU 25 ?_ | refine rG 25 (Calm.fieldAddr ty_field_54_1 rfl) ?_
        first | refine rS 25 ?_ | refine rU 25 ?_ | refine rG 25 (ld_ ty_plain_9 rfl) ?_
        first | refine rS 25 ?_ | refine rU 25 ?_ | refine rG 25 (Calm.bin rfl rfl (bin_str_eql _ _)) ?_
        refine rC ((by first | exact Calm.pickT rfl rfl | exact Calm.pickF rfl rfl)) ?_
        refine rC (Calm.move rfl) ?_
        first | refine rS 30 ?_ | refine rU 30 ?_ | refine rG 30 (Calm.fieldAddr ty_field_54_1 rfl) ?_
        first | refine rS 30 ?_ | refine rU 30 ?_ | refine rG 30 (ld_ ty_plain_9 rfl) ?_
        first | refine rS 30 ?_ | refine rU 30 ?_ | refine rG 30 (Calm.lenStr (strT_spec ty_str_9) rfl) ?_
        first | refine rS 30 ?_ | refine rU 30 ?_ | refine rG 30 (Calm.bin rfl rfl b_rem) ?_
        first | refine rS 30 ?_ | refine rU 30 ?_ | refine rG 30 (Calm.bin rfl rfl b_neq) ?_
        refine rC ((by first | exact Calm.pickT rfl rfl | exact Calm.pickF rfl rfl)) ?_
        refine arun_nil ?_
        refine athen_n ?_
        refine AWP.sub [(1, _), (5, _), (8, _), (9, _), (10, _), (11, _), (7, _), (36, _)] ⟨rfl, rfl, rfl, rfl, rfl, rfl, rfl, rfl, trivial⟩ ?_
        refine AWP.condT rfl (by first | rfl | (simp; done) | (simp; omega)) ?_
        refine AWP.seq ?_
        refine AWP.region ?_
        refine rC (Calm.assign rfl) ?_
        refine arun_nil ?_
        refine athen_n ?_
        refine AWP.ret ?_
        refine athen_ret ?_
        refine ain_ret ?_
        refine athen_ret ?_
        refine athen_ret ?_
        refine ain_ret ?_
        refine athen_ret ?_
        refine ⟨_, S, ⟨_, _, rfl, rfl, rfl⟩, less_, ?_⟩
        exact ⟨⟨false, rfl, by simp; exact fun h => q2 (hra h).2.1⟩, rfl⟩
    · refine AWP.skip ?_
      refine athen_n ?_
      refine AWP.seq ?_
      refine AWP.block ?_
      refine AWP.seq ?_
      refine AWP.region ?_
      refine rC (Calm.indexS Try.underlying22 ty_size_54 rfl rfl (by omega) (by omega)) ?_
      refine rC (ldA_ (cs := [_, _]) ty_agg_54 ty_size_54 rfl) ?_
      refine ARun.alloc (lit_lt rfl) ty_zero_54 ?_
      intro b7 f7
      have g7 := f7
      repeat ((with_reducible replace g7 := fresh_set g7); obtain ⟨g7, _⟩ := g7)
      (try simp only [List.length_cons, List.length_nil, Nat.zero_add, Nat.reduceAdd])
      first | refine ARun.storeAll rfl rfl ty_size_54 own_ rfl rfl ?_ | refine ARun.store rfl rfl ty_size_54 own_ lens_ rfl ?_
      (try simp only [Mem.set_set, List.set_cons_zero, List.set_cons_succ, Nat.zero_add, Nat.reduceAdd])
      refine arun_nil ?_
      refine athen_n ?_
      refine AWP.sub [(1, _), (5, _), (8, _), (9, _), (10, _), (11, _), (7, _)] ⟨rfl, rfl, rfl, rfl, rfl, rfl, rfl, trivial⟩ ?_
      refine AWP.seq ?_
      refine AWP.seq ?_
      refine AWP.region ?_
      refine rC (Calm.fieldAddr ty_field_54_0 rfl) ?_
      refine rC (ld_ ty_plain_9 rfl) ?_
      refine ARun.build1s (lit_lt rfl) ty_sl_26 rfl rfl ?_
      intro b16 f16
      have g16 := f16
      repeat ((with_reducible replace g16 := fresh_set g16); obtain ⟨g16, _⟩ := g16)
      refine ARun.call (lit_lt rfl) go_83 rfl (disk_named _ [x.1] _ (sl_str1 own_)) ?_
      rintro _ S1 ⟨⟨t, rfl, ht⟩, h1⟩
      rw [h1]; clear h1 S1
      obtain rfl : t = false := Bool.eq_false_iff.2 (fun e => q1 (one_all.1 (ht.1 e)))
      refine rC (Calm.un rfl (una_not _)) ?_
      refine rC (Calm.move rfl) ?_
      first | refine rS 19 ?_ | refine rU 19 ?_ | refine rG 19 (Calm.fieldAddr ty_field_54_0 rfl) ?_
      first | refine rS 19 ?_ | refine rU 19 ?_ | refine rG 19 (ld_ ty_plain_9 rfl) ?_
      first | refine rS 19 ?_ | refine rU 19 ?_ | refine rG 19 (Calm.move rfl) ?_
      first | refine rS 19 ?_ | refine rU 19 ?_ | refine rG 19 (Calm.bin rfl rfl (bin_str_leq _ _)) ?_
      refine rC ((by first | exact Calm.pickT rfl rfl | exact Calm.pickF rfl rfl)) ?_
      refine rC (Calm.move rfl) ?_
      first | refine rS 25 ?_ | refine rU 25 ?_ | refine rG 25 (Calm.fieldAddr ty_field_54_1 rfl) ?_
      first | refine rS 25 ?_ | refine rU 25 ?_ | refine rG 25 (ld_ ty_plain_9 rfl) ?_
      first | refine rS 25 ?_ | refine rU 25 ?_ | refine rG 25 (Calm.bin rfl rfl (bin_str_eql _ _)) ?_
      refine rC ((by first | exact Calm.pickT rfl rfl | exact Calm.pickF rfl rfl)) ?_
      refine rC (Calm.move rfl) ?_
      first | refine rS 30 ?_ | refine rU 30 ?_ | refine rG 30 (Calm.fieldAddr ty_field_54_1 rfl) ?_
      first | refine rS 30 ?_ | refine rU 30 ?_ | refine rG 30 (ld_ ty_plain_9 rfl) ?_
      first | refine rS 30 ?_ | refine rU 30 ?_ | refine rG 30 (Calm.lenStr (strT_spec ty_str_9) rfl) ?_
      first | refine rS 30 ?_ | refine rU 30 ?_ | refine rG 30 (Calm.bin rfl rfl b_rem) ?_
      first | refine rS 30 ?_ | refine rU 30 ?_ | refine rG 30 (Calm.bin rfl rfl b_neq) ?_
      refine rC ((by first | exact Calm.pickT rfl rfl | exact Calm.pickF rfl rfl)) ?_
      refine arun_nil ?_
      refine athen_n ?_
      refine AWP.sub [(1, _), (5, _), (8, _), (9, _), (10, _), (11, _), (7, _), (36, _)] ⟨rfl, rfl, rfl, rfl, rfl, rfl, rfl, rfl, trivial⟩ ?_
      refine AWP.condT rfl (by first | rfl | (simp; done) | (simp; omega)) ?_
      refine AWP.seq ?_
      refine AWP.region ?_
      refine rC (Calm.assign rfl) ?_
      refine arun_nil ?_
      refine athen_n ?_
      refine AWP.ret ?_
      refine athen_ret ?_
      refine ain_ret ?_
      refine athen_ret ?_
      refine athen_ret ?_
      refine ain_ret ?_
      refine athen_ret ?_
      refine ⟨_, S, ⟨_, _, rfl, rfl, rfl⟩, less_, ?_⟩
      exact ⟨⟨false, rfl, by simp; exact fun h => q1 (hra h).1.1⟩, rfl⟩
  · have hc : i = l.length := by have := of_decide_eq_false hc; omega
    subst hc
    refine AWP.exit ?_
    refine athen_exit ?_
    refine athen_exit ?_
    refine ain_same ?_
    refine athen_n ?_
    refine AWP.seq ?_
    refine AWP.region ?_
    refine rC (Calm.assign rfl) ?_
    refine arun_nil ?_
    refine athen_n ?_
    refine AWP.ret ?_
    refine ⟨_, S, ⟨_, _, rfl, rfl, rfl⟩, less_, ?_⟩
    exact ⟨⟨true, rfl, by simp; exact upto_all hup⟩, rfl⟩
end Go.Proofs.Ytkeiphkccnfhoaa
namespace Go.Proofs.Ytkeiphkccnfhoaa
open Go.RowKit
open Mv Disk
set_option linter.unusedVariables false
set_option linter.unusedSimpArgs false
set_option maxRecDepth 4000
theorem wok_pos {l : List Ext} (ha : Asc l) {w : Wr} {p : Nat} (hp : p < l.length) (e : l[p].1 = w.1) : wok l w ↔ 0 ≤ w.2.1 ∧ w.2.1 < sec l[p] ∧ w.2.2.size = 64 := by
  constructor
  · rintro ⟨x, hx, e2, h⟩
    have : x = l[p] := asc_inj ha hx (List.getElem_mem hp) (e2.trans e.symm)
    subst this; exact h
  · intro h
    exact ⟨l[p], List.getElem_mem hp, e, h⟩
theorem wok_has {l : List Ext} {w : Wr} (h : wok l w) : has l w.1 = true := by
  obtain ⟨x, hx, e, _⟩ := h
  exact has_iff.2 ⟨x, hx, e⟩
/-- A disk over memory. -/
def DkR (S : Mem) (v : Value) (d : D) : Prop := ∃ pe ce pw cw, v = .agg #[.int .i64 d.size, .slice pe d.ext.length ce, .slice pw d.waits.length cw, .int .i64 d.fuse, .bool d.down] ∧ Sl 2 extF S (.slice pe d.ext.length ce) d.ext ∧ Sl 3 wrF S (.slice pw d.waits.length cw) d.waits
theorem DkR.less {S S' : Mem} {v : Value} {d : D} (h : DkR S v d) (hl : S.Less S') : DkR S' v d := by
  obtain ⟨pe, ce, pw, cw, e, h1, h2⟩ := h
  exact ⟨pe, ce, pw, cw, e, h1.less hl, h2.less hl⟩
/-- Bounds of what comes in. -/
structure Dz (d : D) : Prop where
  s0 : -9223372036854775808 ≤ d.size
  s1 : d.size ≤ 9223372036854775807
  f0 : -9223372036854775808 ≤ d.fuse
  f1 : d.fuse ≤ 9223372036854775807
  el : d.ext.length ≤ 4398046511104
  wl : d.waits.length ≤ 3518437208883
  ez : ∀ x ∈ d.ext, x.1.size ≤ 140737488351232 ∧ x.2.size ≤ 140737488351232
  wz : ∀ w ∈ d.waits, w.1.size ≤ 140737488351232 ∧ -9223372036854775808 ≤ w.2.1 ∧ w.2.1 ≤ 9223372036854775807 ∧ w.2.2.size ≤ 140737488351232
set_option maxHeartbeats 2000000 in
theorem disk_Check (v : Value) (d : D) (S : Mem) (hd : DkR S v d) (hz : Dz d) :
    ACall Try.prog 25 #[v] S fun r S' => r = .int .i64 (chkD d) ∧ S' = S := by
  obtain ⟨pe, ce, pw, cw, rfl, hE, hW⟩ := hd
  obtain ⟨size, ext, waits, fuse, down⟩ := d
  have hez := fun x hx => (hz.ez x hx).2
  have hs0 := hz.s0; have hs1 := hz.s1; have hf0 := hz.f0; have hf1 := hz.f1
  simp only at hE hW hez hs0 hs1 hf0 hf1 ⊢
  obtain ⟨_, _, ee1, ee2, ee3, hE3⟩ := id hE
  obtain ⟨_, _, ew1, ew2, ew3, hW3⟩ := id hW
  cases ee1; cases ew1
  refine ACall.enter (args := [.agg #[.int .i64 size, .slice pe ext.length ce, .slice pw waits.length cw, .int .i64 fuse, .bool down]]) (rs := [.tmp 2]) 74 [(0, .agg #[.int .i64 size, .slice pe ext.length ce, .slice pw waits.length cw, .int .i64 fuse, .bool down])] Try.func25 rfl rfl (Nat.le_of_ble_eq_true rfl) rfl ⟨rfl, trivial⟩ ?_
  refine AWP.seq ?_
  refine AWP.region ?_
  refine ARun.boxA (cs := [_, _, _, _, _]) (lit_lt rfl) rfl ?_
  intro b1 f1
  have g1 := f1
  repeat ((with_reducible replace g1 := fresh_set g1); obtain ⟨g1, _⟩ := g1)
  (try simp only [List.length_cons, List.length_nil, Nat.zero_add, Nat.reduceAdd])
  refine rC (Calm.assign rfl) ?_
  refine arun_nil ?_
  refine athen_n ?_
  refine named (S := S) (b := b1) g1.1 ?_
  intro T1 hT1 kb1
  replace hE := hE.less hT1
  replace hW := hW.less hT1
  by_cases q1 : size < 0
  · refine AWP.seq ?_
    refine AWP.seq ?_
    refine AWP.region ?_
    refine rC (Calm.fieldAddr ty_field_25_0 rfl) ?_
    refine rC (ld_ ty_plain_3 rfl) ?_
    refine rC (Calm.bin rfl rfl b_lss) ?_
    refine rC (Calm.move rfl) ?_
    first | refine rS 10 ?_ | refine rU 10 ?_ | refine rG 10 (Calm.fieldAddr ty_field_25_0 rfl) ?_
    first | refine rS 10 ?_ | refine rU 10 ?_ | refine rG 10 (ld_ ty_plain_3 rfl) ?_
    first | refine rS 10 ?_ | refine rU 10 ?_ | refine rG 10 (Calm.bin rfl rfl b_gtr) ?_
    refine rC ((by first | exact Calm.pickT rfl rfl | exact Calm.pickF rfl rfl)) ?_
    refine rC (Calm.move rfl) ?_
    first | refine rS 15 ?_ | refine rU 15 ?_ | refine rG 15 (Calm.fieldAddr ty_field_25_2 rfl) ?_
    first | refine rS 15 ?_ | refine rU 15 ?_ | refine rG 15 (ld_ ty_plain_23 rfl) ?_
    first | refine rS 15 ?_ | refine rU 15 ?_ | refine rG 15 (Calm.lenSl Try.underlying23 rfl) ?_
    first | refine rS 15 ?_ | refine rU 15 ?_ | refine rG 15 (Calm.bin rfl rfl b_gtr) ?_
    refine rC ((by first | exact Calm.pickT rfl rfl | exact Calm.pickF rfl rfl)) ?_
    refine rC (Calm.move rfl) ?_
    first | refine rS 21 ?_ | refine rU 21 ?_ | refine rG 21 (Calm.fieldAddr ty_field_25_3 rfl) ?_
    first | refine rS 21 ?_ | refine rU 21 ?_ | refine rG 21 (ld_ ty_plain_3 rfl) ?_
    first | refine rS 21 ?_ | refine rU 21 ?_ | refine rG 21 (Calm.bin rfl rfl b_lss) ?_
    refine rC ((by first | exact Calm.pickT rfl rfl | exact Calm.pickF rfl rfl)) ?_
    refine rC (Calm.move rfl) ?_
    first | refine rS 26 ?_ | refine rU 26 ?_ | refine rG 26 (Calm.fieldAddr ty_field_25_1 rfl) ?_
    first | refine rS 26 ?_ | refine rU 26 ?_ | refine rG 26 (ld_ ty_plain_22 rfl) ?_
    first | refine rS 26 ?_ | refine rU 26 ?_ | refine rG 26 (Calm.fieldAddr ty_field_25_0 rfl) ?_
    first | refine rS 26 ?_ | refine rU 26 ?_ | refine rG 26 (ld_ ty_plain_3 rfl) ?_
    first | refine rS 26 ?_ | refine rU 26 ?_
    first | refine rS 26 ?_ | refine rU 26 ?_ | refine rG 26 (Calm.un rfl (una_not _)) ?_
    refine rC ((by first | exact Calm.pickT rfl rfl | exact Calm.pickF rfl rfl)) ?_
    refine arun_nil ?_
    refine athen_n ?_
    refine AWP.sub [(0, _), (1, _), (2, _), (33, _)] ⟨rfl, rfl, rfl, rfl, trivial⟩ ?_
    refine AWP.condT rfl (by first | rfl | (simp; done) | (simp; omega)) ?_
    refine AWP.seq ?_
    refine AWP.region ?_
    refine rC (Calm.assign rfl) ?_
    refine arun_nil ?_
    refine athen_n ?_
    refine AWP.ret ?_
    refine athen_ret ?_
    refine ⟨_, S, ⟨_, _, rfl, rfl, rfl⟩, hT1.trans less_, ?_⟩
    exact ⟨by rw [chkD_no (fun h => absurd h.s0 (by simp only; omega))]; rfl, rfl⟩
  · by_cases q2 : 16384 < size
    · refine AWP.seq ?_
      refine AWP.seq ?_
      refine AWP.region ?_
      refine rC (Calm.fieldAddr ty_field_25_0 rfl) ?_
      refine rC (ld_ ty_plain_3 rfl) ?_
      refine rC (Calm.bin rfl rfl b_lss) ?_
      refine rC (Calm.move rfl) ?_
      first | refine rS 10 ?_ | refine rU 10 ?_ | refine rG 10 (Calm.fieldAddr ty_field_25_0 rfl) ?_
      first | refine rS 10 ?_ | refine rU 10 ?_ | refine rG 10 (ld_ ty_plain_3 rfl) ?_
      first | refine rS 10 ?_ | refine rU 10 ?_ | refine rG 10 (Calm.bin rfl rfl b_gtr) ?_
      refine rC ((by first | exact Calm.pickT rfl rfl | exact Calm.pickF rfl rfl)) ?_
      refine rC (Calm.move rfl) ?_
      first | refine rS 15 ?_ | refine rU 15 ?_ | refine rG 15 (Calm.fieldAddr ty_field_25_2 rfl) ?_
      first | refine rS 15 ?_ | refine rU 15 ?_ | refine rG 15 (ld_ ty_plain_23 rfl) ?_
      first | refine rS 15 ?_ | refine rU 15 ?_ | refine rG 15 (Calm.lenSl Try.underlying23 rfl) ?_
      first | refine rS 15 ?_ | refine rU 15 ?_ | refine rG 15 (Calm.bin rfl rfl b_gtr) ?_
      refine rC ((by first | exact Calm.pickT rfl rfl | exact Calm.pickF rfl rfl)) ?_
      refine rC (Calm.move rfl) ?_
      first | refine rS 21 ?_ | refine rU 21 ?_ | refine rG 21 (Calm.fieldAddr ty_field_25_3 rfl) ?_
      first | refine rS 21 ?_ | refine rU 21 ?_ | refine rG 21 (ld_ ty_plain_3 rfl) ?_
      first | refine rS 21 ?_ | refine rU 21 ?_ | refine rG 21 (Calm.bin rfl rfl b_lss) ?_
      refine rC ((by first | exact Calm.pickT rfl rfl | exact Calm.pickF rfl rfl)) ?_
      refine rC (Calm.move rfl) ?_
      first | refine rS 26 ?_ | refine rU 26 ?_ | refine rG 26 (Calm.fieldAddr ty_field_25_1 rfl) ?_
      first | refine rS 26 ?_ | refine rU 26 ?_ | refine rG 26 (ld_ ty_plain_22 rfl) ?_
      first | refine rS 26 ?_ | refine rU 26 ?_ | refine rG 26 (Calm.fieldAddr ty_field_25_0 rfl) ?_
      first | refine rS 26 ?_ | refine rU 26 ?_ | refine rG 26 (ld_ ty_plain_3 rfl) ?_
      first | refine rS 26 ?_ | refine rU 26 ?_
      first | refine rS 26 ?_ | refine rU 26 ?_ | refine rG 26 (Calm.un rfl (una_not _)) ?_
      refine rC ((by first | exact Calm.pickT rfl rfl | exact Calm.pickF rfl rfl)) ?_
      refine arun_nil ?_
      refine athen_n ?_
      refine AWP.sub [(0, _), (1, _), (2, _), (33, _)] ⟨rfl, rfl, rfl, rfl, trivial⟩ ?_
      refine AWP.condT rfl (by first | rfl | (simp; done) | (simp; omega)) ?_
      refine AWP.seq ?_
      refine AWP.region ?_
      refine rC (Calm.assign rfl) ?_
      refine arun_nil ?_
      refine athen_n ?_
      refine AWP.ret ?_
      refine athen_ret ?_
      refine ⟨_, S, ⟨_, _, rfl, rfl, rfl⟩, hT1.trans less_, ?_⟩
      exact ⟨by rw [chkD_no (fun h => absurd h.s1 (by simp only; omega))]; rfl, rfl⟩
    · by_cases q3 : 16384 < waits.length
      · refine AWP.seq ?_
        refine AWP.seq ?_
        refine AWP.region ?_
        refine rC (Calm.fieldAddr ty_field_25_0 rfl) ?_
        refine rC (ld_ ty_plain_3 rfl) ?_
        refine rC (Calm.bin rfl rfl b_lss) ?_
        refine rC (Calm.move rfl) ?_
        first | refine rS 10 ?_ | refine rU 10 ?_ | refine rG 10 (Calm.fieldAddr ty_field_25_0 rfl) ?_
        first | refine rS 10 ?_ | refine rU 10 ?_ | refine rG 10 (ld_ ty_plain_3 rfl) ?_
        first | refine rS 10 ?_ | refine rU 10 ?_ | refine rG 10 (Calm.bin rfl rfl b_gtr) ?_
        refine rC ((by first | exact Calm.pickT rfl rfl | exact Calm.pickF rfl rfl)) ?_
        refine rC (Calm.move rfl) ?_
        first | refine rS 15 ?_ | refine rU 15 ?_ | refine rG 15 (Calm.fieldAddr ty_field_25_2 rfl) ?_
        first | refine rS 15 ?_ | refine rU 15 ?_ | refine rG 15 (ld_ ty_plain_23 rfl) ?_
        first | refine rS 15 ?_ | refine rU 15 ?_ | refine rG 15 (Calm.lenSl Try.underlying23 rfl) ?_
        first | refine rS 15 ?_ | refine rU 15 ?_ | refine rG 15 (Calm.bin rfl rfl b_gtr) ?_
        refine rC ((by first | exact Calm.pickT rfl rfl | exact Calm.pickF rfl rfl)) ?_
        refine rC (Calm.move rfl) ?_
        first | refine rS 21 ?_ | refine rU 21 ?_ | refine rG 21 (Calm.fieldAddr ty_field_25_3 rfl) ?_
        first | refine rS 21 ?_ | refine rU 21 ?_ | refine rG 21 (ld_ ty_plain_3 rfl) ?_
        first | refine rS 21 ?_ | refine rU 21 ?_ | refine rG 21 (Calm.bin rfl rfl b_lss) ?_
        refine rC ((by first | exact Calm.pickT rfl rfl | exact Calm.pickF rfl rfl)) ?_
        refine rC (Calm.move rfl) ?_
        first | refine rS 26 ?_ | refine rU 26 ?_ | refine rG 26 (Calm.fieldAddr ty_field_25_1 rfl) ?_
        first | refine rS 26 ?_ | refine rU 26 ?_ | refine rG 26 (ld_ ty_plain_22 rfl) ?_
        first | refine rS 26 ?_ | refine rU 26 ?_ | refine rG 26 (Calm.fieldAddr ty_field_25_0 rfl) ?_
        first | refine rS 26 ?_ | refine rU 26 ?_ | refine rG 26 (ld_ ty_plain_3 rfl) ?_
        first | refine rS 26 ?_ | refine rU 26 ?_
        first | refine rS 26 ?_ | refine rU 26 ?_ | refine rG 26 (Calm.un rfl (una_not _)) ?_
        refine rC ((by first | exact Calm.pickT rfl rfl | exact Calm.pickF rfl rfl)) ?_
        refine arun_nil ?_
        refine athen_n ?_
        refine AWP.sub [(0, _), (1, _), (2, _), (33, _)] ⟨rfl, rfl, rfl, rfl, trivial⟩ ?_
        refine AWP.condT rfl (by first | rfl | (simp; done) | (simp; omega)) ?_
        refine AWP.seq ?_
        refine AWP.region ?_
        refine rC (Calm.assign rfl) ?_
        refine arun_nil ?_
        refine athen_n ?_
        refine AWP.ret ?_
        refine athen_ret ?_
        refine ⟨_, S, ⟨_, _, rfl, rfl, rfl⟩, hT1.trans less_, ?_⟩
        exact ⟨by rw [chkD_no (fun h => absurd h.wl (by simp only; omega))]; rfl, rfl⟩
      · by_cases q4 : fuse < -1
        · refine AWP.seq ?_
          refine AWP.seq ?_
          refine AWP.region ?_
          refine rC (Calm.fieldAddr ty_field_25_0 rfl) ?_
          refine rC (ld_ ty_plain_3 rfl) ?_
          refine rC (Calm.bin rfl rfl b_lss) ?_
          refine rC (Calm.move rfl) ?_
          first | refine rS 10 ?_ | refine rU 10 ?_ | refine rG 10 (Calm.fieldAddr ty_field_25_0 rfl) ?_
          first | refine rS 10 ?_ | refine rU 10 ?_ | refine rG 10 (ld_ ty_plain_3 rfl) ?_
          first | refine rS 10 ?_ | refine rU 10 ?_ | refine rG 10 (Calm.bin rfl rfl b_gtr) ?_
          refine rC ((by first | exact Calm.pickT rfl rfl | exact Calm.pickF rfl rfl)) ?_
          refine rC (Calm.move rfl) ?_
          first | refine rS 15 ?_ | refine rU 15 ?_ | refine rG 15 (Calm.fieldAddr ty_field_25_2 rfl) ?_
          first | refine rS 15 ?_ | refine rU 15 ?_ | refine rG 15 (ld_ ty_plain_23 rfl) ?_
          first | refine rS 15 ?_ | refine rU 15 ?_ | refine rG 15 (Calm.lenSl Try.underlying23 rfl) ?_
          first | refine rS 15 ?_ | refine rU 15 ?_ | refine rG 15 (Calm.bin rfl rfl b_gtr) ?_
          refine rC ((by first | exact Calm.pickT rfl rfl | exact Calm.pickF rfl rfl)) ?_
          refine rC (Calm.move rfl) ?_
          first | refine rS 21 ?_ | refine rU 21 ?_ | refine rG 21 (Calm.fieldAddr ty_field_25_3 rfl) ?_
          first | refine rS 21 ?_ | refine rU 21 ?_ | refine rG 21 (ld_ ty_plain_3 rfl) ?_
          first | refine rS 21 ?_ | refine rU 21 ?_ | refine rG 21 (Calm.bin rfl rfl b_lss) ?_
          refine rC ((by first | exact Calm.pickT rfl rfl | exact Calm.pickF rfl rfl)) ?_
          refine rC (Calm.move rfl) ?_
          first | refine rS 26 ?_ | refine rU 26 ?_ | refine rG 26 (Calm.fieldAddr ty_field_25_1 rfl) ?_
          first | refine rS 26 ?_ | refine rU 26 ?_ | refine rG 26 (ld_ ty_plain_22 rfl) ?_
          first | refine rS 26 ?_ | refine rU 26 ?_ | refine rG 26 (Calm.fieldAddr ty_field_25_0 rfl) ?_
          first | refine rS 26 ?_ | refine rU 26 ?_ | refine rG 26 (ld_ ty_plain_3 rfl) ?_
          first | refine rS 26 ?_ | refine rU 26 ?_
          first | refine rS 26 ?_ | refine rU 26 ?_ | refine rG 26 (Calm.un rfl (una_not _)) ?_
          refine rC ((by first | exact Calm.pickT rfl rfl | exact Calm.pickF rfl rfl)) ?_
          refine arun_nil ?_
          refine athen_n ?_
          refine AWP.sub [(0, _), (1, _), (2, _), (33, _)] ⟨rfl, rfl, rfl, rfl, trivial⟩ ?_
          refine AWP.condT rfl (by first | rfl | (simp; done) | (simp; omega)) ?_
          refine AWP.seq ?_
          refine AWP.region ?_
          refine rC (Calm.assign rfl) ?_
          refine arun_nil ?_
          refine athen_n ?_
          refine AWP.ret ?_
          refine athen_ret ?_
          refine ⟨_, S, ⟨_, _, rfl, rfl, rfl⟩, hT1.trans less_, ?_⟩
          exact ⟨by rw [chkD_no (fun h => absurd h.fu (by simp only; omega))]; rfl, rfl⟩
        · refine AWP.seq ?_
          refine AWP.seq ?_
          refine AWP.region ?_
          refine rC (Calm.fieldAddr ty_field_25_0 rfl) ?_
          refine rC (ld_ ty_plain_3 rfl) ?_
          refine rC (Calm.bin rfl rfl b_lss) ?_
          refine rC (Calm.move rfl) ?_
          first | refine rS 10 ?_ | refine rU 10 ?_ | refine rG 10 (Calm.fieldAddr ty_field_25_0 rfl) ?_
          first | refine rS 10 ?_ | refine rU 10 ?_ | refine rG 10 (ld_ ty_plain_3 rfl) ?_
          first | refine rS 10 ?_ | refine rU 10 ?_ | refine rG 10 (Calm.bin rfl rfl b_gtr) ?_
          refine rC ((by first | exact Calm.pickT rfl rfl | exact Calm.pickF rfl rfl)) ?_
          refine rC (Calm.move rfl) ?_
          first | refine rS 15 ?_ | refine rU 15 ?_ | refine rG 15 (Calm.fieldAddr ty_field_25_2 rfl) ?_
          first | refine rS 15 ?_ | refine rU 15 ?_ | refine rG 15 (ld_ ty_plain_23 rfl) ?_
          first | refine rS 15 ?_ | refine rU 15 ?_ | refine rG 15 (Calm.lenSl Try.underlying23 rfl) ?_
          first | refine rS 15 ?_ | refine rU 15 ?_ | refine rG 15 (Calm.bin rfl rfl b_gtr) ?_
          refine rC ((by first | exact Calm.pickT rfl rfl | exact Calm.pickF rfl rfl)) ?_
          refine rC (Calm.move rfl) ?_
          first | refine rS 21 ?_ | refine rU 21 ?_ | refine rG 21 (Calm.fieldAddr ty_field_25_3 rfl) ?_
          first | refine rS 21 ?_ | refine rU 21 ?_ | refine rG 21 (ld_ ty_plain_3 rfl) ?_
          first | refine rS 21 ?_ | refine rU 21 ?_ | refine rG 21 (Calm.bin rfl rfl b_lss) ?_
          refine rC ((by first | exact Calm.pickT rfl rfl | exact Calm.pickF rfl rfl)) ?_
          refine rC (Calm.move rfl) ?_
          first | refine rS 26 ?_ | refine rU 26 ?_ | refine rG 26 (Calm.fieldAddr ty_field_25_1 rfl) ?_
          first | refine rS 26 ?_ | refine rU 26 ?_ | refine rG 26 (ld_ ty_plain_22 rfl) ?_
          first | refine rS 26 ?_ | refine rU 26 ?_ | refine rG 26 (Calm.fieldAddr ty_field_25_0 rfl) ?_
          first | refine rS 26 ?_ | refine rU 26 ?_ | refine rG 26 (ld_ ty_plain_3 rfl) ?_
          refine ARun.callG 19 false 26 rfl (lit_lt rfl) rfl (lit_lt rfl) go_61 rfl (disk_extents _ ext size _ hE (by omega) (by omega) hez) ?_
          rintro _ S1 ⟨⟨t, rfl, ht⟩, h1⟩
          rw [h1]; clear h1 S1
          first | refine rS 26 ?_ | refine rU 26 ?_ | refine rG 26 (Calm.un rfl (una_not _)) ?_
          refine rC ((by first | exact Calm.pickT rfl rfl | exact Calm.pickF rfl rfl)) ?_
          refine arun_nil ?_
          refine athen_n ?_
          refine AWP.sub [(0, _), (1, _), (2, _), (33, _)] ⟨rfl, rfl, rfl, rfl, trivial⟩ ?_
          by_cases q5 : ERight ext size
          · obtain rfl : t = true := ht.2 q5
            refine AWP.condF rfl (by first | rfl | (simp; done) | (simp; omega)) ?_
            have hul := used_ge q5.ok
            have hus := q5.us
            refine AWP.skip ?_
            refine athen_n ?_
            refine AWP.seq ?_
            refine AWP.seq ?_
            refine AWP.region ?_
            refine rC (Calm.fieldAddr ty_field_25_2 rfl) ?_
            refine rC (ld_ ty_plain_23 rfl) ?_
            refine rC (Calm.lenSl Try.underlying23 rfl) ?_
            refine rC (Calm.move rfl) ?_
            refine arun_nil ?_
            refine athen_n ?_
            refine AWP.sub [(0, _), (1, _), (2, _), (33, _), (35, _), (36, _), (37, _)] ⟨rfl, rfl, rfl, rfl, rfl, rfl, rfl, trivial⟩ ?_
            refine AWP.block ?_
            refine AWP.loop (X := Nat) (fun x => [(1, .pointer (some ⟨b1, 0, none⟩)), (35, .slice pw waits.length cw), (36, .int .i64 waits.length), (37, .int .i64 x)]) (fun x => T1) (fun x => x ≤ waits.length ∧ ∀ j (h : j < waits.length), j < x → wok ext waits[j]) (fun x => waits.length - x) (0) ⟨rfl, rfl, rfl, rfl, trivial⟩ (Mem.Less.refl _) (⟨Nat.zero_le _, fun j _ h => absurd h (Nat.not_lt_zero _)⟩) ?_
            rintro i ⟨hi, hall⟩
            (try dsimp only at *)
            refine AWP.seq ?_
            refine AWP.region ?_
            refine rC (Calm.bin rfl rfl b_lss) ?_
            refine arun_nil ?_
            refine athen_n ?_
            refine AWP.seq ?_
            refine AWP.condB rfl (fun hc => ?_) (fun hc => ?_)
            · have hc : i < waits.length := by have := of_decide_eq_true hc; omega
              obtain ⟨b, off, rfl, hk⟩ := hW3.resolve_left (fun e => by subst e; simp at hc)
              have hki := (hk i hc).less hT1
              have hwz := hz.wz _ (List.getElem_mem hc)
              have hwn : ¬ wok ext waits[i] → ¬ Right ⟨size, ext, waits, fuse, down⟩ := fun h h' => h (h'.wr _ (List.getElem_mem hc))
              have hall' : wok ext waits[i] → ∀ j (h : j < waits.length), j < i + 1 → wok ext waits[j] := fun hw j h hj => by rcases Nat.lt_or_ge j i with h' | h'; exact hall j h h'; obtain rfl : j = i := (by omega); exact hw
              have hhp := has_pos q5.asc waits[i].1
              have hwh := wok_has (l := ext) (w := waits[i])
              have hwp := fun (p : Nat) (hp : p < ext.length) (e : ext[p].1 = (waits[i]'hc).1) => wok_pos q5.asc hp e
              generalize waits[i] = w at *
              unfold wrF at hki
              refine AWP.skip ?_
              refine athen_n ?_
              refine AWP.seq ?_
              refine AWP.block ?_
              refine AWP.seq ?_
              refine AWP.region ?_
              refine rC (Calm.indexS Try.underlying23 ty_size_51 rfl rfl (by omega) (by omega)) ?_
              refine rC (ldA_ (cs := [_, _, _]) ty_agg_51 ty_size_51 rfl) ?_
              refine ARun.alloc (lit_lt rfl) ty_zero_51 ?_
              intro b4 f4
              have g4 := f4
              repeat ((with_reducible replace g4 := fresh_set g4); obtain ⟨g4, _⟩ := g4)
              have := g4.ne kb1; have := g4.ne' kb1
              (try simp only [List.length_cons, List.length_nil, Nat.zero_add, Nat.reduceAdd])
              first | refine ARun.storeAll rfl rfl ty_size_51 own_ rfl rfl ?_ | refine ARun.store rfl rfl ty_size_51 own_ lens_ rfl ?_
              (try simp only [Mem.set_set, List.set_cons_zero, List.set_cons_succ, Nat.zero_add, Nat.reduceAdd])
              refine arun_nil ?_
              refine athen_n ?_
              refine AWP.sub [(1, _), (35, _), (36, _), (37, _), (38, _), (4, _)] ⟨rfl, rfl, rfl, rfl, rfl, rfl, trivial⟩ ?_
              refine AWP.seq ?_
              refine AWP.region ?_
              refine rC (Calm.fieldAddr ty_field_25_1 rfl) ?_
              refine rC (ld_ ty_plain_22 rfl) ?_
              refine rC (Calm.fieldAddr ty_field_51_0 rfl) ?_
              refine rC (ld_ ty_plain_9 rfl) ?_
              refine ARun.call (lit_lt rfl) go_59 rfl (disk_find _ ext w.1 _ (hE.less less_) q5.asc (by omega)) ?_
              rintro _ S1 ⟨rfl, h1⟩
              rw [h1]; clear h1 S1
              refine rC (Calm.move rfl) ?_
              refine rC (Calm.extract rfl rfl) ?_
              refine rC (Calm.extract rfl rfl) ?_
              refine rC (Calm.assign rfl) ?_
              refine rC (Calm.assign rfl) ?_
              refine arun_nil ?_
              refine athen_n ?_
              refine AWP.sub [(1, _), (35, _), (36, _), (37, _), (38, _), (4, _), (5, _), (6, _)] ⟨rfl, rfl, rfl, rfl, rfl, rfl, rfl, rfl, trivial⟩ ?_
              by_cases q6 : has ext w.1 = true
              · obtain ⟨hp, hpe⟩ := hhp.1 q6
                obtain ⟨be, oe, hpe2, hke⟩ := hE3.resolve_left (fun e => by subst e; simp at hp)
                subst hpe2
                have hkp := (hke _ hp).less hT1
                have hsz := hez _ (List.getElem_mem hp)
                replace hwp := hwp _ hp hpe
                rw [q6]
                generalize hpp : pos ext w.1 = p at *
                generalize hxx : ext[p] = x at *
                unfold extF at hkp
                have hsx : sec x ≤ 140737488351232 := by unfold sec; omega
                by_cases q7 : w.2.1 < 0
                · refine AWP.seq ?_
                  refine AWP.draw [(0, true), (1, true), (2, true), (3, true), (4, true), (5, true), (6, true), (7, true), (8, true), (9, true), (10, true), (11, true), (12, true), (13, true), (14, true), (15, false), (16, true), (17, true), (18, true), (19, true), (20, true), (21, true), (22, true), (23, true)] [] mixed (by kernel_rfl) ?_
                  refine dP (hc := fun _ => Calm.move rfl) (h := ?_)
                  refine dP (hc := fun _ => Calm.un rfl (una_not _)) (h := ?_)
                  refine dP (hc := fun _ => Calm.move rfl) (h := ?_)
                  first | refine dS ?_ | refine dU ?_ | refine dG (hc := fun _ => Calm.fieldAddr ty_field_51_1 rfl) (h := ?_)
                  first | refine dS ?_ | refine dU ?_ | refine dL (hc := ld_ ty_plain_3 rfl) (h := ?_)
                  first | refine dS ?_ | refine dU ?_ | refine dG (hc := fun _ => Calm.bin rfl rfl b_lss) (h := ?_)
                  refine dP (hc := fun _ => (by first | exact Calm.pickT rfl rfl | exact Calm.pickF rfl rfl)) (h := ?_)
                  refine dP (hc := fun _ => Calm.move rfl) (h := ?_)
                  first | refine dS ?_ | refine dU ?_ | refine dG (hc := fun _ => Calm.fieldAddr ty_field_51_1 rfl) (h := ?_)
                  first | refine dS ?_ | refine dU ?_ | refine dL (hc := ld_ ty_plain_3 rfl) (h := ?_)
                  first | refine dS ?_ | refine dU ?_ | refine dG (hc := fun _ => Calm.fieldAddr ty_field_25_1 rfl) (h := ?_)
                  first | refine dS ?_ | refine dU ?_ | refine dL (hc := ld_ ty_plain_22 rfl) (h := ?_)
                  first | refine dS ?_ | refine dU ?_ | refine dG (hc := fun _ => Calm.move rfl) (h := ?_)
                  first | refine dS ?_ | refine dU ?_ | refine dG (hc := fun _ => Calm.indexS Try.underlying22 ty_size_54 rfl rfl (by omega) (by omega)) (h := ?_)
                  first | refine dS ?_ | refine dU ?_ | refine dL (hc := ldA_ (cs := [_, _]) ty_agg_54 ty_size_54 rfl) (h := ?_)
                  refine draw_only rfl ?_
                  first | refine rS 56 ?_ | refine rU 56 ?_
                  refine arun_nil ⟨fun _ => less_, ?_⟩
                  first | refine dS ?_ | refine dU ?_ | refine dG (hc := fun _ => Calm.bin rfl rfl b_geq) (h := ?_)
                  refine dP (hc := fun _ => (by first | exact Calm.pickT rfl rfl | exact Calm.pickF rfl rfl)) (h := ?_)
                  refine dP (hc := fun _ => Calm.move rfl) (h := ?_)
                  first | refine dS ?_ | refine dU ?_ | refine dG (hc := fun _ => Calm.fieldAddr ty_field_51_2 rfl) (h := ?_)
                  first | refine dS ?_ | refine dU ?_ | refine dL (hc := ld_ ty_plain_9 rfl) (h := ?_)
                  first | refine dS ?_ | refine dU ?_ | refine dL (hc := Calm.lenStr (strT_spec ty_str_9) rfl) (h := ?_)
                  first | refine dS ?_ | refine dU ?_ | refine dG (hc := fun _ => Calm.bin rfl rfl b_neq) (h := ?_)
                  refine dP (hc := fun _ => (by first | exact Calm.pickT rfl rfl | exact Calm.pickF rfl rfl)) (h := ?_)
                  refine draw_nil ?_
                  refine athen_n ?_
                  refine AWP.sub [(1, _), (35, _), (36, _), (37, _), (38, _), (4, _), (5, _), (6, _), (72, _)] ⟨rfl, rfl, rfl, rfl, rfl, rfl, rfl, rfl, rfl, trivial⟩ ?_
                  refine AWP.condT rfl (by first | rfl | (simp; done) | (simp; omega)) ?_
                  refine AWP.seq ?_
                  refine AWP.region ?_
                  refine rC (Calm.assign rfl) ?_
                  refine arun_nil ?_
                  refine athen_n ?_
                  refine AWP.ret ?_
                  refine ain_ret ?_
                  refine athen_ret ?_
                  refine athen_ret ?_
                  refine ain_ret ?_
                  refine athen_ret ?_
                  refine ⟨_, S, ⟨_, _, rfl, rfl, rfl⟩, hT1.trans less_, ?_⟩
                  exact ⟨by rw [chkD_no (hwn (fun h => absurd (hwp.1 h).1 (by omega)))]; rfl, rfl⟩
                · by_cases q8 : (sec x : Int) ≤ w.2.1
                  · refine AWP.seq ?_
                    refine AWP.draw [(0, true), (1, true), (2, true), (3, true), (4, true), (5, true), (6, true), (7, true), (8, true), (9, true), (10, true), (11, true), (12, true), (13, true), (14, true), (15, false), (16, true), (17, true), (18, true), (19, true), (20, true), (21, true), (22, true), (23, true)] [] mixed (by kernel_rfl) ?_
                    refine dP (hc := fun _ => Calm.move rfl) (h := ?_)
                    refine dP (hc := fun _ => Calm.un rfl (una_not _)) (h := ?_)
                    refine dP (hc := fun _ => Calm.move rfl) (h := ?_)
                    first | refine dS ?_ | refine dU ?_ | refine dG (hc := fun _ => Calm.fieldAddr ty_field_51_1 rfl) (h := ?_)
                    first | refine dS ?_ | refine dU ?_ | refine dL (hc := ld_ ty_plain_3 rfl) (h := ?_)
                    first | refine dS ?_ | refine dU ?_ | refine dG (hc := fun _ => Calm.bin rfl rfl b_lss) (h := ?_)
                    refine dP (hc := fun _ => (by first | exact Calm.pickT rfl rfl | exact Calm.pickF rfl rfl)) (h := ?_)
                    refine dP (hc := fun _ => Calm.move rfl) (h := ?_)
                    first | refine dS ?_ | refine dU ?_ | refine dG (hc := fun _ => Calm.fieldAddr ty_field_51_1 rfl) (h := ?_)
                    first | refine dS ?_ | refine dU ?_ | refine dL (hc := ld_ ty_plain_3 rfl) (h := ?_)
                    first | refine dS ?_ | refine dU ?_ | refine dG (hc := fun _ => Calm.fieldAddr ty_field_25_1 rfl) (h := ?_)
                    first | refine dS ?_ | refine dU ?_ | refine dL (hc := ld_ ty_plain_22 rfl) (h := ?_)
                    first | refine dS ?_ | refine dU ?_ | refine dG (hc := fun _ => Calm.move rfl) (h := ?_)
                    first | refine dS ?_ | refine dU ?_ | refine dG (hc := fun _ => Calm.indexS Try.underlying22 ty_size_54 rfl rfl (by omega) (by omega)) (h := ?_)
                    first | refine dS ?_ | refine dU ?_ | refine dL (hc := ldA_ (cs := [_, _]) ty_agg_54 ty_size_54 rfl) (h := ?_)
                    refine draw_only rfl ?_
                    refine ARun.callG 7 false 56 rfl (lit_lt rfl) rfl (lit_lt rfl) go_60 rfl (disk_sectors x _ (by omega)) ?_
                    rintro _ S1 ⟨rfl, h1⟩
                    rw [h1]; clear h1 S1
                    refine arun_nil ⟨fun _ => less_, ?_⟩
                    first | refine dS ?_ | refine dU ?_ | refine dG (hc := fun _ => Calm.bin rfl rfl b_geq) (h := ?_)
                    refine dP (hc := fun _ => (by first | exact Calm.pickT rfl rfl | exact Calm.pickF rfl rfl)) (h := ?_)
                    refine dP (hc := fun _ => Calm.move rfl) (h := ?_)
                    first | refine dS ?_ | refine dU ?_ | refine dG (hc := fun _ => Calm.fieldAddr ty_field_51_2 rfl) (h := ?_)
                    first | refine dS ?_ | refine dU ?_ | refine dL (hc := ld_ ty_plain_9 rfl) (h := ?_)
                    first | refine dS ?_ | refine dU ?_ | refine dL (hc := Calm.lenStr (strT_spec ty_str_9) rfl) (h := ?_)
                    first | refine dS ?_ | refine dU ?_ | refine dG (hc := fun _ => Calm.bin rfl rfl b_neq) (h := ?_)
                    refine dP (hc := fun _ => (by first | exact Calm.pickT rfl rfl | exact Calm.pickF rfl rfl)) (h := ?_)
                    refine draw_nil ?_
                    refine athen_n ?_
                    refine AWP.sub [(1, _), (35, _), (36, _), (37, _), (38, _), (4, _), (5, _), (6, _), (72, _)] ⟨rfl, rfl, rfl, rfl, rfl, rfl, rfl, rfl, rfl, trivial⟩ ?_
                    refine AWP.condT rfl (by first | rfl | (simp; done) | (simp; omega)) ?_
                    refine AWP.seq ?_
                    refine AWP.region ?_
                    refine rC (Calm.assign rfl) ?_
                    refine arun_nil ?_
                    refine athen_n ?_
                    refine AWP.ret ?_
                    refine ain_ret ?_
                    refine athen_ret ?_
                    refine athen_ret ?_
                    refine ain_ret ?_
                    refine athen_ret ?_
                    refine ⟨_, S, ⟨_, _, rfl, rfl, rfl⟩, hT1.trans less_, ?_⟩
                    exact ⟨by rw [chkD_no (hwn (fun h => absurd (hwp.1 h).2.1 (by omega)))]; rfl, rfl⟩
                  · by_cases q9 : w.2.2.size = 64
                    · refine AWP.seq ?_
                      refine AWP.draw [(0, true), (1, true), (2, true), (3, true), (4, true), (5, true), (6, true), (7, true), (8, true), (9, true), (10, true), (11, true), (12, true), (13, true), (14, true), (15, false), (16, true), (17, true), (18, true), (19, true), (20, true), (21, true), (22, true), (23, true)] [] mixed (by kernel_rfl) ?_
                      refine dP (hc := fun _ => Calm.move rfl) (h := ?_)
                      refine dP (hc := fun _ => Calm.un rfl (una_not _)) (h := ?_)
                      refine dP (hc := fun _ => Calm.move rfl) (h := ?_)
                      first | refine dS ?_ | refine dU ?_ | refine dG (hc := fun _ => Calm.fieldAddr ty_field_51_1 rfl) (h := ?_)
                      first | refine dS ?_ | refine dU ?_ | refine dL (hc := ld_ ty_plain_3 rfl) (h := ?_)
                      first | refine dS ?_ | refine dU ?_ | refine dG (hc := fun _ => Calm.bin rfl rfl b_lss) (h := ?_)
                      refine dP (hc := fun _ => (by first | exact Calm.pickT rfl rfl | exact Calm.pickF rfl rfl)) (h := ?_)
                      refine dP (hc := fun _ => Calm.move rfl) (h := ?_)
                      first | refine dS ?_ | refine dU ?_ | refine dG (hc := fun _ => Calm.fieldAddr ty_field_51_1 rfl) (h := ?_)
                      first | refine dS ?_ | refine dU ?_ | refine dL (hc := ld_ ty_plain_3 rfl) (h := ?_)
                      first | refine dS ?_ | refine dU ?_ | refine dG (hc := fun _ => Calm.fieldAddr ty_field_25_1 rfl) (h := ?_)
                      first | refine dS ?_ | refine dU ?_ | refine dL (hc := ld_ ty_plain_22 rfl) (h := ?_)
                      first | refine dS ?_ | refine dU ?_ | refine dG (hc := fun _ => Calm.move rfl) (h := ?_)
                      first | refine dS ?_ | refine dU ?_ | refine dG (hc := fun _ => Calm.indexS Try.underlying22 ty_size_54 rfl rfl (by omega) (by omega)) (h := ?_)
                      first | refine dS ?_ | refine dU ?_ | refine dL (hc := ldA_ (cs := [_, _]) ty_agg_54 ty_size_54 rfl) (h := ?_)
                      refine draw_only rfl ?_
                      refine ARun.callG 7 false 56 rfl (lit_lt rfl) rfl (lit_lt rfl) go_60 rfl (disk_sectors x _ (by omega)) ?_
                      rintro _ S1 ⟨rfl, h1⟩
                      rw [h1]; clear h1 S1
                      refine arun_nil ⟨fun _ => less_, ?_⟩
                      first | refine dS ?_ | refine dU ?_ | refine dG (hc := fun _ => Calm.bin rfl rfl b_geq) (h := ?_)
                      refine dP (hc := fun _ => (by first | exact Calm.pickT rfl rfl | exact Calm.pickF rfl rfl)) (h := ?_)
                      refine dP (hc := fun _ => Calm.move rfl) (h := ?_)
                      first | refine dS ?_ | refine dU ?_ | refine dG (hc := fun _ => Calm.fieldAddr ty_field_51_2 rfl) (h := ?_)
                      first | refine dS ?_ | refine dU ?_ | refine dL (hc := ld_ ty_plain_9 rfl) (h := ?_)
                      first | refine dS ?_ | refine dU ?_ | refine dL (hc := Calm.lenStr (strT_spec ty_str_9) rfl) (h := ?_)
                      first | refine dS ?_ | refine dU ?_ | refine dG (hc := fun _ => Calm.bin rfl rfl b_neq) (h := ?_)
                      refine dP (hc := fun _ => (by first | exact Calm.pickT rfl rfl | exact Calm.pickF rfl rfl)) (h := ?_)
                      refine draw_nil ?_
                      refine athen_n ?_
                      refine AWP.sub [(1, _), (35, _), (36, _), (37, _), (38, _), (4, _), (5, _), (6, _), (72, _)] ⟨rfl, rfl, rfl, rfl, rfl, rfl, rfl, rfl, rfl, trivial⟩ ?_
                      refine AWP.condF rfl (by first | rfl | (simp; done) | (simp; omega)) ?_
                      refine AWP.skip ?_
                      refine ain_n ?_
                      refine athen_n ?_
                      refine AWP.region ?_
                      refine rC (Calm.bin rfl rfl b_add_i64) ?_
                      refine rC (Calm.move rfl) ?_
                      refine arun_nil ?_
                      refine athen_n ?_
                      refine ⟨i + 1, ?_, ?_, ?_, ?_⟩
                      all_goals (try dsimp only)
                      · exact ⟨rfl, rfl, rfl, rfl, trivial⟩
                      · exact less_
                      · exact ⟨hc, hall' (hwp.2 ⟨by omega, by omega, q9⟩)⟩
                      · omega
                    · refine AWP.seq ?_
                      refine AWP.draw [(0, true), (1, true), (2, true), (3, true), (4, true), (5, true), (6, true), (7, true), (8, true), (9, true), (10, true), (11, true), (12, true), (13, true), (14, true), (15, false), (16, true), (17, true), (18, true), (19, true), (20, true), (21, true), (22, true), (23, true)] [] mixed (by kernel_rfl) ?_
                      refine dP (hc := fun _ => Calm.move rfl) (h := ?_)
                      refine dP (hc := fun _ => Calm.un rfl (una_not _)) (h := ?_)
                      refine dP (hc := fun _ => Calm.move rfl) (h := ?_)
                      first | refine dS ?_ | refine dU ?_ | refine dG (hc := fun _ => Calm.fieldAddr ty_field_51_1 rfl) (h := ?_)
                      first | refine dS ?_ | refine dU ?_ | refine dL (hc := ld_ ty_plain_3 rfl) (h := ?_)
                      first | refine dS ?_ | refine dU ?_ | refine dG (hc := fun _ => Calm.bin rfl rfl b_lss) (h := ?_)
                      refine dP (hc := fun _ => (by first | exact Calm.pickT rfl rfl | exact Calm.pickF rfl rfl)) (h := ?_)
                      refine dP (hc := fun _ => Calm.move rfl) (h := ?_)
                      first | refine dS ?_ | refine dU ?_ | refine dG (hc := fun _ => Calm.fieldAddr ty_field_51_1 rfl) (h := ?_)
                      first | refine dS ?_ | refine dU ?_ | refine dL (hc := ld_ ty_plain_3 rfl) (h := ?_)
                      first | refine dS ?_ | refine dU ?_ | refine dG (hc := fun _ => Calm.fieldAddr ty_field_25_1 rfl) (h := ?_)
                      first | refine dS ?_ | refine dU ?_ | refine dL (hc := ld_ ty_plain_22 rfl) (h := ?_)
                      first | refine dS ?_ | refine dU ?_ | refine dG (hc := fun _ => Calm.move rfl) (h := ?_)
                      first | refine dS ?_ | refine dU ?_ | refine dG (hc := fun _ => Calm.indexS Try.underlying22 ty_size_54 rfl rfl (by omega) (by omega)) (h := ?_)
                      first | refine dS ?_ | refine dU ?_ | refine dL (hc := ldA_ (cs := [_, _]) ty_agg_54 ty_size_54 rfl) (h := ?_)
                      refine draw_only rfl ?_
                      refine ARun.callG 7 false 56 rfl (lit_lt rfl) rfl (lit_lt rfl) go_60 rfl (disk_sectors x _ (by omega)) ?_
                      rintro _ S1 ⟨rfl, h1⟩
                      rw [h1]; clear h1 S1
                      refine arun_nil ⟨fun _ => less_, ?_⟩
                      first | refine dS ?_ | refine dU ?_ | refine dG (hc := fun _ => Calm.bin rfl rfl b_geq) (h := ?_)
                      refine dP (hc := fun _ => (by first | exact Calm.pickT rfl rfl | exact Calm.pickF rfl rfl)) (h := ?_)
                      refine dP (hc := fun _ => Calm.move rfl) (h := ?_)
                      first | refine dS ?_ | refine dU ?_ | refine dG (hc := fun _ => Calm.fieldAddr ty_field_51_2 rfl) (h := ?_)
                      first | refine dS ?_ | refine dU ?_ | refine dL (hc := ld_ ty_plain_9 rfl) (h := ?_)
                      first | refine dS ?_ | refine dU ?_ | refine dL (hc := Calm.lenStr (strT_spec ty_str_9) rfl) (h := ?_)
                      first | refine dS ?_ | refine dU ?_ | refine dG (hc := fun _ => Calm.bin rfl rfl b_neq) (h := ?_)
                      refine dP (hc := fun _ => (by first | exact Calm.pickT rfl rfl | exact Calm.pickF rfl rfl)) (h := ?_)
                      refine draw_nil ?_
                      refine athen_n ?_
                      refine AWP.sub [(1, _), (35, _), (36, _), (37, _), (38, _), (4, _), (5, _), (6, _), (72, _)] ⟨rfl, rfl, rfl, rfl, rfl, rfl, rfl, rfl, rfl, trivial⟩ ?_
                      refine AWP.condT rfl (by first | rfl | (simp; done) | (simp; omega)) ?_
                      refine AWP.seq ?_
                      refine AWP.region ?_
                      refine rC (Calm.assign rfl) ?_
                      refine arun_nil ?_
                      refine athen_n ?_
                      refine AWP.ret ?_
                      refine ain_ret ?_
                      refine athen_ret ?_
                      refine athen_ret ?_
                      refine ain_ret ?_
                      refine athen_ret ?_
                      refine ⟨_, S, ⟨_, _, rfl, rfl, rfl⟩, hT1.trans less_, ?_⟩
                      exact ⟨by rw [chkD_no (hwn (fun h => q9 (hwp.1 h).2.2))]; rfl, rfl⟩
              · rw [Bool.eq_false_iff.2 q6]
                refine AWP.seq ?_
                refine AWP.draw [(0, true), (1, true), (2, true), (3, true), (4, true), (5, true), (6, true), (7, true), (8, true), (9, true), (10, true), (11, true), (12, true), (13, true), (14, true), (15, false), (16, true), (17, true), (18, true), (19, true), (20, true), (21, true), (22, true), (23, true)] [] mixed (by kernel_rfl) ?_
                refine dP (hc := fun _ => Calm.move rfl) (h := ?_)
                refine dP (hc := fun _ => Calm.un rfl (una_not _)) (h := ?_)
                refine dP (hc := fun _ => Calm.move rfl) (h := ?_)
                first | refine dS ?_ | refine dU ?_ | refine dG (hc := fun _ => Calm.fieldAddr ty_field_51_1 rfl) (h := ?_)
                first | refine dS ?_ | refine dU ?_ | refine dL (hc := ld_ ty_plain_3 rfl) (h := ?_)
                first | refine dS ?_ | refine dU ?_ | refine dG (hc := fun _ => Calm.bin rfl rfl b_lss) (h := ?_)
                refine dP (hc := fun _ => (by first | exact Calm.pickT rfl rfl | exact Calm.pickF rfl rfl)) (h := ?_)
                refine dP (hc := fun _ => Calm.move rfl) (h := ?_)
                first | refine dS ?_ | refine dU ?_ | refine dG (hc := fun _ => Calm.fieldAddr ty_field_51_1 rfl) (h := ?_)
                first | refine dS ?_ | refine dU ?_ | refine dL (hc := ld_ ty_plain_3 rfl) (h := ?_)
                first | refine dS ?_ | refine dU ?_ | refine dG (hc := fun _ => Calm.fieldAddr ty_field_25_1 rfl) (h := ?_)
                first | refine dS ?_ | refine dU ?_ | refine dL (hc := ld_ ty_plain_22 rfl) (h := ?_)
                first | refine dS ?_ | refine dU ?_ | refine dG (hc := fun _ => Calm.move rfl) (h := ?_)
                first | refine dS ?_ | refine dU ?_ | refine dG (hc := fun _ => Calm.indexS Try.underlying22 ty_size_54 rfl rfl (by omega) (by omega)) (h := ?_)
                first | refine dS ?_ | refine dU ?_ | refine dL (hc := ldA_ (cs := [_, _]) ty_agg_54 ty_size_54 rfl) (h := ?_)
                refine draw_only rfl ?_
                first | refine rS 56 ?_ | refine rU 56 ?_
                refine arun_nil ⟨fun _ => less_, ?_⟩
                first | refine dS ?_ | refine dU ?_ | refine dG (hc := fun _ => Calm.bin rfl rfl b_geq) (h := ?_)
                refine dP (hc := fun _ => (by first | exact Calm.pickT rfl rfl | exact Calm.pickF rfl rfl)) (h := ?_)
                refine dP (hc := fun _ => Calm.move rfl) (h := ?_)
                first | refine dS ?_ | refine dU ?_ | refine dG (hc := fun _ => Calm.fieldAddr ty_field_51_2 rfl) (h := ?_)
                first | refine dS ?_ | refine dU ?_ | refine dL (hc := ld_ ty_plain_9 rfl) (h := ?_)
                first | refine dS ?_ | refine dU ?_ | refine dL (hc := Calm.lenStr (strT_spec ty_str_9) rfl) (h := ?_)
                first | refine dS ?_ | refine dU ?_ | refine dG (hc := fun _ => Calm.bin rfl rfl b_neq) (h := ?_)
                refine dP (hc := fun _ => (by first | exact Calm.pickT rfl rfl | exact Calm.pickF rfl rfl)) (h := ?_)
                refine draw_nil ?_
                refine athen_n ?_
                refine AWP.sub [(1, _), (35, _), (36, _), (37, _), (38, _), (4, _), (5, _), (6, _), (72, _)] ⟨rfl, rfl, rfl, rfl, rfl, rfl, rfl, rfl, rfl, trivial⟩ ?_
                refine AWP.condT rfl (by first | rfl | (simp; done) | (simp; omega)) ?_
                refine AWP.seq ?_
                refine AWP.region ?_
                refine rC (Calm.assign rfl) ?_
                refine arun_nil ?_
                refine athen_n ?_
                refine AWP.ret ?_
                refine ain_ret ?_
                refine athen_ret ?_
                refine athen_ret ?_
                refine ain_ret ?_
                refine athen_ret ?_
                refine ⟨_, S, ⟨_, _, rfl, rfl, rfl⟩, hT1.trans less_, ?_⟩
                exact ⟨by rw [chkD_no (hwn (fun h => q6 (hwh h)))]; rfl, rfl⟩
            · have hc : i = waits.length := by have := of_decide_eq_false hc; omega
              refine AWP.exit ?_
              refine athen_exit ?_
              refine athen_exit ?_
              refine ain_same ?_
              refine athen_n ?_
              refine AWP.seq ?_
              refine AWP.region ?_
              refine rC (Calm.assign rfl) ?_
              refine arun_nil ?_
              refine athen_n ?_
              refine AWP.ret ?_
              refine ⟨_, S, ⟨_, _, rfl, rfl, rfl⟩, hT1.trans less_, ?_⟩
              exact ⟨by rw [chkD_yes ⟨by simp only; omega, by simp only; omega, by simp only; omega, by simp only; omega, q5, fun w hw => by obtain ⟨j, hj, rfl⟩ := List.getElem_of_mem hw; exact hall j hj (by have h' : j < waits.length := hj; omega)⟩]; rfl, rfl⟩
          · obtain rfl : t = false := Bool.eq_false_iff.2 (fun e => q5 (ht.1 e))
            refine AWP.condT rfl (by first | rfl | (simp; done) | (simp; omega)) ?_
            refine AWP.seq ?_
            refine AWP.region ?_
            refine rC (Calm.assign rfl) ?_
            refine arun_nil ?_
            refine athen_n ?_
            refine AWP.ret ?_
            refine athen_ret ?_
            refine ⟨_, S, ⟨_, _, rfl, rfl, rfl⟩, hT1.trans less_, ?_⟩
            exact ⟨by rw [chkD_no (fun h => q5 h.ex)]; rfl, rfl⟩
end Go.Proofs.Ytkeiphkccnfhoaa
namespace Go.Proofs.Ytkeiphkccnfhoaa
open Go.RowKit
open Mv Disk
set_option linter.unusedVariables false
set_option linter.unusedSimpArgs false
set_option maxRecDepth 4000
theorem ext_len (x : Ext) : (extF x).length = 2 := rfl
theorem wr_len (x : Wr) : (wrF x).length = 3 := rfl
theorem ext_one (l : List Ext) : ∀ v ∈ l.flatMap extF, v.oneCell' = true := fun v hv => by
  obtain ⟨x, _, hx⟩ := List.mem_flatMap.1 hv
  simp only [extF, List.mem_cons, List.not_mem_nil, or_false] at hx
  rcases hx with rfl | rfl <;> rfl
theorem wr_one (l : List Wr) : ∀ v ∈ l.flatMap wrF, v.oneCell' = true := fun v hv => by
  obtain ⟨x, _, hx⟩ := List.mem_flatMap.1 hv
  simp only [wrF, List.mem_cons, List.not_mem_nil, or_false] at hx
  rcases hx with rfl | rfl | rfl <;> rfl
abbrev extT : TypeId := 54
abbrev wrT : TypeId := 51
theorem disk_CloneE (v : Value) (l : List Ext) (S : Mem) (hl : Sl 2 extF S v l) (hz : l.length ≤ 4398046511104) :
    ACall Try.prog 88 #[v] S (OwnR 2 extF extT l S) := by
  obtain ⟨a, cap, rfl, h1, h2, h3⟩ := id hl
  refine ACall.enter (args := [.slice a l.length cap]) (rs := [.tmp 2]) 8 [(0, .slice a l.length cap)] Try.func88 rfl rfl (Nat.le_of_ble_eq_true rfl) rfl ⟨rfl, trivial⟩ ?_
  cases a
  · refine AWP.seq ?_
    refine AWP.region ?_
    refine rC (Calm.assign rfl) ?_
    refine arun_nil ?_
    refine athen_n ?_
    refine AWP.seq ?_
    refine AWP.seq ?_
    refine AWP.region ?_
    refine rC (Calm.move rfl) ?_
    refine rC (Calm.bin rfl rfl (bin_nil_eql Try.underlying22)) ?_
    refine arun_nil ?_
    refine athen_n ?_
    refine AWP.sub [(0, _), (2, _), (4, _)] ⟨rfl, rfl, rfl, trivial⟩ ?_
    refine AWP.condT rfl (by first | rfl | (simp; done) | (simp; omega)) ?_
    obtain rfl : l = [] := h3.resolve_right (fun ⟨b, off, e, _⟩ => by cases e)
    refine AWP.seq ?_
    refine AWP.region ?_
    refine rC (Calm.assign rfl) ?_
    refine arun_nil ?_
    refine athen_n ?_
    refine AWP.ret ?_
    refine athen_ret ?_
    refine ⟨_, S, ⟨_, _, rfl, rfl, rfl⟩, less_, ?_⟩
    exact ⟨none, okO_nil S, rfl, rfl⟩
  · refine AWP.seq ?_
    refine AWP.region ?_
    refine rC (Calm.assign rfl) ?_
    refine arun_nil ?_
    refine athen_n ?_
    refine AWP.seq ?_
    refine AWP.seq ?_
    refine AWP.region ?_
    refine rC (Calm.move rfl) ?_
    refine rC (Calm.bin rfl rfl (bin_nil_eql Try.underlying22)) ?_
    refine arun_nil ?_
    refine athen_n ?_
    refine AWP.sub [(0, _), (2, _), (4, _)] ⟨rfl, rfl, rfl, trivial⟩ ?_
    refine AWP.condF rfl (by first | rfl | (simp; done) | (simp; omega)) ?_
    refine AWP.skip ?_
    refine athen_n ?_
    refine AWP.seq ?_
    refine AWP.region ?_
    refine ARun.build0 (lit_lt rfl) ty_sl_22 ?_
    intro b5 f5
    have g5 := f5
    repeat ((with_reducible replace g5 := fresh_set g5); obtain ⟨g5, _⟩ := g5)
    refine rC (Calm.move rfl) ?_
    refine ARun.appendOK (n := 2) (o := some (b5, 0)) (k := 0) (m := l.length) (cs := []) (lit_lt rfl) ty_sl_22 rfl rfl rfl (okO_own f5 (Nat.le_refl _)) (appN_self (okO_own f5 (Nat.le_refl 0)) rfl) rfl ((hl.less less_).src ext_len) (flat_length ext_len l) (ext_one l) (by omega) (by omega) ?_
    intro o ho
    rw [Nat.zero_add] at ho ⊢
    refine rC (Calm.assign rfl) ?_
    refine arun_nil ?_
    refine athen_n ?_
    refine AWP.sub [(0, _), (2, _), (4, _)] ⟨rfl, rfl, rfl, trivial⟩ ?_
    refine AWP.ret ?_
    refine ⟨_, _, ⟨_, _, rfl, rfl, rfl⟩, Mem.Less.refl _, ?_⟩
    exact ⟨o, ho, rfl, rfl⟩
theorem disk_CloneW (v : Value) (l : List Wr) (S : Mem) (hl : Sl 3 wrF S v l) (hz : l.length ≤ 3518437208883) :
    ACall Try.prog 89 #[v] S (OwnR 3 wrF wrT l S) := by
  obtain ⟨a, cap, rfl, h1, h2, h3⟩ := id hl
  refine ACall.enter (args := [.slice a l.length cap]) (rs := [.tmp 2]) 8 [(0, .slice a l.length cap)] Try.func89 rfl rfl (Nat.le_of_ble_eq_true rfl) rfl ⟨rfl, trivial⟩ ?_
  cases a
  · refine AWP.seq ?_
    refine AWP.region ?_
    refine rC (Calm.assign rfl) ?_
    refine arun_nil ?_
    refine athen_n ?_
    refine AWP.seq ?_
    refine AWP.seq ?_
    refine AWP.region ?_
    refine rC (Calm.move rfl) ?_
    refine rC (Calm.bin rfl rfl (bin_nil_eql Try.underlying23)) ?_
    refine arun_nil ?_
    refine athen_n ?_
    refine AWP.sub [(0, _), (2, _), (4, _)] ⟨rfl, rfl, rfl, trivial⟩ ?_
    refine AWP.condT rfl (by first | rfl | (simp; done) | (simp; omega)) ?_
    obtain rfl : l = [] := h3.resolve_right (fun ⟨b, off, e, _⟩ => by cases e)
    refine AWP.seq ?_
    refine AWP.region ?_
    refine rC (Calm.assign rfl) ?_
    refine arun_nil ?_
    refine athen_n ?_
    refine AWP.ret ?_
    refine athen_ret ?_
    refine ⟨_, S, ⟨_, _, rfl, rfl, rfl⟩, less_, ?_⟩
    exact ⟨none, okO_nil S, rfl, rfl⟩
  · refine AWP.seq ?_
    refine AWP.region ?_
    refine rC (Calm.assign rfl) ?_
    refine arun_nil ?_
    refine athen_n ?_
    refine AWP.seq ?_
    refine AWP.seq ?_
    refine AWP.region ?_
    refine rC (Calm.move rfl) ?_
    refine rC (Calm.bin rfl rfl (bin_nil_eql Try.underlying23)) ?_
    refine arun_nil ?_
    refine athen_n ?_
    refine AWP.sub [(0, _), (2, _), (4, _)] ⟨rfl, rfl, rfl, trivial⟩ ?_
    refine AWP.condF rfl (by first | rfl | (simp; done) | (simp; omega)) ?_
    refine AWP.skip ?_
    refine athen_n ?_
    refine AWP.seq ?_
    refine AWP.region ?_
    refine ARun.build0 (lit_lt rfl) ty_sl_23 ?_
    intro b5 f5
    have g5 := f5
    repeat ((with_reducible replace g5 := fresh_set g5); obtain ⟨g5, _⟩ := g5)
    refine rC (Calm.move rfl) ?_
    refine ARun.appendOK (n := 3) (o := some (b5, 0)) (k := 0) (m := l.length) (cs := []) (lit_lt rfl) ty_sl_23 rfl rfl rfl (okO_own f5 (Nat.le_refl _)) (appN_self (okO_own f5 (Nat.le_refl 0)) rfl) rfl ((hl.less less_).src wr_len) (flat_length wr_len l) (wr_one l) (by omega) (by omega) ?_
    intro o ho
    rw [Nat.zero_add] at ho ⊢
    refine rC (Calm.assign rfl) ?_
    refine arun_nil ?_
    refine athen_n ?_
    refine AWP.sub [(0, _), (2, _), (4, _)] ⟨rfl, rfl, rfl, trivial⟩ ?_
    refine AWP.ret ?_
    refine ⟨_, _, ⟨_, _, rfl, rfl, rfl⟩, Mem.Less.refl _, ?_⟩
    exact ⟨o, ho, rfl, rfl⟩
theorem outV_eq {S : Mem} {o : Option (Nat × Nat)} {n : Nat} (h : OkO S o n) : ∃ a c, outV o n = .slice a n c := by
  cases o with
  | none => rw [h.nil rfl]; exact ⟨none, 0, rfl⟩
  | some q => exact ⟨_, q.2, rfl⟩
/-- A disk whose slices are its own. -/
def dkV (d : D) (oE oW : Option (Nat × Nat)) : Value := .agg #[.int .i64 d.size, outV oE d.ext.length, outV oW d.waits.length, .int .i64 d.fuse, .bool d.down]
def dkM (S : Mem) (d : D) (oE oW : Option (Nat × Nat)) : Mem := outN 3 (outN 2 S oE extT (d.ext.flatMap extF)) oW wrT (d.waits.flatMap wrF)
structure OkD (S : Mem) (d : D) (oE oW : Option (Nat × Nat)) : Prop where
  e : OkO S oE d.ext.length
  w : OkO (outN 2 S oE extT (d.ext.flatMap extF)) oW d.waits.length
theorem OkD.less {S : Mem} {d : D} {oE oW : Option (Nat × Nat)} (h : OkD S d oE oW) : S.Less (dkM S d oE oW) := (outN_over h.e).trans (outN_over h.w)
theorem OkD.dk {S : Mem} {d : D} {oE oW : Option (Nat × Nat)} (h : OkD S d oE oW) (he : d.ext.length ≤ 9223372036854775807) (hw : d.waits.length ≤ 9223372036854775807) : DkR (dkM S d oE oW) (dkV d oE oW) d := by
  have h1 := sl_outN ext_len (e := extT) h.e rfl he
  have h2 := sl_outN wr_len (e := wrT) h.w rfl hw
  obtain ⟨a, c, e⟩ := outV_eq h.e
  obtain ⟨a', c', e'⟩ := outV_eq h.w
  rw [e] at h1; rw [e'] at h2
  exact ⟨a, c, a', c', by unfold dkV; rw [e, e'], h1.less (outN_over h.w), h2⟩
set_option maxHeartbeats 1000000 in
theorem disk_Own (v : Value) (d : D) (S : Mem) (hd : DkR S v d) (hz1 : d.ext.length ≤ 4398046511104) (hz2 : d.waits.length ≤ 3518437208883) :
    ACall Try.prog 55 #[v] S fun r S' => ∃ oE oW, OkD S d oE oW ∧ r = dkV d oE oW ∧ S' = dkM S d oE oW := by
  obtain ⟨pe, ce, pw, cw, rfl, hE, hW⟩ := hd
  refine ACall.enter (args := [.agg #[.int .i64 d.size, .slice pe d.ext.length ce, .slice pw d.waits.length cw, .int .i64 d.fuse, .bool d.down]]) (rs := [.cell 2 25]) 12 [(0, .agg #[.int .i64 d.size, .slice pe d.ext.length ce, .slice pw d.waits.length cw, .int .i64 d.fuse, .bool d.down])] Try.func55 rfl rfl (Nat.le_of_ble_eq_true rfl) rfl ⟨rfl, trivial⟩ ?_
  refine AWP.seq ?_
  refine AWP.region ?_
  refine ARun.boxA (cs := [_, _, _, _, _]) (lit_lt rfl) rfl ?_
  intro b1 f1
  have g1 := f1
  repeat ((with_reducible replace g1 := fresh_set g1); obtain ⟨g1, _⟩ := g1)
  (try simp only [List.length_cons, List.length_nil, Nat.zero_add, Nat.reduceAdd])
  refine ARun.alloc (lit_lt rfl) ty_zero_25 ?_
  intro b2 f2
  have g2 := f2
  repeat ((with_reducible replace g2 := fresh_set g2); obtain ⟨g2, _⟩ := g2)
  (try simp only [List.length_cons, List.length_nil, Nat.zero_add, Nat.reduceAdd])
  refine arun_nil ?_
  refine athen_n ?_
  refine AWP.seq ?_
  refine AWP.draw [(0, true), (1, true), (3, true), (4, true), (2, false), (6, true), (5, false), (7, false), (8, true), (9, false)] [7, 9] mixed (by kernel_rfl) ?_
  refine dP (hc := fun _ => Calm.fieldAddr ty_field_25_1 rfl) (h := ?_)
  refine dC (hc := ld_ ty_plain_22 rfl) (h := ?_)
  refine dP (hc := fun _ => Calm.fieldAddr ty_field_25_2 rfl) (h := ?_)
  refine dC (hc := ld_ ty_plain_23 rfl) (h := ?_)
  refine draw_only rfl ?_
  refine ARun.call (lit_lt rfl) go_88 rfl (((disk_CloneE _ d.ext S hE hz1).frame f1).frame f2) ?_
  rintro _ S1 ⟨Sa, ⟨M, ⟨oE, hoE, rfl, hM⟩, f1', hSa⟩, f2', h1⟩
  rw [h1, hSa]; rw [hSa] at f2'; clear h1 S1 hSa Sa
  obtain ⟨qe, de, hqe⟩ := outV_eq hoE
  rw [hqe]
  have hSM : S.Less M := by rw [hM]; exact outN_over hoE
  have hWM : Sl 3 wrF M (.slice pw d.waits.length cw) d.waits := hW.less hSM
  refine arun_nil ⟨fun _ => less_, ?_⟩
  refine dP (hc := fun _ => Calm.fieldAddr ty_field_25_1 rfl) (h := ?_)
  refine draw_only rfl ?_
  refine ARun.call (lit_lt rfl) go_89 rfl (((disk_CloneW _ d.waits M hWM hz2).frame f1').frame f2') ?_
  rintro _ S1 ⟨Sa, ⟨M2, ⟨oW, hoW, rfl, hM2⟩, f1'', hSa⟩, f2'', h1⟩
  rw [h1, hSa]; rw [hSa] at f2''; clear h1 S1 hSa Sa
  obtain ⟨g2m, _⟩ := fresh_set f2''
  obtain ⟨qw, dw, hqw⟩ := outV_eq hoW
  rw [hqw]
  have hSM2 : S.Less M2 := hSM.trans (by rw [hM2]; exact outN_over hoW)
  refine arun_nil ⟨fun _ => less_, ?_⟩
  refine draw_only rfl ?_
  refine ARun.store1 rfl rfl ty_size_22 rfl own_ lens_ rfl ?_
  (try simp only [Mem.set_set, List.set_cons_zero, List.set_cons_succ, Nat.zero_add, Nat.reduceAdd])
  refine arun_nil ⟨fun h => absurd h (by decide), ?_⟩
  refine dP (hc := fun _ => Calm.fieldAddr ty_field_25_2 rfl) (h := ?_)
  refine draw_only rfl ?_
  refine ARun.store1 rfl rfl ty_size_23 rfl own_ lens_ rfl ?_
  (try simp only [Mem.set_set, List.set_cons_zero, List.set_cons_succ, Nat.zero_add, Nat.reduceAdd])
  refine arun_nil ⟨fun h => absurd h (by decide), ?_⟩
  refine draw_nil ?_
  refine athen_n ?_
  refine AWP.sub [(0, _), (1, _), (2, _)] ⟨rfl, rfl, rfl, trivial⟩ ?_
  refine AWP.seq ?_
  refine AWP.region ?_
  refine rC (ldA_ (cs := [_, _, _, _, _]) ty_agg_25 ty_size_25 rfl) ?_
  first | refine ARun.storeAll rfl rfl ty_size_25 own_ rfl rfl ?_ | refine ARun.store rfl rfl ty_size_25 own_ lens_ rfl ?_
  (try simp only [Mem.set_set, List.set_cons_zero, List.set_cons_succ, Nat.zero_add, Nat.reduceAdd])
  refine arun_nil ?_
  refine athen_n ?_
  refine AWP.sub [(0, _), (1, _), (2, _)] ⟨rfl, rfl, rfl, trivial⟩ ?_
  refine AWP.ret ?_
  refine ⟨_, M2, ⟨_, _, _, rfl, .inr ⟨ty_agg_25, [_, _, _, _, _], ty_size_25, rds_, rfl⟩, rfl, rfl⟩, less_, ?_⟩
  exact ⟨oE, oW, ⟨hoE, by rw [← hM]; exact hoW⟩, by unfold dkV; rw [hqe, hqw]; rfl, by rw [hM2, hM]; rfl⟩
/-- A disk that is made or changed, and an error. -/
def DkRes (p : D × Int) (S : Mem) (r : Value) (S' : Mem) : Prop := ∃ v, r = .tuple #[v, .int .i64 p.2] ∧ S.Less S' ∧ DkR S' v p.1
theorem dkR_zero (S : Mem) : DkR S (.agg #[.int .i64 0, .slice none 0 0, .slice none 0 0, .int .i64 0, .bool false]) D0 := ⟨none, 0, none, 0, rfl, Sl.nil _ _ _, Sl.nil _ _ _⟩
def makeD (n : Int) : D × Int := if n < 0 ∨ 16384 < n then (D0, 1) else (⟨n, [], [], -1, false⟩, 0)
theorem disk_Make (n : Int) (S : Mem) : ACall Try.prog 35 #[.int .i64 n] S (DkRes (makeD n) S) := by
  unfold makeD
  by_cases h1 : n < 0
  · rw [if_pos (.inl h1)]
    refine ACall.enter (args := [.int .i64 n]) (rs := [.cell 2 25, .tmp 3]) 13 [(0, .int .i64 n)] Try.func35 rfl rfl (Nat.le_of_ble_eq_true rfl) rfl ⟨rfl, trivial⟩ ?_
    refine AWP.seq ?_
    refine AWP.region ?_
    refine ARun.alloc (lit_lt rfl) ty_zero_25 ?_
    intro b2 f2
    have g2 := f2
    repeat ((with_reducible replace g2 := fresh_set g2); obtain ⟨g2, _⟩ := g2)
    (try simp only [List.length_cons, List.length_nil, Nat.zero_add, Nat.reduceAdd])
    refine rC (Calm.assign rfl) ?_
    refine arun_nil ?_
    refine athen_n ?_
    refine AWP.seq ?_
    refine AWP.seq ?_
    refine AWP.region ?_
    refine rC (Calm.move rfl) ?_
    refine rC (Calm.bin rfl rfl b_lss) ?_
    refine rC (Calm.move rfl) ?_
    first | refine rS 6 ?_ | refine rU 6 ?_ | refine rG 6 (Calm.move rfl) ?_
    first | refine rS 6 ?_ | refine rU 6 ?_ | refine rG 6 (Calm.bin rfl rfl b_gtr) ?_
    refine rC ((by first | exact Calm.pickT rfl rfl | exact Calm.pickF rfl rfl)) ?_
    refine arun_nil ?_
    refine athen_n ?_
    refine AWP.sub [(0, _), (2, _), (3, _), (9, _)] ⟨rfl, rfl, rfl, rfl, trivial⟩ ?_
    refine AWP.condT rfl (by first | rfl | (simp; done) | (simp; omega)) ?_
    refine AWP.seq ?_
    refine AWP.region ?_
    refine rC (Calm.build (cs := [_, _, _, _, _]) ty_bld_25 rfl rfl) ?_
    first | refine ARun.storeAll rfl rfl ty_size_25 own_ rfl rfl ?_ | refine ARun.store rfl rfl ty_size_25 own_ lens_ rfl ?_
    (try simp only [Mem.set_set, List.set_cons_zero, List.set_cons_succ, Nat.zero_add, Nat.reduceAdd])
    refine rC (Calm.assign rfl) ?_
    refine arun_nil ?_
    refine athen_n ?_
    refine AWP.sub [(0, _), (2, _), (3, _), (9, _)] ⟨rfl, rfl, rfl, rfl, trivial⟩ ?_
    refine AWP.ret ?_
    refine athen_ret ?_
    refine ⟨_, S, ⟨_, _, _, rfl, .inr ⟨ty_agg_25, [_, _, _, _, _], ty_size_25, rds_, rfl⟩, ⟨_, _, rfl, rfl, rfl⟩, rfl⟩, less_, ?_⟩
    exact ⟨_, rfl, Mem.Less.refl _, dkR_zero S⟩
  · by_cases h2 : 16384 < n
    · rw [if_pos (.inr h2)]
      refine ACall.enter (args := [.int .i64 n]) (rs := [.cell 2 25, .tmp 3]) 13 [(0, .int .i64 n)] Try.func35 rfl rfl (Nat.le_of_ble_eq_true rfl) rfl ⟨rfl, trivial⟩ ?_
      refine AWP.seq ?_
      refine AWP.region ?_
      refine ARun.alloc (lit_lt rfl) ty_zero_25 ?_
      intro b2 f2
      have g2 := f2
      repeat ((with_reducible replace g2 := fresh_set g2); obtain ⟨g2, _⟩ := g2)
      (try simp only [List.length_cons, List.length_nil, Nat.zero_add, Nat.reduceAdd])
      refine rC (Calm.assign rfl) ?_
      refine arun_nil ?_
      refine athen_n ?_
      refine AWP.seq ?_
      refine AWP.seq ?_
      refine AWP.region ?_
      refine rC (Calm.move rfl) ?_
      refine rC (Calm.bin rfl rfl b_lss) ?_
      refine rC (Calm.move rfl) ?_
      first | refine rS 6 ?_ | refine rU 6 ?_ | refine rG 6 (Calm.move rfl) ?_
      first | refine rS 6 ?_ | refine rU 6 ?_ | refine rG 6 (Calm.bin rfl rfl b_gtr) ?_
      refine rC ((by first | exact Calm.pickT rfl rfl | exact Calm.pickF rfl rfl)) ?_
      refine arun_nil ?_
      refine athen_n ?_
      refine AWP.sub [(0, _), (2, _), (3, _), (9, _)] ⟨rfl, rfl, rfl, rfl, trivial⟩ ?_
      refine AWP.condT rfl (by first | rfl | (simp; done) | (simp; omega)) ?_
      refine AWP.seq ?_
      refine AWP.region ?_
      refine rC (Calm.build (cs := [_, _, _, _, _]) ty_bld_25 rfl rfl) ?_
      first | refine ARun.storeAll rfl rfl ty_size_25 own_ rfl rfl ?_ | refine ARun.store rfl rfl ty_size_25 own_ lens_ rfl ?_
      (try simp only [Mem.set_set, List.set_cons_zero, List.set_cons_succ, Nat.zero_add, Nat.reduceAdd])
      refine rC (Calm.assign rfl) ?_
      refine arun_nil ?_
      refine athen_n ?_
      refine AWP.sub [(0, _), (2, _), (3, _), (9, _)] ⟨rfl, rfl, rfl, rfl, trivial⟩ ?_
      refine AWP.ret ?_
      refine athen_ret ?_
      refine ⟨_, S, ⟨_, _, _, rfl, .inr ⟨ty_agg_25, [_, _, _, _, _], ty_size_25, rds_, rfl⟩, ⟨_, _, rfl, rfl, rfl⟩, rfl⟩, less_, ?_⟩
      exact ⟨_, rfl, Mem.Less.refl _, dkR_zero S⟩
    · rw [if_neg (by omega)]
      refine ACall.enter (args := [.int .i64 n]) (rs := [.cell 2 25, .tmp 3]) 13 [(0, .int .i64 n)] Try.func35 rfl rfl (Nat.le_of_ble_eq_true rfl) rfl ⟨rfl, trivial⟩ ?_
      refine AWP.seq ?_
      refine AWP.region ?_
      refine ARun.alloc (lit_lt rfl) ty_zero_25 ?_
      intro b2 f2
      have g2 := f2
      repeat ((with_reducible replace g2 := fresh_set g2); obtain ⟨g2, _⟩ := g2)
      (try simp only [List.length_cons, List.length_nil, Nat.zero_add, Nat.reduceAdd])
      refine rC (Calm.assign rfl) ?_
      refine arun_nil ?_
      refine athen_n ?_
      refine AWP.seq ?_
      refine AWP.seq ?_
      refine AWP.region ?_
      refine rC (Calm.move rfl) ?_
      refine rC (Calm.bin rfl rfl b_lss) ?_
      refine rC (Calm.move rfl) ?_
      first | refine rS 6 ?_ | refine rU 6 ?_ | refine rG 6 (Calm.move rfl) ?_
      first | refine rS 6 ?_ | refine rU 6 ?_ | refine rG 6 (Calm.bin rfl rfl b_gtr) ?_
      refine rC ((by first | exact Calm.pickT rfl rfl | exact Calm.pickF rfl rfl)) ?_
      refine arun_nil ?_
      refine athen_n ?_
      refine AWP.sub [(0, _), (2, _), (3, _), (9, _)] ⟨rfl, rfl, rfl, rfl, trivial⟩ ?_
      refine AWP.condF rfl (by first | rfl | (simp; done) | (simp; omega)) ?_
      refine AWP.skip ?_
      refine athen_n ?_
      refine AWP.seq ?_
      refine AWP.region ?_
      refine rC (Calm.move rfl) ?_
      refine rC (Calm.build (cs := [_, _, _, _, _]) ty_bld_25 rfl rfl) ?_
      first | refine ARun.storeAll rfl rfl ty_size_25 own_ rfl rfl ?_ | refine ARun.store rfl rfl ty_size_25 own_ lens_ rfl ?_
      (try simp only [Mem.set_set, List.set_cons_zero, List.set_cons_succ, Nat.zero_add, Nat.reduceAdd])
      refine rC (Calm.assign rfl) ?_
      refine arun_nil ?_
      refine athen_n ?_
      refine AWP.sub [(0, _), (2, _), (3, _), (9, _)] ⟨rfl, rfl, rfl, rfl, trivial⟩ ?_
      refine AWP.ret ?_
      refine ⟨_, S, ⟨_, _, _, rfl, .inr ⟨ty_agg_25, [_, _, _, _, _], ty_size_25, rds_, rfl⟩, ⟨_, _, rfl, rfl, rfl⟩, rfl⟩, less_, ?_⟩
      exact ⟨_, rfl, Mem.Less.refl _, none, 0, none, 0, rfl, Sl.nil _ _ _, Sl.nil _ _ _⟩
/-- A disk at work: its block p, its slices its own. -/
def devM (S : Mem) (p : Nat) (d : D) (oE oW : Option (Nat × Nat)) : Mem := (dkM S d oE oW).set p ⟨90, [.int .i64 d.size, outV oE d.ext.length, outV oW d.waits.length, .int .i64 d.fuse, .bool d.down], 5⟩
structure OkV (S : Mem) (p : Nat) (d : D) (oE oW : Option (Nat × Nat)) : Prop where
  dk : OkD S d oE oW
  fr : Fresh (dkM S d oE oW) p
noncomputable def openD (d : D) : D × Int := if chkD d = 0 then (d, if d.down = true then 10 else 0) else (D0, 2)
/-- A disk at work, and an error. -/
def OpenR (p : D × Int) (S : Mem) (r : Value) (S' : Mem) : Prop := ∃ b oE oW, OkV S b p.1 oE oW ∧ r = .tuple #[.pointer (some ⟨b, 0, none⟩), .int .i64 p.2] ∧ S' = devM S b p.1 oE oW
set_option maxHeartbeats 1000000 in
theorem disk_Open (v : Value) (d : D) (S : Mem) (hd : DkR S v d) (hz : Dz d) :
    ACall Try.prog 44 #[v] S (OpenR (openD d) S) := by
  have hcheck := fun M h => disk_Check v d M h hz
  have hown := fun M h => disk_Own v d M h hz.el hz.wl
  obtain ⟨pe, ce, pw, cw, rfl, hE, hW⟩ := id hd
  unfold openD
  rcases chkD_or d with ⟨hk, hR⟩ | ⟨hk, hR⟩
  · rw [if_pos hk]
    refine ACall.enter (args := [.agg #[.int .i64 d.size, .slice pe d.ext.length ce, .slice pw d.waits.length cw, .int .i64 d.fuse, .bool d.down]]) (rs := [.tmp 2, .tmp 3]) 21 [(0, .agg #[.int .i64 d.size, .slice pe d.ext.length ce, .slice pw d.waits.length cw, .int .i64 d.fuse, .bool d.down])] Try.func44 rfl rfl (Nat.le_of_ble_eq_true rfl) rfl ⟨rfl, trivial⟩ ?_
    refine AWP.seq ?_
    refine AWP.region ?_
    refine ARun.boxA (cs := [_, _, _, _, _]) (lit_lt rfl) rfl ?_
    intro b1 f1
    have g1 := f1
    repeat ((with_reducible replace g1 := fresh_set g1); obtain ⟨g1, _⟩ := g1)
    (try simp only [List.length_cons, List.length_nil, Nat.zero_add, Nat.reduceAdd])
    refine rC (Calm.assign rfl) ?_
    refine rC (Calm.assign rfl) ?_
    refine arun_nil ?_
    refine athen_n ?_
    refine AWP.seq ?_
    refine AWP.seq ?_
    refine AWP.region ?_
    refine rC (ldA_ (cs := [_, _, _, _, _]) ty_agg_25 ty_size_25 rfl) ?_
    refine ARun.call (lit_lt rfl) go_25 rfl (hcheck _ (hd.less less_)) ?_
    rintro _ S1 ⟨rfl, h1⟩
    rw [h1, hk]; clear h1 S1
    refine rC (Calm.assign rfl) ?_
    refine arun_nil ?_
    refine athen_n ?_
    refine AWP.sub [(0, _), (1, _), (2, _), (3, _), (4, _)] ⟨rfl, rfl, rfl, rfl, rfl, trivial⟩ ?_
    refine AWP.seq ?_
    refine AWP.region ?_
    refine rC (Calm.move rfl) ?_
    refine rC (Calm.bin rfl rfl b_neq) ?_
    refine arun_nil ?_
    refine athen_n ?_
    refine AWP.sub [(0, _), (1, _), (2, _), (3, _), (4, _), (9, _)] ⟨rfl, rfl, rfl, rfl, rfl, rfl, trivial⟩ ?_
    refine AWP.condF rfl (by first | rfl | (simp; done) | (simp; omega)) ?_
    refine AWP.skip ?_
    refine athen_n ?_
    refine AWP.seq ?_
    refine AWP.region ?_
    refine rC (ldA_ (cs := [_, _, _, _, _]) ty_agg_25 ty_size_25 rfl) ?_
    refine ARun.call (lit_lt rfl) go_55 rfl ((hown S hd).frame f1) ?_
    rintro _ S1 ⟨M, ⟨oE, oW, hok, rfl, hM⟩, f1', h1⟩
    rw [h1]; clear h1 S1
    have hSM : S.Less M := by rw [hM]; exact hok.less
    unfold dkV
    obtain ⟨qe, de, hqe⟩ := outV_eq hok.e
    obtain ⟨qw, dw, hqw⟩ := outV_eq hok.w
    rw [hqe, hqw]
    refine rC (Calm.build (cs := [_, _, _, _, _]) ty_bld_90 rfl rfl) ?_
    refine ARun.boxA (cs := [_, _, _, _, _]) (lit_lt rfl) rfl ?_
    intro b16 f16
    have g16 := f16
    repeat ((with_reducible replace g16 := fresh_set g16); obtain ⟨g16, _⟩ := g16)
    (try simp only [List.length_cons, List.length_nil, Nat.zero_add, Nat.reduceAdd])
    refine rC (Calm.assign rfl) ?_
    refine arun_nil ?_
    refine athen_n ?_
    refine AWP.sub [(0, _), (1, _), (2, _), (3, _), (4, _), (9, _), (5, _)] ⟨rfl, rfl, rfl, rfl, rfl, rfl, rfl, trivial⟩ ?_
    refine AWP.seq ?_
    refine AWP.seq ?_
    refine AWP.region ?_
    refine rC (Calm.fieldAddr ty_field_25_4 rfl) ?_
    refine rC (ld_ ty_plain_4 rfl) ?_
    refine arun_nil ?_
    refine athen_n ?_
    refine AWP.sub [(0, _), (1, _), (2, _), (3, _), (4, _), (9, _), (5, _), (18, _)] ⟨rfl, rfl, rfl, rfl, rfl, rfl, rfl, rfl, trivial⟩ ?_
    refine AWP.condB rfl (fun hb => ?_) (fun hb => ?_)
    · refine AWP.seq ?_
      refine AWP.region ?_
      refine rC (Calm.move rfl) ?_
      refine rC (Calm.assign rfl) ?_
      refine rC (Calm.assign rfl) ?_
      refine arun_nil ?_
      refine athen_n ?_
      refine AWP.sub [(0, _), (1, _), (2, _), (3, _), (4, _), (9, _), (5, _), (18, _)] ⟨rfl, rfl, rfl, rfl, rfl, rfl, rfl, rfl, trivial⟩ ?_
      refine AWP.ret ?_
      refine athen_ret ?_
      refine ⟨_, M.set b16 _, ⟨_, _, rfl, ⟨_, _, rfl, rfl, rfl⟩, rfl⟩, Less.set (Mem.less_set _ _ _ f1'.1) _ _, ?_⟩
      exact ⟨b16, oE, oW, ⟨hok, by rw [← hM]; exact g16⟩, by rw [if_pos hb]; rfl, by unfold devM; rw [hqe, hqw, ← hM]⟩
    · refine AWP.skip ?_
      refine athen_n ?_
      refine AWP.seq ?_
      refine AWP.region ?_
      refine rC (Calm.move rfl) ?_
      refine rC (Calm.assign rfl) ?_
      refine rC (Calm.assign rfl) ?_
      refine arun_nil ?_
      refine athen_n ?_
      refine AWP.sub [(0, _), (1, _), (2, _), (3, _), (4, _), (9, _), (5, _), (18, _)] ⟨rfl, rfl, rfl, rfl, rfl, rfl, rfl, rfl, trivial⟩ ?_
      refine AWP.ret ?_
      refine ⟨_, M.set b16 _, ⟨_, _, rfl, ⟨_, _, rfl, rfl, rfl⟩, rfl⟩, Less.set (Mem.less_set _ _ _ f1'.1) _ _, ?_⟩
      exact ⟨b16, oE, oW, ⟨hok, by rw [← hM]; exact g16⟩, by rw [if_neg (Bool.eq_false_iff.1 hb)]; rfl, by unfold devM; rw [hqe, hqw, ← hM]⟩
  · rw [if_neg (by rw [hk]; decide)]
    refine ACall.enter (args := [.agg #[.int .i64 d.size, .slice pe d.ext.length ce, .slice pw d.waits.length cw, .int .i64 d.fuse, .bool d.down]]) (rs := [.tmp 2, .tmp 3]) 21 [(0, .agg #[.int .i64 d.size, .slice pe d.ext.length ce, .slice pw d.waits.length cw, .int .i64 d.fuse, .bool d.down])] Try.func44 rfl rfl (Nat.le_of_ble_eq_true rfl) rfl ⟨rfl, trivial⟩ ?_
    refine AWP.seq ?_
    refine AWP.region ?_
    refine ARun.boxA (cs := [_, _, _, _, _]) (lit_lt rfl) rfl ?_
    intro b1 f1
    have g1 := f1
    repeat ((with_reducible replace g1 := fresh_set g1); obtain ⟨g1, _⟩ := g1)
    (try simp only [List.length_cons, List.length_nil, Nat.zero_add, Nat.reduceAdd])
    refine rC (Calm.assign rfl) ?_
    refine rC (Calm.assign rfl) ?_
    refine arun_nil ?_
    refine athen_n ?_
    refine AWP.seq ?_
    refine AWP.seq ?_
    refine AWP.region ?_
    refine rC (ldA_ (cs := [_, _, _, _, _]) ty_agg_25 ty_size_25 rfl) ?_
    refine ARun.call (lit_lt rfl) go_25 rfl (hcheck _ (hd.less less_)) ?_
    rintro _ S1 ⟨rfl, h1⟩
    rw [h1, hk]; clear h1 S1
    refine rC (Calm.assign rfl) ?_
    refine arun_nil ?_
    refine athen_n ?_
    refine AWP.sub [(0, _), (1, _), (2, _), (3, _), (4, _)] ⟨rfl, rfl, rfl, rfl, rfl, trivial⟩ ?_
    refine AWP.seq ?_
    refine AWP.region ?_
    refine rC (Calm.move rfl) ?_
    refine rC (Calm.bin rfl rfl b_neq) ?_
    refine arun_nil ?_
    refine athen_n ?_
    refine AWP.sub [(0, _), (1, _), (2, _), (3, _), (4, _), (9, _)] ⟨rfl, rfl, rfl, rfl, rfl, rfl, trivial⟩ ?_
    refine AWP.condT rfl (by first | rfl | (simp; done) | (simp; omega)) ?_
    refine AWP.seq ?_
    refine AWP.region ?_
    refine rC (Calm.build (cs := [_, _, _, _, _]) ty_bld_90 rfl rfl) ?_
    refine ARun.boxA (cs := [_, _, _, _, _]) (lit_lt rfl) rfl ?_
    intro b11 f11
    have g11 := f11
    repeat ((with_reducible replace g11 := fresh_set g11); obtain ⟨g11, _⟩ := g11)
    (try simp only [List.length_cons, List.length_nil, Nat.zero_add, Nat.reduceAdd])
    refine rC (Calm.move rfl) ?_
    refine rC (Calm.assign rfl) ?_
    refine rC (Calm.assign rfl) ?_
    refine arun_nil ?_
    refine athen_n ?_
    refine AWP.sub [(0, _), (1, _), (2, _), (3, _), (4, _), (9, _)] ⟨rfl, rfl, rfl, rfl, rfl, rfl, trivial⟩ ?_
    refine AWP.ret ?_
    refine athen_ret ?_
    refine ⟨_, S.set b11 _, ⟨_, _, rfl, ⟨_, _, rfl, rfl, rfl⟩, rfl⟩, Less.set (Mem.less_set _ _ _ f1.1) _ _, ?_⟩
    exact ⟨b11, none, none, ⟨⟨okO_nil _, okO_nil _⟩, g11⟩, rfl, rfl⟩
end Go.Proofs.Ytkeiphkccnfhoaa
namespace Go.Proofs.Ytkeiphkccnfhoaa
open Go.RowKit
open Mv Disk
set_option linter.unusedVariables false
set_option linter.unusedSimpArgs false
set_option maxRecDepth 4000
/-- A disk at work that is read. -/
def RdV (M : Mem) (p : Nat) (d : D) : Prop := ∃ qe de qw dw, M.own p = some ⟨90, [.int .i64 d.size, .slice qe d.ext.length de, .slice qw d.waits.length dw, .int .i64 d.fuse, .bool d.down], 5⟩ ∧ Sl 2 extF M (.slice qe d.ext.length de) d.ext ∧ Sl 3 wrF M (.slice qw d.waits.length dw) d.waits
theorem RdV.less {M M' : Mem} {p : Nat} {d : D} (h : RdV M p d) (hl : M.Less M') : RdV M' p d := by
  obtain ⟨qe, de, qw, dw, h1, h2, h3⟩ := h
  exact ⟨qe, de, qw, dw, hl.own h1, h2.less hl, h3.less hl⟩
theorem OkV.rd {S : Mem} {p : Nat} {d : D} {oE oW : Option (Nat × Nat)} (h : OkV S p d oE oW) (he : d.ext.length ≤ 9223372036854775807) (hw : d.waits.length ≤ 9223372036854775807) : RdV (devM S p d oE oW) p d := by
  obtain ⟨a, c, e⟩ := outV_eq h.dk.e
  obtain ⟨a', c', e'⟩ := outV_eq h.dk.w
  have h1 := sl_outN ext_len (e := extT) h.dk.e rfl he
  have h2 := sl_outN wr_len (e := wrT) h.dk.w rfl hw
  rw [e] at h1; rw [e'] at h2
  have hl : (dkM S d oE oW).Less (devM S p d oE oW) := Mem.less_set _ _ _ h.fr.1
  refine ⟨a, c, a', c', ?_, (h1.less (outN_over h.dk.w)).less hl, h2.less hl⟩
  unfold devM; rw [e, e']; exact Mem.own_set_same _ _ _
theorem OkV.less {S : Mem} {p : Nat} {d : D} {oE oW : Option (Nat × Nat)} (h : OkV S p d oE oW) : S.Less (devM S p d oE oW) := h.dk.less.trans (Mem.less_set _ _ _ h.fr.1)
theorem right_len {d : D} (h : Right d) : d.ext.length ≤ 16384 ∧ used d.ext ≤ 16384 := by
  have h1 := used_ge h.ex.ok; have h2 := h.ex.us; have h3 := h.s1; omega
theorem right_sec {d : D} (h : Right d) {x : Ext} (hx : x ∈ d.ext) : sec x ≤ 16384 ∧ x.2.size = 64 * sec x ∧ 1 ≤ sec x := by
  have h1 := used_mem hx; have h2 := right_len h; have h3 := eok_sec (h.ex.ok x hx); omega
theorem openD_or (d : D) : (openD d = (D0, 2) ∧ ¬ Right d) ∨ (openD d = (d, 10) ∧ Right d ∧ d.down = true) ∨ (openD d = (d, 0) ∧ Right d ∧ d.down = false) := by
  unfold openD
  rcases chkD_or d with ⟨hk, hR⟩ | ⟨hk, hR⟩
  · right
    rw [if_pos hk]
    cases hdn : d.down with
    | true => left; exact ⟨rfl, hR, rfl⟩
    | false => right; exact ⟨rfl, hR, rfl⟩
  · left; rw [if_neg (by rw [hk]; decide)]; exact ⟨rfl, hR⟩
theorem used_take {l : List Ext} {i : Nat} (h : i < l.length) : used (l.take (i + 1)) = used (l.take i) + sec l[i] := by rw [take_get h, used_append]; simp [used]
theorem used_take_le (l : List Ext) (i : Nat) : used (l.take i) ≤ used l := by
  have := used_append (l.take i) (l.drop i)
  rw [List.take_append_drop] at this; omega
set_option maxHeartbeats 1000000 in
theorem dev_Room (p : Nat) (d : D) (M : Mem) (h : RdV M p d) (hR : Right d) : ACall Try.prog 58 #[.pointer (some ⟨p, 0, none⟩)] M fun r S' => r = .int .i64 (d.size - used d.ext) ∧ S' = M := by
  obtain ⟨qe, de, qw, dw, hp, hE, hW⟩ := h
  obtain ⟨_, _, ee1, ee2, ee3, hE3⟩ := id hE
  cases ee1
  have hrl := right_len hR
  have hs0 := hR.s0; have hs1 := hR.s1
  refine ACall.enter (args := [.pointer (some ⟨p, 0, none⟩)]) (rs := [.tmp 2]) 27 [(0, .pointer (some ⟨p, 0, none⟩))] Try.func58 rfl rfl (Nat.le_of_ble_eq_true rfl) rfl ⟨rfl, trivial⟩ ?_
  refine AWP.seq ?_
  refine AWP.region ?_
  refine rC (Calm.assign rfl) ?_
  refine arun_nil ?_
  refine athen_n ?_
  refine AWP.seq ?_
  refine AWP.region ?_
  refine rC (Calm.move rfl) ?_
  refine rC (Calm.nilCheck rfl) ?_
  refine rC (Calm.fieldAddr ty_field_90_0 rfl) ?_
  refine rC (Calm.fieldAddr ty_field_25_0 rfl) ?_
  refine rC (ld_ ty_plain_3 rfl) ?_
  refine rC (Calm.assign rfl) ?_
  refine arun_nil ?_
  refine athen_n ?_
  refine AWP.sub [(0, _), (2, _), (3, _)] ⟨rfl, rfl, rfl, trivial⟩ ?_
  refine AWP.seq ?_
  refine AWP.seq ?_
  refine AWP.region ?_
  refine rC (Calm.move rfl) ?_
  refine rC (Calm.nilCheck rfl) ?_
  refine rC (Calm.fieldAddr ty_field_90_0 rfl) ?_
  refine rC (Calm.fieldAddr ty_field_25_1 rfl) ?_
  refine rC (ld_ ty_plain_22 rfl) ?_
  refine rC (Calm.lenSl Try.underlying22 rfl) ?_
  refine rC (Calm.move rfl) ?_
  refine arun_nil ?_
  refine athen_n ?_
  refine AWP.sub [(0, _), (2, _), (3, _), (15, _), (16, _), (17, _)] ⟨rfl, rfl, rfl, rfl, rfl, rfl, trivial⟩ ?_
  refine AWP.block ?_
  refine AWP.loop (X := Nat) (fun x => [(3, .int .i64 (d.size - used (d.ext.take x))), (15, .slice qe d.ext.length de), (16, .int .i64 d.ext.length), (17, .int .i64 x)]) (fun x => M) (fun x => x ≤ d.ext.length) (fun x => d.ext.length - x) (0) ⟨some_int (by simp [used]), rfl, rfl, rfl, trivial⟩ (Mem.Less.refl _) (Nat.zero_le _) ?_
  rintro i hi
  (try dsimp only at *)
  refine AWP.seq ?_
  refine AWP.region ?_
  refine rC (Calm.bin rfl rfl b_lss) ?_
  refine arun_nil ?_
  refine athen_n ?_
  refine AWP.seq ?_
  refine AWP.condB rfl (fun hc => ?_) (fun hc => ?_)
  · have hc : i < d.ext.length := by have := of_decide_eq_true hc; omega
    obtain ⟨b, off, rfl, hk⟩ := hE3.resolve_left (fun e => by rw [e] at hc; simp at hc)
    have hki := hk i hc
    have hut := used_take hc
    have hul := used_take_le d.ext (i + 1)
    have hsx := right_sec hR (List.getElem_mem hc)
    generalize d.ext[i] = x at *
    unfold extF at hki
    refine AWP.skip ?_
    refine athen_n ?_
    refine AWP.seq ?_
    refine AWP.block ?_
    refine AWP.seq ?_
    refine AWP.region ?_
    refine rC (Calm.indexS Try.underlying22 ty_size_54 rfl rfl (by omega) (by omega)) ?_
    refine rC (ldA_ (cs := [_, _]) ty_agg_54 ty_size_54 rfl) ?_
    refine ARun.alloc (lit_lt rfl) ty_zero_54 ?_
    intro b5 f5
    have g5 := f5
    repeat ((with_reducible replace g5 := fresh_set g5); obtain ⟨g5, _⟩ := g5)
    have := g5.ne hp; have := g5.ne' hp
    (try simp only [List.length_cons, List.length_nil, Nat.zero_add, Nat.reduceAdd])
    first | refine ARun.storeAll rfl rfl ty_size_54 own_ rfl rfl ?_ | refine ARun.store rfl rfl ty_size_54 own_ lens_ rfl ?_
    (try simp only [Mem.set_set, List.set_cons_zero, List.set_cons_succ, Nat.zero_add, Nat.reduceAdd])
    refine arun_nil ?_
    refine athen_n ?_
    refine AWP.sub [(3, _), (15, _), (16, _), (17, _), (18, _), (5, _)] ⟨rfl, rfl, rfl, rfl, rfl, rfl, trivial⟩ ?_
    refine AWP.region ?_
    refine rC (Calm.move rfl) ?_
    refine rC (ldA_ (cs := [_, _]) ty_agg_54 ty_size_54 rfl) ?_
    refine ARun.call (lit_lt rfl) go_60 rfl (disk_sectors x _ (by omega)) ?_
    rintro _ S1 ⟨rfl, h1⟩
    rw [h1]; clear h1 S1
    refine rC (Calm.bin rfl rfl b_sub_i64) ?_
    refine rC (Calm.assign rfl) ?_
    refine arun_nil ?_
    refine ain_n ?_
    refine athen_n ?_
    refine AWP.sub [(3, _), (15, _), (16, _), (17, _), (18, _), (5, _)] ⟨rfl, rfl, rfl, rfl, rfl, rfl, trivial⟩ ?_
    refine AWP.region ?_
    refine rC (Calm.bin rfl rfl b_add_i64) ?_
    refine rC (Calm.move rfl) ?_
    refine arun_nil ?_
    refine athen_n ?_
    refine ⟨i + 1, ?_, ?_, ?_, ?_⟩
    all_goals (try dsimp only)
    · exact ⟨some_int (by omega), rfl, rfl, rfl, trivial⟩
    · exact less_
    · exact hc
    · omega
  · have hc : i = d.ext.length := by have := of_decide_eq_false hc; omega
    subst hc
    rw [List.take_length]
    refine AWP.exit ?_
    refine athen_exit ?_
    refine athen_exit ?_
    refine ain_same ?_
    refine athen_n ?_
    refine AWP.seq ?_
    refine AWP.region ?_
    refine rC (Calm.move rfl) ?_
    refine rC (Calm.assign rfl) ?_
    refine arun_nil ?_
    refine athen_n ?_
    refine AWP.sub [(3, _), (15, _), (16, _), (17, _), (18, _), (2, _)] ⟨rfl, rfl, rfl, rfl, rfl, rfl, trivial⟩ ?_
    refine AWP.ret ?_
    refine ⟨_, M, ⟨_, _, rfl, rfl, rfl⟩, less_, ?_⟩
    exact ⟨rfl, rfl⟩
/-- The extent of a name. -/
def exOf (l : List Ext) (s : ByteArray) : Ext := l.getD (pos l s) (ByteArray.empty, ByteArray.empty)
theorem exOf_eq {l : List Ext} {s : ByteArray} (h : pos l s < l.length) : exOf l s = l[pos l s] := by simp [exOf, List.getD, List.getElem?_eq_getElem h]
/-- Where an extent is that has a sector; why there is none. -/
def placeD (d : D) (s : ByteArray) (k : Int) : Nat × Int := if has d.ext s = true then (if k < 0 ∨ (sec (exOf d.ext s) : Int) ≤ k then (0, 1) else (pos d.ext s, 0)) else (0, 3)
set_option maxHeartbeats 1000000 in
theorem dev_place (p : Nat) (d : D) (s : ByteArray) (i : Int) (M : Mem) (h : RdV M p d) (hR : Right d) : ACall Try.prog 94 #[.pointer (some ⟨p, 0, none⟩), .string s, .int .i64 i] M fun r S' => r = .tuple #[.int .i64 ((placeD d s i).1 : Nat), .int .i64 (placeD d s i).2] ∧ S' = M := by
  obtain ⟨qe, de, qw, dw, hp, hME, hMW⟩ := h
  have hhp := has_pos hR.ex.asc s
  unfold placeD
  by_cases q : has d.ext s = true
  · obtain ⟨hlt, he⟩ := hhp.1 q
    have hsx := right_sec hR (List.getElem_mem hlt)
    have hfind := disk_find _ d.ext s M hME hR.ex.asc (Nat.le_trans (right_len hR).1 (by decide))
    rw [if_pos q, exOf_eq hlt]
    obtain ⟨_, _, ee1, ee2, ee3, hE3⟩ := id hME
    cases ee1
    obtain ⟨b, off, rfl, hk⟩ := hE3.resolve_left (fun e => by rw [e] at hlt; simp at hlt)
    have hki := hk _ hlt
    generalize hpp : pos d.ext s = k at *
    generalize d.ext[k] = x at *
    unfold extF at hki
    by_cases q1 : i < 0
    · rw [if_pos (.inl q1)]
      refine ACall.enter (args := [.pointer (some ⟨p, 0, none⟩), .string s, .int .i64 i]) (rs := [.tmp 6, .tmp 7]) 40 [(0, .pointer (some ⟨p, 0, none⟩)), (1, .string s), (2, .int .i64 i)] Try.func94 rfl rfl (Nat.le_of_ble_eq_true rfl) rfl ⟨rfl, rfl, rfl, trivial⟩ ?_
      refine AWP.seq ?_
      refine AWP.region ?_
      refine rC (Calm.assign rfl) ?_
      refine rC (Calm.assign rfl) ?_
      refine arun_nil ?_
      refine athen_n ?_
      refine AWP.seq ?_
      refine AWP.region ?_
      refine rC (Calm.move rfl) ?_
      refine rC (Calm.nilCheck rfl) ?_
      refine rC (Calm.fieldAddr ty_field_90_0 rfl) ?_
      refine rC (Calm.fieldAddr ty_field_25_1 rfl) ?_
      refine rC (ld_ ty_plain_22 rfl) ?_
      refine rC (Calm.move rfl) ?_
      refine ARun.call (lit_lt rfl) go_59 rfl (hfind) ?_
      rintro _ S1 ⟨rfl, h1⟩
      rw [h1, q]; clear h1 S1
      refine rC (Calm.move rfl) ?_
      refine rC (Calm.extract rfl rfl) ?_
      refine rC (Calm.extract rfl rfl) ?_
      refine rC (Calm.assign rfl) ?_
      refine rC (Calm.assign rfl) ?_
      refine arun_nil ?_
      refine athen_n ?_
      refine AWP.sub [(0, _), (1, _), (2, _), (6, _), (7, _), (8, _), (9, _)] ⟨rfl, rfl, rfl, rfl, rfl, rfl, rfl, trivial⟩ ?_
      refine AWP.seq ?_
      refine AWP.block ?_
      refine AWP.seq ?_
      refine AWP.region ?_
      refine rC (Calm.move rfl) ?_
      refine rC (Calm.un rfl (una_not _)) ?_
      refine rC (Calm.assign rfl) ?_
      refine arun_nil ?_
      refine athen_n ?_
      refine AWP.sub [(0, _), (1, _), (2, _), (6, _), (7, _), (8, _), (9, _), (20, _)] ⟨rfl, rfl, rfl, rfl, rfl, rfl, rfl, rfl, trivial⟩ ?_
      refine AWP.condF rfl (by first | rfl | (simp; done) | (simp; omega)) ?_
      refine AWP.seq ?_
      refine AWP.region ?_
      refine rC (Calm.move rfl) ?_
      refine rC (Calm.bin rfl rfl b_lss) ?_
      refine rC (Calm.move rfl) ?_
      first | refine rS 26 ?_ | refine rU 26 ?_ | refine rG 26 (Calm.move rfl) ?_
      first | refine rS 26 ?_ | refine rU 26 ?_ | refine rG 26 (Calm.move rfl) ?_
      first | refine rS 26 ?_ | refine rU 26 ?_ | refine rG 26 (Calm.nilCheck rfl) ?_
      first | refine rS 26 ?_ | refine rU 26 ?_ | refine rG 26 (Calm.fieldAddr ty_field_90_0 rfl) ?_
      first | refine rS 26 ?_ | refine rU 26 ?_ | refine rG 26 (Calm.fieldAddr ty_field_25_1 rfl) ?_
      first | refine rS 26 ?_ | refine rU 26 ?_ | refine rG 26 (ld_ ty_plain_22 rfl) ?_
      first | refine rS 26 ?_ | refine rU 26 ?_ | refine rG 26 (Calm.move rfl) ?_
      first | refine rS 26 ?_ | refine rU 26 ?_ | refine rG 26 (Calm.indexS Try.underlying22 ty_size_54 rfl rfl (by omega) (by omega)) ?_
      first | refine rS 26 ?_ | refine rU 26 ?_ | refine rG 26 (ldA_ (cs := [_, _]) ty_agg_54 ty_size_54 rfl) ?_
      first | refine rS 26 ?_ | refine rU 26 ?_
      first | refine rS 26 ?_ | refine rU 26 ?_ | refine rG 26 (Calm.bin rfl rfl b_geq) ?_
      refine rC ((by first | exact Calm.pickT rfl rfl | exact Calm.pickF rfl rfl)) ?_
      refine rC (Calm.assign rfl) ?_
      refine arun_nil ?_
      refine athen_n ?_
      refine AWP.sub [(0, _), (1, _), (2, _), (6, _), (7, _), (8, _), (9, _), (20, _), (23, _)] ⟨rfl, rfl, rfl, rfl, rfl, rfl, rfl, rfl, rfl, trivial⟩ ?_
      refine AWP.condT rfl (by first | rfl | (simp; done) | (simp; omega)) ?_
      refine AWP.seq ?_
      refine AWP.region ?_
      refine rC (Calm.assign rfl) ?_
      refine rC (Calm.assign rfl) ?_
      refine arun_nil ?_
      refine athen_n ?_
      refine AWP.ret ?_
      refine ain_ret ?_
      refine athen_ret ?_
      refine ⟨_, M, ⟨_, _, rfl, ⟨_, _, rfl, rfl, rfl⟩, rfl⟩, less_, ?_⟩
      exact ⟨rfl, rfl⟩
    · by_cases q2 : (sec x : Int) ≤ i
      · rw [if_pos (.inr q2)]
        refine ACall.enter (args := [.pointer (some ⟨p, 0, none⟩), .string s, .int .i64 i]) (rs := [.tmp 6, .tmp 7]) 40 [(0, .pointer (some ⟨p, 0, none⟩)), (1, .string s), (2, .int .i64 i)] Try.func94 rfl rfl (Nat.le_of_ble_eq_true rfl) rfl ⟨rfl, rfl, rfl, trivial⟩ ?_
        refine AWP.seq ?_
        refine AWP.region ?_
        refine rC (Calm.assign rfl) ?_
        refine rC (Calm.assign rfl) ?_
        refine arun_nil ?_
        refine athen_n ?_
        refine AWP.seq ?_
        refine AWP.region ?_
        refine rC (Calm.move rfl) ?_
        refine rC (Calm.nilCheck rfl) ?_
        refine rC (Calm.fieldAddr ty_field_90_0 rfl) ?_
        refine rC (Calm.fieldAddr ty_field_25_1 rfl) ?_
        refine rC (ld_ ty_plain_22 rfl) ?_
        refine rC (Calm.move rfl) ?_
        refine ARun.call (lit_lt rfl) go_59 rfl (hfind) ?_
        rintro _ S1 ⟨rfl, h1⟩
        rw [h1, q]; clear h1 S1
        refine rC (Calm.move rfl) ?_
        refine rC (Calm.extract rfl rfl) ?_
        refine rC (Calm.extract rfl rfl) ?_
        refine rC (Calm.assign rfl) ?_
        refine rC (Calm.assign rfl) ?_
        refine arun_nil ?_
        refine athen_n ?_
        refine AWP.sub [(0, _), (1, _), (2, _), (6, _), (7, _), (8, _), (9, _)] ⟨rfl, rfl, rfl, rfl, rfl, rfl, rfl, trivial⟩ ?_
        refine AWP.seq ?_
        refine AWP.block ?_
        refine AWP.seq ?_
        refine AWP.region ?_
        refine rC (Calm.move rfl) ?_
        refine rC (Calm.un rfl (una_not _)) ?_
        refine rC (Calm.assign rfl) ?_
        refine arun_nil ?_
        refine athen_n ?_
        refine AWP.sub [(0, _), (1, _), (2, _), (6, _), (7, _), (8, _), (9, _), (20, _)] ⟨rfl, rfl, rfl, rfl, rfl, rfl, rfl, rfl, trivial⟩ ?_
        refine AWP.condF rfl (by first | rfl | (simp; done) | (simp; omega)) ?_
        refine AWP.seq ?_
        refine AWP.region ?_
        refine rC (Calm.move rfl) ?_
        refine rC (Calm.bin rfl rfl b_lss) ?_
        refine rC (Calm.move rfl) ?_
        first | refine rS 26 ?_ | refine rU 26 ?_ | refine rG 26 (Calm.move rfl) ?_
        first | refine rS 26 ?_ | refine rU 26 ?_ | refine rG 26 (Calm.move rfl) ?_
        first | refine rS 26 ?_ | refine rU 26 ?_ | refine rG 26 (Calm.nilCheck rfl) ?_
        first | refine rS 26 ?_ | refine rU 26 ?_ | refine rG 26 (Calm.fieldAddr ty_field_90_0 rfl) ?_
        first | refine rS 26 ?_ | refine rU 26 ?_ | refine rG 26 (Calm.fieldAddr ty_field_25_1 rfl) ?_
        first | refine rS 26 ?_ | refine rU 26 ?_ | refine rG 26 (ld_ ty_plain_22 rfl) ?_
        first | refine rS 26 ?_ | refine rU 26 ?_ | refine rG 26 (Calm.move rfl) ?_
        first | refine rS 26 ?_ | refine rU 26 ?_ | refine rG 26 (Calm.indexS Try.underlying22 ty_size_54 rfl rfl (by omega) (by omega)) ?_
        first | refine rS 26 ?_ | refine rU 26 ?_ | refine rG 26 (ldA_ (cs := [_, _]) ty_agg_54 ty_size_54 rfl) ?_
        refine ARun.callG 2 false 26 rfl (lit_lt rfl) rfl (lit_lt rfl) go_60 rfl (disk_sectors x _ (by omega)) ?_
        rintro _ S1 ⟨rfl, h1⟩
        rw [h1]; clear h1 S1
        first | refine rS 26 ?_ | refine rU 26 ?_ | refine rG 26 (Calm.bin rfl rfl b_geq) ?_
        refine rC ((by first | exact Calm.pickT rfl rfl | exact Calm.pickF rfl rfl)) ?_
        refine rC (Calm.assign rfl) ?_
        refine arun_nil ?_
        refine athen_n ?_
        refine AWP.sub [(0, _), (1, _), (2, _), (6, _), (7, _), (8, _), (9, _), (20, _), (23, _)] ⟨rfl, rfl, rfl, rfl, rfl, rfl, rfl, rfl, rfl, trivial⟩ ?_
        refine AWP.condT rfl (by first | rfl | (simp; done) | (simp; omega)) ?_
        refine AWP.seq ?_
        refine AWP.region ?_
        refine rC (Calm.assign rfl) ?_
        refine rC (Calm.assign rfl) ?_
        refine arun_nil ?_
        refine athen_n ?_
        refine AWP.ret ?_
        refine ain_ret ?_
        refine athen_ret ?_
        refine ⟨_, M, ⟨_, _, rfl, ⟨_, _, rfl, rfl, rfl⟩, rfl⟩, less_, ?_⟩
        exact ⟨rfl, rfl⟩
      · rw [if_neg (by omega)]
        refine ACall.enter (args := [.pointer (some ⟨p, 0, none⟩), .string s, .int .i64 i]) (rs := [.tmp 6, .tmp 7]) 40 [(0, .pointer (some ⟨p, 0, none⟩)), (1, .string s), (2, .int .i64 i)] Try.func94 rfl rfl (Nat.le_of_ble_eq_true rfl) rfl ⟨rfl, rfl, rfl, trivial⟩ ?_
        refine AWP.seq ?_
        refine AWP.region ?_
        refine rC (Calm.assign rfl) ?_
        refine rC (Calm.assign rfl) ?_
        refine arun_nil ?_
        refine athen_n ?_
        refine AWP.seq ?_
        refine AWP.region ?_
        refine rC (Calm.move rfl) ?_
        refine rC (Calm.nilCheck rfl) ?_
        refine rC (Calm.fieldAddr ty_field_90_0 rfl) ?_
        refine rC (Calm.fieldAddr ty_field_25_1 rfl) ?_
        refine rC (ld_ ty_plain_22 rfl) ?_
        refine rC (Calm.move rfl) ?_
        refine ARun.call (lit_lt rfl) go_59 rfl (hfind) ?_
        rintro _ S1 ⟨rfl, h1⟩
        rw [h1, q]; clear h1 S1
        refine rC (Calm.move rfl) ?_
        refine rC (Calm.extract rfl rfl) ?_
        refine rC (Calm.extract rfl rfl) ?_
        refine rC (Calm.assign rfl) ?_
        refine rC (Calm.assign rfl) ?_
        refine arun_nil ?_
        refine athen_n ?_
        refine AWP.sub [(0, _), (1, _), (2, _), (6, _), (7, _), (8, _), (9, _)] ⟨rfl, rfl, rfl, rfl, rfl, rfl, rfl, trivial⟩ ?_
        refine AWP.seq ?_
        refine AWP.block ?_
        refine AWP.seq ?_
        refine AWP.region ?_
        refine rC (Calm.move rfl) ?_
        refine rC (Calm.un rfl (una_not _)) ?_
        refine rC (Calm.assign rfl) ?_
        refine arun_nil ?_
        refine athen_n ?_
        refine AWP.sub [(0, _), (1, _), (2, _), (6, _), (7, _), (8, _), (9, _), (20, _)] ⟨rfl, rfl, rfl, rfl, rfl, rfl, rfl, rfl, trivial⟩ ?_
        refine AWP.condF rfl (by first | rfl | (simp; done) | (simp; omega)) ?_
        refine AWP.seq ?_
        refine AWP.region ?_
        refine rC (Calm.move rfl) ?_
        refine rC (Calm.bin rfl rfl b_lss) ?_
        refine rC (Calm.move rfl) ?_
        first | refine rS 26 ?_ | refine rU 26 ?_ | refine rG 26 (Calm.move rfl) ?_
        first | refine rS 26 ?_ | refine rU 26 ?_ | refine rG 26 (Calm.move rfl) ?_
        first | refine rS 26 ?_ | refine rU 26 ?_ | refine rG 26 (Calm.nilCheck rfl) ?_
        first | refine rS 26 ?_ | refine rU 26 ?_ | refine rG 26 (Calm.fieldAddr ty_field_90_0 rfl) ?_
        first | refine rS 26 ?_ | refine rU 26 ?_ | refine rG 26 (Calm.fieldAddr ty_field_25_1 rfl) ?_
        first | refine rS 26 ?_ | refine rU 26 ?_ | refine rG 26 (ld_ ty_plain_22 rfl) ?_
        first | refine rS 26 ?_ | refine rU 26 ?_ | refine rG 26 (Calm.move rfl) ?_
        first | refine rS 26 ?_ | refine rU 26 ?_ | refine rG 26 (Calm.indexS Try.underlying22 ty_size_54 rfl rfl (by omega) (by omega)) ?_
        first | refine rS 26 ?_ | refine rU 26 ?_ | refine rG 26 (ldA_ (cs := [_, _]) ty_agg_54 ty_size_54 rfl) ?_
        refine ARun.callG 2 false 26 rfl (lit_lt rfl) rfl (lit_lt rfl) go_60 rfl (disk_sectors x _ (by omega)) ?_
        rintro _ S1 ⟨rfl, h1⟩
        rw [h1]; clear h1 S1
        first | refine rS 26 ?_ | refine rU 26 ?_ | refine rG 26 (Calm.bin rfl rfl b_geq) ?_
        refine rC ((by first | exact Calm.pickT rfl rfl | exact Calm.pickF rfl rfl)) ?_
        refine rC (Calm.assign rfl) ?_
        refine arun_nil ?_
        refine athen_n ?_
        refine AWP.sub [(0, _), (1, _), (2, _), (6, _), (7, _), (8, _), (9, _), (20, _), (23, _)] ⟨rfl, rfl, rfl, rfl, rfl, rfl, rfl, rfl, rfl, trivial⟩ ?_
        refine AWP.condF rfl (by first | rfl | (simp; done) | (simp; omega)) ?_
        refine AWP.skip ?_
        refine ain_n ?_
        refine athen_n ?_
        refine AWP.seq ?_
        refine AWP.region ?_
        refine rC (Calm.move rfl) ?_
        refine rC (Calm.assign rfl) ?_
        refine rC (Calm.assign rfl) ?_
        refine arun_nil ?_
        refine athen_n ?_
        refine AWP.sub [(0, _), (1, _), (2, _), (6, _), (7, _), (8, _), (9, _), (20, _), (23, _)] ⟨rfl, rfl, rfl, rfl, rfl, rfl, rfl, rfl, rfl, trivial⟩ ?_
        refine AWP.ret ?_
        refine ⟨_, M, ⟨_, _, rfl, ⟨_, _, rfl, rfl, rfl⟩, rfl⟩, less_, ?_⟩
        exact ⟨rfl, rfl⟩
  · rw [if_neg q]
    refine ACall.enter (args := [.pointer (some ⟨p, 0, none⟩), .string s, .int .i64 i]) (rs := [.tmp 6, .tmp 7]) 40 [(0, .pointer (some ⟨p, 0, none⟩)), (1, .string s), (2, .int .i64 i)] Try.func94 rfl rfl (Nat.le_of_ble_eq_true rfl) rfl ⟨rfl, rfl, rfl, trivial⟩ ?_
    refine AWP.seq ?_
    refine AWP.region ?_
    refine rC (Calm.assign rfl) ?_
    refine rC (Calm.assign rfl) ?_
    refine arun_nil ?_
    refine athen_n ?_
    refine AWP.seq ?_
    refine AWP.region ?_
    refine rC (Calm.move rfl) ?_
    refine rC (Calm.nilCheck rfl) ?_
    refine rC (Calm.fieldAddr ty_field_90_0 rfl) ?_
    refine rC (Calm.fieldAddr ty_field_25_1 rfl) ?_
    refine rC (ld_ ty_plain_22 rfl) ?_
    refine rC (Calm.move rfl) ?_
    refine ARun.call (lit_lt rfl) go_59 rfl (disk_find _ d.ext s _ hME hR.ex.asc (Nat.le_trans (right_len hR).1 (by decide))) ?_
    rintro _ S1 ⟨rfl, h1⟩
    rw [h1, Bool.eq_false_iff.2 q]; clear h1 S1
    refine rC (Calm.move rfl) ?_
    refine rC (Calm.extract rfl rfl) ?_
    refine rC (Calm.extract rfl rfl) ?_
    refine rC (Calm.assign rfl) ?_
    refine rC (Calm.assign rfl) ?_
    refine arun_nil ?_
    refine athen_n ?_
    refine AWP.sub [(0, _), (1, _), (2, _), (6, _), (7, _), (8, _), (9, _)] ⟨rfl, rfl, rfl, rfl, rfl, rfl, rfl, trivial⟩ ?_
    refine AWP.seq ?_
    refine AWP.block ?_
    refine AWP.seq ?_
    refine AWP.region ?_
    refine rC (Calm.move rfl) ?_
    refine rC (Calm.un rfl (una_not _)) ?_
    refine rC (Calm.assign rfl) ?_
    refine arun_nil ?_
    refine athen_n ?_
    refine AWP.sub [(0, _), (1, _), (2, _), (6, _), (7, _), (8, _), (9, _), (20, _)] ⟨rfl, rfl, rfl, rfl, rfl, rfl, rfl, rfl, trivial⟩ ?_
    refine AWP.condT rfl (by first | rfl | (simp; done) | (simp; omega)) ?_
    refine AWP.seq ?_
    refine AWP.region ?_
    refine rC (Calm.assign rfl) ?_
    refine rC (Calm.assign rfl) ?_
    refine arun_nil ?_
    refine athen_n ?_
    refine AWP.ret ?_
    refine ain_ret ?_
    refine athen_ret ?_
    refine ⟨_, M, ⟨_, _, rfl, ⟨_, _, rfl, rfl, rfl⟩, rfl⟩, less_, ?_⟩
    exact ⟨rfl, rfl⟩
end Go.Proofs.Ytkeiphkccnfhoaa
namespace Go.Proofs.Ytkeiphkccnfhoaa
open Go.RowKit
open Mv Disk
set_option linter.unusedVariables false
set_option linter.unusedSimpArgs false
set_option maxRecDepth 4000
theorem spl_mid {A Y X B : List Value} {k : Nat} (hk : A.length = k) (hl : Y.length = X.length) : spl (A ++ (Y ++ B)) k X = A ++ (X ++ B) := by
  subst hk
  unfold spl
  rw [List.take_left, ← List.drop_drop, List.drop_left, ← hl, List.drop_left, List.append_assoc]
theorem spl_end {A Y X : List Value} {k : Nat} (hk : A.length = k) (hl : Y.length ≤ X.length) : spl (A ++ Y) k X = A ++ X := by
  subst hk
  unfold spl
  rw [List.take_left, List.drop_of_length_le (by rw [List.length_append]; omega), List.append_nil]
theorem flat_take {α : Type} {n : Nat} {f : α → List Value} (l : List α) (i : Nat) : l.flatMap f = (l.take i).flatMap f ++ (l.drop i).flatMap f := by
  rw [← List.flatMap_append, List.take_append_drop]
theorem room_cells {A D X : List Value} {i : Nat} (hA : A.length = i * 2) (hX : X.length = 2) (hD : 2 ≤ D.length) : spl (spl (A ++ D) (0 + (i + 1) * 2) D) (0 + i * 2) X = A ++ (X ++ D) := by
  have e : spl (A ++ D) (0 + (i + 1) * 2) D = A ++ (D.take 2 ++ D) := by
    have e1 : A ++ D = (A ++ D.take 2) ++ D.drop 2 := by rw [List.append_assoc, List.take_append_drop]
    rw [e1, spl_end (by simp [hA]; omega) (by simp), List.append_assoc]
  rw [e]
  exact spl_mid (by omega) (by simp [hX]; omega)
theorem grow_cells {A D X zs : List Value} {i : Nat} (hA : A.length = i * 2) (hX : X.length = 2) (hz : zs.length = 2 + D.length) : spl (spl (A ++ zs) (0 + i * 2) X) (0 + (i + 1) * 2) D = A ++ (X ++ D) := by
  have e : spl (A ++ zs) (0 + i * 2) X = (A ++ X) ++ zs.drop 2 := by
    have e1 : A ++ zs = A ++ (zs.take 2 ++ zs.drop 2) := by rw [List.take_append_drop]
    rw [e1, spl_mid (by omega) (by simp [hX]; omega), List.append_assoc]
  rw [e, spl_end (by simp [hA, hX]; omega) (by simp; omega), List.append_assoc]
def insAt (l : List Ext) (i : Nat) (x : Ext) : List Ext := l.take i ++ x :: l.drop i
theorem ins_flat (l : List Ext) (i : Nat) (x : Ext) : (insAt l i x).flatMap extF = (l.take i).flatMap extF ++ (extF x ++ (l.drop i).flatMap extF) := by
  unfold insAt; rw [List.flatMap_append, List.flatMap_cons]
theorem ins_len {l : List Ext} {i : Nat} (h : i ≤ l.length) (x : Ext) : (insAt l i x).length = l.length + 1 := by
  unfold insAt; simp; omega
set_option maxHeartbeats 2000000 in
theorem ins_ext (B : Mem) (o : Option (Nat × Nat)) (l : List Ext) (i : Nat) (x : Ext) (t : Nat) (ho : OkO B o l.length) (ht : Fresh (outN 2 B o extT (l.flatMap extF)) t) (hi : i ≤ l.length) (hlen : l.length ≤ 16384) :
    ACall Try.prog 84 #[outV o l.length, .int .i64 (i : Int), .slice (some ⟨t, 0, none⟩) 1 1] ((outN 2 B o extT (l.flatMap extF)).set t ⟨extT, extF x, 2⟩) fun r S' => ∃ o', OkO B o' (l.length + 1) ∧ r = outV o' (l.length + 1) ∧ S' = outN 2 B o' extT ((insAt l i x).flatMap extF) := by
  have hfl := flat_length ext_len l
  have hx1 : ∀ v ∈ extF x, v.oneCell' = true := fun v hv => ext_one [x] v (by simpa using hv)
  have happ : AppN 2 ((outN 2 B o extT (l.flatMap extF)).set t ⟨extT, extF x, 2⟩) B o extT (l.flatMap extF) := (appN_self ho hfl).temp ht
  by_cases hil : i = l.length
  · subst hil
    have he : (insAt l l.length x).flatMap extF = l.flatMap extF ++ extF x := by rw [ins_flat]; simp
    rw [he]
    cases o with
    | none =>
      obtain rfl : l = [] := List.eq_nil_of_length_eq_zero (ho.nil rfl)
      refine ACall.enter (args := [.slice none 0 0, .int .i64 0, .slice (some ⟨t, 0, none⟩) 1 1]) (rs := [.tmp 6]) 95 [(0, .slice none 0 0), (1, .int .i64 0), (2, .slice (some ⟨t, 0, none⟩) 1 1)] Try.func84 rfl rfl (Nat.le_of_ble_eq_true rfl) rfl ⟨rfl, rfl, rfl, trivial⟩ ?_
      refine AWP.seq ?_
      refine AWP.region ?_
      refine rC (Calm.assign rfl) ?_
      refine arun_nil ?_
      refine athen_n ?_
      refine AWP.seq ?_
      refine AWP.region ?_
      refine rC (Calm.move rfl) ?_
      refine rC (Calm.move rfl) ?_
      refine rC ((by first | exact Calm.sliceSl Try.underlying22 ty_size_54 rfl (bnd_none _ _) (by simp) (bnd_none _ _) (bnd_some _ _ rfl (by omega) (by omega)) | exact Calm.sliceNil Try.underlying22 ty_size_54 rfl (bnd_none _ _) (by simp) (bnd_none _ _) (bnd_zero _ _ rfl))) ?_
      refine arun_nil ?_
      refine athen_n ?_
      refine AWP.sub [(0, _), (1, _), (2, _), (6, _)] ⟨rfl, rfl, rfl, rfl, trivial⟩ ?_
      refine AWP.seq ?_
      refine AWP.region ?_
      refine rC (Calm.move rfl) ?_
      refine rC (Calm.lenSl Try.underlying22 rfl) ?_
      refine rC (Calm.assign rfl) ?_
      refine arun_nil ?_
      refine athen_n ?_
      refine AWP.sub [(0, _), (1, _), (2, _), (6, _), (7, _)] ⟨rfl, rfl, rfl, rfl, rfl, trivial⟩ ?_
      refine AWP.seq ?_
      refine AWP.seq ?_
      refine AWP.region ?_
      refine rC (Calm.move rfl) ?_
      refine rC (Calm.bin rfl rfl b_eql) ?_
      refine arun_nil ?_
      refine athen_n ?_
      refine AWP.sub [(0, _), (1, _), (2, _), (6, _), (7, _), (16, _)] ⟨rfl, rfl, rfl, rfl, rfl, rfl, trivial⟩ ?_
      refine AWP.condF rfl (by first | rfl | (simp; done) | (simp; omega)) ?_
      refine AWP.skip ?_
      refine athen_n ?_
      refine AWP.seq ?_
      refine AWP.region ?_
      refine rC (Calm.move rfl) ?_
      refine rC (Calm.lenSl Try.underlying22 rfl) ?_
      refine rC (Calm.assign rfl) ?_
      refine arun_nil ?_
      refine athen_n ?_
      refine AWP.sub [(0, _), (1, _), (2, _), (6, _), (7, _), (16, _), (8, _)] ⟨rfl, rfl, rfl, rfl, rfl, rfl, rfl, trivial⟩ ?_
      refine AWP.seq ?_
      refine AWP.seq ?_
      refine AWP.region ?_
      refine rC (Calm.move rfl) ?_
      refine rC (Calm.move rfl) ?_
      refine rC (Calm.bin rfl rfl b_eql) ?_
      refine arun_nil ?_
      refine athen_n ?_
      refine AWP.sub [(0, _), (1, _), (2, _), (6, _), (7, _), (16, _), (8, _), (22, _)] ⟨rfl, rfl, rfl, rfl, rfl, rfl, rfl, rfl, trivial⟩ ?_
      refine AWP.condT rfl (by first | rfl | (simp; done) | (simp; omega)) ?_
      refine AWP.seq ?_
      refine AWP.region ?_
      refine rC (Calm.move rfl) ?_
      refine rC (Calm.move rfl) ?_
      refine ARun.appendOK (n := 2) (o := none) (k := 0) (m := 1) (cs := []) (lit_lt rfl) ty_sl_22 rfl rfl hfl ho happ rfl (src_own (Mem.own_set_same _ _ _) List.prefix_rfl) rfl hx1 (by omega) (by omega) ?_
      intro o' ho'
      refine rC (Calm.assign rfl) ?_
      refine arun_nil ?_
      refine athen_n ?_
      refine AWP.sub [(0, _), (1, _), (2, _), (6, _), (7, _), (16, _), (8, _), (22, _)] ⟨rfl, rfl, rfl, rfl, rfl, rfl, rfl, rfl, trivial⟩ ?_
      refine AWP.ret ?_
      refine athen_ret ?_
      refine ⟨_, _, ⟨_, _, rfl, rfl, rfl⟩, Mem.Less.refl _, ?_⟩
      exact ⟨o', ho', rfl, rfl⟩
    | some q =>
      obtain ⟨b, c⟩ := q
      have hc := (ho.own b c rfl).2
      refine ACall.enter (args := [outV (some (b, c)) l.length, .int .i64 (l.length : Int), .slice (some ⟨t, 0, none⟩) 1 1]) (rs := [.tmp 6]) 95 [(0, outV (some (b, c)) l.length), (1, .int .i64 (l.length : Int)), (2, .slice (some ⟨t, 0, none⟩) 1 1)] Try.func84 rfl rfl (Nat.le_of_ble_eq_true rfl) rfl ⟨rfl, rfl, rfl, trivial⟩ ?_
      refine AWP.seq ?_
      refine AWP.region ?_
      refine rC (Calm.assign rfl) ?_
      refine arun_nil ?_
      refine athen_n ?_
      refine AWP.seq ?_
      refine AWP.region ?_
      refine rC (Calm.move rfl) ?_
      refine rC (Calm.move rfl) ?_
      refine rC ((by first | exact Calm.sliceSl Try.underlying22 ty_size_54 rfl (bnd_none _ _) (by simp) (bnd_none _ _) (bnd_some _ _ rfl (by omega) (by omega)) | exact Calm.sliceNil Try.underlying22 ty_size_54 rfl (bnd_none _ _) (by simp) (bnd_none _ _) (bnd_zero _ _ rfl))) ?_
      refine arun_nil ?_
      refine athen_n ?_
      refine AWP.sub [(0, _), (1, _), (2, _), (6, _)] ⟨rfl, rfl, rfl, rfl, trivial⟩ ?_
      refine AWP.seq ?_
      refine AWP.region ?_
      refine rC (Calm.move rfl) ?_
      refine rC (Calm.lenSl Try.underlying22 rfl) ?_
      refine rC (Calm.assign rfl) ?_
      refine arun_nil ?_
      refine athen_n ?_
      refine AWP.sub [(0, _), (1, _), (2, _), (6, _), (7, _)] ⟨rfl, rfl, rfl, rfl, rfl, trivial⟩ ?_
      refine AWP.seq ?_
      refine AWP.seq ?_
      refine AWP.region ?_
      refine rC (Calm.move rfl) ?_
      refine rC (Calm.bin rfl rfl b_eql) ?_
      refine arun_nil ?_
      refine athen_n ?_
      refine AWP.sub [(0, _), (1, _), (2, _), (6, _), (7, _), (16, _)] ⟨rfl, rfl, rfl, rfl, rfl, rfl, trivial⟩ ?_
      refine AWP.condF rfl (by first | rfl | (simp; done) | (simp; omega)) ?_
      refine AWP.skip ?_
      refine athen_n ?_
      refine AWP.seq ?_
      refine AWP.region ?_
      refine rC (Calm.move rfl) ?_
      refine rC (Calm.lenSl Try.underlying22 rfl) ?_
      refine rC (Calm.assign rfl) ?_
      refine arun_nil ?_
      refine athen_n ?_
      refine AWP.sub [(0, _), (1, _), (2, _), (6, _), (7, _), (16, _), (8, _)] ⟨rfl, rfl, rfl, rfl, rfl, rfl, rfl, trivial⟩ ?_
      refine AWP.seq ?_
      refine AWP.seq ?_
      refine AWP.region ?_
      refine rC (Calm.move rfl) ?_
      refine rC (Calm.move rfl) ?_
      refine rC (Calm.bin rfl rfl b_eql) ?_
      refine arun_nil ?_
      refine athen_n ?_
      refine AWP.sub [(0, _), (1, _), (2, _), (6, _), (7, _), (16, _), (8, _), (22, _)] ⟨rfl, rfl, rfl, rfl, rfl, rfl, rfl, rfl, trivial⟩ ?_
      refine AWP.condT rfl (by first | rfl | (simp; done) | (simp; omega)) ?_
      refine AWP.seq ?_
      refine AWP.region ?_
      refine rC (Calm.move rfl) ?_
      refine rC (Calm.move rfl) ?_
      refine ARun.appendOK (n := 2) (o := some (b, c)) (k := l.length) (m := 1) (cs := l.flatMap extF) (lit_lt rfl) ty_sl_22 rfl rfl hfl ho happ rfl (src_own (Mem.own_set_same _ _ _) List.prefix_rfl) rfl hx1 (by omega) (by omega) ?_
      intro o' ho'
      refine rC (Calm.assign rfl) ?_
      refine arun_nil ?_
      refine athen_n ?_
      refine AWP.sub [(0, _), (1, _), (2, _), (6, _), (7, _), (16, _), (8, _), (22, _)] ⟨rfl, rfl, rfl, rfl, rfl, rfl, rfl, rfl, trivial⟩ ?_
      refine AWP.ret ?_
      refine athen_ret ?_
      refine ⟨_, _, ⟨_, _, rfl, rfl, rfl⟩, Mem.Less.refl _, ?_⟩
      exact ⟨o', ho', rfl, rfl⟩
  · obtain ⟨⟨b, c⟩, rfl⟩ : ∃ q, o = some q := by
      cases o with
      | none => have := ho.nil rfl; omega
      | some q => exact ⟨q, rfl⟩
    have hc := (ho.own b c rfl).2
    have hfb := (ho.own b c rfl).1
    obtain ⟨htB, htb⟩ := fresh_set ht
    have hA := flat_length ext_len (l.take i)
    have hD := flat_length ext_len (l.drop i)
    rw [List.length_take, Nat.min_eq_left hi] at hA
    rw [List.length_drop] at hD
    have hsplit := flat_take (n := 2) (f := extF) l i
    have hsl : (spl (l.flatMap extF) (0 + (i + 1) * 2) ((l.drop i).flatMap extF)).length = l.length * 2 + 2 := by
      unfold spl; simp only [List.length_append, List.length_take, List.length_drop, hfl, hD]; omega
    rw [ins_flat]
    dsimp only [outN, outV]
    by_cases hroom : l.length + 1 ≤ c
    · skip
      refine ACall.enter (args := [.slice (some ⟨b, 0, none⟩) l.length c, .int .i64 (i : Int), .slice (some ⟨t, 0, none⟩) 1 1]) (rs := [.tmp 6]) 95 [(0, .slice (some ⟨b, 0, none⟩) l.length c), (1, .int .i64 (i : Int)), (2, .slice (some ⟨t, 0, none⟩) 1 1)] Try.func84 rfl rfl (Nat.le_of_ble_eq_true rfl) rfl ⟨rfl, rfl, rfl, trivial⟩ ?_
      refine AWP.seq ?_
      refine AWP.region ?_
      refine rC (Calm.assign rfl) ?_
      refine arun_nil ?_
      refine athen_n ?_
      refine AWP.seq ?_
      refine AWP.region ?_
      refine rC (Calm.move rfl) ?_
      refine rC (Calm.move rfl) ?_
      refine rC ((by first | exact Calm.sliceSl Try.underlying22 ty_size_54 rfl (bnd_none _ _) (by simp) (bnd_none _ _) (bnd_some _ _ rfl (by omega) (by omega)) | exact Calm.sliceNil Try.underlying22 ty_size_54 rfl (bnd_none _ _) (by simp) (bnd_none _ _) (bnd_zero _ _ rfl))) ?_
      refine arun_nil ?_
      refine athen_n ?_
      refine AWP.sub [(0, _), (1, _), (2, _), (6, _)] ⟨rfl, rfl, rfl, rfl, trivial⟩ ?_
      refine AWP.seq ?_
      refine AWP.region ?_
      refine rC (Calm.move rfl) ?_
      refine rC (Calm.lenSl Try.underlying22 rfl) ?_
      refine rC (Calm.assign rfl) ?_
      refine arun_nil ?_
      refine athen_n ?_
      refine AWP.sub [(0, _), (1, _), (2, _), (6, _), (7, _)] ⟨rfl, rfl, rfl, rfl, rfl, trivial⟩ ?_
      refine AWP.seq ?_
      refine AWP.seq ?_
      refine AWP.region ?_
      refine rC (Calm.move rfl) ?_
      refine rC (Calm.bin rfl rfl b_eql) ?_
      refine arun_nil ?_
      refine athen_n ?_
      refine AWP.sub [(0, _), (1, _), (2, _), (6, _), (7, _), (16, _)] ⟨rfl, rfl, rfl, rfl, rfl, rfl, trivial⟩ ?_
      refine AWP.condF rfl (by first | rfl | (simp; done) | (simp; omega)) ?_
      refine AWP.skip ?_
      refine athen_n ?_
      refine AWP.seq ?_
      refine AWP.region ?_
      refine rC (Calm.move rfl) ?_
      refine rC (Calm.lenSl Try.underlying22 rfl) ?_
      refine rC (Calm.assign rfl) ?_
      refine arun_nil ?_
      refine athen_n ?_
      refine AWP.sub [(0, _), (1, _), (2, _), (6, _), (7, _), (16, _), (8, _)] ⟨rfl, rfl, rfl, rfl, rfl, rfl, rfl, trivial⟩ ?_
      refine AWP.seq ?_
      refine AWP.seq ?_
      refine AWP.region ?_
      refine rC (Calm.move rfl) ?_
      refine rC (Calm.move rfl) ?_
      refine rC (Calm.bin rfl rfl b_eql) ?_
      refine arun_nil ?_
      refine athen_n ?_
      refine AWP.sub [(0, _), (1, _), (2, _), (6, _), (7, _), (16, _), (8, _), (22, _)] ⟨rfl, rfl, rfl, rfl, rfl, rfl, rfl, rfl, trivial⟩ ?_
      refine AWP.condF rfl (by first | rfl | (simp; done) | (simp; omega)) ?_
      refine AWP.skip ?_
      refine athen_n ?_
      refine AWP.seq ?_
      refine AWP.seq ?_
      refine AWP.region ?_
      refine rC (Calm.move rfl) ?_
      refine rC (Calm.move rfl) ?_
      refine rC (Calm.bin rfl rfl b_add_i64) ?_
      refine rC (Calm.move rfl) ?_
      refine rC (Calm.cap Try.underlying22 rfl) ?_
      refine rC (Calm.bin rfl rfl b_gtr) ?_
      refine arun_nil ?_
      refine athen_n ?_
      refine AWP.sub [(0, _), (1, _), (2, _), (6, _), (7, _), (16, _), (8, _), (22, _), (31, _)] ⟨rfl, rfl, rfl, rfl, rfl, rfl, rfl, rfl, rfl, trivial⟩ ?_
      refine AWP.condF rfl (by first | rfl | (simp; done) | (simp; omega)) ?_
      refine AWP.skip ?_
      refine athen_n ?_
      refine AWP.seq ?_
      refine AWP.region ?_
      refine rC (Calm.move rfl) ?_
      refine rC (Calm.move rfl) ?_
      refine rC (Calm.move rfl) ?_
      refine rC (Calm.bin rfl rfl b_add_i64) ?_
      refine rC (Calm.sliceHi (l.length + 1) Try.underlying22 ty_size_54 rfl rfl (by omega) (by omega)) ?_
      refine rC (Calm.assign rfl) ?_
      refine arun_nil ?_
      refine athen_n ?_
      refine AWP.sub [(0, _), (1, _), (2, _), (6, _), (7, _), (16, _), (8, _), (22, _), (31, _)] ⟨rfl, rfl, rfl, rfl, rfl, rfl, rfl, rfl, rfl, trivial⟩ ?_
      refine AWP.seq ?_
      refine AWP.seq ?_
      refine AWP.region ?_
      refine rC (Calm.move rfl) ?_
      refine rC (Calm.move rfl) ?_
      refine rC (Calm.move rfl) ?_
      refine rC (Calm.move rfl) ?_
      refine rC (Calm.bin rfl rfl b_add_i64) ?_
      refine rC (Calm.sliceLo (i + 1) Try.underlying22 ty_size_54 rfl rfl (by omega) (by omega) (by omega)) ?_
      refine ARun.overlapsNo (T := 22) (tR := 4) (lit_lt rfl) Try.func113 rfl rfl rfl rfl Try.underlying22 ty_size_54 rfl (Mem.own_set_same _ _ _) (Nat.ne_of_beq_eq_false rfl) (show 0 < 2 from by decide) own_ (by simp only [hfl]; omega) htb ?_
      refine rC (Calm.un rfl (una_not _)) ?_
      refine arun_nil ?_
      refine athen_n ?_
      refine AWP.sub [(0, _), (1, _), (2, _), (6, _), (7, _), (16, _), (8, _), (22, _), (31, _), (68, _)] ⟨rfl, rfl, rfl, rfl, rfl, rfl, rfl, rfl, rfl, rfl, trivial⟩ ?_
      refine AWP.condT rfl (by first | rfl | (simp; done) | (simp; omega)) ?_
      refine AWP.seq ?_
      refine AWP.draw [(0, true), (1, true), (2, true), (3, true), (4, true), (5, true), (6, true), (7, true), (8, false)] [8] mixed (by kernel_rfl) ?_
      refine dP (hc := fun _ => Calm.move rfl) (h := ?_)
      refine dP (hc := fun _ => Calm.move rfl) (h := ?_)
      refine dP (hc := fun _ => Calm.move rfl) (h := ?_)
      refine dP (hc := fun _ => Calm.bin rfl rfl b_add_i64) (h := ?_)
      refine dP (hc := fun _ => Calm.sliceLo (i + 1) Try.underlying22 ty_size_54 rfl rfl (by omega) (by omega) (by omega)) (h := ?_)
      refine dP (hc := fun _ => Calm.move rfl) (h := ?_)
      refine dP (hc := fun _ => Calm.move rfl) (h := ?_)
      refine dP (hc := fun _ => Calm.sliceLo (i) Try.underlying22 ty_size_54 rfl rfl (by omega) (by omega) (by omega)) (h := ?_)
      refine draw_only rfl ?_
      refine ARun.copyK (n := 2) (q := l.length - i) (news := (l.drop i).flatMap extF) (lit_lt rfl) ty_sl_22 rfl own_ (by simp only [hfl]; omega) rfl (by omega) (Mem.own_knows (r := ⟨extT, l.flatMap extF, c * 2⟩) own_ _ _ (fun j v hj => by simp only; rw [hsplit, List.getElem?_append_right (by omega), ← hj]; congr 1; omega)) hD (ext_one _) (.inr (by simp only [hD]; omega)) ?_
      refine arun_nil ⟨fun h => absurd h (by decide), ?_⟩
      refine draw_nil ?_
      refine athen_n ?_
      refine AWP.sub [(0, _), (1, _), (2, _), (6, _), (7, _), (16, _), (8, _), (22, _), (31, _), (68, _)] ⟨rfl, rfl, rfl, rfl, rfl, rfl, rfl, rfl, rfl, rfl, trivial⟩ ?_
      refine AWP.seq ?_
      refine AWP.region ?_
      refine rC (Calm.move rfl) ?_
      refine rC (Calm.move rfl) ?_
      refine rC (Calm.sliceLo (i) Try.underlying22 ty_size_54 rfl rfl (by omega) (by omega) (by omega)) ?_
      refine rC (Calm.move rfl) ?_
      refine ARun.copyK (n := 2) (q := 1) (news := extF x) (lit_lt rfl) ty_sl_22 rfl own_ (by simp only [hsl]; omega) rfl (by omega) (Mem.own_knows (r := ⟨extT, extF x, 2⟩) own_ 0 _ (fun j v hj => by rw [Nat.zero_add]; exact hj)) rfl hx1 (.inr (by simp only [ext_len]; omega)) ?_
      refine arun_nil ?_
      refine athen_n ?_
      refine AWP.sub [(0, _), (1, _), (2, _), (6, _), (7, _), (16, _), (8, _), (22, _), (31, _), (68, _)] ⟨rfl, rfl, rfl, rfl, rfl, rfl, rfl, rfl, rfl, rfl, trivial⟩ ?_
      refine AWP.seq ?_
      refine AWP.region ?_
      refine rC (Calm.move rfl) ?_
      refine rC (Calm.assign rfl) ?_
      refine arun_nil ?_
      refine athen_n ?_
      refine AWP.sub [(0, _), (1, _), (2, _), (6, _), (7, _), (16, _), (8, _), (22, _), (31, _), (68, _)] ⟨rfl, rfl, rfl, rfl, rfl, rfl, rfl, rfl, rfl, rfl, trivial⟩ ?_
      refine AWP.ret ?_
      refine athen_ret ?_
      refine ⟨_, B.set b ⟨extT, spl (spl (l.flatMap extF) (0 + (i + 1) * 2) ((l.drop i).flatMap extF)) (0 + i * 2) (extF x), c * 2⟩, ⟨_, _, rfl, rfl, rfl⟩, less_, ?_⟩
      exact ⟨some (b, c), okO_own hfb hroom, rfl, by rw [hsplit, room_cells hA rfl (by rw [hD]; omega)]⟩
    · skip
      refine ACall.enter (args := [.slice (some ⟨b, 0, none⟩) l.length c, .int .i64 (i : Int), .slice (some ⟨t, 0, none⟩) 1 1]) (rs := [.tmp 6]) 95 [(0, .slice (some ⟨b, 0, none⟩) l.length c), (1, .int .i64 (i : Int)), (2, .slice (some ⟨t, 0, none⟩) 1 1)] Try.func84 rfl rfl (Nat.le_of_ble_eq_true rfl) rfl ⟨rfl, rfl, rfl, trivial⟩ ?_
      refine AWP.seq ?_
      refine AWP.region ?_
      refine rC (Calm.assign rfl) ?_
      refine arun_nil ?_
      refine athen_n ?_
      refine AWP.seq ?_
      refine AWP.region ?_
      refine rC (Calm.move rfl) ?_
      refine rC (Calm.move rfl) ?_
      refine rC ((by first | exact Calm.sliceSl Try.underlying22 ty_size_54 rfl (bnd_none _ _) (by simp) (bnd_none _ _) (bnd_some _ _ rfl (by omega) (by omega)) | exact Calm.sliceNil Try.underlying22 ty_size_54 rfl (bnd_none _ _) (by simp) (bnd_none _ _) (bnd_zero _ _ rfl))) ?_
      refine arun_nil ?_
      refine athen_n ?_
      refine AWP.sub [(0, _), (1, _), (2, _), (6, _)] ⟨rfl, rfl, rfl, rfl, trivial⟩ ?_
      refine AWP.seq ?_
      refine AWP.region ?_
      refine rC (Calm.move rfl) ?_
      refine rC (Calm.lenSl Try.underlying22 rfl) ?_
      refine rC (Calm.assign rfl) ?_
      refine arun_nil ?_
      refine athen_n ?_
      refine AWP.sub [(0, _), (1, _), (2, _), (6, _), (7, _)] ⟨rfl, rfl, rfl, rfl, rfl, trivial⟩ ?_
      refine AWP.seq ?_
      refine AWP.seq ?_
      refine AWP.region ?_
      refine rC (Calm.move rfl) ?_
      refine rC (Calm.bin rfl rfl b_eql) ?_
      refine arun_nil ?_
      refine athen_n ?_
      refine AWP.sub [(0, _), (1, _), (2, _), (6, _), (7, _), (16, _)] ⟨rfl, rfl, rfl, rfl, rfl, rfl, trivial⟩ ?_
      refine AWP.condF rfl (by first | rfl | (simp; done) | (simp; omega)) ?_
      refine AWP.skip ?_
      refine athen_n ?_
      refine AWP.seq ?_
      refine AWP.region ?_
      refine rC (Calm.move rfl) ?_
      refine rC (Calm.lenSl Try.underlying22 rfl) ?_
      refine rC (Calm.assign rfl) ?_
      refine arun_nil ?_
      refine athen_n ?_
      refine AWP.sub [(0, _), (1, _), (2, _), (6, _), (7, _), (16, _), (8, _)] ⟨rfl, rfl, rfl, rfl, rfl, rfl, rfl, trivial⟩ ?_
      refine AWP.seq ?_
      refine AWP.seq ?_
      refine AWP.region ?_
      refine rC (Calm.move rfl) ?_
      refine rC (Calm.move rfl) ?_
      refine rC (Calm.bin rfl rfl b_eql) ?_
      refine arun_nil ?_
      refine athen_n ?_
      refine AWP.sub [(0, _), (1, _), (2, _), (6, _), (7, _), (16, _), (8, _), (22, _)] ⟨rfl, rfl, rfl, rfl, rfl, rfl, rfl, rfl, trivial⟩ ?_
      refine AWP.condF rfl (by first | rfl | (simp; done) | (simp; omega)) ?_
      refine AWP.skip ?_
      refine athen_n ?_
      refine AWP.seq ?_
      refine AWP.seq ?_
      refine AWP.region ?_
      refine rC (Calm.move rfl) ?_
      refine rC (Calm.move rfl) ?_
      refine rC (Calm.bin rfl rfl b_add_i64) ?_
      refine rC (Calm.move rfl) ?_
      refine rC (Calm.cap Try.underlying22 rfl) ?_
      refine rC (Calm.bin rfl rfl b_gtr) ?_
      refine arun_nil ?_
      refine athen_n ?_
      refine AWP.sub [(0, _), (1, _), (2, _), (6, _), (7, _), (16, _), (8, _), (22, _), (31, _)] ⟨rfl, rfl, rfl, rfl, rfl, rfl, rfl, rfl, rfl, trivial⟩ ?_
      refine AWP.condT rfl (by first | rfl | (simp; done) | (simp; omega)) ?_
      refine AWP.seq ?_
      refine AWP.region ?_
      refine rC (Calm.move rfl) ?_
      refine rC (Calm.move rfl) ?_
      refine rC (Calm.sliceHi (i) Try.underlying22 ty_size_54 rfl rfl (by omega) (by omega)) ?_
      refine rC (Calm.move rfl) ?_
      refine rC (Calm.move rfl) ?_
      refine rC (Calm.bin rfl rfl b_add_i64) ?_
      refine rC (Calm.move rfl) ?_
      refine rC (Calm.bin rfl rfl b_sub_i64) ?_
      refine ARun.appendMake (k := i) (m := l.length + 1 - i) (xs := (l.take i).flatMap extF) (c := c) (lit_lt rfl) ty_sl_22 rfl Try.underlying3 rfl hA ((rds_prefix (r := ⟨extT, l.flatMap extF, c * 2⟩) own_ (by rw [hsplit]; exact List.prefix_append _ _)).knows) (congrArg some (congrArg (Value.int .i64) (by omega))) (by omega) (by omega) (by omega) ?_
      intro b' c' zs hfb' hc' hzs
      obtain ⟨hfb1, htb'⟩ := fresh_set hfb'
      obtain ⟨hfb2, hbb'⟩ := fresh_set hfb1
      have hbb'' := Ne.symm hbb'
      have htb'' := Ne.symm htb'
      have hz1 : (((l.take i).flatMap extF) ++ zs).length = l.length * 2 + 2 := by simp only [List.length_append, hA, hzs]; omega
      refine rC (Calm.assign rfl) ?_
      refine arun_nil ?_
      refine athen_n ?_
      refine AWP.sub [(0, _), (1, _), (2, _), (6, _), (7, _), (16, _), (8, _), (22, _), (31, _), (9, _)] ⟨rfl, rfl, rfl, rfl, rfl, rfl, rfl, rfl, rfl, rfl, trivial⟩ ?_
      refine AWP.seq ?_
      refine AWP.region ?_
      refine rC (Calm.move rfl) ?_
      refine rC (Calm.move rfl) ?_
      refine rC (Calm.sliceLo (i) Try.underlying22 ty_size_54 rfl rfl (by omega) (by omega) (by omega)) ?_
      refine rC (Calm.move rfl) ?_
      refine ARun.copyK (n := 2) (q := 1) (news := extF x) (lit_lt rfl) ty_sl_22 rfl (Mem.own_set_same _ _ _) (by simp only [hz1]; omega) rfl (by omega) (Mem.own_knows (r := ⟨extT, extF x, 2⟩) own_ 0 _ (fun j v hj => by rw [Nat.zero_add]; exact hj)) rfl hx1 (.inl (by simp only [hz1, ext_len]; omega)) ?_
      have hz2 : (spl ((l.take i).flatMap extF ++ zs) (0 + i * 2) (extF x)).length = l.length * 2 + 2 := by rw [spl_length _ _ _ (by simp only [hz1, ext_len]; omega), hz1]
      refine arun_nil ?_
      refine athen_n ?_
      refine AWP.sub [(0, _), (1, _), (2, _), (6, _), (7, _), (16, _), (8, _), (22, _), (31, _), (9, _)] ⟨rfl, rfl, rfl, rfl, rfl, rfl, rfl, rfl, rfl, rfl, trivial⟩ ?_
      refine AWP.seq ?_
      refine AWP.draw [(0, true), (1, true), (2, true), (3, true), (4, true), (5, true), (6, true), (7, true), (8, false)] [8] mixed (by kernel_rfl) ?_
      refine dP (hc := fun _ => Calm.move rfl) (h := ?_)
      refine dP (hc := fun _ => Calm.move rfl) (h := ?_)
      refine dP (hc := fun _ => Calm.move rfl) (h := ?_)
      refine dP (hc := fun _ => Calm.bin rfl rfl b_add_i64) (h := ?_)
      refine dP (hc := fun _ => Calm.sliceLo (i + 1) Try.underlying22 ty_size_54 rfl rfl (by omega) (by omega) (by omega)) (h := ?_)
      refine dP (hc := fun _ => Calm.move rfl) (h := ?_)
      refine dP (hc := fun _ => Calm.move rfl) (h := ?_)
      refine dP (hc := fun _ => Calm.sliceLo (i) Try.underlying22 ty_size_54 rfl rfl (by omega) (by omega) (by omega)) (h := ?_)
      refine draw_only rfl ?_
      refine ARun.copyK (n := 2) (q := l.length - i) (news := (l.drop i).flatMap extF) (lit_lt rfl) ty_sl_22 rfl (Mem.own_set_same _ _ _) (by simp only [hz2]; omega) rfl (by omega) (Mem.own_knows (r := ⟨extT, l.flatMap extF, c * 2⟩) own_ _ _ (fun j v hj => by simp only; rw [hsplit, List.getElem?_append_right (by omega), ← hj]; congr 1; omega)) hD (ext_one _) (.inl (by simp only [hz2, hD]; omega)) ?_
      refine arun_nil ⟨fun h => absurd h (by decide), ?_⟩
      refine draw_nil ?_
      refine athen_n ?_
      refine AWP.sub [(0, _), (1, _), (2, _), (6, _), (7, _), (16, _), (8, _), (22, _), (31, _), (9, _)] ⟨rfl, rfl, rfl, rfl, rfl, rfl, rfl, rfl, rfl, rfl, trivial⟩ ?_
      refine AWP.seq ?_
      refine AWP.region ?_
      refine rC (Calm.move rfl) ?_
      refine rC (Calm.assign rfl) ?_
      refine arun_nil ?_
      refine athen_n ?_
      refine AWP.sub [(0, _), (1, _), (2, _), (6, _), (7, _), (16, _), (8, _), (22, _), (31, _), (9, _)] ⟨rfl, rfl, rfl, rfl, rfl, rfl, rfl, rfl, rfl, rfl, trivial⟩ ?_
      refine AWP.ret ?_
      refine athen_ret ?_
      refine ⟨_, B.set b' ⟨extT, spl (spl ((l.take i).flatMap extF ++ zs) (0 + i * 2) (extF x)) (0 + (i + 1) * 2) ((l.drop i).flatMap extF), c' * 2⟩, ⟨_, _, rfl, rfl, rfl⟩, less_, ?_⟩
      exact ⟨some (b', c'), okO_own hfb2 (by omega), congrArg (fun n => Value.slice (some ⟨b', 0, none⟩) n c') (by omega), by rw [grow_cells hA rfl (by rw [hD, hzs]; omega)]⟩
end Go.Proofs.Ytkeiphkccnfhoaa
namespace Go.Proofs.Ytkeiphkccnfhoaa
open Go.RowKit
open Mv Disk
set_option linter.unusedVariables false
set_option linter.unusedSimpArgs false
set_option maxRecDepth 4000
theorem outN_set {n : Nat} {S : Mem} {o : Option (Nat × Nat)} {e : TypeId} {cs : List Value} {b : Nat} {r : Blk} (h : ∀ q c, o = some (q, c) → q ≠ b) : outN n (S.set b r) o e cs = (outN n S o e cs).set b r := by
  cases o with
  | none => rfl
  | some q => exact Mem.set_comm _ _ _ (Ne.symm (h _ _ rfl))
theorem outN_comm {n m : Nat} {S : Mem} {o o' : Option (Nat × Nat)} {e e' : TypeId} {cs cs' : List Value} (h : ∀ q c q' c', o = some (q, c) → o' = some (q', c') → q ≠ q') : outN n (outN m S o' e' cs') o e cs = outN m (outN n S o e cs) o' e' cs' := by
  cases o with
  | none => rfl
  | some q =>
    cases o' with
    | none => rfl
    | some q' => exact Mem.set_comm _ _ _ (Ne.symm (h _ _ _ _ rfl rfl))
theorem own_outN' {n : Nat} {S : Mem} {o : Option (Nat × Nat)} {e : TypeId} {cs : List Value} {b : Nat} {r : Blk} (hb : S.own b = some r) (h : ∀ q c, o = some (q, c) → q ≠ b) : (outN n S o e cs).own b = some r := by
  cases o with
  | none => exact hb
  | some q => exact (Mem.own_set_other _ _ (Ne.symm (h _ _ rfl))).trans hb
theorem fresh_outN_mk {n : Nat} {S : Mem} {o : Option (Nat × Nat)} {e : TypeId} {cs : List Value} {b : Nat} (hb : Fresh S b) (h : ∀ q c, o = some (q, c) → q ≠ b) : Fresh (outN n S o e cs) b := by
  cases o with
  | none => exact hb
  | some q => exact fresh_more hb (Ne.symm (h _ _ rfl))
/-- The block of a disk at work. -/
def devB (d : D) (oE oW : Option (Nat × Nat)) : Blk := ⟨90, [.int .i64 d.size, outV oE d.ext.length, outV oW d.waits.length, .int .i64 d.fuse, .bool d.down], 5⟩
theorem devM_eq (S : Mem) (p : Nat) (d : D) (oE oW : Option (Nat × Nat)) : devM S p d oE oW = (outN 3 (outN 2 S oE extT (d.ext.flatMap extF)) oW wrT (d.waits.flatMap wrF)).set p (devB d oE oW) := rfl
/-- What is apart. -/
structure Apart (S : Mem) (p : Nat) (oE oW : Option (Nat × Nat)) : Prop where
  e : ∀ b c, oE = some (b, c) → Fresh S b ∧ b ≠ p
  w : ∀ b c, oW = some (b, c) → Fresh S b ∧ b ≠ p
  ew : ∀ b c b' c', oE = some (b, c) → oW = some (b', c') → b ≠ b'
  p : Fresh S p
structure Fits (d : D) (oE oW : Option (Nat × Nat)) : Prop where
  e0 : oE = none → d.ext.length = 0
  w0 : oW = none → d.waits.length = 0
  e : ∀ b c, oE = some (b, c) → d.ext.length ≤ c
  w : ∀ b c, oW = some (b, c) → d.waits.length ≤ c
theorem OkV.apart {S : Mem} {p : Nat} {d : D} {oE oW : Option (Nat × Nat)} (h : OkV S p d oE oW) : Apart S p oE oW := by
  obtain ⟨h1, h2⟩ := fresh_outN h.fr
  obtain ⟨h3, h4⟩ := fresh_outN h1
  exact ⟨fun b c e => ⟨(h.dk.e.own b c e).1, Ne.symm (h4 b c e)⟩, fun b c e => ⟨(fresh_outN (h.dk.w.own b c e).1).1, Ne.symm (h2 b c e)⟩, fun b c b' c' e e' => Ne.symm ((fresh_outN (h.dk.w.own b' c' e').1).2 b c e), h3⟩
theorem OkV.fits {S : Mem} {p : Nat} {d : D} {oE oW : Option (Nat × Nat)} (h : OkV S p d oE oW) : Fits d oE oW := ⟨h.dk.e.nil, h.dk.w.nil, fun b c e => (h.dk.e.own b c e).2, fun b c e => (h.dk.w.own b c e).2⟩
theorem okV_mk {S : Mem} {p : Nat} {d : D} {oE oW : Option (Nat × Nat)} (h : Apart S p oE oW) (f : Fits d oE oW) : OkV S p d oE oW :=
  ⟨⟨⟨f.e0, fun b c e => ⟨(h.e b c e).1, f.e b c e⟩⟩, ⟨f.w0, fun b c e => ⟨fresh_outN_mk (h.w b c e).1 (fun q c' e' => h.ew q c' b c e' e), f.w b c e⟩⟩⟩, fresh_outN_mk (fresh_outN_mk h.p (fun q c e => (h.e q c e).2)) (fun q c e => (h.w q c e).2)⟩
/-- All but the extents. -/
def baseE (S : Mem) (p : Nat) (d : D) (oW : Option (Nat × Nat)) (r : Blk) : Mem := (outN 3 S oW wrT (d.waits.flatMap wrF)).set p r
theorem devM_E {S : Mem} {p : Nat} {d : D} {oE oW : Option (Nat × Nat)} (h : Apart S p oE oW) (r : Blk) : outN 2 (baseE S p d oW r) oE extT (d.ext.flatMap extF) = (outN 3 (outN 2 S oE extT (d.ext.flatMap extF)) oW wrT (d.waits.flatMap wrF)).set p r := by
  unfold baseE
  rw [outN_set (fun q c e => (h.e q c e).2), outN_comm (fun q c q' c' e e' => h.ew q c q' c' e e')]
theorem okO_baseE {S : Mem} {p : Nat} {d : D} {oE oW : Option (Nat × Nat)} (h : Apart S p oE oW) (f : Fits d oE oW) (r : Blk) : OkO (baseE S p d oW r) oE d.ext.length :=
  ⟨f.e0, fun b c e => ⟨fresh_more (fresh_outN_mk (h.e b c e).1 (fun q c' e' => Ne.symm (h.ew b c q c' e e'))) (h.e b c e).2, f.e b c e⟩⟩
theorem apart_E {S : Mem} {p : Nat} {d : D} {oE oE' oW : Option (Nat × Nat)} {r : Blk} {k : Nat} (h : Apart S p oE oW) (h' : OkO (baseE S p d oW r) oE' k) : Apart S p oE' oW :=
  ⟨fun b c e => by
    obtain ⟨h1, h2⟩ := fresh_set (h'.own b c e).1
    exact ⟨(fresh_outN h1).1, h2⟩, h.w, fun b c b' c' e e' => by
    obtain ⟨h1, h2⟩ := fresh_set (h'.own b c e).1
    exact (fresh_outN h1).2 b' c' e', h.p⟩
theorem fits_E {S : Mem} {p : Nat} {d d' : D} {oE oE' oW : Option (Nat × Nat)} {r : Blk} {k : Nat} (f : Fits d oE oW) (h' : OkO (baseE S p d oW r) oE' k) (hk : d'.ext.length = k) (hw : d'.waits = d.waits) : Fits d' oE' oW :=
  ⟨fun e => by rw [hk]; exact h'.nil e, fun e => by rw [hw]; exact f.w0 e, fun b c e => by rw [hk]; exact (h'.own b c e).2, fun b c e => by rw [hw]; exact f.w b c e⟩
/-- The extents have turned: the block is written anew. -/
theorem devM_E' {S : Mem} {p : Nat} {d d' : D} {oE oE' oW : Option (Nat × Nat)} {r : Blk} {k : Nat} (h : Apart S p oE oW) (h' : OkO (baseE S p d oW r) oE' k) (hw : d'.waits = d.waits) : (outN 2 (baseE S p d oW r) oE' extT (d'.ext.flatMap extF)).set p (devB d' oE' oW) = devM S p d' oE' oW := by
  have ha := apart_E h h'
  rw [devM_eq]
  unfold baseE
  rw [outN_set (fun q c e => (ha.e q c e).2), Mem.set_set, outN_comm (fun q c q' c' e e' => ha.ew q c q' c' e e'), hw]
/-- All but what waits. -/
def baseW (S : Mem) (p : Nat) (d : D) (oE : Option (Nat × Nat)) (r : Blk) : Mem := (outN 2 S oE extT (d.ext.flatMap extF)).set p r
theorem devM_W {S : Mem} {p : Nat} {d : D} {oE oW : Option (Nat × Nat)} (h : Apart S p oE oW) (r : Blk) : outN 3 (baseW S p d oE r) oW wrT (d.waits.flatMap wrF) = (outN 3 (outN 2 S oE extT (d.ext.flatMap extF)) oW wrT (d.waits.flatMap wrF)).set p r := by
  unfold baseW
  rw [outN_set (fun q c e => (h.w q c e).2)]
theorem okO_baseW {S : Mem} {p : Nat} {d : D} {oE oW : Option (Nat × Nat)} (h : Apart S p oE oW) (f : Fits d oE oW) (r : Blk) : OkO (baseW S p d oE r) oW d.waits.length :=
  ⟨f.w0, fun b c e => ⟨fresh_more (fresh_outN_mk (h.w b c e).1 (fun q c' e' => h.ew q c' b c e' e)) (h.w b c e).2, f.w b c e⟩⟩
theorem apart_W {S : Mem} {p : Nat} {d : D} {oE oW oW' : Option (Nat × Nat)} {r : Blk} {k : Nat} (h : Apart S p oE oW) (h' : OkO (baseW S p d oE r) oW' k) : Apart S p oE oW' :=
  ⟨h.e, fun b c e => by
    obtain ⟨h1, h2⟩ := fresh_set (h'.own b c e).1
    exact ⟨(fresh_outN h1).1, h2⟩, fun b c b' c' e e' => by
    obtain ⟨h1, h2⟩ := fresh_set (h'.own b' c' e').1
    exact Ne.symm ((fresh_outN h1).2 b c e), h.p⟩
theorem fits_W {S : Mem} {p : Nat} {d d' : D} {oE oW oW' : Option (Nat × Nat)} {r : Blk} {k : Nat} (f : Fits d oE oW) (h' : OkO (baseW S p d oE r) oW' k) (hk : d'.waits.length = k) (he : d'.ext = d.ext) : Fits d' oE oW' :=
  ⟨fun e => by rw [he]; exact f.e0 e, fun e => by rw [hk]; exact h'.nil e, fun b c e => by rw [he]; exact f.e b c e, fun b c e => by rw [hk]; exact (h'.own b c e).2⟩
theorem devM_W' {S : Mem} {p : Nat} {d d' : D} {oE oW oW' : Option (Nat × Nat)} {r : Blk} {k : Nat} (h : Apart S p oE oW) (h' : OkO (baseW S p d oE r) oW' k) (he : d'.ext = d.ext) : (outN 3 (baseW S p d oE r) oW' wrT (d'.waits.flatMap wrF)).set p (devB d' oE oW') = devM S p d' oE oW' := by
  have ha := apart_W h h'
  rw [devM_eq]
  unfold baseW
  rw [outN_set (fun q c e => (ha.w q c e).2), Mem.set_set, he]
theorem outV_cells (o : Option (Nat × Nat)) (n : Nat) : (outV o n).cells = #[outV o n] := by cases o <;> rfl
theorem outV_one (o : Option (Nat × Nat)) (n : Nat) : (outV o n).oneCell' = true := by cases o <;> rfl
end Go.Proofs.Ytkeiphkccnfhoaa
namespace Go.Proofs
open Go.Shelf
def Try.lays105_ren : Go.Shelf.Ren := ⟨fun | 105 => 85 | 212 => 115 | 99 => 116 | 165 => 117 | 166 => 118 | 170 => 119 | 169 => 120 | 263 => 133 | 264 => 134 | 206 => 135 | 240 => 136 | 241 => 137 | 276 => 140 | 277 => 141 | n => n, fun | 9 => 9 | 3 => 3 | 4 => 4 | 20 => 20 | 0 => 0 | 46 => 147 | 109 => 148 | 5 => 5 | 72 => 153 | 76 => 157 | 51 => 166 | 146 => 167 | 53 => 58 | 148 => 169 | 70 => 151 | 37 => 92 | 75 => 156 | 127 => 171 | 164 => 174 | 80 => 159 | n => n, fun | n => n⟩
theorem Try.lays105 : Go.Proofs.Lays.n105 Try.prog Try.lays105_ren := {
  mixed := by kernel_rfl
  f99 := Try.func116.trans (congrArg some (by kernel_rfl))
  f105 := Try.func85.trans (congrArg some (by kernel_rfl))
  f165 := Try.func117.trans (congrArg some (by kernel_rfl))
  f166 := Try.func118.trans (congrArg some (by kernel_rfl))
  f169 := Try.func120.trans (congrArg some (by kernel_rfl))
  f170 := Try.func119.trans (congrArg some (by kernel_rfl))
  f206 := Try.func135.trans (congrArg some (by kernel_rfl))
  f212 := Try.func115.trans (congrArg some (by kernel_rfl))
  f240 := Try.func136.trans (congrArg some (by kernel_rfl))
  f241 := Try.func137.trans (congrArg some (by kernel_rfl))
  f263 := Try.func133.trans (congrArg some (by kernel_rfl))
  f264 := Try.func134.trans (congrArg some (by kernel_rfl))
  f276 := Try.func140.trans (congrArg some (by kernel_rfl))
  f277 := Try.func141.trans (congrArg some (by kernel_rfl))
  t0 := Try.underlying0
  a0 := Try.isAgg0
  z0 := Try.sizeOf0
  v0 := Try.zeroValue0
  t3 := Try.underlying3
  a3 := Try.isAgg3
  z3 := Try.sizeOf3
  v3 := Try.zeroValue3
  t4 := Try.underlying4
  a4 := Try.isAgg4
  z4 := Try.sizeOf4
  v4 := Try.zeroValue4
  t5 := Try.underlying5
  a5 := Try.isAgg5
  z5 := Try.sizeOf5
  v5 := Try.zeroValue5
  t9 := Try.underlying9
  a9 := Try.isAgg9
  z9 := Try.sizeOf9
  v9 := Try.zeroValue9
  t20 := Try.underlying20
  a20 := Try.isAgg20
  z20 := Try.sizeOf20
  v20 := Try.zeroValue20
  t37 := Try.underlying92
  a37 := Try.isAgg92
  z37 := Try.sizeOf92
  v37 := Try.zeroValue92
  t46 := Try.underlying147
  a46 := Try.isAgg147
  z46 := Try.sizeOf147
  v46 := Try.zeroValue147
  t51 := Try.underlying166
  a51 := Try.isAgg166
  z51 := Try.sizeOf166
  v51 := Try.zeroValue166
  t53 := Try.underlying58
  a53 := Try.isAgg58
  z53 := Try.sizeOf58
  v53 := Try.zeroValue58
  t70 := Try.underlying151
  a70 := Try.isAgg151
  z70 := Try.sizeOf151
  v70 := Try.zeroValue151
  t72 := Try.underlying153
  a72 := Try.isAgg153
  z72 := Try.sizeOf153
  v72 := Try.zeroValue153
  t75 := Try.underlying156
  a75 := Try.isAgg156
  z75 := Try.sizeOf156
  v75 := Try.zeroValue156
  t76 := Try.underlying157
  a76 := Try.isAgg157
  z76 := Try.sizeOf157
  v76 := Try.zeroValue157
  t109 := Try.underlying148
  a109 := Try.isAgg148
  z109 := Try.sizeOf148
  v109 := Try.zeroValue148
  t127 := Try.underlying171
  a127 := Try.isAgg171
  z127 := Try.sizeOf171
  v127 := Try.zeroValue171
  t146 := Try.underlying167
  a146 := Try.isAgg167
  z146 := Try.sizeOf167
  v146 := Try.zeroValue167
  t148 := Try.underlying169
  a148 := Try.isAgg169
  z148 := Try.sizeOf169
  v148 := Try.zeroValue169
  t164 := Try.underlying174
  a164 := Try.isAgg174
  z164 := Try.sizeOf174
  v164 := Try.zeroValue174 }
theorem Try.Builder_Extra_105 : Builder.Extra Try.prog Try.lays105_ren := {
  sizeBuilder := by kernel_rfl
  liesBuilder := by kernel_rfl
  t5 := Try.underlying5
  a5 := Try.isAgg5
  z5 := Try.sizeOf5
  v5 := Try.zeroValue5
  infoByte := by kernel_rfl
  cellsByte := by kernel_rfl
  sizeByte := by kernel_rfl
  neB5 := by decide }
open Go.RowKit Go.Lib in
/-- THE MAIN CASE: at least two copies of a string that is not empty. (LAID: no walk: one application.) -/
theorem Try.strings_Repeat_main (s : ByteArray) (c : Nat) (w : World) (hc2 : 2 ≤ c) (hc : c ≤ 9223372036854775807) (hlen : s.size * c ≤ 140737488355328) (h0 : 0 < s.size) :
    Calls Try.prog 85 #[.string s, .int .i64 c] w fun e w' => e = .returned (.string ⟨(Lib.repeatL s.data.toList c).toArray⟩) ∧ Below w.heap.size w w' := Any.strings_Repeat_main Try.lays105 Try.Builder_Extra_105 s c w hc2 hc hlen h0
end Go.Proofs
namespace Go.Proofs.Ytkeiphkccnfhoaa
open Go.RowKit
open Mv Disk
set_option linter.unusedVariables false
set_option linter.unusedSimpArgs false
set_option maxRecDepth 4000
def zeros (n : Nat) : ByteArray := bs (List.replicate (64 * n) 0)
theorem zeros_size (n : Nat) : (zeros n).size = 64 * n := by unfold zeros; rw [size_bs]; simp
def newD (d : D) (s : ByteArray) (n : Int) : D × Int := if ¬ nm s ∨ n < 1 then (d, 1) else if has d.ext s = true then (d, 4) else if d.size - used d.ext < n then (d, 8) else ({ d with ext := insAt d.ext (pos d.ext s) (s, zeros n.toNat) }, 0)
/-- What a disk at work answers, and becomes. -/
def DevR (S : Mem) (p : Nat) (q : D × Int) (r : Value) (S' : Mem) : Prop := ∃ oE oW, OkV S p q.1 oE oW ∧ r = .int .i64 q.2 ∧ S' = devM S p q.1 oE oW
theorem repeat_zero (c : Nat) : Lib.repeatL [0] c = List.replicate c (0 : UInt8) := by
  induction c with
  | zero => rfl
  | succ c ih => rw [List.replicate_succ, ← ih]; rfl
theorem shelf_Repeat (c : Nat) (S : Mem) (h1 : 2 ≤ c) (h2 : c ≤ 140737488355328) : ACall Try.prog 85 #[.string ⟨#[0]⟩, .int .i64 (c : Int)] S fun r S' => r = .string (bs (List.replicate c 0)) ∧ S' = S :=
  ACall.of_calls fun w => by
    have := Try.strings_Repeat_main ⟨#[0]⟩ c w h1 (by omega) (by show 1 * c ≤ _; omega) (by decide)
    rw [show (⟨#[0]⟩ : ByteArray).data.toList = [0] from rfl, repeat_zero] at this
    exact this
set_option maxHeartbeats 2000000 in
theorem dev_New (p : Nat) (d : D) (s : ByteArray) (n : Int) (S : Mem) (oE oW : Option (Nat × Nat)) (hok : OkV S p d oE oW) (hR : Right d) :
    ACall Try.prog 45 #[.pointer (some ⟨p, 0, none⟩), .string s, .int .i64 n] (devM S p d oE oW) (DevR S p (newD d s n)) := by
  have hrl := right_len hR
  have hrd := hok.rd (Nat.le_trans hrl.1 (by decide)) (Nat.le_trans hR.wl (by decide))
  have hp : (devM S p d oE oW).own p = some (devB d oE oW) := Mem.own_set_same _ _ _
  have hE : Sl 2 extF (devM S p d oE oW) (outV oE d.ext.length) d.ext := ((sl_outN ext_len (e := extT) hok.dk.e rfl (Nat.le_trans hrl.1 (by decide))).less (outN_over hok.dk.w)).less (Mem.less_set _ _ _ hok.fr.1)
  have hap := hok.apart
  have hft := hok.fits
  have hs0 := hR.s0; have hs1 := hR.s1
  have hME := devM_E hap (devB d oE oW) (d := d)
  have hoE := okO_baseE hap hft (devB d oE oW)
  rw [← devM_eq] at hME
  generalize hM : devM S p d oE oW = M at *
  unfold devB at hp
  unfold newD
  by_cases q1 : nm s
  · by_cases q2 : n < 1
    · rw [if_pos (.inr q2)]
      refine ACall.enter (args := [.pointer (some ⟨p, 0, none⟩), .string s, .int .i64 n]) (rs := [.tmp 6]) 52 [(0, .pointer (some ⟨p, 0, none⟩)), (1, .string s), (2, .int .i64 n)] Try.func45 rfl rfl (Nat.le_of_ble_eq_true rfl) rfl ⟨rfl, rfl, rfl, trivial⟩ ?_
      refine AWP.seq ?_
      refine AWP.region ?_
      refine rC (Calm.assign rfl) ?_
      refine arun_nil ?_
      refine athen_n ?_
      refine AWP.seq ?_
      refine AWP.region ?_
      refine rC (Calm.move rfl) ?_
      refine rC (Calm.nilCheck rfl) ?_
      refine rC (Calm.fieldAddr ty_field_90_0 rfl) ?_
      refine rC (Calm.fieldAddr ty_field_25_1 rfl) ?_
      refine rC (ld_ ty_plain_22 rfl) ?_
      refine rC (Calm.move rfl) ?_
      refine ARun.call (lit_lt rfl) go_59 rfl (disk_find _ d.ext s _ hE hR.ex.asc (Nat.le_trans hrl.1 (by decide))) ?_
      rintro _ S1 ⟨rfl, h1⟩
      rw [h1]; clear h1 S1
      refine rC (Calm.move rfl) ?_
      refine rC (Calm.extract rfl rfl) ?_
      refine rC (Calm.extract rfl rfl) ?_
      refine rC (Calm.assign rfl) ?_
      refine rC (Calm.assign rfl) ?_
      refine arun_nil ?_
      refine athen_n ?_
      refine AWP.sub [(0, _), (1, _), (2, _), (6, _), (7, _), (8, _)] ⟨rfl, rfl, rfl, rfl, rfl, rfl, trivial⟩ ?_
      refine AWP.seq ?_
      refine AWP.block ?_
      refine AWP.seq ?_
      refine AWP.region ?_
      refine rC (Calm.move rfl) ?_
      refine ARun.build1s (lit_lt rfl) ty_sl_26 rfl rfl ?_
      intro b21 f21
      have g21 := f21
      repeat ((with_reducible replace g21 := fresh_set g21); obtain ⟨g21, _⟩ := g21)
      have := g21.ne hp; have := g21.ne' hp
      refine ARun.call (lit_lt rfl) go_83 rfl (disk_named _ [s] _ (sl_str1 own_)) ?_
      rintro _ S1 ⟨⟨t, rfl, ht⟩, h1⟩
      rw [h1]; clear h1 S1
      obtain rfl : t = true := ht.2 (one_all.2 q1)
      refine rC (Calm.un rfl (una_not _)) ?_
      refine rC (Calm.move rfl) ?_
      first | refine rS 24 ?_ | refine rU 24 ?_ | refine rG 24 (Calm.move rfl) ?_
      first | refine rS 24 ?_ | refine rU 24 ?_ | refine rG 24 (Calm.bin rfl rfl b_lss) ?_
      refine rC ((by first | exact Calm.pickT rfl rfl | exact Calm.pickF rfl rfl)) ?_
      refine rC (Calm.assign rfl) ?_
      refine arun_nil ?_
      refine athen_n ?_
      refine AWP.sub [(0, _), (1, _), (2, _), (6, _), (7, _), (8, _), (19, _)] ⟨rfl, rfl, rfl, rfl, rfl, rfl, rfl, trivial⟩ ?_
      refine AWP.condT rfl (by first | rfl | (simp; done) | (simp; omega)) ?_
      refine AWP.seq ?_
      refine AWP.region ?_
      refine rC (Calm.assign rfl) ?_
      refine arun_nil ?_
      refine athen_n ?_
      refine AWP.ret ?_
      refine ain_ret ?_
      refine athen_ret ?_
      refine ⟨_, M, ⟨_, _, rfl, rfl, rfl⟩, less_, ?_⟩
      exact ⟨oE, oW, hok, rfl, hM.symm⟩
    · rw [if_neg (fun h => h.elim (fun h => h q1) q2)]
      by_cases q3 : has d.ext s = true
      · rw [if_pos q3]
        refine ACall.enter (args := [.pointer (some ⟨p, 0, none⟩), .string s, .int .i64 n]) (rs := [.tmp 6]) 52 [(0, .pointer (some ⟨p, 0, none⟩)), (1, .string s), (2, .int .i64 n)] Try.func45 rfl rfl (Nat.le_of_ble_eq_true rfl) rfl ⟨rfl, rfl, rfl, trivial⟩ ?_
        refine AWP.seq ?_
        refine AWP.region ?_
        refine rC (Calm.assign rfl) ?_
        refine arun_nil ?_
        refine athen_n ?_
        refine AWP.seq ?_
        refine AWP.region ?_
        refine rC (Calm.move rfl) ?_
        refine rC (Calm.nilCheck rfl) ?_
        refine rC (Calm.fieldAddr ty_field_90_0 rfl) ?_
        refine rC (Calm.fieldAddr ty_field_25_1 rfl) ?_
        refine rC (ld_ ty_plain_22 rfl) ?_
        refine rC (Calm.move rfl) ?_
        refine ARun.call (lit_lt rfl) go_59 rfl (disk_find _ d.ext s _ hE hR.ex.asc (Nat.le_trans hrl.1 (by decide))) ?_
        rintro _ S1 ⟨rfl, h1⟩
        rw [h1, q3]; clear h1 S1
        refine rC (Calm.move rfl) ?_
        refine rC (Calm.extract rfl rfl) ?_
        refine rC (Calm.extract rfl rfl) ?_
        refine rC (Calm.assign rfl) ?_
        refine rC (Calm.assign rfl) ?_
        refine arun_nil ?_
        refine athen_n ?_
        refine AWP.sub [(0, _), (1, _), (2, _), (6, _), (7, _), (8, _)] ⟨rfl, rfl, rfl, rfl, rfl, rfl, trivial⟩ ?_
        refine AWP.seq ?_
        refine AWP.block ?_
        refine AWP.seq ?_
        refine AWP.region ?_
        refine rC (Calm.move rfl) ?_
        refine ARun.build1s (lit_lt rfl) ty_sl_26 rfl rfl ?_
        intro b21 f21
        have g21 := f21
        repeat ((with_reducible replace g21 := fresh_set g21); obtain ⟨g21, _⟩ := g21)
        have := g21.ne hp; have := g21.ne' hp
        refine ARun.call (lit_lt rfl) go_83 rfl (disk_named _ [s] _ (sl_str1 own_)) ?_
        rintro _ S1 ⟨⟨t, rfl, ht⟩, h1⟩
        rw [h1]; clear h1 S1
        obtain rfl : t = true := ht.2 (one_all.2 q1)
        refine rC (Calm.un rfl (una_not _)) ?_
        refine rC (Calm.move rfl) ?_
        first | refine rS 24 ?_ | refine rU 24 ?_ | refine rG 24 (Calm.move rfl) ?_
        first | refine rS 24 ?_ | refine rU 24 ?_ | refine rG 24 (Calm.bin rfl rfl b_lss) ?_
        refine rC ((by first | exact Calm.pickT rfl rfl | exact Calm.pickF rfl rfl)) ?_
        refine rC (Calm.assign rfl) ?_
        refine arun_nil ?_
        refine athen_n ?_
        refine AWP.sub [(0, _), (1, _), (2, _), (6, _), (7, _), (8, _), (19, _)] ⟨rfl, rfl, rfl, rfl, rfl, rfl, rfl, trivial⟩ ?_
        refine AWP.condF rfl (by first | rfl | (simp; done) | (simp; omega)) ?_
        refine AWP.seq ?_
        refine AWP.region ?_
        refine rC (Calm.move rfl) ?_
        refine rC (Calm.assign rfl) ?_
        refine arun_nil ?_
        refine athen_n ?_
        refine AWP.sub [(0, _), (1, _), (2, _), (6, _), (7, _), (8, _), (19, _), (28, _)] ⟨rfl, rfl, rfl, rfl, rfl, rfl, rfl, rfl, trivial⟩ ?_
        refine AWP.condT rfl (by first | rfl | (simp; done) | (simp; omega)) ?_
        refine AWP.seq ?_
        refine AWP.region ?_
        refine rC (Calm.assign rfl) ?_
        refine arun_nil ?_
        refine athen_n ?_
        refine AWP.ret ?_
        refine ain_ret ?_
        refine athen_ret ?_
        refine ⟨_, M, ⟨_, _, rfl, rfl, rfl⟩, less_, ?_⟩
        exact ⟨oE, oW, hok, rfl, hM.symm⟩
      · rw [if_neg q3]
        have q3' := Bool.eq_false_iff.2 q3
        by_cases q4 : d.size - used d.ext < n
        · rw [if_pos q4]
          refine ACall.enter (args := [.pointer (some ⟨p, 0, none⟩), .string s, .int .i64 n]) (rs := [.tmp 6]) 52 [(0, .pointer (some ⟨p, 0, none⟩)), (1, .string s), (2, .int .i64 n)] Try.func45 rfl rfl (Nat.le_of_ble_eq_true rfl) rfl ⟨rfl, rfl, rfl, trivial⟩ ?_
          refine AWP.seq ?_
          refine AWP.region ?_
          refine rC (Calm.assign rfl) ?_
          refine arun_nil ?_
          refine athen_n ?_
          refine AWP.seq ?_
          refine AWP.region ?_
          refine rC (Calm.move rfl) ?_
          refine rC (Calm.nilCheck rfl) ?_
          refine rC (Calm.fieldAddr ty_field_90_0 rfl) ?_
          refine rC (Calm.fieldAddr ty_field_25_1 rfl) ?_
          refine rC (ld_ ty_plain_22 rfl) ?_
          refine rC (Calm.move rfl) ?_
          refine ARun.call (lit_lt rfl) go_59 rfl (disk_find _ d.ext s _ hE hR.ex.asc (Nat.le_trans hrl.1 (by decide))) ?_
          rintro _ S1 ⟨rfl, h1⟩
          rw [h1, q3']; clear h1 S1
          refine rC (Calm.move rfl) ?_
          refine rC (Calm.extract rfl rfl) ?_
          refine rC (Calm.extract rfl rfl) ?_
          refine rC (Calm.assign rfl) ?_
          refine rC (Calm.assign rfl) ?_
          refine arun_nil ?_
          refine athen_n ?_
          refine AWP.sub [(0, _), (1, _), (2, _), (6, _), (7, _), (8, _)] ⟨rfl, rfl, rfl, rfl, rfl, rfl, trivial⟩ ?_
          refine AWP.seq ?_
          refine AWP.block ?_
          refine AWP.seq ?_
          refine AWP.region ?_
          refine rC (Calm.move rfl) ?_
          refine ARun.build1s (lit_lt rfl) ty_sl_26 rfl rfl ?_
          intro b21 f21
          have g21 := f21
          repeat ((with_reducible replace g21 := fresh_set g21); obtain ⟨g21, _⟩ := g21)
          have := g21.ne hp; have := g21.ne' hp
          refine ARun.call (lit_lt rfl) go_83 rfl (disk_named _ [s] _ (sl_str1 own_)) ?_
          rintro _ S1 ⟨⟨t, rfl, ht⟩, h1⟩
          rw [h1]; clear h1 S1
          obtain rfl : t = true := ht.2 (one_all.2 q1)
          refine rC (Calm.un rfl (una_not _)) ?_
          refine rC (Calm.move rfl) ?_
          first | refine rS 24 ?_ | refine rU 24 ?_ | refine rG 24 (Calm.move rfl) ?_
          first | refine rS 24 ?_ | refine rU 24 ?_ | refine rG 24 (Calm.bin rfl rfl b_lss) ?_
          refine rC ((by first | exact Calm.pickT rfl rfl | exact Calm.pickF rfl rfl)) ?_
          refine rC (Calm.assign rfl) ?_
          refine arun_nil ?_
          refine athen_n ?_
          refine AWP.sub [(0, _), (1, _), (2, _), (6, _), (7, _), (8, _), (19, _)] ⟨rfl, rfl, rfl, rfl, rfl, rfl, rfl, trivial⟩ ?_
          refine AWP.condF rfl (by first | rfl | (simp; done) | (simp; omega)) ?_
          refine AWP.seq ?_
          refine AWP.region ?_
          refine rC (Calm.move rfl) ?_
          refine rC (Calm.assign rfl) ?_
          refine arun_nil ?_
          refine athen_n ?_
          refine AWP.sub [(0, _), (1, _), (2, _), (6, _), (7, _), (8, _), (19, _), (28, _)] ⟨rfl, rfl, rfl, rfl, rfl, rfl, rfl, rfl, trivial⟩ ?_
          refine AWP.condF rfl (by first | rfl | (simp; done) | (simp; omega)) ?_
          refine AWP.seq ?_
          refine AWP.region ?_
          refine rC (Calm.move rfl) ?_
          refine rC (Calm.move rfl) ?_
          refine ARun.call (lit_lt rfl) go_58 rfl (dev_Room p d _ (hrd.less less_) hR) ?_
          rintro _ S1 ⟨rfl, h1⟩
          rw [h1]; clear h1 S1
          refine rC (Calm.bin rfl rfl b_gtr) ?_
          refine rC (Calm.assign rfl) ?_
          refine arun_nil ?_
          refine athen_n ?_
          refine AWP.sub [(0, _), (1, _), (2, _), (6, _), (7, _), (8, _), (19, _), (28, _), (30, _)] ⟨rfl, rfl, rfl, rfl, rfl, rfl, rfl, rfl, rfl, trivial⟩ ?_
          refine AWP.condT rfl (by first | rfl | (simp; done) | (simp; omega)) ?_
          refine AWP.seq ?_
          refine AWP.region ?_
          refine rC (Calm.assign rfl) ?_
          refine arun_nil ?_
          refine athen_n ?_
          refine AWP.ret ?_
          refine ain_ret ?_
          refine athen_ret ?_
          refine ⟨_, M, ⟨_, _, rfl, rfl, rfl⟩, less_, ?_⟩
          exact ⟨oE, oW, hok, rfl, hM.symm⟩
        · rw [if_neg q4]
          obtain ⟨m, rfl⟩ : ∃ m : Nat, n = m := ⟨n.toNat, by omega⟩
          rw [Int.toNat_natCast]
          refine ACall.enter (args := [.pointer (some ⟨p, 0, none⟩), .string s, .int .i64 (m : Int)]) (rs := [.tmp 6]) 52 [(0, .pointer (some ⟨p, 0, none⟩)), (1, .string s), (2, .int .i64 (m : Int))] Try.func45 rfl rfl (Nat.le_of_ble_eq_true rfl) rfl ⟨rfl, rfl, rfl, trivial⟩ ?_
          refine AWP.seq ?_
          refine AWP.region ?_
          refine rC (Calm.assign rfl) ?_
          refine arun_nil ?_
          refine athen_n ?_
          refine AWP.seq ?_
          refine AWP.region ?_
          refine rC (Calm.move rfl) ?_
          refine rC (Calm.nilCheck rfl) ?_
          refine rC (Calm.fieldAddr ty_field_90_0 rfl) ?_
          refine rC (Calm.fieldAddr ty_field_25_1 rfl) ?_
          refine rC (ld_ ty_plain_22 rfl) ?_
          refine rC (Calm.move rfl) ?_
          refine ARun.call (lit_lt rfl) go_59 rfl (disk_find _ d.ext s _ hE hR.ex.asc (Nat.le_trans hrl.1 (by decide))) ?_
          rintro _ S1 ⟨rfl, h1⟩
          rw [h1, q3']; clear h1 S1
          refine rC (Calm.move rfl) ?_
          refine rC (Calm.extract rfl rfl) ?_
          refine rC (Calm.extract rfl rfl) ?_
          refine rC (Calm.assign rfl) ?_
          refine rC (Calm.assign rfl) ?_
          refine arun_nil ?_
          refine athen_n ?_
          refine AWP.sub [(0, _), (1, _), (2, _), (6, _), (7, _), (8, _)] ⟨rfl, rfl, rfl, rfl, rfl, rfl, trivial⟩ ?_
          refine AWP.seq ?_
          refine AWP.block ?_
          refine AWP.seq ?_
          refine AWP.region ?_
          refine rC (Calm.move rfl) ?_
          refine ARun.build1s (lit_lt rfl) ty_sl_26 rfl rfl ?_
          intro b21 f21
          have g21 := f21
          repeat ((with_reducible replace g21 := fresh_set g21); obtain ⟨g21, _⟩ := g21)
          have := g21.ne hp; have := g21.ne' hp
          refine ARun.call (lit_lt rfl) go_83 rfl (disk_named _ [s] _ (sl_str1 own_)) ?_
          rintro _ S1 ⟨⟨t, rfl, ht⟩, h1⟩
          rw [h1]; clear h1 S1
          obtain rfl : t = true := ht.2 (one_all.2 q1)
          refine rC (Calm.un rfl (una_not _)) ?_
          refine rC (Calm.move rfl) ?_
          first | refine rS 24 ?_ | refine rU 24 ?_ | refine rG 24 (Calm.move rfl) ?_
          first | refine rS 24 ?_ | refine rU 24 ?_ | refine rG 24 (Calm.bin rfl rfl b_lss) ?_
          refine rC ((by first | exact Calm.pickT rfl rfl | exact Calm.pickF rfl rfl)) ?_
          refine rC (Calm.assign rfl) ?_
          refine arun_nil ?_
          refine athen_n ?_
          refine AWP.sub [(0, _), (1, _), (2, _), (6, _), (7, _), (8, _), (19, _)] ⟨rfl, rfl, rfl, rfl, rfl, rfl, rfl, trivial⟩ ?_
          refine AWP.condF rfl (by first | rfl | (simp; done) | (simp; omega)) ?_
          refine AWP.seq ?_
          refine AWP.region ?_
          refine rC (Calm.move rfl) ?_
          refine rC (Calm.assign rfl) ?_
          refine arun_nil ?_
          refine athen_n ?_
          refine AWP.sub [(0, _), (1, _), (2, _), (6, _), (7, _), (8, _), (19, _), (28, _)] ⟨rfl, rfl, rfl, rfl, rfl, rfl, rfl, rfl, trivial⟩ ?_
          refine AWP.condF rfl (by first | rfl | (simp; done) | (simp; omega)) ?_
          refine AWP.seq ?_
          refine AWP.region ?_
          refine rC (Calm.move rfl) ?_
          refine rC (Calm.move rfl) ?_
          refine ARun.call (lit_lt rfl) go_58 rfl (dev_Room p d _ (hrd.less less_) hR) ?_
          rintro _ S1 ⟨rfl, h1⟩
          rw [h1]; clear h1 S1
          refine rC (Calm.bin rfl rfl b_gtr) ?_
          refine rC (Calm.assign rfl) ?_
          refine arun_nil ?_
          refine athen_n ?_
          refine AWP.sub [(0, _), (1, _), (2, _), (6, _), (7, _), (8, _), (19, _), (28, _), (30, _)] ⟨rfl, rfl, rfl, rfl, rfl, rfl, rfl, rfl, rfl, trivial⟩ ?_
          refine AWP.condF rfl (by first | rfl | (simp; done) | (simp; omega)) ?_
          refine AWP.less M less_ ?_
          refine AWP.skip ?_
          refine ain_n ?_
          refine athen_n ?_
          refine AWP.seq ?_
          refine AWP.draw [(0, true), (1, true), (2, true), (3, true), (4, true), (5, true), (6, true), (7, true), (8, true), (9, true), (10, false), (11, true), (12, false), (13, false), (14, true), (15, true), (16, true), (17, false)] [13, 17] mixed (by kernel_rfl) ?_
          refine dP (hc := fun _ => Calm.move rfl) (h := ?_)
          refine dP (hc := fun _ => Calm.move rfl) (h := ?_)
          refine dP (hc := fun _ => Calm.nilCheck rfl) (h := ?_)
          refine dP (hc := fun _ => Calm.fieldAddr ty_field_90_0 rfl) (h := ?_)
          refine dP (hc := fun _ => Calm.fieldAddr ty_field_25_1 rfl) (h := ?_)
          refine dC (hc := ld_ ty_plain_22 rfl) (h := ?_)
          refine dP (hc := fun _ => Calm.move rfl) (h := ?_)
          refine dP (hc := fun _ => Calm.move rfl) (h := ?_)
          refine dP (hc := fun _ => Calm.move rfl) (h := ?_)
          refine dP (hc := fun _ => Calm.as (v := .int .i64 ((m : Int) * 64)) (v' := .int .i64 ((64 * m : Nat) : Int)) (congrArg (Value.int .i64) (by omega)) (Calm.bin rfl rfl (bin_mulW (IntWalk.i64_in _ (by omega))))) (h := ?_)
          refine draw_only rfl ?_
          refine ARun.call (lit_lt rfl) go_85 rfl (shelf_Repeat (64 * m) _ (by omega) (by omega)) ?_
          rintro _ S1 ⟨rfl, h1⟩
          rw [h1]; clear h1 S1
          refine arun_nil ⟨fun _ => less_, ?_⟩
          refine dP (hc := fun _ => Calm.build (cs := [_, _]) ty_bld_54 rfl rfl) (h := ?_)
          refine draw_only rfl ?_
          refine ARun.build1 (lit_lt rfl) ty_sl_22 rfl (by decide) (by decide) rfl rfl ?_
          intro b47 f47
          have g47 := f47
          repeat ((with_reducible replace g47 := fresh_set g47); obtain ⟨g47, _⟩ := g47)
          have := g47.ne hp; have := g47.ne' hp
          have hins := ins_ext (baseE S p d oW (devB d oE oW)) oE d.ext (pos d.ext s) (s, zeros m) b47 hoE (by rw [hME]; exact f47) (pos_le _ _) hrl.1
          rw [hME] at hins
          refine arun_nil ⟨fun _ => less_, ?_⟩
          refine draw_only rfl ?_
          refine ARun.call (lit_lt rfl) go_84 rfl (hins) ?_
          rintro _ S1 ⟨o', ho', rfl, h1⟩
          rw [h1]; clear h1 S1
          have hap' := apart_E hap ho'
          have hp2 : (outN 2 (baseE S p d oW (devB d oE oW)) o' extT ((insAt d.ext (pos d.ext s) (s, zeros m)).flatMap extF)).own p = some (devB d oE oW) := own_outN' (Mem.own_set_same _ _ _) (fun q c e => (hap'.e q c e).2)
          have hE' := devM_E' (d' := { d with ext := insAt d.ext (pos d.ext s) (s, zeros m) }) hap ho' rfl
          have hln := ins_len (pos_le d.ext s) (s, zeros m)
          unfold devB at hp2
          refine arun_nil ⟨fun h => absurd h (by decide), ?_⟩
          refine dP (hc := fun _ => Calm.nilCheck rfl) (h := ?_)
          refine dP (hc := fun _ => Calm.fieldAddr ty_field_90_0 rfl) (h := ?_)
          refine dP (hc := fun _ => Calm.fieldAddr ty_field_25_1 rfl) (h := ?_)
          refine draw_only rfl ?_
          refine ARun.store1 rfl rfl ty_size_22 (outV_cells _ _) hp2 (show 1 < 5 from by decide) (outV_one _ _) ?_
          (try simp only [Mem.set_set, List.set_cons_zero, List.set_cons_succ, Nat.zero_add, Nat.reduceAdd])
          refine arun_nil ⟨fun h => absurd h (by decide), ?_⟩
          refine draw_nil ?_
          refine athen_n ?_
          refine AWP.sub [(0, _), (1, _), (2, _), (6, _), (7, _), (8, _), (19, _), (28, _), (30, _)] ⟨rfl, rfl, rfl, rfl, rfl, rfl, rfl, rfl, rfl, trivial⟩ ?_
          refine AWP.seq ?_
          refine AWP.region ?_
          refine rC (Calm.assign rfl) ?_
          refine arun_nil ?_
          refine athen_n ?_
          refine AWP.ret ?_
          refine ⟨_, devM S p _ o' oW, ⟨_, _, rfl, rfl, rfl⟩, (by rw [← hE']; unfold devB; rw [hln]; exact Mem.Less.refl _), ?_⟩
          exact ⟨o', oW, okV_mk hap' (fits_E hft ho' hln rfl), rfl, rfl⟩
  · rw [if_pos (.inl q1)]
    refine ACall.enter (args := [.pointer (some ⟨p, 0, none⟩), .string s, .int .i64 n]) (rs := [.tmp 6]) 52 [(0, .pointer (some ⟨p, 0, none⟩)), (1, .string s), (2, .int .i64 n)] Try.func45 rfl rfl (Nat.le_of_ble_eq_true rfl) rfl ⟨rfl, rfl, rfl, trivial⟩ ?_
    refine AWP.seq ?_
    refine AWP.region ?_
    refine rC (Calm.assign rfl) ?_
    refine arun_nil ?_
    refine athen_n ?_
    refine AWP.seq ?_
    refine AWP.region ?_
    refine rC (Calm.move rfl) ?_
    refine rC (Calm.nilCheck rfl) ?_
    refine rC (Calm.fieldAddr ty_field_90_0 rfl) ?_
    refine rC (Calm.fieldAddr ty_field_25_1 rfl) ?_
    refine rC (ld_ ty_plain_22 rfl) ?_
    refine rC (Calm.move rfl) ?_
    refine ARun.call (lit_lt rfl) go_59 rfl (disk_find _ d.ext s _ hE hR.ex.asc (Nat.le_trans hrl.1 (by decide))) ?_
    rintro _ S1 ⟨rfl, h1⟩
    rw [h1]; clear h1 S1
    refine rC (Calm.move rfl) ?_
    refine rC (Calm.extract rfl rfl) ?_
    refine rC (Calm.extract rfl rfl) ?_
    refine rC (Calm.assign rfl) ?_
    refine rC (Calm.assign rfl) ?_
    refine arun_nil ?_
    refine athen_n ?_
    refine AWP.sub [(0, _), (1, _), (2, _), (6, _), (7, _), (8, _)] ⟨rfl, rfl, rfl, rfl, rfl, rfl, trivial⟩ ?_
    refine AWP.seq ?_
    refine AWP.block ?_
    refine AWP.seq ?_
    refine AWP.region ?_
    refine rC (Calm.move rfl) ?_
    refine ARun.build1s (lit_lt rfl) ty_sl_26 rfl rfl ?_
    intro b21 f21
    have g21 := f21
    repeat ((with_reducible replace g21 := fresh_set g21); obtain ⟨g21, _⟩ := g21)
    have := g21.ne hp; have := g21.ne' hp
    refine ARun.call (lit_lt rfl) go_83 rfl (disk_named _ [s] _ (sl_str1 own_)) ?_
    rintro _ S1 ⟨⟨t, rfl, ht⟩, h1⟩
    rw [h1]; clear h1 S1
    obtain rfl : t = false := Bool.eq_false_iff.2 (fun e => q1 (one_all.1 (ht.1 e)))
    refine rC (Calm.un rfl (una_not _)) ?_
    refine rC (Calm.move rfl) ?_
    first | refine rS 24 ?_ | refine rU 24 ?_ | refine rG 24 (Calm.move rfl) ?_
    first | refine rS 24 ?_ | refine rU 24 ?_ | refine rG 24 (Calm.bin rfl rfl b_lss) ?_
    refine rC ((by first | exact Calm.pickT rfl rfl | exact Calm.pickF rfl rfl)) ?_
    refine rC (Calm.assign rfl) ?_
    refine arun_nil ?_
    refine athen_n ?_
    refine AWP.sub [(0, _), (1, _), (2, _), (6, _), (7, _), (8, _), (19, _)] ⟨rfl, rfl, rfl, rfl, rfl, rfl, rfl, trivial⟩ ?_
    refine AWP.condT rfl (by first | rfl | (simp; done) | (simp; omega)) ?_
    refine AWP.seq ?_
    refine AWP.region ?_
    refine rC (Calm.assign rfl) ?_
    refine arun_nil ?_
    refine athen_n ?_
    refine AWP.ret ?_
    refine ain_ret ?_
    refine athen_ret ?_
    refine ⟨_, M, ⟨_, _, rfl, rfl, rfl⟩, less_, ?_⟩
    exact ⟨oE, oW, hok, rfl, hM.symm⟩
end Go.Proofs.Ytkeiphkccnfhoaa
namespace Go.Proofs.Ytkeiphkccnfhoaa
open Go.RowKit
open Mv Disk
set_option linter.unusedVariables false
set_option linter.unusedSimpArgs false
set_option maxRecDepth 4000
theorem disk_done (p : Nat) (d : D) (e : Int) (S : Mem) (oE oW : Option (Nat × Nat)) (hok : OkV S p d oE oW) (he : d.ext.length ≤ 9223372036854775807) (hw : d.waits.length ≤ 9223372036854775807) :
    ACall Try.prog 46 #[.pointer (some ⟨p, 0, none⟩), .int .i64 e] (devM S p d oE oW) (DkRes (d, e) S) := by
  have hdk := hok.dk.dk he hw
  have hl := hok.dk.less
  have hp : (devM S p d oE oW).own p = some (devB d oE oW) := Mem.own_set_same _ _ _
  have hdl : (dkM S d oE oW).Less (devM S p d oE oW) := Mem.less_set _ _ _ hok.fr.1
  unfold dkV at hdk
  unfold devB at hp
  obtain ⟨qe, de, hqe⟩ := outV_eq hok.dk.e
  obtain ⟨qw, dw, hqw⟩ := outV_eq hok.dk.w
  rw [hqe, hqw] at hp hdk
  generalize devM S p d oE oW = M at *
  refine ACall.enter (args := [.pointer (some ⟨p, 0, none⟩), .int .i64 e]) (rs := [.cell 4 25, .tmp 5]) 11 [(0, .pointer (some ⟨p, 0, none⟩)), (1, .int .i64 e)] Try.func46 rfl rfl (Nat.le_of_ble_eq_true rfl) rfl ⟨rfl, rfl, trivial⟩ ?_
  refine AWP.seq ?_
  refine AWP.region ?_
  refine ARun.alloc (lit_lt rfl) ty_zero_25 ?_
  intro b4 f4
  have g4 := f4
  repeat ((with_reducible replace g4 := fresh_set g4); obtain ⟨g4, _⟩ := g4)
  have := g4.ne hp; have := g4.ne' hp
  (try simp only [List.length_cons, List.length_nil, Nat.zero_add, Nat.reduceAdd])
  refine rC (Calm.assign rfl) ?_
  refine arun_nil ?_
  refine athen_n ?_
  refine AWP.seq ?_
  refine AWP.region ?_
  refine rC (Calm.move rfl) ?_
  refine rC (Calm.nilCheck rfl) ?_
  refine rC (Calm.fieldAddr ty_field_90_0 rfl) ?_
  refine rC (ldA_ (cs := [_, _, _, _, _]) ty_agg_25 ty_size_25 rfl) ?_
  refine rC (Calm.move rfl) ?_
  first | refine ARun.storeAll rfl rfl ty_size_25 own_ rfl rfl ?_ | refine ARun.store rfl rfl ty_size_25 own_ lens_ rfl ?_
  (try simp only [Mem.set_set, List.set_cons_zero, List.set_cons_succ, Nat.zero_add, Nat.reduceAdd])
  refine rC (Calm.assign rfl) ?_
  refine arun_nil ?_
  refine athen_n ?_
  refine AWP.sub [(0, _), (1, _), (4, _), (5, _)] ⟨rfl, rfl, rfl, rfl, trivial⟩ ?_
  refine AWP.ret ?_
  refine ⟨_, dkM S d oE oW, ⟨_, _, _, rfl, .inr ⟨ty_agg_25, [_, _, _, _, _], ty_size_25, rds_, rfl⟩, ⟨_, _, rfl, rfl, rfl⟩, rfl⟩, hdl.trans less_, ?_⟩
  exact ⟨_, rfl, hl, hdk⟩
noncomputable def opened (d : D) (f : D × Int) : D × Int := if (openD d).2 = 0 then f else openD d
theorem newD_lens {d : D} (hR : Right d) (s : ByteArray) (n : Int) : (newD d s n).1.ext.length ≤ 9223372036854775807 ∧ (newD d s n).1.waits.length ≤ 9223372036854775807 := by
  have h1 := (right_len hR).1
  have h2 := hR.wl
  have h3 := ins_len (pos_le d.ext s) (s, zeros n.toNat)
  unfold newD
  repeat' split
  all_goals (constructor <;> simp only <;> omega)
set_option maxHeartbeats 1000000 in
theorem disk_New (v : Value) (d : D) (s : ByteArray) (n : Int) (S : Mem) (hd : DkR S v d) (hz : Dz d) :
    ACall Try.prog 13 #[v, .string s, .int .i64 n] S (DkRes (opened d (newD d s n)) S) := by
  have hopen := disk_Open v d S hd hz
  obtain ⟨pe, ce, pw, cw, rfl, hE, hW⟩ := id hd
  unfold opened
  rcases openD_or d with ⟨ho, hR⟩ | ⟨ho, hR, hdn⟩ | ⟨ho, hR, hdn⟩ <;> rw [ho] at hopen ⊢
  · rw [if_neg (show ¬ (2 : Int) = 0 from by decide)]
    refine ACall.enter (args := [.agg #[.int .i64 d.size, .slice pe d.ext.length ce, .slice pw d.waits.length cw, .int .i64 d.fuse, .bool d.down], .string s, .int .i64 n]) (rs := [.cell 6 25, .tmp 7]) 26 [(0, .agg #[.int .i64 d.size, .slice pe d.ext.length ce, .slice pw d.waits.length cw, .int .i64 d.fuse, .bool d.down]), (1, .string s), (2, .int .i64 n)] Try.func13 rfl rfl (Nat.le_of_ble_eq_true rfl) rfl ⟨rfl, rfl, rfl, trivial⟩ ?_
    refine AWP.seq ?_
    refine AWP.region ?_
    refine ARun.boxA (cs := [_, _, _, _, _]) (lit_lt rfl) rfl ?_
    intro b3 f3
    have g3 := f3
    repeat ((with_reducible replace g3 := fresh_set g3); obtain ⟨g3, _⟩ := g3)
    (try simp only [List.length_cons, List.length_nil, Nat.zero_add, Nat.reduceAdd])
    refine ARun.alloc (lit_lt rfl) ty_zero_25 ?_
    intro b6 f6
    have g6 := f6
    repeat ((with_reducible replace g6 := fresh_set g6); obtain ⟨g6, _⟩ := g6)
    (try simp only [List.length_cons, List.length_nil, Nat.zero_add, Nat.reduceAdd])
    refine rC (Calm.assign rfl) ?_
    refine arun_nil ?_
    refine athen_n ?_
    refine AWP.seq ?_
    refine AWP.region ?_
    refine rC (ldA_ (cs := [_, _, _, _, _]) ty_agg_25 ty_size_25 rfl) ?_
    refine ARun.call (lit_lt rfl) go_44 rfl ((hopen.frame f3).frame f6) ?_
    rintro _ S1 ⟨Sa, ⟨M, ⟨p, oE, oW, hok, rfl, hM⟩, fa, hSa⟩, fb, h1⟩
    rw [h1, hSa]; rw [hSa] at fb; clear h1 S1 hSa Sa
    refine rC (Calm.move rfl) ?_
    refine rC (Calm.extract rfl rfl) ?_
    refine rC (Calm.extract rfl rfl) ?_
    refine rC (Calm.assign rfl) ?_
    refine rC (Calm.assign rfl) ?_
    refine arun_nil ?_
    refine athen_n ?_
    refine AWP.sub [(0, _), (1, _), (2, _), (3, _), (6, _), (7, _), (8, _), (9, _)] ⟨rfl, rfl, rfl, rfl, rfl, rfl, rfl, rfl, trivial⟩ ?_
    refine AWP.seq ?_
    refine AWP.seq ?_
    refine AWP.region ?_
    refine rC (Calm.move rfl) ?_
    refine rC (Calm.bin rfl rfl b_eql) ?_
    refine arun_nil ?_
    refine athen_n ?_
    refine AWP.sub [(0, _), (1, _), (2, _), (3, _), (6, _), (7, _), (8, _), (9, _), (16, _)] ⟨rfl, rfl, rfl, rfl, rfl, rfl, rfl, rfl, rfl, trivial⟩ ?_
    refine AWP.condF rfl (by first | rfl | (simp; done) | (simp; omega)) ?_
    rw [hM] at fa fb ⊢
    refine AWP.skip ?_
    refine athen_n ?_
    refine AWP.seq ?_
    refine AWP.region ?_
    refine rC (Calm.move rfl) ?_
    refine rC (Calm.move rfl) ?_
    refine ARun.call (lit_lt rfl) go_46 rfl (((disk_done p D0 2 S oE oW hok (by decide) (by decide)).frame fa).frame fb) ?_
    rintro _ S1 ⟨Sa, ⟨M2, ⟨v, rfl, hl2, hdk⟩, fc, hSa⟩, fd, h1⟩
    rw [h1, hSa]; rw [hSa] at fd; clear h1 S1 hSa Sa
    obtain ⟨qe, de, qw, dw, rfl, _⟩ := id hdk
    obtain ⟨ge, _⟩ := fresh_set fd
    refine rC (Calm.extract rfl rfl) ?_
    refine rC (Calm.extract rfl rfl) ?_
    first | refine ARun.storeAll rfl rfl ty_size_25 own_ rfl rfl ?_ | refine ARun.store rfl rfl ty_size_25 own_ lens_ rfl ?_
    (try simp only [Mem.set_set, List.set_cons_zero, List.set_cons_succ, Nat.zero_add, Nat.reduceAdd])
    refine rC (Calm.assign rfl) ?_
    refine arun_nil ?_
    refine athen_n ?_
    refine AWP.sub [(0, _), (1, _), (2, _), (3, _), (6, _), (7, _), (8, _), (9, _), (16, _)] ⟨rfl, rfl, rfl, rfl, rfl, rfl, rfl, rfl, rfl, trivial⟩ ?_
    refine AWP.ret ?_
    refine ⟨_, M2, ⟨_, _, _, rfl, .inr ⟨ty_agg_25, [_, _, _, _, _], ty_size_25, rds_, rfl⟩, ⟨_, _, rfl, rfl, rfl⟩, rfl⟩, less_, ?_⟩
    exact ⟨_, rfl, hl2, hdk⟩
  · rw [if_neg (show ¬ (10 : Int) = 0 from by decide)]
    refine ACall.enter (args := [.agg #[.int .i64 d.size, .slice pe d.ext.length ce, .slice pw d.waits.length cw, .int .i64 d.fuse, .bool d.down], .string s, .int .i64 n]) (rs := [.cell 6 25, .tmp 7]) 26 [(0, .agg #[.int .i64 d.size, .slice pe d.ext.length ce, .slice pw d.waits.length cw, .int .i64 d.fuse, .bool d.down]), (1, .string s), (2, .int .i64 n)] Try.func13 rfl rfl (Nat.le_of_ble_eq_true rfl) rfl ⟨rfl, rfl, rfl, trivial⟩ ?_
    refine AWP.seq ?_
    refine AWP.region ?_
    refine ARun.boxA (cs := [_, _, _, _, _]) (lit_lt rfl) rfl ?_
    intro b3 f3
    have g3 := f3
    repeat ((with_reducible replace g3 := fresh_set g3); obtain ⟨g3, _⟩ := g3)
    (try simp only [List.length_cons, List.length_nil, Nat.zero_add, Nat.reduceAdd])
    refine ARun.alloc (lit_lt rfl) ty_zero_25 ?_
    intro b6 f6
    have g6 := f6
    repeat ((with_reducible replace g6 := fresh_set g6); obtain ⟨g6, _⟩ := g6)
    (try simp only [List.length_cons, List.length_nil, Nat.zero_add, Nat.reduceAdd])
    refine rC (Calm.assign rfl) ?_
    refine arun_nil ?_
    refine athen_n ?_
    refine AWP.seq ?_
    refine AWP.region ?_
    refine rC (ldA_ (cs := [_, _, _, _, _]) ty_agg_25 ty_size_25 rfl) ?_
    refine ARun.call (lit_lt rfl) go_44 rfl ((hopen.frame f3).frame f6) ?_
    rintro _ S1 ⟨Sa, ⟨M, ⟨p, oE, oW, hok, rfl, hM⟩, fa, hSa⟩, fb, h1⟩
    rw [h1, hSa]; rw [hSa] at fb; clear h1 S1 hSa Sa
    refine rC (Calm.move rfl) ?_
    refine rC (Calm.extract rfl rfl) ?_
    refine rC (Calm.extract rfl rfl) ?_
    refine rC (Calm.assign rfl) ?_
    refine rC (Calm.assign rfl) ?_
    refine arun_nil ?_
    refine athen_n ?_
    refine AWP.sub [(0, _), (1, _), (2, _), (3, _), (6, _), (7, _), (8, _), (9, _)] ⟨rfl, rfl, rfl, rfl, rfl, rfl, rfl, rfl, trivial⟩ ?_
    refine AWP.seq ?_
    refine AWP.seq ?_
    refine AWP.region ?_
    refine rC (Calm.move rfl) ?_
    refine rC (Calm.bin rfl rfl b_eql) ?_
    refine arun_nil ?_
    refine athen_n ?_
    refine AWP.sub [(0, _), (1, _), (2, _), (3, _), (6, _), (7, _), (8, _), (9, _), (16, _)] ⟨rfl, rfl, rfl, rfl, rfl, rfl, rfl, rfl, rfl, trivial⟩ ?_
    refine AWP.condF rfl (by first | rfl | (simp; done) | (simp; omega)) ?_
    rw [hM] at fa fb ⊢
    refine AWP.skip ?_
    refine athen_n ?_
    refine AWP.seq ?_
    refine AWP.region ?_
    refine rC (Calm.move rfl) ?_
    refine rC (Calm.move rfl) ?_
    refine ARun.call (lit_lt rfl) go_46 rfl (((disk_done p d 10 S oE oW hok (Nat.le_trans (right_len hR).1 (by decide)) (Nat.le_trans hR.wl (by decide))).frame fa).frame fb) ?_
    rintro _ S1 ⟨Sa, ⟨M2, ⟨v, rfl, hl2, hdk⟩, fc, hSa⟩, fd, h1⟩
    rw [h1, hSa]; rw [hSa] at fd; clear h1 S1 hSa Sa
    obtain ⟨qe, de, qw, dw, rfl, _⟩ := id hdk
    obtain ⟨ge, _⟩ := fresh_set fd
    refine rC (Calm.extract rfl rfl) ?_
    refine rC (Calm.extract rfl rfl) ?_
    first | refine ARun.storeAll rfl rfl ty_size_25 own_ rfl rfl ?_ | refine ARun.store rfl rfl ty_size_25 own_ lens_ rfl ?_
    (try simp only [Mem.set_set, List.set_cons_zero, List.set_cons_succ, Nat.zero_add, Nat.reduceAdd])
    refine rC (Calm.assign rfl) ?_
    refine arun_nil ?_
    refine athen_n ?_
    refine AWP.sub [(0, _), (1, _), (2, _), (3, _), (6, _), (7, _), (8, _), (9, _), (16, _)] ⟨rfl, rfl, rfl, rfl, rfl, rfl, rfl, rfl, rfl, trivial⟩ ?_
    refine AWP.ret ?_
    refine ⟨_, M2, ⟨_, _, _, rfl, .inr ⟨ty_agg_25, [_, _, _, _, _], ty_size_25, rds_, rfl⟩, ⟨_, _, rfl, rfl, rfl⟩, rfl⟩, less_, ?_⟩
    exact ⟨_, rfl, hl2, hdk⟩
  · rw [if_pos rfl]
    refine ACall.enter (args := [.agg #[.int .i64 d.size, .slice pe d.ext.length ce, .slice pw d.waits.length cw, .int .i64 d.fuse, .bool d.down], .string s, .int .i64 n]) (rs := [.cell 6 25, .tmp 7]) 26 [(0, .agg #[.int .i64 d.size, .slice pe d.ext.length ce, .slice pw d.waits.length cw, .int .i64 d.fuse, .bool d.down]), (1, .string s), (2, .int .i64 n)] Try.func13 rfl rfl (Nat.le_of_ble_eq_true rfl) rfl ⟨rfl, rfl, rfl, trivial⟩ ?_
    refine AWP.seq ?_
    refine AWP.region ?_
    refine ARun.boxA (cs := [_, _, _, _, _]) (lit_lt rfl) rfl ?_
    intro b3 f3
    have g3 := f3
    repeat ((with_reducible replace g3 := fresh_set g3); obtain ⟨g3, _⟩ := g3)
    (try simp only [List.length_cons, List.length_nil, Nat.zero_add, Nat.reduceAdd])
    refine ARun.alloc (lit_lt rfl) ty_zero_25 ?_
    intro b6 f6
    have g6 := f6
    repeat ((with_reducible replace g6 := fresh_set g6); obtain ⟨g6, _⟩ := g6)
    (try simp only [List.length_cons, List.length_nil, Nat.zero_add, Nat.reduceAdd])
    refine rC (Calm.assign rfl) ?_
    refine arun_nil ?_
    refine athen_n ?_
    refine AWP.seq ?_
    refine AWP.region ?_
    refine rC (ldA_ (cs := [_, _, _, _, _]) ty_agg_25 ty_size_25 rfl) ?_
    refine ARun.call (lit_lt rfl) go_44 rfl ((hopen.frame f3).frame f6) ?_
    rintro _ S1 ⟨Sa, ⟨M, ⟨p, oE, oW, hok, rfl, hM⟩, fa, hSa⟩, fb, h1⟩
    rw [h1, hSa]; rw [hSa] at fb; clear h1 S1 hSa Sa
    refine rC (Calm.move rfl) ?_
    refine rC (Calm.extract rfl rfl) ?_
    refine rC (Calm.extract rfl rfl) ?_
    refine rC (Calm.assign rfl) ?_
    refine rC (Calm.assign rfl) ?_
    refine arun_nil ?_
    refine athen_n ?_
    refine AWP.sub [(0, _), (1, _), (2, _), (3, _), (6, _), (7, _), (8, _), (9, _)] ⟨rfl, rfl, rfl, rfl, rfl, rfl, rfl, rfl, trivial⟩ ?_
    refine AWP.seq ?_
    refine AWP.seq ?_
    refine AWP.region ?_
    refine rC (Calm.move rfl) ?_
    refine rC (Calm.bin rfl rfl b_eql) ?_
    refine arun_nil ?_
    refine athen_n ?_
    refine AWP.sub [(0, _), (1, _), (2, _), (3, _), (6, _), (7, _), (8, _), (9, _), (16, _)] ⟨rfl, rfl, rfl, rfl, rfl, rfl, rfl, rfl, rfl, trivial⟩ ?_
    refine AWP.condT rfl (by first | rfl | (simp; done) | (simp; omega)) ?_
    rw [hM] at fa fb ⊢
    refine AWP.region ?_
    refine rC (Calm.move rfl) ?_
    refine rC (Calm.move rfl) ?_
    refine rC (Calm.move rfl) ?_
    refine ARun.call (lit_lt rfl) go_45 rfl (((dev_New p d s n S oE oW hok hR).frame fa).frame fb) ?_
    rintro _ S1 ⟨Sa, ⟨M3, ⟨oE3, oW3, hok3, rfl, hM3⟩, fa3, hSa⟩, fb3, h1⟩
    rw [h1, hSa]; rw [hSa] at fb3; clear h1 S1 hSa Sa; rw [hM3] at fa3 fb3 ⊢
    refine rC (Calm.assign rfl) ?_
    refine arun_nil ?_
    refine athen_n ?_
    refine AWP.sub [(0, _), (1, _), (2, _), (3, _), (6, _), (7, _), (8, _), (9, _), (16, _)] ⟨rfl, rfl, rfl, rfl, rfl, rfl, rfl, rfl, rfl, trivial⟩ ?_
    refine AWP.seq ?_
    refine AWP.region ?_
    refine rC (Calm.move rfl) ?_
    refine rC (Calm.move rfl) ?_
    refine ARun.call (lit_lt rfl) go_46 rfl (((disk_done p _ _ S oE3 oW3 hok3 (newD_lens hR s n).1 (newD_lens hR s n).2).frame fa3).frame fb3) ?_
    rintro _ S1 ⟨Sa, ⟨M2, ⟨v, rfl, hl2, hdk⟩, fc, hSa⟩, fd, h1⟩
    rw [h1, hSa]; rw [hSa] at fd; clear h1 S1 hSa Sa
    obtain ⟨qe, de, qw, dw, rfl, _⟩ := id hdk
    obtain ⟨ge, _⟩ := fresh_set fd
    refine rC (Calm.extract rfl rfl) ?_
    refine rC (Calm.extract rfl rfl) ?_
    first | refine ARun.storeAll rfl rfl ty_size_25 own_ rfl rfl ?_ | refine ARun.store rfl rfl ty_size_25 own_ lens_ rfl ?_
    (try simp only [Mem.set_set, List.set_cons_zero, List.set_cons_succ, Nat.zero_add, Nat.reduceAdd])
    refine rC (Calm.assign rfl) ?_
    refine arun_nil ?_
    refine athen_n ?_
    refine AWP.sub [(0, _), (1, _), (2, _), (3, _), (6, _), (7, _), (8, _), (9, _), (16, _)] ⟨rfl, rfl, rfl, rfl, rfl, rfl, rfl, rfl, rfl, trivial⟩ ?_
    refine AWP.ret ?_
    refine ⟨_, M2, ⟨_, _, _, rfl, .inr ⟨ty_agg_25, [_, _, _, _, _], ty_size_25, rds_, rfl⟩, ⟨_, _, rfl, rfl, rfl⟩, rfl⟩, less_, ?_⟩
    exact ⟨_, rfl, hl2, hdk⟩
end Go.Proofs.Ytkeiphkccnfhoaa
namespace Go.Proofs.Ytkeiphkccnfhoaa
open Go.RowKit
open Mv Disk
set_option linter.unusedVariables false
set_option linter.unusedSimpArgs false
set_option maxRecDepth 4000
theorem drop_get {α : Type} {l : List α} {i : Nat} (h : i < l.length) : l.drop i = l[i] :: l.drop (i + 1) := List.drop_eq_getElem_cons h
section
variable {P : Program} {N : Nat} {E : Env} {S : Mem} {dst : Option Nat} {ty : TypeId} {pos : String} {aft : Array Edge} {gd : Option (Nat × Bool)}
end
end Go.Proofs.Ytkeiphkccnfhoaa
namespace Go.Proofs.Ytkeiphkccnfhoaa
open Go.RowKit
open Mv Disk
set_option linter.unusedVariables false
set_option linter.unusedSimpArgs false
set_option maxRecDepth 4000
theorem right_lens {d : D} (h : Right d) : d.ext.length ≤ 9223372036854775807 ∧ d.waits.length ≤ 9223372036854775807 := ⟨Nat.le_trans (right_len h).1 (by decide), Nat.le_trans h.wl (by decide)⟩
end Go.Proofs.Ytkeiphkccnfhoaa
namespace Go.Proofs.Ytkeiphkccnfhoaa
open Go.RowKit
open Mv Disk
set_option linter.unusedVariables false
set_option linter.unusedSimpArgs false
set_option maxRecDepth 4000
def addW (d : D) (w : Wr) : D := { d with waits := d.waits ++ [w] }
def fuseD (d : D) : D × Int := if d.fuse = 0 then ({ d with down := true }, 10) else if 0 < d.fuse then ({ d with fuse := d.fuse - 1 }, 0) else (d, 0)
def writeD (d : D) (s : ByteArray) (i : Int) (data : ByteArray) : D × Int := if (placeD d s i).2 ≠ 0 then (d, (placeD d s i).2) else if data.size ≠ 64 then (d, 2) else if d.waits.length = 16384 then (d, 8) else fuseD (addW d (s, i, data))
theorem add_flat (d : D) (w : Wr) : (addW d w).waits.flatMap wrF = d.waits.flatMap wrF ++ wrF w := by unfold addW; simp
theorem add_len (d : D) (w : Wr) : (addW d w).waits.length = d.waits.length + 1 := by unfold addW; simp
set_option maxHeartbeats 2000000 in
theorem dev_Write (p : Nat) (d : D) (s : ByteArray) (i : Int) (data : ByteArray) (S : Mem) (oE oW : Option (Nat × Nat)) (hok : OkV S p d oE oW) (hR : Right d) (hf1 : d.fuse ≤ 9223372036854775807) :
    ACall Try.prog 64 #[.pointer (some ⟨p, 0, none⟩), .string s, .int .i64 i, .string data] (devM S p d oE oW) (DevR S p (writeD d s i data)) := by
  have hlens := right_lens hR
  have hwl := hR.wl
  have hf0 := hR.fu
  have hpl := dev_place p d s i _ (hok.rd hlens.1 hlens.2) hR
  have hp : (devM S p d oE oW).own p = some (devB d oE oW) := Mem.own_set_same _ _ _
  have hap := hok.apart
  have hft := hok.fits
  have hME := devM_W hap (devB d oE oW) (d := d)
  have hoW := okO_baseW hap hft (devB d oE oW)
  rw [← devM_eq] at hME
  have hfl := flat_length wr_len d.waits
  have happ := appN_self (e := wrT) hoW hfl
  rw [hME] at happ
  have hmeq := devM_eq S p d oE oW
  have hdc : ∀ oW', (devM S p (addW d (s, i, data)) oE oW').own p = some (devB (addW d (s, i, data)) oE oW') := fun oW' => Mem.own_set_same _ _ _
  obtain ⟨qw, dw, hqw⟩ := outV_eq hok.dk.w
  generalize hM : devM S p d oE oW = M at *
  unfold devB at hp
  unfold writeD
  by_cases q1 : (placeD d s i).2 = 0
  · rw [if_neg (fun h => h q1)]
    rw [q1] at hpl
    by_cases q2 : data.size = 64
    · rw [if_neg (fun h => h q2)]
      by_cases q3 : d.waits.length = 16384
      · rw [if_pos q3]
        rw [hqw] at hp
        refine ACall.enter (args := [.pointer (some ⟨p, 0, none⟩), .string s, .int .i64 i, .string data]) (rs := [.tmp 8]) 75 [(0, .pointer (some ⟨p, 0, none⟩)), (1, .string s), (2, .int .i64 i), (3, .string data)] Try.func64 rfl rfl (Nat.le_of_ble_eq_true rfl) rfl ⟨rfl, rfl, rfl, rfl, trivial⟩ ?_
        refine AWP.seq ?_
        refine AWP.region ?_
        refine rC (Calm.assign rfl) ?_
        refine arun_nil ?_
        refine athen_n ?_
        refine AWP.seq ?_
        refine AWP.seq ?_
        refine AWP.region ?_
        refine rC (Calm.move rfl) ?_
        refine rC (Calm.move rfl) ?_
        refine rC (Calm.move rfl) ?_
        refine ARun.call (lit_lt rfl) go_94 rfl (hpl) ?_
        rintro _ S1 ⟨rfl, h1⟩
        rw [h1]; clear h1 S1
        refine rC (Calm.move rfl) ?_
        refine rC (Calm.extract rfl rfl) ?_
        refine rC (Calm.extract rfl rfl) ?_
        refine rC (Calm.assign rfl) ?_
        refine rC (Calm.assign rfl) ?_
        refine arun_nil ?_
        refine athen_n ?_
        refine AWP.sub [(0, _), (1, _), (2, _), (3, _), (8, _), (10, _)] ⟨rfl, rfl, rfl, rfl, rfl, rfl, trivial⟩ ?_
        refine AWP.seq ?_
        refine AWP.region ?_
        refine rC (Calm.move rfl) ?_
        refine rC (Calm.bin rfl rfl b_neq) ?_
        refine arun_nil ?_
        refine athen_n ?_
        refine AWP.sub [(0, _), (1, _), (2, _), (3, _), (8, _), (10, _), (19, _)] ⟨rfl, rfl, rfl, rfl, rfl, rfl, rfl, trivial⟩ ?_
        refine AWP.condF rfl (by first | rfl | (simp; done) | (simp; omega)) ?_
        refine AWP.skip ?_
        refine athen_n ?_
        refine AWP.seq ?_
        refine AWP.block ?_
        refine AWP.seq ?_
        refine AWP.region ?_
        refine rC (Calm.move rfl) ?_
        refine rC (Calm.lenStr (strT_spec ty_str_9) rfl) ?_
        refine rC (Calm.bin rfl rfl b_neq) ?_
        refine rC (Calm.assign rfl) ?_
        refine arun_nil ?_
        refine athen_n ?_
        refine AWP.sub [(0, _), (1, _), (2, _), (3, _), (8, _), (10, _), (19, _), (21, _)] ⟨rfl, rfl, rfl, rfl, rfl, rfl, rfl, rfl, trivial⟩ ?_
        refine AWP.condF rfl (by first | rfl | (simp; done) | (simp; omega)) ?_
        refine AWP.seq ?_
        refine AWP.region ?_
        refine rC (Calm.move rfl) ?_
        refine rC (Calm.nilCheck rfl) ?_
        refine rC (Calm.fieldAddr ty_field_90_0 rfl) ?_
        refine rC (Calm.fieldAddr ty_field_25_2 rfl) ?_
        refine rC (ld_ ty_plain_23 rfl) ?_
        refine rC (Calm.lenSl Try.underlying23 rfl) ?_
        refine rC (Calm.bin rfl rfl b_eql) ?_
        refine rC (Calm.assign rfl) ?_
        refine arun_nil ?_
        refine athen_n ?_
        refine AWP.sub [(0, _), (1, _), (2, _), (3, _), (8, _), (10, _), (19, _), (21, _), (25, _)] ⟨rfl, rfl, rfl, rfl, rfl, rfl, rfl, rfl, rfl, trivial⟩ ?_
        refine AWP.condT rfl (by first | rfl | (simp; done) | (simp; omega)) ?_
        refine AWP.seq ?_
        refine AWP.region ?_
        refine rC (Calm.assign rfl) ?_
        refine arun_nil ?_
        refine athen_n ?_
        refine AWP.ret ?_
        refine ain_ret ?_
        refine athen_ret ?_
        refine ⟨_, M, ⟨_, _, rfl, rfl, rfl⟩, less_, ?_⟩
        exact ⟨oE, oW, hok, rfl, hM.symm⟩
      · rw [if_neg q3]
        refine ACall.enter (args := [.pointer (some ⟨p, 0, none⟩), .string s, .int .i64 i, .string data]) (rs := [.tmp 8]) 75 [(0, .pointer (some ⟨p, 0, none⟩)), (1, .string s), (2, .int .i64 i), (3, .string data)] Try.func64 rfl rfl (Nat.le_of_ble_eq_true rfl) rfl ⟨rfl, rfl, rfl, rfl, trivial⟩ ?_
        refine AWP.seq ?_
        refine AWP.region ?_
        refine rC (Calm.assign rfl) ?_
        refine arun_nil ?_
        refine athen_n ?_
        refine AWP.seq ?_
        refine AWP.seq ?_
        refine AWP.region ?_
        refine rC (Calm.move rfl) ?_
        refine rC (Calm.move rfl) ?_
        refine rC (Calm.move rfl) ?_
        refine ARun.call (lit_lt rfl) go_94 rfl (hpl) ?_
        rintro _ S1 ⟨rfl, h1⟩
        rw [h1]; clear h1 S1
        refine rC (Calm.move rfl) ?_
        refine rC (Calm.extract rfl rfl) ?_
        refine rC (Calm.extract rfl rfl) ?_
        refine rC (Calm.assign rfl) ?_
        refine rC (Calm.assign rfl) ?_
        refine arun_nil ?_
        refine athen_n ?_
        refine AWP.sub [(0, _), (1, _), (2, _), (3, _), (8, _), (10, _)] ⟨rfl, rfl, rfl, rfl, rfl, rfl, trivial⟩ ?_
        refine AWP.seq ?_
        refine AWP.region ?_
        refine rC (Calm.move rfl) ?_
        refine rC (Calm.bin rfl rfl b_neq) ?_
        refine arun_nil ?_
        refine athen_n ?_
        refine AWP.sub [(0, _), (1, _), (2, _), (3, _), (8, _), (10, _), (19, _)] ⟨rfl, rfl, rfl, rfl, rfl, rfl, rfl, trivial⟩ ?_
        refine AWP.condF rfl (by first | rfl | (simp; done) | (simp; omega)) ?_
        refine AWP.skip ?_
        refine athen_n ?_
        refine AWP.seq ?_
        refine AWP.block ?_
        refine AWP.seq ?_
        refine AWP.region ?_
        refine rC (Calm.move rfl) ?_
        refine rC (Calm.lenStr (strT_spec ty_str_9) rfl) ?_
        refine rC (Calm.bin rfl rfl b_neq) ?_
        refine rC (Calm.assign rfl) ?_
        refine arun_nil ?_
        refine athen_n ?_
        refine AWP.sub [(0, _), (1, _), (2, _), (3, _), (8, _), (10, _), (19, _), (21, _)] ⟨rfl, rfl, rfl, rfl, rfl, rfl, rfl, rfl, trivial⟩ ?_
        refine AWP.condF rfl (by first | rfl | (simp; done) | (simp; omega)) ?_
        refine AWP.seq ?_
        refine AWP.region ?_
        refine rC (Calm.move rfl) ?_
        refine rC (Calm.nilCheck rfl) ?_
        refine rC (Calm.fieldAddr ty_field_90_0 rfl) ?_
        refine rC (Calm.fieldAddr ty_field_25_2 rfl) ?_
        refine rC (ld_ ty_plain_23 rfl) ?_
        refine rC ((by rw [hqw]; exact Calm.lenSl Try.underlying23 rfl)) ?_
        refine rC (Calm.bin rfl rfl b_eql) ?_
        refine rC (Calm.assign rfl) ?_
        refine arun_nil ?_
        refine athen_n ?_
        refine AWP.sub [(0, _), (1, _), (2, _), (3, _), (8, _), (10, _), (19, _), (21, _), (25, _)] ⟨rfl, rfl, rfl, rfl, rfl, rfl, rfl, rfl, rfl, trivial⟩ ?_
        refine AWP.condF rfl (by first | rfl | (simp; done) | (simp; omega)) ?_
        refine AWP.skip ?_
        refine ain_n ?_
        refine athen_n ?_
        refine AWP.seq ?_
        refine AWP.region ?_
        refine rC (Calm.move rfl) ?_
        refine rC (Calm.move rfl) ?_
        refine rC (Calm.nilCheck rfl) ?_
        refine rC (Calm.fieldAddr ty_field_90_0 rfl) ?_
        refine rC (Calm.fieldAddr ty_field_25_2 rfl) ?_
        refine rC (ld_ ty_plain_23 rfl) ?_
        refine rC (Calm.move rfl) ?_
        refine rC (Calm.move rfl) ?_
        refine rC (Calm.move rfl) ?_
        refine rC (Calm.build (cs := [_, _, _]) ty_bld_51 rfl rfl) ?_
        refine ARun.build1 (lit_lt rfl) ty_sl_23 rfl (by decide) (by decide) rfl rfl ?_
        intro b43 f43
        have g43 := f43
        repeat ((with_reducible replace g43 := fresh_set g43); obtain ⟨g43, _⟩ := g43)
        have := g43.ne hp; have := g43.ne' hp
        refine ARun.appendOK (n := 3) (o := oW) (k := d.waits.length) (m := 1) (cs := d.waits.flatMap wrF) (lit_lt rfl) ty_sl_23 rfl rfl hfl hoW (happ.temp f43) rfl (src_own (Mem.own_set_same _ _ _) List.prefix_rfl) rfl (fun v hv => wr_one [(s, i, data)] v (by rw [List.flatMap_cons, List.flatMap_nil, List.append_nil]; exact hv)) (by omega) (by omega) ?_
        intro o' ho'
        have hp2 : ∀ cs, (outN 3 (baseW S p d oE (devB d oE oW)) o' wrT cs).own p = some (devB d oE oW) := fun cs => own_outN' (Mem.own_set_same _ _ _) (fun q c e => ((apart_W hap ho').w q c e).2)
        have hE' := devM_W' (d' := addW d (s, i, data)) hap ho' rfl
        rw [add_flat] at hE'
        unfold devB at hp2
        refine rC (Calm.nilCheck rfl) ?_
        refine rC (Calm.fieldAddr ty_field_90_0 rfl) ?_
        refine rC (Calm.fieldAddr ty_field_25_2 rfl) ?_
        refine ARun.store1 rfl rfl ty_size_23 (outV_cells _ _) (hp2 _) (show 2 < 5 from by decide) (outV_one _ _) ?_
        (try simp only [Mem.set_set, List.set_cons_zero, List.set_cons_succ, Nat.zero_add, Nat.reduceAdd])
        refine arun_nil ?_
        refine athen_n ?_
        refine AWP.sub [(0, _), (1, _), (2, _), (3, _), (8, _), (10, _), (19, _), (21, _), (25, _)] ⟨rfl, rfl, rfl, rfl, rfl, rfl, rfl, rfl, rfl, trivial⟩ ?_
        refine AWP.less (devM S p (addW d (s, i, data)) oE o') (by rw [← hE']; unfold devB; rw [add_len]; exact Mem.Less.refl _) ?_
        have hp3 := hdc o'
        have hokk : ∀ d', d'.waits = (addW d (s, i, data)).waits → d'.ext = d.ext → OkV S p d' oE o' := fun d' e1 e2 => okV_mk (apart_W hap ho') (fits_W hft ho' (by rw [e1, add_len]) e2)
        unfold devB at hp3
        simp only [show (addW d (s, i, data)).size = d.size from rfl, show (addW d (s, i, data)).fuse = d.fuse from rfl, show (addW d (s, i, data)).down = d.down from rfl] at hp3
        have hfu : (addW d (s, i, data)).fuse = d.fuse := rfl
        generalize hM2 : devM S p (addW d (s, i, data)) oE o' = M2 at *
        unfold fuseD
        rw [hfu]
        by_cases q4 : d.fuse = 0
        · rw [if_pos q4]
          refine AWP.seq ?_
          refine AWP.block ?_
          refine AWP.seq ?_
          refine AWP.region ?_
          refine rC (Calm.move rfl) ?_
          refine rC (Calm.nilCheck rfl) ?_
          refine rC (Calm.fieldAddr ty_field_90_0 rfl) ?_
          refine rC (Calm.fieldAddr ty_field_25_3 rfl) ?_
          refine rC (ld_ ty_plain_3 rfl) ?_
          refine rC (Calm.bin rfl rfl b_eql) ?_
          refine rC (Calm.assign rfl) ?_
          refine arun_nil ?_
          refine athen_n ?_
          refine AWP.sub [(0, _), (1, _), (2, _), (3, _), (8, _), (10, _), (19, _), (21, _), (25, _), (48, _)] ⟨rfl, rfl, rfl, rfl, rfl, rfl, rfl, rfl, rfl, rfl, trivial⟩ ?_
          refine AWP.condT rfl (by first | rfl | (simp; done) | (simp; omega)) ?_
          refine AWP.seq ?_
          refine AWP.region ?_
          refine rC (Calm.move rfl) ?_
          refine rC (Calm.nilCheck rfl) ?_
          refine rC (Calm.fieldAddr ty_field_90_0 rfl) ?_
          refine rC (Calm.fieldAddr ty_field_25_4 rfl) ?_
          refine ARun.store1 rfl rfl ty_size_4 rfl hp3 (show 4 < 5 from by decide) rfl ?_
          (try simp only [Mem.set_set, List.set_cons_zero, List.set_cons_succ, Nat.zero_add, Nat.reduceAdd])
          refine arun_nil ?_
          refine athen_n ?_
          refine AWP.sub [(0, _), (1, _), (2, _), (3, _), (8, _), (10, _), (19, _), (21, _), (25, _), (48, _)] ⟨rfl, rfl, rfl, rfl, rfl, rfl, rfl, rfl, rfl, rfl, trivial⟩ ?_
          refine AWP.seq ?_
          refine AWP.region ?_
          refine rC (Calm.assign rfl) ?_
          refine arun_nil ?_
          refine athen_n ?_
          refine AWP.ret ?_
          refine ain_ret ?_
          refine athen_ret ?_
          refine ⟨_, devM S p { addW d (s, i, data) with down := true } oE o', ⟨_, _, rfl, rfl, rfl⟩, (by rw [← hM2]; unfold devM; rw [Mem.set_set]; exact Mem.Less.refl _), ?_⟩
          exact ⟨oE, o', hokk _ rfl rfl, rfl, rfl⟩
        · rw [if_neg q4]
          by_cases q5 : 0 < d.fuse
          · rw [if_pos q5]
            refine AWP.seq ?_
            refine AWP.block ?_
            refine AWP.seq ?_
            refine AWP.region ?_
            refine rC (Calm.move rfl) ?_
            refine rC (Calm.nilCheck rfl) ?_
            refine rC (Calm.fieldAddr ty_field_90_0 rfl) ?_
            refine rC (Calm.fieldAddr ty_field_25_3 rfl) ?_
            refine rC (ld_ ty_plain_3 rfl) ?_
            refine rC (Calm.bin rfl rfl b_eql) ?_
            refine rC (Calm.assign rfl) ?_
            refine arun_nil ?_
            refine athen_n ?_
            refine AWP.sub [(0, _), (1, _), (2, _), (3, _), (8, _), (10, _), (19, _), (21, _), (25, _), (48, _)] ⟨rfl, rfl, rfl, rfl, rfl, rfl, rfl, rfl, rfl, rfl, trivial⟩ ?_
            refine AWP.condF rfl (by first | rfl | (simp; done) | (simp; omega)) ?_
            refine AWP.seq ?_
            refine AWP.region ?_
            refine rC (Calm.move rfl) ?_
            refine rC (Calm.nilCheck rfl) ?_
            refine rC (Calm.fieldAddr ty_field_90_0 rfl) ?_
            refine rC (Calm.fieldAddr ty_field_25_3 rfl) ?_
            refine rC (ld_ ty_plain_3 rfl) ?_
            refine rC (Calm.bin rfl rfl b_gtr) ?_
            refine rC (Calm.assign rfl) ?_
            refine arun_nil ?_
            refine athen_n ?_
            refine AWP.sub [(0, _), (1, _), (2, _), (3, _), (8, _), (10, _), (19, _), (21, _), (25, _), (48, _), (59, _)] ⟨rfl, rfl, rfl, rfl, rfl, rfl, rfl, rfl, rfl, rfl, rfl, trivial⟩ ?_
            refine AWP.condT rfl (by first | rfl | (simp; done) | (simp; omega)) ?_
            refine AWP.region ?_
            refine rC (Calm.move rfl) ?_
            refine rC (Calm.nilCheck rfl) ?_
            refine rC (Calm.fieldAddr ty_field_90_0 rfl) ?_
            refine rC (Calm.fieldAddr ty_field_25_3 rfl) ?_
            refine rC (ld_ ty_plain_3 rfl) ?_
            refine rC (Calm.bin rfl rfl b_sub_i64) ?_
            refine rC (Calm.nilCheck rfl) ?_
            refine rC (Calm.fieldAddr ty_field_90_0 rfl) ?_
            refine rC (Calm.fieldAddr ty_field_25_3 rfl) ?_
            refine ARun.store1 rfl rfl ty_size_3 rfl hp3 (show 3 < 5 from by decide) rfl ?_
            (try simp only [Mem.set_set, List.set_cons_zero, List.set_cons_succ, Nat.zero_add, Nat.reduceAdd])
            refine arun_nil ?_
            refine ain_n ?_
            refine athen_n ?_
            refine AWP.sub [(0, _), (1, _), (2, _), (3, _), (8, _), (10, _), (19, _), (21, _), (25, _), (48, _), (59, _)] ⟨rfl, rfl, rfl, rfl, rfl, rfl, rfl, rfl, rfl, rfl, rfl, trivial⟩ ?_
            refine AWP.seq ?_
            refine AWP.region ?_
            refine rC (Calm.assign rfl) ?_
            refine arun_nil ?_
            refine athen_n ?_
            refine AWP.ret ?_
            refine ⟨_, devM S p { addW d (s, i, data) with fuse := d.fuse - 1 } oE o', ⟨_, _, rfl, rfl, rfl⟩, (by rw [← hM2]; unfold devM; rw [Mem.set_set]; exact Mem.Less.refl _), ?_⟩
            exact ⟨oE, o', hokk _ rfl rfl, rfl, rfl⟩
          · rw [if_neg q5]
            refine AWP.seq ?_
            refine AWP.block ?_
            refine AWP.seq ?_
            refine AWP.region ?_
            refine rC (Calm.move rfl) ?_
            refine rC (Calm.nilCheck rfl) ?_
            refine rC (Calm.fieldAddr ty_field_90_0 rfl) ?_
            refine rC (Calm.fieldAddr ty_field_25_3 rfl) ?_
            refine rC (ld_ ty_plain_3 rfl) ?_
            refine rC (Calm.bin rfl rfl b_eql) ?_
            refine rC (Calm.assign rfl) ?_
            refine arun_nil ?_
            refine athen_n ?_
            refine AWP.sub [(0, _), (1, _), (2, _), (3, _), (8, _), (10, _), (19, _), (21, _), (25, _), (48, _)] ⟨rfl, rfl, rfl, rfl, rfl, rfl, rfl, rfl, rfl, rfl, trivial⟩ ?_
            refine AWP.condF rfl (by first | rfl | (simp; done) | (simp; omega)) ?_
            refine AWP.seq ?_
            refine AWP.region ?_
            refine rC (Calm.move rfl) ?_
            refine rC (Calm.nilCheck rfl) ?_
            refine rC (Calm.fieldAddr ty_field_90_0 rfl) ?_
            refine rC (Calm.fieldAddr ty_field_25_3 rfl) ?_
            refine rC (ld_ ty_plain_3 rfl) ?_
            refine rC (Calm.bin rfl rfl b_gtr) ?_
            refine rC (Calm.assign rfl) ?_
            refine arun_nil ?_
            refine athen_n ?_
            refine AWP.sub [(0, _), (1, _), (2, _), (3, _), (8, _), (10, _), (19, _), (21, _), (25, _), (48, _), (59, _)] ⟨rfl, rfl, rfl, rfl, rfl, rfl, rfl, rfl, rfl, rfl, rfl, trivial⟩ ?_
            refine AWP.condF rfl (by first | rfl | (simp; done) | (simp; omega)) ?_
            refine AWP.skip ?_
            refine ain_n ?_
            refine athen_n ?_
            refine AWP.seq ?_
            refine AWP.region ?_
            refine rC (Calm.assign rfl) ?_
            refine arun_nil ?_
            refine athen_n ?_
            refine AWP.ret ?_
            refine ⟨_, devM S p (addW d (s, i, data)) oE o', ⟨_, _, rfl, rfl, rfl⟩, (by rw [← hM2]; exact Mem.Less.refl _), ?_⟩
            exact ⟨oE, o', hokk _ rfl rfl, rfl, rfl⟩
    · rw [if_pos q2]
      refine ACall.enter (args := [.pointer (some ⟨p, 0, none⟩), .string s, .int .i64 i, .string data]) (rs := [.tmp 8]) 75 [(0, .pointer (some ⟨p, 0, none⟩)), (1, .string s), (2, .int .i64 i), (3, .string data)] Try.func64 rfl rfl (Nat.le_of_ble_eq_true rfl) rfl ⟨rfl, rfl, rfl, rfl, trivial⟩ ?_
      refine AWP.seq ?_
      refine AWP.region ?_
      refine rC (Calm.assign rfl) ?_
      refine arun_nil ?_
      refine athen_n ?_
      refine AWP.seq ?_
      refine AWP.seq ?_
      refine AWP.region ?_
      refine rC (Calm.move rfl) ?_
      refine rC (Calm.move rfl) ?_
      refine rC (Calm.move rfl) ?_
      refine ARun.call (lit_lt rfl) go_94 rfl (hpl) ?_
      rintro _ S1 ⟨rfl, h1⟩
      rw [h1]; clear h1 S1
      refine rC (Calm.move rfl) ?_
      refine rC (Calm.extract rfl rfl) ?_
      refine rC (Calm.extract rfl rfl) ?_
      refine rC (Calm.assign rfl) ?_
      refine rC (Calm.assign rfl) ?_
      refine arun_nil ?_
      refine athen_n ?_
      refine AWP.sub [(0, _), (1, _), (2, _), (3, _), (8, _), (10, _)] ⟨rfl, rfl, rfl, rfl, rfl, rfl, trivial⟩ ?_
      refine AWP.seq ?_
      refine AWP.region ?_
      refine rC (Calm.move rfl) ?_
      refine rC (Calm.bin rfl rfl b_neq) ?_
      refine arun_nil ?_
      refine athen_n ?_
      refine AWP.sub [(0, _), (1, _), (2, _), (3, _), (8, _), (10, _), (19, _)] ⟨rfl, rfl, rfl, rfl, rfl, rfl, rfl, trivial⟩ ?_
      refine AWP.condF rfl (by first | rfl | (simp; done) | (simp; omega)) ?_
      refine AWP.skip ?_
      refine athen_n ?_
      refine AWP.seq ?_
      refine AWP.block ?_
      refine AWP.seq ?_
      refine AWP.region ?_
      refine rC (Calm.move rfl) ?_
      refine rC (Calm.lenStr (strT_spec ty_str_9) rfl) ?_
      refine rC (Calm.bin rfl rfl b_neq) ?_
      refine rC (Calm.assign rfl) ?_
      refine arun_nil ?_
      refine athen_n ?_
      refine AWP.sub [(0, _), (1, _), (2, _), (3, _), (8, _), (10, _), (19, _), (21, _)] ⟨rfl, rfl, rfl, rfl, rfl, rfl, rfl, rfl, trivial⟩ ?_
      refine AWP.condT rfl (by first | rfl | (simp; done) | (simp; omega)) ?_
      refine AWP.seq ?_
      refine AWP.region ?_
      refine rC (Calm.assign rfl) ?_
      refine arun_nil ?_
      refine athen_n ?_
      refine AWP.ret ?_
      refine ain_ret ?_
      refine athen_ret ?_
      refine ⟨_, M, ⟨_, _, rfl, rfl, rfl⟩, less_, ?_⟩
      exact ⟨oE, oW, hok, rfl, hM.symm⟩
  · rw [if_pos q1]
    have hp1 : (placeD d s i).2 = 1 ∨ (placeD d s i).2 = 3 := by
      unfold placeD at q1 ⊢; repeat' split
      all_goals simp_all
    refine ACall.enter (args := [.pointer (some ⟨p, 0, none⟩), .string s, .int .i64 i, .string data]) (rs := [.tmp 8]) 75 [(0, .pointer (some ⟨p, 0, none⟩)), (1, .string s), (2, .int .i64 i), (3, .string data)] Try.func64 rfl rfl (Nat.le_of_ble_eq_true rfl) rfl ⟨rfl, rfl, rfl, rfl, trivial⟩ ?_
    refine AWP.seq ?_
    refine AWP.region ?_
    refine rC (Calm.assign rfl) ?_
    refine arun_nil ?_
    refine athen_n ?_
    refine AWP.seq ?_
    refine AWP.seq ?_
    refine AWP.region ?_
    refine rC (Calm.move rfl) ?_
    refine rC (Calm.move rfl) ?_
    refine rC (Calm.move rfl) ?_
    refine ARun.call (lit_lt rfl) go_94 rfl (hpl) ?_
    rintro _ S1 ⟨rfl, h1⟩
    rw [h1]; clear h1 S1
    refine rC (Calm.move rfl) ?_
    refine rC (Calm.extract rfl rfl) ?_
    refine rC (Calm.extract rfl rfl) ?_
    refine rC (Calm.assign rfl) ?_
    refine rC (Calm.assign rfl) ?_
    refine arun_nil ?_
    refine athen_n ?_
    refine AWP.sub [(0, _), (1, _), (2, _), (3, _), (8, _), (10, _)] ⟨rfl, rfl, rfl, rfl, rfl, rfl, trivial⟩ ?_
    refine AWP.seq ?_
    refine AWP.region ?_
    refine rC (Calm.move rfl) ?_
    refine rC (Calm.bin rfl rfl b_neq) ?_
    refine arun_nil ?_
    refine athen_n ?_
    refine AWP.sub [(0, _), (1, _), (2, _), (3, _), (8, _), (10, _), (19, _)] ⟨rfl, rfl, rfl, rfl, rfl, rfl, rfl, trivial⟩ ?_
    refine AWP.condT rfl (by first | rfl | (simp; done) | (simp; omega)) ?_
    refine AWP.seq ?_
    refine AWP.region ?_
    refine rC (Calm.move rfl) ?_
    refine rC (Calm.assign rfl) ?_
    refine arun_nil ?_
    refine athen_n ?_
    refine AWP.sub [(0, _), (1, _), (2, _), (3, _), (8, _), (10, _), (19, _)] ⟨rfl, rfl, rfl, rfl, rfl, rfl, rfl, trivial⟩ ?_
    refine AWP.ret ?_
    refine athen_ret ?_
    refine ⟨_, M, ⟨_, _, rfl, rfl, rfl⟩, less_, ?_⟩
    exact ⟨oE, oW, hok, rfl, hM.symm⟩
end Go.Proofs.Ytkeiphkccnfhoaa
namespace Go.Proofs.Ytkeiphkccnfhoaa
open Go.RowKit
open Mv Disk
set_option linter.unusedVariables false
set_option linter.unusedSimpArgs false
set_option maxRecDepth 4000
theorem flat_set {α : Type} {n : Nat} {f : α → List Value} (hn : ∀ x, (f x).length = n) (l : List α) (k : Nat) (y : α) (h : k < l.length) (q : Nat) (v : Value) (hq : q < n) (he : (f l[k]).set q v = f y) : (l.flatMap f).set (k * n + q) v = (l.set k y).flatMap f := by
  have e1 : l = l.take k ++ l[k] :: l.drop (k + 1) := by rw [← drop_get h, List.take_append_drop]
  have e2 : l.set k y = l.take k ++ y :: l.drop (k + 1) := by rw [List.set_eq_take_append_cons_drop, if_pos h]
  rw [e2]
  conv => lhs; rw [e1]
  rw [List.flatMap_append, List.flatMap_append, List.flatMap_cons, List.flatMap_cons]
  have hl := flat_length hn (l.take k)
  rw [List.length_take, Nat.min_eq_left (Nat.le_of_lt h)] at hl
  rw [List.set_append_right _ _ (by omega), List.set_append_left _ _ (by rw [hn]; omega), show k * n + q - (List.flatMap f (List.take k l)).length = q from by omega, he]
theorem kn_at {S : Mem} {b o : Nat} {cs : List Value} (h : S.Knows ⟨b, o, none⟩ cs) (k : Nat) {v : Value} (hk : cs[k]? = some v) : S.Knows ⟨b, o + k, none⟩ [v] := fun w hv j u hj => by
  cases j with
  | zero =>
    simp only [List.getElem?_cons_zero, Option.some.injEq] at hj
    subst hj
    have := h w hv k v hk
    rw [addr_add] at this ⊢; exact this
  | succ j => simp at hj
theorem dev_ownE {S : Mem} {p : Nat} {d : D} {b c : Nat} {oW : Option (Nat × Nat)} (h : OkV S p d (some (b, c)) oW) : (devM S p d (some (b, c)) oW).own b = some ⟨extT, d.ext.flatMap extF, c * 2⟩ := by
  rw [devM_eq, ← devM_E h.apart]; exact Mem.own_set_same _ _ _
theorem dev_setE {S : Mem} {p : Nat} {d d' : D} {b c : Nat} {oW : Option (Nat × Nat)} (h : OkV S p d (some (b, c)) oW) (hw : d'.waits = d.waits) (hl : d'.ext.length = d.ext.length) (h1 : d'.size = d.size) (h2 : d'.fuse = d.fuse) (h3 : d'.down = d.down) : (devM S p d (some (b, c)) oW).set b ⟨extT, d'.ext.flatMap extF, c * 2⟩ = devM S p d' (some (b, c)) oW ∧ OkV S p d' (some (b, c)) oW := by
  have hf := h.fits
  have e : devB d (some (b, c)) oW = devB d' (some (b, c)) oW := by unfold devB; rw [hw, hl, h1, h2, h3]
  refine ⟨?_, okV_mk h.apart ⟨(fun x => by cases x), fun x => by rw [hw]; exact hf.w0 x, fun b c x => by rw [hl]; exact hf.e b c x, fun b c x => by rw [hw]; exact hf.w b c x⟩⟩
  rw [devM_eq, devM_eq, ← devM_E h.apart, ← devM_E h.apart, e]
  unfold baseE
  rw [hw]
  exact Mem.set_set _ _ _ _
end Go.Proofs.Ytkeiphkccnfhoaa
namespace Go.Proofs.Ytkeiphkccnfhoaa
open Go.RowKit
open Mv Disk
set_option linter.unusedVariables false
set_option linter.unusedSimpArgs false
set_option maxRecDepth 4000
theorem writeD_lens {d : D} (hR : Right d) (s : ByteArray) (i : Int) (data : ByteArray) : (writeD d s i data).1.ext.length ≤ 9223372036854775807 ∧ (writeD d s i data).1.waits.length ≤ 9223372036854775807 := by
  have h := right_lens hR
  have h2 := hR.wl
  have h3 := add_len d (s, i, data)
  unfold writeD fuseD
  repeat' split
  · exact h
  · exact h
  · exact h
  all_goals exact ⟨h.1, by simp only; omega⟩
end Go.Proofs.Ytkeiphkccnfhoaa
namespace Go.Proofs.Ytkeiphkccnfhoaa
open Go.RowKit
set_option linter.unusedVariables false
set_option linter.unusedSimpArgs false
namespace Disk
open Mv
/-- A sector is put into a text. -/
def putS (x : ByteArray) (w : Wr) : ByteArray := bs (x.data.toList.take (64 * w.2.1.toNat) ++ w.2.2.data.toList ++ x.data.toList.drop (64 * w.2.1.toNat + 64))
theorem putS_size {x : ByteArray} {w : Wr} (h1 : 64 * w.2.1.toNat + 64 ≤ x.size) (h2 : w.2.2.size = 64) : (putS x w).size = x.size := by
  unfold putS
  rw [size_bs]
  simp only [List.length_append, List.length_take, List.length_drop, size_data, h2]
  omega
def accW (kp : Nat → Bool) (x : Ext) (l : List Wr) : Nat → Option ByteArray
  | 0 => none
  | n + 1 => match l[n]? with
    | some w => if w.1 = x.1 ∧ kp n = true then some (putS ((accW kp x l n).getD x.2) w) else accW kp x l n
    | none => accW kp x l n
theorem accW_succ (kp : Nat → Bool) (x : Ext) (l : List Wr) (n : Nat) (h : n < l.length) : accW kp x l (n + 1) = if l[n].1 = x.1 ∧ kp n = true then some (putS ((accW kp x l n).getD x.2) l[n]) else accW kp x l n := by
  rw [accW, List.getElem?_eq_getElem h]
/-- All that waits for an extent fits. -/
def Fit (x : Ext) (l : List Wr) : Prop := ∀ w ∈ l, w.1 = x.1 → 0 ≤ w.2.1 ∧ 64 * w.2.1.toNat + 64 ≤ x.2.size ∧ w.2.2.size = 64
theorem acc_size {kp : Nat → Bool} {x : Ext} {l : List Wr} (hf : Fit x l) : ∀ n, n ≤ l.length → ((accW kp x l n).getD x.2).size = x.2.size
  | 0, _ => rfl
  | n + 1, h => by
    have ih := acc_size (kp := kp) hf n (by omega)
    rw [accW_succ kp x l n (by omega)]
    split
    · rename_i hc
      obtain ⟨_, h1, h2⟩ := hf _ (List.getElem_mem (by omega : n < l.length)) hc.1
      simp only [Option.getD_some]
      rw [putS_size (by rw [ih]; exact h1) h2]; exact ih
    · exact ih
def doneX (kp : Nat → Bool) (l : List Wr) (x : Ext) : Ext := (x.1, (accW kp x l l.length).getD x.2)
def settleD (d : D) (kp : Nat → Bool) : D := { d with ext := d.ext.map (doneX kp d.waits), waits := [] }
/-- The first i of them done. -/
def mixE (kp : Nat → Bool) (w : List Wr) (l : List Ext) (i : Nat) : List Ext := (l.take i).map (doneX kp w) ++ l.drop i
theorem mixE_len (kp : Nat → Bool) (w : List Wr) (l : List Ext) (i : Nat) : (mixE kp w l i).length = l.length := by unfold mixE; simp; omega
theorem mixE_zero (kp : Nat → Bool) (w : List Wr) (l : List Ext) : mixE kp w l 0 = l := by simp [mixE]
theorem mixE_all (kp : Nat → Bool) (w : List Wr) (l : List Ext) : mixE kp w l l.length = l.map (doneX kp w) := by simp [mixE]
theorem mixE_at (kp : Nat → Bool) (w : List Wr) (l : List Ext) (i : Nat) (h : i < l.length) : mixE kp w l i = (l.take i).map (doneX kp w) ++ l[i] :: l.drop (i + 1) := by unfold mixE; rw [List.drop_eq_getElem_cons h]
theorem mixE_get (kp : Nat → Bool) (w : List Wr) (l : List Ext) (i : Nat) (h : i < l.length) (h' : i < (mixE kp w l i).length) : (mixE kp w l i)[i] = l[i] := by
  simp only [mixE_at kp w l i h]
  rw [List.getElem_append_right (by simp; omega)]
  simp [Nat.min_eq_left (Nat.le_of_lt h)]
theorem mixE_succ (kp : Nat → Bool) (w : List Wr) (l : List Ext) (i : Nat) (h : i < l.length) : mixE kp w l (i + 1) = (mixE kp w l i).set i (doneX kp w l[i]) := by
  rw [mixE_at kp w l i h, List.set_append_right _ _ (by simp; omega)]
  unfold mixE
  rw [take_get h, List.map_append, List.append_assoc, List.length_map, List.length_take, Nat.min_eq_left (Nat.le_of_lt h), Nat.sub_self]
  rfl
theorem right_fit {d : D} (h : Right d) {x : Ext} (hx : x ∈ d.ext) : Fit x d.waits := fun w hw e => by
  obtain ⟨y, hy, e2, h0, h1, h2⟩ := h.wr w hw
  have : y = x := asc_inj h.ex.asc hy hx (e2.trans e)
  subst this
  have := (eok_sec (h.ex.ok y hy)).2
  exact ⟨h0, by omega, h2⟩
end Disk
end Go.Proofs.Ytkeiphkccnfhoaa
namespace Go.Proofs.Ytkeiphkccnfhoaa
open Go.RowKit
open Mv Disk
set_option linter.unusedVariables false
set_option linter.unusedSimpArgs false
set_option maxRecDepth 4000
section
variable {P : Program} {N : Nat} {ops : Array Oper} {E : Env} {S : Mem} {K : Env → Mem → Prop}
variable {ty : TypeId} {pos : String} {aft : Array Edge} {gd : Option (Nat × Bool)}
/-- copy of a text into bytes of one's own. -/
theorem Mv.ARun.copyStr {os : List Oper} {T T2 e : TypeId} {y : Nat} {z : List Value} {x1 x2 : Operand} {b o k c d : Nat} {r : Blk} {t : ByteArray} (hn : d < N) (hT : slT P T = some (e, 1, y, z))
    (hx : ev E x1 = some (.slice (some ⟨b, o, none⟩) k c)) (hb : S.own b = some r) (hy : ev E x2 = some (.string t)) (hle : t.size ≤ k) (ho : o + t.size ≤ r.cells.length)
    (h : ARun P N ops os K ((d, .int .i64 (t.size : Int)) :: E) (S.set b ⟨r.elem, spl r.cells o (cellsB t.data.toList), r.room⟩)) :
    ARun P N ops (⟨some d, .call ⟨.builtin .copy, #[x1, x2], #[T, T2]⟩, ty, pos, aft, none⟩ :: os) K E S := fun a w g hv => by
  rw [if_pos (by simp [Region.wanted])]
  obtain ⟨hu, i, v, e1, e2, e3, e4, e5⟩ := slT_spec hT
  have hex : (execOp a.eval ⟨some d, .call ⟨.builtin .copy, #[x1, x2], #[T, T2]⟩, ty, pos, aft, none⟩).run P w = ((Builtin.copy_ #[T, T2] ty #[.slice (some ⟨b, o, none⟩) k c, .string t]).run P w).andThen fun v w' => .ok (.value v) w' := by
    simp [execOp, resolve, invoke, builtin, g.ev hx, g.ev hy]
  unfold Oper.wp
  rw [hex]
  obtain ⟨cur, fz, k1, k2, k3, k4⟩ := hv.own b r hb
  have hcur : r.cells.length ≤ cur.size := by have := k2.length_le; simpa using this
  have hl : (cellsB t.data.toList).length = t.size := by rw [cellsB_length, size_data]
  obtain ⟨q1, q2⟩ := store_cells (P := P) hv hb (vs := cellsB t.data.toList) (o := o) (by omega) (.inl (by rw [hl]; exact ho)) (fun v hv => by
    obtain ⟨x, _, rfl⟩ := List.mem_map.1 hv
    rfl)
  have hr := run_copy_string (P := P) w T T2 ty e b o k c t hu (fun w => by simp [Go.sizeOf, typeInfo, e1, e3]) hle
    (fun j hj => by simp [World.cell?, k1]; omega) (fun j hj => by have := k4 (o + j) (.inl (by omega)); simpa [World.frozen?, k1] using this)
  rw [hr]
  exact ⟨_, _, h, g.put hn _, q2⟩
end
theorem spl_cells {l t : List UInt8} {k : Nat} (h : k + t.length ≤ l.length) : spl (cellsB l) k (cellsB t) = cellsB (l.take k ++ t ++ l.drop (k + t.length)) := by
  unfold spl cellsB
  simp only [List.map_append, List.map_take, List.map_drop, List.length_map]
theorem putS_cells {x : ByteArray} {w : Wr} (h : 64 * w.2.1.toNat + 64 ≤ x.size) (h2 : w.2.2.size = 64) : spl (cellsB x.data.toList) (0 + 64 * w.2.1.toNat * 1) (cellsB w.2.2.data.toList) = cellsB (putS x w).data.toList := by
  rw [show 0 + 64 * w.2.1.toNat * 1 = 64 * w.2.1.toNat from by omega, spl_cells (by rw [size_data, size_data, h2]; exact h), size_data, h2]
  unfold putS; rfl
end Go.Proofs.Ytkeiphkccnfhoaa
