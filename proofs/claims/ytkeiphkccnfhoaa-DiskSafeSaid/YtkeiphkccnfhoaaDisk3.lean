/-
  Disk: extents that are right, by the program.
-/
import Derived.Test.YtkeiphkccnfhoaaDisk2
import Derived.Test.YtkeiphkccnfhoaaDiskMath2
namespace Go.Proofs.Ytkeiphkccnfhoaa
open Go.RowKit
open Mv Disk
set_option linter.unusedVariables false
set_option linter.unusedSimpArgs false
set_option maxRecDepth 4000
theorem sl_str1 {S : Mem} {b : Nat} {e : TypeId} {s : ByteArray} (h : S.own b = some ⟨e, [.string s], 1⟩) : Sl 1 strs S (.slice (some ⟨b, 0, none⟩) 1 1) [s] :=
  Sl.own1 (g := fun s : ByteArray => .string s) h List.prefix_rfl rfl (by decide) (by decide)
theorem leq_no {a b : ByteArray} (h : lt a b = true) : (Op.bytesLess b.data.toList a.data.toList || decide (b = a)) = false := by
  rw [lt_def, lt_asymm h, decide_eq_false (Ne.symm (lt_ne h))]; rfl
theorem leq_yes {a b : ByteArray} (h : lt a b = false) : (Op.bytesLess b.data.toList a.data.toList || decide (b = a)) = true := by
  rw [lt_def]
  by_cases e : b = a
  · rw [decide_eq_true e, Bool.or_true]
  · rw [lt_tri (Ne.symm e) h]; rfl
theorem one_all {p : ByteArray → Prop} {s : ByteArray} : (∀ x ∈ [s], p x) ↔ p s := by simp
set_option maxHeartbeats 1000000 in
theorem disk_extents (v : Value) (l : List Ext) (size : Int) (S : Mem) (hl : Sl 2 extF S v l) (h0 : 0 ≤ size) (h1 : size ≤ 16384) (hz : ∀ x ∈ l, x.2.size ≤ 140737488351232) :
    ACall Try.prog 61 #[v, .int .i64 size] S fun r S' => (∃ t : Bool, r = .bool t ∧ (t = true ↔ ERight l size)) ∧ S' = S := by
  obtain ⟨a, cap, rfl, hl1, hl2, hl3⟩ := id hl
  refine ACall.enter (args := [.slice a l.length cap, .int .i64 size]) (rs := [.tmp 4]) 46 [(0, .slice a l.length cap), (1, .int .i64 size)] Try.func61 rfl rfl (Nat.le_of_ble_eq_true rfl) rfl ⟨rfl, rfl, trivial⟩ ?_
  refine AWP.seq ?_
  refine AWP.region ?_
  refine rC (Calm.assign rfl) ?_
  refine arun_nil ?_
  refine athen_n ?_
  refine AWP.seq ?_
  refine AWP.region ?_
  refine rC (Calm.assign rfl) ?_
  refine arun_nil ?_
  refine athen_n ?_
  refine AWP.seq ?_
  refine AWP.seq ?_
  refine AWP.region ?_
  refine rC (Calm.move rfl) ?_
  refine rC (Calm.lenSl Try.underlying22 rfl) ?_
  refine rC (Calm.move rfl) ?_
  refine arun_nil ?_
  refine athen_n ?_
  refine AWP.block ?_
  refine AWP.loop (X := Nat) (fun x => [(1, .int .i64 (size - used (l.take x))), (5, .string (lastN l x)), (8, .slice a l.length cap), (9, .int .i64 l.length), (10, .int .i64 x)]) (fun x => S) (fun x => x ≤ l.length ∧ Upto l size x) (fun x => l.length - x) (0) ⟨some_int (by simp [used]), rfl, rfl, rfl, rfl, trivial⟩ (Mem.Less.refl _) (⟨Nat.zero_le _, upto_zero l h0⟩) ?_
  rintro i ⟨hi, hup⟩
  (try dsimp only at *)
  refine AWP.seq ?_
  refine AWP.region ?_
  refine rC (Calm.bin rfl rfl b_lss) ?_
  refine arun_nil ?_
  refine athen_n ?_
  refine AWP.seq ?_
  refine AWP.condB rfl (fun hc => ?_) (fun hc => ?_)
  · have hc : i < l.length := by have := of_decide_eq_true hc; omega
    obtain ⟨b, off, rfl, hk⟩ := hl3.resolve_left (fun e => by subst e; simp at hc)
    have hki := hk i hc
    have hzi := hz _ (List.getElem_mem hc)
    have hus := hup.us
    have hra := fun h : ERight l size => right_at h hc
    have hut : used (l.take (i + 1)) = used (l.take i) + sec l[i] := by rw [take_get hc, used_append]; simp [used]
    have hln := lastN_succ hc
    have hsu := upto_succ hup hc
    generalize hx : l[i] = x at *
    unfold extF at hki
    have hsx : sec x ≤ 140737488351232 := by unfold sec; omega
    by_cases q1 : nm x.1
    · by_cases q2 : lt (lastN l i) x.1 = true
      · have q2' := leq_no q2
        by_cases q3 : x.2.size = 0
        · refine AWP.skip ?_
          refine athen_n ?_
          refine AWP.seq ?_
          refine AWP.block ?_
          refine AWP.seq ?_
          refine AWP.region ?_
          refine rC (Calm.indexS Try.underlying22 ty_size_54 rfl rfl (by omega) (by omega)) ?_
          refine rC (ldA_ (cs := [_, _]) ty_agg_54 ty_size_54 rfl) ?_
          refine ARun.alloc (lit_lt rfl) ty_zero_54 ?_
          intro b7 f7
          have g7 := f7
          repeat ((with_reducible replace g7 := fresh_set g7); obtain ⟨g7, _⟩ := g7)
          (try simp only [List.length_cons, List.length_nil, Nat.zero_add, Nat.reduceAdd])
          first | refine ARun.storeAll rfl rfl ty_size_54 own_ rfl rfl ?_ | refine ARun.store rfl rfl ty_size_54 own_ lens_ rfl ?_
          (try simp only [Mem.set_set, List.set_cons_zero, List.set_cons_succ, Nat.zero_add, Nat.reduceAdd])
          refine arun_nil ?_
          refine athen_n ?_
          refine AWP.sub [(1, _), (5, _), (8, _), (9, _), (10, _), (11, _), (7, _)] ⟨rfl, rfl, rfl, rfl, rfl, rfl, rfl, trivial⟩ ?_
          refine AWP.seq ?_
          refine AWP.seq ?_
          refine AWP.region ?_
          refine rC (Calm.fieldAddr ty_field_54_0 rfl) ?_
          refine rC (ld_ ty_plain_9 rfl) ?_
          refine ARun.build1s (lit_lt rfl) ty_sl_26 rfl rfl ?_
          intro b16 f16
          have g16 := f16
          repeat ((with_reducible replace g16 := fresh_set g16); obtain ⟨g16, _⟩ := g16)
          refine ARun.call (lit_lt rfl) go_83 rfl (disk_named _ [x.1] _ (sl_str1 own_)) ?_
          rintro _ S1 ⟨⟨t, rfl, ht⟩, h1⟩
          rw [h1]; clear h1 S1
          obtain rfl : t = true := ht.2 (one_all.2 q1)
          refine rC (Calm.un rfl (una_not _)) ?_
          refine rC (Calm.move rfl) ?_
          first | refine rS 19 ?_ | refine rU 19 ?_ | refine rG 19 (Calm.fieldAddr ty_field_54_0 rfl) ?_
          first | refine rS 19 ?_ | refine rU 19 ?_ | refine rG 19 (ld_ ty_plain_9 rfl) ?_
          first | refine rS 19 ?_ | refine rU 19 ?_ | refine rG 19 (Calm.move rfl) ?_
          first | refine rS 19 ?_ | refine rU 19 ?_ | refine rG 19 (Calm.bin rfl rfl (bin_bool (bin_str_leq _ _) q2')) ?_
          refine rC ((by first | exact Calm.pickT rfl rfl | exact Calm.pickF rfl rfl)) ?_
          refine rC (Calm.move rfl) ?_
          first | refine rS 25 ?_ | refine rU 25 ?_ | refine rG 25 (Calm.fieldAddr ty_field_54_1 rfl) ?_
          first | refine rS 25 ?_ | refine rU 25 ?_ | refine rG 25 (ld_ ty_plain_9 rfl) ?_
          first | refine rS 25 ?_ | refine rU 25 ?_ | refine rG 25 (Calm.bin rfl rfl (bin_bool (bin_str_eql _ _) (decide_eq_true ((size0 _).2 q3)))) ?_
          refine rC ((by first | exact Calm.pickT rfl rfl | exact Calm.pickF rfl rfl)) ?_
          refine rC (Calm.move rfl) ?_
          first | refine rS 30 ?_ | refine rU 30 ?_ | refine rG 30 (Calm.fieldAddr ty_field_54_1 rfl) ?_
          first | refine rS 30 ?_ | refine rU 30 ?_ | refine rG 30 (ld_ ty_plain_9 rfl) ?_
          first | refine rS 30 ?_ | refine rU 30 ?_ | refine rG 30 (Calm.lenStr (strT_spec ty_str_9) rfl) ?_
          first | refine rS 30 ?_ | refine rU 30 ?_ | refine rG 30 (Calm.bin rfl rfl b_rem) ?_
          first | refine rS 30 ?_ | refine rU 30 ?_ | refine rG 30 (Calm.bin rfl rfl b_neq) ?_
          refine rC ((by first | exact Calm.pickT rfl rfl | exact Calm.pickF rfl rfl)) ?_
          refine arun_nil ?_
          refine athen_n ?_
          refine AWP.sub [(1, _), (5, _), (8, _), (9, _), (10, _), (11, _), (7, _), (36, _)] ⟨rfl, rfl, rfl, rfl, rfl, rfl, rfl, rfl, trivial⟩ ?_
          refine AWP.condT rfl (by first | rfl | (simp; done) | (simp; omega)) ?_
          refine AWP.seq ?_
          refine AWP.region ?_
          refine rC (Calm.assign rfl) ?_
          refine arun_nil ?_
          refine athen_n ?_
          refine AWP.ret ?_
          refine athen_ret ?_
          refine ain_ret ?_
          refine athen_ret ?_
          refine athen_ret ?_
          refine ain_ret ?_
          refine athen_ret ?_
          refine ⟨_, S, ⟨_, _, rfl, rfl, rfl⟩, less_, ?_⟩
          exact ⟨⟨false, rfl, by simp; exact fun h => (hra h).1.2.1 q3⟩, rfl⟩
        · by_cases q4 : x.2.size % 64 = 0
          · refine AWP.skip ?_
            refine athen_n ?_
            refine AWP.seq ?_
            refine AWP.block ?_
            refine AWP.seq ?_
            refine AWP.region ?_
            refine rC (Calm.indexS Try.underlying22 ty_size_54 rfl rfl (by omega) (by omega)) ?_
            refine rC (ldA_ (cs := [_, _]) ty_agg_54 ty_size_54 rfl) ?_
            refine ARun.alloc (lit_lt rfl) ty_zero_54 ?_
            intro b7 f7
            have g7 := f7
            repeat ((with_reducible replace g7 := fresh_set g7); obtain ⟨g7, _⟩ := g7)
            (try simp only [List.length_cons, List.length_nil, Nat.zero_add, Nat.reduceAdd])
            first | refine ARun.storeAll rfl rfl ty_size_54 own_ rfl rfl ?_ | refine ARun.store rfl rfl ty_size_54 own_ lens_ rfl ?_
            (try simp only [Mem.set_set, List.set_cons_zero, List.set_cons_succ, Nat.zero_add, Nat.reduceAdd])
            refine arun_nil ?_
            refine athen_n ?_
            refine AWP.sub [(1, _), (5, _), (8, _), (9, _), (10, _), (11, _), (7, _)] ⟨rfl, rfl, rfl, rfl, rfl, rfl, rfl, trivial⟩ ?_
            refine AWP.seq ?_
            refine AWP.seq ?_
            refine AWP.region ?_
            refine rC (Calm.fieldAddr ty_field_54_0 rfl) ?_
            refine rC (ld_ ty_plain_9 rfl) ?_
            refine ARun.build1s (lit_lt rfl) ty_sl_26 rfl rfl ?_
            intro b16 f16
            have g16 := f16
            repeat ((with_reducible replace g16 := fresh_set g16); obtain ⟨g16, _⟩ := g16)
            refine ARun.call (lit_lt rfl) go_83 rfl (disk_named _ [x.1] _ (sl_str1 own_)) ?_
            rintro _ S1 ⟨⟨t, rfl, ht⟩, h1⟩
            rw [h1]; clear h1 S1
            obtain rfl : t = true := ht.2 (one_all.2 q1)
            refine rC (Calm.un rfl (una_not _)) ?_
            refine rC (Calm.move rfl) ?_
            first | refine rS 19 ?_ | refine rU 19 ?_ | refine rG 19 (Calm.fieldAddr ty_field_54_0 rfl) ?_
            first | refine rS 19 ?_ | refine rU 19 ?_ | refine rG 19 (ld_ ty_plain_9 rfl) ?_
            first | refine rS 19 ?_ | refine rU 19 ?_ | refine rG 19 (Calm.move rfl) ?_
            first | refine rS 19 ?_ | refine rU 19 ?_ | refine rG 19 (Calm.bin rfl rfl (bin_bool (bin_str_leq _ _) q2')) ?_
            refine rC ((by first | exact Calm.pickT rfl rfl | exact Calm.pickF rfl rfl)) ?_
            refine rC (Calm.move rfl) ?_
            first | refine rS 25 ?_ | refine rU 25 ?_ | refine rG 25 (Calm.fieldAddr ty_field_54_1 rfl) ?_
            first | refine rS 25 ?_ | refine rU 25 ?_ | refine rG 25 (ld_ ty_plain_9 rfl) ?_
            first | refine rS 25 ?_ | refine rU 25 ?_ | refine rG 25 (Calm.bin rfl rfl (bin_bool (bin_str_eql _ _) (decide_eq_false (fun e => q3 ((size0 _).1 e))))) ?_
            refine rC ((by first | exact Calm.pickT rfl rfl | exact Calm.pickF rfl rfl)) ?_
            refine rC (Calm.move rfl) ?_
            first | refine rS 30 ?_ | refine rU 30 ?_ | refine rG 30 (Calm.fieldAddr ty_field_54_1 rfl) ?_
            first | refine rS 30 ?_ | refine rU 30 ?_ | refine rG 30 (ld_ ty_plain_9 rfl) ?_
            first | refine rS 30 ?_ | refine rU 30 ?_ | refine rG 30 (Calm.lenStr (strT_spec ty_str_9) rfl) ?_
            first | refine rS 30 ?_ | refine rU 30 ?_ | refine rG 30 (Calm.bin rfl rfl b_rem) ?_
            first | refine rS 30 ?_ | refine rU 30 ?_ | refine rG 30 (Calm.bin rfl rfl b_neq) ?_
            refine rC ((by first | exact Calm.pickT rfl rfl | exact Calm.pickF rfl rfl)) ?_
            refine arun_nil ?_
            refine athen_n ?_
            refine AWP.sub [(1, _), (5, _), (8, _), (9, _), (10, _), (11, _), (7, _), (36, _)] ⟨rfl, rfl, rfl, rfl, rfl, rfl, rfl, rfl, trivial⟩ ?_
            refine AWP.condF rfl (by first | rfl | (simp; done) | (simp; omega)) ?_
            refine AWP.skip ?_
            refine athen_n ?_
            refine AWP.seq ?_
            refine AWP.seq ?_
            refine AWP.region ?_
            refine rC (Calm.move rfl) ?_
            refine rC (ldA_ (cs := [_, _]) ty_agg_54 ty_size_54 rfl) ?_
            refine ARun.call (lit_lt rfl) go_60 rfl (disk_sectors x _ (by omega)) ?_
            rintro _ S1 ⟨rfl, h1⟩
            rw [h1]; clear h1 S1
            refine rC (Calm.bin rfl rfl b_sub_i64) ?_
            refine rC (Calm.assign rfl) ?_
            refine arun_nil ?_
            refine athen_n ?_
            refine AWP.sub [(1, _), (5, _), (8, _), (9, _), (10, _), (11, _), (7, _), (36, _)] ⟨rfl, rfl, rfl, rfl, rfl, rfl, rfl, rfl, trivial⟩ ?_
            refine AWP.seq ?_
            refine AWP.region ?_
            refine rC (Calm.move rfl) ?_
            refine rC (Calm.bin rfl rfl b_lss) ?_
            refine arun_nil ?_
            refine athen_n ?_
            refine AWP.sub [(1, _), (5, _), (8, _), (9, _), (10, _), (11, _), (7, _), (36, _), (42, _)] ⟨rfl, rfl, rfl, rfl, rfl, rfl, rfl, rfl, rfl, trivial⟩ ?_
            refine AWP.condB rfl (fun q5 => ?_) (fun q5 => ?_)
            · refine AWP.seq ?_
              refine AWP.region ?_
              refine rC (Calm.assign rfl) ?_
              refine arun_nil ?_
              refine athen_n ?_
              refine AWP.ret ?_
              refine athen_ret ?_
              refine ain_ret ?_
              refine athen_ret ?_
              refine athen_ret ?_
              refine ain_ret ?_
              refine athen_ret ?_
              refine ⟨_, S, ⟨_, _, rfl, rfl, rfl⟩, less_, ?_⟩
              exact ⟨⟨false, rfl, by simp; exact fun h => absurd (hra h).2.2 (by have := of_decide_eq_true q5; omega)⟩, rfl⟩
            · have q5 := of_decide_eq_false q5
              refine AWP.skip ?_
              refine athen_n ?_
              refine AWP.region ?_
              refine rC (Calm.fieldAddr ty_field_54_0 rfl) ?_
              refine rC (ld_ ty_plain_9 rfl) ?_
              refine rC (Calm.assign rfl) ?_
              refine arun_nil ?_
              refine ain_n ?_
              refine athen_n ?_
              refine AWP.sub [(1, _), (5, _), (8, _), (9, _), (10, _), (11, _), (7, _), (36, _), (42, _)] ⟨rfl, rfl, rfl, rfl, rfl, rfl, rfl, rfl, rfl, trivial⟩ ?_
              refine AWP.region ?_
              refine rC (Calm.bin rfl rfl b_add_i64) ?_
              refine rC (Calm.move rfl) ?_
              refine arun_nil ?_
              refine athen_n ?_
              refine ⟨i + 1, ?_, ?_, ?_, ?_⟩
              all_goals (try dsimp only)
              · exact ⟨some_int (by rw [hut]; omega), some_str hln.symm, rfl, rfl, rfl, trivial⟩
              · exact less_
              · exact ⟨hc, hsu ⟨q1, q3, q4⟩ q2 (by omega)⟩
              · omega
          · refine AWP.skip ?_
            refine athen_n ?_
            refine AWP.seq ?_
            refine AWP.block ?_
            refine AWP.seq ?_
            refine AWP.region ?_
            refine rC (Calm.indexS Try.underlying22 ty_size_54 rfl rfl (by omega) (by omega)) ?_
            refine rC (ldA_ (cs := [_, _]) ty_agg_54 ty_size_54 rfl) ?_
            refine ARun.alloc (lit_lt rfl) ty_zero_54 ?_
            intro b7 f7
            have g7 := f7
            repeat ((with_reducible replace g7 := fresh_set g7); obtain ⟨g7, _⟩ := g7)
            (try simp only [List.length_cons, List.length_nil, Nat.zero_add, Nat.reduceAdd])
            first | refine ARun.storeAll rfl rfl ty_size_54 own_ rfl rfl ?_ | refine ARun.store rfl rfl ty_size_54 own_ lens_ rfl ?_
            (try simp only [Mem.set_set, List.set_cons_zero, List.set_cons_succ, Nat.zero_add, Nat.reduceAdd])
            refine arun_nil ?_
            refine athen_n ?_
            refine AWP.sub [(1, _), (5, _), (8, _), (9, _), (10, _), (11, _), (7, _)] ⟨rfl, rfl, rfl, rfl, rfl, rfl, rfl, trivial⟩ ?_
            refine AWP.seq ?_
            refine AWP.seq ?_
            refine AWP.region ?_
            refine rC (Calm.fieldAddr ty_field_54_0 rfl) ?_
            refine rC (ld_ ty_plain_9 rfl) ?_
            refine ARun.build1s (lit_lt rfl) ty_sl_26 rfl rfl ?_
            intro b16 f16
            have g16 := f16
            repeat ((with_reducible replace g16 := fresh_set g16); obtain ⟨g16, _⟩ := g16)
            refine ARun.call (lit_lt rfl) go_83 rfl (disk_named _ [x.1] _ (sl_str1 own_)) ?_
            rintro _ S1 ⟨⟨t, rfl, ht⟩, h1⟩
            rw [h1]; clear h1 S1
            obtain rfl : t = true := ht.2 (one_all.2 q1)
            refine rC (Calm.un rfl (una_not _)) ?_
            refine rC (Calm.move rfl) ?_
            first | refine rS 19 ?_ | refine rU 19 ?_ | refine rG 19 (Calm.fieldAddr ty_field_54_0 rfl) ?_
            first | refine rS 19 ?_ | refine rU 19 ?_ | refine rG 19 (ld_ ty_plain_9 rfl) ?_
            first | refine rS 19 ?_ | refine rU 19 ?_ | refine rG 19 (Calm.move rfl) ?_
            first | refine rS 19 ?_ | refine rU 19 ?_ | refine rG 19 (Calm.bin rfl rfl (bin_bool (bin_str_leq _ _) q2')) ?_
            refine rC ((by first | exact Calm.pickT rfl rfl | exact Calm.pickF rfl rfl)) ?_
            refine rC (Calm.move rfl) ?_
            first | refine rS 25 ?_ | refine rU 25 ?_ | refine rG 25 (Calm.fieldAddr ty_field_54_1 rfl) ?_
            first | refine rS 25 ?_ | refine rU 25 ?_ | refine rG 25 (ld_ ty_plain_9 rfl) ?_
            first | refine rS 25 ?_ | refine rU 25 ?_ | refine rG 25 (Calm.bin rfl rfl (bin_bool (bin_str_eql _ _) (decide_eq_false (fun e => q3 ((size0 _).1 e))))) ?_
            refine rC ((by first | exact Calm.pickT rfl rfl | exact Calm.pickF rfl rfl)) ?_
            refine rC (Calm.move rfl) ?_
            first | refine rS 30 ?_ | refine rU 30 ?_ | refine rG 30 (Calm.fieldAddr ty_field_54_1 rfl) ?_
            first | refine rS 30 ?_ | refine rU 30 ?_ | refine rG 30 (ld_ ty_plain_9 rfl) ?_
            first | refine rS 30 ?_ | refine rU 30 ?_ | refine rG 30 (Calm.lenStr (strT_spec ty_str_9) rfl) ?_
            first | refine rS 30 ?_ | refine rU 30 ?_ | refine rG 30 (Calm.bin rfl rfl b_rem) ?_
            first | refine rS 30 ?_ | refine rU 30 ?_ | refine rG 30 (Calm.bin rfl rfl b_neq) ?_
            refine rC ((by first | exact Calm.pickT rfl rfl | exact Calm.pickF rfl rfl)) ?_
            refine arun_nil ?_
            refine athen_n ?_
            refine AWP.sub [(1, _), (5, _), (8, _), (9, _), (10, _), (11, _), (7, _), (36, _)] ⟨rfl, rfl, rfl, rfl, rfl, rfl, rfl, rfl, trivial⟩ ?_
            refine AWP.condT rfl (by first | rfl | (simp; done) | (simp; omega)) ?_
            refine AWP.seq ?_
            refine AWP.region ?_
            refine rC (Calm.assign rfl) ?_
            refine arun_nil ?_
            refine athen_n ?_
            refine AWP.ret ?_
            refine athen_ret ?_
            refine ain_ret ?_
            refine athen_ret ?_
            refine athen_ret ?_
            refine ain_ret ?_
            refine athen_ret ?_
            refine ⟨_, S, ⟨_, _, rfl, rfl, rfl⟩, less_, ?_⟩
            exact ⟨⟨false, rfl, by simp; exact fun h => q4 (hra h).1.2.2⟩, rfl⟩
      · have q2' := leq_yes (Bool.eq_false_iff.2 q2)
        refine AWP.skip ?_
        refine athen_n ?_
        refine AWP.seq ?_
        refine AWP.block ?_
        refine AWP.seq ?_
        refine AWP.region ?_
        refine rC (Calm.indexS Try.underlying22 ty_size_54 rfl rfl (by omega) (by omega)) ?_
        refine rC (ldA_ (cs := [_, _]) ty_agg_54 ty_size_54 rfl) ?_
        refine ARun.alloc (lit_lt rfl) ty_zero_54 ?_
        intro b7 f7
        have g7 := f7
        repeat ((with_reducible replace g7 := fresh_set g7); obtain ⟨g7, _⟩ := g7)
        (try simp only [List.length_cons, List.length_nil, Nat.zero_add, Nat.reduceAdd])
        first | refine ARun.storeAll rfl rfl ty_size_54 own_ rfl rfl ?_ | refine ARun.store rfl rfl ty_size_54 own_ lens_ rfl ?_
        (try simp only [Mem.set_set, List.set_cons_zero, List.set_cons_succ, Nat.zero_add, Nat.reduceAdd])
        refine arun_nil ?_
        refine athen_n ?_
        refine AWP.sub [(1, _), (5, _), (8, _), (9, _), (10, _), (11, _), (7, _)] ⟨rfl, rfl, rfl, rfl, rfl, rfl, rfl, trivial⟩ ?_
        refine AWP.seq ?_
        refine AWP.seq ?_
        refine AWP.region ?_
        refine rC (Calm.fieldAddr ty_field_54_0 rfl) ?_
        refine rC (ld_ ty_plain_9 rfl) ?_
        refine ARun.build1s (lit_lt rfl) ty_sl_26 rfl rfl ?_
        intro b16 f16
        have g16 := f16
        repeat ((with_reducible replace g16 := fresh_set g16); obtain ⟨g16, _⟩ := g16)
        refine ARun.call (lit_lt rfl) go_83 rfl (disk_named _ [x.1] _ (sl_str1 own_)) ?_
        rintro _ S1 ⟨⟨t, rfl, ht⟩, h1⟩
        rw [h1]; clear h1 S1
        obtain rfl : t = true := ht.2 (one_all.2 q1)
        refine rC (Calm.un rfl (una_not _)) ?_
        refine rC (Calm.move rfl) ?_
        first | refine rS 19 ?_ | refine rU 19 ?_ | refine rG 19 (Calm.fieldAddr ty_field_54_0 rfl) ?_
        first | refine rS 19 ?_ | refine rU 19 ?_ | refine rG 19 (ld_ ty_plain_9 rfl) ?_
        first | refine rS 19 ?_ | refine rU 19 ?_ | refine rG 19 (Calm.move rfl) ?_
        first | refine rS 19 ?_ | refine rU 19 ?_ | refine rG 19 (Calm.bin rfl rfl (bin_bool (bin_str_leq _ _) q2')) ?_
        refine rC ((by first | exact Calm.pickT rfl rfl | exact Calm.pickF rfl rfl)) ?_
        refine rC (Calm.move rfl) ?_
        first | refine rS 25 ?_ | refine rU 25 ?_ | refine rG 25 (Calm.fieldAddr ty_field_54_1 rfl) ?_
        first | refine rS 25 ?_ | refine rU 25 ?_ | refine rG 25 (ld_ ty_plain_9 rfl) ?_
        first | refine rS 25 ?_ | refine rU 25 ?_ | refine rG 25 (Calm.bin rfl rfl (bin_str_eql _ _)) ?_
        refine rC ((by first | exact Calm.pickT rfl rfl | exact Calm.pickF rfl rfl)) ?_
        refine rC (Calm.move rfl) ?_
        first | refine rS 30 ?_ | refine rU 30 ?_ | refine rG 30 (Calm.fieldAddr ty_field_54_1 rfl) ?_
        first | refine rS 30 ?_ | refine rU 30 ?_ | refine rG 30 (ld_ ty_plain_9 rfl) ?_
        first | refine rS 30 ?_ | refine rU 30 ?_ | refine rG 30 (Calm.lenStr (strT_spec ty_str_9) rfl) ?_
        first | refine rS 30 ?_ | refine rU 30 ?_ | refine rG 30 (Calm.bin rfl rfl b_rem) ?_
        first | refine rS 30 ?_ | refine rU 30 ?_ | refine rG 30 (Calm.bin rfl rfl b_neq) ?_
        refine rC ((by first | exact Calm.pickT rfl rfl | exact Calm.pickF rfl rfl)) ?_
        refine arun_nil ?_
        refine athen_n ?_
        refine AWP.sub [(1, _), (5, _), (8, _), (9, _), (10, _), (11, _), (7, _), (36, _)] ⟨rfl, rfl, rfl, rfl, rfl, rfl, rfl, rfl, trivial⟩ ?_
        refine AWP.condT rfl (by first | rfl | (simp; done) | (simp; omega)) ?_
        refine AWP.seq ?_
        refine AWP.region ?_
        refine rC (Calm.assign rfl) ?_
        refine arun_nil ?_
        refine athen_n ?_
        refine AWP.ret ?_
        refine athen_ret ?_
        refine ain_ret ?_
        refine athen_ret ?_
        refine athen_ret ?_
        refine ain_ret ?_
        refine athen_ret ?_
        refine ⟨_, S, ⟨_, _, rfl, rfl, rfl⟩, less_, ?_⟩
        exact ⟨⟨false, rfl, by simp; exact fun h => q2 (hra h).2.1⟩, rfl⟩
    · refine AWP.skip ?_
      refine athen_n ?_
      refine AWP.seq ?_
      refine AWP.block ?_
      refine AWP.seq ?_
      refine AWP.region ?_
      refine rC (Calm.indexS Try.underlying22 ty_size_54 rfl rfl (by omega) (by omega)) ?_
      refine rC (ldA_ (cs := [_, _]) ty_agg_54 ty_size_54 rfl) ?_
      refine ARun.alloc (lit_lt rfl) ty_zero_54 ?_
      intro b7 f7
      have g7 := f7
      repeat ((with_reducible replace g7 := fresh_set g7); obtain ⟨g7, _⟩ := g7)
      (try simp only [List.length_cons, List.length_nil, Nat.zero_add, Nat.reduceAdd])
      first | refine ARun.storeAll rfl rfl ty_size_54 own_ rfl rfl ?_ | refine ARun.store rfl rfl ty_size_54 own_ lens_ rfl ?_
      (try simp only [Mem.set_set, List.set_cons_zero, List.set_cons_succ, Nat.zero_add, Nat.reduceAdd])
      refine arun_nil ?_
      refine athen_n ?_
      refine AWP.sub [(1, _), (5, _), (8, _), (9, _), (10, _), (11, _), (7, _)] ⟨rfl, rfl, rfl, rfl, rfl, rfl, rfl, trivial⟩ ?_
      refine AWP.seq ?_
      refine AWP.seq ?_
      refine AWP.region ?_
      refine rC (Calm.fieldAddr ty_field_54_0 rfl) ?_
      refine rC (ld_ ty_plain_9 rfl) ?_
      refine ARun.build1s (lit_lt rfl) ty_sl_26 rfl rfl ?_
      intro b16 f16
      have g16 := f16
      repeat ((with_reducible replace g16 := fresh_set g16); obtain ⟨g16, _⟩ := g16)
      refine ARun.call (lit_lt rfl) go_83 rfl (disk_named _ [x.1] _ (sl_str1 own_)) ?_
      rintro _ S1 ⟨⟨t, rfl, ht⟩, h1⟩
      rw [h1]; clear h1 S1
      obtain rfl : t = false := Bool.eq_false_iff.2 (fun e => q1 (one_all.1 (ht.1 e)))
      refine rC (Calm.un rfl (una_not _)) ?_
      refine rC (Calm.move rfl) ?_
      first | refine rS 19 ?_ | refine rU 19 ?_ | refine rG 19 (Calm.fieldAddr ty_field_54_0 rfl) ?_
      first | refine rS 19 ?_ | refine rU 19 ?_ | refine rG 19 (ld_ ty_plain_9 rfl) ?_
      first | refine rS 19 ?_ | refine rU 19 ?_ | refine rG 19 (Calm.move rfl) ?_
      first | refine rS 19 ?_ | refine rU 19 ?_ | refine rG 19 (Calm.bin rfl rfl (bin_str_leq _ _)) ?_
      refine rC ((by first | exact Calm.pickT rfl rfl | exact Calm.pickF rfl rfl)) ?_
      refine rC (Calm.move rfl) ?_
      first | refine rS 25 ?_ | refine rU 25 ?_ | refine rG 25 (Calm.fieldAddr ty_field_54_1 rfl) ?_
      first | refine rS 25 ?_ | refine rU 25 ?_ | refine rG 25 (ld_ ty_plain_9 rfl) ?_
      first | refine rS 25 ?_ | refine rU 25 ?_ | refine rG 25 (Calm.bin rfl rfl (bin_str_eql _ _)) ?_
      refine rC ((by first | exact Calm.pickT rfl rfl | exact Calm.pickF rfl rfl)) ?_
      refine rC (Calm.move rfl) ?_
      first | refine rS 30 ?_ | refine rU 30 ?_ | refine rG 30 (Calm.fieldAddr ty_field_54_1 rfl) ?_
      first | refine rS 30 ?_ | refine rU 30 ?_ | refine rG 30 (ld_ ty_plain_9 rfl) ?_
      first | refine rS 30 ?_ | refine rU 30 ?_ | refine rG 30 (Calm.lenStr (strT_spec ty_str_9) rfl) ?_
      first | refine rS 30 ?_ | refine rU 30 ?_ | refine rG 30 (Calm.bin rfl rfl b_rem) ?_
      first | refine rS 30 ?_ | refine rU 30 ?_ | refine rG 30 (Calm.bin rfl rfl b_neq) ?_
      refine rC ((by first | exact Calm.pickT rfl rfl | exact Calm.pickF rfl rfl)) ?_
      refine arun_nil ?_
      refine athen_n ?_
      refine AWP.sub [(1, _), (5, _), (8, _), (9, _), (10, _), (11, _), (7, _), (36, _)] ⟨rfl, rfl, rfl, rfl, rfl, rfl, rfl, rfl, trivial⟩ ?_
      refine AWP.condT rfl (by first | rfl | (simp; done) | (simp; omega)) ?_
      refine AWP.seq ?_
      refine AWP.region ?_
      refine rC (Calm.assign rfl) ?_
      refine arun_nil ?_
      refine athen_n ?_
      refine AWP.ret ?_
      refine athen_ret ?_
      refine ain_ret ?_
      refine athen_ret ?_
      refine athen_ret ?_
      refine ain_ret ?_
      refine athen_ret ?_
      refine ⟨_, S, ⟨_, _, rfl, rfl, rfl⟩, less_, ?_⟩
      exact ⟨⟨false, rfl, by simp; exact fun h => q1 (hra h).1.1⟩, rfl⟩
  · have hc : i = l.length := by have := of_decide_eq_false hc; omega
    subst hc
    refine AWP.exit ?_
    refine athen_exit ?_
    refine athen_exit ?_
    refine ain_same ?_
    refine athen_n ?_
    refine AWP.seq ?_
    refine AWP.region ?_
    refine rC (Calm.assign rfl) ?_
    refine arun_nil ?_
    refine athen_n ?_
    refine AWP.ret ?_
    refine ⟨_, S, ⟨_, _, rfl, rfl, rfl⟩, less_, ?_⟩
    exact ⟨⟨true, rfl, by simp; exact upto_all hup⟩, rfl⟩
end Go.Proofs.Ytkeiphkccnfhoaa
