/-
  Disk, the document's side: two that are one are told so.
-/
import Derived.Test.YtkeiphkccnfhoaaDR13
namespace Go.Proofs.Ytkeiphkccnfhoaa
open Go.RowKit
open Mv Disk
set_option linter.unusedVariables false
set_option linter.unusedSimpArgs false
set_option maxRecDepth 20000
theorem neq_ext (a b : ByteArray) (w : World) : (binOp .neq 54 (.agg #[.string a, .string b]) (.agg #[.string a, .string b])).run Try.prog w = .ok (.bool false) w := by
  go_simp
theorem neq_wr (a : ByteArray) (n : Int) (b : ByteArray) (w : World) : (binOp .neq 51 (.agg #[.string a, .int .i64 n, .string b]) (.agg #[.string a, .int .i64 n, .string b])).run Try.prog w = .ok (.bool false) w := by
  go_simp
theorem bin_neq_ext {x y : Operand} (a b : ByteArray) : Bin Try.prog .neq 54 x y (.agg #[.string a, .string b]) (.agg #[.string a, .string b]) (.bool false) := fun w => by
  rw [Sem.run_bind, run_eqGuard_agg w .neq 54 x y _ _ (by kernel_rfl)]
  exact neq_ext a b w
theorem bin_neq_wr {x y : Operand} (a : ByteArray) (n : Int) (b : ByteArray) : Bin Try.prog .neq 51 x y (.agg #[.string a, .int .i64 n, .string b]) (.agg #[.string a, .int .i64 n, .string b]) (.bool false) := fun w => by
  rw [Sem.run_bind, run_eqGuard_agg w .neq 51 x y _ _ (by kernel_rfl)]
  exact neq_wr a n b w
set_option maxHeartbeats 2000000 in
theorem rd_Same (v v' : Value) (d : D) (S : Mem) (hd : DkR S v d) (hd' : DkR S v' d) :
    ACall Try.prog 24 #[v, v'] S fun r S' => r = .bool true ∧ S' = S := by
  obtain ⟨pe, ce, pw, cw, rfl, hE, hW⟩ := hd
  obtain ⟨pe', ce', pw', cw', rfl, hE', hW'⟩ := hd'
  obtain ⟨_, _, ee1, ee2, ee3, hE3⟩ := id hE
  obtain ⟨_, _, ew1, ew2, ew3, hW3⟩ := id hW
  cases ee1; cases ew1
  obtain ⟨_, _, ee1, _, _, hE3'⟩ := id hE'
  obtain ⟨_, _, ew1, _, _, hW3'⟩ := id hW'
  cases ee1; cases ew1
  refine ACall.enter (args := [.agg #[.int .i64 d.size, .slice pe d.ext.length ce, .slice pw d.waits.length cw, .int .i64 d.fuse, .bool d.down], .agg #[.int .i64 d.size, .slice pe' d.ext.length ce', .slice pw' d.waits.length cw', .int .i64 d.fuse, .bool d.down]]) (rs := [.tmp 4]) 80 [(0, .agg #[.int .i64 d.size, .slice pe d.ext.length ce, .slice pw d.waits.length cw, .int .i64 d.fuse, .bool d.down]), (1, .agg #[.int .i64 d.size, .slice pe' d.ext.length ce', .slice pw' d.waits.length cw', .int .i64 d.fuse, .bool d.down])] Try.func24 rfl rfl (Nat.le_of_ble_eq_true rfl) rfl ⟨rfl, rfl, trivial⟩ ?_
  refine AWP.seq ?_
  refine AWP.region ?_
  refine ARun.boxA (cs := [_, _, _, _, _]) (lit_lt rfl) rfl ?_
  intro b2 f2
  have g2 := f2
  repeat ((with_reducible replace g2 := fresh_set g2); obtain ⟨g2, _⟩ := g2)
  (try simp only [List.length_cons, List.length_nil, Nat.zero_add, Nat.reduceAdd])
  refine ARun.boxA (cs := [_, _, _, _, _]) (lit_lt rfl) rfl ?_
  intro b3 f3
  have g3 := f3
  repeat ((with_reducible replace g3 := fresh_set g3); obtain ⟨g3, _⟩ := g3)
  (try simp only [List.length_cons, List.length_nil, Nat.zero_add, Nat.reduceAdd])
  refine rC (Calm.assign rfl) ?_
  refine arun_nil ?_
  refine athen_n ?_
  refine named2 (S := S) (b := b2) (b' := b3) f2.1 f3.1 ?_
  intro T3 hT3 kb2 kb3
  refine AWP.seq ?_
  refine AWP.seq ?_
  refine AWP.region ?_
  refine rC (Calm.fieldAddr ty_field_25_0 rfl) ?_
  refine rC (ld_ ty_plain_3 rfl) ?_
  refine rC (Calm.fieldAddr ty_field_25_0 rfl) ?_
  refine rC (ld_ ty_plain_3 rfl) ?_
  refine rC (Calm.bin rfl rfl (bin_bool (bin_neq _ _) (bnot_dec_false rfl))) ?_
  refine rC (Calm.move rfl) ?_
  first | refine rS 12 ?_ | refine rU 12 ?_ | refine rG 12 (Calm.fieldAddr ty_field_25_3 rfl) ?_
  first | refine rS 12 ?_ | refine rU 12 ?_ | refine rG 12 (ld_ ty_plain_3 rfl) ?_
  first | refine rS 12 ?_ | refine rU 12 ?_ | refine rG 12 (Calm.fieldAddr ty_field_25_3 rfl) ?_
  first | refine rS 12 ?_ | refine rU 12 ?_ | refine rG 12 (ld_ ty_plain_3 rfl) ?_
  first | refine rS 12 ?_ | refine rU 12 ?_ | refine rG 12 (Calm.bin rfl rfl (bin_bool (bin_neq _ _) (bnot_dec_false rfl))) ?_
  refine rC ((by first | exact Calm.pickT rfl rfl | exact Calm.pickF rfl rfl)) ?_
  refine rC (Calm.move rfl) ?_
  first | refine rS 19 ?_ | refine rU 19 ?_ | refine rG 19 (Calm.fieldAddr ty_field_25_4 rfl) ?_
  first | refine rS 19 ?_ | refine rU 19 ?_ | refine rG 19 (ld_ ty_plain_4 rfl) ?_
  first | refine rS 19 ?_ | refine rU 19 ?_ | refine rG 19 (Calm.fieldAddr ty_field_25_4 rfl) ?_
  first | refine rS 19 ?_ | refine rU 19 ?_ | refine rG 19 (ld_ ty_plain_4 rfl) ?_
  first | refine rS 19 ?_ | refine rU 19 ?_ | refine rG 19 (Calm.bin rfl rfl (bin_bool (bin_bool_neq _ _ Try.underlying4) (by simp : (!(d.down == d.down)) = false))) ?_
  refine rC ((by first | exact Calm.pickT rfl rfl | exact Calm.pickF rfl rfl)) ?_
  refine rC (Calm.move rfl) ?_
  first | refine rS 26 ?_ | refine rU 26 ?_ | refine rG 26 (Calm.fieldAddr ty_field_25_1 rfl) ?_
  first | refine rS 26 ?_ | refine rU 26 ?_ | refine rG 26 (ld_ ty_plain_22 rfl) ?_
  first | refine rS 26 ?_ | refine rU 26 ?_ | refine rG 26 (Calm.lenSl Try.underlying22 rfl) ?_
  first | refine rS 26 ?_ | refine rU 26 ?_ | refine rG 26 (Calm.fieldAddr ty_field_25_1 rfl) ?_
  first | refine rS 26 ?_ | refine rU 26 ?_ | refine rG 26 (ld_ ty_plain_22 rfl) ?_
  first | refine rS 26 ?_ | refine rU 26 ?_ | refine rG 26 (Calm.lenSl Try.underlying22 rfl) ?_
  first | refine rS 26 ?_ | refine rU 26 ?_ | refine rG 26 (Calm.bin rfl rfl (bin_bool (bin_neq _ _) (bnot_dec_false rfl))) ?_
  refine rC ((by first | exact Calm.pickT rfl rfl | exact Calm.pickF rfl rfl)) ?_
  refine rC (Calm.move rfl) ?_
  first | refine rS 35 ?_ | refine rU 35 ?_ | refine rG 35 (Calm.fieldAddr ty_field_25_2 rfl) ?_
  first | refine rS 35 ?_ | refine rU 35 ?_ | refine rG 35 (ld_ ty_plain_23 rfl) ?_
  first | refine rS 35 ?_ | refine rU 35 ?_ | refine rG 35 (Calm.lenSl Try.underlying23 rfl) ?_
  first | refine rS 35 ?_ | refine rU 35 ?_ | refine rG 35 (Calm.fieldAddr ty_field_25_2 rfl) ?_
  first | refine rS 35 ?_ | refine rU 35 ?_ | refine rG 35 (ld_ ty_plain_23 rfl) ?_
  first | refine rS 35 ?_ | refine rU 35 ?_ | refine rG 35 (Calm.lenSl Try.underlying23 rfl) ?_
  first | refine rS 35 ?_ | refine rU 35 ?_ | refine rG 35 (Calm.bin rfl rfl (bin_bool (bin_neq _ _) (bnot_dec_false rfl))) ?_
  refine rC ((by first | exact Calm.pickT rfl rfl | exact Calm.pickF rfl rfl)) ?_
  refine arun_nil ?_
  refine athen_n ?_
  refine AWP.sub [(0, _), (1, _), (2, _), (3, _), (4, _), (43, _)] ⟨rfl, rfl, rfl, rfl, rfl, rfl, trivial⟩ ?_
  refine AWP.condF rfl (by first | rfl | (simp; done) | (simp; omega)) ?_
  refine AWP.skip ?_
  refine athen_n ?_
  refine AWP.seq ?_
  refine AWP.seq ?_
  refine AWP.region ?_
  refine rC (Calm.fieldAddr ty_field_25_1 rfl) ?_
  refine rC (ld_ ty_plain_22 rfl) ?_
  refine rC (Calm.lenSl Try.underlying22 rfl) ?_
  refine rC (Calm.move rfl) ?_
  refine arun_nil ?_
  refine athen_n ?_
  refine AWP.sub [(0, _), (1, _), (2, _), (3, _), (4, _), (43, _), (46, _), (47, _)] ⟨rfl, rfl, rfl, rfl, rfl, rfl, rfl, rfl, trivial⟩ ?_
  refine AWP.block ?_
  refine AWP.loop (X := Nat) (fun x => [(2, .pointer (some ⟨b2, 0, none⟩)), (3, .pointer (some ⟨b3, 0, none⟩)), (46, .int .i64 d.ext.length), (47, .int .i64 x)]) (fun x => T3) (fun x => x ≤ d.ext.length) (fun x => d.ext.length - x) (0) ⟨rfl, rfl, rfl, rfl, trivial⟩ (Mem.Less.refl _) (Nat.zero_le _) ?_
  rintro i hi
  (try dsimp only at *)
  refine AWP.seq ?_
  refine AWP.region ?_
  refine rC (Calm.bin rfl rfl b_lss) ?_
  refine arun_nil ?_
  refine athen_n ?_
  refine AWP.seq ?_
  refine AWP.condB rfl (fun hc => ?_) (fun hc => ?_)
  · have hc : i < d.ext.length := by have := of_decide_eq_true hc; omega
    obtain ⟨b, off, rfl, hk⟩ := hE3.resolve_left (fun e => by rw [e] at hc; simp at hc)
    obtain ⟨b', off', rfl, hk'⟩ := hE3'.resolve_left (fun e => by rw [e] at hc; simp at hc)
    have hki := (hk i hc).less hT3
    have hki' := (hk' i hc).less hT3
    generalize d.ext[i] = x at *
    unfold extF at hki hki'
    refine AWP.skip ?_
    refine athen_n ?_
    refine AWP.seq ?_
    refine AWP.block ?_
    refine AWP.seq ?_
    refine AWP.region ?_
    refine rC (Calm.move rfl) ?_
    refine rC (Calm.assign rfl) ?_
    refine arun_nil ?_
    refine athen_n ?_
    refine AWP.sub [(2, _), (3, _), (46, _), (47, _), (48, _), (5, _)] ⟨rfl, rfl, rfl, rfl, rfl, rfl, trivial⟩ ?_
    refine AWP.seq ?_
    refine AWP.draw [(0, true), (1, true), (2, true), (3, true), (4, true), (5, true), (6, true), (7, true), (8, true), (9, true), (10, true)] [] mixed (by kernel_rfl) ?_
    refine dP (hc := fun _ => Calm.fieldAddr ty_field_25_1 rfl) (h := ?_)
    refine dC (hc := ld_ ty_plain_22 rfl) (h := ?_)
    refine dP (hc := fun _ => Calm.move rfl) (h := ?_)
    refine dP (hc := fun _ => Calm.indexS Try.underlying22 ty_size_54 rfl rfl (by omega) (by omega)) (h := ?_)
    refine dC (hc := ldA_ (cs := [_, _]) ty_agg_54 ty_size_54 rfl) (h := ?_)
    refine dP (hc := fun _ => Calm.fieldAddr ty_field_25_1 rfl) (h := ?_)
    refine dC (hc := ld_ ty_plain_22 rfl) (h := ?_)
    refine dP (hc := fun _ => Calm.move rfl) (h := ?_)
    refine dP (hc := fun _ => Calm.indexS Try.underlying22 ty_size_54 rfl rfl (by omega) (by omega)) (h := ?_)
    refine dC (hc := ldA_ (cs := [_, _]) ty_agg_54 ty_size_54 rfl) (h := ?_)
    refine dP (hc := fun _ => Calm.bin rfl rfl (bin_neq_ext _ _)) (h := ?_)
    refine draw_nil ?_
    refine athen_n ?_
    refine AWP.sub [(2, _), (3, _), (46, _), (47, _), (48, _), (5, _), (60, _)] ⟨rfl, rfl, rfl, rfl, rfl, rfl, rfl, trivial⟩ ?_
    refine AWP.condF rfl (by first | rfl | (simp; done) | (simp; omega)) ?_
    refine AWP.skip ?_
    refine ain_n ?_
    refine athen_n ?_
    refine AWP.region ?_
    refine rC (Calm.bin rfl rfl b_add_i64) ?_
    refine rC (Calm.move rfl) ?_
    refine arun_nil ?_
    refine athen_n ?_
    refine ⟨i + 1, ?_, ?_, ?_, ?_⟩
    all_goals (try dsimp only)
    · exact ⟨rfl, rfl, rfl, rfl, trivial⟩
    · exact less_
    · exact hc
    · omega
  · have hc : i = d.ext.length := by have := of_decide_eq_false hc; omega
    subst hc
    refine AWP.exit ?_
    refine athen_exit ?_
    refine athen_exit ?_
    refine ain_same ?_
    refine athen_n ?_
    refine AWP.seq ?_
    refine AWP.seq ?_
    refine AWP.region ?_
    refine rC (Calm.fieldAddr ty_field_25_2 rfl) ?_
    refine rC (ld_ ty_plain_23 rfl) ?_
    refine rC (Calm.lenSl Try.underlying23 rfl) ?_
    refine rC (Calm.move rfl) ?_
    refine arun_nil ?_
    refine athen_n ?_
    refine AWP.sub [(2, _), (3, _), (46, _), (47, _), (48, _), (64, _), (65, _)] ⟨rfl, rfl, rfl, rfl, rfl, rfl, rfl, trivial⟩ ?_
    refine AWP.block ?_
    refine AWP.loop (X := Nat) (fun x => [(2, .pointer (some ⟨b2, 0, none⟩)), (3, .pointer (some ⟨b3, 0, none⟩)), (64, .int .i64 d.waits.length), (65, .int .i64 x)]) (fun x => T3) (fun x => x ≤ d.waits.length) (fun x => d.waits.length - x) (0) ⟨rfl, rfl, rfl, rfl, trivial⟩ (Mem.Less.refl _) (Nat.zero_le _) ?_
    rintro i hi
    (try dsimp only at *)
    refine AWP.seq ?_
    refine AWP.region ?_
    refine rC (Calm.bin rfl rfl b_lss) ?_
    refine arun_nil ?_
    refine athen_n ?_
    refine AWP.seq ?_
    refine AWP.condB rfl (fun hc => ?_) (fun hc => ?_)
    · have hc : i < d.waits.length := by have := of_decide_eq_true hc; omega
      obtain ⟨b, off, rfl, hk⟩ := hW3.resolve_left (fun e => by rw [e] at hc; simp at hc)
      obtain ⟨b', off', rfl, hk'⟩ := hW3'.resolve_left (fun e => by rw [e] at hc; simp at hc)
      have hki := (hk i hc).less hT3
      have hki' := (hk' i hc).less hT3
      generalize d.waits[i] = x at *
      unfold wrF at hki hki'
      refine AWP.skip ?_
      refine athen_n ?_
      refine AWP.seq ?_
      refine AWP.block ?_
      refine AWP.seq ?_
      refine AWP.region ?_
      refine rC (Calm.move rfl) ?_
      refine rC (Calm.assign rfl) ?_
      refine arun_nil ?_
      refine athen_n ?_
      refine AWP.sub [(2, _), (3, _), (64, _), (65, _), (66, _), (6, _)] ⟨rfl, rfl, rfl, rfl, rfl, rfl, trivial⟩ ?_
      refine AWP.seq ?_
      refine AWP.draw [(0, true), (1, true), (2, true), (3, true), (4, true), (5, true), (6, true), (7, true), (8, true), (9, true), (10, true)] [] mixed (by kernel_rfl) ?_
      refine dP (hc := fun _ => Calm.fieldAddr ty_field_25_2 rfl) (h := ?_)
      refine dC (hc := ld_ ty_plain_23 rfl) (h := ?_)
      refine dP (hc := fun _ => Calm.move rfl) (h := ?_)
      refine dP (hc := fun _ => Calm.indexS Try.underlying23 ty_size_51 rfl rfl (by omega) (by omega)) (h := ?_)
      refine dC (hc := ldA_ (cs := [_, _, _]) ty_agg_51 ty_size_51 rfl) (h := ?_)
      refine dP (hc := fun _ => Calm.fieldAddr ty_field_25_2 rfl) (h := ?_)
      refine dC (hc := ld_ ty_plain_23 rfl) (h := ?_)
      refine dP (hc := fun _ => Calm.move rfl) (h := ?_)
      refine dP (hc := fun _ => Calm.indexS Try.underlying23 ty_size_51 rfl rfl (by omega) (by omega)) (h := ?_)
      refine dC (hc := ldA_ (cs := [_, _, _]) ty_agg_51 ty_size_51 rfl) (h := ?_)
      refine dP (hc := fun _ => Calm.bin rfl rfl (bin_neq_wr _ _ _)) (h := ?_)
      refine draw_nil ?_
      refine athen_n ?_
      refine AWP.sub [(2, _), (3, _), (64, _), (65, _), (66, _), (6, _), (78, _)] ⟨rfl, rfl, rfl, rfl, rfl, rfl, rfl, trivial⟩ ?_
      refine AWP.condF rfl (by first | rfl | (simp; done) | (simp; omega)) ?_
      refine AWP.skip ?_
      refine ain_n ?_
      refine athen_n ?_
      refine AWP.region ?_
      refine rC (Calm.bin rfl rfl b_add_i64) ?_
      refine rC (Calm.move rfl) ?_
      refine arun_nil ?_
      refine athen_n ?_
      refine ⟨i + 1, ?_, ?_, ?_, ?_⟩
      all_goals (try dsimp only)
      · exact ⟨rfl, rfl, rfl, rfl, trivial⟩
      · exact less_
      · exact hc
      · omega
    · refine AWP.exit ?_
      refine athen_exit ?_
      refine athen_exit ?_
      refine ain_same ?_
      refine athen_n ?_
      refine AWP.seq ?_
      refine AWP.region ?_
      refine rC (Calm.assign rfl) ?_
      refine arun_nil ?_
      refine athen_n ?_
      refine AWP.ret ?_
      refine ⟨_, S, ⟨_, _, rfl, rfl, rfl⟩, hT3.trans less_, ?_⟩
      exact ⟨rfl, rfl⟩
end Go.Proofs.Ytkeiphkccnfhoaa
