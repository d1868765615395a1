/-
  Disk, the document's side: Read.
-/
import Derived.Test.YtkeiphkccnfhoaaDR7
namespace Go.Proofs.Ytkeiphkccnfhoaa
open Go.RowKit
open Mv Disk
set_option linter.unusedVariables false
set_option linter.unusedSimpArgs false
set_option maxRecDepth 4000
theorem readO_see (d : D) (s : ByteArray) (k : Int) : readO d s k = if placeO d s k ≠ 0 then (ByteArray.empty, placeO d s k) else (seen d s k, 0) := by
  unfold readO placeO
  by_cases q : (openD d).2 = 0
  · have h1 : ¬ ((openD d).2 ≠ 0) := by simpa using q
    simp only [if_neg h1]; exact readD_see d s k
  · rw [if_pos q, if_pos q, if_pos q]
set_option maxHeartbeats 2000000 in
theorem rd_Read (v : Value) (d : D) (s : ByteArray) (k : Int) (S : Mem) (hd : DkR S v d) (hz : Dz d) :
    ACall Try.prog 28 #[v, .string s, .int .i64 k] S fun r S' => r = .tuple #[.string (readO d s k).1, .int .i64 (readO d s k).2] ∧ S' = S := by
  have hpl := fun M h => rd_place v d s k M h hz
  obtain ⟨pe, ce, pw, cw, rfl, hE, hW⟩ := id hd
  rw [readO_see]
  by_cases q0 : placeO d s k ≠ 0
  · rw [if_pos q0]
    generalize placeO d s k = er at *
    refine ACall.enter (args := [.agg #[.int .i64 d.size, .slice pe d.ext.length ce, .slice pw d.waits.length cw, .int .i64 d.fuse, .bool d.down], .string s, .int .i64 k]) (rs := [.tmp 6, .tmp 7]) 55 [(0, .agg #[.int .i64 d.size, .slice pe d.ext.length ce, .slice pw d.waits.length cw, .int .i64 d.fuse, .bool d.down]), (1, .string s), (2, .int .i64 k)] Try.func28 rfl rfl (Nat.le_of_ble_eq_true rfl) rfl ⟨rfl, rfl, rfl, trivial⟩ ?_
    refine AWP.seq ?_
    refine AWP.region ?_
    refine ARun.boxA (cs := [_, _, _, _, _]) (lit_lt rfl) rfl ?_
    intro b3 f3
    have g3 := f3
    repeat ((with_reducible replace g3 := fresh_set g3); obtain ⟨g3, _⟩ := g3)
    (try simp only [List.length_cons, List.length_nil, Nat.zero_add, Nat.reduceAdd])
    refine rC (Calm.assign rfl) ?_
    refine rC (Calm.assign rfl) ?_
    refine arun_nil ?_
    refine athen_n ?_
    refine AWP.seq ?_
    refine AWP.region ?_
    refine rC (ldA_ (cs := [_, _, _, _, _]) ty_agg_25 ty_size_25 rfl) ?_
    refine rC (Calm.move rfl) ?_
    refine rC (Calm.move rfl) ?_
    refine ARun.call (lit_lt rfl) go_63 rfl (hpl _ (hd.less less_)) ?_
    rintro _ S1 ⟨rfl, h1⟩
    rw [h1]; clear h1 S1
    refine rC (Calm.assign rfl) ?_
    refine arun_nil ?_
    refine athen_n ?_
    refine AWP.sub [(0, _), (1, _), (2, _), (3, _), (6, _), (7, _), (8, _)] ⟨rfl, rfl, rfl, rfl, rfl, rfl, rfl, trivial⟩ ?_
    refine AWP.seq ?_
    refine AWP.seq ?_
    refine AWP.region ?_
    refine rC (Calm.move rfl) ?_
    refine rC (Calm.bin rfl rfl (bin_bool (bin_neq _ _) (bnot_dec_true q0))) ?_
    refine arun_nil ?_
    refine athen_n ?_
    refine AWP.sub [(0, _), (1, _), (2, _), (3, _), (6, _), (7, _), (8, _), (17, _)] ⟨rfl, rfl, rfl, rfl, rfl, rfl, rfl, rfl, trivial⟩ ?_
    refine AWP.condT rfl (by first | rfl | (simp; done) | (simp; omega)) ?_
    refine AWP.seq ?_
    refine AWP.region ?_
    refine rC (Calm.move rfl) ?_
    refine rC (Calm.assign rfl) ?_
    refine rC (Calm.assign rfl) ?_
    refine arun_nil ?_
    refine athen_n ?_
    refine AWP.sub [(0, _), (1, _), (2, _), (3, _), (6, _), (7, _), (8, _), (17, _)] ⟨rfl, rfl, rfl, rfl, rfl, rfl, rfl, rfl, trivial⟩ ?_
    refine AWP.ret ?_
    refine athen_ret ?_
    refine ⟨_, S, ⟨_, _, rfl, ⟨_, _, rfl, rfl, rfl⟩, rfl⟩, less_, ?_⟩
    exact ⟨rfl, rfl⟩
  · rw [if_neg q0]
    have q0 : placeO d s k = 0 := by simpa using q0
    have hop : (openD d).2 = 0 := by
      rcases openD_or d with ⟨ho, hR⟩ | ⟨ho, hR, hdn⟩ | ⟨ho, hR, hdn⟩
      · unfold placeO at q0; rw [ho] at q0; simp at q0
      · unfold placeO at q0; rw [ho] at q0; simp at q0
      · rw [ho]
    have hR : Right d := by
      rcases openD_or d with ⟨ho, hR⟩ | ⟨ho, hR, hdn⟩ | ⟨ho, hR, hdn⟩
      · rw [ho] at hop; simp at hop
      · exact hR
      · exact hR
    have hp0 : (placeD d s k).2 = 0 := by unfold placeO at q0; rw [if_neg (by simpa using hop)] at q0; exact q0
    obtain ⟨q, hk0, hk1⟩ := place0 hp0
    simp only [q0] at hpl
    have hf : fnd d.ext s = (pos d.ext s : Nat) := by unfold fnd; rw [if_pos q]
    obtain ⟨hlt, he⟩ := (has_pos hR.ex.asc s).1 q
    unfold seen
    rw [exOf_eq hlt] at hk1 ⊢
    obtain ⟨_, _, ee1, ee2, ee3, hE3⟩ := id hE
    obtain ⟨_, _, ew1, ew2, ew3, hW3⟩ := id hW
    cases ee1; cases ew1
    obtain ⟨b, off, rfl, hk⟩ := hE3.resolve_left (fun e => by rw [e] at hlt; simp at hlt)
    have hki := hk _ hlt
    have hsx := right_sec hR (List.getElem_mem hlt)
    generalize pos d.ext s = p at *
    generalize d.ext[p] = x at *
    unfold extF at hki
    have hki1 := kn_at hki 1 rfl
    obtain ⟨m, rfl⟩ : ∃ m : Nat, k = m := ⟨k.toNat, by omega⟩
    rw [Int.toNat_natCast]
    obtain ⟨hm1, hm2, hm3, hm4⟩ := wr_facts hsx hk1
    generalize hB : x.2.extract (64 * m) (64 * m + 64) = base
    have hB' : x.2.extract (64 * m) (64 * (m + 1)) = base := by rw [← hB, Nat.mul_succ]
    refine ACall.enter (args := [.agg #[.int .i64 d.size, .slice (some ⟨b, off, none⟩) d.ext.length ce, .slice pw d.waits.length cw, .int .i64 d.fuse, .bool d.down], .string s, .int .i64 (m : Int)]) (rs := [.tmp 6, .tmp 7]) 55 [(0, .agg #[.int .i64 d.size, .slice (some ⟨b, off, none⟩) d.ext.length ce, .slice pw d.waits.length cw, .int .i64 d.fuse, .bool d.down]), (1, .string s), (2, .int .i64 (m : Int))] Try.func28 rfl rfl (Nat.le_of_ble_eq_true rfl) rfl ⟨rfl, rfl, rfl, trivial⟩ ?_
    refine AWP.seq ?_
    refine AWP.region ?_
    refine ARun.boxA (cs := [_, _, _, _, _]) (lit_lt rfl) rfl ?_
    intro b3 f3
    have g3 := f3
    repeat ((with_reducible replace g3 := fresh_set g3); obtain ⟨g3, _⟩ := g3)
    (try simp only [List.length_cons, List.length_nil, Nat.zero_add, Nat.reduceAdd])
    refine rC (Calm.assign rfl) ?_
    refine rC (Calm.assign rfl) ?_
    refine arun_nil ?_
    refine athen_n ?_
    refine AWP.seq ?_
    refine AWP.region ?_
    refine rC (ldA_ (cs := [_, _, _, _, _]) ty_agg_25 ty_size_25 rfl) ?_
    refine rC (Calm.move rfl) ?_
    refine rC (Calm.move rfl) ?_
    refine ARun.call (lit_lt rfl) go_63 rfl (hpl _ (hd.less less_)) ?_
    rintro _ S1 ⟨rfl, h1⟩
    rw [h1]; clear h1 S1
    refine rC (Calm.assign rfl) ?_
    refine arun_nil ?_
    refine athen_n ?_
    refine AWP.sub [(0, _), (1, _), (2, _), (3, _), (6, _), (7, _), (8, _)] ⟨rfl, rfl, rfl, rfl, rfl, rfl, rfl, trivial⟩ ?_
    refine AWP.seq ?_
    refine AWP.seq ?_
    refine AWP.region ?_
    refine rC (Calm.move rfl) ?_
    refine rC (Calm.bin rfl rfl b_neq) ?_
    refine arun_nil ?_
    refine athen_n ?_
    refine AWP.sub [(0, _), (1, _), (2, _), (3, _), (6, _), (7, _), (8, _), (17, _)] ⟨rfl, rfl, rfl, rfl, rfl, rfl, rfl, rfl, trivial⟩ ?_
    refine AWP.condF rfl (by first | rfl | (simp; done) | (simp; omega)) ?_
    refine AWP.skip ?_
    refine athen_n ?_
    refine AWP.seq ?_
    refine AWP.draw [(0, true), (1, true), (2, true), (3, true), (4, true), (9, true), (10, true), (11, true), (12, true), (13, true), (5, false), (6, true), (7, true), (8, true), (14, true), (15, true)] [] mixed (by kernel_rfl) ?_
    refine dP (hc := fun _ => Calm.fieldAddr ty_field_25_1 rfl) (h := ?_)
    refine dC (hc := ld_ ty_plain_22 rfl) (h := ?_)
    refine dP (hc := fun _ => Calm.fieldAddr ty_field_25_1 rfl) (h := ?_)
    refine dC (hc := ld_ ty_plain_22 rfl) (h := ?_)
    refine dP (hc := fun _ => Calm.move rfl) (h := ?_)
    refine dP (hc := fun _ => Calm.move rfl) (h := ?_)
    refine dP (hc := fun _ => Calm.bin rfl rfl (bin_mulW hm1)) (h := ?_)
    refine dP (hc := fun _ => Calm.move rfl) (h := ?_)
    refine dP (hc := fun _ => Calm.bin rfl rfl (bin_addW hm2)) (h := ?_)
    refine dP (hc := fun _ => Calm.bin rfl rfl (bin_mulW hm3)) (h := ?_)
    refine draw_only rfl ?_
    refine ARun.call (lit_lt rfl) go_50 rfl (rd_Find _ d.ext s _ (hE.less less_) hR.ex.asc) ?_
    rintro _ S1 ⟨rfl, h1⟩
    rw [h1, hf]; clear h1 S1
    refine arun_nil ⟨fun _ => less_, ?_⟩
    refine dP (hc := fun _ => Calm.indexS Try.underlying22 ty_size_54 rfl rfl (by omega) (by omega)) (h := ?_)
    refine dP (hc := fun _ => Calm.fieldAddr ty_field_54_1 rfl) (h := ?_)
    refine dC (hc := Calm.loadK ty_plain_9 rfl (hki1.less less_)) (h := ?_)
    refine draw_pure rfl rfl rfl rfl (lit_lt rfl) (fun _ => Calm.sliceStr (l := 64 * m) (h := 64 * (m + 1)) (by kernel_rfl) rfl ⟨_, _, rfl, Int.natCast_nonneg _, Int.ofNat_le.2 hm4, rfl⟩ ⟨_, _, rfl, Int.natCast_nonneg _, Int.ofNat_le.2 (Nat.mul_le_mul_left 64 (Nat.le_succ m)), rfl⟩) ?_
    rw [hB']
    refine dP (hc := fun _ => Calm.assign rfl) (h := ?_)
    refine draw_nil ?_
    refine athen_n ?_
    refine AWP.sub [(0, _), (1, _), (2, _), (3, _), (6, _), (7, _), (8, _), (17, _), (9, _)] ⟨rfl, rfl, rfl, rfl, rfl, rfl, rfl, rfl, rfl, trivial⟩ ?_
    refine AWP.seq ?_
    refine AWP.seq ?_
    refine AWP.region ?_
    refine rC (Calm.fieldAddr ty_field_25_2 rfl) ?_
    refine rC (ld_ ty_plain_23 rfl) ?_
    refine rC (Calm.lenSl Try.underlying23 rfl) ?_
    refine rC (Calm.move rfl) ?_
    refine arun_nil ?_
    refine athen_n ?_
    refine AWP.sub [(0, _), (1, _), (2, _), (3, _), (6, _), (7, _), (8, _), (17, _), (9, _), (35, _), (36, _), (37, _)] ⟨rfl, rfl, rfl, rfl, rfl, rfl, rfl, rfl, rfl, rfl, rfl, rfl, trivial⟩ ?_
    refine AWP.block ?_
    refine AWP.loop (X := Nat) (fun x => [(1, .string s), (2, .int .i64 (m : Int)), (9, .string (seeW allK d.waits s (m : Int) base x)), (35, .slice pw d.waits.length cw), (36, .int .i64 d.waits.length), (37, .int .i64 x)]) (fun x => S) (fun x => x ≤ d.waits.length) (fun x => d.waits.length - x) (0) ⟨rfl, rfl, rfl, rfl, rfl, rfl, trivial⟩ (less_) (Nat.zero_le _) ?_
    rintro i hi
    (try dsimp only at *)
    refine AWP.seq ?_
    refine AWP.region ?_
    refine rC (Calm.bin rfl rfl b_lss) ?_
    refine arun_nil ?_
    refine athen_n ?_
    refine AWP.seq ?_
    refine AWP.condB rfl (fun hc => ?_) (fun hc => ?_)
    · have hc : i < d.waits.length := by have := of_decide_eq_true hc; omega
      obtain ⟨bw, ow, rfl, hkw⟩ := hW3.resolve_left (fun e => by rw [e] at hc; simp at hc)
      have hkwi := hkw i hc
      have hst := seeW_succ allK d.waits s (m : Int) base hc
      generalize d.waits[i] = w at *
      unfold wrF at hkwi
      by_cases q1 : w.1 = s
      · refine AWP.skip ?_
        refine athen_n ?_
        refine AWP.seq ?_
        refine AWP.block ?_
        refine AWP.seq ?_
        refine AWP.region ?_
        refine rC (Calm.indexS Try.underlying23 ty_size_51 rfl rfl (by omega) (by omega)) ?_
        refine rC (ldA_ (cs := [_, _, _]) ty_agg_51 ty_size_51 rfl) ?_
        refine ARun.alloc (lit_lt rfl) ty_zero_51 ?_
        intro b11 f11
        have g11 := f11
        repeat ((with_reducible replace g11 := fresh_set g11); obtain ⟨g11, _⟩ := g11)
        (try simp only [List.length_cons, List.length_nil, Nat.zero_add, Nat.reduceAdd])
        first | refine ARun.storeAll rfl rfl ty_size_51 own_ rfl rfl ?_ | refine ARun.store rfl rfl ty_size_51 own_ lens_ rfl ?_
        (try simp only [Mem.set_set, List.set_cons_zero, List.set_cons_succ, Nat.zero_add, Nat.reduceAdd])
        refine arun_nil ?_
        refine athen_n ?_
        refine AWP.sub [(1, _), (2, _), (9, _), (35, _), (36, _), (37, _), (38, _), (11, _)] ⟨rfl, rfl, rfl, rfl, rfl, rfl, rfl, rfl, trivial⟩ ?_
        refine AWP.seq ?_
        refine AWP.region ?_
        refine rC (Calm.fieldAddr ty_field_51_0 rfl) ?_
        refine rC (ld_ ty_plain_9 rfl) ?_
        refine rC (Calm.move rfl) ?_
        refine rC (Calm.bin rfl rfl (bin_bool (bin_str_eql _ _) (decide_eq_true q1))) ?_
        refine rC (Calm.move rfl) ?_
        first | refine rS 45 ?_ | refine rU 45 ?_ | refine rG 45 (Calm.fieldAddr ty_field_51_1 rfl) ?_
        first | refine rS 45 ?_ | refine rU 45 ?_ | refine rG 45 (ld_ ty_plain_3 rfl) ?_
        first | refine rS 45 ?_ | refine rU 45 ?_ | refine rG 45 (Calm.move rfl) ?_
        first | refine rS 45 ?_ | refine rU 45 ?_ | refine rG 45 (Calm.bin rfl rfl b_eql) ?_
        refine rC ((by first | exact Calm.pickT rfl rfl | exact Calm.pickF rfl rfl)) ?_
        refine arun_nil ?_
        refine athen_n ?_
        refine AWP.sub [(1, _), (2, _), (9, _), (35, _), (36, _), (37, _), (38, _), (11, _), (50, _)] ⟨rfl, rfl, rfl, rfl, rfl, rfl, rfl, rfl, rfl, trivial⟩ ?_
        refine AWP.condB rfl (fun q2 => ?_) (fun q2 => ?_)
        · have q2 := of_decide_eq_true q2
          refine AWP.region ?_
          refine rC (Calm.fieldAddr ty_field_51_2 rfl) ?_
          refine rC (ld_ ty_plain_9 rfl) ?_
          refine rC (Calm.assign rfl) ?_
          refine arun_nil ?_
          refine ain_n ?_
          refine athen_n ?_
          refine AWP.sub [(1, _), (2, _), (9, _), (35, _), (36, _), (37, _), (38, _), (11, _), (50, _)] ⟨rfl, rfl, rfl, rfl, rfl, rfl, rfl, rfl, rfl, trivial⟩ ?_
          refine AWP.region ?_
          refine rC (Calm.bin rfl rfl b_add_i64) ?_
          refine rC (Calm.move rfl) ?_
          refine arun_nil ?_
          refine athen_n ?_
          refine ⟨i + 1, ?_, ?_, ?_, ?_⟩
          all_goals (try dsimp only)
          · exact ⟨rfl, rfl, some_str (by rw [hst, if_pos ⟨q1, q2, rfl⟩]), rfl, rfl, rfl, trivial⟩
          · exact less_
          · exact hc
          · omega
        · have q2 := of_decide_eq_false q2
          refine AWP.skip ?_
          refine ain_n ?_
          refine athen_n ?_
          refine AWP.region ?_
          refine rC (Calm.bin rfl rfl b_add_i64) ?_
          refine rC (Calm.move rfl) ?_
          refine arun_nil ?_
          refine athen_n ?_
          refine ⟨i + 1, ?_, ?_, ?_, ?_⟩
          all_goals (try dsimp only)
          · exact ⟨rfl, rfl, some_str (by rw [hst, if_neg (fun z => q2 z.2.1)]), rfl, rfl, rfl, trivial⟩
          · exact less_
          · exact hc
          · omega
      · refine AWP.skip ?_
        refine athen_n ?_
        refine AWP.seq ?_
        refine AWP.block ?_
        refine AWP.seq ?_
        refine AWP.region ?_
        refine rC (Calm.indexS Try.underlying23 ty_size_51 rfl rfl (by omega) (by omega)) ?_
        refine rC (ldA_ (cs := [_, _, _]) ty_agg_51 ty_size_51 rfl) ?_
        refine ARun.alloc (lit_lt rfl) ty_zero_51 ?_
        intro b11 f11
        have g11 := f11
        repeat ((with_reducible replace g11 := fresh_set g11); obtain ⟨g11, _⟩ := g11)
        (try simp only [List.length_cons, List.length_nil, Nat.zero_add, Nat.reduceAdd])
        first | refine ARun.storeAll rfl rfl ty_size_51 own_ rfl rfl ?_ | refine ARun.store rfl rfl ty_size_51 own_ lens_ rfl ?_
        (try simp only [Mem.set_set, List.set_cons_zero, List.set_cons_succ, Nat.zero_add, Nat.reduceAdd])
        refine arun_nil ?_
        refine athen_n ?_
        refine AWP.sub [(1, _), (2, _), (9, _), (35, _), (36, _), (37, _), (38, _), (11, _)] ⟨rfl, rfl, rfl, rfl, rfl, rfl, rfl, rfl, trivial⟩ ?_
        refine AWP.seq ?_
        refine AWP.region ?_
        refine rC (Calm.fieldAddr ty_field_51_0 rfl) ?_
        refine rC (ld_ ty_plain_9 rfl) ?_
        refine rC (Calm.move rfl) ?_
        refine rC (Calm.bin rfl rfl (bin_bool (bin_str_eql _ _) (decide_eq_false q1))) ?_
        refine rC (Calm.move rfl) ?_
        first | refine rS 45 ?_ | refine rU 45 ?_ | refine rG 45 (Calm.fieldAddr ty_field_51_1 rfl) ?_
        first | refine rS 45 ?_ | refine rU 45 ?_ | refine rG 45 (ld_ ty_plain_3 rfl) ?_
        first | refine rS 45 ?_ | refine rU 45 ?_ | refine rG 45 (Calm.move rfl) ?_
        first | refine rS 45 ?_ | refine rU 45 ?_ | refine rG 45 (Calm.bin rfl rfl b_eql) ?_
        refine rC ((by first | exact Calm.pickT rfl rfl | exact Calm.pickF rfl rfl)) ?_
        refine arun_nil ?_
        refine athen_n ?_
        refine AWP.sub [(1, _), (2, _), (9, _), (35, _), (36, _), (37, _), (38, _), (11, _), (50, _)] ⟨rfl, rfl, rfl, rfl, rfl, rfl, rfl, rfl, rfl, trivial⟩ ?_
        refine AWP.condF rfl (by first | rfl | (simp; done) | (simp; omega)) ?_
        refine AWP.skip ?_
        refine ain_n ?_
        refine athen_n ?_
        refine AWP.region ?_
        refine rC (Calm.bin rfl rfl b_add_i64) ?_
        refine rC (Calm.move rfl) ?_
        refine arun_nil ?_
        refine athen_n ?_
        refine ⟨i + 1, ?_, ?_, ?_, ?_⟩
        all_goals (try dsimp only)
        · exact ⟨rfl, rfl, some_str (by rw [hst, if_neg (fun z => q1 z.1)]), rfl, rfl, rfl, trivial⟩
        · exact less_
        · exact hc
        · omega
    · have hc : i = d.waits.length := by have := of_decide_eq_false hc; omega
      subst hc
      refine AWP.exit ?_
      refine athen_exit ?_
      refine athen_exit ?_
      refine ain_same ?_
      refine athen_n ?_
      refine AWP.seq ?_
      refine AWP.region ?_
      refine rC (Calm.move rfl) ?_
      refine rC (Calm.assign rfl) ?_
      refine rC (Calm.assign rfl) ?_
      refine arun_nil ?_
      refine athen_n ?_
      refine AWP.sub [(1, _), (2, _), (9, _), (35, _), (36, _), (37, _), (38, _), (6, _), (7, _)] ⟨rfl, rfl, rfl, rfl, rfl, rfl, rfl, rfl, rfl, trivial⟩ ?_
      refine AWP.ret ?_
      refine ⟨_, S, ⟨_, _, rfl, ⟨_, _, rfl, rfl, rfl⟩, rfl⟩, less_, ?_⟩
      exact ⟨rfl, rfl⟩
end Go.Proofs.Ytkeiphkccnfhoaa
