/-
  Disk, the document's side: New.
-/
import Derived.Test.YtkeiphkccnfhoaaDR6
namespace Go.Proofs.Ytkeiphkccnfhoaa
open Go.RowKit
open Mv Disk
set_option linter.unusedVariables false
set_option linter.unusedSimpArgs false
set_option maxRecDepth 4000

theorem set_back (M : Mem) {b c : Nat} {r z r' : Blk} (h : c ≠ b) : ((M.set b r).set c z).set b r' = (M.set b r').set c z := by
  rw [Mem.set_comm' (M.set b r) z r' h, Mem.set_set]
set_option maxHeartbeats 2000000 in
theorem rd_New (v : Value) (d : D) (s : ByteArray) (n : Int) (S : Mem) (hd : DkR S v d) (hz : Dz d) :
    ACall Try.prog 14 #[v, .string s, .int .i64 n] S (DkRes (opened d (newD d s n)) S) := by
  have hpow := fun M h => rd_power v d M h hz
  have hasw := fun why => rd_as v d why S hd hz
  have hcopy := rd_CopyW v d S hd hz
  obtain ⟨pe, ce, pw, cw, rfl, hE, hW⟩ := id hd
  unfold opened
  rcases openD_or d with ⟨ho, hR⟩ | ⟨ho, hR, hdn⟩ | ⟨ho, hR, hdn⟩ <;> (simp only [ho] at hpow ⊢)
  · have hasw := hasw 2; rw [asD_no hR] at hasw; rw [if_neg (by decide)]
    refine ACall.enter (args := [.agg #[.int .i64 d.size, .slice pe d.ext.length ce, .slice pw d.waits.length cw, .int .i64 d.fuse, .bool d.down], .string s, .int .i64 n]) (rs := [.cell 6 25, .tmp 7]) 61 [(0, .agg #[.int .i64 d.size, .slice pe d.ext.length ce, .slice pw d.waits.length cw, .int .i64 d.fuse, .bool d.down]), (1, .string s), (2, .int .i64 n)] Try.func14 rfl rfl (Nat.le_of_ble_eq_true rfl) rfl ⟨rfl, rfl, rfl, trivial⟩ ?_
    refine AWP.seq ?_
    refine AWP.region ?_
    refine ARun.boxA (cs := [_, _, _, _, _]) (lit_lt rfl) rfl ?_
    intro b3 f3
    have g3 := f3
    repeat ((with_reducible replace g3 := fresh_set g3); obtain ⟨g3, _⟩ := g3)
    (try simp only [List.length_cons, List.length_nil, Nat.zero_add, Nat.reduceAdd])
    refine ARun.alloc (lit_lt rfl) ty_zero_25 ?_
    intro b6 f6
    have g6 := f6
    repeat ((with_reducible replace g6 := fresh_set g6); obtain ⟨g6, _⟩ := g6)
    (try simp only [List.length_cons, List.length_nil, Nat.zero_add, Nat.reduceAdd])
    refine rC (Calm.assign rfl) ?_
    refine arun_nil ?_
    refine athen_n ?_
    refine AWP.seq ?_
    refine AWP.region ?_
    refine rC (ldA_ (cs := [_, _, _, _, _]) ty_agg_25 ty_size_25 rfl) ?_
    refine ARun.call (lit_lt rfl) go_47 rfl (hpow _ (hd.less less_)) ?_
    rintro _ S1 ⟨rfl, h1⟩
    rw [h1]; clear h1 S1
    refine rC (Calm.assign rfl) ?_
    refine arun_nil ?_
    refine athen_n ?_
    refine AWP.sub [(0, _), (1, _), (2, _), (3, _), (6, _), (7, _), (8, _)] ⟨rfl, rfl, rfl, rfl, rfl, rfl, rfl, trivial⟩ ?_
    refine AWP.seq ?_
    refine AWP.seq ?_
    refine AWP.region ?_
    refine rC (Calm.move rfl) ?_
    refine rC (Calm.bin rfl rfl b_neq) ?_
    refine arun_nil ?_
    refine athen_n ?_
    refine AWP.sub [(0, _), (1, _), (2, _), (3, _), (6, _), (7, _), (8, _), (12, _)] ⟨rfl, rfl, rfl, rfl, rfl, rfl, rfl, rfl, trivial⟩ ?_
    refine AWP.condT rfl (by first | rfl | (simp; done) | (simp; omega)) ?_
    refine AWP.seq ?_
    refine AWP.region ?_
    refine rC (ldA_ (cs := [_, _, _, _, _]) ty_agg_25 ty_size_25 rfl) ?_
    refine rC (Calm.move rfl) ?_
    refine ARun.call (lit_lt rfl) go_48 rfl (((hasw).frame f3).frame f6) ?_
    rintro _ S1 ⟨Sa, ⟨M, ⟨v', rfl, hSM, hdk⟩, fa, hSa⟩, fb, h1⟩
    rw [h1, hSa]; rw [hSa] at fb; clear h1 S1 hSa Sa
    obtain ⟨fbm, nba⟩ := fresh_set fb
    obtain ⟨qe, de, qw, dw, rfl, hE2, hW2⟩ := id hdk
    refine rC (Calm.extract rfl rfl) ?_
    refine rC (Calm.extract rfl rfl) ?_
    first | refine ARun.storeAll rfl rfl ty_size_25 own_ rfl rfl ?_ | refine ARun.store rfl rfl ty_size_25 own_ lens_ rfl ?_
    (try simp only [Mem.set_set, List.set_cons_zero, List.set_cons_succ, Nat.zero_add, Nat.reduceAdd])
    refine rC (Calm.assign rfl) ?_
    refine arun_nil ?_
    refine athen_n ?_
    refine AWP.sub [(0, _), (1, _), (2, _), (3, _), (6, _), (7, _), (8, _), (12, _)] ⟨rfl, rfl, rfl, rfl, rfl, rfl, rfl, rfl, trivial⟩ ?_
    refine AWP.ret ?_
    refine athen_ret ?_
    refine ⟨_, M, ⟨_, _, _, rfl, .inr ⟨ty_agg_25, [_, _, _, _, _], ty_size_25, rds_, rfl⟩, ⟨_, _, rfl, rfl, rfl⟩, rfl⟩, less_, ?_⟩
    exact ⟨_, rfl, hSM, hdk⟩
  · have hasw := hasw 10; rw [asD_ok hR] at hasw; rw [if_neg (by decide)]
    refine ACall.enter (args := [.agg #[.int .i64 d.size, .slice pe d.ext.length ce, .slice pw d.waits.length cw, .int .i64 d.fuse, .bool d.down], .string s, .int .i64 n]) (rs := [.cell 6 25, .tmp 7]) 61 [(0, .agg #[.int .i64 d.size, .slice pe d.ext.length ce, .slice pw d.waits.length cw, .int .i64 d.fuse, .bool d.down]), (1, .string s), (2, .int .i64 n)] Try.func14 rfl rfl (Nat.le_of_ble_eq_true rfl) rfl ⟨rfl, rfl, rfl, trivial⟩ ?_
    refine AWP.seq ?_
    refine AWP.region ?_
    refine ARun.boxA (cs := [_, _, _, _, _]) (lit_lt rfl) rfl ?_
    intro b3 f3
    have g3 := f3
    repeat ((with_reducible replace g3 := fresh_set g3); obtain ⟨g3, _⟩ := g3)
    (try simp only [List.length_cons, List.length_nil, Nat.zero_add, Nat.reduceAdd])
    refine ARun.alloc (lit_lt rfl) ty_zero_25 ?_
    intro b6 f6
    have g6 := f6
    repeat ((with_reducible replace g6 := fresh_set g6); obtain ⟨g6, _⟩ := g6)
    (try simp only [List.length_cons, List.length_nil, Nat.zero_add, Nat.reduceAdd])
    refine rC (Calm.assign rfl) ?_
    refine arun_nil ?_
    refine athen_n ?_
    refine AWP.seq ?_
    refine AWP.region ?_
    refine rC (ldA_ (cs := [_, _, _, _, _]) ty_agg_25 ty_size_25 rfl) ?_
    refine ARun.call (lit_lt rfl) go_47 rfl (hpow _ (hd.less less_)) ?_
    rintro _ S1 ⟨rfl, h1⟩
    rw [h1]; clear h1 S1
    refine rC (Calm.assign rfl) ?_
    refine arun_nil ?_
    refine athen_n ?_
    refine AWP.sub [(0, _), (1, _), (2, _), (3, _), (6, _), (7, _), (8, _)] ⟨rfl, rfl, rfl, rfl, rfl, rfl, rfl, trivial⟩ ?_
    refine AWP.seq ?_
    refine AWP.seq ?_
    refine AWP.region ?_
    refine rC (Calm.move rfl) ?_
    refine rC (Calm.bin rfl rfl b_neq) ?_
    refine arun_nil ?_
    refine athen_n ?_
    refine AWP.sub [(0, _), (1, _), (2, _), (3, _), (6, _), (7, _), (8, _), (12, _)] ⟨rfl, rfl, rfl, rfl, rfl, rfl, rfl, rfl, trivial⟩ ?_
    refine AWP.condT rfl (by first | rfl | (simp; done) | (simp; omega)) ?_
    refine AWP.seq ?_
    refine AWP.region ?_
    refine rC (ldA_ (cs := [_, _, _, _, _]) ty_agg_25 ty_size_25 rfl) ?_
    refine rC (Calm.move rfl) ?_
    refine ARun.call (lit_lt rfl) go_48 rfl (((hasw).frame f3).frame f6) ?_
    rintro _ S1 ⟨Sa, ⟨M, ⟨v', rfl, hSM, hdk⟩, fa, hSa⟩, fb, h1⟩
    rw [h1, hSa]; rw [hSa] at fb; clear h1 S1 hSa Sa
    obtain ⟨fbm, nba⟩ := fresh_set fb
    obtain ⟨qe, de, qw, dw, rfl, hE2, hW2⟩ := id hdk
    refine rC (Calm.extract rfl rfl) ?_
    refine rC (Calm.extract rfl rfl) ?_
    first | refine ARun.storeAll rfl rfl ty_size_25 own_ rfl rfl ?_ | refine ARun.store rfl rfl ty_size_25 own_ lens_ rfl ?_
    (try simp only [Mem.set_set, List.set_cons_zero, List.set_cons_succ, Nat.zero_add, Nat.reduceAdd])
    refine rC (Calm.assign rfl) ?_
    refine arun_nil ?_
    refine athen_n ?_
    refine AWP.sub [(0, _), (1, _), (2, _), (3, _), (6, _), (7, _), (8, _), (12, _)] ⟨rfl, rfl, rfl, rfl, rfl, rfl, rfl, rfl, trivial⟩ ?_
    refine AWP.ret ?_
    refine athen_ret ?_
    refine ⟨_, M, ⟨_, _, _, rfl, .inr ⟨ty_agg_25, [_, _, _, _, _], ty_size_25, rds_, rfl⟩, ⟨_, _, rfl, rfl, rfl⟩, rfl⟩, less_, ?_⟩
    exact ⟨_, rfl, hSM, hdk⟩
  · simp only [asD_ok hR] at hasw
    rw [if_pos trivial]
    have hus := hR.ex.us; have h0 := hR.s0; have h16 := hR.s1; have hrl := right_len hR
    unfold newD
    by_cases q1 : nm s
    · by_cases q2 : n < 1
      · rw [if_pos (.inr q2)]
        refine ACall.enter (args := [.agg #[.int .i64 d.size, .slice pe d.ext.length ce, .slice pw d.waits.length cw, .int .i64 d.fuse, .bool d.down], .string s, .int .i64 n]) (rs := [.cell 6 25, .tmp 7]) 61 [(0, .agg #[.int .i64 d.size, .slice pe d.ext.length ce, .slice pw d.waits.length cw, .int .i64 d.fuse, .bool d.down]), (1, .string s), (2, .int .i64 n)] Try.func14 rfl rfl (Nat.le_of_ble_eq_true rfl) rfl ⟨rfl, rfl, rfl, trivial⟩ ?_
        refine AWP.seq ?_
        refine AWP.region ?_
        refine ARun.boxA (cs := [_, _, _, _, _]) (lit_lt rfl) rfl ?_
        intro b3 f3
        have g3 := f3
        repeat ((with_reducible replace g3 := fresh_set g3); obtain ⟨g3, _⟩ := g3)
        (try simp only [List.length_cons, List.length_nil, Nat.zero_add, Nat.reduceAdd])
        refine ARun.alloc (lit_lt rfl) ty_zero_25 ?_
        intro b6 f6
        have g6 := f6
        repeat ((with_reducible replace g6 := fresh_set g6); obtain ⟨g6, _⟩ := g6)
        (try simp only [List.length_cons, List.length_nil, Nat.zero_add, Nat.reduceAdd])
        refine rC (Calm.assign rfl) ?_
        refine arun_nil ?_
        refine athen_n ?_
        refine AWP.seq ?_
        refine AWP.region ?_
        refine rC (ldA_ (cs := [_, _, _, _, _]) ty_agg_25 ty_size_25 rfl) ?_
        refine ARun.call (lit_lt rfl) go_47 rfl (hpow _ (hd.less less_)) ?_
        rintro _ S1 ⟨rfl, h1⟩
        rw [h1]; clear h1 S1
        refine rC (Calm.assign rfl) ?_
        refine arun_nil ?_
        refine athen_n ?_
        refine AWP.sub [(0, _), (1, _), (2, _), (3, _), (6, _), (7, _), (8, _)] ⟨rfl, rfl, rfl, rfl, rfl, rfl, rfl, trivial⟩ ?_
        refine AWP.seq ?_
        refine AWP.seq ?_
        refine AWP.region ?_
        refine rC (Calm.move rfl) ?_
        refine rC (Calm.bin rfl rfl b_neq) ?_
        refine arun_nil ?_
        refine athen_n ?_
        refine AWP.sub [(0, _), (1, _), (2, _), (3, _), (6, _), (7, _), (8, _), (12, _)] ⟨rfl, rfl, rfl, rfl, rfl, rfl, rfl, rfl, trivial⟩ ?_
        refine AWP.condF rfl (by first | rfl | (simp; done) | (simp; omega)) ?_
        refine AWP.skip ?_
        refine athen_n ?_
        refine AWP.seq ?_
        refine AWP.seq ?_
        refine AWP.region ?_
        refine rC (Calm.move rfl) ?_
        refine ARun.call (lit_lt rfl) go_49 rfl (rd_Named _ _) ?_
        rintro _ S1 ⟨rfl, h1⟩
        rw [h1, decide_eq_true q1]; clear h1 S1
        refine rC (Calm.un rfl (una_not _)) ?_
        refine rC (Calm.move rfl) ?_
        first | refine rS 21 ?_ | refine rU 21 ?_ | refine rG 21 (Calm.move rfl) ?_
        first | refine rS 21 ?_ | refine rU 21 ?_ | refine rG 21 (Calm.bin rfl rfl b_lss) ?_
        refine rC ((by first | exact Calm.pickT rfl rfl | exact Calm.pickF rfl rfl)) ?_
        refine arun_nil ?_
        refine athen_n ?_
        refine AWP.sub [(0, _), (1, _), (2, _), (3, _), (6, _), (7, _), (8, _), (12, _), (24, _)] ⟨rfl, rfl, rfl, rfl, rfl, rfl, rfl, rfl, rfl, trivial⟩ ?_
        refine AWP.condT rfl (by first | rfl | (simp; done) | (simp; omega)) ?_
        refine AWP.seq ?_
        refine AWP.region ?_
        refine rC (ldA_ (cs := [_, _, _, _, _]) ty_agg_25 ty_size_25 rfl) ?_
        refine ARun.call (lit_lt rfl) go_48 rfl (((hasw 1).frame f3).frame f6) ?_
        rintro _ S1 ⟨Sa, ⟨M, ⟨v', rfl, hSM, hdk⟩, fa, hSa⟩, fb, h1⟩
        rw [h1, hSa]; rw [hSa] at fb; clear h1 S1 hSa Sa
        obtain ⟨fbm, nba⟩ := fresh_set fb
        obtain ⟨qe, de, qw, dw, rfl, hE2, hW2⟩ := id hdk
        refine rC (Calm.extract rfl rfl) ?_
        refine rC (Calm.extract rfl rfl) ?_
        first | refine ARun.storeAll rfl rfl ty_size_25 own_ rfl rfl ?_ | refine ARun.store rfl rfl ty_size_25 own_ lens_ rfl ?_
        (try simp only [Mem.set_set, List.set_cons_zero, List.set_cons_succ, Nat.zero_add, Nat.reduceAdd])
        refine rC (Calm.assign rfl) ?_
        refine arun_nil ?_
        refine athen_n ?_
        refine AWP.sub [(0, _), (1, _), (2, _), (3, _), (6, _), (7, _), (8, _), (12, _), (24, _)] ⟨rfl, rfl, rfl, rfl, rfl, rfl, rfl, rfl, rfl, trivial⟩ ?_
        refine AWP.ret ?_
        refine athen_ret ?_
        refine ⟨_, M, ⟨_, _, _, rfl, .inr ⟨ty_agg_25, [_, _, _, _, _], ty_size_25, rds_, rfl⟩, ⟨_, _, rfl, rfl, rfl⟩, rfl⟩, less_, ?_⟩
        exact ⟨_, rfl, hSM, hdk⟩
      · rw [if_neg (fun h => h.elim (fun h => h q1) q2)]
        by_cases q3 : has d.ext s = true
        · rw [if_pos q3]
          have hf : fnd d.ext s = (pos d.ext s : Nat) := by unfold fnd; rw [if_pos q3]
          refine ACall.enter (args := [.agg #[.int .i64 d.size, .slice pe d.ext.length ce, .slice pw d.waits.length cw, .int .i64 d.fuse, .bool d.down], .string s, .int .i64 n]) (rs := [.cell 6 25, .tmp 7]) 61 [(0, .agg #[.int .i64 d.size, .slice pe d.ext.length ce, .slice pw d.waits.length cw, .int .i64 d.fuse, .bool d.down]), (1, .string s), (2, .int .i64 n)] Try.func14 rfl rfl (Nat.le_of_ble_eq_true rfl) rfl ⟨rfl, rfl, rfl, trivial⟩ ?_
          refine AWP.seq ?_
          refine AWP.region ?_
          refine ARun.boxA (cs := [_, _, _, _, _]) (lit_lt rfl) rfl ?_
          intro b3 f3
          have g3 := f3
          repeat ((with_reducible replace g3 := fresh_set g3); obtain ⟨g3, _⟩ := g3)
          (try simp only [List.length_cons, List.length_nil, Nat.zero_add, Nat.reduceAdd])
          refine ARun.alloc (lit_lt rfl) ty_zero_25 ?_
          intro b6 f6
          have g6 := f6
          repeat ((with_reducible replace g6 := fresh_set g6); obtain ⟨g6, _⟩ := g6)
          (try simp only [List.length_cons, List.length_nil, Nat.zero_add, Nat.reduceAdd])
          refine rC (Calm.assign rfl) ?_
          refine arun_nil ?_
          refine athen_n ?_
          refine AWP.seq ?_
          refine AWP.region ?_
          refine rC (ldA_ (cs := [_, _, _, _, _]) ty_agg_25 ty_size_25 rfl) ?_
          refine ARun.call (lit_lt rfl) go_47 rfl (hpow _ (hd.less less_)) ?_
          rintro _ S1 ⟨rfl, h1⟩
          rw [h1]; clear h1 S1
          refine rC (Calm.assign rfl) ?_
          refine arun_nil ?_
          refine athen_n ?_
          refine AWP.sub [(0, _), (1, _), (2, _), (3, _), (6, _), (7, _), (8, _)] ⟨rfl, rfl, rfl, rfl, rfl, rfl, rfl, trivial⟩ ?_
          refine AWP.seq ?_
          refine AWP.seq ?_
          refine AWP.region ?_
          refine rC (Calm.move rfl) ?_
          refine rC (Calm.bin rfl rfl b_neq) ?_
          refine arun_nil ?_
          refine athen_n ?_
          refine AWP.sub [(0, _), (1, _), (2, _), (3, _), (6, _), (7, _), (8, _), (12, _)] ⟨rfl, rfl, rfl, rfl, rfl, rfl, rfl, rfl, trivial⟩ ?_
          refine AWP.condF rfl (by first | rfl | (simp; done) | (simp; omega)) ?_
          refine AWP.skip ?_
          refine athen_n ?_
          refine AWP.seq ?_
          refine AWP.seq ?_
          refine AWP.region ?_
          refine rC (Calm.move rfl) ?_
          refine ARun.call (lit_lt rfl) go_49 rfl (rd_Named _ _) ?_
          rintro _ S1 ⟨rfl, h1⟩
          rw [h1, decide_eq_true q1]; clear h1 S1
          refine rC (Calm.un rfl (una_not _)) ?_
          refine rC (Calm.move rfl) ?_
          first | refine rS 21 ?_ | refine rU 21 ?_ | refine rG 21 (Calm.move rfl) ?_
          first | refine rS 21 ?_ | refine rU 21 ?_ | refine rG 21 (Calm.bin rfl rfl b_lss) ?_
          refine rC ((by first | exact Calm.pickT rfl rfl | exact Calm.pickF rfl rfl)) ?_
          refine arun_nil ?_
          refine athen_n ?_
          refine AWP.sub [(0, _), (1, _), (2, _), (3, _), (6, _), (7, _), (8, _), (12, _), (24, _)] ⟨rfl, rfl, rfl, rfl, rfl, rfl, rfl, rfl, rfl, trivial⟩ ?_
          refine AWP.condF rfl (by first | rfl | (simp; done) | (simp; omega)) ?_
          refine AWP.skip ?_
          refine athen_n ?_
          refine AWP.seq ?_
          refine AWP.seq ?_
          refine AWP.region ?_
          refine rC (Calm.fieldAddr ty_field_25_1 rfl) ?_
          refine rC (ld_ ty_plain_22 rfl) ?_
          refine rC (Calm.move rfl) ?_
          refine ARun.call (lit_lt rfl) go_50 rfl (rd_Find _ d.ext s _ (hE.less less_) hR.ex.asc) ?_
          rintro _ S1 ⟨rfl, h1⟩
          rw [h1, hf]; clear h1 S1
          refine rC (Calm.bin rfl rfl b_geq) ?_
          refine arun_nil ?_
          refine athen_n ?_
          refine AWP.sub [(0, _), (1, _), (2, _), (3, _), (6, _), (7, _), (8, _), (12, _), (24, _), (33, _)] ⟨rfl, rfl, rfl, rfl, rfl, rfl, rfl, rfl, rfl, rfl, trivial⟩ ?_
          refine AWP.condT rfl (by first | rfl | (simp; done) | (simp; omega)) ?_
          refine AWP.seq ?_
          refine AWP.region ?_
          refine rC (ldA_ (cs := [_, _, _, _, _]) ty_agg_25 ty_size_25 rfl) ?_
          refine ARun.call (lit_lt rfl) go_48 rfl (((hasw 4).frame f3).frame f6) ?_
          rintro _ S1 ⟨Sa, ⟨M, ⟨v', rfl, hSM, hdk⟩, fa, hSa⟩, fb, h1⟩
          rw [h1, hSa]; rw [hSa] at fb; clear h1 S1 hSa Sa
          obtain ⟨fbm, nba⟩ := fresh_set fb
          obtain ⟨qe, de, qw, dw, rfl, hE2, hW2⟩ := id hdk
          refine rC (Calm.extract rfl rfl) ?_
          refine rC (Calm.extract rfl rfl) ?_
          first | refine ARun.storeAll rfl rfl ty_size_25 own_ rfl rfl ?_ | refine ARun.store rfl rfl ty_size_25 own_ lens_ rfl ?_
          (try simp only [Mem.set_set, List.set_cons_zero, List.set_cons_succ, Nat.zero_add, Nat.reduceAdd])
          refine rC (Calm.assign rfl) ?_
          refine arun_nil ?_
          refine athen_n ?_
          refine AWP.sub [(0, _), (1, _), (2, _), (3, _), (6, _), (7, _), (8, _), (12, _), (24, _), (33, _)] ⟨rfl, rfl, rfl, rfl, rfl, rfl, rfl, rfl, rfl, rfl, trivial⟩ ?_
          refine AWP.ret ?_
          refine athen_ret ?_
          refine ⟨_, M, ⟨_, _, _, rfl, .inr ⟨ty_agg_25, [_, _, _, _, _], ty_size_25, rds_, rfl⟩, ⟨_, _, rfl, rfl, rfl⟩, rfl⟩, less_, ?_⟩
          exact ⟨_, rfl, hSM, hdk⟩
        · rw [if_neg q3]
          have hf : fnd d.ext s = -1 := by unfold fnd; rw [if_neg q3]
          by_cases q4 : d.size - used d.ext < n
          · rw [if_pos q4]
            refine ACall.enter (args := [.agg #[.int .i64 d.size, .slice pe d.ext.length ce, .slice pw d.waits.length cw, .int .i64 d.fuse, .bool d.down], .string s, .int .i64 n]) (rs := [.cell 6 25, .tmp 7]) 61 [(0, .agg #[.int .i64 d.size, .slice pe d.ext.length ce, .slice pw d.waits.length cw, .int .i64 d.fuse, .bool d.down]), (1, .string s), (2, .int .i64 n)] Try.func14 rfl rfl (Nat.le_of_ble_eq_true rfl) rfl ⟨rfl, rfl, rfl, trivial⟩ ?_
            refine AWP.seq ?_
            refine AWP.region ?_
            refine ARun.boxA (cs := [_, _, _, _, _]) (lit_lt rfl) rfl ?_
            intro b3 f3
            have g3 := f3
            repeat ((with_reducible replace g3 := fresh_set g3); obtain ⟨g3, _⟩ := g3)
            (try simp only [List.length_cons, List.length_nil, Nat.zero_add, Nat.reduceAdd])
            refine ARun.alloc (lit_lt rfl) ty_zero_25 ?_
            intro b6 f6
            have g6 := f6
            repeat ((with_reducible replace g6 := fresh_set g6); obtain ⟨g6, _⟩ := g6)
            (try simp only [List.length_cons, List.length_nil, Nat.zero_add, Nat.reduceAdd])
            refine rC (Calm.assign rfl) ?_
            refine arun_nil ?_
            refine athen_n ?_
            refine AWP.seq ?_
            refine AWP.region ?_
            refine rC (ldA_ (cs := [_, _, _, _, _]) ty_agg_25 ty_size_25 rfl) ?_
            refine ARun.call (lit_lt rfl) go_47 rfl (hpow _ (hd.less less_)) ?_
            rintro _ S1 ⟨rfl, h1⟩
            rw [h1]; clear h1 S1
            refine rC (Calm.assign rfl) ?_
            refine arun_nil ?_
            refine athen_n ?_
            refine AWP.sub [(0, _), (1, _), (2, _), (3, _), (6, _), (7, _), (8, _)] ⟨rfl, rfl, rfl, rfl, rfl, rfl, rfl, trivial⟩ ?_
            refine AWP.seq ?_
            refine AWP.seq ?_
            refine AWP.region ?_
            refine rC (Calm.move rfl) ?_
            refine rC (Calm.bin rfl rfl b_neq) ?_
            refine arun_nil ?_
            refine athen_n ?_
            refine AWP.sub [(0, _), (1, _), (2, _), (3, _), (6, _), (7, _), (8, _), (12, _)] ⟨rfl, rfl, rfl, rfl, rfl, rfl, rfl, rfl, trivial⟩ ?_
            refine AWP.condF rfl (by first | rfl | (simp; done) | (simp; omega)) ?_
            refine AWP.skip ?_
            refine athen_n ?_
            refine AWP.seq ?_
            refine AWP.seq ?_
            refine AWP.region ?_
            refine rC (Calm.move rfl) ?_
            refine ARun.call (lit_lt rfl) go_49 rfl (rd_Named _ _) ?_
            rintro _ S1 ⟨rfl, h1⟩
            rw [h1, decide_eq_true q1]; clear h1 S1
            refine rC (Calm.un rfl (una_not _)) ?_
            refine rC (Calm.move rfl) ?_
            first | refine rS 21 ?_ | refine rU 21 ?_ | refine rG 21 (Calm.move rfl) ?_
            first | refine rS 21 ?_ | refine rU 21 ?_ | refine rG 21 (Calm.bin rfl rfl b_lss) ?_
            refine rC ((by first | exact Calm.pickT rfl rfl | exact Calm.pickF rfl rfl)) ?_
            refine arun_nil ?_
            refine athen_n ?_
            refine AWP.sub [(0, _), (1, _), (2, _), (3, _), (6, _), (7, _), (8, _), (12, _), (24, _)] ⟨rfl, rfl, rfl, rfl, rfl, rfl, rfl, rfl, rfl, trivial⟩ ?_
            refine AWP.condF rfl (by first | rfl | (simp; done) | (simp; omega)) ?_
            refine AWP.skip ?_
            refine athen_n ?_
            refine AWP.seq ?_
            refine AWP.seq ?_
            refine AWP.region ?_
            refine rC (Calm.fieldAddr ty_field_25_1 rfl) ?_
            refine rC (ld_ ty_plain_22 rfl) ?_
            refine rC (Calm.move rfl) ?_
            refine ARun.call (lit_lt rfl) go_50 rfl (rd_Find _ d.ext s _ (hE.less less_) hR.ex.asc) ?_
            rintro _ S1 ⟨rfl, h1⟩
            rw [h1, hf]; clear h1 S1
            refine rC (Calm.bin rfl rfl b_geq) ?_
            refine arun_nil ?_
            refine athen_n ?_
            refine AWP.sub [(0, _), (1, _), (2, _), (3, _), (6, _), (7, _), (8, _), (12, _), (24, _), (33, _)] ⟨rfl, rfl, rfl, rfl, rfl, rfl, rfl, rfl, rfl, rfl, trivial⟩ ?_
            refine AWP.condF rfl (by first | rfl | (simp; done) | (simp; omega)) ?_
            refine AWP.skip ?_
            refine athen_n ?_
            refine AWP.seq ?_
            refine AWP.seq ?_
            refine AWP.draw [(0, true), (1, true), (2, true), (3, true), (4, true), (5, false), (6, true), (7, true)] [] mixed (by kernel_rfl) ?_
            refine dP (hc := fun _ => Calm.move rfl) (h := ?_)
            refine dP (hc := fun _ => Calm.fieldAddr ty_field_25_0 rfl) (h := ?_)
            refine dC (hc := ld_ ty_plain_3 rfl) (h := ?_)
            refine dP (hc := fun _ => Calm.fieldAddr ty_field_25_1 rfl) (h := ?_)
            refine dC (hc := ld_ ty_plain_22 rfl) (h := ?_)
            refine draw_only rfl ?_
            refine ARun.call (lit_lt rfl) go_51 rfl (rd_used _ d.ext _ (hE.less less_) (by omega) (fun x hx => by have := (hz.ez x hx).2; omega)) ?_
            rintro _ S1 ⟨rfl, h1⟩
            rw [h1]; clear h1 S1
            refine arun_nil ⟨fun _ => less_, ?_⟩
            refine dP (hc := fun _ => Calm.bin rfl rfl b_sub_i64) (h := ?_)
            refine dP (hc := fun _ => Calm.bin rfl rfl b_gtr) (h := ?_)
            refine draw_nil ?_
            refine athen_n ?_
            refine AWP.sub [(0, _), (1, _), (2, _), (3, _), (6, _), (7, _), (8, _), (12, _), (24, _), (33, _), (45, _)] ⟨rfl, rfl, rfl, rfl, rfl, rfl, rfl, rfl, rfl, rfl, rfl, trivial⟩ ?_
            refine AWP.condT rfl (by first | rfl | (simp; done) | (simp; omega)) ?_
            refine AWP.seq ?_
            refine AWP.region ?_
            refine rC (ldA_ (cs := [_, _, _, _, _]) ty_agg_25 ty_size_25 rfl) ?_
            refine ARun.call (lit_lt rfl) go_48 rfl (((hasw 8).frame f3).frame f6) ?_
            rintro _ S1 ⟨Sa, ⟨M, ⟨v', rfl, hSM, hdk⟩, fa, hSa⟩, fb, h1⟩
            rw [h1, hSa]; rw [hSa] at fb; clear h1 S1 hSa Sa
            obtain ⟨fbm, nba⟩ := fresh_set fb
            obtain ⟨qe, de, qw, dw, rfl, hE2, hW2⟩ := id hdk
            refine rC (Calm.extract rfl rfl) ?_
            refine rC (Calm.extract rfl rfl) ?_
            first | refine ARun.storeAll rfl rfl ty_size_25 own_ rfl rfl ?_ | refine ARun.store rfl rfl ty_size_25 own_ lens_ rfl ?_
            (try simp only [Mem.set_set, List.set_cons_zero, List.set_cons_succ, Nat.zero_add, Nat.reduceAdd])
            refine rC (Calm.assign rfl) ?_
            refine arun_nil ?_
            refine athen_n ?_
            refine AWP.sub [(0, _), (1, _), (2, _), (3, _), (6, _), (7, _), (8, _), (12, _), (24, _), (33, _), (45, _)] ⟨rfl, rfl, rfl, rfl, rfl, rfl, rfl, rfl, rfl, rfl, rfl, trivial⟩ ?_
            refine AWP.ret ?_
            refine athen_ret ?_
            refine ⟨_, M, ⟨_, _, _, rfl, .inr ⟨ty_agg_25, [_, _, _, _, _], ty_size_25, rds_, rfl⟩, ⟨_, _, rfl, rfl, rfl⟩, rfl⟩, less_, ?_⟩
            exact ⟨_, rfl, hSM, hdk⟩
          · rw [if_neg q4]
            obtain ⟨m, rfl⟩ : ∃ m : Nat, n = m := ⟨n.toNat, by omega⟩
            rw [Int.toNat_natCast]
            refine ACall.enter (args := [.agg #[.int .i64 d.size, .slice pe d.ext.length ce, .slice pw d.waits.length cw, .int .i64 d.fuse, .bool d.down], .string s, .int .i64 (m : Int)]) (rs := [.cell 6 25, .tmp 7]) 61 [(0, .agg #[.int .i64 d.size, .slice pe d.ext.length ce, .slice pw d.waits.length cw, .int .i64 d.fuse, .bool d.down]), (1, .string s), (2, .int .i64 (m : Int))] Try.func14 rfl rfl (Nat.le_of_ble_eq_true rfl) rfl ⟨rfl, rfl, rfl, trivial⟩ ?_
            refine AWP.seq ?_
            refine AWP.region ?_
            refine ARun.boxA (cs := [_, _, _, _, _]) (lit_lt rfl) rfl ?_
            intro b3 f3
            have g3 := f3
            repeat ((with_reducible replace g3 := fresh_set g3); obtain ⟨g3, _⟩ := g3)
            (try simp only [List.length_cons, List.length_nil, Nat.zero_add, Nat.reduceAdd])
            refine ARun.alloc (lit_lt rfl) ty_zero_25 ?_
            intro b6 f6
            have g6 := f6
            repeat ((with_reducible replace g6 := fresh_set g6); obtain ⟨g6, _⟩ := g6)
            (try simp only [List.length_cons, List.length_nil, Nat.zero_add, Nat.reduceAdd])
            refine rC (Calm.assign rfl) ?_
            refine arun_nil ?_
            refine athen_n ?_
            refine AWP.seq ?_
            refine AWP.region ?_
            refine rC (ldA_ (cs := [_, _, _, _, _]) ty_agg_25 ty_size_25 rfl) ?_
            refine ARun.call (lit_lt rfl) go_47 rfl (hpow _ (hd.less less_)) ?_
            rintro _ S1 ⟨rfl, h1⟩
            rw [h1]; clear h1 S1
            refine rC (Calm.assign rfl) ?_
            refine arun_nil ?_
            refine athen_n ?_
            refine AWP.sub [(0, _), (1, _), (2, _), (3, _), (6, _), (7, _), (8, _)] ⟨rfl, rfl, rfl, rfl, rfl, rfl, rfl, trivial⟩ ?_
            refine AWP.seq ?_
            refine AWP.seq ?_
            refine AWP.region ?_
            refine rC (Calm.move rfl) ?_
            refine rC (Calm.bin rfl rfl b_neq) ?_
            refine arun_nil ?_
            refine athen_n ?_
            refine AWP.sub [(0, _), (1, _), (2, _), (3, _), (6, _), (7, _), (8, _), (12, _)] ⟨rfl, rfl, rfl, rfl, rfl, rfl, rfl, rfl, trivial⟩ ?_
            refine AWP.condF rfl (by first | rfl | (simp; done) | (simp; omega)) ?_
            refine AWP.skip ?_
            refine athen_n ?_
            refine AWP.seq ?_
            refine AWP.seq ?_
            refine AWP.region ?_
            refine rC (Calm.move rfl) ?_
            refine ARun.call (lit_lt rfl) go_49 rfl (rd_Named _ _) ?_
            rintro _ S1 ⟨rfl, h1⟩
            rw [h1, decide_eq_true q1]; clear h1 S1
            refine rC (Calm.un rfl (una_not _)) ?_
            refine rC (Calm.move rfl) ?_
            first | refine rS 21 ?_ | refine rU 21 ?_ | refine rG 21 (Calm.move rfl) ?_
            first | refine rS 21 ?_ | refine rU 21 ?_ | refine rG 21 (Calm.bin rfl rfl b_lss) ?_
            refine rC ((by first | exact Calm.pickT rfl rfl | exact Calm.pickF rfl rfl)) ?_
            refine arun_nil ?_
            refine athen_n ?_
            refine AWP.sub [(0, _), (1, _), (2, _), (3, _), (6, _), (7, _), (8, _), (12, _), (24, _)] ⟨rfl, rfl, rfl, rfl, rfl, rfl, rfl, rfl, rfl, trivial⟩ ?_
            refine AWP.condF rfl (by first | rfl | (simp; done) | (simp; omega)) ?_
            refine AWP.skip ?_
            refine athen_n ?_
            refine AWP.seq ?_
            refine AWP.seq ?_
            refine AWP.region ?_
            refine rC (Calm.fieldAddr ty_field_25_1 rfl) ?_
            refine rC (ld_ ty_plain_22 rfl) ?_
            refine rC (Calm.move rfl) ?_
            refine ARun.call (lit_lt rfl) go_50 rfl (rd_Find _ d.ext s _ (hE.less less_) hR.ex.asc) ?_
            rintro _ S1 ⟨rfl, h1⟩
            rw [h1, hf]; clear h1 S1
            refine rC (Calm.bin rfl rfl b_geq) ?_
            refine arun_nil ?_
            refine athen_n ?_
            refine AWP.sub [(0, _), (1, _), (2, _), (3, _), (6, _), (7, _), (8, _), (12, _), (24, _), (33, _)] ⟨rfl, rfl, rfl, rfl, rfl, rfl, rfl, rfl, rfl, rfl, trivial⟩ ?_
            refine AWP.condF rfl (by first | rfl | (simp; done) | (simp; omega)) ?_
            refine AWP.skip ?_
            refine athen_n ?_
            refine AWP.seq ?_
            refine AWP.seq ?_
            refine AWP.draw [(0, true), (1, true), (2, true), (3, true), (4, true), (5, false), (6, true), (7, true)] [] mixed (by kernel_rfl) ?_
            refine dP (hc := fun _ => Calm.move rfl) (h := ?_)
            refine dP (hc := fun _ => Calm.fieldAddr ty_field_25_0 rfl) (h := ?_)
            refine dC (hc := ld_ ty_plain_3 rfl) (h := ?_)
            refine dP (hc := fun _ => Calm.fieldAddr ty_field_25_1 rfl) (h := ?_)
            refine dC (hc := ld_ ty_plain_22 rfl) (h := ?_)
            refine draw_only rfl ?_
            refine ARun.call (lit_lt rfl) go_51 rfl (rd_used _ d.ext _ (hE.less less_) (by omega) (fun x hx => by have := (hz.ez x hx).2; omega)) ?_
            rintro _ S1 ⟨rfl, h1⟩
            rw [h1]; clear h1 S1
            refine arun_nil ⟨fun _ => less_, ?_⟩
            refine dP (hc := fun _ => Calm.bin rfl rfl b_sub_i64) (h := ?_)
            refine dP (hc := fun _ => Calm.bin rfl rfl b_gtr) (h := ?_)
            refine draw_nil ?_
            refine athen_n ?_
            refine AWP.sub [(0, _), (1, _), (2, _), (3, _), (6, _), (7, _), (8, _), (12, _), (24, _), (33, _), (45, _)] ⟨rfl, rfl, rfl, rfl, rfl, rfl, rfl, rfl, rfl, rfl, rfl, trivial⟩ ?_
            refine AWP.condF rfl (by first | rfl | (simp; done) | (simp; omega)) ?_
            refine AWP.skip ?_
            refine athen_n ?_
            refine AWP.seq ?_
            refine AWP.region ?_
            refine rC (ldA_ (cs := [_, _, _, _, _]) ty_agg_25 ty_size_25 rfl) ?_
            refine ARun.call (lit_lt rfl) go_12 rfl (((hcopy).frame f3).frame f6) ?_
            rintro _ S1 ⟨Sa, ⟨M, ⟨hSM, hdk⟩, fa, hSa⟩, fb, h1⟩
            rw [h1, hSa]; rw [hSa] at fb; clear h1 S1 hSa Sa
            obtain ⟨fbm, nba⟩ := fresh_set fb
            obtain ⟨qe, de, qw, dw, rfl, hE2, hW2⟩ := id hdk
            first | refine ARun.storeAll rfl rfl ty_size_25 own_ rfl rfl ?_ | refine ARun.store rfl rfl ty_size_25 own_ lens_ rfl ?_
            (try simp only [Mem.set_set, List.set_cons_zero, List.set_cons_succ, Nat.zero_add, Nat.reduceAdd])
            refine arun_nil ?_
            refine athen_n ?_
            refine AWP.sub [(0, _), (1, _), (2, _), (3, _), (6, _), (7, _), (8, _), (12, _), (24, _), (33, _), (45, _)] ⟨rfl, rfl, rfl, rfl, rfl, rfl, rfl, rfl, rfl, rfl, rfl, trivial⟩ ?_
            rw [set_back M nba]
            have f6' := fun r => fresh_more (r := r) fbm nba
            refine AWP.seq ?_
            refine AWP.draw [(0, true), (1, true), (2, true), (3, true), (4, false), (5, true), (6, false), (7, true), (8, false)] [8] mixed (by kernel_rfl) ?_
            refine dP (hc := fun _ => Calm.fieldAddr ty_field_25_1 rfl) (h := ?_)
            refine dC (hc := ld_ ty_plain_22 rfl) (h := ?_)
            refine dP (hc := fun _ => Calm.move rfl) (h := ?_)
            refine dP (hc := fun _ => Calm.move rfl) (h := ?_)
            refine draw_only rfl ?_
            refine ARun.call (lit_lt rfl) go_53 rfl (rd_Zeros m _ (by omega)) ?_
            rintro _ S1 ⟨rfl, h1⟩
            rw [h1]; clear h1 S1
            refine arun_nil ⟨fun _ => less_, ?_⟩
            refine dP (hc := fun _ => Calm.build (cs := [_, _]) ty_bld_54 rfl rfl) (h := ?_)
            refine draw_only rfl ?_
            refine ARun.call (lit_lt rfl) go_52 rfl (((rd_with _ d.ext (s, zeros m) M hE2 (by omega)).frame fa).frame (f6' _)) ?_
            rintro _ S1 ⟨Sa, ⟨M2, ⟨o2, ho2, rfl, hM2⟩, fa2, hSa⟩, fb2, h1⟩
            rw [h1, hSa]; rw [hSa] at fb2; clear h1 S1 hSa Sa
            obtain ⟨fb2m, _⟩ := fresh_set fb2
            have hln := ins_len (pos_le d.ext s) (s, zeros m)
            have hMM2 : M.Less M2 := by rw [hM2]; exact outN_over ho2
            have hsl : Sl 2 extF M2 (outV o2 (insAt d.ext (pos d.ext s) (s, zeros m)).length) (insAt d.ext (pos d.ext s) (s, zeros m)) := by rw [hM2]; exact sl_outN ext_len (e := extT) ho2 rfl (by omega)
            obtain ⟨q2, d2, hq2⟩ := outV_eq ho2
            rw [hq2] at hsl ⊢
            refine arun_nil ⟨fun _ => less_, ?_⟩
            refine dP (hc := fun _ => Calm.fieldAddr ty_field_25_1 rfl) (h := ?_)
            refine draw_only rfl ?_
            refine ARun.store1 rfl rfl ty_size_22 rfl own_ lens_ rfl ?_
            (try simp only [Mem.set_set, List.set_cons_zero, List.set_cons_succ, Nat.zero_add, Nat.reduceAdd])
            refine arun_nil ⟨fun h => absurd h (by decide), ?_⟩
            refine draw_nil ?_
            refine athen_n ?_
            refine AWP.sub [(0, _), (1, _), (2, _), (3, _), (6, _), (7, _), (8, _), (12, _), (24, _), (33, _), (45, _)] ⟨rfl, rfl, rfl, rfl, rfl, rfl, rfl, rfl, rfl, rfl, rfl, trivial⟩ ?_
            refine AWP.seq ?_
            refine AWP.region ?_
            refine rC (ldA_ (cs := [_, _, _, _, _]) ty_agg_25 ty_size_25 rfl) ?_
            first | refine ARun.storeAll rfl rfl ty_size_25 own_ rfl rfl ?_ | refine ARun.store rfl rfl ty_size_25 own_ lens_ rfl ?_
            (try simp only [Mem.set_set, List.set_cons_zero, List.set_cons_succ, Nat.zero_add, Nat.reduceAdd])
            refine rC (Calm.assign rfl) ?_
            refine arun_nil ?_
            refine athen_n ?_
            refine AWP.sub [(0, _), (1, _), (2, _), (3, _), (6, _), (7, _), (8, _), (12, _), (24, _), (33, _), (45, _)] ⟨rfl, rfl, rfl, rfl, rfl, rfl, rfl, rfl, rfl, rfl, rfl, trivial⟩ ?_
            refine AWP.ret ?_
            refine ⟨_, M2, ⟨_, _, _, rfl, .inr ⟨ty_agg_25, [_, _, _, _, _], ty_size_25, rds_, rfl⟩, ⟨_, _, rfl, rfl, rfl⟩, rfl⟩, less_, ?_⟩
            exact ⟨_, rfl, hSM.trans hMM2, _, _, _, _, rfl, hsl, hW2.less hMM2⟩
    · rw [if_pos (.inl q1)]
      refine ACall.enter (args := [.agg #[.int .i64 d.size, .slice pe d.ext.length ce, .slice pw d.waits.length cw, .int .i64 d.fuse, .bool d.down], .string s, .int .i64 n]) (rs := [.cell 6 25, .tmp 7]) 61 [(0, .agg #[.int .i64 d.size, .slice pe d.ext.length ce, .slice pw d.waits.length cw, .int .i64 d.fuse, .bool d.down]), (1, .string s), (2, .int .i64 n)] Try.func14 rfl rfl (Nat.le_of_ble_eq_true rfl) rfl ⟨rfl, rfl, rfl, trivial⟩ ?_
      refine AWP.seq ?_
      refine AWP.region ?_
      refine ARun.boxA (cs := [_, _, _, _, _]) (lit_lt rfl) rfl ?_
      intro b3 f3
      have g3 := f3
      repeat ((with_reducible replace g3 := fresh_set g3); obtain ⟨g3, _⟩ := g3)
      (try simp only [List.length_cons, List.length_nil, Nat.zero_add, Nat.reduceAdd])
      refine ARun.alloc (lit_lt rfl) ty_zero_25 ?_
      intro b6 f6
      have g6 := f6
      repeat ((with_reducible replace g6 := fresh_set g6); obtain ⟨g6, _⟩ := g6)
      (try simp only [List.length_cons, List.length_nil, Nat.zero_add, Nat.reduceAdd])
      refine rC (Calm.assign rfl) ?_
      refine arun_nil ?_
      refine athen_n ?_
      refine AWP.seq ?_
      refine AWP.region ?_
      refine rC (ldA_ (cs := [_, _, _, _, _]) ty_agg_25 ty_size_25 rfl) ?_
      refine ARun.call (lit_lt rfl) go_47 rfl (hpow _ (hd.less less_)) ?_
      rintro _ S1 ⟨rfl, h1⟩
      rw [h1]; clear h1 S1
      refine rC (Calm.assign rfl) ?_
      refine arun_nil ?_
      refine athen_n ?_
      refine AWP.sub [(0, _), (1, _), (2, _), (3, _), (6, _), (7, _), (8, _)] ⟨rfl, rfl, rfl, rfl, rfl, rfl, rfl, trivial⟩ ?_
      refine AWP.seq ?_
      refine AWP.seq ?_
      refine AWP.region ?_
      refine rC (Calm.move rfl) ?_
      refine rC (Calm.bin rfl rfl b_neq) ?_
      refine arun_nil ?_
      refine athen_n ?_
      refine AWP.sub [(0, _), (1, _), (2, _), (3, _), (6, _), (7, _), (8, _), (12, _)] ⟨rfl, rfl, rfl, rfl, rfl, rfl, rfl, rfl, trivial⟩ ?_
      refine AWP.condF rfl (by first | rfl | (simp; done) | (simp; omega)) ?_
      refine AWP.skip ?_
      refine athen_n ?_
      refine AWP.seq ?_
      refine AWP.seq ?_
      refine AWP.region ?_
      refine rC (Calm.move rfl) ?_
      refine ARun.call (lit_lt rfl) go_49 rfl (rd_Named _ _) ?_
      rintro _ S1 ⟨rfl, h1⟩
      rw [h1, decide_eq_false q1]; clear h1 S1
      refine rC (Calm.un rfl (una_not _)) ?_
      refine rC (Calm.move rfl) ?_
      first | refine rS 21 ?_ | refine rU 21 ?_ | refine rG 21 (Calm.move rfl) ?_
      first | refine rS 21 ?_ | refine rU 21 ?_ | refine rG 21 (Calm.bin rfl rfl b_lss) ?_
      refine rC ((by first | exact Calm.pickT rfl rfl | exact Calm.pickF rfl rfl)) ?_
      refine arun_nil ?_
      refine athen_n ?_
      refine AWP.sub [(0, _), (1, _), (2, _), (3, _), (6, _), (7, _), (8, _), (12, _), (24, _)] ⟨rfl, rfl, rfl, rfl, rfl, rfl, rfl, rfl, rfl, trivial⟩ ?_
      refine AWP.condT rfl (by first | rfl | (simp; done) | (simp; omega)) ?_
      refine AWP.seq ?_
      refine AWP.region ?_
      refine rC (ldA_ (cs := [_, _, _, _, _]) ty_agg_25 ty_size_25 rfl) ?_
      refine ARun.call (lit_lt rfl) go_48 rfl (((hasw 1).frame f3).frame f6) ?_
      rintro _ S1 ⟨Sa, ⟨M, ⟨v', rfl, hSM, hdk⟩, fa, hSa⟩, fb, h1⟩
      rw [h1, hSa]; rw [hSa] at fb; clear h1 S1 hSa Sa
      obtain ⟨fbm, nba⟩ := fresh_set fb
      obtain ⟨qe, de, qw, dw, rfl, hE2, hW2⟩ := id hdk
      refine rC (Calm.extract rfl rfl) ?_
      refine rC (Calm.extract rfl rfl) ?_
      first | refine ARun.storeAll rfl rfl ty_size_25 own_ rfl rfl ?_ | refine ARun.store rfl rfl ty_size_25 own_ lens_ rfl ?_
      (try simp only [Mem.set_set, List.set_cons_zero, List.set_cons_succ, Nat.zero_add, Nat.reduceAdd])
      refine rC (Calm.assign rfl) ?_
      refine arun_nil ?_
      refine athen_n ?_
      refine AWP.sub [(0, _), (1, _), (2, _), (3, _), (6, _), (7, _), (8, _), (12, _), (24, _)] ⟨rfl, rfl, rfl, rfl, rfl, rfl, rfl, rfl, rfl, trivial⟩ ?_
      refine AWP.ret ?_
      refine athen_ret ?_
      refine ⟨_, M, ⟨_, _, _, rfl, .inr ⟨ty_agg_25, [_, _, _, _, _], ty_size_25, rds_, rfl⟩, ⟨_, _, rfl, rfl, rfl⟩, rfl⟩, less_, ?_⟩
      exact ⟨_, rfl, hSM, hdk⟩
end Go.Proofs.Ytkeiphkccnfhoaa
