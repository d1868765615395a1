/-
  Disk: Move, Write of a disk.
-/
import Derived.Test.YtkeiphkccnfhoaaDisk16
namespace Go.Proofs.Ytkeiphkccnfhoaa
open Go.RowKit
open Mv Disk
set_option linter.unusedVariables false
set_option linter.unusedSimpArgs false
set_option maxRecDepth 4000
theorem putE_lens {d : D} (s data : ByteArray) (h1 : d.ext.length ≤ 16384) (h2 : d.waits.length ≤ 16384) : (putE d s data).ext.length ≤ 16385 ∧ (putE d s data).waits.length ≤ 16384 := by
  unfold putE
  split
  · exact ⟨by show (d.ext.set _ _).length ≤ _; rw [List.length_set]; omega, Nat.le_trans (filt_le _ _) h2⟩
  · exact ⟨by show (insAt _ _ _).length ≤ _; rw [ins_len (pos_le _ _)]; omega, h2⟩
theorem moveD_lens {d : D} (hR : Right d) (fr tn : ByteArray) : (moveD d fr tn).1.ext.length ≤ 9223372036854775807 ∧ (moveD d fr tn).1.waits.length ≤ 9223372036854775807 := by
  have h := right_lens hR
  have hp := putE_lens (d := eraseD d fr) tn (exOf d.ext fr).2 (Nat.le_trans (List.length_eraseIdx_le _ _) (right_len hR).1) hR.wl
  unfold moveD
  repeat' split
  · exact h
  · exact h
  · refine ⟨Nat.le_trans hp.1 (by decide), ?_⟩
    show (List.map _ _).length ≤ _
    rw [List.length_map]; exact Nat.le_trans hp.2 (by decide)
  · exact h
theorem writeD_lens {d : D} (hR : Right d) (s : ByteArray) (i : Int) (data : ByteArray) : (writeD d s i data).1.ext.length ≤ 9223372036854775807 ∧ (writeD d s i data).1.waits.length ≤ 9223372036854775807 := by
  have h := right_lens hR
  have h2 := hR.wl
  have h3 := add_len d (s, i, data)
  unfold writeD fuseD
  repeat' split
  · exact h
  · exact h
  · exact h
  all_goals exact ⟨h.1, by simp only; omega⟩
set_option maxHeartbeats 1000000 in
theorem disk_Move (v : Value) (d : D) (fr tn : ByteArray) (S : Mem) (hd : DkR S v d) (hz : Dz d) :
    ACall Try.prog 17 #[v, .string fr, .string tn] S (DkRes (opened d (moveD d fr tn)) S) := by
  have hopen := disk_Open v d S hd hz
  obtain ⟨pe, ce, pw, cw, rfl, hE, hW⟩ := id hd
  unfold opened
  rcases openD_or d with ⟨ho, hR⟩ | ⟨ho, hR, hdn⟩ | ⟨ho, hR, hdn⟩ <;> rw [ho] at hopen ⊢
  · rw [if_neg (show ¬ (2 : Int) = 0 from by decide)]
    refine ACall.enter (args := [.agg #[.int .i64 d.size, .slice pe d.ext.length ce, .slice pw d.waits.length cw, .int .i64 d.fuse, .bool d.down], .string fr, .string tn]) (rs := [.cell 6 25, .tmp 7]) 26 [(0, .agg #[.int .i64 d.size, .slice pe d.ext.length ce, .slice pw d.waits.length cw, .int .i64 d.fuse, .bool d.down]), (1, .string fr), (2, .string tn)] Try.func17 rfl rfl (Nat.le_of_ble_eq_true rfl) rfl ⟨rfl, rfl, rfl, trivial⟩ ?_
    refine AWP.seq ?_
    refine AWP.region ?_
    refine ARun.boxA (cs := [_, _, _, _, _]) (lit_lt rfl) rfl ?_
    intro b3 f3
    have g3 := f3
    repeat ((with_reducible replace g3 := fresh_set g3); obtain ⟨g3, _⟩ := g3)
    (try simp only [List.length_cons, List.length_nil, Nat.zero_add, Nat.reduceAdd])
    refine ARun.alloc (lit_lt rfl) ty_zero_25 ?_
    intro b6 f6
    have g6 := f6
    repeat ((with_reducible replace g6 := fresh_set g6); obtain ⟨g6, _⟩ := g6)
    (try simp only [List.length_cons, List.length_nil, Nat.zero_add, Nat.reduceAdd])
    refine rC (Calm.assign rfl) ?_
    refine arun_nil ?_
    refine athen_n ?_
    refine AWP.seq ?_
    refine AWP.region ?_
    refine rC (ldA_ (cs := [_, _, _, _, _]) ty_agg_25 ty_size_25 rfl) ?_
    refine ARun.call (lit_lt rfl) go_44 rfl ((hopen.frame f3).frame f6) ?_
    rintro _ S1 ⟨Sa, ⟨M, ⟨p, oE, oW, hok, rfl, hM⟩, fa, hSa⟩, fb, h1⟩
    rw [h1, hSa]; rw [hSa] at fb; clear h1 S1 hSa Sa
    refine rC (Calm.move rfl) ?_
    refine rC (Calm.extract rfl rfl) ?_
    refine rC (Calm.extract rfl rfl) ?_
    refine rC (Calm.assign rfl) ?_
    refine rC (Calm.assign rfl) ?_
    refine arun_nil ?_
    refine athen_n ?_
    refine AWP.sub [(0, _), (1, _), (2, _), (3, _), (6, _), (7, _), (8, _), (9, _)] ⟨rfl, rfl, rfl, rfl, rfl, rfl, rfl, rfl, trivial⟩ ?_
    refine AWP.seq ?_
    refine AWP.seq ?_
    refine AWP.region ?_
    refine rC (Calm.move rfl) ?_
    refine rC (Calm.bin rfl rfl b_eql) ?_
    refine arun_nil ?_
    refine athen_n ?_
    refine AWP.sub [(0, _), (1, _), (2, _), (3, _), (6, _), (7, _), (8, _), (9, _), (16, _)] ⟨rfl, rfl, rfl, rfl, rfl, rfl, rfl, rfl, rfl, trivial⟩ ?_
    refine AWP.condF rfl (by first | rfl | (simp; done) | (simp; omega)) ?_
    rw [hM] at fa fb ⊢
    refine AWP.skip ?_
    refine athen_n ?_
    refine AWP.seq ?_
    refine AWP.region ?_
    refine rC (Calm.move rfl) ?_
    refine rC (Calm.move rfl) ?_
    refine ARun.call (lit_lt rfl) go_46 rfl (((disk_done p D0 2 S oE oW hok (by decide) (by decide)).frame fa).frame fb) ?_
    rintro _ S1 ⟨Sa, ⟨M2, ⟨v, rfl, hl2, hdk⟩, fc, hSa⟩, fd, h1⟩
    rw [h1, hSa]; rw [hSa] at fd; clear h1 S1 hSa Sa
    obtain ⟨qe, de, qw, dw, rfl, _⟩ := id hdk
    obtain ⟨ge, _⟩ := fresh_set fd
    refine rC (Calm.extract rfl rfl) ?_
    refine rC (Calm.extract rfl rfl) ?_
    first | refine ARun.storeAll rfl rfl ty_size_25 own_ rfl rfl ?_ | refine ARun.store rfl rfl ty_size_25 own_ lens_ rfl ?_
    (try simp only [Mem.set_set, List.set_cons_zero, List.set_cons_succ, Nat.zero_add, Nat.reduceAdd])
    refine rC (Calm.assign rfl) ?_
    refine arun_nil ?_
    refine athen_n ?_
    refine AWP.sub [(0, _), (1, _), (2, _), (3, _), (6, _), (7, _), (8, _), (9, _), (16, _)] ⟨rfl, rfl, rfl, rfl, rfl, rfl, rfl, rfl, rfl, trivial⟩ ?_
    refine AWP.ret ?_
    refine ⟨_, M2, ⟨_, _, _, rfl, .inr ⟨ty_agg_25, [_, _, _, _, _], ty_size_25, rds_, rfl⟩, ⟨_, _, rfl, rfl, rfl⟩, rfl⟩, less_, ?_⟩
    exact ⟨_, rfl, hl2, hdk⟩
  · rw [if_neg (show ¬ (10 : Int) = 0 from by decide)]
    refine ACall.enter (args := [.agg #[.int .i64 d.size, .slice pe d.ext.length ce, .slice pw d.waits.length cw, .int .i64 d.fuse, .bool d.down], .string fr, .string tn]) (rs := [.cell 6 25, .tmp 7]) 26 [(0, .agg #[.int .i64 d.size, .slice pe d.ext.length ce, .slice pw d.waits.length cw, .int .i64 d.fuse, .bool d.down]), (1, .string fr), (2, .string tn)] Try.func17 rfl rfl (Nat.le_of_ble_eq_true rfl) rfl ⟨rfl, rfl, rfl, trivial⟩ ?_
    refine AWP.seq ?_
    refine AWP.region ?_
    refine ARun.boxA (cs := [_, _, _, _, _]) (lit_lt rfl) rfl ?_
    intro b3 f3
    have g3 := f3
    repeat ((with_reducible replace g3 := fresh_set g3); obtain ⟨g3, _⟩ := g3)
    (try simp only [List.length_cons, List.length_nil, Nat.zero_add, Nat.reduceAdd])
    refine ARun.alloc (lit_lt rfl) ty_zero_25 ?_
    intro b6 f6
    have g6 := f6
    repeat ((with_reducible replace g6 := fresh_set g6); obtain ⟨g6, _⟩ := g6)
    (try simp only [List.length_cons, List.length_nil, Nat.zero_add, Nat.reduceAdd])
    refine rC (Calm.assign rfl) ?_
    refine arun_nil ?_
    refine athen_n ?_
    refine AWP.seq ?_
    refine AWP.region ?_
    refine rC (ldA_ (cs := [_, _, _, _, _]) ty_agg_25 ty_size_25 rfl) ?_
    refine ARun.call (lit_lt rfl) go_44 rfl ((hopen.frame f3).frame f6) ?_
    rintro _ S1 ⟨Sa, ⟨M, ⟨p, oE, oW, hok, rfl, hM⟩, fa, hSa⟩, fb, h1⟩
    rw [h1, hSa]; rw [hSa] at fb; clear h1 S1 hSa Sa
    refine rC (Calm.move rfl) ?_
    refine rC (Calm.extract rfl rfl) ?_
    refine rC (Calm.extract rfl rfl) ?_
    refine rC (Calm.assign rfl) ?_
    refine rC (Calm.assign rfl) ?_
    refine arun_nil ?_
    refine athen_n ?_
    refine AWP.sub [(0, _), (1, _), (2, _), (3, _), (6, _), (7, _), (8, _), (9, _)] ⟨rfl, rfl, rfl, rfl, rfl, rfl, rfl, rfl, trivial⟩ ?_
    refine AWP.seq ?_
    refine AWP.seq ?_
    refine AWP.region ?_
    refine rC (Calm.move rfl) ?_
    refine rC (Calm.bin rfl rfl b_eql) ?_
    refine arun_nil ?_
    refine athen_n ?_
    refine AWP.sub [(0, _), (1, _), (2, _), (3, _), (6, _), (7, _), (8, _), (9, _), (16, _)] ⟨rfl, rfl, rfl, rfl, rfl, rfl, rfl, rfl, rfl, trivial⟩ ?_
    refine AWP.condF rfl (by first | rfl | (simp; done) | (simp; omega)) ?_
    rw [hM] at fa fb ⊢
    refine AWP.skip ?_
    refine athen_n ?_
    refine AWP.seq ?_
    refine AWP.region ?_
    refine rC (Calm.move rfl) ?_
    refine rC (Calm.move rfl) ?_
    refine ARun.call (lit_lt rfl) go_46 rfl (((disk_done p d 10 S oE oW hok (Nat.le_trans (right_len hR).1 (by decide)) (Nat.le_trans hR.wl (by decide))).frame fa).frame fb) ?_
    rintro _ S1 ⟨Sa, ⟨M2, ⟨v, rfl, hl2, hdk⟩, fc, hSa⟩, fd, h1⟩
    rw [h1, hSa]; rw [hSa] at fd; clear h1 S1 hSa Sa
    obtain ⟨qe, de, qw, dw, rfl, _⟩ := id hdk
    obtain ⟨ge, _⟩ := fresh_set fd
    refine rC (Calm.extract rfl rfl) ?_
    refine rC (Calm.extract rfl rfl) ?_
    first | refine ARun.storeAll rfl rfl ty_size_25 own_ rfl rfl ?_ | refine ARun.store rfl rfl ty_size_25 own_ lens_ rfl ?_
    (try simp only [Mem.set_set, List.set_cons_zero, List.set_cons_succ, Nat.zero_add, Nat.reduceAdd])
    refine rC (Calm.assign rfl) ?_
    refine arun_nil ?_
    refine athen_n ?_
    refine AWP.sub [(0, _), (1, _), (2, _), (3, _), (6, _), (7, _), (8, _), (9, _), (16, _)] ⟨rfl, rfl, rfl, rfl, rfl, rfl, rfl, rfl, rfl, trivial⟩ ?_
    refine AWP.ret ?_
    refine ⟨_, M2, ⟨_, _, _, rfl, .inr ⟨ty_agg_25, [_, _, _, _, _], ty_size_25, rds_, rfl⟩, ⟨_, _, rfl, rfl, rfl⟩, rfl⟩, less_, ?_⟩
    exact ⟨_, rfl, hl2, hdk⟩
  · rw [if_pos rfl]
    refine ACall.enter (args := [.agg #[.int .i64 d.size, .slice pe d.ext.length ce, .slice pw d.waits.length cw, .int .i64 d.fuse, .bool d.down], .string fr, .string tn]) (rs := [.cell 6 25, .tmp 7]) 26 [(0, .agg #[.int .i64 d.size, .slice pe d.ext.length ce, .slice pw d.waits.length cw, .int .i64 d.fuse, .bool d.down]), (1, .string fr), (2, .string tn)] Try.func17 rfl rfl (Nat.le_of_ble_eq_true rfl) rfl ⟨rfl, rfl, rfl, trivial⟩ ?_
    refine AWP.seq ?_
    refine AWP.region ?_
    refine ARun.boxA (cs := [_, _, _, _, _]) (lit_lt rfl) rfl ?_
    intro b3 f3
    have g3 := f3
    repeat ((with_reducible replace g3 := fresh_set g3); obtain ⟨g3, _⟩ := g3)
    (try simp only [List.length_cons, List.length_nil, Nat.zero_add, Nat.reduceAdd])
    refine ARun.alloc (lit_lt rfl) ty_zero_25 ?_
    intro b6 f6
    have g6 := f6
    repeat ((with_reducible replace g6 := fresh_set g6); obtain ⟨g6, _⟩ := g6)
    (try simp only [List.length_cons, List.length_nil, Nat.zero_add, Nat.reduceAdd])
    refine rC (Calm.assign rfl) ?_
    refine arun_nil ?_
    refine athen_n ?_
    refine AWP.seq ?_
    refine AWP.region ?_
    refine rC (ldA_ (cs := [_, _, _, _, _]) ty_agg_25 ty_size_25 rfl) ?_
    refine ARun.call (lit_lt rfl) go_44 rfl ((hopen.frame f3).frame f6) ?_
    rintro _ S1 ⟨Sa, ⟨M, ⟨p, oE, oW, hok, rfl, hM⟩, fa, hSa⟩, fb, h1⟩
    rw [h1, hSa]; rw [hSa] at fb; clear h1 S1 hSa Sa
    refine rC (Calm.move rfl) ?_
    refine rC (Calm.extract rfl rfl) ?_
    refine rC (Calm.extract rfl rfl) ?_
    refine rC (Calm.assign rfl) ?_
    refine rC (Calm.assign rfl) ?_
    refine arun_nil ?_
    refine athen_n ?_
    refine AWP.sub [(0, _), (1, _), (2, _), (3, _), (6, _), (7, _), (8, _), (9, _)] ⟨rfl, rfl, rfl, rfl, rfl, rfl, rfl, rfl, trivial⟩ ?_
    refine AWP.seq ?_
    refine AWP.seq ?_
    refine AWP.region ?_
    refine rC (Calm.move rfl) ?_
    refine rC (Calm.bin rfl rfl b_eql) ?_
    refine arun_nil ?_
    refine athen_n ?_
    refine AWP.sub [(0, _), (1, _), (2, _), (3, _), (6, _), (7, _), (8, _), (9, _), (16, _)] ⟨rfl, rfl, rfl, rfl, rfl, rfl, rfl, rfl, rfl, trivial⟩ ?_
    refine AWP.condT rfl (by first | rfl | (simp; done) | (simp; omega)) ?_
    rw [hM] at fa fb ⊢
    refine AWP.region ?_
    refine rC (Calm.move rfl) ?_
    refine rC (Calm.move rfl) ?_
    refine rC (Calm.move rfl) ?_
    refine ARun.call (lit_lt rfl) go_57 rfl (((dev_Move p d fr tn S oE oW hok hR).frame fa).frame fb) ?_
    rintro _ S1 ⟨Sa, ⟨M3, ⟨oE3, oW3, hok3, rfl, hM3⟩, fa3, hSa⟩, fb3, h1⟩
    rw [h1, hSa]; rw [hSa] at fb3; clear h1 S1 hSa Sa; rw [hM3] at fa3 fb3 ⊢
    refine rC (Calm.assign rfl) ?_
    refine arun_nil ?_
    refine athen_n ?_
    refine AWP.sub [(0, _), (1, _), (2, _), (3, _), (6, _), (7, _), (8, _), (9, _), (16, _)] ⟨rfl, rfl, rfl, rfl, rfl, rfl, rfl, rfl, rfl, trivial⟩ ?_
    refine AWP.seq ?_
    refine AWP.region ?_
    refine rC (Calm.move rfl) ?_
    refine rC (Calm.move rfl) ?_
    refine ARun.call (lit_lt rfl) go_46 rfl (((disk_done p _ _ S oE3 oW3 hok3 (moveD_lens hR fr tn).1 (moveD_lens hR fr tn).2).frame fa3).frame fb3) ?_
    rintro _ S1 ⟨Sa, ⟨M2, ⟨v, rfl, hl2, hdk⟩, fc, hSa⟩, fd, h1⟩
    rw [h1, hSa]; rw [hSa] at fd; clear h1 S1 hSa Sa
    obtain ⟨qe, de, qw, dw, rfl, _⟩ := id hdk
    obtain ⟨ge, _⟩ := fresh_set fd
    refine rC (Calm.extract rfl rfl) ?_
    refine rC (Calm.extract rfl rfl) ?_
    first | refine ARun.storeAll rfl rfl ty_size_25 own_ rfl rfl ?_ | refine ARun.store rfl rfl ty_size_25 own_ lens_ rfl ?_
    (try simp only [Mem.set_set, List.set_cons_zero, List.set_cons_succ, Nat.zero_add, Nat.reduceAdd])
    refine rC (Calm.assign rfl) ?_
    refine arun_nil ?_
    refine athen_n ?_
    refine AWP.sub [(0, _), (1, _), (2, _), (3, _), (6, _), (7, _), (8, _), (9, _), (16, _)] ⟨rfl, rfl, rfl, rfl, rfl, rfl, rfl, rfl, rfl, trivial⟩ ?_
    refine AWP.ret ?_
    refine ⟨_, M2, ⟨_, _, _, rfl, .inr ⟨ty_agg_25, [_, _, _, _, _], ty_size_25, rds_, rfl⟩, ⟨_, _, rfl, rfl, rfl⟩, rfl⟩, less_, ?_⟩
    exact ⟨_, rfl, hl2, hdk⟩
set_option maxHeartbeats 1000000 in
theorem disk_Write (v : Value) (d : D) (s : ByteArray) (i : Int) (data : ByteArray) (S : Mem) (hd : DkR S v d) (hz : Dz d) :
    ACall Try.prog 29 #[v, .string s, .int .i64 i, .string data] S (DkRes (opened d (writeD d s i data)) S) := by
  have hopen := disk_Open v d S hd hz
  obtain ⟨pe, ce, pw, cw, rfl, hE, hW⟩ := id hd
  unfold opened
  rcases openD_or d with ⟨ho, hR⟩ | ⟨ho, hR, hdn⟩ | ⟨ho, hR, hdn⟩ <;> rw [ho] at hopen ⊢
  · rw [if_neg (show ¬ (2 : Int) = 0 from by decide)]
    refine ACall.enter (args := [.agg #[.int .i64 d.size, .slice pe d.ext.length ce, .slice pw d.waits.length cw, .int .i64 d.fuse, .bool d.down], .string s, .int .i64 i, .string data]) (rs := [.cell 8 25, .tmp 9]) 29 [(0, .agg #[.int .i64 d.size, .slice pe d.ext.length ce, .slice pw d.waits.length cw, .int .i64 d.fuse, .bool d.down]), (1, .string s), (2, .int .i64 i), (3, .string data)] Try.func29 rfl rfl (Nat.le_of_ble_eq_true rfl) rfl ⟨rfl, rfl, rfl, rfl, trivial⟩ ?_
    refine AWP.seq ?_
    refine AWP.region ?_
    refine ARun.boxA (cs := [_, _, _, _, _]) (lit_lt rfl) rfl ?_
    intro b4 f4
    have g4 := f4
    repeat ((with_reducible replace g4 := fresh_set g4); obtain ⟨g4, _⟩ := g4)
    (try simp only [List.length_cons, List.length_nil, Nat.zero_add, Nat.reduceAdd])
    refine ARun.alloc (lit_lt rfl) ty_zero_25 ?_
    intro b8 f8
    have g8 := f8
    repeat ((with_reducible replace g8 := fresh_set g8); obtain ⟨g8, _⟩ := g8)
    (try simp only [List.length_cons, List.length_nil, Nat.zero_add, Nat.reduceAdd])
    refine rC (Calm.assign rfl) ?_
    refine arun_nil ?_
    refine athen_n ?_
    refine AWP.seq ?_
    refine AWP.region ?_
    refine rC (ldA_ (cs := [_, _, _, _, _]) ty_agg_25 ty_size_25 rfl) ?_
    refine ARun.call (lit_lt rfl) go_44 rfl ((hopen.frame f4).frame f8) ?_
    rintro _ S1 ⟨Sa, ⟨M, ⟨p, oE, oW, hok, rfl, hM⟩, fa, hSa⟩, fb, h1⟩
    rw [h1, hSa]; rw [hSa] at fb; clear h1 S1 hSa Sa
    refine rC (Calm.move rfl) ?_
    refine rC (Calm.extract rfl rfl) ?_
    refine rC (Calm.extract rfl rfl) ?_
    refine rC (Calm.assign rfl) ?_
    refine rC (Calm.assign rfl) ?_
    refine arun_nil ?_
    refine athen_n ?_
    refine AWP.sub [(0, _), (1, _), (2, _), (3, _), (4, _), (8, _), (9, _), (10, _), (11, _)] ⟨rfl, rfl, rfl, rfl, rfl, rfl, rfl, rfl, rfl, trivial⟩ ?_
    refine AWP.seq ?_
    refine AWP.seq ?_
    refine AWP.region ?_
    refine rC (Calm.move rfl) ?_
    refine rC (Calm.bin rfl rfl b_eql) ?_
    refine arun_nil ?_
    refine athen_n ?_
    refine AWP.sub [(0, _), (1, _), (2, _), (3, _), (4, _), (8, _), (9, _), (10, _), (11, _), (18, _)] ⟨rfl, rfl, rfl, rfl, rfl, rfl, rfl, rfl, rfl, rfl, trivial⟩ ?_
    refine AWP.condF rfl (by first | rfl | (simp; done) | (simp; omega)) ?_
    rw [hM] at fa fb ⊢
    refine AWP.skip ?_
    refine athen_n ?_
    refine AWP.seq ?_
    refine AWP.region ?_
    refine rC (Calm.move rfl) ?_
    refine rC (Calm.move rfl) ?_
    refine ARun.call (lit_lt rfl) go_46 rfl (((disk_done p D0 2 S oE oW hok (by decide) (by decide)).frame fa).frame fb) ?_
    rintro _ S1 ⟨Sa, ⟨M2, ⟨v, rfl, hl2, hdk⟩, fc, hSa⟩, fd, h1⟩
    rw [h1, hSa]; rw [hSa] at fd; clear h1 S1 hSa Sa
    obtain ⟨qe, de, qw, dw, rfl, _⟩ := id hdk
    obtain ⟨ge, _⟩ := fresh_set fd
    refine rC (Calm.extract rfl rfl) ?_
    refine rC (Calm.extract rfl rfl) ?_
    first | refine ARun.storeAll rfl rfl ty_size_25 own_ rfl rfl ?_ | refine ARun.store rfl rfl ty_size_25 own_ lens_ rfl ?_
    (try simp only [Mem.set_set, List.set_cons_zero, List.set_cons_succ, Nat.zero_add, Nat.reduceAdd])
    refine rC (Calm.assign rfl) ?_
    refine arun_nil ?_
    refine athen_n ?_
    refine AWP.sub [(0, _), (1, _), (2, _), (3, _), (4, _), (8, _), (9, _), (10, _), (11, _), (18, _)] ⟨rfl, rfl, rfl, rfl, rfl, rfl, rfl, rfl, rfl, rfl, trivial⟩ ?_
    refine AWP.ret ?_
    refine ⟨_, M2, ⟨_, _, _, rfl, .inr ⟨ty_agg_25, [_, _, _, _, _], ty_size_25, rds_, rfl⟩, ⟨_, _, rfl, rfl, rfl⟩, rfl⟩, less_, ?_⟩
    exact ⟨_, rfl, hl2, hdk⟩
  · rw [if_neg (show ¬ (10 : Int) = 0 from by decide)]
    refine ACall.enter (args := [.agg #[.int .i64 d.size, .slice pe d.ext.length ce, .slice pw d.waits.length cw, .int .i64 d.fuse, .bool d.down], .string s, .int .i64 i, .string data]) (rs := [.cell 8 25, .tmp 9]) 29 [(0, .agg #[.int .i64 d.size, .slice pe d.ext.length ce, .slice pw d.waits.length cw, .int .i64 d.fuse, .bool d.down]), (1, .string s), (2, .int .i64 i), (3, .string data)] Try.func29 rfl rfl (Nat.le_of_ble_eq_true rfl) rfl ⟨rfl, rfl, rfl, rfl, trivial⟩ ?_
    refine AWP.seq ?_
    refine AWP.region ?_
    refine ARun.boxA (cs := [_, _, _, _, _]) (lit_lt rfl) rfl ?_
    intro b4 f4
    have g4 := f4
    repeat ((with_reducible replace g4 := fresh_set g4); obtain ⟨g4, _⟩ := g4)
    (try simp only [List.length_cons, List.length_nil, Nat.zero_add, Nat.reduceAdd])
    refine ARun.alloc (lit_lt rfl) ty_zero_25 ?_
    intro b8 f8
    have g8 := f8
    repeat ((with_reducible replace g8 := fresh_set g8); obtain ⟨g8, _⟩ := g8)
    (try simp only [List.length_cons, List.length_nil, Nat.zero_add, Nat.reduceAdd])
    refine rC (Calm.assign rfl) ?_
    refine arun_nil ?_
    refine athen_n ?_
    refine AWP.seq ?_
    refine AWP.region ?_
    refine rC (ldA_ (cs := [_, _, _, _, _]) ty_agg_25 ty_size_25 rfl) ?_
    refine ARun.call (lit_lt rfl) go_44 rfl ((hopen.frame f4).frame f8) ?_
    rintro _ S1 ⟨Sa, ⟨M, ⟨p, oE, oW, hok, rfl, hM⟩, fa, hSa⟩, fb, h1⟩
    rw [h1, hSa]; rw [hSa] at fb; clear h1 S1 hSa Sa
    refine rC (Calm.move rfl) ?_
    refine rC (Calm.extract rfl rfl) ?_
    refine rC (Calm.extract rfl rfl) ?_
    refine rC (Calm.assign rfl) ?_
    refine rC (Calm.assign rfl) ?_
    refine arun_nil ?_
    refine athen_n ?_
    refine AWP.sub [(0, _), (1, _), (2, _), (3, _), (4, _), (8, _), (9, _), (10, _), (11, _)] ⟨rfl, rfl, rfl, rfl, rfl, rfl, rfl, rfl, rfl, trivial⟩ ?_
    refine AWP.seq ?_
    refine AWP.seq ?_
    refine AWP.region ?_
    refine rC (Calm.move rfl) ?_
    refine rC (Calm.bin rfl rfl b_eql) ?_
    refine arun_nil ?_
    refine athen_n ?_
    refine AWP.sub [(0, _), (1, _), (2, _), (3, _), (4, _), (8, _), (9, _), (10, _), (11, _), (18, _)] ⟨rfl, rfl, rfl, rfl, rfl, rfl, rfl, rfl, rfl, rfl, trivial⟩ ?_
    refine AWP.condF rfl (by first | rfl | (simp; done) | (simp; omega)) ?_
    rw [hM] at fa fb ⊢
    refine AWP.skip ?_
    refine athen_n ?_
    refine AWP.seq ?_
    refine AWP.region ?_
    refine rC (Calm.move rfl) ?_
    refine rC (Calm.move rfl) ?_
    refine ARun.call (lit_lt rfl) go_46 rfl (((disk_done p d 10 S oE oW hok (Nat.le_trans (right_len hR).1 (by decide)) (Nat.le_trans hR.wl (by decide))).frame fa).frame fb) ?_
    rintro _ S1 ⟨Sa, ⟨M2, ⟨v, rfl, hl2, hdk⟩, fc, hSa⟩, fd, h1⟩
    rw [h1, hSa]; rw [hSa] at fd; clear h1 S1 hSa Sa
    obtain ⟨qe, de, qw, dw, rfl, _⟩ := id hdk
    obtain ⟨ge, _⟩ := fresh_set fd
    refine rC (Calm.extract rfl rfl) ?_
    refine rC (Calm.extract rfl rfl) ?_
    first | refine ARun.storeAll rfl rfl ty_size_25 own_ rfl rfl ?_ | refine ARun.store rfl rfl ty_size_25 own_ lens_ rfl ?_
    (try simp only [Mem.set_set, List.set_cons_zero, List.set_cons_succ, Nat.zero_add, Nat.reduceAdd])
    refine rC (Calm.assign rfl) ?_
    refine arun_nil ?_
    refine athen_n ?_
    refine AWP.sub [(0, _), (1, _), (2, _), (3, _), (4, _), (8, _), (9, _), (10, _), (11, _), (18, _)] ⟨rfl, rfl, rfl, rfl, rfl, rfl, rfl, rfl, rfl, rfl, trivial⟩ ?_
    refine AWP.ret ?_
    refine ⟨_, M2, ⟨_, _, _, rfl, .inr ⟨ty_agg_25, [_, _, _, _, _], ty_size_25, rds_, rfl⟩, ⟨_, _, rfl, rfl, rfl⟩, rfl⟩, less_, ?_⟩
    exact ⟨_, rfl, hl2, hdk⟩
  · rw [if_pos rfl]
    refine ACall.enter (args := [.agg #[.int .i64 d.size, .slice pe d.ext.length ce, .slice pw d.waits.length cw, .int .i64 d.fuse, .bool d.down], .string s, .int .i64 i, .string data]) (rs := [.cell 8 25, .tmp 9]) 29 [(0, .agg #[.int .i64 d.size, .slice pe d.ext.length ce, .slice pw d.waits.length cw, .int .i64 d.fuse, .bool d.down]), (1, .string s), (2, .int .i64 i), (3, .string data)] Try.func29 rfl rfl (Nat.le_of_ble_eq_true rfl) rfl ⟨rfl, rfl, rfl, rfl, trivial⟩ ?_
    refine AWP.seq ?_
    refine AWP.region ?_
    refine ARun.boxA (cs := [_, _, _, _, _]) (lit_lt rfl) rfl ?_
    intro b4 f4
    have g4 := f4
    repeat ((with_reducible replace g4 := fresh_set g4); obtain ⟨g4, _⟩ := g4)
    (try simp only [List.length_cons, List.length_nil, Nat.zero_add, Nat.reduceAdd])
    refine ARun.alloc (lit_lt rfl) ty_zero_25 ?_
    intro b8 f8
    have g8 := f8
    repeat ((with_reducible replace g8 := fresh_set g8); obtain ⟨g8, _⟩ := g8)
    (try simp only [List.length_cons, List.length_nil, Nat.zero_add, Nat.reduceAdd])
    refine rC (Calm.assign rfl) ?_
    refine arun_nil ?_
    refine athen_n ?_
    refine AWP.seq ?_
    refine AWP.region ?_
    refine rC (ldA_ (cs := [_, _, _, _, _]) ty_agg_25 ty_size_25 rfl) ?_
    refine ARun.call (lit_lt rfl) go_44 rfl ((hopen.frame f4).frame f8) ?_
    rintro _ S1 ⟨Sa, ⟨M, ⟨p, oE, oW, hok, rfl, hM⟩, fa, hSa⟩, fb, h1⟩
    rw [h1, hSa]; rw [hSa] at fb; clear h1 S1 hSa Sa
    refine rC (Calm.move rfl) ?_
    refine rC (Calm.extract rfl rfl) ?_
    refine rC (Calm.extract rfl rfl) ?_
    refine rC (Calm.assign rfl) ?_
    refine rC (Calm.assign rfl) ?_
    refine arun_nil ?_
    refine athen_n ?_
    refine AWP.sub [(0, _), (1, _), (2, _), (3, _), (4, _), (8, _), (9, _), (10, _), (11, _)] ⟨rfl, rfl, rfl, rfl, rfl, rfl, rfl, rfl, rfl, trivial⟩ ?_
    refine AWP.seq ?_
    refine AWP.seq ?_
    refine AWP.region ?_
    refine rC (Calm.move rfl) ?_
    refine rC (Calm.bin rfl rfl b_eql) ?_
    refine arun_nil ?_
    refine athen_n ?_
    refine AWP.sub [(0, _), (1, _), (2, _), (3, _), (4, _), (8, _), (9, _), (10, _), (11, _), (18, _)] ⟨rfl, rfl, rfl, rfl, rfl, rfl, rfl, rfl, rfl, rfl, trivial⟩ ?_
    refine AWP.condT rfl (by first | rfl | (simp; done) | (simp; omega)) ?_
    rw [hM] at fa fb ⊢
    refine AWP.region ?_
    refine rC (Calm.move rfl) ?_
    refine rC (Calm.move rfl) ?_
    refine rC (Calm.move rfl) ?_
    refine rC (Calm.move rfl) ?_
    refine ARun.call (lit_lt rfl) go_64 rfl (((dev_Write p d s i data S oE oW hok hR hz.f1).frame fa).frame fb) ?_
    rintro _ S1 ⟨Sa, ⟨M3, ⟨oE3, oW3, hok3, rfl, hM3⟩, fa3, hSa⟩, fb3, h1⟩
    rw [h1, hSa]; rw [hSa] at fb3; clear h1 S1 hSa Sa; rw [hM3] at fa3 fb3 ⊢
    refine rC (Calm.assign rfl) ?_
    refine arun_nil ?_
    refine athen_n ?_
    refine AWP.sub [(0, _), (1, _), (2, _), (3, _), (4, _), (8, _), (9, _), (10, _), (11, _), (18, _)] ⟨rfl, rfl, rfl, rfl, rfl, rfl, rfl, rfl, rfl, rfl, trivial⟩ ?_
    refine AWP.seq ?_
    refine AWP.region ?_
    refine rC (Calm.move rfl) ?_
    refine rC (Calm.move rfl) ?_
    refine ARun.call (lit_lt rfl) go_46 rfl (((disk_done p _ _ S oE3 oW3 hok3 (writeD_lens hR s i data).1 (writeD_lens hR s i data).2).frame fa3).frame fb3) ?_
    rintro _ S1 ⟨Sa, ⟨M2, ⟨v, rfl, hl2, hdk⟩, fc, hSa⟩, fd, h1⟩
    rw [h1, hSa]; rw [hSa] at fd; clear h1 S1 hSa Sa
    obtain ⟨qe, de, qw, dw, rfl, _⟩ := id hdk
    obtain ⟨ge, _⟩ := fresh_set fd
    refine rC (Calm.extract rfl rfl) ?_
    refine rC (Calm.extract rfl rfl) ?_
    first | refine ARun.storeAll rfl rfl ty_size_25 own_ rfl rfl ?_ | refine ARun.store rfl rfl ty_size_25 own_ lens_ rfl ?_
    (try simp only [Mem.set_set, List.set_cons_zero, List.set_cons_succ, Nat.zero_add, Nat.reduceAdd])
    refine rC (Calm.assign rfl) ?_
    refine arun_nil ?_
    refine athen_n ?_
    refine AWP.sub [(0, _), (1, _), (2, _), (3, _), (4, _), (8, _), (9, _), (10, _), (11, _), (18, _)] ⟨rfl, rfl, rfl, rfl, rfl, rfl, rfl, rfl, rfl, rfl, trivial⟩ ?_
    refine AWP.ret ?_
    refine ⟨_, M2, ⟨_, _, _, rfl, .inr ⟨ty_agg_25, [_, _, _, _, _], ty_size_25, rds_, rfl⟩, ⟨_, _, rfl, rfl, rfl⟩, rfl⟩, less_, ?_⟩
    exact ⟨_, rfl, hl2, hdk⟩
end Go.Proofs.Ytkeiphkccnfhoaa
