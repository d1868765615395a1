/-
  Disk, the document's side: Write.
-/
import Derived.Test.YtkeiphkccnfhoaaDR10
import Derived.Test.YtkeiphkccnfhoaaDR7
namespace Go.Proofs.Ytkeiphkccnfhoaa
open Go.RowKit
open Mv Disk
set_option linter.unusedVariables false
set_option linter.unusedSimpArgs false
set_option maxRecDepth 4000

theorem place_as (d : D) (s : ByteArray) (k : Int) (h : placeO d s k ≠ 0) (f : D × Int) (hf : (placeD d s k).2 ≠ 0 → f = (d, (placeD d s k).2)) : opened d f = asD d (placeO d s k) := by
  unfold opened placeO at *
  rcases openD_or d with ⟨ho, hR⟩ | ⟨ho, hR, hdn⟩ | ⟨ho, hR, hdn⟩ <;> rw [ho] at h ⊢
  · rw [if_neg (by simp), if_pos (by simp), asD_no hR]
  · rw [if_neg (by simp), if_pos (by simp), asD_ok hR]
  · rw [if_neg (by simp)] at h
    rw [if_pos rfl, if_neg (by simp), asD_ok hR, hf h]
theorem place_ok0 {d : D} {s : ByteArray} {k : Int} (h : placeO d s k = 0) : Right d ∧ openD d = (d, 0) ∧ (placeD d s k).2 = 0 := by
  unfold placeO at h
  rcases openD_or d with ⟨ho, hR⟩ | ⟨ho, hR, hdn⟩ | ⟨ho, hR, hdn⟩ <;> rw [ho] at h
  · simp at h
  · simp at h
  · exact ⟨hR, ho, by simpa using h⟩
set_option maxHeartbeats 2000000 in
theorem rd_Write (v : Value) (d : D) (s : ByteArray) (k : Int) (data : ByteArray) (S : Mem) (hd : DkR S v d) (hz : Dz d) :
    ACall Try.prog 30 #[v, .string s, .int .i64 k, .string data] S (DkRes (opened d (writeD d s k data)) S) := by
  have hpl := fun M h => rd_place v d s k M h hz
  have hasw := rd_as v d (placeO d s k) S hd hz
  have hcopy := rd_Copy v d S hd hz.el hz.wl
  obtain ⟨pe, ce, pw, cw, rfl, hE, hW⟩ := id hd
  by_cases q0 : placeO d s k ≠ 0
  · rw [place_as d s k q0 _ (fun h => by unfold writeD; rw [if_pos h])]
    generalize placeO d s k = er at *
    refine ACall.enter (args := [.agg #[.int .i64 d.size, .slice pe d.ext.length ce, .slice pw d.waits.length cw, .int .i64 d.fuse, .bool d.down], .string s, .int .i64 k, .string data]) (rs := [.cell 8 25, .tmp 9]) 57 [(0, .agg #[.int .i64 d.size, .slice pe d.ext.length ce, .slice pw d.waits.length cw, .int .i64 d.fuse, .bool d.down]), (1, .string s), (2, .int .i64 k), (3, .string data)] Try.func30 rfl rfl (Nat.le_of_ble_eq_true rfl) rfl ⟨rfl, rfl, rfl, rfl, trivial⟩ ?_
    refine AWP.seq ?_
    refine AWP.region ?_
    refine ARun.boxA (cs := [_, _, _, _, _]) (lit_lt rfl) rfl ?_
    intro b4 f4
    have g4 := f4
    repeat ((with_reducible replace g4 := fresh_set g4); obtain ⟨g4, _⟩ := g4)
    (try simp only [List.length_cons, List.length_nil, Nat.zero_add, Nat.reduceAdd])
    refine ARun.alloc (lit_lt rfl) ty_zero_25 ?_
    intro b8 f8
    have g8 := f8
    repeat ((with_reducible replace g8 := fresh_set g8); obtain ⟨g8, _⟩ := g8)
    (try simp only [List.length_cons, List.length_nil, Nat.zero_add, Nat.reduceAdd])
    refine rC (Calm.assign rfl) ?_
    refine arun_nil ?_
    refine athen_n ?_
    refine AWP.seq ?_
    refine AWP.region ?_
    refine rC (ldA_ (cs := [_, _, _, _, _]) ty_agg_25 ty_size_25 rfl) ?_
    refine rC (Calm.move rfl) ?_
    refine rC (Calm.move rfl) ?_
    refine ARun.call (lit_lt rfl) go_63 rfl (hpl _ (hd.less less_)) ?_
    rintro _ S1 ⟨rfl, h1⟩
    rw [h1]; clear h1 S1
    refine rC (Calm.assign rfl) ?_
    refine arun_nil ?_
    refine athen_n ?_
    refine AWP.sub [(0, _), (1, _), (2, _), (3, _), (4, _), (8, _), (9, _), (10, _)] ⟨rfl, rfl, rfl, rfl, rfl, rfl, rfl, rfl, trivial⟩ ?_
    refine AWP.seq ?_
    refine AWP.seq ?_
    refine AWP.region ?_
    refine rC (Calm.move rfl) ?_
    refine rC (Calm.bin rfl rfl (bin_bool (bin_neq _ _) (bnot_dec_true q0))) ?_
    refine arun_nil ?_
    refine athen_n ?_
    refine AWP.sub [(0, _), (1, _), (2, _), (3, _), (4, _), (8, _), (9, _), (10, _), (16, _)] ⟨rfl, rfl, rfl, rfl, rfl, rfl, rfl, rfl, rfl, trivial⟩ ?_
    refine AWP.condT rfl (by first | rfl | (simp; done) | (simp; omega)) ?_
    refine AWP.seq ?_
    refine AWP.region ?_
    refine rC (ldA_ (cs := [_, _, _, _, _]) ty_agg_25 ty_size_25 rfl) ?_
    refine rC (Calm.move rfl) ?_
    refine ARun.call (lit_lt rfl) go_48 rfl (((hasw).frame f4).frame f8) ?_
    rintro _ S1 ⟨Sa, ⟨M, ⟨v', rfl, hSM, hdk⟩, fa, hSa⟩, fb, h1⟩
    rw [h1, hSa]; rw [hSa] at fb; clear h1 S1 hSa Sa
    obtain ⟨fbm, nba⟩ := fresh_set fb
    obtain ⟨qe, de, qw, dw, rfl, hE2, hW2⟩ := id hdk
    refine rC (Calm.extract rfl rfl) ?_
    refine rC (Calm.extract rfl rfl) ?_
    first | refine ARun.storeAll rfl rfl ty_size_25 own_ rfl rfl ?_ | refine ARun.store rfl rfl ty_size_25 own_ lens_ rfl ?_
    (try simp only [Mem.set_set, List.set_cons_zero, List.set_cons_succ, Nat.zero_add, Nat.reduceAdd])
    refine rC (Calm.assign rfl) ?_
    refine arun_nil ?_
    refine athen_n ?_
    refine AWP.sub [(0, _), (1, _), (2, _), (3, _), (4, _), (8, _), (9, _), (10, _), (16, _)] ⟨rfl, rfl, rfl, rfl, rfl, rfl, rfl, rfl, rfl, trivial⟩ ?_
    refine AWP.ret ?_
    refine athen_ret ?_
    refine ⟨_, M, ⟨_, _, _, rfl, .inr ⟨ty_agg_25, [_, _, _, _, _], ty_size_25, rds_, rfl⟩, ⟨_, _, rfl, rfl, rfl⟩, rfl⟩, less_, ?_⟩
    exact ⟨_, rfl, hSM, hdk⟩
  · have q0 : placeO d s k = 0 := by simpa using q0
    obtain ⟨hR, hop, hp0⟩ := place_ok0 q0
    simp only [q0] at hpl
    unfold opened writeD
    rw [hop, if_pos rfl, if_neg (by simpa using hp0)]
    have hlens := right_lens hR; have hrl := right_len hR; have hwl := hR.wl
    by_cases q1 : data.size ≠ 64
    · rw [if_pos q1]
      refine ACall.enter (args := [.agg #[.int .i64 d.size, .slice pe d.ext.length ce, .slice pw d.waits.length cw, .int .i64 d.fuse, .bool d.down], .string s, .int .i64 k, .string data]) (rs := [.cell 8 25, .tmp 9]) 57 [(0, .agg #[.int .i64 d.size, .slice pe d.ext.length ce, .slice pw d.waits.length cw, .int .i64 d.fuse, .bool d.down]), (1, .string s), (2, .int .i64 k), (3, .string data)] Try.func30 rfl rfl (Nat.le_of_ble_eq_true rfl) rfl ⟨rfl, rfl, rfl, rfl, trivial⟩ ?_
      refine AWP.seq ?_
      refine AWP.region ?_
      refine ARun.boxA (cs := [_, _, _, _, _]) (lit_lt rfl) rfl ?_
      intro b4 f4
      have g4 := f4
      repeat ((with_reducible replace g4 := fresh_set g4); obtain ⟨g4, _⟩ := g4)
      (try simp only [List.length_cons, List.length_nil, Nat.zero_add, Nat.reduceAdd])
      refine ARun.alloc (lit_lt rfl) ty_zero_25 ?_
      intro b8 f8
      have g8 := f8
      repeat ((with_reducible replace g8 := fresh_set g8); obtain ⟨g8, _⟩ := g8)
      (try simp only [List.length_cons, List.length_nil, Nat.zero_add, Nat.reduceAdd])
      refine rC (Calm.assign rfl) ?_
      refine arun_nil ?_
      refine athen_n ?_
      refine AWP.seq ?_
      refine AWP.region ?_
      refine rC (ldA_ (cs := [_, _, _, _, _]) ty_agg_25 ty_size_25 rfl) ?_
      refine rC (Calm.move rfl) ?_
      refine rC (Calm.move rfl) ?_
      refine ARun.call (lit_lt rfl) go_63 rfl (hpl _ (hd.less less_)) ?_
      rintro _ S1 ⟨rfl, h1⟩
      rw [h1]; clear h1 S1
      refine rC (Calm.assign rfl) ?_
      refine arun_nil ?_
      refine athen_n ?_
      refine AWP.sub [(0, _), (1, _), (2, _), (3, _), (4, _), (8, _), (9, _), (10, _)] ⟨rfl, rfl, rfl, rfl, rfl, rfl, rfl, rfl, trivial⟩ ?_
      refine AWP.seq ?_
      refine AWP.seq ?_
      refine AWP.region ?_
      refine rC (Calm.move rfl) ?_
      refine rC (Calm.bin rfl rfl b_neq) ?_
      refine arun_nil ?_
      refine athen_n ?_
      refine AWP.sub [(0, _), (1, _), (2, _), (3, _), (4, _), (8, _), (9, _), (10, _), (16, _)] ⟨rfl, rfl, rfl, rfl, rfl, rfl, rfl, rfl, rfl, trivial⟩ ?_
      refine AWP.condF rfl (by first | rfl | (simp; done) | (simp; omega)) ?_
      refine AWP.skip ?_
      refine athen_n ?_
      refine AWP.seq ?_
      refine AWP.seq ?_
      refine AWP.region ?_
      refine rC (Calm.move rfl) ?_
      refine rC (Calm.lenStr (strT_spec ty_str_9) rfl) ?_
      refine rC (Calm.bin rfl rfl (bin_bool (bin_neq _ _) (bnot_dec_true (by omega)))) ?_
      refine arun_nil ?_
      refine athen_n ?_
      refine AWP.sub [(0, _), (1, _), (2, _), (3, _), (4, _), (8, _), (9, _), (10, _), (16, _), (24, _)] ⟨rfl, rfl, rfl, rfl, rfl, rfl, rfl, rfl, rfl, rfl, trivial⟩ ?_
      refine AWP.condT rfl (by first | rfl | (simp; done) | (simp; omega)) ?_
      refine AWP.seq ?_
      refine AWP.region ?_
      refine rC (ldA_ (cs := [_, _, _, _, _]) ty_agg_25 ty_size_25 rfl) ?_
      refine ARun.call (lit_lt rfl) go_12 rfl (((hcopy).frame f4).frame f8) ?_
      rintro _ S1 ⟨Sa, ⟨M, ⟨oE, oW, hok, rfl, hM⟩, fa, hSa⟩, fb, h1⟩
      rw [h1, hSa]; rw [hSa] at fb; clear h1 S1 hSa Sa
      obtain ⟨fbm, nba⟩ := fresh_set fb
      have hSM : S.Less M := by rw [hM]; exact hok.less
      have hdk : DkR M (dkV d oE oW) d := by rw [hM]; exact hok.dk hlens.1 hlens.2
      unfold dkV at hdk ⊢
      obtain ⟨qe, de, hqe⟩ := outV_eq hok.e
      obtain ⟨qw, dw, hqw⟩ := outV_eq hok.w
      rw [hqe, hqw] at hdk ⊢
      first | refine ARun.storeAll rfl rfl ty_size_25 own_ rfl rfl ?_ | refine ARun.store rfl rfl ty_size_25 own_ lens_ rfl ?_
      (try simp only [Mem.set_set, List.set_cons_zero, List.set_cons_succ, Nat.zero_add, Nat.reduceAdd])
      refine rC (Calm.assign rfl) ?_
      refine arun_nil ?_
      refine athen_n ?_
      refine AWP.sub [(0, _), (1, _), (2, _), (3, _), (4, _), (8, _), (9, _), (10, _), (16, _), (24, _)] ⟨rfl, rfl, rfl, rfl, rfl, rfl, rfl, rfl, rfl, rfl, trivial⟩ ?_
      refine AWP.ret ?_
      refine athen_ret ?_
      refine ⟨_, M, ⟨_, _, _, rfl, .inr ⟨ty_agg_25, [_, _, _, _, _], ty_size_25, rds_, rfl⟩, ⟨_, _, rfl, rfl, rfl⟩, rfl⟩, less_, ?_⟩
      exact ⟨_, rfl, hSM, hdk⟩
    · rw [if_neg q1]
      by_cases q2 : d.waits.length = 16384
      · rw [if_pos q2]
        refine ACall.enter (args := [.agg #[.int .i64 d.size, .slice pe d.ext.length ce, .slice pw d.waits.length cw, .int .i64 d.fuse, .bool d.down], .string s, .int .i64 k, .string data]) (rs := [.cell 8 25, .tmp 9]) 57 [(0, .agg #[.int .i64 d.size, .slice pe d.ext.length ce, .slice pw d.waits.length cw, .int .i64 d.fuse, .bool d.down]), (1, .string s), (2, .int .i64 k), (3, .string data)] Try.func30 rfl rfl (Nat.le_of_ble_eq_true rfl) rfl ⟨rfl, rfl, rfl, rfl, trivial⟩ ?_
        refine AWP.seq ?_
        refine AWP.region ?_
        refine ARun.boxA (cs := [_, _, _, _, _]) (lit_lt rfl) rfl ?_
        intro b4 f4
        have g4 := f4
        repeat ((with_reducible replace g4 := fresh_set g4); obtain ⟨g4, _⟩ := g4)
        (try simp only [List.length_cons, List.length_nil, Nat.zero_add, Nat.reduceAdd])
        refine ARun.alloc (lit_lt rfl) ty_zero_25 ?_
        intro b8 f8
        have g8 := f8
        repeat ((with_reducible replace g8 := fresh_set g8); obtain ⟨g8, _⟩ := g8)
        (try simp only [List.length_cons, List.length_nil, Nat.zero_add, Nat.reduceAdd])
        refine rC (Calm.assign rfl) ?_
        refine arun_nil ?_
        refine athen_n ?_
        refine AWP.seq ?_
        refine AWP.region ?_
        refine rC (ldA_ (cs := [_, _, _, _, _]) ty_agg_25 ty_size_25 rfl) ?_
        refine rC (Calm.move rfl) ?_
        refine rC (Calm.move rfl) ?_
        refine ARun.call (lit_lt rfl) go_63 rfl (hpl _ (hd.less less_)) ?_
        rintro _ S1 ⟨rfl, h1⟩
        rw [h1]; clear h1 S1
        refine rC (Calm.assign rfl) ?_
        refine arun_nil ?_
        refine athen_n ?_
        refine AWP.sub [(0, _), (1, _), (2, _), (3, _), (4, _), (8, _), (9, _), (10, _)] ⟨rfl, rfl, rfl, rfl, rfl, rfl, rfl, rfl, trivial⟩ ?_
        refine AWP.seq ?_
        refine AWP.seq ?_
        refine AWP.region ?_
        refine rC (Calm.move rfl) ?_
        refine rC (Calm.bin rfl rfl b_neq) ?_
        refine arun_nil ?_
        refine athen_n ?_
        refine AWP.sub [(0, _), (1, _), (2, _), (3, _), (4, _), (8, _), (9, _), (10, _), (16, _)] ⟨rfl, rfl, rfl, rfl, rfl, rfl, rfl, rfl, rfl, trivial⟩ ?_
        refine AWP.condF rfl (by first | rfl | (simp; done) | (simp; omega)) ?_
        refine AWP.skip ?_
        refine athen_n ?_
        refine AWP.seq ?_
        refine AWP.seq ?_
        refine AWP.region ?_
        refine rC (Calm.move rfl) ?_
        refine rC (Calm.lenStr (strT_spec ty_str_9) rfl) ?_
        refine rC (Calm.bin rfl rfl (bin_bool (bin_neq _ _) (bnot_dec_false (by omega)))) ?_
        refine arun_nil ?_
        refine athen_n ?_
        refine AWP.sub [(0, _), (1, _), (2, _), (3, _), (4, _), (8, _), (9, _), (10, _), (16, _), (24, _)] ⟨rfl, rfl, rfl, rfl, rfl, rfl, rfl, rfl, rfl, rfl, trivial⟩ ?_
        refine AWP.condF rfl (by first | rfl | (simp; done) | (simp; omega)) ?_
        refine AWP.skip ?_
        refine athen_n ?_
        refine AWP.seq ?_
        refine AWP.seq ?_
        refine AWP.region ?_
        refine rC (Calm.fieldAddr ty_field_25_2 rfl) ?_
        refine rC (ld_ ty_plain_23 rfl) ?_
        refine rC (Calm.lenSl Try.underlying23 rfl) ?_
        refine rC (Calm.bin rfl rfl b_geq) ?_
        refine arun_nil ?_
        refine athen_n ?_
        refine AWP.sub [(0, _), (1, _), (2, _), (3, _), (4, _), (8, _), (9, _), (10, _), (16, _), (24, _), (30, _)] ⟨rfl, rfl, rfl, rfl, rfl, rfl, rfl, rfl, rfl, rfl, rfl, trivial⟩ ?_
        refine AWP.condT rfl (by first | rfl | (simp; done) | (simp; omega)) ?_
        refine AWP.seq ?_
        refine AWP.region ?_
        refine rC (ldA_ (cs := [_, _, _, _, _]) ty_agg_25 ty_size_25 rfl) ?_
        refine ARun.call (lit_lt rfl) go_12 rfl (((hcopy).frame f4).frame f8) ?_
        rintro _ S1 ⟨Sa, ⟨M, ⟨oE, oW, hok, rfl, hM⟩, fa, hSa⟩, fb, h1⟩
        rw [h1, hSa]; rw [hSa] at fb; clear h1 S1 hSa Sa
        obtain ⟨fbm, nba⟩ := fresh_set fb
        have hSM : S.Less M := by rw [hM]; exact hok.less
        have hdk : DkR M (dkV d oE oW) d := by rw [hM]; exact hok.dk hlens.1 hlens.2
        unfold dkV at hdk ⊢
        obtain ⟨qe, de, hqe⟩ := outV_eq hok.e
        obtain ⟨qw, dw, hqw⟩ := outV_eq hok.w
        rw [hqe, hqw] at hdk ⊢
        first | refine ARun.storeAll rfl rfl ty_size_25 own_ rfl rfl ?_ | refine ARun.store rfl rfl ty_size_25 own_ lens_ rfl ?_
        (try simp only [Mem.set_set, List.set_cons_zero, List.set_cons_succ, Nat.zero_add, Nat.reduceAdd])
        refine rC (Calm.assign rfl) ?_
        refine arun_nil ?_
        refine athen_n ?_
        refine AWP.sub [(0, _), (1, _), (2, _), (3, _), (4, _), (8, _), (9, _), (10, _), (16, _), (24, _), (30, _)] ⟨rfl, rfl, rfl, rfl, rfl, rfl, rfl, rfl, rfl, rfl, rfl, trivial⟩ ?_
        refine AWP.ret ?_
        refine athen_ret ?_
        refine ⟨_, M, ⟨_, _, _, rfl, .inr ⟨ty_agg_25, [_, _, _, _, _], ty_size_25, rds_, rfl⟩, ⟨_, _, rfl, rfl, rfl⟩, rfl⟩, less_, ?_⟩
        exact ⟨_, rfl, hSM, hdk⟩
      · rw [if_neg q2]
        unfold fuseD
        refine ACall.enter (args := [.agg #[.int .i64 d.size, .slice pe d.ext.length ce, .slice pw d.waits.length cw, .int .i64 d.fuse, .bool d.down], .string s, .int .i64 k, .string data]) (rs := [.cell 8 25, .tmp 9]) 57 [(0, .agg #[.int .i64 d.size, .slice pe d.ext.length ce, .slice pw d.waits.length cw, .int .i64 d.fuse, .bool d.down]), (1, .string s), (2, .int .i64 k), (3, .string data)] Try.func30 rfl rfl (Nat.le_of_ble_eq_true rfl) rfl ⟨rfl, rfl, rfl, rfl, trivial⟩ ?_
        refine AWP.seq ?_
        refine AWP.region ?_
        refine ARun.boxA (cs := [_, _, _, _, _]) (lit_lt rfl) rfl ?_
        intro b4 f4
        have g4 := f4
        repeat ((with_reducible replace g4 := fresh_set g4); obtain ⟨g4, _⟩ := g4)
        (try simp only [List.length_cons, List.length_nil, Nat.zero_add, Nat.reduceAdd])
        refine ARun.alloc (lit_lt rfl) ty_zero_25 ?_
        intro b8 f8
        have g8 := f8
        repeat ((with_reducible replace g8 := fresh_set g8); obtain ⟨g8, _⟩ := g8)
        (try simp only [List.length_cons, List.length_nil, Nat.zero_add, Nat.reduceAdd])
        refine rC (Calm.assign rfl) ?_
        refine arun_nil ?_
        refine athen_n ?_
        refine AWP.seq ?_
        refine AWP.region ?_
        refine rC (ldA_ (cs := [_, _, _, _, _]) ty_agg_25 ty_size_25 rfl) ?_
        refine rC (Calm.move rfl) ?_
        refine rC (Calm.move rfl) ?_
        refine ARun.call (lit_lt rfl) go_63 rfl (hpl _ (hd.less less_)) ?_
        rintro _ S1 ⟨rfl, h1⟩
        rw [h1]; clear h1 S1
        refine rC (Calm.assign rfl) ?_
        refine arun_nil ?_
        refine athen_n ?_
        refine AWP.sub [(0, _), (1, _), (2, _), (3, _), (4, _), (8, _), (9, _), (10, _)] ⟨rfl, rfl, rfl, rfl, rfl, rfl, rfl, rfl, trivial⟩ ?_
        refine AWP.seq ?_
        refine AWP.seq ?_
        refine AWP.region ?_
        refine rC (Calm.move rfl) ?_
        refine rC (Calm.bin rfl rfl b_neq) ?_
        refine arun_nil ?_
        refine athen_n ?_
        refine AWP.sub [(0, _), (1, _), (2, _), (3, _), (4, _), (8, _), (9, _), (10, _), (16, _)] ⟨rfl, rfl, rfl, rfl, rfl, rfl, rfl, rfl, rfl, trivial⟩ ?_
        refine AWP.condF rfl (by first | rfl | (simp; done) | (simp; omega)) ?_
        refine AWP.skip ?_
        refine athen_n ?_
        refine AWP.seq ?_
        refine AWP.seq ?_
        refine AWP.region ?_
        refine rC (Calm.move rfl) ?_
        refine rC (Calm.lenStr (strT_spec ty_str_9) rfl) ?_
        refine rC (Calm.bin rfl rfl (bin_bool (bin_neq _ _) (bnot_dec_false (by omega)))) ?_
        refine arun_nil ?_
        refine athen_n ?_
        refine AWP.sub [(0, _), (1, _), (2, _), (3, _), (4, _), (8, _), (9, _), (10, _), (16, _), (24, _)] ⟨rfl, rfl, rfl, rfl, rfl, rfl, rfl, rfl, rfl, rfl, trivial⟩ ?_
        refine AWP.condF rfl (by first | rfl | (simp; done) | (simp; omega)) ?_
        refine AWP.skip ?_
        refine athen_n ?_
        refine AWP.seq ?_
        refine AWP.seq ?_
        refine AWP.region ?_
        refine rC (Calm.fieldAddr ty_field_25_2 rfl) ?_
        refine rC (ld_ ty_plain_23 rfl) ?_
        refine rC (Calm.lenSl Try.underlying23 rfl) ?_
        refine rC (Calm.bin rfl rfl b_geq) ?_
        refine arun_nil ?_
        refine athen_n ?_
        refine AWP.sub [(0, _), (1, _), (2, _), (3, _), (4, _), (8, _), (9, _), (10, _), (16, _), (24, _), (30, _)] ⟨rfl, rfl, rfl, rfl, rfl, rfl, rfl, rfl, rfl, rfl, rfl, trivial⟩ ?_
        refine AWP.condF rfl (by first | rfl | (simp; done) | (simp; omega)) ?_
        refine AWP.skip ?_
        refine athen_n ?_
        refine AWP.seq ?_
        refine AWP.region ?_
        refine rC (ldA_ (cs := [_, _, _, _, _]) ty_agg_25 ty_size_25 rfl) ?_
        refine ARun.call (lit_lt rfl) go_12 rfl (((hcopy).frame f4).frame f8) ?_
        rintro _ S1 ⟨Sa, ⟨M, ⟨oE, oW, hok, rfl, hM⟩, fa, hSa⟩, fb, h1⟩
        rw [h1, hSa]; rw [hSa] at fb; clear h1 S1 hSa Sa
        obtain ⟨fbm, nba⟩ := fresh_set fb
        have hSM : S.Less M := by rw [hM]; exact hok.less
        have hdk : DkR M (dkV d oE oW) d := by rw [hM]; exact hok.dk hlens.1 hlens.2
        unfold dkV at hdk ⊢
        obtain ⟨qe, de, hqe⟩ := outV_eq hok.e
        obtain ⟨qw, dw, hqw⟩ := outV_eq hok.w
        rw [hqe, hqw] at hdk ⊢
        first | refine ARun.storeAll rfl rfl ty_size_25 own_ rfl rfl ?_ | refine ARun.store rfl rfl ty_size_25 own_ lens_ rfl ?_
        (try simp only [Mem.set_set, List.set_cons_zero, List.set_cons_succ, Nat.zero_add, Nat.reduceAdd])
        refine arun_nil ?_
        refine athen_n ?_
        refine AWP.sub [(0, _), (1, _), (2, _), (3, _), (4, _), (8, _), (9, _), (10, _), (16, _), (24, _), (30, _)] ⟨rfl, rfl, rfl, rfl, rfl, rfl, rfl, rfl, rfl, rfl, rfl, trivial⟩ ?_
        rw [set_back M nba]
        have neE := fun q c (h : oE = some (q, c)) => (hok.e.own q c h)
        have hne8 : ∀ q c, oE = some (q, c) → q ≠ b8 ∧ q ≠ b4 := by rw [hM] at fa fbm; exact fun q c h => ⟨(fresh_outN (fresh_outN fbm).1).2 q c h |>.symm, (fresh_outN (fresh_outN fa).1).2 q c h |>.symm⟩
        have hnw8 : ∀ q c, oW = some (q, c) → q ≠ b8 ∧ q ≠ b4 := by rw [hM] at fa fbm; exact fun q c h => ⟨(fresh_outN fbm).2 q c h |>.symm, (fresh_outN fa).2 q c h |>.symm⟩
        have hfold : (M.set b4 (boxD d (.slice qe d.ext.length de) (.slice qw d.waits.length dw))).set b8 (boxD D0 (.slice none 0 0) (.slice none 0 0)) = outN 3 (((outN 2 S oE extT (d.ext.flatMap extF)).set b4 (boxD d (.slice qe d.ext.length de) (.slice qw d.waits.length dw))).set b8 (boxD D0 (.slice none 0 0) (.slice none 0 0))) oW wrT (d.waits.flatMap wrF) := by rw [outN_set (fun q c h => (hnw8 q c h).1), outN_set (fun q c h => (hnw8 q c h).2), hM]; rfl
        have hokW : OkO (((outN 2 S oE extT (d.ext.flatMap extF)).set b4 (boxD d (.slice qe d.ext.length de) (.slice qw d.waits.length dw))).set b8 (boxD D0 (.slice none 0 0) (.slice none 0 0))) oW d.waits.length := (hok.w.set (fun q c h => Ne.symm (hnw8 q c h).2)).set (fun q c h => Ne.symm (hnw8 q c h).1)
        have happ : AppN 3 ((M.set b4 (boxD d (.slice qe d.ext.length de) (.slice qw d.waits.length dw))).set b8 (boxD D0 (.slice none 0 0) (.slice none 0 0))) (((outN 2 S oE extT (d.ext.flatMap extF)).set b4 (boxD d (.slice qe d.ext.length de) (.slice qw d.waits.length dw))).set b8 (boxD D0 (.slice none 0 0) (.slice none 0 0))) oW wrT (d.waits.flatMap wrF) := by rw [hfold]; exact appN_self hokW (flat_length wr_len _)
        unfold boxD at happ hokW
        refine AWP.seq ?_
        refine AWP.region ?_
        refine rC (Calm.fieldAddr ty_field_25_2 rfl) ?_
        refine rC (ld_ ty_plain_23 rfl) ?_
        refine rC (Calm.move rfl) ?_
        refine rC (Calm.move rfl) ?_
        refine rC (Calm.move rfl) ?_
        refine rC (Calm.build (cs := [_, _, _]) ty_bld_51 rfl rfl) ?_
        refine ARun.build1 (lit_lt rfl) ty_sl_23 rfl (by decide) (by decide) rfl rfl ?_
        intro b41 f41
        have g41 := f41
        repeat ((with_reducible replace g41 := fresh_set g41); obtain ⟨g41, _⟩ := g41)
        refine ARun.appendOK (n := 3) (o := oW) (k := d.waits.length) (m := 1) (cs := d.waits.flatMap wrF) (news := [.string s, .int .i64 k, .string data]) (lit_lt rfl) ty_sl_23 rfl (congrArg some hqw.symm) (flat_length wr_len _) hokW (happ.temp f41) rfl (src_own (Mem.own_set_same _ _ _) List.prefix_rfl) rfl (wr_one [(s, k, data)]) (by omega) (by omega) ?_
        intro o2 ho2
        have h28 : ∀ q c, o2 = some (q, c) → b8 ≠ q ∧ b4 ≠ q := fun q c h => by obtain ⟨h1, h2⟩ := fresh_set (ho2.own q c h).1; exact ⟨Ne.symm h2, Ne.symm (fresh_set h1).2⟩
        have ho2' : OkO (outN 2 S oE extT (d.ext.flatMap extF)) o2 (d.waits.length + 1) := ho2.unset.unset
        obtain ⟨M3, hM3⟩ : ∃ M3, outN 3 (((outN 2 S oE extT (d.ext.flatMap extF)).set b4 (boxD d (.slice qe d.ext.length de) (.slice qw d.waits.length dw))).set b8 (boxD D0 (.slice none 0 0) (.slice none 0 0))) o2 wrT (d.waits.flatMap wrF ++ [.string s, .int .i64 k, .string data]) = M3 := ⟨_, rfl⟩
        have k34 : M3.own b4 = some (boxD d (.slice qe d.ext.length de) (.slice qw d.waits.length dw)) := by rw [← hM3]; exact own_outN' ((Mem.own_set_other _ _ (Ne.symm nba)).trans (Mem.own_set_same _ _ _)) (fun q c e => Ne.symm (h28 q c e).2)
        have k38 : M3.own b8 = some (boxD D0 (.slice none 0 0) (.slice none 0 0)) := by rw [← hM3]; exact own_outN' (Mem.own_set_same _ _ _) (fun q c e => Ne.symm (h28 q c e).1)
        have hok2 : OkD S (addW d (s, k, data)) oE o2 := ⟨hok.e, by rw [add_len]; exact ho2'⟩
        have hdk2 : DkR (dkM S (addW d (s, k, data)) oE o2) (dkV (addW d (s, k, data)) oE o2) (addW d (s, k, data)) := hok2.dk hlens.1 (by rw [add_len]; omega)
        have hS2 := hok2.less
        have hM2eq : dkM S (addW d (s, k, data)) oE o2 = outN 3 (outN 2 S oE extT (d.ext.flatMap extF)) o2 wrT (d.waits.flatMap wrF ++ [.string s, .int .i64 k, .string data]) := by unfold dkM; rw [add_flat]; rfl
        have hle : (dkM S (addW d (s, k, data)) oE o2).Less M3 := by
          rw [hM2eq, ← hM3]
          refine outN_lessM ?_
          exact less_of (LessB.skip (.inr (own_outN_none g8.1 (fun q c h => Ne.symm (hne8 q c h).1))) (LessB.skip (.inr (own_outN_none g4.1 (fun q c h => Ne.symm (hne8 q c h).2))) (LessB.refl _ _)))
        have n4 : (dkM S (addW d (s, k, data)) oE o2).own b4 = none := by rw [hM2eq]; exact own_outN_none (own_outN_none g4.1 (fun q c h => Ne.symm (hne8 q c h).2)) (fun q c h => (h28 q c h).2)
        have n8 : (dkM S (addW d (s, k, data)) oE o2).own b8 = none := by rw [hM2eq]; exact own_outN_none (own_outN_none g8.1 (fun q c h => Ne.symm (hne8 q c h).1)) (fun q c h => (h28 q c h).1)
        have hlf : ∀ r r', (dkM S (addW d (s, k, data)) oE o2).Less ((M3.set b4 r).set b8 r') := fun r r' => less_of (LessB.skip (.inr n8) (LessB.skip (.inr n4) (LessB.of hle)))
        obtain ⟨q2, d2, hq2⟩ := outV_eq ho2
        unfold dkV at hdk2
        have hq2' : outV o2 (addW d (s, k, data)).waits.length = .slice q2 (addW d (s, k, data)).waits.length d2 := by rw [add_len]; exact hq2
        rw [hq2', show outV oE (addW d (s, k, data)).ext.length = _ from hqe] at hdk2
        obtain ⟨_, _, _, _, hx, hsE, hsW⟩ := id hdk2
        cases hx
        have hval : ∀ (f : Int) (b : Bool), (Value.agg #[.int .i64 d.size, .slice qe d.ext.length de, .slice q2 (d.waits.length + 1) d2, .int .i64 f, .bool b]) = .agg #[.int .i64 d.size, .slice qe d.ext.length de, .slice q2 (addW d (s, k, data)).waits.length d2, .int .i64 f, .bool b] := fun f b => by rw [add_len]
        unfold boxD at hM3 k34 k38
        rw [show _ = M3 from hM3, hq2]
        refine rC (Calm.fieldAddr ty_field_25_2 rfl) ?_
        refine ARun.store1 rfl rfl ty_size_23 rfl own_ lens_ rfl ?_
        (try simp only [Mem.set_set, List.set_cons_zero, List.set_cons_succ, Nat.zero_add, Nat.reduceAdd])
        refine arun_nil ?_
        refine athen_n ?_
        refine AWP.sub [(0, _), (1, _), (2, _), (3, _), (4, _), (8, _), (9, _), (10, _), (16, _), (24, _), (30, _)] ⟨rfl, rfl, rfl, rfl, rfl, rfl, rfl, rfl, rfl, rfl, rfl, trivial⟩ ?_
        refine AWP.seq ?_
        refine AWP.seq ?_
        refine AWP.region ?_
        refine rC (Calm.fieldAddr ty_field_25_3 rfl) ?_
        refine rC (ld_ ty_plain_3 rfl) ?_
        refine rC (Calm.bin rfl rfl b_eql) ?_
        refine arun_nil ?_
        refine athen_n ?_
        refine AWP.sub [(0, _), (1, _), (2, _), (3, _), (4, _), (8, _), (9, _), (10, _), (16, _), (24, _), (30, _), (46, _)] ⟨rfl, rfl, rfl, rfl, rfl, rfl, rfl, rfl, rfl, rfl, rfl, rfl, trivial⟩ ?_
        refine AWP.condB rfl (fun hb => ?_) (fun hb => ?_)
        · have hb := of_decide_eq_true hb
          rw [if_pos (show (addW d (s, k, data)).fuse = 0 from hb)]
          refine AWP.seq ?_
          refine AWP.region ?_
          refine rC (Calm.fieldAddr ty_field_25_4 rfl) ?_
          refine ARun.store1 rfl rfl ty_size_4 rfl own_ lens_ rfl ?_
          (try simp only [Mem.set_set, List.set_cons_zero, List.set_cons_succ, Nat.zero_add, Nat.reduceAdd])
          refine arun_nil ?_
          refine athen_n ?_
          refine AWP.sub [(0, _), (1, _), (2, _), (3, _), (4, _), (8, _), (9, _), (10, _), (16, _), (24, _), (30, _), (46, _)] ⟨rfl, rfl, rfl, rfl, rfl, rfl, rfl, rfl, rfl, rfl, rfl, rfl, trivial⟩ ?_
          refine AWP.seq ?_
          refine AWP.region ?_
          refine rC (ldA_ (cs := [_, _, _, _, _]) ty_agg_25 ty_size_25 rfl) ?_
          first | refine ARun.storeAll rfl rfl ty_size_25 own_ rfl rfl ?_ | refine ARun.store rfl rfl ty_size_25 own_ lens_ rfl ?_
          (try simp only [Mem.set_set, List.set_cons_zero, List.set_cons_succ, Nat.zero_add, Nat.reduceAdd])
          refine rC (Calm.assign rfl) ?_
          refine arun_nil ?_
          refine athen_n ?_
          refine AWP.sub [(0, _), (1, _), (2, _), (3, _), (4, _), (8, _), (9, _), (10, _), (16, _), (24, _), (30, _), (46, _)] ⟨rfl, rfl, rfl, rfl, rfl, rfl, rfl, rfl, rfl, rfl, rfl, rfl, trivial⟩ ?_
          refine AWP.ret ?_
          refine athen_ret ?_
          refine ⟨_, dkM S (addW d (s, k, data)) oE o2, ⟨_, _, _, rfl, .inr ⟨ty_agg_25, [_, _, _, _, _], ty_size_25, rds_, rfl⟩, ⟨_, _, rfl, rfl, rfl⟩, rfl⟩, hlf _ _, ?_⟩
          exact ⟨_, rfl, hS2, ⟨_, _, _, _, hval _ _, hsE, hsW⟩⟩
        · have hb := of_decide_eq_false hb
          rw [if_neg (show ¬ (addW d (s, k, data)).fuse = 0 from hb)]
          refine AWP.skip ?_
          refine athen_n ?_
          refine AWP.seq ?_
          refine AWP.seq ?_
          refine AWP.region ?_
          refine rC (Calm.fieldAddr ty_field_25_3 rfl) ?_
          refine rC (ld_ ty_plain_3 rfl) ?_
          refine rC (Calm.bin rfl rfl b_gtr) ?_
          refine arun_nil ?_
          refine athen_n ?_
          refine AWP.sub [(0, _), (1, _), (2, _), (3, _), (4, _), (8, _), (9, _), (10, _), (16, _), (24, _), (30, _), (46, _), (51, _)] ⟨rfl, rfl, rfl, rfl, rfl, rfl, rfl, rfl, rfl, rfl, rfl, rfl, rfl, trivial⟩ ?_
          refine AWP.condB rfl (fun hc => ?_) (fun hc => ?_)
          · have hc := of_decide_eq_true hc
            have hf1 := hz.f1
            rw [if_pos (show 0 < (addW d (s, k, data)).fuse from hc)]
            refine AWP.region ?_
            refine rC (Calm.fieldAddr ty_field_25_3 rfl) ?_
            refine rC (ld_ ty_plain_3 rfl) ?_
            refine rC (Calm.bin rfl rfl b_sub_i64) ?_
            refine rC (Calm.fieldAddr ty_field_25_3 rfl) ?_
            refine ARun.store1 rfl rfl ty_size_3 rfl own_ lens_ rfl ?_
            (try simp only [Mem.set_set, List.set_cons_zero, List.set_cons_succ, Nat.zero_add, Nat.reduceAdd])
            refine arun_nil ?_
            refine athen_n ?_
            refine AWP.sub [(0, _), (1, _), (2, _), (3, _), (4, _), (8, _), (9, _), (10, _), (16, _), (24, _), (30, _), (46, _), (51, _)] ⟨rfl, rfl, rfl, rfl, rfl, rfl, rfl, rfl, rfl, rfl, rfl, rfl, rfl, trivial⟩ ?_
            refine AWP.seq ?_
            refine AWP.region ?_
            refine rC (ldA_ (cs := [_, _, _, _, _]) ty_agg_25 ty_size_25 rfl) ?_
            first | refine ARun.storeAll rfl rfl ty_size_25 own_ rfl rfl ?_ | refine ARun.store rfl rfl ty_size_25 own_ lens_ rfl ?_
            (try simp only [Mem.set_set, List.set_cons_zero, List.set_cons_succ, Nat.zero_add, Nat.reduceAdd])
            refine rC (Calm.assign rfl) ?_
            refine arun_nil ?_
            refine athen_n ?_
            refine AWP.sub [(0, _), (1, _), (2, _), (3, _), (4, _), (8, _), (9, _), (10, _), (16, _), (24, _), (30, _), (46, _), (51, _)] ⟨rfl, rfl, rfl, rfl, rfl, rfl, rfl, rfl, rfl, rfl, rfl, rfl, rfl, trivial⟩ ?_
            refine AWP.ret ?_
            refine ⟨_, dkM S (addW d (s, k, data)) oE o2, ⟨_, _, _, rfl, .inr ⟨ty_agg_25, [_, _, _, _, _], ty_size_25, rds_, rfl⟩, ⟨_, _, rfl, rfl, rfl⟩, rfl⟩, hlf _ _, ?_⟩
            exact ⟨_, rfl, hS2, ⟨_, _, _, _, hval _ _, hsE, hsW⟩⟩
          · have hc := of_decide_eq_false hc
            rw [if_neg (show ¬ 0 < (addW d (s, k, data)).fuse from hc)]
            refine AWP.skip ?_
            refine athen_n ?_
            refine AWP.seq ?_
            refine AWP.region ?_
            refine rC (ldA_ (cs := [_, _, _, _, _]) ty_agg_25 ty_size_25 rfl) ?_
            first | refine ARun.storeAll rfl rfl ty_size_25 own_ rfl rfl ?_ | refine ARun.store rfl rfl ty_size_25 own_ lens_ rfl ?_
            (try simp only [Mem.set_set, List.set_cons_zero, List.set_cons_succ, Nat.zero_add, Nat.reduceAdd])
            refine rC (Calm.assign rfl) ?_
            refine arun_nil ?_
            refine athen_n ?_
            refine AWP.sub [(0, _), (1, _), (2, _), (3, _), (4, _), (8, _), (9, _), (10, _), (16, _), (24, _), (30, _), (46, _), (51, _)] ⟨rfl, rfl, rfl, rfl, rfl, rfl, rfl, rfl, rfl, rfl, rfl, rfl, rfl, trivial⟩ ?_
            refine AWP.ret ?_
            refine ⟨_, dkM S (addW d (s, k, data)) oE o2, ⟨_, _, _, rfl, .inr ⟨ty_agg_25, [_, _, _, _, _], ty_size_25, rds_, rfl⟩, ⟨_, _, rfl, rfl, rfl⟩, rfl⟩, hlf _ _, ?_⟩
            exact ⟨_, rfl, hS2, ⟨_, _, _, _, hval _ _, hsE, hsW⟩⟩
end Go.Proofs.Ytkeiphkccnfhoaa
