/-
  Disk, the document's side: Move.
-/
import Derived.Test.YtkeiphkccnfhoaaDR14
namespace Go.Proofs.Ytkeiphkccnfhoaa
open Go.RowKit
open Mv Disk
set_option linter.unusedVariables false
set_option linter.unusedSimpArgs false
set_option maxRecDepth 4000

def movW (fr tn : ByteArray) (l : List Wr) : List Wr := (filt tn l).map (renW fr tn)
theorem mov_take {l : List Wr} {i : Nat} (h : i < l.length) (fr tn : ByteArray) : movW fr tn (l.take (i + 1)) = if l[i].1 = tn then movW fr tn (l.take i) else movW fr tn (l.take i) ++ [renW fr tn l[i]] := by
  unfold movW
  rw [filt_take h]
  by_cases e : l[i].1 = tn
  · rw [if_pos e, if_pos e]
  · rw [if_neg e, if_neg e, List.map_append]; rfl
theorem mov_le (fr tn : ByteArray) (l : List Wr) : (movW fr tn l).length ≤ l.length := by unfold movW; rw [List.length_map]; exact filt_le _ _
theorem some_val {a b : Value} (h : a = b) : some a = some b := by rw [h]
set_option maxHeartbeats 4000000 in
theorem rd_Move (v : Value) (d : D) (fr tn : ByteArray) (S : Mem) (hd : DkR S v d) (hz : Dz d) :
    ACall Try.prog 18 #[v, .string fr, .string tn] S (DkRes (opened d (moveD d fr tn)) S) := by
  have hpow := fun M h => rd_power v d M h hz
  have hasw := fun why => rd_as v d why S hd hz
  have hcopy := fun M h => rd_CopyW v d M h hz
  obtain ⟨pe, ce, pw, cw, rfl, hE, hW⟩ := id hd
  unfold opened
  rcases openD_or d with ⟨ho, hR⟩ | ⟨ho, hR, hdn⟩ | ⟨ho, hR, hdn⟩ <;> (simp only [ho] at hpow ⊢)
  · have hasw := hasw 2; rw [asD_no hR] at hasw; rw [if_neg (by decide)]
    refine ACall.enter (args := [.agg #[.int .i64 d.size, .slice pe d.ext.length ce, .slice pw d.waits.length cw, .int .i64 d.fuse, .bool d.down], .string fr, .string tn]) (rs := [.cell 6 25, .tmp 7]) 92 [(0, .agg #[.int .i64 d.size, .slice pe d.ext.length ce, .slice pw d.waits.length cw, .int .i64 d.fuse, .bool d.down]), (1, .string fr), (2, .string tn)] Try.func18 rfl rfl (Nat.le_of_ble_eq_true rfl) rfl ⟨rfl, rfl, rfl, trivial⟩ ?_
    refine AWP.seq ?_
    refine AWP.region ?_
    refine ARun.boxA (cs := [_, _, _, _, _]) (lit_lt rfl) rfl ?_
    intro b3 f3
    have g3 := f3
    repeat ((with_reducible replace g3 := fresh_set g3); obtain ⟨g3, _⟩ := g3)
    (try simp only [List.length_cons, List.length_nil, Nat.zero_add, Nat.reduceAdd])
    refine ARun.alloc (lit_lt rfl) ty_zero_25 ?_
    intro b6 f6
    have g6 := f6
    repeat ((with_reducible replace g6 := fresh_set g6); obtain ⟨g6, _⟩ := g6)
    (try simp only [List.length_cons, List.length_nil, Nat.zero_add, Nat.reduceAdd])
    refine rC (Calm.assign rfl) ?_
    refine arun_nil ?_
    refine athen_n ?_
    refine AWP.seq ?_
    refine AWP.region ?_
    refine rC (ldA_ (cs := [_, _, _, _, _]) ty_agg_25 ty_size_25 rfl) ?_
    refine ARun.call (lit_lt rfl) go_47 rfl (hpow _ (hd.less less_)) ?_
    rintro _ S1 ⟨rfl, h1⟩
    rw [h1]; clear h1 S1
    refine rC (Calm.assign rfl) ?_
    refine arun_nil ?_
    refine athen_n ?_
    refine AWP.sub [(0, _), (1, _), (2, _), (3, _), (6, _), (7, _), (8, _)] ⟨rfl, rfl, rfl, rfl, rfl, rfl, rfl, trivial⟩ ?_
    refine AWP.seq ?_
    refine AWP.seq ?_
    refine AWP.region ?_
    refine rC (Calm.move rfl) ?_
    refine rC (Calm.bin rfl rfl b_neq) ?_
    refine arun_nil ?_
    refine athen_n ?_
    refine AWP.sub [(0, _), (1, _), (2, _), (3, _), (6, _), (7, _), (8, _), (18, _)] ⟨rfl, rfl, rfl, rfl, rfl, rfl, rfl, rfl, trivial⟩ ?_
    refine AWP.condT rfl (by first | rfl | (simp; done) | (simp; omega)) ?_
    refine AWP.seq ?_
    refine AWP.region ?_
    refine rC (ldA_ (cs := [_, _, _, _, _]) ty_agg_25 ty_size_25 rfl) ?_
    refine rC (Calm.move rfl) ?_
    refine ARun.call (lit_lt rfl) go_48 rfl (((hasw).frame f3).frame f6) ?_
    rintro _ S1 ⟨Sa, ⟨M, ⟨v', rfl, hSM, hdk⟩, fa, hSa⟩, fb, h1⟩
    rw [h1, hSa]; rw [hSa] at fb; clear h1 S1 hSa Sa
    obtain ⟨fbm, nba⟩ := fresh_set fb
    obtain ⟨qe, de, qw, dw, rfl, hE2, hW2⟩ := id hdk
    refine rC (Calm.extract rfl rfl) ?_
    refine rC (Calm.extract rfl rfl) ?_
    first | refine ARun.storeAll rfl rfl ty_size_25 own_ rfl rfl ?_ | refine ARun.store rfl rfl ty_size_25 own_ lens_ rfl ?_
    (try simp only [Mem.set_set, List.set_cons_zero, List.set_cons_succ, Nat.zero_add, Nat.reduceAdd])
    refine rC (Calm.assign rfl) ?_
    refine arun_nil ?_
    refine athen_n ?_
    refine AWP.sub [(0, _), (1, _), (2, _), (3, _), (6, _), (7, _), (8, _), (18, _)] ⟨rfl, rfl, rfl, rfl, rfl, rfl, rfl, rfl, trivial⟩ ?_
    refine AWP.ret ?_
    refine athen_ret ?_
    refine ⟨_, M, ⟨_, _, _, rfl, .inr ⟨ty_agg_25, [_, _, _, _, _], ty_size_25, rds_, rfl⟩, ⟨_, _, rfl, rfl, rfl⟩, rfl⟩, less_, ?_⟩
    exact ⟨_, rfl, hSM, hdk⟩
  · have hasw := hasw 10; rw [asD_ok hR] at hasw; rw [if_neg (by decide)]
    refine ACall.enter (args := [.agg #[.int .i64 d.size, .slice pe d.ext.length ce, .slice pw d.waits.length cw, .int .i64 d.fuse, .bool d.down], .string fr, .string tn]) (rs := [.cell 6 25, .tmp 7]) 92 [(0, .agg #[.int .i64 d.size, .slice pe d.ext.length ce, .slice pw d.waits.length cw, .int .i64 d.fuse, .bool d.down]), (1, .string fr), (2, .string tn)] Try.func18 rfl rfl (Nat.le_of_ble_eq_true rfl) rfl ⟨rfl, rfl, rfl, trivial⟩ ?_
    refine AWP.seq ?_
    refine AWP.region ?_
    refine ARun.boxA (cs := [_, _, _, _, _]) (lit_lt rfl) rfl ?_
    intro b3 f3
    have g3 := f3
    repeat ((with_reducible replace g3 := fresh_set g3); obtain ⟨g3, _⟩ := g3)
    (try simp only [List.length_cons, List.length_nil, Nat.zero_add, Nat.reduceAdd])
    refine ARun.alloc (lit_lt rfl) ty_zero_25 ?_
    intro b6 f6
    have g6 := f6
    repeat ((with_reducible replace g6 := fresh_set g6); obtain ⟨g6, _⟩ := g6)
    (try simp only [List.length_cons, List.length_nil, Nat.zero_add, Nat.reduceAdd])
    refine rC (Calm.assign rfl) ?_
    refine arun_nil ?_
    refine athen_n ?_
    refine AWP.seq ?_
    refine AWP.region ?_
    refine rC (ldA_ (cs := [_, _, _, _, _]) ty_agg_25 ty_size_25 rfl) ?_
    refine ARun.call (lit_lt rfl) go_47 rfl (hpow _ (hd.less less_)) ?_
    rintro _ S1 ⟨rfl, h1⟩
    rw [h1]; clear h1 S1
    refine rC (Calm.assign rfl) ?_
    refine arun_nil ?_
    refine athen_n ?_
    refine AWP.sub [(0, _), (1, _), (2, _), (3, _), (6, _), (7, _), (8, _)] ⟨rfl, rfl, rfl, rfl, rfl, rfl, rfl, trivial⟩ ?_
    refine AWP.seq ?_
    refine AWP.seq ?_
    refine AWP.region ?_
    refine rC (Calm.move rfl) ?_
    refine rC (Calm.bin rfl rfl b_neq) ?_
    refine arun_nil ?_
    refine athen_n ?_
    refine AWP.sub [(0, _), (1, _), (2, _), (3, _), (6, _), (7, _), (8, _), (18, _)] ⟨rfl, rfl, rfl, rfl, rfl, rfl, rfl, rfl, trivial⟩ ?_
    refine AWP.condT rfl (by first | rfl | (simp; done) | (simp; omega)) ?_
    refine AWP.seq ?_
    refine AWP.region ?_
    refine rC (ldA_ (cs := [_, _, _, _, _]) ty_agg_25 ty_size_25 rfl) ?_
    refine rC (Calm.move rfl) ?_
    refine ARun.call (lit_lt rfl) go_48 rfl (((hasw).frame f3).frame f6) ?_
    rintro _ S1 ⟨Sa, ⟨M, ⟨v', rfl, hSM, hdk⟩, fa, hSa⟩, fb, h1⟩
    rw [h1, hSa]; rw [hSa] at fb; clear h1 S1 hSa Sa
    obtain ⟨fbm, nba⟩ := fresh_set fb
    obtain ⟨qe, de, qw, dw, rfl, hE2, hW2⟩ := id hdk
    refine rC (Calm.extract rfl rfl) ?_
    refine rC (Calm.extract rfl rfl) ?_
    first | refine ARun.storeAll rfl rfl ty_size_25 own_ rfl rfl ?_ | refine ARun.store rfl rfl ty_size_25 own_ lens_ rfl ?_
    (try simp only [Mem.set_set, List.set_cons_zero, List.set_cons_succ, Nat.zero_add, Nat.reduceAdd])
    refine rC (Calm.assign rfl) ?_
    refine arun_nil ?_
    refine athen_n ?_
    refine AWP.sub [(0, _), (1, _), (2, _), (3, _), (6, _), (7, _), (8, _), (18, _)] ⟨rfl, rfl, rfl, rfl, rfl, rfl, rfl, rfl, trivial⟩ ?_
    refine AWP.ret ?_
    refine athen_ret ?_
    refine ⟨_, M, ⟨_, _, _, rfl, .inr ⟨ty_agg_25, [_, _, _, _, _], ty_size_25, rds_, rfl⟩, ⟨_, _, rfl, rfl, rfl⟩, rfl⟩, less_, ?_⟩
    exact ⟨_, rfl, hSM, hdk⟩
  · simp only [asD_ok hR] at hasw
    rw [if_pos trivial]
    have hrl := right_len hR; have hwl := hR.wl
    unfold moveD
    by_cases q1 : nm tn
    · rw [if_neg (fun h => h q1)]
      by_cases q2 : has d.ext fr = true
      · rw [if_pos q2]
        have hf : fnd d.ext fr = (pos d.ext fr : Nat) := by unfold fnd; rw [if_pos q2]
        by_cases q3 : fr = tn
        · rw [if_pos q3]
          refine ACall.enter (args := [.agg #[.int .i64 d.size, .slice pe d.ext.length ce, .slice pw d.waits.length cw, .int .i64 d.fuse, .bool d.down], .string fr, .string tn]) (rs := [.cell 6 25, .tmp 7]) 92 [(0, .agg #[.int .i64 d.size, .slice pe d.ext.length ce, .slice pw d.waits.length cw, .int .i64 d.fuse, .bool d.down]), (1, .string fr), (2, .string tn)] Try.func18 rfl rfl (Nat.le_of_ble_eq_true rfl) rfl ⟨rfl, rfl, rfl, trivial⟩ ?_
          refine AWP.seq ?_
          refine AWP.region ?_
          refine ARun.boxA (cs := [_, _, _, _, _]) (lit_lt rfl) rfl ?_
          intro b3 f3
          have g3 := f3
          repeat ((with_reducible replace g3 := fresh_set g3); obtain ⟨g3, _⟩ := g3)
          (try simp only [List.length_cons, List.length_nil, Nat.zero_add, Nat.reduceAdd])
          refine ARun.alloc (lit_lt rfl) ty_zero_25 ?_
          intro b6 f6
          have g6 := f6
          repeat ((with_reducible replace g6 := fresh_set g6); obtain ⟨g6, _⟩ := g6)
          (try simp only [List.length_cons, List.length_nil, Nat.zero_add, Nat.reduceAdd])
          refine rC (Calm.assign rfl) ?_
          refine arun_nil ?_
          refine athen_n ?_
          refine AWP.seq ?_
          refine AWP.region ?_
          refine rC (ldA_ (cs := [_, _, _, _, _]) ty_agg_25 ty_size_25 rfl) ?_
          refine ARun.call (lit_lt rfl) go_47 rfl (hpow _ (hd.less less_)) ?_
          rintro _ S1 ⟨rfl, h1⟩
          rw [h1]; clear h1 S1
          refine rC (Calm.assign rfl) ?_
          refine arun_nil ?_
          refine athen_n ?_
          refine AWP.sub [(0, _), (1, _), (2, _), (3, _), (6, _), (7, _), (8, _)] ⟨rfl, rfl, rfl, rfl, rfl, rfl, rfl, trivial⟩ ?_
          refine AWP.seq ?_
          refine AWP.seq ?_
          refine AWP.region ?_
          refine rC (Calm.move rfl) ?_
          refine rC (Calm.bin rfl rfl b_neq) ?_
          refine arun_nil ?_
          refine athen_n ?_
          refine AWP.sub [(0, _), (1, _), (2, _), (3, _), (6, _), (7, _), (8, _), (18, _)] ⟨rfl, rfl, rfl, rfl, rfl, rfl, rfl, rfl, trivial⟩ ?_
          refine AWP.condF rfl (by first | rfl | (simp; done) | (simp; omega)) ?_
          refine AWP.skip ?_
          refine athen_n ?_
          refine AWP.seq ?_
          refine AWP.seq ?_
          refine AWP.region ?_
          refine rC (Calm.move rfl) ?_
          refine ARun.call (lit_lt rfl) go_49 rfl (rd_Named _ _) ?_
          rintro _ S1 ⟨rfl, h1⟩
          rw [h1, decide_eq_true q1]; clear h1 S1
          refine rC (Calm.un rfl (una_not _)) ?_
          refine arun_nil ?_
          refine athen_n ?_
          refine AWP.sub [(0, _), (1, _), (2, _), (3, _), (6, _), (7, _), (8, _), (18, _), (26, _)] ⟨rfl, rfl, rfl, rfl, rfl, rfl, rfl, rfl, rfl, trivial⟩ ?_
          refine AWP.condF rfl (by first | rfl | (simp; done) | (simp; omega)) ?_
          refine AWP.skip ?_
          refine athen_n ?_
          refine AWP.seq ?_
          refine AWP.region ?_
          refine rC (Calm.fieldAddr ty_field_25_1 rfl) ?_
          refine rC (ld_ ty_plain_22 rfl) ?_
          refine rC (Calm.move rfl) ?_
          refine ARun.call (lit_lt rfl) go_50 rfl (rd_Find _ d.ext fr _ (hE.less less_) hR.ex.asc) ?_
          rintro _ S1 ⟨rfl, h1⟩
          rw [h1, hf]; clear h1 S1
          refine rC (Calm.assign rfl) ?_
          refine arun_nil ?_
          refine athen_n ?_
          refine AWP.sub [(0, _), (1, _), (2, _), (3, _), (6, _), (7, _), (8, _), (18, _), (26, _), (9, _)] ⟨rfl, rfl, rfl, rfl, rfl, rfl, rfl, rfl, rfl, rfl, trivial⟩ ?_
          refine AWP.seq ?_
          refine AWP.seq ?_
          refine AWP.region ?_
          refine rC (Calm.move rfl) ?_
          refine rC (Calm.bin rfl rfl b_lss) ?_
          refine arun_nil ?_
          refine athen_n ?_
          refine AWP.sub [(0, _), (1, _), (2, _), (3, _), (6, _), (7, _), (8, _), (18, _), (26, _), (9, _), (36, _)] ⟨rfl, rfl, rfl, rfl, rfl, rfl, rfl, rfl, rfl, rfl, rfl, trivial⟩ ?_
          refine AWP.condF rfl (by first | rfl | (simp; done) | (simp; omega)) ?_
          refine AWP.skip ?_
          refine athen_n ?_
          refine AWP.seq ?_
          refine AWP.seq ?_
          refine AWP.region ?_
          refine rC (Calm.move rfl) ?_
          refine rC (Calm.move rfl) ?_
          refine rC (Calm.bin rfl rfl (bin_bool (bin_str_eql _ _) (decide_eq_true q3))) ?_
          refine arun_nil ?_
          refine athen_n ?_
          refine AWP.sub [(0, _), (1, _), (2, _), (3, _), (6, _), (7, _), (8, _), (18, _), (26, _), (9, _), (36, _), (43, _)] ⟨rfl, rfl, rfl, rfl, rfl, rfl, rfl, rfl, rfl, rfl, rfl, rfl, trivial⟩ ?_
          refine AWP.condT rfl (by first | rfl | (simp; done) | (simp; omega)) ?_
          refine AWP.seq ?_
          refine AWP.region ?_
          refine rC (ldA_ (cs := [_, _, _, _, _]) ty_agg_25 ty_size_25 rfl) ?_
          refine ARun.call (lit_lt rfl) go_48 rfl (((hasw 0).frame f3).frame f6) ?_
          rintro _ S1 ⟨Sa, ⟨M, ⟨v', rfl, hSM, hdk⟩, fa, hSa⟩, fb, h1⟩
          rw [h1, hSa]; rw [hSa] at fb; clear h1 S1 hSa Sa
          obtain ⟨fbm, nba⟩ := fresh_set fb
          obtain ⟨qe, de, qw, dw, rfl, hE2, hW2⟩ := id hdk
          refine rC (Calm.extract rfl rfl) ?_
          refine rC (Calm.extract rfl rfl) ?_
          first | refine ARun.storeAll rfl rfl ty_size_25 own_ rfl rfl ?_ | refine ARun.store rfl rfl ty_size_25 own_ lens_ rfl ?_
          (try simp only [Mem.set_set, List.set_cons_zero, List.set_cons_succ, Nat.zero_add, Nat.reduceAdd])
          refine rC (Calm.assign rfl) ?_
          refine arun_nil ?_
          refine athen_n ?_
          refine AWP.sub [(0, _), (1, _), (2, _), (3, _), (6, _), (7, _), (8, _), (18, _), (26, _), (9, _), (36, _), (43, _)] ⟨rfl, rfl, rfl, rfl, rfl, rfl, rfl, rfl, rfl, rfl, rfl, rfl, trivial⟩ ?_
          refine AWP.ret ?_
          refine athen_ret ?_
          refine ⟨_, M, ⟨_, _, _, rfl, .inr ⟨ty_agg_25, [_, _, _, _, _], ty_size_25, rds_, rfl⟩, ⟨_, _, rfl, rfl, rfl⟩, rfl⟩, less_, ?_⟩
          exact ⟨_, rfl, hSM, hdk⟩
        · rw [if_neg q3, move_doc hR q2 q3]
          obtain ⟨hlt, he⟩ := (has_pos hR.ex.asc fr).1 q2
          rw [exOf_eq hlt]
          obtain ⟨_, _, ee1, ee2, ee3, hE3⟩ := id hE
          obtain ⟨_, _, ew1, ew2, ew3, hW3⟩ := id hW
          cases ee1; cases ew1
          obtain ⟨b, off, rfl, hk⟩ := hE3.resolve_left (fun e => by rw [e] at hlt; simp at hlt)
          have hki := hk _ hlt
          generalize pos d.ext fr = p at *
          generalize d.ext[p] = x at *
          unfold extF at hki
          refine ACall.enter (args := [.agg #[.int .i64 d.size, .slice (some ⟨b, off, none⟩) d.ext.length ce, .slice pw d.waits.length cw, .int .i64 d.fuse, .bool d.down], .string fr, .string tn]) (rs := [.cell 6 25, .tmp 7]) 92 [(0, .agg #[.int .i64 d.size, .slice (some ⟨b, off, none⟩) d.ext.length ce, .slice pw d.waits.length cw, .int .i64 d.fuse, .bool d.down]), (1, .string fr), (2, .string tn)] Try.func18 rfl rfl (Nat.le_of_ble_eq_true rfl) rfl ⟨rfl, rfl, rfl, trivial⟩ ?_
          refine AWP.seq ?_
          refine AWP.region ?_
          refine ARun.boxA (cs := [_, _, _, _, _]) (lit_lt rfl) rfl ?_
          intro b3 f3
          have g3 := f3
          repeat ((with_reducible replace g3 := fresh_set g3); obtain ⟨g3, _⟩ := g3)
          (try simp only [List.length_cons, List.length_nil, Nat.zero_add, Nat.reduceAdd])
          refine ARun.alloc (lit_lt rfl) ty_zero_25 ?_
          intro b6 f6
          have g6 := f6
          repeat ((with_reducible replace g6 := fresh_set g6); obtain ⟨g6, _⟩ := g6)
          (try simp only [List.length_cons, List.length_nil, Nat.zero_add, Nat.reduceAdd])
          refine rC (Calm.assign rfl) ?_
          refine arun_nil ?_
          refine athen_n ?_
          refine AWP.seq ?_
          refine AWP.region ?_
          refine rC (ldA_ (cs := [_, _, _, _, _]) ty_agg_25 ty_size_25 rfl) ?_
          refine ARun.call (lit_lt rfl) go_47 rfl (hpow _ (hd.less less_)) ?_
          rintro _ S1 ⟨rfl, h1⟩
          rw [h1]; clear h1 S1
          refine rC (Calm.assign rfl) ?_
          refine arun_nil ?_
          refine athen_n ?_
          refine AWP.sub [(0, _), (1, _), (2, _), (3, _), (6, _), (7, _), (8, _)] ⟨rfl, rfl, rfl, rfl, rfl, rfl, rfl, trivial⟩ ?_
          refine AWP.seq ?_
          refine AWP.seq ?_
          refine AWP.region ?_
          refine rC (Calm.move rfl) ?_
          refine rC (Calm.bin rfl rfl b_neq) ?_
          refine arun_nil ?_
          refine athen_n ?_
          refine AWP.sub [(0, _), (1, _), (2, _), (3, _), (6, _), (7, _), (8, _), (18, _)] ⟨rfl, rfl, rfl, rfl, rfl, rfl, rfl, rfl, trivial⟩ ?_
          refine AWP.condF rfl (by first | rfl | (simp; done) | (simp; omega)) ?_
          refine AWP.skip ?_
          refine athen_n ?_
          refine AWP.seq ?_
          refine AWP.seq ?_
          refine AWP.region ?_
          refine rC (Calm.move rfl) ?_
          refine ARun.call (lit_lt rfl) go_49 rfl (rd_Named _ _) ?_
          rintro _ S1 ⟨rfl, h1⟩
          rw [h1, decide_eq_true q1]; clear h1 S1
          refine rC (Calm.un rfl (una_not _)) ?_
          refine arun_nil ?_
          refine athen_n ?_
          refine AWP.sub [(0, _), (1, _), (2, _), (3, _), (6, _), (7, _), (8, _), (18, _), (26, _)] ⟨rfl, rfl, rfl, rfl, rfl, rfl, rfl, rfl, rfl, trivial⟩ ?_
          refine AWP.condF rfl (by first | rfl | (simp; done) | (simp; omega)) ?_
          refine AWP.skip ?_
          refine athen_n ?_
          refine AWP.seq ?_
          refine AWP.region ?_
          refine rC (Calm.fieldAddr ty_field_25_1 rfl) ?_
          refine rC (ld_ ty_plain_22 rfl) ?_
          refine rC (Calm.move rfl) ?_
          refine ARun.call (lit_lt rfl) go_50 rfl (rd_Find _ d.ext fr _ (hE.less less_) hR.ex.asc) ?_
          rintro _ S1 ⟨rfl, h1⟩
          rw [h1, hf]; clear h1 S1
          refine rC (Calm.assign rfl) ?_
          refine arun_nil ?_
          refine athen_n ?_
          refine AWP.sub [(0, _), (1, _), (2, _), (3, _), (6, _), (7, _), (8, _), (18, _), (26, _), (9, _)] ⟨rfl, rfl, rfl, rfl, rfl, rfl, rfl, rfl, rfl, rfl, trivial⟩ ?_
          refine AWP.seq ?_
          refine AWP.seq ?_
          refine AWP.region ?_
          refine rC (Calm.move rfl) ?_
          refine rC (Calm.bin rfl rfl b_lss) ?_
          refine arun_nil ?_
          refine athen_n ?_
          refine AWP.sub [(0, _), (1, _), (2, _), (3, _), (6, _), (7, _), (8, _), (18, _), (26, _), (9, _), (36, _)] ⟨rfl, rfl, rfl, rfl, rfl, rfl, rfl, rfl, rfl, rfl, rfl, trivial⟩ ?_
          refine AWP.condF rfl (by first | rfl | (simp; done) | (simp; omega)) ?_
          refine AWP.skip ?_
          refine athen_n ?_
          refine AWP.seq ?_
          refine AWP.seq ?_
          refine AWP.region ?_
          refine rC (Calm.move rfl) ?_
          refine rC (Calm.move rfl) ?_
          refine rC (Calm.bin rfl rfl (bin_bool (bin_str_eql _ _) (decide_eq_false q3))) ?_
          refine arun_nil ?_
          refine athen_n ?_
          refine AWP.sub [(0, _), (1, _), (2, _), (3, _), (6, _), (7, _), (8, _), (18, _), (26, _), (9, _), (36, _), (43, _)] ⟨rfl, rfl, rfl, rfl, rfl, rfl, rfl, rfl, rfl, rfl, rfl, rfl, trivial⟩ ?_
          refine AWP.condF rfl (by first | rfl | (simp; done) | (simp; omega)) ?_
          refine AWP.skip ?_
          refine athen_n ?_
          refine AWP.seq ?_
          refine AWP.region ?_
          refine rC (Calm.fieldAddr ty_field_25_1 rfl) ?_
          refine rC (ld_ ty_plain_22 rfl) ?_
          refine rC (Calm.move rfl) ?_
          refine rC (Calm.indexS Try.underlying22 ty_size_54 rfl rfl (by omega) (by omega)) ?_
          refine rC (ldA_ (cs := [_, _]) ty_agg_54 ty_size_54 rfl) ?_
          refine ARun.alloc (lit_lt rfl) ty_zero_54 ?_
          intro b10 f10
          have g10 := f10
          repeat ((with_reducible replace g10 := fresh_set g10); obtain ⟨g10, _⟩ := g10)
          (try simp only [List.length_cons, List.length_nil, Nat.zero_add, Nat.reduceAdd])
          first | refine ARun.storeAll rfl rfl ty_size_54 own_ rfl rfl ?_ | refine ARun.store rfl rfl ty_size_54 own_ lens_ rfl ?_
          (try simp only [Mem.set_set, List.set_cons_zero, List.set_cons_succ, Nat.zero_add, Nat.reduceAdd])
          refine arun_nil ?_
          refine athen_n ?_
          refine AWP.sub [(0, _), (1, _), (2, _), (3, _), (6, _), (7, _), (8, _), (18, _), (26, _), (9, _), (36, _), (43, _), (10, _)] ⟨rfl, rfl, rfl, rfl, rfl, rfl, rfl, rfl, rfl, rfl, rfl, rfl, rfl, trivial⟩ ?_
          have n610 : b6 ≠ b10 := by obtain ⟨g, hn⟩ := fresh_set f10; exact Ne.symm hn
          have f10b : Fresh (S.set b3 (boxD d (.slice (some ⟨b, off, none⟩) d.ext.length ce) (.slice pw d.waits.length cw))) b10 := (fresh_set f10).1
          have n310 : b3 ≠ b10 := Ne.symm (fresh_set f10b).2
          have n36 : b6 ≠ b3 := (fresh_set f6).2
          have f6b : Fresh ((S.set b3 (boxD d (.slice (some ⟨b, off, none⟩) d.ext.length ce) (.slice pw d.waits.length cw))).set b10 ⟨extT, [.string x.1, .string x.2], 2⟩) b6 := fresh_more f6 n610
          rw [Mem.set_comm' _ _ _ n610]
          obtain ⟨T10, hT10⟩ : ∃ T10, (S.set b3 (boxD d (.slice (some ⟨b, off, none⟩) d.ext.length ce) (.slice pw d.waits.length cw))).set b10 ⟨extT, [.string x.1, .string x.2], 2⟩ = T10 := ⟨_, rfl⟩
          have kb3 : T10.own b3 = some (boxD d (.slice (some ⟨b, off, none⟩) d.ext.length ce) (.slice pw d.waits.length cw)) := by rw [← hT10]; exact (Mem.own_set_other _ _ n310).trans (Mem.own_set_same _ _ _)
          have kb10 : T10.own b10 = some ⟨extT, [.string x.1, .string x.2], 2⟩ := by rw [← hT10]; exact Mem.own_set_same _ _ _
          have hST : S.Less T10 := by rw [← hT10]; exact (Mem.less_set _ _ _ f3.1).trans (Mem.less_set _ _ _ f10b.1)
          rw [hT10] at f6b
          have n3k := f6b.ne kb3
          have n10k := f6b.ne kb10
          unfold boxD at hT10 kb3
          rw [show _ = T10 from hT10]
          refine AWP.seq ?_
          refine AWP.region ?_
          refine rC (Calm.assign rfl) ?_
          refine arun_nil ?_
          refine athen_n ?_
          refine AWP.seq ?_
          refine AWP.seq ?_
          refine AWP.region ?_
          refine rC (Calm.fieldAddr ty_field_25_2 rfl) ?_
          refine rC (ld_ ty_plain_23 rfl) ?_
          refine rC (Calm.lenSl Try.underlying23 rfl) ?_
          refine rC (Calm.move rfl) ?_
          refine arun_nil ?_
          refine athen_n ?_
          refine AWP.sub [(0, _), (1, _), (2, _), (3, _), (6, _), (7, _), (8, _), (18, _), (26, _), (9, _), (36, _), (43, _), (10, _), (11, _), (54, _), (55, _), (56, _)] ⟨rfl, rfl, rfl, rfl, rfl, rfl, rfl, rfl, rfl, rfl, rfl, rfl, rfl, rfl, rfl, rfl, rfl, trivial⟩ ?_
          refine AWP.block ?_
          refine AWP.loop (X := Nat × Option (Nat × Nat)) (fun x => [(1, .string fr), (2, .string tn), (3, .pointer (some ⟨b3, 0, none⟩)), (6, .pointer (some ⟨b6, 0, none⟩)), (10, .pointer (some ⟨b10, 0, none⟩)), (11, outV x.2 (movW fr tn (d.waits.take x.1)).length), (54, .slice pw d.waits.length cw), (55, .int .i64 d.waits.length), (56, .int .i64 x.1)]) (fun x => outN 3 (T10.set b6 (boxD D0 (.slice none 0 0) (.slice none 0 0))) x.2 wrT ((movW fr tn (d.waits.take x.1)).flatMap wrF)) (fun x => x.1 ≤ d.waits.length ∧ OkO T10 x.2 (movW fr tn (d.waits.take x.1)).length ∧ ∀ q c, x.2 = some (q, c) → b6 ≠ q) (fun x => d.waits.length - x.1) ((0, none)) ⟨rfl, rfl, rfl, rfl, rfl, rfl, rfl, rfl, rfl, trivial⟩ (Mem.Less.refl _) (⟨Nat.zero_le _, okO_nil _, fun q c e => by cases e⟩) ?_
          rintro ⟨i, oW⟩ ⟨hi, hoW, hne⟩
          (try dsimp only at *)
          have hlei := mov_le fr tn (d.waits.take i)
          have hli : (d.waits.take i).length = i := by simp; omega
          obtain ⟨M, hM⟩ : ∃ M, outN 3 (T10.set b6 (boxD D0 (.slice none 0 0) (.slice none 0 0))) oW wrT ((movW fr tn (d.waits.take i)).flatMap wrF) = M := ⟨_, rfl⟩
          have hTM : T10.Less M := by rw [← hM]; exact (Mem.less_set _ _ _ f6b.1).trans (outN_over (hoW.set hne))
          show AWP _ _ _ _ _ (outN 3 (T10.set b6 (boxD D0 (.slice none 0 0) (.slice none 0 0))) oW wrT ((movW fr tn (d.waits.take i)).flatMap wrF))
          rw [hM]
          refine AWP.seq ?_
          refine AWP.region ?_
          refine rC (Calm.bin rfl rfl b_lss) ?_
          refine arun_nil ?_
          refine athen_n ?_
          refine AWP.seq ?_
          refine AWP.condB rfl (fun hc => ?_) (fun hc => ?_)
          · have hc : i < d.waits.length := by have := of_decide_eq_true hc; omega
            obtain ⟨bw, ow, rfl, hkw⟩ := hW3.resolve_left (fun e => by rw [e] at hc; simp at hc)
            have hkwi := ((hkw i hc).less hST).less hTM
            have hsn := mov_take hc fr tn
            generalize d.waits[i] = w at *
            unfold wrF at hkwi
            have happ : AppN 3 M (T10.set b6 (boxD D0 (.slice none 0 0) (.slice none 0 0))) oW wrT ((movW fr tn (d.waits.take i)).flatMap wrF) := by rw [← hM]; exact appN_self (hoW.set hne) (flat_length wr_len _)
            by_cases q4 : w.1 = tn
            · rw [if_pos q4] at hsn
              refine AWP.skip ?_
              refine athen_n ?_
              refine AWP.seq ?_
              refine AWP.block ?_
              refine AWP.seq ?_
              refine AWP.region ?_
              refine rC (Calm.indexS Try.underlying23 ty_size_51 rfl rfl (by omega) (by omega)) ?_
              refine rC (ldA_ (cs := [_, _, _]) ty_agg_51 ty_size_51 rfl) ?_
              refine ARun.alloc (lit_lt rfl) ty_zero_51 ?_
              intro b13 f13
              have g13 := f13
              repeat ((with_reducible replace g13 := fresh_set g13); obtain ⟨g13, _⟩ := g13)
              (try simp only [List.length_cons, List.length_nil, Nat.zero_add, Nat.reduceAdd])
              first | refine ARun.storeAll rfl rfl ty_size_51 own_ rfl rfl ?_ | refine ARun.store rfl rfl ty_size_51 own_ lens_ rfl ?_
              (try simp only [Mem.set_set, List.set_cons_zero, List.set_cons_succ, Nat.zero_add, Nat.reduceAdd])
              refine arun_nil ?_
              refine athen_n ?_
              refine AWP.sub [(1, _), (2, _), (3, _), (6, _), (10, _), (11, _), (54, _), (55, _), (56, _), (57, _), (13, _)] ⟨rfl, rfl, rfl, rfl, rfl, rfl, rfl, rfl, rfl, rfl, rfl, trivial⟩ ?_
              refine AWP.seq ?_
              refine AWP.seq ?_
              refine AWP.region ?_
              refine rC (Calm.fieldAddr ty_field_51_0 rfl) ?_
              refine rC (ld_ ty_plain_9 rfl) ?_
              refine rC (Calm.move rfl) ?_
              refine rC (Calm.bin rfl rfl (bin_bool (bin_str_eql _ _) (decide_eq_true q4))) ?_
              refine arun_nil ?_
              refine athen_n ?_
              refine AWP.sub [(1, _), (2, _), (3, _), (6, _), (10, _), (11, _), (54, _), (55, _), (56, _), (57, _), (13, _), (63, _)] ⟨rfl, rfl, rfl, rfl, rfl, rfl, rfl, rfl, rfl, rfl, rfl, rfl, trivial⟩ ?_
              refine AWP.condT rfl (by first | rfl | (simp; done) | (simp; omega)) ?_
              refine AWP.exit ?_
              refine athen_exit ?_
              refine ain_same ?_
              refine athen_n ?_
              refine AWP.region ?_
              refine rC (Calm.bin rfl rfl b_add_i64) ?_
              refine rC (Calm.move rfl) ?_
              refine arun_nil ?_
              refine athen_n ?_
              refine ⟨(i + 1, oW), ?_, ?_, ?_, ?_⟩
              all_goals (try dsimp only)
              · exact ⟨rfl, rfl, rfl, rfl, rfl, some_val (by rw [hsn]), rfl, rfl, rfl, trivial⟩
              · show (outN 3 (T10.set b6 (boxD D0 (.slice none 0 0) (.slice none 0 0))) oW wrT ((movW fr tn (d.waits.take (i + 1))).flatMap wrF)).Less _; rw [hsn, hM]; exact less_
              · exact ⟨hc, by rw [hsn]; exact hoW, hne⟩
              · omega
            · rw [if_neg q4] at hsn
              by_cases q5 : w.1 = fr
              · rw [show renW fr tn w = (tn, w.2) from if_pos q5] at hsn
                refine AWP.skip ?_
                refine athen_n ?_
                refine AWP.seq ?_
                refine AWP.block ?_
                refine AWP.seq ?_
                refine AWP.region ?_
                refine rC (Calm.indexS Try.underlying23 ty_size_51 rfl rfl (by omega) (by omega)) ?_
                refine rC (ldA_ (cs := [_, _, _]) ty_agg_51 ty_size_51 rfl) ?_
                refine ARun.alloc (lit_lt rfl) ty_zero_51 ?_
                intro b13 f13
                have g13 := f13
                repeat ((with_reducible replace g13 := fresh_set g13); obtain ⟨g13, _⟩ := g13)
                (try simp only [List.length_cons, List.length_nil, Nat.zero_add, Nat.reduceAdd])
                first | refine ARun.storeAll rfl rfl ty_size_51 own_ rfl rfl ?_ | refine ARun.store rfl rfl ty_size_51 own_ lens_ rfl ?_
                (try simp only [Mem.set_set, List.set_cons_zero, List.set_cons_succ, Nat.zero_add, Nat.reduceAdd])
                refine arun_nil ?_
                refine athen_n ?_
                refine AWP.sub [(1, _), (2, _), (3, _), (6, _), (10, _), (11, _), (54, _), (55, _), (56, _), (57, _), (13, _)] ⟨rfl, rfl, rfl, rfl, rfl, rfl, rfl, rfl, rfl, rfl, rfl, trivial⟩ ?_
                refine AWP.seq ?_
                refine AWP.seq ?_
                refine AWP.region ?_
                refine rC (Calm.fieldAddr ty_field_51_0 rfl) ?_
                refine rC (ld_ ty_plain_9 rfl) ?_
                refine rC (Calm.move rfl) ?_
                refine rC (Calm.bin rfl rfl (bin_bool (bin_str_eql _ _) (decide_eq_false q4))) ?_
                refine arun_nil ?_
                refine athen_n ?_
                refine AWP.sub [(1, _), (2, _), (3, _), (6, _), (10, _), (11, _), (54, _), (55, _), (56, _), (57, _), (13, _), (63, _)] ⟨rfl, rfl, rfl, rfl, rfl, rfl, rfl, rfl, rfl, rfl, rfl, rfl, trivial⟩ ?_
                refine AWP.condF rfl (by first | rfl | (simp; done) | (simp; omega)) ?_
                refine AWP.skip ?_
                refine athen_n ?_
                refine AWP.seq ?_
                refine AWP.seq ?_
                refine AWP.region ?_
                refine rC (Calm.fieldAddr ty_field_51_0 rfl) ?_
                refine rC (ld_ ty_plain_9 rfl) ?_
                refine rC (Calm.move rfl) ?_
                refine rC (Calm.bin rfl rfl (bin_bool (bin_str_eql _ _) (decide_eq_true q5))) ?_
                refine arun_nil ?_
                refine athen_n ?_
                refine AWP.sub [(1, _), (2, _), (3, _), (6, _), (10, _), (11, _), (54, _), (55, _), (56, _), (57, _), (13, _), (63, _), (67, _)] ⟨rfl, rfl, rfl, rfl, rfl, rfl, rfl, rfl, rfl, rfl, rfl, rfl, rfl, trivial⟩ ?_
                refine AWP.condT rfl (by first | rfl | (simp; done) | (simp; omega)) ?_
                refine AWP.region ?_
                refine rC (Calm.move rfl) ?_
                refine rC (Calm.fieldAddr ty_field_51_0 rfl) ?_
                refine ARun.store1 rfl rfl ty_size_9 rfl own_ lens_ rfl ?_
                (try simp only [Mem.set_set, List.set_cons_zero, List.set_cons_succ, Nat.zero_add, Nat.reduceAdd])
                refine arun_nil ?_
                refine athen_n ?_
                refine AWP.sub [(1, _), (2, _), (3, _), (6, _), (10, _), (11, _), (54, _), (55, _), (56, _), (57, _), (13, _), (63, _), (67, _)] ⟨rfl, rfl, rfl, rfl, rfl, rfl, rfl, rfl, rfl, rfl, rfl, rfl, rfl, trivial⟩ ?_
                refine AWP.region ?_
                refine rC (Calm.move rfl) ?_
                refine rC (ldA_ (cs := [_, _, _]) ty_agg_51 ty_size_51 rfl) ?_
                refine ARun.build1 (lit_lt rfl) ty_sl_23 rfl (by decide) (by decide) rfl rfl ?_
                intro b72 f72
                have g72 := f72
                repeat ((with_reducible replace g72 := fresh_set g72); obtain ⟨g72, _⟩ := g72)
                refine ARun.appendOK (n := 3) (o := oW) (k := (movW fr tn (d.waits.take i)).length) (m := 1) (cs := (movW fr tn (d.waits.take i)).flatMap wrF) (news := [.string tn, .int .i64 w.2.1, .string w.2.2]) (lit_lt rfl) ty_sl_23 rfl rfl (flat_length wr_len _) (hoW.set hne) ((happ.temp f13).temp f72) rfl (src_own (Mem.own_set_same _ _ _) List.prefix_rfl) rfl (wr_one [(tn, w.2)]) (by omega) (by omega) ?_
                intro o2 ho2
                have ne2 : ∀ q c, o2 = some (q, c) → b6 ≠ q := fun q c e => (fresh_set (ho2.own q c e).1).2.symm
                have hlast : outN 3 (T10.set b6 (boxD D0 (.slice none 0 0) (.slice none 0 0))) o2 wrT ((movW fr tn (d.waits.take (i + 1))).flatMap wrF) = outN 3 (T10.set b6 (boxD D0 (.slice none 0 0) (.slice none 0 0))) o2 wrT ((movW fr tn (d.waits.take i)).flatMap wrF ++ [.string tn, .int .i64 w.2.1, .string w.2.2]) := by rw [hsn, List.flatMap_append]; simp [wrF]
                refine rC (Calm.assign rfl) ?_
                refine arun_nil ?_
                refine ain_n ?_
                refine athen_n ?_
                refine AWP.sub [(1, _), (2, _), (3, _), (6, _), (10, _), (11, _), (54, _), (55, _), (56, _), (57, _), (13, _), (63, _), (67, _)] ⟨rfl, rfl, rfl, rfl, rfl, rfl, rfl, rfl, rfl, rfl, rfl, rfl, rfl, trivial⟩ ?_
                refine AWP.region ?_
                refine rC (Calm.bin rfl rfl b_add_i64) ?_
                refine rC (Calm.move rfl) ?_
                refine arun_nil ?_
                refine athen_n ?_
                refine ⟨(i + 1, o2), ?_, ?_, ?_, ?_⟩
                all_goals (try dsimp only)
                · exact ⟨rfl, rfl, rfl, rfl, rfl, some_val (by rw [hsn, List.length_append]; rfl), rfl, rfl, rfl, trivial⟩
                · show (outN 3 (T10.set b6 (boxD D0 (.slice none 0 0) (.slice none 0 0))) o2 wrT ((movW fr tn (d.waits.take (i + 1))).flatMap wrF)).Less _; rw [hlast]; exact Mem.Less.refl _
                · exact ⟨hc, by rw [hsn, List.length_append]; exact ho2.unset, ne2⟩
                · omega
              · rw [show renW fr tn w = w from if_neg q5] at hsn
                refine AWP.skip ?_
                refine athen_n ?_
                refine AWP.seq ?_
                refine AWP.block ?_
                refine AWP.seq ?_
                refine AWP.region ?_
                refine rC (Calm.indexS Try.underlying23 ty_size_51 rfl rfl (by omega) (by omega)) ?_
                refine rC (ldA_ (cs := [_, _, _]) ty_agg_51 ty_size_51 rfl) ?_
                refine ARun.alloc (lit_lt rfl) ty_zero_51 ?_
                intro b13 f13
                have g13 := f13
                repeat ((with_reducible replace g13 := fresh_set g13); obtain ⟨g13, _⟩ := g13)
                (try simp only [List.length_cons, List.length_nil, Nat.zero_add, Nat.reduceAdd])
                first | refine ARun.storeAll rfl rfl ty_size_51 own_ rfl rfl ?_ | refine ARun.store rfl rfl ty_size_51 own_ lens_ rfl ?_
                (try simp only [Mem.set_set, List.set_cons_zero, List.set_cons_succ, Nat.zero_add, Nat.reduceAdd])
                refine arun_nil ?_
                refine athen_n ?_
                refine AWP.sub [(1, _), (2, _), (3, _), (6, _), (10, _), (11, _), (54, _), (55, _), (56, _), (57, _), (13, _)] ⟨rfl, rfl, rfl, rfl, rfl, rfl, rfl, rfl, rfl, rfl, rfl, trivial⟩ ?_
                refine AWP.seq ?_
                refine AWP.seq ?_
                refine AWP.region ?_
                refine rC (Calm.fieldAddr ty_field_51_0 rfl) ?_
                refine rC (ld_ ty_plain_9 rfl) ?_
                refine rC (Calm.move rfl) ?_
                refine rC (Calm.bin rfl rfl (bin_bool (bin_str_eql _ _) (decide_eq_false q4))) ?_
                refine arun_nil ?_
                refine athen_n ?_
                refine AWP.sub [(1, _), (2, _), (3, _), (6, _), (10, _), (11, _), (54, _), (55, _), (56, _), (57, _), (13, _), (63, _)] ⟨rfl, rfl, rfl, rfl, rfl, rfl, rfl, rfl, rfl, rfl, rfl, rfl, trivial⟩ ?_
                refine AWP.condF rfl (by first | rfl | (simp; done) | (simp; omega)) ?_
                refine AWP.skip ?_
                refine athen_n ?_
                refine AWP.seq ?_
                refine AWP.seq ?_
                refine AWP.region ?_
                refine rC (Calm.fieldAddr ty_field_51_0 rfl) ?_
                refine rC (ld_ ty_plain_9 rfl) ?_
                refine rC (Calm.move rfl) ?_
                refine rC (Calm.bin rfl rfl (bin_bool (bin_str_eql _ _) (decide_eq_false q5))) ?_
                refine arun_nil ?_
                refine athen_n ?_
                refine AWP.sub [(1, _), (2, _), (3, _), (6, _), (10, _), (11, _), (54, _), (55, _), (56, _), (57, _), (13, _), (63, _), (67, _)] ⟨rfl, rfl, rfl, rfl, rfl, rfl, rfl, rfl, rfl, rfl, rfl, rfl, rfl, trivial⟩ ?_
                refine AWP.condF rfl (by first | rfl | (simp; done) | (simp; omega)) ?_
                refine AWP.skip ?_
                refine athen_n ?_
                refine AWP.region ?_
                refine rC (Calm.move rfl) ?_
                refine rC (ldA_ (cs := [_, _, _]) ty_agg_51 ty_size_51 rfl) ?_
                refine ARun.build1 (lit_lt rfl) ty_sl_23 rfl (by decide) (by decide) rfl rfl ?_
                intro b72 f72
                have g72 := f72
                repeat ((with_reducible replace g72 := fresh_set g72); obtain ⟨g72, _⟩ := g72)
                refine ARun.appendOK (n := 3) (o := oW) (k := (movW fr tn (d.waits.take i)).length) (m := 1) (cs := (movW fr tn (d.waits.take i)).flatMap wrF) (news := [.string w.1, .int .i64 w.2.1, .string w.2.2]) (lit_lt rfl) ty_sl_23 rfl rfl (flat_length wr_len _) (hoW.set hne) ((happ.temp f13).temp f72) rfl (src_own (Mem.own_set_same _ _ _) List.prefix_rfl) rfl (wr_one [w]) (by omega) (by omega) ?_
                intro o2 ho2
                have ne2 : ∀ q c, o2 = some (q, c) → b6 ≠ q := fun q c e => (fresh_set (ho2.own q c e).1).2.symm
                have hlast : outN 3 (T10.set b6 (boxD D0 (.slice none 0 0) (.slice none 0 0))) o2 wrT ((movW fr tn (d.waits.take (i + 1))).flatMap wrF) = outN 3 (T10.set b6 (boxD D0 (.slice none 0 0) (.slice none 0 0))) o2 wrT ((movW fr tn (d.waits.take i)).flatMap wrF ++ [.string w.1, .int .i64 w.2.1, .string w.2.2]) := by rw [hsn, List.flatMap_append]; simp [wrF]
                refine rC (Calm.assign rfl) ?_
                refine arun_nil ?_
                refine ain_n ?_
                refine athen_n ?_
                refine AWP.sub [(1, _), (2, _), (3, _), (6, _), (10, _), (11, _), (54, _), (55, _), (56, _), (57, _), (13, _), (63, _), (67, _)] ⟨rfl, rfl, rfl, rfl, rfl, rfl, rfl, rfl, rfl, rfl, rfl, rfl, rfl, trivial⟩ ?_
                refine AWP.region ?_
                refine rC (Calm.bin rfl rfl b_add_i64) ?_
                refine rC (Calm.move rfl) ?_
                refine arun_nil ?_
                refine athen_n ?_
                refine ⟨(i + 1, o2), ?_, ?_, ?_, ?_⟩
                all_goals (try dsimp only)
                · exact ⟨rfl, rfl, rfl, rfl, rfl, some_val (by rw [hsn, List.length_append]; rfl), rfl, rfl, rfl, trivial⟩
                · show (outN 3 (T10.set b6 (boxD D0 (.slice none 0 0) (.slice none 0 0))) o2 wrT ((movW fr tn (d.waits.take (i + 1))).flatMap wrF)).Less _; rw [hlast]; exact Mem.Less.refl _
                · exact ⟨hc, by rw [hsn, List.length_append]; exact ho2.unset, ne2⟩
                · omega
          · have hc : i = d.waits.length := by have := of_decide_eq_false hc; omega
            subst hc
            have htk : d.waits.take d.waits.length = d.waits := List.take_length
            rw [htk] at hoW hlei hM
            rw [outN_set (fun q c e => Ne.symm (hne q c e))] at hM
            obtain ⟨T11, hT11⟩ : ∃ T11, outN 3 T10 oW wrT ((movW fr tn d.waits).flatMap wrF) = T11 := ⟨_, rfl⟩
            rw [hT11] at hM
            have hTT : T10.Less T11 := by rw [← hT11]; exact outN_over hoW
            have f6c : Fresh T11 b6 := by rw [← hT11]; exact fresh_outN_mk f6b (fun q c e => Ne.symm (hne q c e))
            have kc10 := hTT.own kb10
            have kc3 := hTT.own kb3
            have hsW : Sl 3 wrF T11 (outV oW (movW fr tn d.waits).length) (movW fr tn d.waits) := by rw [← hT11]; exact sl_outN wr_len (e := wrT) hoW rfl (by omega)
            have hmu : movW fr tn d.waits = (filt tn d.waits).map (renW fr tn) := rfl
            obtain ⟨qw, dw, hqw⟩ := outV_eq hoW
            rw [htk, hqw]
            rw [hqw] at hsW
            rw [← hM]
            clear hTM
            subst hM
            have hldk := hd.less (hST.trans hTT)
            refine AWP.exit ?_
            refine athen_exit ?_
            refine athen_exit ?_
            refine ain_same ?_
            refine athen_n ?_
            refine AWP.seq ?_
            refine AWP.region ?_
            refine rC (ldA_ (cs := [_, _, _, _, _]) ty_agg_25 ty_size_25 rfl) ?_
            refine ARun.call (lit_lt rfl) go_12 rfl ((hcopy T11 hldk).frame f6c) ?_
            rintro _ S1 ⟨M1, ⟨hS1, hdk1⟩, f6d, h1⟩
            rw [h1]; clear h1 S1
            refine rC (Calm.move rfl) ?_
            refine ARun.call (lit_lt rfl) go_56 rfl ((rd_without _ d tn M1 hdk1 (by omega) (by omega)).frame f6d) ?_
            rintro _ S1 ⟨M2, ⟨hS2, hdk2⟩, f6e, h1⟩
            rw [h1]; clear h1 S1
            have hle1 := dropE_le d.ext tn
            have hle2 := filt_le tn d.waits
            refine rC (Calm.move rfl) ?_
            refine ARun.call (lit_lt rfl) go_56 rfl ((rd_without _ (lessD d tn) fr M2 hdk2 (by show (dropE d.ext tn).length ≤ _; omega) (by show (filt tn d.waits).length ≤ _; omega)).frame f6e) ?_
            rintro _ S1 ⟨M3, ⟨hS3, hdk3⟩, f6g, h1⟩
            rw [h1]; clear h1 S1
            obtain ⟨qe3, de3, qw3, dw3, rfl, hE3', hW3'⟩ := id hdk3
            have hle3 := dropE_le (dropE d.ext tn) fr
            have kd10 := ((hS1.trans hS2).trans hS3).own kc10
            have n6k := f6g.ne kd10
            refine ARun.alloc (lit_lt rfl) ty_zero_25 ?_
            intro b14 f14
            have g14 := f14
            repeat ((with_reducible replace g14 := fresh_set g14); obtain ⟨g14, _⟩ := g14)
            (try simp only [List.length_cons, List.length_nil, Nat.zero_add, Nat.reduceAdd])
            first | refine ARun.storeAll rfl rfl ty_size_25 own_ rfl rfl ?_ | refine ARun.store rfl rfl ty_size_25 own_ lens_ rfl ?_
            (try simp only [Mem.set_set, List.set_cons_zero, List.set_cons_succ, Nat.zero_add, Nat.reduceAdd])
            refine arun_nil ?_
            refine athen_n ?_
            refine AWP.sub [(1, _), (2, _), (3, _), (6, _), (10, _), (11, _), (54, _), (55, _), (56, _), (57, _), (14, _)] ⟨rfl, rfl, rfl, rfl, rfl, rfl, rfl, rfl, rfl, rfl, rfl, trivial⟩ ?_
            have n14k := (fresh_set f14).1.ne kd10
            have f14' := fun r => fresh_more (r := r) (fresh_set f14).1 (fresh_set f14).2
            refine AWP.seq ?_
            refine AWP.region ?_
            refine rC (Calm.fieldAddr ty_field_25_1 rfl) ?_
            refine rC (ld_ ty_plain_22 rfl) ?_
            refine rC (Calm.move rfl) ?_
            refine rC (Calm.fieldAddr ty_field_54_1 rfl) ?_
            refine rC (ld_ ty_plain_9 rfl) ?_
            refine rC (Calm.build (cs := [_, _]) ty_bld_54 rfl rfl) ?_
            refine ARun.call (lit_lt rfl) go_52 rfl (((rd_with _ (lessD (lessD d tn) fr).ext (tn, x.2) M3 hE3' (by show (dropE (dropE d.ext tn) fr).length ≤ _; omega)).frame f6g).frame f14) ?_
            rintro _ S1 ⟨Sa, ⟨M4, ⟨o4, ho4, rfl, hM4⟩, ga, hSa⟩, gb, h1⟩
            rw [h1, hSa]; rw [hSa] at gb; clear h1 S1 hSa Sa
            obtain ⟨gbm, nba⟩ := fresh_set gb
            have hln := ins_len (pos_le (lessD (lessD d tn) fr).ext tn) (tn, x.2)
            have hl3 : (lessD (lessD d tn) fr).ext.length ≤ 16384 := by show (dropE (dropE d.ext tn) fr).length ≤ _; omega
            have hMM4 : M3.Less M4 := by rw [hM4]; exact outN_over ho4
            have hsl : Sl 2 extF M4 (outV o4 (insAt (lessD (lessD d tn) fr).ext (pos (lessD (lessD d tn) fr).ext tn) (tn, x.2)).length) (insAt (lessD (lessD d tn) fr).ext (pos (lessD (lessD d tn) fr).ext tn) (tn, x.2)) := by rw [hM4]; exact sl_outN ext_len (e := extT) ho4 rfl (by omega)
            obtain ⟨q4, d4, hq4⟩ := outV_eq ho4
            rw [hq4] at hsl ⊢
            have hS4 := ((hS1.trans hS2).trans hS3).trans hMM4
            refine rC (Calm.fieldAddr ty_field_25_1 rfl) ?_
            refine ARun.store1 rfl rfl ty_size_22 rfl own_ lens_ rfl ?_
            (try simp only [Mem.set_set, List.set_cons_zero, List.set_cons_succ, Nat.zero_add, Nat.reduceAdd])
            refine arun_nil ?_
            refine athen_n ?_
            refine AWP.sub [(1, _), (2, _), (3, _), (6, _), (10, _), (11, _), (54, _), (55, _), (56, _), (57, _), (14, _)] ⟨rfl, rfl, rfl, rfl, rfl, rfl, rfl, rfl, rfl, rfl, rfl, trivial⟩ ?_
            refine AWP.seq ?_
            refine AWP.region ?_
            refine rC (Calm.move rfl) ?_
            refine rC (Calm.fieldAddr ty_field_25_2 rfl) ?_
            refine ARun.store1 rfl rfl ty_size_23 rfl own_ lens_ rfl ?_
            (try simp only [Mem.set_set, List.set_cons_zero, List.set_cons_succ, Nat.zero_add, Nat.reduceAdd])
            refine arun_nil ?_
            refine athen_n ?_
            refine AWP.sub [(1, _), (2, _), (3, _), (6, _), (10, _), (11, _), (54, _), (55, _), (56, _), (57, _), (14, _)] ⟨rfl, rfl, rfl, rfl, rfl, rfl, rfl, rfl, rfl, rfl, rfl, trivial⟩ ?_
            refine AWP.seq ?_
            refine AWP.region ?_
            refine rC (ldA_ (cs := [_, _, _, _, _]) ty_agg_25 ty_size_25 rfl) ?_
            first | refine ARun.storeAll rfl rfl ty_size_25 own_ rfl rfl ?_ | refine ARun.store rfl rfl ty_size_25 own_ lens_ rfl ?_
            (try simp only [Mem.set_set, List.set_cons_zero, List.set_cons_succ, Nat.zero_add, Nat.reduceAdd])
            refine rC (Calm.assign rfl) ?_
            refine arun_nil ?_
            refine athen_n ?_
            refine AWP.sub [(1, _), (2, _), (3, _), (6, _), (10, _), (11, _), (54, _), (55, _), (56, _), (57, _), (14, _), (7, _)] ⟨rfl, rfl, rfl, rfl, rfl, rfl, rfl, rfl, rfl, rfl, rfl, rfl, trivial⟩ ?_
            refine AWP.ret ?_
            refine ⟨_, M4, ⟨_, _, _, rfl, .inr ⟨ty_agg_25, [_, _, _, _, _], ty_size_25, rds_, rfl⟩, ⟨_, _, rfl, rfl, rfl⟩, rfl⟩, less_, ?_⟩
            exact ⟨_, rfl, (hST.trans hTT).trans hS4, ⟨_, _, _, _, rfl, hsl, hsW.less hS4⟩⟩
      · rw [if_neg q2]
        have hf : fnd d.ext fr = -1 := by unfold fnd; rw [if_neg q2]
        refine ACall.enter (args := [.agg #[.int .i64 d.size, .slice pe d.ext.length ce, .slice pw d.waits.length cw, .int .i64 d.fuse, .bool d.down], .string fr, .string tn]) (rs := [.cell 6 25, .tmp 7]) 92 [(0, .agg #[.int .i64 d.size, .slice pe d.ext.length ce, .slice pw d.waits.length cw, .int .i64 d.fuse, .bool d.down]), (1, .string fr), (2, .string tn)] Try.func18 rfl rfl (Nat.le_of_ble_eq_true rfl) rfl ⟨rfl, rfl, rfl, trivial⟩ ?_
        refine AWP.seq ?_
        refine AWP.region ?_
        refine ARun.boxA (cs := [_, _, _, _, _]) (lit_lt rfl) rfl ?_
        intro b3 f3
        have g3 := f3
        repeat ((with_reducible replace g3 := fresh_set g3); obtain ⟨g3, _⟩ := g3)
        (try simp only [List.length_cons, List.length_nil, Nat.zero_add, Nat.reduceAdd])
        refine ARun.alloc (lit_lt rfl) ty_zero_25 ?_
        intro b6 f6
        have g6 := f6
        repeat ((with_reducible replace g6 := fresh_set g6); obtain ⟨g6, _⟩ := g6)
        (try simp only [List.length_cons, List.length_nil, Nat.zero_add, Nat.reduceAdd])
        refine rC (Calm.assign rfl) ?_
        refine arun_nil ?_
        refine athen_n ?_
        refine AWP.seq ?_
        refine AWP.region ?_
        refine rC (ldA_ (cs := [_, _, _, _, _]) ty_agg_25 ty_size_25 rfl) ?_
        refine ARun.call (lit_lt rfl) go_47 rfl (hpow _ (hd.less less_)) ?_
        rintro _ S1 ⟨rfl, h1⟩
        rw [h1]; clear h1 S1
        refine rC (Calm.assign rfl) ?_
        refine arun_nil ?_
        refine athen_n ?_
        refine AWP.sub [(0, _), (1, _), (2, _), (3, _), (6, _), (7, _), (8, _)] ⟨rfl, rfl, rfl, rfl, rfl, rfl, rfl, trivial⟩ ?_
        refine AWP.seq ?_
        refine AWP.seq ?_
        refine AWP.region ?_
        refine rC (Calm.move rfl) ?_
        refine rC (Calm.bin rfl rfl b_neq) ?_
        refine arun_nil ?_
        refine athen_n ?_
        refine AWP.sub [(0, _), (1, _), (2, _), (3, _), (6, _), (7, _), (8, _), (18, _)] ⟨rfl, rfl, rfl, rfl, rfl, rfl, rfl, rfl, trivial⟩ ?_
        refine AWP.condF rfl (by first | rfl | (simp; done) | (simp; omega)) ?_
        refine AWP.skip ?_
        refine athen_n ?_
        refine AWP.seq ?_
        refine AWP.seq ?_
        refine AWP.region ?_
        refine rC (Calm.move rfl) ?_
        refine ARun.call (lit_lt rfl) go_49 rfl (rd_Named _ _) ?_
        rintro _ S1 ⟨rfl, h1⟩
        rw [h1, decide_eq_true q1]; clear h1 S1
        refine rC (Calm.un rfl (una_not _)) ?_
        refine arun_nil ?_
        refine athen_n ?_
        refine AWP.sub [(0, _), (1, _), (2, _), (3, _), (6, _), (7, _), (8, _), (18, _), (26, _)] ⟨rfl, rfl, rfl, rfl, rfl, rfl, rfl, rfl, rfl, trivial⟩ ?_
        refine AWP.condF rfl (by first | rfl | (simp; done) | (simp; omega)) ?_
        refine AWP.skip ?_
        refine athen_n ?_
        refine AWP.seq ?_
        refine AWP.region ?_
        refine rC (Calm.fieldAddr ty_field_25_1 rfl) ?_
        refine rC (ld_ ty_plain_22 rfl) ?_
        refine rC (Calm.move rfl) ?_
        refine ARun.call (lit_lt rfl) go_50 rfl (rd_Find _ d.ext fr _ (hE.less less_) hR.ex.asc) ?_
        rintro _ S1 ⟨rfl, h1⟩
        rw [h1, hf]; clear h1 S1
        refine rC (Calm.assign rfl) ?_
        refine arun_nil ?_
        refine athen_n ?_
        refine AWP.sub [(0, _), (1, _), (2, _), (3, _), (6, _), (7, _), (8, _), (18, _), (26, _), (9, _)] ⟨rfl, rfl, rfl, rfl, rfl, rfl, rfl, rfl, rfl, rfl, trivial⟩ ?_
        refine AWP.seq ?_
        refine AWP.seq ?_
        refine AWP.region ?_
        refine rC (Calm.move rfl) ?_
        refine rC (Calm.bin rfl rfl b_lss) ?_
        refine arun_nil ?_
        refine athen_n ?_
        refine AWP.sub [(0, _), (1, _), (2, _), (3, _), (6, _), (7, _), (8, _), (18, _), (26, _), (9, _), (36, _)] ⟨rfl, rfl, rfl, rfl, rfl, rfl, rfl, rfl, rfl, rfl, rfl, trivial⟩ ?_
        refine AWP.condT rfl (by first | rfl | (simp; done) | (simp; omega)) ?_
        refine AWP.seq ?_
        refine AWP.region ?_
        refine rC (ldA_ (cs := [_, _, _, _, _]) ty_agg_25 ty_size_25 rfl) ?_
        refine ARun.call (lit_lt rfl) go_48 rfl (((hasw 3).frame f3).frame f6) ?_
        rintro _ S1 ⟨Sa, ⟨M, ⟨v', rfl, hSM, hdk⟩, fa, hSa⟩, fb, h1⟩
        rw [h1, hSa]; rw [hSa] at fb; clear h1 S1 hSa Sa
        obtain ⟨fbm, nba⟩ := fresh_set fb
        obtain ⟨qe, de, qw, dw, rfl, hE2, hW2⟩ := id hdk
        refine rC (Calm.extract rfl rfl) ?_
        refine rC (Calm.extract rfl rfl) ?_
        first | refine ARun.storeAll rfl rfl ty_size_25 own_ rfl rfl ?_ | refine ARun.store rfl rfl ty_size_25 own_ lens_ rfl ?_
        (try simp only [Mem.set_set, List.set_cons_zero, List.set_cons_succ, Nat.zero_add, Nat.reduceAdd])
        refine rC (Calm.assign rfl) ?_
        refine arun_nil ?_
        refine athen_n ?_
        refine AWP.sub [(0, _), (1, _), (2, _), (3, _), (6, _), (7, _), (8, _), (18, _), (26, _), (9, _), (36, _)] ⟨rfl, rfl, rfl, rfl, rfl, rfl, rfl, rfl, rfl, rfl, rfl, trivial⟩ ?_
        refine AWP.ret ?_
        refine athen_ret ?_
        refine ⟨_, M, ⟨_, _, _, rfl, .inr ⟨ty_agg_25, [_, _, _, _, _], ty_size_25, rds_, rfl⟩, ⟨_, _, rfl, rfl, rfl⟩, rfl⟩, less_, ?_⟩
        exact ⟨_, rfl, hSM, hdk⟩
    · rw [if_pos q1]
      refine ACall.enter (args := [.agg #[.int .i64 d.size, .slice pe d.ext.length ce, .slice pw d.waits.length cw, .int .i64 d.fuse, .bool d.down], .string fr, .string tn]) (rs := [.cell 6 25, .tmp 7]) 92 [(0, .agg #[.int .i64 d.size, .slice pe d.ext.length ce, .slice pw d.waits.length cw, .int .i64 d.fuse, .bool d.down]), (1, .string fr), (2, .string tn)] Try.func18 rfl rfl (Nat.le_of_ble_eq_true rfl) rfl ⟨rfl, rfl, rfl, trivial⟩ ?_
      refine AWP.seq ?_
      refine AWP.region ?_
      refine ARun.boxA (cs := [_, _, _, _, _]) (lit_lt rfl) rfl ?_
      intro b3 f3
      have g3 := f3
      repeat ((with_reducible replace g3 := fresh_set g3); obtain ⟨g3, _⟩ := g3)
      (try simp only [List.length_cons, List.length_nil, Nat.zero_add, Nat.reduceAdd])
      refine ARun.alloc (lit_lt rfl) ty_zero_25 ?_
      intro b6 f6
      have g6 := f6
      repeat ((with_reducible replace g6 := fresh_set g6); obtain ⟨g6, _⟩ := g6)
      (try simp only [List.length_cons, List.length_nil, Nat.zero_add, Nat.reduceAdd])
      refine rC (Calm.assign rfl) ?_
      refine arun_nil ?_
      refine athen_n ?_
      refine AWP.seq ?_
      refine AWP.region ?_
      refine rC (ldA_ (cs := [_, _, _, _, _]) ty_agg_25 ty_size_25 rfl) ?_
      refine ARun.call (lit_lt rfl) go_47 rfl (hpow _ (hd.less less_)) ?_
      rintro _ S1 ⟨rfl, h1⟩
      rw [h1]; clear h1 S1
      refine rC (Calm.assign rfl) ?_
      refine arun_nil ?_
      refine athen_n ?_
      refine AWP.sub [(0, _), (1, _), (2, _), (3, _), (6, _), (7, _), (8, _)] ⟨rfl, rfl, rfl, rfl, rfl, rfl, rfl, trivial⟩ ?_
      refine AWP.seq ?_
      refine AWP.seq ?_
      refine AWP.region ?_
      refine rC (Calm.move rfl) ?_
      refine rC (Calm.bin rfl rfl b_neq) ?_
      refine arun_nil ?_
      refine athen_n ?_
      refine AWP.sub [(0, _), (1, _), (2, _), (3, _), (6, _), (7, _), (8, _), (18, _)] ⟨rfl, rfl, rfl, rfl, rfl, rfl, rfl, rfl, trivial⟩ ?_
      refine AWP.condF rfl (by first | rfl | (simp; done) | (simp; omega)) ?_
      refine AWP.skip ?_
      refine athen_n ?_
      refine AWP.seq ?_
      refine AWP.seq ?_
      refine AWP.region ?_
      refine rC (Calm.move rfl) ?_
      refine ARun.call (lit_lt rfl) go_49 rfl (rd_Named _ _) ?_
      rintro _ S1 ⟨rfl, h1⟩
      rw [h1, decide_eq_false q1]; clear h1 S1
      refine rC (Calm.un rfl (una_not _)) ?_
      refine arun_nil ?_
      refine athen_n ?_
      refine AWP.sub [(0, _), (1, _), (2, _), (3, _), (6, _), (7, _), (8, _), (18, _), (26, _)] ⟨rfl, rfl, rfl, rfl, rfl, rfl, rfl, rfl, rfl, trivial⟩ ?_
      refine AWP.condT rfl (by first | rfl | (simp; done) | (simp; omega)) ?_
      refine AWP.seq ?_
      refine AWP.region ?_
      refine rC (ldA_ (cs := [_, _, _, _, _]) ty_agg_25 ty_size_25 rfl) ?_
      refine ARun.call (lit_lt rfl) go_48 rfl (((hasw 1).frame f3).frame f6) ?_
      rintro _ S1 ⟨Sa, ⟨M, ⟨v', rfl, hSM, hdk⟩, fa, hSa⟩, fb, h1⟩
      rw [h1, hSa]; rw [hSa] at fb; clear h1 S1 hSa Sa
      obtain ⟨fbm, nba⟩ := fresh_set fb
      obtain ⟨qe, de, qw, dw, rfl, hE2, hW2⟩ := id hdk
      refine rC (Calm.extract rfl rfl) ?_
      refine rC (Calm.extract rfl rfl) ?_
      first | refine ARun.storeAll rfl rfl ty_size_25 own_ rfl rfl ?_ | refine ARun.store rfl rfl ty_size_25 own_ lens_ rfl ?_
      (try simp only [Mem.set_set, List.set_cons_zero, List.set_cons_succ, Nat.zero_add, Nat.reduceAdd])
      refine rC (Calm.assign rfl) ?_
      refine arun_nil ?_
      refine athen_n ?_
      refine AWP.sub [(0, _), (1, _), (2, _), (3, _), (6, _), (7, _), (8, _), (18, _), (26, _)] ⟨rfl, rfl, rfl, rfl, rfl, rfl, rfl, rfl, rfl, trivial⟩ ?_
      refine AWP.ret ?_
      refine athen_ret ?_
      refine ⟨_, M, ⟨_, _, _, rfl, .inr ⟨ty_agg_25, [_, _, _, _, _], ty_size_25, rds_, rfl⟩, ⟨_, _, rfl, rfl, rfl⟩, rfl⟩, less_, ?_⟩
      exact ⟨_, rfl, hSM, hdk⟩
end Go.Proofs.Ytkeiphkccnfhoaa
