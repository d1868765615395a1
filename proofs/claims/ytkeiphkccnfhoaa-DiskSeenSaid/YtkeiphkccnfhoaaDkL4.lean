/-
  Disk: the law DiskSeen walked.
-/
import Derived.Test.YtkeiphkccnfhoaaDiskLv
import Derived.Test.YtkeiphkccnfhoaaDiskOpen
import Derived.Test.YtkeiphkccnfhoaaDkP1
namespace Go.Proofs.Ytkeiphkccnfhoaa
open Go.RowKit
open Mv Disk
set_option linter.unusedVariables false
set_option linter.unusedSimpArgs false
set_option maxRecDepth 20000
set_option maxHeartbeats 8000000 in
theorem law_DiskSeen (v : Value) (d : D) (s : ByteArray) (k : Int) (data o : ByteArray) (a : Int) (S : Mem) (hd : DkR S v d) (hz : Dz d) :
    ACall Try.prog 6 #[v, .string s, .int .i64 k, .string data, .string o, .int .i64 a] S fun r S' => r = .bool true := by
  have c0 := fun v S h => disk_Read v d o a S h hz
  have c1 := fun v S h => disk_Write v d s k data S h hz
  obtain ⟨pe, ce, pw, cw, rfl, hE, hW⟩ := id hd
  by_cases q : (opened d (writeD d s k data)).2 = 0
  · obtain ⟨e, f, he, hRe, hfe, hr1, hr2, hsy, hRf, hff, hr3, hfw⟩ := seen_law hz.f1 q
    rw [he] at c1
    have c2 := fun v S h => disk_Read v e s k S h (dz_right hRe hfe)
    have c3 := fun v S h => disk_Read v e o a S h (dz_right hRe hfe)
    have c4 := fun v S h => disk_Sync v e S h (dz_right hRe hfe)
    have c5 := fun v S h => disk_Read v f s k S h (dz_right hRf hff)
    rw [hr1] at c2; rw [hsy] at c4; rw [hr3] at c5
    obtain ⟨h31, h32⟩ := hr2 o a
    generalize readO d o a = u at *
    generalize readO e o a = u' at *
    clear hr2 hr1 hr3 hsy he q
    refine ACall.enter (args := [.agg #[.int .i64 d.size, .slice pe d.ext.length ce, .slice pw d.waits.length cw, .int .i64 d.fuse, .bool d.down], .string s, .int .i64 k, .string data, .string o, .int .i64 a]) (rs := [.tmp 12]) 116 [(0, .agg #[.int .i64 d.size, .slice pe d.ext.length ce, .slice pw d.waits.length cw, .int .i64 d.fuse, .bool d.down]), (1, .string s), (2, .int .i64 k), (3, .string data), (4, .string o), (5, .int .i64 a)] Try.func6 rfl rfl (Nat.le_of_ble_eq_true rfl) rfl ⟨rfl, rfl, rfl, rfl, rfl, rfl, trivial⟩ ?_
    refine AWP.seq ?_
    refine AWP.region ?_
    refine ARun.boxA (cs := [_, _, _, _, _]) (lit_lt rfl) rfl ?_
    intro b6 f6
    have g6 := f6
    repeat ((with_reducible replace g6 := fresh_set g6); obtain ⟨g6, _⟩ := g6)
    (try simp only [List.length_cons, List.length_nil, Nat.zero_add, Nat.reduceAdd])
    refine rC (Calm.assign rfl) ?_
    refine arun_nil ?_
    refine athen_n ?_
    refine named (S := S) (b := b6) g6.1 ?_
    intro T6 hT6 kb6
    replace hd := hd.less hT6
    refine AWP.seq ?_
    refine AWP.seq ?_
    refine AWP.region ?_
    refine ARun.call (lit_lt rfl) go_23 rfl (lv_lives _) ?_
    rintro _ Sx ⟨rfl, h1⟩
    rw [h1]; clear h1 Sx
    refine rC (Calm.un rfl (una_not _)) ?_
    refine arun_nil ?_
    refine athen_n ?_
    refine AWP.sub [(0, _), (1, _), (2, _), (3, _), (4, _), (5, _), (6, _), (12, _), (26, _)] ⟨rfl, rfl, rfl, rfl, rfl, rfl, rfl, rfl, rfl, trivial⟩ ?_
    refine AWP.condF rfl (by first | rfl | (simp; done) | (simp; omega)) ?_
    refine AWP.skip ?_
    refine athen_n ?_
    refine AWP.seq ?_
    refine AWP.region ?_
    refine rC (ldA_ (cs := [_, _, _, _, _]) ty_agg_25 ty_size_25 rfl) ?_
    refine rC (Calm.move rfl) ?_
    refine rC (Calm.move rfl) ?_
    refine ARun.call (lit_lt rfl) go_27 rfl (c0 _ _ hd) ?_
    rintro _ Sx ⟨rfl, h1⟩
    rw [h1]; clear h1 Sx
    refine rC (Calm.move rfl) ?_
    refine rC (Calm.extract rfl rfl) ?_
    refine rC (Calm.extract rfl rfl) ?_
    refine rC (Calm.assign rfl) ?_
    refine rC (Calm.assign rfl) ?_
    refine arun_nil ?_
    refine athen_n ?_
    refine AWP.sub [(0, _), (1, _), (2, _), (3, _), (4, _), (5, _), (6, _), (12, _), (26, _), (13, _), (14, _)] ⟨rfl, rfl, rfl, rfl, rfl, rfl, rfl, rfl, rfl, rfl, rfl, trivial⟩ ?_
    refine AWP.seq ?_
    refine AWP.region ?_
    refine rC (ldA_ (cs := [_, _, _, _, _]) ty_agg_25 ty_size_25 rfl) ?_
    refine rC (Calm.move rfl) ?_
    refine rC (Calm.move rfl) ?_
    refine rC (Calm.move rfl) ?_
    refine ARun.call (lit_lt rfl) go_29 rfl (c1 _ _ hd) ?_
    rintro _ S1 ⟨v, rfl, hS1, hd1⟩
    obtain ⟨p1, q1, r1, s1, rfl, hE1, hW1⟩ := id hd1
    replace hd := hd.less hS1
    replace kb6 := hS1.own kb6
    refine rC (Calm.move rfl) ?_
    refine rC (Calm.extract rfl rfl) ?_
    refine rC (Calm.extract rfl rfl) ?_
    refine ARun.alloc (lit_lt rfl) ty_zero_25 ?_
    intro b15 f15
    have g15 := f15
    repeat ((with_reducible replace g15 := fresh_set g15); obtain ⟨g15, _⟩ := g15)
    have := g15.ne kb6; have := g15.ne' kb6
    (try simp only [List.length_cons, List.length_nil, Nat.zero_add, Nat.reduceAdd])
    first | refine ARun.storeAll rfl rfl ty_size_25 own_ rfl rfl ?_ | refine ARun.store rfl rfl ty_size_25 own_ lens_ rfl ?_
    (try simp only [Mem.set_set, List.set_cons_zero, List.set_cons_succ, Nat.zero_add, Nat.reduceAdd])
    refine rC (Calm.assign rfl) ?_
    refine arun_nil ?_
    refine athen_n ?_
    refine AWP.sub [(0, _), (1, _), (2, _), (3, _), (4, _), (5, _), (6, _), (12, _), (26, _), (13, _), (14, _), (15, _), (16, _)] ⟨rfl, rfl, rfl, rfl, rfl, rfl, rfl, rfl, rfl, rfl, rfl, rfl, rfl, trivial⟩ ?_
    refine named (S := S1) (b := b15) g15.1 ?_
    intro T15 hT15 kb15
    replace hd := hd.less hT15
    replace kb6 := hT15.own kb6
    replace hd1 := hd1.less hT15
    refine AWP.seq ?_
    refine AWP.seq ?_
    refine AWP.region ?_
    refine rC (Calm.move rfl) ?_
    refine rC (Calm.bin rfl rfl b_neq) ?_
    refine arun_nil ?_
    refine athen_n ?_
    refine AWP.sub [(0, _), (1, _), (2, _), (3, _), (4, _), (5, _), (6, _), (12, _), (26, _), (13, _), (14, _), (15, _), (16, _), (43, _)] ⟨rfl, rfl, rfl, rfl, rfl, rfl, rfl, rfl, rfl, rfl, rfl, rfl, rfl, rfl, trivial⟩ ?_
    refine AWP.condF rfl (by first | rfl | (simp; done) | (simp; omega)) ?_
    refine AWP.skip ?_
    refine athen_n ?_
    refine AWP.seq ?_
    refine AWP.region ?_
    refine rC (ldA_ (cs := [_, _, _, _, _]) ty_agg_25 ty_size_25 rfl) ?_
    refine rC (Calm.move rfl) ?_
    refine rC (Calm.move rfl) ?_
    refine ARun.call (lit_lt rfl) go_27 rfl (c2 _ _ hd1) ?_
    rintro _ Sx ⟨rfl, h1⟩
    rw [h1]; clear h1 Sx
    refine rC (Calm.move rfl) ?_
    refine rC (Calm.extract rfl rfl) ?_
    refine rC (Calm.extract rfl rfl) ?_
    refine rC (Calm.assign rfl) ?_
    refine rC (Calm.assign rfl) ?_
    refine arun_nil ?_
    refine athen_n ?_
    refine AWP.sub [(0, _), (1, _), (2, _), (3, _), (4, _), (5, _), (6, _), (12, _), (26, _), (13, _), (14, _), (15, _), (16, _), (43, _), (17, _), (18, _)] ⟨rfl, rfl, rfl, rfl, rfl, rfl, rfl, rfl, rfl, rfl, rfl, rfl, rfl, rfl, rfl, rfl, trivial⟩ ?_
    refine AWP.seq ?_
    refine AWP.region ?_
    refine rC (ldA_ (cs := [_, _, _, _, _]) ty_agg_25 ty_size_25 rfl) ?_
    refine rC (Calm.move rfl) ?_
    refine rC (Calm.move rfl) ?_
    refine ARun.call (lit_lt rfl) go_27 rfl (c3 _ _ hd1) ?_
    rintro _ Sx ⟨rfl, h1⟩
    rw [h1]; clear h1 Sx
    refine rC (Calm.move rfl) ?_
    refine rC (Calm.extract rfl rfl) ?_
    refine rC (Calm.extract rfl rfl) ?_
    refine rC (Calm.assign rfl) ?_
    refine rC (Calm.assign rfl) ?_
    refine arun_nil ?_
    refine athen_n ?_
    refine AWP.sub [(0, _), (1, _), (2, _), (3, _), (4, _), (5, _), (6, _), (12, _), (26, _), (13, _), (14, _), (15, _), (16, _), (43, _), (17, _), (18, _), (19, _), (20, _)] ⟨rfl, rfl, rfl, rfl, rfl, rfl, rfl, rfl, rfl, rfl, rfl, rfl, rfl, rfl, rfl, rfl, rfl, rfl, trivial⟩ ?_
    refine AWP.seq ?_
    refine AWP.region ?_
    refine rC (ldA_ (cs := [_, _, _, _, _]) ty_agg_25 ty_size_25 rfl) ?_
    refine ARun.call (lit_lt rfl) go_31 rfl (c4 _ _ hd1) ?_
    rintro _ S2 ⟨v, rfl, hS2, hd2⟩
    obtain ⟨p2, q2, r2, s2, rfl, hE2, hW2⟩ := id hd2
    replace hd := hd.less hS2
    replace kb6 := hS2.own kb6
    replace hd1 := hd1.less hS2
    replace kb15 := hS2.own kb15
    refine rC (Calm.move rfl) ?_
    refine rC (Calm.extract rfl rfl) ?_
    refine rC (Calm.extract rfl rfl) ?_
    refine ARun.alloc (lit_lt rfl) ty_zero_25 ?_
    intro b21 f21
    have g21 := f21
    repeat ((with_reducible replace g21 := fresh_set g21); obtain ⟨g21, _⟩ := g21)
    have := g21.ne kb6; have := g21.ne' kb6
    have := g21.ne kb15; have := g21.ne' kb15
    (try simp only [List.length_cons, List.length_nil, Nat.zero_add, Nat.reduceAdd])
    first | refine ARun.storeAll rfl rfl ty_size_25 own_ rfl rfl ?_ | refine ARun.store rfl rfl ty_size_25 own_ lens_ rfl ?_
    (try simp only [Mem.set_set, List.set_cons_zero, List.set_cons_succ, Nat.zero_add, Nat.reduceAdd])
    refine rC (Calm.assign rfl) ?_
    refine arun_nil ?_
    refine athen_n ?_
    refine AWP.sub [(0, _), (1, _), (2, _), (3, _), (4, _), (5, _), (6, _), (12, _), (26, _), (13, _), (14, _), (15, _), (16, _), (43, _), (17, _), (18, _), (19, _), (20, _), (21, _), (22, _)] ⟨rfl, rfl, rfl, rfl, rfl, rfl, rfl, rfl, rfl, rfl, rfl, rfl, rfl, rfl, rfl, rfl, rfl, rfl, rfl, rfl, trivial⟩ ?_
    refine named (S := S2) (b := b21) g21.1 ?_
    intro T21 hT21 kb21
    replace hd := hd.less hT21
    replace kb6 := hT21.own kb6
    replace hd1 := hd1.less hT21
    replace kb15 := hT21.own kb15
    replace hd2 := hd2.less hT21
    refine AWP.seq ?_
    refine AWP.region ?_
    refine rC (ldA_ (cs := [_, _, _, _, _]) ty_agg_25 ty_size_25 rfl) ?_
    refine rC (Calm.move rfl) ?_
    refine rC (Calm.move rfl) ?_
    refine ARun.call (lit_lt rfl) go_27 rfl (c5 _ _ hd2) ?_
    rintro _ Sx ⟨rfl, h1⟩
    rw [h1]; clear h1 Sx
    refine rC (Calm.move rfl) ?_
    refine rC (Calm.extract rfl rfl) ?_
    refine rC (Calm.extract rfl rfl) ?_
    refine rC (Calm.assign rfl) ?_
    refine rC (Calm.assign rfl) ?_
    refine arun_nil ?_
    refine athen_n ?_
    refine AWP.sub [(0, _), (1, _), (2, _), (3, _), (4, _), (5, _), (6, _), (12, _), (26, _), (13, _), (14, _), (15, _), (16, _), (43, _), (17, _), (18, _), (19, _), (20, _), (21, _), (22, _), (23, _), (24, _)] ⟨rfl, rfl, rfl, rfl, rfl, rfl, rfl, rfl, rfl, rfl, rfl, rfl, rfl, rfl, rfl, rfl, rfl, rfl, rfl, rfl, rfl, rfl, trivial⟩ ?_
    by_cases q2 : u'.1 = u.1
    · refine AWP.seq ?_
      refine AWP.region ?_
      refine rC (Calm.move rfl) ?_
      refine rC (Calm.bin rfl rfl b_eql) ?_
      refine rC (Calm.move rfl) ?_
      first | refine rS 72 ?_ | refine rU 72 ?_ | refine rG 72 (Calm.move rfl) ?_
      first | refine rS 72 ?_ | refine rU 72 ?_ | refine rG 72 (Calm.move rfl) ?_
      first | refine rS 72 ?_ | refine rU 72 ?_ | refine rG 72 (Calm.bin rfl rfl (bin_bool (bin_str_eql _ _) (decide_eq_true (rfl)))) ?_
      refine rC ((by first | exact Calm.pickT rfl rfl | exact Calm.pickF rfl rfl)) ?_
      refine rC (Calm.move rfl) ?_
      first | refine rS 77 ?_ | refine rU 77 ?_ | refine rG 77 (Calm.move rfl) ?_
      first | refine rS 77 ?_ | refine rU 77 ?_ | refine rG 77 (Calm.move rfl) ?_
      first | refine rS 77 ?_ | refine rU 77 ?_ | refine rG 77 (Calm.bin rfl rfl (bin_bool b_eql (decide_eq_true (h31)))) ?_
      refine rC ((by first | exact Calm.pickT rfl rfl | exact Calm.pickF rfl rfl)) ?_
      refine rC (Calm.move rfl) ?_
      first | refine rS 82 ?_ | refine rU 82 ?_ | refine rG 82 (Calm.move rfl) ?_
      first | refine rS 82 ?_ | refine rU 82 ?_ | refine rG 82 (Calm.move rfl) ?_
      first | refine rS 82 ?_ | refine rU 82 ?_ | refine rG 82 (Calm.bin rfl rfl (bin_bool (bin_str_eql _ _) (decide_eq_true (q2)))) ?_
      first | refine rS 82 ?_ | refine rU 82 ?_ | refine rG 82 (Calm.move rfl) ?_
      first | refine rS 86 ?_ | refine rU 86 ?_ | refine rG 86 (Calm.move rfl) ?_
      first | refine rS 86 ?_ | refine rU 86 ?_ | refine rG 86 (Calm.move rfl) ?_
      first | refine rS 86 ?_ | refine rU 86 ?_ | refine rG 86 (Calm.bin rfl rfl (bin_str_eql _ _)) ?_
      first | refine rS 86 ?_ | refine rU 86 ?_ | refine rG 86 (Calm.move rfl) ?_
      first | refine rS 90 ?_ | refine rU 90 ?_ | refine rG 90 (Calm.move rfl) ?_
      first | refine rS 90 ?_ | refine rU 90 ?_ | refine rG 90 (Calm.move rfl) ?_
      first | refine rS 90 ?_ | refine rU 90 ?_ | refine rG 90 (Calm.bin rfl rfl b_eql) ?_
      first | refine rS 86 ?_ | refine rU 86 ?_ | refine rG 86 ((by first | exact Calm.pickT rfl rfl | exact Calm.pickF rfl rfl)) ?_
      first | refine rS 82 ?_ | refine rU 82 ?_ | refine rG 82 ((by first | exact Calm.pickT rfl rfl | exact Calm.pickF rfl rfl)) ?_
      refine rC ((by first | exact Calm.pickT rfl rfl | exact Calm.pickF rfl rfl)) ?_
      refine rC (Calm.move rfl) ?_
      first | refine rS 97 ?_ | refine rU 97 ?_ | refine rG 97 (Calm.move rfl) ?_
      first | refine rS 97 ?_ | refine rU 97 ?_ | refine rG 97 (Calm.bin rfl rfl b_eql) ?_
      refine rC ((by first | exact Calm.pickT rfl rfl | exact Calm.pickF rfl rfl)) ?_
      refine rC (Calm.move rfl) ?_
      first | refine rS 101 ?_ | refine rU 101 ?_ | refine rG 101 (Calm.move rfl) ?_
      first | refine rS 101 ?_ | refine rU 101 ?_ | refine rG 101 (Calm.bin rfl rfl b_eql) ?_
      refine rC ((by first | exact Calm.pickT rfl rfl | exact Calm.pickF rfl rfl)) ?_
      refine rC (Calm.move rfl) ?_
      first | refine rS 105 ?_ | refine rU 105 ?_ | refine rG 105 (Calm.move rfl) ?_
      first | refine rS 105 ?_ | refine rU 105 ?_ | refine rG 105 (Calm.move rfl) ?_
      first | refine rS 105 ?_ | refine rU 105 ?_ | refine rG 105 (Calm.bin rfl rfl (bin_bool (bin_str_eql _ _) (decide_eq_true (rfl)))) ?_
      refine rC ((by first | exact Calm.pickT rfl rfl | exact Calm.pickF rfl rfl)) ?_
      refine rC (Calm.move rfl) ?_
      first | refine rS 110 ?_ | refine rU 110 ?_ | refine rG 110 (Calm.fieldAddr ty_field_25_2 rfl) ?_
      first | refine rS 110 ?_ | refine rU 110 ?_ | refine rG 110 (ld_ ty_plain_23 rfl) ?_
      first | refine rS 110 ?_ | refine rU 110 ?_ | refine rG 110 (Calm.lenSl Try.underlying23 rfl) ?_
      first | refine rS 110 ?_ | refine rU 110 ?_ | refine rG 110 (Calm.bin rfl rfl (bin_bool b_eql (decide_eq_true (by rw [hfw]; rfl)))) ?_
      refine rC ((by first | exact Calm.pickT rfl rfl | exact Calm.pickF rfl rfl)) ?_
      refine rC (Calm.assign rfl) ?_
      refine arun_nil ?_
      refine athen_n ?_
      refine AWP.sub [(0, _), (1, _), (2, _), (3, _), (4, _), (5, _), (6, _), (12, _), (26, _), (13, _), (14, _), (15, _), (16, _), (43, _), (17, _), (18, _), (19, _), (20, _), (21, _), (22, _), (23, _), (24, _)] ⟨rfl, rfl, rfl, rfl, rfl, rfl, rfl, rfl, rfl, rfl, rfl, rfl, rfl, rfl, rfl, rfl, rfl, rfl, rfl, rfl, rfl, rfl, trivial⟩ ?_
      refine AWP.ret ?_
      refine ⟨_, _, ⟨_, _, rfl, rfl, rfl⟩, less_, ?_⟩
      rfl
    · obtain ⟨q3, q4⟩ := h32.resolve_left q2
      refine AWP.seq ?_
      refine AWP.region ?_
      refine rC (Calm.move rfl) ?_
      refine rC (Calm.bin rfl rfl b_eql) ?_
      refine rC (Calm.move rfl) ?_
      first | refine rS 72 ?_ | refine rU 72 ?_ | refine rG 72 (Calm.move rfl) ?_
      first | refine rS 72 ?_ | refine rU 72 ?_ | refine rG 72 (Calm.move rfl) ?_
      first | refine rS 72 ?_ | refine rU 72 ?_ | refine rG 72 (Calm.bin rfl rfl (bin_bool (bin_str_eql _ _) (decide_eq_true (rfl)))) ?_
      refine rC ((by first | exact Calm.pickT rfl rfl | exact Calm.pickF rfl rfl)) ?_
      refine rC (Calm.move rfl) ?_
      first | refine rS 77 ?_ | refine rU 77 ?_ | refine rG 77 (Calm.move rfl) ?_
      first | refine rS 77 ?_ | refine rU 77 ?_ | refine rG 77 (Calm.move rfl) ?_
      first | refine rS 77 ?_ | refine rU 77 ?_ | refine rG 77 (Calm.bin rfl rfl (bin_bool b_eql (decide_eq_true (h31)))) ?_
      refine rC ((by first | exact Calm.pickT rfl rfl | exact Calm.pickF rfl rfl)) ?_
      refine rC (Calm.move rfl) ?_
      first | refine rS 82 ?_ | refine rU 82 ?_ | refine rG 82 (Calm.move rfl) ?_
      first | refine rS 82 ?_ | refine rU 82 ?_ | refine rG 82 (Calm.move rfl) ?_
      first | refine rS 82 ?_ | refine rU 82 ?_ | refine rG 82 (Calm.bin rfl rfl (bin_bool (bin_str_eql _ _) (decide_eq_false (q2)))) ?_
      first | refine rS 82 ?_ | refine rU 82 ?_ | refine rG 82 (Calm.move rfl) ?_
      first | refine rS 86 ?_ | refine rU 86 ?_ | refine rG 86 (Calm.move rfl) ?_
      first | refine rS 86 ?_ | refine rU 86 ?_ | refine rG 86 (Calm.move rfl) ?_
      first | refine rS 86 ?_ | refine rU 86 ?_ | refine rG 86 (Calm.bin rfl rfl (bin_bool (bin_str_eql _ _) (decide_eq_true (q3)))) ?_
      first | refine rS 86 ?_ | refine rU 86 ?_ | refine rG 86 (Calm.move rfl) ?_
      first | refine rS 90 ?_ | refine rU 90 ?_ | refine rG 90 (Calm.move rfl) ?_
      first | refine rS 90 ?_ | refine rU 90 ?_ | refine rG 90 (Calm.move rfl) ?_
      first | refine rS 90 ?_ | refine rU 90 ?_ | refine rG 90 (Calm.bin rfl rfl (bin_bool b_eql (decide_eq_true (q4)))) ?_
      first | refine rS 86 ?_ | refine rU 86 ?_ | refine rG 86 ((by first | exact Calm.pickT rfl rfl | exact Calm.pickF rfl rfl)) ?_
      first | refine rS 82 ?_ | refine rU 82 ?_ | refine rG 82 ((by first | exact Calm.pickT rfl rfl | exact Calm.pickF rfl rfl)) ?_
      refine rC ((by first | exact Calm.pickT rfl rfl | exact Calm.pickF rfl rfl)) ?_
      refine rC (Calm.move rfl) ?_
      first | refine rS 97 ?_ | refine rU 97 ?_ | refine rG 97 (Calm.move rfl) ?_
      first | refine rS 97 ?_ | refine rU 97 ?_ | refine rG 97 (Calm.bin rfl rfl b_eql) ?_
      refine rC ((by first | exact Calm.pickT rfl rfl | exact Calm.pickF rfl rfl)) ?_
      refine rC (Calm.move rfl) ?_
      first | refine rS 101 ?_ | refine rU 101 ?_ | refine rG 101 (Calm.move rfl) ?_
      first | refine rS 101 ?_ | refine rU 101 ?_ | refine rG 101 (Calm.bin rfl rfl b_eql) ?_
      refine rC ((by first | exact Calm.pickT rfl rfl | exact Calm.pickF rfl rfl)) ?_
      refine rC (Calm.move rfl) ?_
      first | refine rS 105 ?_ | refine rU 105 ?_ | refine rG 105 (Calm.move rfl) ?_
      first | refine rS 105 ?_ | refine rU 105 ?_ | refine rG 105 (Calm.move rfl) ?_
      first | refine rS 105 ?_ | refine rU 105 ?_ | refine rG 105 (Calm.bin rfl rfl (bin_bool (bin_str_eql _ _) (decide_eq_true (rfl)))) ?_
      refine rC ((by first | exact Calm.pickT rfl rfl | exact Calm.pickF rfl rfl)) ?_
      refine rC (Calm.move rfl) ?_
      first | refine rS 110 ?_ | refine rU 110 ?_ | refine rG 110 (Calm.fieldAddr ty_field_25_2 rfl) ?_
      first | refine rS 110 ?_ | refine rU 110 ?_ | refine rG 110 (ld_ ty_plain_23 rfl) ?_
      first | refine rS 110 ?_ | refine rU 110 ?_ | refine rG 110 (Calm.lenSl Try.underlying23 rfl) ?_
      first | refine rS 110 ?_ | refine rU 110 ?_ | refine rG 110 (Calm.bin rfl rfl (bin_bool b_eql (decide_eq_true (by rw [hfw]; rfl)))) ?_
      refine rC ((by first | exact Calm.pickT rfl rfl | exact Calm.pickF rfl rfl)) ?_
      refine rC (Calm.assign rfl) ?_
      refine arun_nil ?_
      refine athen_n ?_
      refine AWP.sub [(0, _), (1, _), (2, _), (3, _), (4, _), (5, _), (6, _), (12, _), (26, _), (13, _), (14, _), (15, _), (16, _), (43, _), (17, _), (18, _), (19, _), (20, _), (21, _), (22, _), (23, _), (24, _)] ⟨rfl, rfl, rfl, rfl, rfl, rfl, rfl, rfl, rfl, rfl, rfl, rfl, rfl, rfl, rfl, rfl, rfl, rfl, rfl, rfl, rfl, rfl, trivial⟩ ?_
      refine AWP.ret ?_
      refine ⟨_, _, ⟨_, _, rfl, rfl, rfl⟩, less_, ?_⟩
      rfl
  · generalize opened d (writeD d s k data) = r at *
    refine ACall.enter (args := [.agg #[.int .i64 d.size, .slice pe d.ext.length ce, .slice pw d.waits.length cw, .int .i64 d.fuse, .bool d.down], .string s, .int .i64 k, .string data, .string o, .int .i64 a]) (rs := [.tmp 12]) 116 [(0, .agg #[.int .i64 d.size, .slice pe d.ext.length ce, .slice pw d.waits.length cw, .int .i64 d.fuse, .bool d.down]), (1, .string s), (2, .int .i64 k), (3, .string data), (4, .string o), (5, .int .i64 a)] Try.func6 rfl rfl (Nat.le_of_ble_eq_true rfl) rfl ⟨rfl, rfl, rfl, rfl, rfl, rfl, trivial⟩ ?_
    refine AWP.seq ?_
    refine AWP.region ?_
    refine ARun.boxA (cs := [_, _, _, _, _]) (lit_lt rfl) rfl ?_
    intro b6 f6
    have g6 := f6
    repeat ((with_reducible replace g6 := fresh_set g6); obtain ⟨g6, _⟩ := g6)
    (try simp only [List.length_cons, List.length_nil, Nat.zero_add, Nat.reduceAdd])
    refine rC (Calm.assign rfl) ?_
    refine arun_nil ?_
    refine athen_n ?_
    refine named (S := S) (b := b6) g6.1 ?_
    intro T6 hT6 kb6
    replace hd := hd.less hT6
    refine AWP.seq ?_
    refine AWP.seq ?_
    refine AWP.region ?_
    refine ARun.call (lit_lt rfl) go_23 rfl (lv_lives _) ?_
    rintro _ Sx ⟨rfl, h1⟩
    rw [h1]; clear h1 Sx
    refine rC (Calm.un rfl (una_not _)) ?_
    refine arun_nil ?_
    refine athen_n ?_
    refine AWP.sub [(0, _), (1, _), (2, _), (3, _), (4, _), (5, _), (6, _), (12, _), (26, _)] ⟨rfl, rfl, rfl, rfl, rfl, rfl, rfl, rfl, rfl, trivial⟩ ?_
    refine AWP.condF rfl (by first | rfl | (simp; done) | (simp; omega)) ?_
    refine AWP.skip ?_
    refine athen_n ?_
    refine AWP.seq ?_
    refine AWP.region ?_
    refine rC (ldA_ (cs := [_, _, _, _, _]) ty_agg_25 ty_size_25 rfl) ?_
    refine rC (Calm.move rfl) ?_
    refine rC (Calm.move rfl) ?_
    refine ARun.call (lit_lt rfl) go_27 rfl (c0 _ _ hd) ?_
    rintro _ Sx ⟨rfl, h1⟩
    rw [h1]; clear h1 Sx
    refine rC (Calm.move rfl) ?_
    refine rC (Calm.extract rfl rfl) ?_
    refine rC (Calm.extract rfl rfl) ?_
    refine rC (Calm.assign rfl) ?_
    refine rC (Calm.assign rfl) ?_
    refine arun_nil ?_
    refine athen_n ?_
    refine AWP.sub [(0, _), (1, _), (2, _), (3, _), (4, _), (5, _), (6, _), (12, _), (26, _), (13, _), (14, _)] ⟨rfl, rfl, rfl, rfl, rfl, rfl, rfl, rfl, rfl, rfl, rfl, trivial⟩ ?_
    refine AWP.seq ?_
    refine AWP.region ?_
    refine rC (ldA_ (cs := [_, _, _, _, _]) ty_agg_25 ty_size_25 rfl) ?_
    refine rC (Calm.move rfl) ?_
    refine rC (Calm.move rfl) ?_
    refine rC (Calm.move rfl) ?_
    refine ARun.call (lit_lt rfl) go_29 rfl (c1 _ _ hd) ?_
    rintro _ S1 ⟨v, rfl, hS1, hd1⟩
    obtain ⟨p1, q1, r1, s1, rfl, hE1, hW1⟩ := id hd1
    replace hd := hd.less hS1
    replace kb6 := hS1.own kb6
    refine rC (Calm.move rfl) ?_
    refine rC (Calm.extract rfl rfl) ?_
    refine rC (Calm.extract rfl rfl) ?_
    refine ARun.alloc (lit_lt rfl) ty_zero_25 ?_
    intro b15 f15
    have g15 := f15
    repeat ((with_reducible replace g15 := fresh_set g15); obtain ⟨g15, _⟩ := g15)
    have := g15.ne kb6; have := g15.ne' kb6
    (try simp only [List.length_cons, List.length_nil, Nat.zero_add, Nat.reduceAdd])
    first | refine ARun.storeAll rfl rfl ty_size_25 own_ rfl rfl ?_ | refine ARun.store rfl rfl ty_size_25 own_ lens_ rfl ?_
    (try simp only [Mem.set_set, List.set_cons_zero, List.set_cons_succ, Nat.zero_add, Nat.reduceAdd])
    refine rC (Calm.assign rfl) ?_
    refine arun_nil ?_
    refine athen_n ?_
    refine AWP.sub [(0, _), (1, _), (2, _), (3, _), (4, _), (5, _), (6, _), (12, _), (26, _), (13, _), (14, _), (15, _), (16, _)] ⟨rfl, rfl, rfl, rfl, rfl, rfl, rfl, rfl, rfl, rfl, rfl, rfl, rfl, trivial⟩ ?_
    refine named (S := S1) (b := b15) g15.1 ?_
    intro T15 hT15 kb15
    replace hd := hd.less hT15
    replace kb6 := hT15.own kb6
    replace hd1 := hd1.less hT15
    refine AWP.seq ?_
    refine AWP.seq ?_
    refine AWP.region ?_
    refine rC (Calm.move rfl) ?_
    refine rC (Calm.bin rfl rfl (bin_bool (bin_neq _ _) (bnot_dec_true q))) ?_
    refine arun_nil ?_
    refine athen_n ?_
    refine AWP.sub [(0, _), (1, _), (2, _), (3, _), (4, _), (5, _), (6, _), (12, _), (26, _), (13, _), (14, _), (15, _), (16, _), (43, _)] ⟨rfl, rfl, rfl, rfl, rfl, rfl, rfl, rfl, rfl, rfl, rfl, rfl, rfl, rfl, trivial⟩ ?_
    refine AWP.condT rfl (by first | rfl | (simp; done) | (simp; omega)) ?_
    refine AWP.seq ?_
    refine AWP.region ?_
    refine rC (Calm.assign rfl) ?_
    refine arun_nil ?_
    refine athen_n ?_
    refine AWP.ret ?_
    refine athen_ret ?_
    refine ⟨_, _, ⟨_, _, rfl, rfl, rfl⟩, less_, ?_⟩
    rfl
theorem walk_DiskSeen (cs : List Value) (y : D) (s : ByteArray) (k : Int) (data o : ByteArray) (a : Int) (W : World) (w0 : DkV (roM W) cs y) (w1 : s.size ≤ maxLen) (z1 : s.size < 140737488355328) (w2 : (Lit.int .i64 k).wf = true) (w3 : data.size ≤ maxLen) (z3 : data.size < 140737488355328) (w4 : o.size ≤ maxLen) (z4 : o.size < 140737488355328) (w5 : (Lit.int .i64 a).wf = true) :
    Calls Try.prog 6 #[.agg cs.toArray, .string s, .int .i64 k, .string data, .string o, .int .i64 a] W fun e w' => e = .returned (.bool true) ∧ Below W.heap.size W w' :=
  ACall.callsW (law_DiskSeen _ y s k data o a _ w0.1 w0.2)
end Go.Proofs.Ytkeiphkccnfhoaa
