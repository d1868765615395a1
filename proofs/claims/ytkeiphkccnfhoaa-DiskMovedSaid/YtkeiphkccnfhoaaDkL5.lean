/-
  Disk: the law DiskMoved walked.
-/
import Derived.Test.YtkeiphkccnfhoaaDiskLv
import Derived.Test.YtkeiphkccnfhoaaDiskOpen
import Derived.Test.YtkeiphkccnfhoaaDkP1
namespace Go.Proofs.Ytkeiphkccnfhoaa
open Go.RowKit
open Mv Disk
set_option linter.unusedVariables false
set_option linter.unusedSimpArgs false
set_option maxRecDepth 20000
set_option maxHeartbeats 8000000 in
theorem law_DiskMoved (v : Value) (d : D) (fr tn : ByteArray) (k : Int) (S : Mem) (hd : DkR S v d) (hz : Dz d) :
    ACall Try.prog 9 #[v, .string fr, .string tn, .int .i64 k] S fun r S' => r = .bool true := by
  have c0 := fun v S h => disk_Read v d fr k S h hz
  have c1 := fun v S h => disk_Room v d S h hz
  have c2 := fun v S h => disk_Move v d fr tn S h hz
  obtain ⟨m1, m2⟩ := move_law (d := d) (fr := fr) (tn := tn) k
  obtain ⟨pe, ce, pw, cw, rfl, hE, hW⟩ := id hd
  generalize opened d (moveD d fr tn) = r at *
  obtain ⟨e, er⟩ := r
  simp only at m1 m2 c2
  by_cases q : er = 0
  · obtain ⟨hR, hdn, hRe, hfe, hread, hor, hroom, hle⟩ := m2 q
    subst q
    have hze : Dz e := dz_right hRe (by rw [hfe]; exact hz.f1)
    have c3 := fun v S h => disk_Read v e tn k S h hze
    have c4 := fun v S h => disk_Read v e fr k S h hze
    have c5 := fun v S h => disk_Room v e S h hze
    have c6 := fun v S h => disk_Check v e S h hze
    rw [hread] at c3
    rw [chkD_yes hRe] at c6
    generalize readO d fr k = u at *
    generalize readO e fr k = u4 at *
    generalize roomD d = n at *
    generalize roomD e = m at *
    refine ACall.enter (args := [.agg #[.int .i64 d.size, .slice pe d.ext.length ce, .slice pw d.waits.length cw, .int .i64 d.fuse, .bool d.down], .string fr, .string tn, .int .i64 k]) (rs := [.tmp 8]) 101 [(0, .agg #[.int .i64 d.size, .slice pe d.ext.length ce, .slice pw d.waits.length cw, .int .i64 d.fuse, .bool d.down]), (1, .string fr), (2, .string tn), (3, .int .i64 k)] Try.func9 rfl rfl (Nat.le_of_ble_eq_true rfl) rfl ⟨rfl, rfl, rfl, rfl, trivial⟩ ?_
    refine AWP.seq ?_
    refine AWP.region ?_
    refine ARun.boxA (cs := [_, _, _, _, _]) (lit_lt rfl) rfl ?_
    intro b4 f4
    have g4 := f4
    repeat ((with_reducible replace g4 := fresh_set g4); obtain ⟨g4, _⟩ := g4)
    (try simp only [List.length_cons, List.length_nil, Nat.zero_add, Nat.reduceAdd])
    refine rC (Calm.assign rfl) ?_
    refine arun_nil ?_
    refine athen_n ?_
    refine named (S := S) (b := b4) g4.1 ?_
    intro T4 hT4 kb4
    replace hd := hd.less hT4
    refine AWP.seq ?_
    refine AWP.seq ?_
    refine AWP.region ?_
    refine ARun.call (lit_lt rfl) go_23 rfl (lv_lives _) ?_
    rintro _ Sx ⟨rfl, h1⟩
    rw [h1]; clear h1 Sx
    refine rC (Calm.un rfl (una_not _)) ?_
    refine arun_nil ?_
    refine athen_n ?_
    refine AWP.sub [(0, _), (1, _), (2, _), (3, _), (4, _), (8, _), (22, _)] ⟨rfl, rfl, rfl, rfl, rfl, rfl, rfl, trivial⟩ ?_
    refine AWP.condF rfl (by first | rfl | (simp; done) | (simp; omega)) ?_
    refine AWP.skip ?_
    refine athen_n ?_
    refine AWP.seq ?_
    refine AWP.region ?_
    refine rC (ldA_ (cs := [_, _, _, _, _]) ty_agg_25 ty_size_25 rfl) ?_
    refine rC (Calm.move rfl) ?_
    refine rC (Calm.move rfl) ?_
    refine ARun.call (lit_lt rfl) go_27 rfl (c0 _ _ hd) ?_
    rintro _ Sx ⟨rfl, h1⟩
    rw [h1]; clear h1 Sx
    refine rC (Calm.move rfl) ?_
    refine rC (Calm.extract rfl rfl) ?_
    refine rC (Calm.extract rfl rfl) ?_
    refine rC (Calm.assign rfl) ?_
    refine rC (Calm.assign rfl) ?_
    refine arun_nil ?_
    refine athen_n ?_
    refine AWP.sub [(0, _), (1, _), (2, _), (3, _), (4, _), (8, _), (22, _), (9, _), (10, _)] ⟨rfl, rfl, rfl, rfl, rfl, rfl, rfl, rfl, rfl, trivial⟩ ?_
    refine AWP.seq ?_
    refine AWP.region ?_
    refine rC (ldA_ (cs := [_, _, _, _, _]) ty_agg_25 ty_size_25 rfl) ?_
    refine ARun.call (lit_lt rfl) go_19 rfl (c1 _ _ hd) ?_
    rintro _ Sx ⟨rfl, h1⟩
    rw [h1]; clear h1 Sx
    refine rC (Calm.move rfl) ?_
    refine rC (Calm.extract rfl rfl) ?_
    refine rC (Calm.extract rfl rfl) ?_
    refine rC (Calm.assign rfl) ?_
    refine rC (Calm.assign rfl) ?_
    refine arun_nil ?_
    refine athen_n ?_
    refine AWP.sub [(0, _), (1, _), (2, _), (3, _), (4, _), (8, _), (22, _), (9, _), (10, _), (11, _)] ⟨rfl, rfl, rfl, rfl, rfl, rfl, rfl, rfl, rfl, rfl, trivial⟩ ?_
    refine AWP.seq ?_
    refine AWP.region ?_
    refine rC (ldA_ (cs := [_, _, _, _, _]) ty_agg_25 ty_size_25 rfl) ?_
    refine rC (Calm.move rfl) ?_
    refine rC (Calm.move rfl) ?_
    refine ARun.call (lit_lt rfl) go_17 rfl (c2 _ _ hd) ?_
    rintro _ S1 ⟨v, rfl, hS1, hd1⟩
    obtain ⟨p1, q1, r1, s1, rfl, hE1, hW1⟩ := id hd1
    replace hd := hd.less hS1
    replace kb4 := hS1.own kb4
    refine rC (Calm.move rfl) ?_
    refine rC (Calm.extract rfl rfl) ?_
    refine rC (Calm.extract rfl rfl) ?_
    refine ARun.alloc (lit_lt rfl) ty_zero_25 ?_
    intro b13 f13
    have g13 := f13
    repeat ((with_reducible replace g13 := fresh_set g13); obtain ⟨g13, _⟩ := g13)
    have := g13.ne kb4; have := g13.ne' kb4
    (try simp only [List.length_cons, List.length_nil, Nat.zero_add, Nat.reduceAdd])
    first | refine ARun.storeAll rfl rfl ty_size_25 own_ rfl rfl ?_ | refine ARun.store rfl rfl ty_size_25 own_ lens_ rfl ?_
    (try simp only [Mem.set_set, List.set_cons_zero, List.set_cons_succ, Nat.zero_add, Nat.reduceAdd])
    refine rC (Calm.assign rfl) ?_
    refine arun_nil ?_
    refine athen_n ?_
    refine AWP.sub [(0, _), (1, _), (2, _), (3, _), (4, _), (8, _), (22, _), (9, _), (10, _), (11, _), (13, _), (14, _)] ⟨rfl, rfl, rfl, rfl, rfl, rfl, rfl, rfl, rfl, rfl, rfl, rfl, trivial⟩ ?_
    refine named (S := S1) (b := b13) g13.1 ?_
    intro T13 hT13 kb13
    replace hd := hd.less hT13
    replace kb4 := hT13.own kb4
    replace hd1 := hd1.less hT13
    refine AWP.seq ?_
    refine AWP.seq ?_
    refine AWP.region ?_
    refine rC (Calm.move rfl) ?_
    refine rC (Calm.bin rfl rfl b_neq) ?_
    refine arun_nil ?_
    refine athen_n ?_
    refine AWP.sub [(0, _), (1, _), (2, _), (3, _), (4, _), (8, _), (22, _), (9, _), (10, _), (11, _), (13, _), (14, _), (43, _)] ⟨rfl, rfl, rfl, rfl, rfl, rfl, rfl, rfl, rfl, rfl, rfl, rfl, rfl, trivial⟩ ?_
    refine AWP.condF rfl (by first | rfl | (simp; done) | (simp; omega)) ?_
    refine AWP.skip ?_
    refine athen_n ?_
    refine AWP.seq ?_
    refine AWP.region ?_
    refine rC (ldA_ (cs := [_, _, _, _, _]) ty_agg_25 ty_size_25 rfl) ?_
    refine rC (Calm.move rfl) ?_
    refine rC (Calm.move rfl) ?_
    refine ARun.call (lit_lt rfl) go_27 rfl (c3 _ _ hd1) ?_
    rintro _ Sx ⟨rfl, h1⟩
    rw [h1]; clear h1 Sx
    refine rC (Calm.move rfl) ?_
    refine rC (Calm.extract rfl rfl) ?_
    refine rC (Calm.extract rfl rfl) ?_
    refine rC (Calm.assign rfl) ?_
    refine rC (Calm.assign rfl) ?_
    refine arun_nil ?_
    refine athen_n ?_
    refine AWP.sub [(0, _), (1, _), (2, _), (3, _), (4, _), (8, _), (22, _), (9, _), (10, _), (11, _), (13, _), (14, _), (43, _), (15, _), (16, _)] ⟨rfl, rfl, rfl, rfl, rfl, rfl, rfl, rfl, rfl, rfl, rfl, rfl, rfl, rfl, rfl, trivial⟩ ?_
    refine AWP.seq ?_
    refine AWP.region ?_
    refine rC (ldA_ (cs := [_, _, _, _, _]) ty_agg_25 ty_size_25 rfl) ?_
    refine rC (Calm.move rfl) ?_
    refine rC (Calm.move rfl) ?_
    refine ARun.call (lit_lt rfl) go_27 rfl (c4 _ _ hd1) ?_
    rintro _ Sx ⟨rfl, h1⟩
    rw [h1]; clear h1 Sx
    refine rC (Calm.move rfl) ?_
    refine rC (Calm.extract rfl rfl) ?_
    refine rC (Calm.extract rfl rfl) ?_
    refine rC (Calm.assign rfl) ?_
    refine rC (Calm.assign rfl) ?_
    refine arun_nil ?_
    refine athen_n ?_
    refine AWP.sub [(0, _), (1, _), (2, _), (3, _), (4, _), (8, _), (22, _), (9, _), (10, _), (11, _), (13, _), (14, _), (43, _), (15, _), (16, _), (18, _)] ⟨rfl, rfl, rfl, rfl, rfl, rfl, rfl, rfl, rfl, rfl, rfl, rfl, rfl, rfl, rfl, rfl, trivial⟩ ?_
    refine AWP.seq ?_
    refine AWP.region ?_
    refine rC (ldA_ (cs := [_, _, _, _, _]) ty_agg_25 ty_size_25 rfl) ?_
    refine ARun.call (lit_lt rfl) go_19 rfl (c5 _ _ hd1) ?_
    rintro _ Sx ⟨rfl, h1⟩
    rw [h1]; clear h1 Sx
    refine rC (Calm.move rfl) ?_
    refine rC (Calm.extract rfl rfl) ?_
    refine rC (Calm.extract rfl rfl) ?_
    refine rC (Calm.assign rfl) ?_
    refine rC (Calm.assign rfl) ?_
    refine arun_nil ?_
    refine athen_n ?_
    refine AWP.sub [(0, _), (1, _), (2, _), (3, _), (4, _), (8, _), (22, _), (9, _), (10, _), (11, _), (13, _), (14, _), (43, _), (15, _), (16, _), (18, _), (19, _), (20, _)] ⟨rfl, rfl, rfl, rfl, rfl, rfl, rfl, rfl, rfl, rfl, rfl, rfl, rfl, rfl, rfl, rfl, rfl, rfl, trivial⟩ ?_
    by_cases q3 : fr = tn
    · refine AWP.seq ?_
      refine AWP.region ?_
      refine rC (Calm.move rfl) ?_
      refine rC (Calm.move rfl) ?_
      refine rC (Calm.bin rfl rfl (bin_bool b_eql (decide_eq_true (rfl)))) ?_
      refine rC (Calm.move rfl) ?_
      first | refine rS 73 ?_ | refine rU 73 ?_ | refine rG 73 (Calm.move rfl) ?_
      first | refine rS 73 ?_ | refine rU 73 ?_ | refine rG 73 (Calm.move rfl) ?_
      first | refine rS 73 ?_ | refine rU 73 ?_ | refine rG 73 (Calm.bin rfl rfl (bin_bool (bin_str_eql _ _) (decide_eq_true (rfl)))) ?_
      refine rC ((by first | exact Calm.pickT rfl rfl | exact Calm.pickF rfl rfl)) ?_
      refine rC (Calm.move rfl) ?_
      first | refine rS 78 ?_ | refine rU 78 ?_ | refine rG 78 (Calm.move rfl) ?_
      first | refine rS 78 ?_ | refine rU 78 ?_ | refine rG 78 (Calm.move rfl) ?_
      first | refine rS 78 ?_ | refine rU 78 ?_ | refine rG 78 (Calm.bin rfl rfl (bin_bool (bin_str_eql _ _) (decide_eq_true (q3)))) ?_
      first | refine rS 78 ?_ | refine rU 78 ?_ | refine rG 78 (Calm.move rfl) ?_
      first | refine rS 82 ?_ | refine rU 82 ?_ | refine rG 82 (Calm.move rfl) ?_
      first | refine rS 82 ?_ | refine rU 82 ?_ | refine rG 82 (Calm.bin rfl rfl b_eql) ?_
      first | refine rS 78 ?_ | refine rU 78 ?_ | refine rG 78 ((by first | exact Calm.pickT rfl rfl | exact Calm.pickF rfl rfl)) ?_
      refine rC ((by first | exact Calm.pickT rfl rfl | exact Calm.pickF rfl rfl)) ?_
      refine rC (Calm.move rfl) ?_
      first | refine rS 87 ?_ | refine rU 87 ?_ | refine rG 87 (Calm.move rfl) ?_
      first | refine rS 87 ?_ | refine rU 87 ?_ | refine rG 87 (Calm.bin rfl rfl (bin_bool b_eql (decide_eq_true (hroom)))) ?_
      refine rC ((by first | exact Calm.pickT rfl rfl | exact Calm.pickF rfl rfl)) ?_
      refine rC (Calm.move rfl) ?_
      first | refine rS 91 ?_ | refine rU 91 ?_ | refine rG 91 (Calm.move rfl) ?_
      first | refine rS 91 ?_ | refine rU 91 ?_ | refine rG 91 (Calm.move rfl) ?_
      first | refine rS 91 ?_ | refine rU 91 ?_ | refine rG 91 (Calm.bin rfl rfl (bin_bool b_geq (decide_eq_true hle))) ?_
      refine rC ((by first | exact Calm.pickT rfl rfl | exact Calm.pickF rfl rfl)) ?_
      refine rC (Calm.move rfl) ?_
      first | refine rS 96 ?_ | refine rU 96 ?_ | refine rG 96 (ldA_ (cs := [_, _, _, _, _]) ty_agg_25 ty_size_25 rfl) ?_
      refine ARun.callG 26 true 96 rfl (lit_lt rfl) rfl (lit_lt rfl) go_25 rfl (c6 _ _ hd1) ?_
      rintro _ Sx ⟨rfl, h1⟩
      rw [h1]; clear h1 Sx
      first | refine rS 96 ?_ | refine rU 96 ?_ | refine rG 96 (Calm.bin rfl rfl b_eql) ?_
      refine rC ((by first | exact Calm.pickT rfl rfl | exact Calm.pickF rfl rfl)) ?_
      refine rC (Calm.assign rfl) ?_
      refine arun_nil ?_
      refine athen_n ?_
      refine AWP.sub [(0, _), (1, _), (2, _), (3, _), (4, _), (8, _), (22, _), (9, _), (10, _), (11, _), (13, _), (14, _), (43, _), (15, _), (16, _), (18, _), (19, _), (20, _)] ⟨rfl, rfl, rfl, rfl, rfl, rfl, rfl, rfl, rfl, rfl, rfl, rfl, rfl, rfl, rfl, rfl, rfl, rfl, trivial⟩ ?_
      refine AWP.ret ?_
      refine ⟨_, _, ⟨_, _, rfl, rfl, rfl⟩, less_, ?_⟩
      rfl
    · refine AWP.seq ?_
      refine AWP.region ?_
      refine rC (Calm.move rfl) ?_
      refine rC (Calm.move rfl) ?_
      refine rC (Calm.bin rfl rfl (bin_bool b_eql (decide_eq_true (rfl)))) ?_
      refine rC (Calm.move rfl) ?_
      first | refine rS 73 ?_ | refine rU 73 ?_ | refine rG 73 (Calm.move rfl) ?_
      first | refine rS 73 ?_ | refine rU 73 ?_ | refine rG 73 (Calm.move rfl) ?_
      first | refine rS 73 ?_ | refine rU 73 ?_ | refine rG 73 (Calm.bin rfl rfl (bin_bool (bin_str_eql _ _) (decide_eq_true (rfl)))) ?_
      refine rC ((by first | exact Calm.pickT rfl rfl | exact Calm.pickF rfl rfl)) ?_
      refine rC (Calm.move rfl) ?_
      first | refine rS 78 ?_ | refine rU 78 ?_ | refine rG 78 (Calm.move rfl) ?_
      first | refine rS 78 ?_ | refine rU 78 ?_ | refine rG 78 (Calm.move rfl) ?_
      first | refine rS 78 ?_ | refine rU 78 ?_ | refine rG 78 (Calm.bin rfl rfl (bin_bool (bin_str_eql _ _) (decide_eq_false (q3)))) ?_
      first | refine rS 78 ?_ | refine rU 78 ?_ | refine rG 78 (Calm.move rfl) ?_
      first | refine rS 82 ?_ | refine rU 82 ?_ | refine rG 82 (Calm.move rfl) ?_
      first | refine rS 82 ?_ | refine rU 82 ?_ | refine rG 82 (Calm.bin rfl rfl (bin_bool b_eql (decide_eq_true (hor.resolve_left q3)))) ?_
      first | refine rS 78 ?_ | refine rU 78 ?_ | refine rG 78 ((by first | exact Calm.pickT rfl rfl | exact Calm.pickF rfl rfl)) ?_
      refine rC ((by first | exact Calm.pickT rfl rfl | exact Calm.pickF rfl rfl)) ?_
      refine rC (Calm.move rfl) ?_
      first | refine rS 87 ?_ | refine rU 87 ?_ | refine rG 87 (Calm.move rfl) ?_
      first | refine rS 87 ?_ | refine rU 87 ?_ | refine rG 87 (Calm.bin rfl rfl (bin_bool b_eql (decide_eq_true (hroom)))) ?_
      refine rC ((by first | exact Calm.pickT rfl rfl | exact Calm.pickF rfl rfl)) ?_
      refine rC (Calm.move rfl) ?_
      first | refine rS 91 ?_ | refine rU 91 ?_ | refine rG 91 (Calm.move rfl) ?_
      first | refine rS 91 ?_ | refine rU 91 ?_ | refine rG 91 (Calm.move rfl) ?_
      first | refine rS 91 ?_ | refine rU 91 ?_ | refine rG 91 (Calm.bin rfl rfl (bin_bool b_geq (decide_eq_true hle))) ?_
      refine rC ((by first | exact Calm.pickT rfl rfl | exact Calm.pickF rfl rfl)) ?_
      refine rC (Calm.move rfl) ?_
      first | refine rS 96 ?_ | refine rU 96 ?_ | refine rG 96 (ldA_ (cs := [_, _, _, _, _]) ty_agg_25 ty_size_25 rfl) ?_
      refine ARun.callG 26 true 96 rfl (lit_lt rfl) rfl (lit_lt rfl) go_25 rfl (c6 _ _ hd1) ?_
      rintro _ Sx ⟨rfl, h1⟩
      rw [h1]; clear h1 Sx
      first | refine rS 96 ?_ | refine rU 96 ?_ | refine rG 96 (Calm.bin rfl rfl b_eql) ?_
      refine rC ((by first | exact Calm.pickT rfl rfl | exact Calm.pickF rfl rfl)) ?_
      refine rC (Calm.assign rfl) ?_
      refine arun_nil ?_
      refine athen_n ?_
      refine AWP.sub [(0, _), (1, _), (2, _), (3, _), (4, _), (8, _), (22, _), (9, _), (10, _), (11, _), (13, _), (14, _), (43, _), (15, _), (16, _), (18, _), (19, _), (20, _)] ⟨rfl, rfl, rfl, rfl, rfl, rfl, rfl, rfl, rfl, rfl, rfl, rfl, rfl, rfl, rfl, rfl, rfl, rfl, trivial⟩ ?_
      refine AWP.ret ?_
      refine ⟨_, _, ⟨_, _, rfl, rfl, rfl⟩, less_, ?_⟩
      rfl
  · by_cases q2 : er = 2
    · skip
      refine ACall.enter (args := [.agg #[.int .i64 d.size, .slice pe d.ext.length ce, .slice pw d.waits.length cw, .int .i64 d.fuse, .bool d.down], .string fr, .string tn, .int .i64 k]) (rs := [.tmp 8]) 101 [(0, .agg #[.int .i64 d.size, .slice pe d.ext.length ce, .slice pw d.waits.length cw, .int .i64 d.fuse, .bool d.down]), (1, .string fr), (2, .string tn), (3, .int .i64 k)] Try.func9 rfl rfl (Nat.le_of_ble_eq_true rfl) rfl ⟨rfl, rfl, rfl, rfl, trivial⟩ ?_
      refine AWP.seq ?_
      refine AWP.region ?_
      refine ARun.boxA (cs := [_, _, _, _, _]) (lit_lt rfl) rfl ?_
      intro b4 f4
      have g4 := f4
      repeat ((with_reducible replace g4 := fresh_set g4); obtain ⟨g4, _⟩ := g4)
      (try simp only [List.length_cons, List.length_nil, Nat.zero_add, Nat.reduceAdd])
      refine rC (Calm.assign rfl) ?_
      refine arun_nil ?_
      refine athen_n ?_
      refine named (S := S) (b := b4) g4.1 ?_
      intro T4 hT4 kb4
      replace hd := hd.less hT4
      refine AWP.seq ?_
      refine AWP.seq ?_
      refine AWP.region ?_
      refine ARun.call (lit_lt rfl) go_23 rfl (lv_lives _) ?_
      rintro _ Sx ⟨rfl, h1⟩
      rw [h1]; clear h1 Sx
      refine rC (Calm.un rfl (una_not _)) ?_
      refine arun_nil ?_
      refine athen_n ?_
      refine AWP.sub [(0, _), (1, _), (2, _), (3, _), (4, _), (8, _), (22, _)] ⟨rfl, rfl, rfl, rfl, rfl, rfl, rfl, trivial⟩ ?_
      refine AWP.condF rfl (by first | rfl | (simp; done) | (simp; omega)) ?_
      refine AWP.skip ?_
      refine athen_n ?_
      refine AWP.seq ?_
      refine AWP.region ?_
      refine rC (ldA_ (cs := [_, _, _, _, _]) ty_agg_25 ty_size_25 rfl) ?_
      refine rC (Calm.move rfl) ?_
      refine rC (Calm.move rfl) ?_
      refine ARun.call (lit_lt rfl) go_27 rfl (c0 _ _ hd) ?_
      rintro _ Sx ⟨rfl, h1⟩
      rw [h1]; clear h1 Sx
      refine rC (Calm.move rfl) ?_
      refine rC (Calm.extract rfl rfl) ?_
      refine rC (Calm.extract rfl rfl) ?_
      refine rC (Calm.assign rfl) ?_
      refine rC (Calm.assign rfl) ?_
      refine arun_nil ?_
      refine athen_n ?_
      refine AWP.sub [(0, _), (1, _), (2, _), (3, _), (4, _), (8, _), (22, _), (9, _), (10, _)] ⟨rfl, rfl, rfl, rfl, rfl, rfl, rfl, rfl, rfl, trivial⟩ ?_
      refine AWP.seq ?_
      refine AWP.region ?_
      refine rC (ldA_ (cs := [_, _, _, _, _]) ty_agg_25 ty_size_25 rfl) ?_
      refine ARun.call (lit_lt rfl) go_19 rfl (c1 _ _ hd) ?_
      rintro _ Sx ⟨rfl, h1⟩
      rw [h1]; clear h1 Sx
      refine rC (Calm.move rfl) ?_
      refine rC (Calm.extract rfl rfl) ?_
      refine rC (Calm.extract rfl rfl) ?_
      refine rC (Calm.assign rfl) ?_
      refine rC (Calm.assign rfl) ?_
      refine arun_nil ?_
      refine athen_n ?_
      refine AWP.sub [(0, _), (1, _), (2, _), (3, _), (4, _), (8, _), (22, _), (9, _), (10, _), (11, _)] ⟨rfl, rfl, rfl, rfl, rfl, rfl, rfl, rfl, rfl, rfl, trivial⟩ ?_
      refine AWP.seq ?_
      refine AWP.region ?_
      refine rC (ldA_ (cs := [_, _, _, _, _]) ty_agg_25 ty_size_25 rfl) ?_
      refine rC (Calm.move rfl) ?_
      refine rC (Calm.move rfl) ?_
      refine ARun.call (lit_lt rfl) go_17 rfl (c2 _ _ hd) ?_
      rintro _ S1 ⟨v, rfl, hS1, hd1⟩
      obtain ⟨p1, q1, r1, s1, rfl, hE1, hW1⟩ := id hd1
      replace hd := hd.less hS1
      replace kb4 := hS1.own kb4
      refine rC (Calm.move rfl) ?_
      refine rC (Calm.extract rfl rfl) ?_
      refine rC (Calm.extract rfl rfl) ?_
      refine ARun.alloc (lit_lt rfl) ty_zero_25 ?_
      intro b13 f13
      have g13 := f13
      repeat ((with_reducible replace g13 := fresh_set g13); obtain ⟨g13, _⟩ := g13)
      have := g13.ne kb4; have := g13.ne' kb4
      (try simp only [List.length_cons, List.length_nil, Nat.zero_add, Nat.reduceAdd])
      first | refine ARun.storeAll rfl rfl ty_size_25 own_ rfl rfl ?_ | refine ARun.store rfl rfl ty_size_25 own_ lens_ rfl ?_
      (try simp only [Mem.set_set, List.set_cons_zero, List.set_cons_succ, Nat.zero_add, Nat.reduceAdd])
      refine rC (Calm.assign rfl) ?_
      refine arun_nil ?_
      refine athen_n ?_
      refine AWP.sub [(0, _), (1, _), (2, _), (3, _), (4, _), (8, _), (22, _), (9, _), (10, _), (11, _), (13, _), (14, _)] ⟨rfl, rfl, rfl, rfl, rfl, rfl, rfl, rfl, rfl, rfl, rfl, rfl, trivial⟩ ?_
      refine named (S := S1) (b := b13) g13.1 ?_
      intro T13 hT13 kb13
      replace hd := hd.less hT13
      replace kb4 := hT13.own kb4
      replace hd1 := hd1.less hT13
      refine AWP.seq ?_
      refine AWP.seq ?_
      refine AWP.region ?_
      refine rC (Calm.move rfl) ?_
      refine rC (Calm.bin rfl rfl (bin_bool (bin_neq _ _) (bnot_dec_true q))) ?_
      refine arun_nil ?_
      refine athen_n ?_
      refine AWP.sub [(0, _), (1, _), (2, _), (3, _), (4, _), (8, _), (22, _), (9, _), (10, _), (11, _), (13, _), (14, _), (43, _)] ⟨rfl, rfl, rfl, rfl, rfl, rfl, rfl, rfl, rfl, rfl, rfl, rfl, rfl, trivial⟩ ?_
      refine AWP.condT rfl (by first | rfl | (simp; done) | (simp; omega)) ?_
      refine AWP.seq ?_
      refine AWP.region ?_
      refine rC (Calm.move rfl) ?_
      refine rC (Calm.bin rfl rfl (bin_bool b_eql (decide_eq_true (q2)))) ?_
      refine rC (Calm.move rfl) ?_
      first | refine rS 46 ?_ | refine rU 46 ?_ | refine rG 46 (ldA_ (cs := [_, _, _, _, _]) ty_agg_25 ty_size_25 rfl) ?_
      first | refine rS 46 ?_ | refine rU 46 ?_ | refine rG 46 (ldA_ (cs := [_, _, _, _, _]) ty_agg_25 ty_size_25 rfl) ?_
      first | refine rS 46 ?_ | refine rU 46 ?_
      refine rC ((by first | exact Calm.pickT rfl rfl | exact Calm.pickF rfl rfl)) ?_
      refine rC (Calm.assign rfl) ?_
      refine arun_nil ?_
      refine athen_n ?_
      refine AWP.sub [(0, _), (1, _), (2, _), (3, _), (4, _), (8, _), (22, _), (9, _), (10, _), (11, _), (13, _), (14, _), (43, _)] ⟨rfl, rfl, rfl, rfl, rfl, rfl, rfl, rfl, rfl, rfl, rfl, rfl, rfl, trivial⟩ ?_
      refine AWP.ret ?_
      refine athen_ret ?_
      refine ⟨_, _, ⟨_, _, rfl, rfl, rfl⟩, less_, ?_⟩
      rfl
    · have hed : e = d := (m1 q).resolve_left q2
      rw [hed] at c2
      refine ACall.enter (args := [.agg #[.int .i64 d.size, .slice pe d.ext.length ce, .slice pw d.waits.length cw, .int .i64 d.fuse, .bool d.down], .string fr, .string tn, .int .i64 k]) (rs := [.tmp 8]) 101 [(0, .agg #[.int .i64 d.size, .slice pe d.ext.length ce, .slice pw d.waits.length cw, .int .i64 d.fuse, .bool d.down]), (1, .string fr), (2, .string tn), (3, .int .i64 k)] Try.func9 rfl rfl (Nat.le_of_ble_eq_true rfl) rfl ⟨rfl, rfl, rfl, rfl, trivial⟩ ?_
      refine AWP.seq ?_
      refine AWP.region ?_
      refine ARun.boxA (cs := [_, _, _, _, _]) (lit_lt rfl) rfl ?_
      intro b4 f4
      have g4 := f4
      repeat ((with_reducible replace g4 := fresh_set g4); obtain ⟨g4, _⟩ := g4)
      (try simp only [List.length_cons, List.length_nil, Nat.zero_add, Nat.reduceAdd])
      refine rC (Calm.assign rfl) ?_
      refine arun_nil ?_
      refine athen_n ?_
      refine named (S := S) (b := b4) g4.1 ?_
      intro T4 hT4 kb4
      replace hd := hd.less hT4
      refine AWP.seq ?_
      refine AWP.seq ?_
      refine AWP.region ?_
      refine ARun.call (lit_lt rfl) go_23 rfl (lv_lives _) ?_
      rintro _ Sx ⟨rfl, h1⟩
      rw [h1]; clear h1 Sx
      refine rC (Calm.un rfl (una_not _)) ?_
      refine arun_nil ?_
      refine athen_n ?_
      refine AWP.sub [(0, _), (1, _), (2, _), (3, _), (4, _), (8, _), (22, _)] ⟨rfl, rfl, rfl, rfl, rfl, rfl, rfl, trivial⟩ ?_
      refine AWP.condF rfl (by first | rfl | (simp; done) | (simp; omega)) ?_
      refine AWP.skip ?_
      refine athen_n ?_
      refine AWP.seq ?_
      refine AWP.region ?_
      refine rC (ldA_ (cs := [_, _, _, _, _]) ty_agg_25 ty_size_25 rfl) ?_
      refine rC (Calm.move rfl) ?_
      refine rC (Calm.move rfl) ?_
      refine ARun.call (lit_lt rfl) go_27 rfl (c0 _ _ hd) ?_
      rintro _ Sx ⟨rfl, h1⟩
      rw [h1]; clear h1 Sx
      refine rC (Calm.move rfl) ?_
      refine rC (Calm.extract rfl rfl) ?_
      refine rC (Calm.extract rfl rfl) ?_
      refine rC (Calm.assign rfl) ?_
      refine rC (Calm.assign rfl) ?_
      refine arun_nil ?_
      refine athen_n ?_
      refine AWP.sub [(0, _), (1, _), (2, _), (3, _), (4, _), (8, _), (22, _), (9, _), (10, _)] ⟨rfl, rfl, rfl, rfl, rfl, rfl, rfl, rfl, rfl, trivial⟩ ?_
      refine AWP.seq ?_
      refine AWP.region ?_
      refine rC (ldA_ (cs := [_, _, _, _, _]) ty_agg_25 ty_size_25 rfl) ?_
      refine ARun.call (lit_lt rfl) go_19 rfl (c1 _ _ hd) ?_
      rintro _ Sx ⟨rfl, h1⟩
      rw [h1]; clear h1 Sx
      refine rC (Calm.move rfl) ?_
      refine rC (Calm.extract rfl rfl) ?_
      refine rC (Calm.extract rfl rfl) ?_
      refine rC (Calm.assign rfl) ?_
      refine rC (Calm.assign rfl) ?_
      refine arun_nil ?_
      refine athen_n ?_
      refine AWP.sub [(0, _), (1, _), (2, _), (3, _), (4, _), (8, _), (22, _), (9, _), (10, _), (11, _)] ⟨rfl, rfl, rfl, rfl, rfl, rfl, rfl, rfl, rfl, rfl, trivial⟩ ?_
      refine AWP.seq ?_
      refine AWP.region ?_
      refine rC (ldA_ (cs := [_, _, _, _, _]) ty_agg_25 ty_size_25 rfl) ?_
      refine rC (Calm.move rfl) ?_
      refine rC (Calm.move rfl) ?_
      refine ARun.call (lit_lt rfl) go_17 rfl (c2 _ _ hd) ?_
      rintro _ S1 ⟨v, rfl, hS1, hd1⟩
      obtain ⟨p1, q1, r1, s1, rfl, hE1, hW1⟩ := id hd1
      replace hd := hd.less hS1
      replace kb4 := hS1.own kb4
      refine rC (Calm.move rfl) ?_
      refine rC (Calm.extract rfl rfl) ?_
      refine rC (Calm.extract rfl rfl) ?_
      refine ARun.alloc (lit_lt rfl) ty_zero_25 ?_
      intro b13 f13
      have g13 := f13
      repeat ((with_reducible replace g13 := fresh_set g13); obtain ⟨g13, _⟩ := g13)
      have := g13.ne kb4; have := g13.ne' kb4
      (try simp only [List.length_cons, List.length_nil, Nat.zero_add, Nat.reduceAdd])
      first | refine ARun.storeAll rfl rfl ty_size_25 own_ rfl rfl ?_ | refine ARun.store rfl rfl ty_size_25 own_ lens_ rfl ?_
      (try simp only [Mem.set_set, List.set_cons_zero, List.set_cons_succ, Nat.zero_add, Nat.reduceAdd])
      refine rC (Calm.assign rfl) ?_
      refine arun_nil ?_
      refine athen_n ?_
      refine AWP.sub [(0, _), (1, _), (2, _), (3, _), (4, _), (8, _), (22, _), (9, _), (10, _), (11, _), (13, _), (14, _)] ⟨rfl, rfl, rfl, rfl, rfl, rfl, rfl, rfl, rfl, rfl, rfl, rfl, trivial⟩ ?_
      refine named (S := S1) (b := b13) g13.1 ?_
      intro T13 hT13 kb13
      replace hd := hd.less hT13
      replace kb4 := hT13.own kb4
      replace hd1 := hd1.less hT13
      refine AWP.seq ?_
      refine AWP.seq ?_
      refine AWP.region ?_
      refine rC (Calm.move rfl) ?_
      refine rC (Calm.bin rfl rfl (bin_bool (bin_neq _ _) (bnot_dec_true q))) ?_
      refine arun_nil ?_
      refine athen_n ?_
      refine AWP.sub [(0, _), (1, _), (2, _), (3, _), (4, _), (8, _), (22, _), (9, _), (10, _), (11, _), (13, _), (14, _), (43, _)] ⟨rfl, rfl, rfl, rfl, rfl, rfl, rfl, rfl, rfl, rfl, rfl, rfl, rfl, trivial⟩ ?_
      refine AWP.condT rfl (by first | rfl | (simp; done) | (simp; omega)) ?_
      refine AWP.seq ?_
      refine AWP.region ?_
      refine rC (Calm.move rfl) ?_
      refine rC (Calm.bin rfl rfl (bin_bool b_eql (decide_eq_false q2))) ?_
      refine rC (Calm.move rfl) ?_
      first | refine rS 46 ?_ | refine rU 46 ?_ | refine rG 46 (ldA_ (cs := [_, _, _, _, _]) ty_agg_25 ty_size_25 rfl) ?_
      first | refine rS 46 ?_ | refine rU 46 ?_ | refine rG 46 (ldA_ (cs := [_, _, _, _, _]) ty_agg_25 ty_size_25 rfl) ?_
      refine ARun.callG 2 false 46 rfl (lit_lt rfl) rfl (lit_lt rfl) go_24 rfl (rd_Same _ _ d _ hd hd1) ?_
      rintro _ Sx ⟨rfl, h1⟩
      rw [h1]; clear h1 Sx
      refine rC ((by first | exact Calm.pickT rfl rfl | exact Calm.pickF rfl rfl)) ?_
      refine rC (Calm.assign rfl) ?_
      refine arun_nil ?_
      refine athen_n ?_
      refine AWP.sub [(0, _), (1, _), (2, _), (3, _), (4, _), (8, _), (22, _), (9, _), (10, _), (11, _), (13, _), (14, _), (43, _)] ⟨rfl, rfl, rfl, rfl, rfl, rfl, rfl, rfl, rfl, rfl, rfl, rfl, rfl, trivial⟩ ?_
      refine AWP.ret ?_
      refine athen_ret ?_
      refine ⟨_, _, ⟨_, _, rfl, rfl, rfl⟩, less_, ?_⟩
      rfl
theorem walk_DiskMoved (cs : List Value) (y : D) (fr tn : ByteArray) (k : Int) (W : World) (w0 : DkV (roM W) cs y) (w1 : fr.size ≤ maxLen) (z1 : fr.size < 140737488355328) (w2 : tn.size ≤ maxLen) (z2 : tn.size < 140737488355328) (w3 : (Lit.int .i64 k).wf = true) :
    Calls Try.prog 9 #[.agg cs.toArray, .string fr, .string tn, .int .i64 k] W fun e w' => e = .returned (.bool true) ∧ Below W.heap.size W w' :=
  ACall.callsW (law_DiskMoved _ y fr tn k _ w0.1 w0.2)
end Go.Proofs.Ytkeiphkccnfhoaa
