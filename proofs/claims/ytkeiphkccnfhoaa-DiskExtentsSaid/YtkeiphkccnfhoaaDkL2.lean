/-
  Disk: the law DiskExtents walked.
-/
import Derived.Test.YtkeiphkccnfhoaaDiskLv
import Derived.Test.YtkeiphkccnfhoaaDiskOpen
namespace Go.Proofs.Ytkeiphkccnfhoaa
open Go.RowKit
open Mv Disk
set_option linter.unusedVariables false
set_option linter.unusedSimpArgs false
set_option maxRecDepth 20000
set_option maxHeartbeats 8000000 in
theorem law_DiskExtents (v vn : Value) (d : D) (s tn : ByteArray) (n : Int) (names : List ByteArray) (S : Mem) (hd : DkR S v d) (hz : Dz d) (hn : Sl 1 strs S vn names) :
    ACall Try.prog 3 #[v, .string s, .string tn, .int .i64 n, vn] S fun r S' => r = .bool true := by
  have c1 := fun v S h => disk_New v d s n S h hz
  have e1 := fun v S h => rd_New v d s n S h hz
  have c2 := fun v vn S h hn => disk_Free v vn d names S h hz hn
  have e2 := fun v vn S h hn => rd_Free v vn d names S h hz hn
  have c3 := fun v S h => disk_Move v d s tn S h hz
  have e3 := fun v S h => rd_Move v d s tn S h hz
  have c4 := fun v S h => disk_Room v d S h hz
  have e4 := fun v S h => rd_Room v d S h hz
  have c5 := fun v S h => disk_Sectors v d s S h hz
  have e5 := fun v S h => rd_Sectors v d s S h hz
  have c6 := fun v S h => disk_Check v d S h hz
  have e6 := fun v S h => rd_Check v d S h hz
  have e0 := fun v S h => rd_CopyW v d S h hz
  generalize opened d (newD d s n) = u1 at *
  generalize opened d (freesD d d names) = u2 at *
  generalize opened d (moveD d s tn) = u3 at *
  generalize roomD d = u4 at *
  generalize sectorsD d s = u5 at *
  generalize chkD d = u6 at *
  obtain ⟨pe, ce, pw, cw, rfl, hE, hW⟩ := id hd
  obtain ⟨pn, cn, rfl, _⟩ := id hn
  refine ACall.enter (args := [.agg #[.int .i64 d.size, .slice pe d.ext.length ce, .slice pw d.waits.length cw, .int .i64 d.fuse, .bool d.down], .string s, .string tn, .int .i64 n, .slice pn names.length cn]) (rs := [.tmp 10]) 159 [(0, .agg #[.int .i64 d.size, .slice pe d.ext.length ce, .slice pw d.waits.length cw, .int .i64 d.fuse, .bool d.down]), (1, .string s), (2, .string tn), (3, .int .i64 n), (4, .slice pn names.length cn)] Try.func3 rfl rfl (Nat.le_of_ble_eq_true rfl) rfl ⟨rfl, rfl, rfl, rfl, rfl, trivial⟩ ?_
  refine AWP.seq ?_
  refine AWP.region ?_
  refine ARun.boxA (cs := [_, _, _, _, _]) (lit_lt rfl) rfl ?_
  intro b5 f5
  have g5 := f5
  repeat ((with_reducible replace g5 := fresh_set g5); obtain ⟨g5, _⟩ := g5)
  (try simp only [List.length_cons, List.length_nil, Nat.zero_add, Nat.reduceAdd])
  refine rC (Calm.assign rfl) ?_
  refine arun_nil ?_
  refine athen_n ?_
  refine named (S := S) (b := b5) g5.1 ?_
  intro T5 hT5 kb5
  replace hd := hd.less hT5
  replace hn := hn.less hT5
  refine AWP.seq ?_
  refine AWP.region ?_
  refine rC (ldA_ (cs := [_, _, _, _, _]) ty_agg_25 ty_size_25 rfl) ?_
  refine ARun.call (lit_lt rfl) go_12 rfl (e0 _ _ hd) ?_
  rintro _ S1 ⟨hS1, hd1⟩
  obtain ⟨p1, q1, r1, s1, rfl, hE1, hW1⟩ := id hd1
  replace hd := hd.less hS1
  replace hn := hn.less hS1
  replace kb5 := hS1.own kb5
  refine ARun.alloc (lit_lt rfl) ty_zero_25 ?_
  intro b11 f11
  have g11 := f11
  repeat ((with_reducible replace g11 := fresh_set g11); obtain ⟨g11, _⟩ := g11)
  have := g11.ne kb5; have := g11.ne' kb5
  (try simp only [List.length_cons, List.length_nil, Nat.zero_add, Nat.reduceAdd])
  first | refine ARun.storeAll rfl rfl ty_size_25 own_ rfl rfl ?_ | refine ARun.store rfl rfl ty_size_25 own_ lens_ rfl ?_
  (try simp only [Mem.set_set, List.set_cons_zero, List.set_cons_succ, Nat.zero_add, Nat.reduceAdd])
  refine arun_nil ?_
  refine athen_n ?_
  refine AWP.sub [(0, _), (1, _), (2, _), (3, _), (4, _), (5, _), (10, _), (11, _)] ⟨rfl, rfl, rfl, rfl, rfl, rfl, rfl, rfl, trivial⟩ ?_
  refine named (S := S1) (b := b11) g11.1 ?_
  intro T11 hT11 kb11
  replace hd := hd.less hT11
  replace hn := hn.less hT11
  replace kb5 := hT11.own kb5
  replace hd1 := hd1.less hT11
  refine AWP.seq ?_
  refine AWP.region ?_
  refine rC (ldA_ (cs := [_, _, _, _, _]) ty_agg_25 ty_size_25 rfl) ?_
  refine rC (Calm.move rfl) ?_
  refine rC (Calm.move rfl) ?_
  refine ARun.call (lit_lt rfl) go_13 rfl (c1 _ _ hd1) ?_
  rintro _ S2 ⟨v, rfl, hS2, hd2⟩
  obtain ⟨p2, q2, r2, s2, rfl, hE2, hW2⟩ := id hd2
  replace hd := hd.less hS2
  replace hn := hn.less hS2
  replace kb5 := hS2.own kb5
  replace hd1 := hd1.less hS2
  replace kb11 := hS2.own kb11
  refine rC (Calm.move rfl) ?_
  refine rC (Calm.extract rfl rfl) ?_
  refine rC (Calm.extract rfl rfl) ?_
  refine ARun.alloc (lit_lt rfl) ty_zero_25 ?_
  intro b12 f12
  have g12 := f12
  repeat ((with_reducible replace g12 := fresh_set g12); obtain ⟨g12, _⟩ := g12)
  have := g12.ne kb5; have := g12.ne' kb5
  have := g12.ne kb11; have := g12.ne' kb11
  (try simp only [List.length_cons, List.length_nil, Nat.zero_add, Nat.reduceAdd])
  first | refine ARun.storeAll rfl rfl ty_size_25 own_ rfl rfl ?_ | refine ARun.store rfl rfl ty_size_25 own_ lens_ rfl ?_
  (try simp only [Mem.set_set, List.set_cons_zero, List.set_cons_succ, Nat.zero_add, Nat.reduceAdd])
  refine rC (Calm.assign rfl) ?_
  refine arun_nil ?_
  refine athen_n ?_
  refine AWP.sub [(0, _), (1, _), (2, _), (3, _), (4, _), (5, _), (10, _), (11, _), (12, _), (13, _)] ⟨rfl, rfl, rfl, rfl, rfl, rfl, rfl, rfl, rfl, rfl, trivial⟩ ?_
  refine named (S := S2) (b := b12) g12.1 ?_
  intro T12 hT12 kb12
  replace hd := hd.less hT12
  replace hn := hn.less hT12
  replace kb5 := hT12.own kb5
  replace hd1 := hd1.less hT12
  replace kb11 := hT12.own kb11
  replace hd2 := hd2.less hT12
  refine AWP.seq ?_
  refine AWP.region ?_
  refine rC (ldA_ (cs := [_, _, _, _, _]) ty_agg_25 ty_size_25 rfl) ?_
  refine rC (Calm.move rfl) ?_
  refine rC (Calm.move rfl) ?_
  refine ARun.call (lit_lt rfl) go_14 rfl (e1 _ _ hd) ?_
  rintro _ S3 ⟨v, rfl, hS3, hd3⟩
  obtain ⟨p3, q3, r3, s3, rfl, hE3, hW3⟩ := id hd3
  replace hd := hd.less hS3
  replace hn := hn.less hS3
  replace kb5 := hS3.own kb5
  replace hd1 := hd1.less hS3
  replace kb11 := hS3.own kb11
  replace hd2 := hd2.less hS3
  replace kb12 := hS3.own kb12
  refine rC (Calm.move rfl) ?_
  refine rC (Calm.extract rfl rfl) ?_
  refine rC (Calm.extract rfl rfl) ?_
  refine ARun.alloc (lit_lt rfl) ty_zero_25 ?_
  intro b14 f14
  have g14 := f14
  repeat ((with_reducible replace g14 := fresh_set g14); obtain ⟨g14, _⟩ := g14)
  have := g14.ne kb5; have := g14.ne' kb5
  have := g14.ne kb11; have := g14.ne' kb11
  have := g14.ne kb12; have := g14.ne' kb12
  (try simp only [List.length_cons, List.length_nil, Nat.zero_add, Nat.reduceAdd])
  first | refine ARun.storeAll rfl rfl ty_size_25 own_ rfl rfl ?_ | refine ARun.store rfl rfl ty_size_25 own_ lens_ rfl ?_
  (try simp only [Mem.set_set, List.set_cons_zero, List.set_cons_succ, Nat.zero_add, Nat.reduceAdd])
  refine rC (Calm.assign rfl) ?_
  refine arun_nil ?_
  refine athen_n ?_
  refine AWP.sub [(0, _), (1, _), (2, _), (3, _), (4, _), (5, _), (10, _), (11, _), (12, _), (13, _), (14, _), (15, _)] ⟨rfl, rfl, rfl, rfl, rfl, rfl, rfl, rfl, rfl, rfl, rfl, rfl, trivial⟩ ?_
  refine named (S := S3) (b := b14) g14.1 ?_
  intro T14 hT14 kb14
  replace hd := hd.less hT14
  replace hn := hn.less hT14
  replace kb5 := hT14.own kb5
  replace hd1 := hd1.less hT14
  replace kb11 := hT14.own kb11
  replace hd2 := hd2.less hT14
  replace kb12 := hT14.own kb12
  replace hd3 := hd3.less hT14
  refine AWP.seq ?_
  refine AWP.region ?_
  refine rC (ldA_ (cs := [_, _, _, _, _]) ty_agg_25 ty_size_25 rfl) ?_
  refine rC (Calm.move rfl) ?_
  refine ARun.call (lit_lt rfl) go_15 rfl (c2 _ _ _ hd1 hn) ?_
  rintro _ S4 ⟨v, rfl, hS4, hd4⟩
  obtain ⟨p4, q4, r4, s4, rfl, hE4, hW4⟩ := id hd4
  replace hd := hd.less hS4
  replace hn := hn.less hS4
  replace kb5 := hS4.own kb5
  replace hd1 := hd1.less hS4
  replace kb11 := hS4.own kb11
  replace hd2 := hd2.less hS4
  replace kb12 := hS4.own kb12
  replace hd3 := hd3.less hS4
  replace kb14 := hS4.own kb14
  refine rC (Calm.move rfl) ?_
  refine rC (Calm.extract rfl rfl) ?_
  refine rC (Calm.extract rfl rfl) ?_
  refine ARun.alloc (lit_lt rfl) ty_zero_25 ?_
  intro b16 f16
  have g16 := f16
  repeat ((with_reducible replace g16 := fresh_set g16); obtain ⟨g16, _⟩ := g16)
  have := g16.ne kb5; have := g16.ne' kb5
  have := g16.ne kb11; have := g16.ne' kb11
  have := g16.ne kb12; have := g16.ne' kb12
  have := g16.ne kb14; have := g16.ne' kb14
  (try simp only [List.length_cons, List.length_nil, Nat.zero_add, Nat.reduceAdd])
  first | refine ARun.storeAll rfl rfl ty_size_25 own_ rfl rfl ?_ | refine ARun.store rfl rfl ty_size_25 own_ lens_ rfl ?_
  (try simp only [Mem.set_set, List.set_cons_zero, List.set_cons_succ, Nat.zero_add, Nat.reduceAdd])
  refine rC (Calm.assign rfl) ?_
  refine arun_nil ?_
  refine athen_n ?_
  refine AWP.sub [(0, _), (1, _), (2, _), (3, _), (4, _), (5, _), (10, _), (11, _), (12, _), (13, _), (14, _), (15, _), (16, _), (17, _)] ⟨rfl, rfl, rfl, rfl, rfl, rfl, rfl, rfl, rfl, rfl, rfl, rfl, rfl, rfl, trivial⟩ ?_
  refine named (S := S4) (b := b16) g16.1 ?_
  intro T16 hT16 kb16
  replace hd := hd.less hT16
  replace hn := hn.less hT16
  replace kb5 := hT16.own kb5
  replace hd1 := hd1.less hT16
  replace kb11 := hT16.own kb11
  replace hd2 := hd2.less hT16
  replace kb12 := hT16.own kb12
  replace hd3 := hd3.less hT16
  replace kb14 := hT16.own kb14
  replace hd4 := hd4.less hT16
  refine AWP.seq ?_
  refine AWP.region ?_
  refine rC (ldA_ (cs := [_, _, _, _, _]) ty_agg_25 ty_size_25 rfl) ?_
  refine rC (Calm.move rfl) ?_
  refine ARun.call (lit_lt rfl) go_16 rfl (e2 _ _ _ hd hn) ?_
  rintro _ S5 ⟨v, rfl, hS5, hd5⟩
  obtain ⟨p5, q5, r5, s5, rfl, hE5, hW5⟩ := id hd5
  replace hd := hd.less hS5
  replace hn := hn.less hS5
  replace kb5 := hS5.own kb5
  replace hd1 := hd1.less hS5
  replace kb11 := hS5.own kb11
  replace hd2 := hd2.less hS5
  replace kb12 := hS5.own kb12
  replace hd3 := hd3.less hS5
  replace kb14 := hS5.own kb14
  replace hd4 := hd4.less hS5
  replace kb16 := hS5.own kb16
  refine rC (Calm.move rfl) ?_
  refine rC (Calm.extract rfl rfl) ?_
  refine rC (Calm.extract rfl rfl) ?_
  refine ARun.alloc (lit_lt rfl) ty_zero_25 ?_
  intro b18 f18
  have g18 := f18
  repeat ((with_reducible replace g18 := fresh_set g18); obtain ⟨g18, _⟩ := g18)
  have := g18.ne kb5; have := g18.ne' kb5
  have := g18.ne kb11; have := g18.ne' kb11
  have := g18.ne kb12; have := g18.ne' kb12
  have := g18.ne kb14; have := g18.ne' kb14
  have := g18.ne kb16; have := g18.ne' kb16
  (try simp only [List.length_cons, List.length_nil, Nat.zero_add, Nat.reduceAdd])
  first | refine ARun.storeAll rfl rfl ty_size_25 own_ rfl rfl ?_ | refine ARun.store rfl rfl ty_size_25 own_ lens_ rfl ?_
  (try simp only [Mem.set_set, List.set_cons_zero, List.set_cons_succ, Nat.zero_add, Nat.reduceAdd])
  refine rC (Calm.assign rfl) ?_
  refine arun_nil ?_
  refine athen_n ?_
  refine AWP.sub [(0, _), (1, _), (2, _), (3, _), (4, _), (5, _), (10, _), (11, _), (12, _), (13, _), (14, _), (15, _), (16, _), (17, _), (18, _), (19, _)] ⟨rfl, rfl, rfl, rfl, rfl, rfl, rfl, rfl, rfl, rfl, rfl, rfl, rfl, rfl, rfl, rfl, trivial⟩ ?_
  refine named (S := S5) (b := b18) g18.1 ?_
  intro T18 hT18 kb18
  replace hd := hd.less hT18
  replace hn := hn.less hT18
  replace kb5 := hT18.own kb5
  replace hd1 := hd1.less hT18
  replace kb11 := hT18.own kb11
  replace hd2 := hd2.less hT18
  replace kb12 := hT18.own kb12
  replace hd3 := hd3.less hT18
  replace kb14 := hT18.own kb14
  replace hd4 := hd4.less hT18
  replace kb16 := hT18.own kb16
  replace hd5 := hd5.less hT18
  refine AWP.seq ?_
  refine AWP.region ?_
  refine rC (ldA_ (cs := [_, _, _, _, _]) ty_agg_25 ty_size_25 rfl) ?_
  refine rC (Calm.move rfl) ?_
  refine rC (Calm.move rfl) ?_
  refine ARun.call (lit_lt rfl) go_17 rfl (c3 _ _ hd1) ?_
  rintro _ S6 ⟨v, rfl, hS6, hd6⟩
  obtain ⟨p6, q6, r6, s6, rfl, hE6, hW6⟩ := id hd6
  replace hd := hd.less hS6
  replace hn := hn.less hS6
  replace kb5 := hS6.own kb5
  replace hd1 := hd1.less hS6
  replace kb11 := hS6.own kb11
  replace hd2 := hd2.less hS6
  replace kb12 := hS6.own kb12
  replace hd3 := hd3.less hS6
  replace kb14 := hS6.own kb14
  replace hd4 := hd4.less hS6
  replace kb16 := hS6.own kb16
  replace hd5 := hd5.less hS6
  replace kb18 := hS6.own kb18
  refine rC (Calm.move rfl) ?_
  refine rC (Calm.extract rfl rfl) ?_
  refine rC (Calm.extract rfl rfl) ?_
  refine ARun.alloc (lit_lt rfl) ty_zero_25 ?_
  intro b20 f20
  have g20 := f20
  repeat ((with_reducible replace g20 := fresh_set g20); obtain ⟨g20, _⟩ := g20)
  have := g20.ne kb5; have := g20.ne' kb5
  have := g20.ne kb11; have := g20.ne' kb11
  have := g20.ne kb12; have := g20.ne' kb12
  have := g20.ne kb14; have := g20.ne' kb14
  have := g20.ne kb16; have := g20.ne' kb16
  have := g20.ne kb18; have := g20.ne' kb18
  (try simp only [List.length_cons, List.length_nil, Nat.zero_add, Nat.reduceAdd])
  first | refine ARun.storeAll rfl rfl ty_size_25 own_ rfl rfl ?_ | refine ARun.store rfl rfl ty_size_25 own_ lens_ rfl ?_
  (try simp only [Mem.set_set, List.set_cons_zero, List.set_cons_succ, Nat.zero_add, Nat.reduceAdd])
  refine rC (Calm.assign rfl) ?_
  refine arun_nil ?_
  refine athen_n ?_
  refine AWP.sub [(0, _), (1, _), (2, _), (3, _), (4, _), (5, _), (10, _), (11, _), (12, _), (13, _), (14, _), (15, _), (16, _), (17, _), (18, _), (19, _), (20, _), (21, _)] ⟨rfl, rfl, rfl, rfl, rfl, rfl, rfl, rfl, rfl, rfl, rfl, rfl, rfl, rfl, rfl, rfl, rfl, rfl, trivial⟩ ?_
  refine named (S := S6) (b := b20) g20.1 ?_
  intro T20 hT20 kb20
  replace hd := hd.less hT20
  replace hn := hn.less hT20
  replace kb5 := hT20.own kb5
  replace hd1 := hd1.less hT20
  replace kb11 := hT20.own kb11
  replace hd2 := hd2.less hT20
  replace kb12 := hT20.own kb12
  replace hd3 := hd3.less hT20
  replace kb14 := hT20.own kb14
  replace hd4 := hd4.less hT20
  replace kb16 := hT20.own kb16
  replace hd5 := hd5.less hT20
  replace kb18 := hT20.own kb18
  replace hd6 := hd6.less hT20
  refine AWP.seq ?_
  refine AWP.region ?_
  refine rC (ldA_ (cs := [_, _, _, _, _]) ty_agg_25 ty_size_25 rfl) ?_
  refine rC (Calm.move rfl) ?_
  refine rC (Calm.move rfl) ?_
  refine ARun.call (lit_lt rfl) go_18 rfl (e3 _ _ hd) ?_
  rintro _ S7 ⟨v, rfl, hS7, hd7⟩
  obtain ⟨p7, q7, r7, s7, rfl, hE7, hW7⟩ := id hd7
  replace hd := hd.less hS7
  replace hn := hn.less hS7
  replace kb5 := hS7.own kb5
  replace hd1 := hd1.less hS7
  replace kb11 := hS7.own kb11
  replace hd2 := hd2.less hS7
  replace kb12 := hS7.own kb12
  replace hd3 := hd3.less hS7
  replace kb14 := hS7.own kb14
  replace hd4 := hd4.less hS7
  replace kb16 := hS7.own kb16
  replace hd5 := hd5.less hS7
  replace kb18 := hS7.own kb18
  replace hd6 := hd6.less hS7
  replace kb20 := hS7.own kb20
  refine rC (Calm.move rfl) ?_
  refine rC (Calm.extract rfl rfl) ?_
  refine rC (Calm.extract rfl rfl) ?_
  refine ARun.alloc (lit_lt rfl) ty_zero_25 ?_
  intro b22 f22
  have g22 := f22
  repeat ((with_reducible replace g22 := fresh_set g22); obtain ⟨g22, _⟩ := g22)
  have := g22.ne kb5; have := g22.ne' kb5
  have := g22.ne kb11; have := g22.ne' kb11
  have := g22.ne kb12; have := g22.ne' kb12
  have := g22.ne kb14; have := g22.ne' kb14
  have := g22.ne kb16; have := g22.ne' kb16
  have := g22.ne kb18; have := g22.ne' kb18
  have := g22.ne kb20; have := g22.ne' kb20
  (try simp only [List.length_cons, List.length_nil, Nat.zero_add, Nat.reduceAdd])
  first | refine ARun.storeAll rfl rfl ty_size_25 own_ rfl rfl ?_ | refine ARun.store rfl rfl ty_size_25 own_ lens_ rfl ?_
  (try simp only [Mem.set_set, List.set_cons_zero, List.set_cons_succ, Nat.zero_add, Nat.reduceAdd])
  refine rC (Calm.assign rfl) ?_
  refine arun_nil ?_
  refine athen_n ?_
  refine AWP.sub [(0, _), (1, _), (2, _), (3, _), (4, _), (5, _), (10, _), (11, _), (12, _), (13, _), (14, _), (15, _), (16, _), (17, _), (18, _), (19, _), (20, _), (21, _), (22, _), (23, _)] ⟨rfl, rfl, rfl, rfl, rfl, rfl, rfl, rfl, rfl, rfl, rfl, rfl, rfl, rfl, rfl, rfl, rfl, rfl, rfl, rfl, trivial⟩ ?_
  refine named (S := S7) (b := b22) g22.1 ?_
  intro T22 hT22 kb22
  replace hd := hd.less hT22
  replace hn := hn.less hT22
  replace kb5 := hT22.own kb5
  replace hd1 := hd1.less hT22
  replace kb11 := hT22.own kb11
  replace hd2 := hd2.less hT22
  replace kb12 := hT22.own kb12
  replace hd3 := hd3.less hT22
  replace kb14 := hT22.own kb14
  replace hd4 := hd4.less hT22
  replace kb16 := hT22.own kb16
  replace hd5 := hd5.less hT22
  replace kb18 := hT22.own kb18
  replace hd6 := hd6.less hT22
  replace kb20 := hT22.own kb20
  replace hd7 := hd7.less hT22
  refine AWP.seq ?_
  refine AWP.region ?_
  refine rC (ldA_ (cs := [_, _, _, _, _]) ty_agg_25 ty_size_25 rfl) ?_
  refine ARun.call (lit_lt rfl) go_19 rfl (c4 _ _ hd1) ?_
  rintro _ Sx ⟨rfl, h1⟩
  rw [h1]; clear h1 Sx
  refine rC (Calm.move rfl) ?_
  refine rC (Calm.extract rfl rfl) ?_
  refine rC (Calm.extract rfl rfl) ?_
  refine rC (Calm.assign rfl) ?_
  refine rC (Calm.assign rfl) ?_
  refine arun_nil ?_
  refine athen_n ?_
  refine AWP.sub [(0, _), (1, _), (2, _), (3, _), (4, _), (5, _), (10, _), (11, _), (12, _), (13, _), (14, _), (15, _), (16, _), (17, _), (18, _), (19, _), (20, _), (21, _), (22, _), (23, _), (24, _), (25, _)] ⟨rfl, rfl, rfl, rfl, rfl, rfl, rfl, rfl, rfl, rfl, rfl, rfl, rfl, rfl, rfl, rfl, rfl, rfl, rfl, rfl, rfl, rfl, trivial⟩ ?_
  refine AWP.seq ?_
  refine AWP.region ?_
  refine rC (ldA_ (cs := [_, _, _, _, _]) ty_agg_25 ty_size_25 rfl) ?_
  refine ARun.call (lit_lt rfl) go_20 rfl (e4 _ _ hd) ?_
  rintro _ Sx ⟨rfl, h1⟩
  rw [h1]; clear h1 Sx
  refine rC (Calm.move rfl) ?_
  refine rC (Calm.extract rfl rfl) ?_
  refine rC (Calm.extract rfl rfl) ?_
  refine rC (Calm.assign rfl) ?_
  refine rC (Calm.assign rfl) ?_
  refine arun_nil ?_
  refine athen_n ?_
  refine AWP.sub [(0, _), (1, _), (2, _), (3, _), (4, _), (5, _), (10, _), (11, _), (12, _), (13, _), (14, _), (15, _), (16, _), (17, _), (18, _), (19, _), (20, _), (21, _), (22, _), (23, _), (24, _), (25, _), (26, _), (27, _)] ⟨rfl, rfl, rfl, rfl, rfl, rfl, rfl, rfl, rfl, rfl, rfl, rfl, rfl, rfl, rfl, rfl, rfl, rfl, rfl, rfl, rfl, rfl, rfl, rfl, trivial⟩ ?_
  refine AWP.seq ?_
  refine AWP.region ?_
  refine rC (ldA_ (cs := [_, _, _, _, _]) ty_agg_25 ty_size_25 rfl) ?_
  refine rC (Calm.move rfl) ?_
  refine ARun.call (lit_lt rfl) go_21 rfl (c5 _ _ hd1) ?_
  rintro _ Sx ⟨rfl, h1⟩
  rw [h1]; clear h1 Sx
  refine rC (Calm.move rfl) ?_
  refine rC (Calm.extract rfl rfl) ?_
  refine rC (Calm.extract rfl rfl) ?_
  refine rC (Calm.assign rfl) ?_
  refine rC (Calm.assign rfl) ?_
  refine arun_nil ?_
  refine athen_n ?_
  refine AWP.sub [(0, _), (1, _), (2, _), (3, _), (4, _), (5, _), (10, _), (11, _), (12, _), (13, _), (14, _), (15, _), (16, _), (17, _), (18, _), (19, _), (20, _), (21, _), (22, _), (23, _), (24, _), (25, _), (26, _), (27, _), (28, _), (29, _)] ⟨rfl, rfl, rfl, rfl, rfl, rfl, rfl, rfl, rfl, rfl, rfl, rfl, rfl, rfl, rfl, rfl, rfl, rfl, rfl, rfl, rfl, rfl, rfl, rfl, rfl, rfl, trivial⟩ ?_
  refine AWP.seq ?_
  refine AWP.region ?_
  refine rC (ldA_ (cs := [_, _, _, _, _]) ty_agg_25 ty_size_25 rfl) ?_
  refine rC (Calm.move rfl) ?_
  refine ARun.call (lit_lt rfl) go_22 rfl (e5 _ _ hd) ?_
  rintro _ Sx ⟨rfl, h1⟩
  rw [h1]; clear h1 Sx
  refine rC (Calm.move rfl) ?_
  refine rC (Calm.extract rfl rfl) ?_
  refine rC (Calm.extract rfl rfl) ?_
  refine rC (Calm.assign rfl) ?_
  refine rC (Calm.assign rfl) ?_
  refine arun_nil ?_
  refine athen_n ?_
  refine AWP.sub [(0, _), (1, _), (2, _), (3, _), (4, _), (5, _), (10, _), (11, _), (12, _), (13, _), (14, _), (15, _), (16, _), (17, _), (18, _), (19, _), (20, _), (21, _), (22, _), (23, _), (24, _), (25, _), (26, _), (27, _), (28, _), (29, _), (30, _), (31, _)] ⟨rfl, rfl, rfl, rfl, rfl, rfl, rfl, rfl, rfl, rfl, rfl, rfl, rfl, rfl, rfl, rfl, rfl, rfl, rfl, rfl, rfl, rfl, rfl, rfl, rfl, rfl, rfl, rfl, trivial⟩ ?_
  refine AWP.seq ?_
  refine AWP.draw [(0, false), (1, true), (2, true), (3, true), (4, false), (5, true), (6, true), (7, true), (8, true), (9, true), (10, true), (11, true), (12, true), (13, true), (14, false), (15, true), (16, true), (17, true), (18, true), (19, true), (20, true), (21, true), (22, true), (23, true), (24, false), (25, true), (26, true), (27, true), (28, true), (29, true), (30, true), (31, true), (32, true), (33, true), (34, true), (35, true), (36, true), (37, true), (38, true), (39, true), (40, true), (41, true), (42, true), (43, true), (44, true), (45, true), (46, true), (47, true), (48, true), (49, true), (50, true), (51, true), (52, true), (54, true), (53, false), (55, false), (56, true), (57, true), (58, true), (59, true), (60, true), (61, false), (62, true), (63, true)] [] mixed (by kernel_rfl) ?_
  refine draw_only rfl ?_
  refine ARun.call (lit_lt rfl) go_23 rfl (lv_lives _) ?_
  rintro _ Sx ⟨rfl, h1⟩
  rw [h1]; clear h1 Sx
  refine arun_nil ⟨fun _ => less_, ?_⟩
  refine dP (hc := fun _ => Calm.move rfl) (h := ?_)
  first | refine dS ?_ | refine dU ?_ | refine dL (hc := ldA_ (cs := [_, _, _, _, _]) ty_agg_25 ty_size_25 rfl) (h := ?_)
  first | refine dS ?_ | refine dU ?_ | refine dL (hc := ldA_ (cs := [_, _, _, _, _]) ty_agg_25 ty_size_25 rfl) (h := ?_)
  refine draw_only rfl ?_
  refine ARun.callG 1 true 97 rfl (lit_lt rfl) rfl (lit_lt rfl) go_24 rfl (rd_Same _ _ u1.1 _ hd2 hd3) ?_
  rintro _ Sx ⟨rfl, h1⟩
  rw [h1]; clear h1 Sx
  refine arun_nil ⟨fun _ => less_, ?_⟩
  refine dP (hc := fun _ => (by first | exact Calm.pickT rfl rfl | exact Calm.pickF rfl rfl)) (h := ?_)
  refine dP (hc := fun _ => Calm.move rfl) (h := ?_)
  first | refine dS ?_ | refine dU ?_ | refine dG (hc := fun _ => Calm.move rfl) (h := ?_)
  first | refine dS ?_ | refine dU ?_ | refine dG (hc := fun _ => Calm.move rfl) (h := ?_)
  first | refine dS ?_ | refine dU ?_ | refine dG (hc := fun _ => Calm.bin rfl rfl (bin_bool b_eql (decide_eq_true rfl))) (h := ?_)
  refine dP (hc := fun _ => (by first | exact Calm.pickT rfl rfl | exact Calm.pickF rfl rfl)) (h := ?_)
  refine dP (hc := fun _ => Calm.move rfl) (h := ?_)
  first | refine dS ?_ | refine dU ?_ | refine dL (hc := ldA_ (cs := [_, _, _, _, _]) ty_agg_25 ty_size_25 rfl) (h := ?_)
  first | refine dS ?_ | refine dU ?_ | refine dL (hc := ldA_ (cs := [_, _, _, _, _]) ty_agg_25 ty_size_25 rfl) (h := ?_)
  refine draw_only rfl ?_
  refine ARun.callG 11 true 107 rfl (lit_lt rfl) rfl (lit_lt rfl) go_24 rfl (rd_Same _ _ u2.1 _ hd4 hd5) ?_
  rintro _ Sx ⟨rfl, h1⟩
  rw [h1]; clear h1 Sx
  refine arun_nil ⟨fun _ => less_, ?_⟩
  refine dP (hc := fun _ => (by first | exact Calm.pickT rfl rfl | exact Calm.pickF rfl rfl)) (h := ?_)
  refine dP (hc := fun _ => Calm.move rfl) (h := ?_)
  first | refine dS ?_ | refine dU ?_ | refine dG (hc := fun _ => Calm.move rfl) (h := ?_)
  first | refine dS ?_ | refine dU ?_ | refine dG (hc := fun _ => Calm.move rfl) (h := ?_)
  first | refine dS ?_ | refine dU ?_ | refine dG (hc := fun _ => Calm.bin rfl rfl (bin_bool b_eql (decide_eq_true rfl))) (h := ?_)
  refine dP (hc := fun _ => (by first | exact Calm.pickT rfl rfl | exact Calm.pickF rfl rfl)) (h := ?_)
  refine dP (hc := fun _ => Calm.move rfl) (h := ?_)
  first | refine dS ?_ | refine dU ?_ | refine dL (hc := ldA_ (cs := [_, _, _, _, _]) ty_agg_25 ty_size_25 rfl) (h := ?_)
  first | refine dS ?_ | refine dU ?_ | refine dL (hc := ldA_ (cs := [_, _, _, _, _]) ty_agg_25 ty_size_25 rfl) (h := ?_)
  refine draw_only rfl ?_
  refine ARun.callG 21 true 117 rfl (lit_lt rfl) rfl (lit_lt rfl) go_24 rfl (rd_Same _ _ u3.1 _ hd6 hd7) ?_
  rintro _ Sx ⟨rfl, h1⟩
  rw [h1]; clear h1 Sx
  refine arun_nil ⟨fun _ => less_, ?_⟩
  refine dP (hc := fun _ => (by first | exact Calm.pickT rfl rfl | exact Calm.pickF rfl rfl)) (h := ?_)
  refine dP (hc := fun _ => Calm.move rfl) (h := ?_)
  first | refine dS ?_ | refine dU ?_ | refine dG (hc := fun _ => Calm.move rfl) (h := ?_)
  first | refine dS ?_ | refine dU ?_ | refine dG (hc := fun _ => Calm.move rfl) (h := ?_)
  first | refine dS ?_ | refine dU ?_ | refine dG (hc := fun _ => Calm.bin rfl rfl (bin_bool b_eql (decide_eq_true rfl))) (h := ?_)
  refine dP (hc := fun _ => (by first | exact Calm.pickT rfl rfl | exact Calm.pickF rfl rfl)) (h := ?_)
  refine dP (hc := fun _ => Calm.move rfl) (h := ?_)
  first | refine dS ?_ | refine dU ?_ | refine dG (hc := fun _ => Calm.move rfl) (h := ?_)
  first | refine dS ?_ | refine dU ?_ | refine dG (hc := fun _ => Calm.move rfl) (h := ?_)
  first | refine dS ?_ | refine dU ?_ | refine dG (hc := fun _ => Calm.bin rfl rfl (bin_bool b_eql (decide_eq_true rfl))) (h := ?_)
  refine dP (hc := fun _ => (by first | exact Calm.pickT rfl rfl | exact Calm.pickF rfl rfl)) (h := ?_)
  refine dP (hc := fun _ => Calm.move rfl) (h := ?_)
  first | refine dS ?_ | refine dU ?_ | refine dG (hc := fun _ => Calm.move rfl) (h := ?_)
  first | refine dS ?_ | refine dU ?_ | refine dG (hc := fun _ => Calm.move rfl) (h := ?_)
  first | refine dS ?_ | refine dU ?_ | refine dG (hc := fun _ => Calm.bin rfl rfl (bin_bool b_eql (decide_eq_true rfl))) (h := ?_)
  refine dP (hc := fun _ => (by first | exact Calm.pickT rfl rfl | exact Calm.pickF rfl rfl)) (h := ?_)
  refine dP (hc := fun _ => Calm.move rfl) (h := ?_)
  first | refine dS ?_ | refine dU ?_ | refine dG (hc := fun _ => Calm.move rfl) (h := ?_)
  first | refine dS ?_ | refine dU ?_ | refine dG (hc := fun _ => Calm.move rfl) (h := ?_)
  first | refine dS ?_ | refine dU ?_ | refine dG (hc := fun _ => Calm.bin rfl rfl (bin_bool b_eql (decide_eq_true rfl))) (h := ?_)
  refine dP (hc := fun _ => (by first | exact Calm.pickT rfl rfl | exact Calm.pickF rfl rfl)) (h := ?_)
  refine dP (hc := fun _ => Calm.move rfl) (h := ?_)
  first | refine dS ?_ | refine dU ?_ | refine dG (hc := fun _ => Calm.move rfl) (h := ?_)
  first | refine dS ?_ | refine dU ?_ | refine dG (hc := fun _ => Calm.move rfl) (h := ?_)
  first | refine dS ?_ | refine dU ?_ | refine dG (hc := fun _ => Calm.bin rfl rfl (bin_bool b_eql (decide_eq_true rfl))) (h := ?_)
  refine dP (hc := fun _ => (by first | exact Calm.pickT rfl rfl | exact Calm.pickF rfl rfl)) (h := ?_)
  refine dP (hc := fun _ => Calm.move rfl) (h := ?_)
  first | refine dS ?_ | refine dU ?_ | refine dL (hc := ldA_ (cs := [_, _, _, _, _]) ty_agg_25 ty_size_25 rfl) (h := ?_)
  first | refine dS ?_ | refine dU ?_ | refine dL (hc := ldA_ (cs := [_, _, _, _, _]) ty_agg_25 ty_size_25 rfl) (h := ?_)
  refine draw_only rfl ?_
  refine ARun.callG 51 true 147 rfl (lit_lt rfl) rfl (lit_lt rfl) go_25 rfl (c6 _ _ hd1) ?_
  rintro _ Sx ⟨rfl, h1⟩
  rw [h1]; clear h1 Sx
  refine arun_nil ⟨fun _ => less_, ?_⟩
  refine draw_only rfl ?_
  refine ARun.callG 51 true 147 rfl (lit_lt rfl) rfl (lit_lt rfl) go_26 rfl (e6 _ _ hd) ?_
  rintro _ Sx ⟨rfl, h1⟩
  rw [h1]; clear h1 Sx
  refine arun_nil ⟨fun _ => less_, ?_⟩
  first | refine dS ?_ | refine dU ?_ | refine dG (hc := fun _ => Calm.bin rfl rfl (bin_bool b_eql (decide_eq_true rfl))) (h := ?_)
  refine dP (hc := fun _ => (by first | exact Calm.pickT rfl rfl | exact Calm.pickF rfl rfl)) (h := ?_)
  refine dP (hc := fun _ => Calm.move rfl) (h := ?_)
  first | refine dS ?_ | refine dU ?_ | refine dL (hc := ldA_ (cs := [_, _, _, _, _]) ty_agg_25 ty_size_25 rfl) (h := ?_)
  first | refine dS ?_ | refine dU ?_ | refine dL (hc := ldA_ (cs := [_, _, _, _, _]) ty_agg_25 ty_size_25 rfl) (h := ?_)
  refine draw_only rfl ?_
  refine ARun.callG 58 true 154 rfl (lit_lt rfl) rfl (lit_lt rfl) go_24 rfl (rd_Same _ _ d _ hd1 hd) ?_
  rintro _ Sx ⟨rfl, h1⟩
  rw [h1]; clear h1 Sx
  refine arun_nil ⟨fun _ => less_, ?_⟩
  refine dP (hc := fun _ => (by first | exact Calm.pickT rfl rfl | exact Calm.pickF rfl rfl)) (h := ?_)
  refine dP (hc := fun _ => Calm.assign rfl) (h := ?_)
  refine draw_nil ?_
  refine athen_n ?_
  refine AWP.sub [(0, _), (1, _), (2, _), (3, _), (4, _), (5, _), (10, _), (11, _), (12, _), (13, _), (14, _), (15, _), (16, _), (17, _), (18, _), (19, _), (20, _), (21, _), (22, _), (23, _), (24, _), (25, _), (26, _), (27, _), (28, _), (29, _), (30, _), (31, _)] ⟨rfl, rfl, rfl, rfl, rfl, rfl, rfl, rfl, rfl, rfl, rfl, rfl, rfl, rfl, rfl, rfl, rfl, rfl, rfl, rfl, rfl, rfl, rfl, rfl, rfl, rfl, rfl, rfl, trivial⟩ ?_
  refine AWP.ret ?_
  refine ⟨_, _, ⟨_, _, rfl, rfl, rfl⟩, less_, ?_⟩
  rfl
theorem walk_DiskExtents (cs : List Value) (y : D) (s tn : ByteArray) (n : Int) (vn : Value) (l : List ByteArray) (W : World) (w0 : DkV (roM W) cs y) (w1 : s.size ≤ maxLen) (z1 : s.size < 140737488355328) (w2 : tn.size ≤ maxLen) (z2 : tn.size < 140737488355328) (w3 : (Lit.int .i64 n).wf = true) (w4 : NamesV (roM W) [vn] l) :
    Calls Try.prog 3 #[.agg cs.toArray, .string s, .string tn, .int .i64 n, vn] W fun e w' => e = .returned (.bool true) ∧ Below W.heap.size W w' := by
  obtain ⟨v', e, hv⟩ := w4
  cases e
  exact ACall.callsW (law_DiskExtents _ _ y s tn n l _ w0.1 w0.2 hv)
end Go.Proofs.Ytkeiphkccnfhoaa
