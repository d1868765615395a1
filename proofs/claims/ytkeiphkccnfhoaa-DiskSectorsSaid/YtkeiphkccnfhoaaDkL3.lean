/-
  Disk: the law DiskSectors walked.
-/
import Derived.Test.YtkeiphkccnfhoaaDiskLv
import Derived.Test.YtkeiphkccnfhoaaDiskOpen
namespace Go.Proofs.Ytkeiphkccnfhoaa
open Go.RowKit
open Mv Disk
set_option linter.unusedVariables false
set_option linter.unusedSimpArgs false
set_option maxRecDepth 20000
set_option maxHeartbeats 8000000 in
theorem law_DiskSectors (v vk : Value) (d : D) (s : ByteArray) (k : Int) (data : ByteArray) (kl : List Bool) (S : Mem) (hd : DkR S v d) (hz : Dz d) (hk : Sl 1 bools S vk kl) :
    ACall Try.prog 4 #[v, .string s, .int .i64 k, .string data, vk] S fun r S' => r = .bool true := by
  have c1 := fun v S h => disk_Read v d s k S h hz
  have e1 := fun v S h => rd_Read v d s k S h hz
  have c2 := fun v S h => disk_Write v d s k data S h hz
  have e2 := fun v S h => rd_Write v d s k data S h hz
  have c3 := fun v S h => disk_Sync v d S h hz
  have e3 := fun v S h => rd_Sync v d S h hz
  have c4 := fun v vk S h hk => disk_Crash v vk d kl S h hz hk
  have e4 := fun v vk S h hk => rd_Crash v vk d kl S h hz hk
  have e0 := fun v S h => rd_CopyW v d S h hz
  generalize readO d s k = u1 at *
  generalize opened d (writeD d s k data) = u2 at *
  generalize opened d (syncD d) = u3 at *
  generalize crashD d kl = u4 at *
  obtain ⟨pe, ce, pw, cw, rfl, hE, hW⟩ := id hd
  obtain ⟨pk, ck, rfl, _⟩ := id hk
  refine ACall.enter (args := [.agg #[.int .i64 d.size, .slice pe d.ext.length ce, .slice pw d.waits.length cw, .int .i64 d.fuse, .bool d.down], .string s, .int .i64 k, .string data, .slice pk kl.length ck]) (rs := [.tmp 10]) 128 [(0, .agg #[.int .i64 d.size, .slice pe d.ext.length ce, .slice pw d.waits.length cw, .int .i64 d.fuse, .bool d.down]), (1, .string s), (2, .int .i64 k), (3, .string data), (4, .slice pk kl.length ck)] Try.func4 rfl rfl (Nat.le_of_ble_eq_true rfl) rfl ⟨rfl, rfl, rfl, rfl, rfl, trivial⟩ ?_
  refine AWP.seq ?_
  refine AWP.region ?_
  refine ARun.boxA (cs := [_, _, _, _, _]) (lit_lt rfl) rfl ?_
  intro b5 f5
  have g5 := f5
  repeat ((with_reducible replace g5 := fresh_set g5); obtain ⟨g5, _⟩ := g5)
  (try simp only [List.length_cons, List.length_nil, Nat.zero_add, Nat.reduceAdd])
  refine rC (Calm.assign rfl) ?_
  refine arun_nil ?_
  refine athen_n ?_
  refine named (S := S) (b := b5) g5.1 ?_
  intro T5 hT5 kb5
  replace hd := hd.less hT5
  replace hk := hk.less hT5
  refine AWP.seq ?_
  refine AWP.region ?_
  refine rC (ldA_ (cs := [_, _, _, _, _]) ty_agg_25 ty_size_25 rfl) ?_
  refine ARun.call (lit_lt rfl) go_12 rfl (e0 _ _ hd) ?_
  rintro _ S1 ⟨hS1, hd1⟩
  obtain ⟨p1, q1, r1, s1, rfl, hE1, hW1⟩ := id hd1
  replace hd := hd.less hS1
  replace hk := hk.less hS1
  replace kb5 := hS1.own kb5
  refine ARun.alloc (lit_lt rfl) ty_zero_25 ?_
  intro b11 f11
  have g11 := f11
  repeat ((with_reducible replace g11 := fresh_set g11); obtain ⟨g11, _⟩ := g11)
  have := g11.ne kb5; have := g11.ne' kb5
  (try simp only [List.length_cons, List.length_nil, Nat.zero_add, Nat.reduceAdd])
  first | refine ARun.storeAll rfl rfl ty_size_25 own_ rfl rfl ?_ | refine ARun.store rfl rfl ty_size_25 own_ lens_ rfl ?_
  (try simp only [Mem.set_set, List.set_cons_zero, List.set_cons_succ, Nat.zero_add, Nat.reduceAdd])
  refine arun_nil ?_
  refine athen_n ?_
  refine AWP.sub [(0, _), (1, _), (2, _), (3, _), (4, _), (5, _), (10, _), (11, _)] ⟨rfl, rfl, rfl, rfl, rfl, rfl, rfl, rfl, trivial⟩ ?_
  refine named (S := S1) (b := b11) g11.1 ?_
  intro T11 hT11 kb11
  replace hd := hd.less hT11
  replace hk := hk.less hT11
  replace kb5 := hT11.own kb5
  replace hd1 := hd1.less hT11
  refine AWP.seq ?_
  refine AWP.region ?_
  refine rC (ldA_ (cs := [_, _, _, _, _]) ty_agg_25 ty_size_25 rfl) ?_
  refine rC (Calm.move rfl) ?_
  refine rC (Calm.move rfl) ?_
  refine ARun.call (lit_lt rfl) go_27 rfl (c1 _ _ hd1) ?_
  rintro _ Sx ⟨rfl, h1⟩
  rw [h1]; clear h1 Sx
  refine rC (Calm.move rfl) ?_
  refine rC (Calm.extract rfl rfl) ?_
  refine rC (Calm.extract rfl rfl) ?_
  refine rC (Calm.assign rfl) ?_
  refine rC (Calm.assign rfl) ?_
  refine arun_nil ?_
  refine athen_n ?_
  refine AWP.sub [(0, _), (1, _), (2, _), (3, _), (4, _), (5, _), (10, _), (11, _), (12, _), (13, _)] ⟨rfl, rfl, rfl, rfl, rfl, rfl, rfl, rfl, rfl, rfl, trivial⟩ ?_
  refine AWP.seq ?_
  refine AWP.region ?_
  refine rC (ldA_ (cs := [_, _, _, _, _]) ty_agg_25 ty_size_25 rfl) ?_
  refine rC (Calm.move rfl) ?_
  refine rC (Calm.move rfl) ?_
  refine ARun.call (lit_lt rfl) go_28 rfl (e1 _ _ hd) ?_
  rintro _ Sx ⟨rfl, h1⟩
  rw [h1]; clear h1 Sx
  refine rC (Calm.move rfl) ?_
  refine rC (Calm.extract rfl rfl) ?_
  refine rC (Calm.extract rfl rfl) ?_
  refine rC (Calm.assign rfl) ?_
  refine rC (Calm.assign rfl) ?_
  refine arun_nil ?_
  refine athen_n ?_
  refine AWP.sub [(0, _), (1, _), (2, _), (3, _), (4, _), (5, _), (10, _), (11, _), (12, _), (13, _), (14, _), (15, _)] ⟨rfl, rfl, rfl, rfl, rfl, rfl, rfl, rfl, rfl, rfl, rfl, rfl, trivial⟩ ?_
  refine AWP.seq ?_
  refine AWP.region ?_
  refine rC (ldA_ (cs := [_, _, _, _, _]) ty_agg_25 ty_size_25 rfl) ?_
  refine rC (Calm.move rfl) ?_
  refine rC (Calm.move rfl) ?_
  refine rC (Calm.move rfl) ?_
  refine ARun.call (lit_lt rfl) go_29 rfl (c2 _ _ hd1) ?_
  rintro _ S2 ⟨v, rfl, hS2, hd2⟩
  obtain ⟨p2, q2, r2, s2, rfl, hE2, hW2⟩ := id hd2
  replace hd := hd.less hS2
  replace hk := hk.less hS2
  replace kb5 := hS2.own kb5
  replace hd1 := hd1.less hS2
  replace kb11 := hS2.own kb11
  refine rC (Calm.move rfl) ?_
  refine rC (Calm.extract rfl rfl) ?_
  refine rC (Calm.extract rfl rfl) ?_
  refine ARun.alloc (lit_lt rfl) ty_zero_25 ?_
  intro b16 f16
  have g16 := f16
  repeat ((with_reducible replace g16 := fresh_set g16); obtain ⟨g16, _⟩ := g16)
  have := g16.ne kb5; have := g16.ne' kb5
  have := g16.ne kb11; have := g16.ne' kb11
  (try simp only [List.length_cons, List.length_nil, Nat.zero_add, Nat.reduceAdd])
  first | refine ARun.storeAll rfl rfl ty_size_25 own_ rfl rfl ?_ | refine ARun.store rfl rfl ty_size_25 own_ lens_ rfl ?_
  (try simp only [Mem.set_set, List.set_cons_zero, List.set_cons_succ, Nat.zero_add, Nat.reduceAdd])
  refine rC (Calm.assign rfl) ?_
  refine arun_nil ?_
  refine athen_n ?_
  refine AWP.sub [(0, _), (1, _), (2, _), (3, _), (4, _), (5, _), (10, _), (11, _), (12, _), (13, _), (14, _), (15, _), (16, _), (17, _)] ⟨rfl, rfl, rfl, rfl, rfl, rfl, rfl, rfl, rfl, rfl, rfl, rfl, rfl, rfl, trivial⟩ ?_
  refine named (S := S2) (b := b16) g16.1 ?_
  intro T16 hT16 kb16
  replace hd := hd.less hT16
  replace hk := hk.less hT16
  replace kb5 := hT16.own kb5
  replace hd1 := hd1.less hT16
  replace kb11 := hT16.own kb11
  replace hd2 := hd2.less hT16
  refine AWP.seq ?_
  refine AWP.region ?_
  refine rC (ldA_ (cs := [_, _, _, _, _]) ty_agg_25 ty_size_25 rfl) ?_
  refine rC (Calm.move rfl) ?_
  refine rC (Calm.move rfl) ?_
  refine rC (Calm.move rfl) ?_
  refine ARun.call (lit_lt rfl) go_30 rfl (e2 _ _ hd) ?_
  rintro _ S3 ⟨v, rfl, hS3, hd3⟩
  obtain ⟨p3, q3, r3, s3, rfl, hE3, hW3⟩ := id hd3
  replace hd := hd.less hS3
  replace hk := hk.less hS3
  replace kb5 := hS3.own kb5
  replace hd1 := hd1.less hS3
  replace kb11 := hS3.own kb11
  replace hd2 := hd2.less hS3
  replace kb16 := hS3.own kb16
  refine rC (Calm.move rfl) ?_
  refine rC (Calm.extract rfl rfl) ?_
  refine rC (Calm.extract rfl rfl) ?_
  refine ARun.alloc (lit_lt rfl) ty_zero_25 ?_
  intro b18 f18
  have g18 := f18
  repeat ((with_reducible replace g18 := fresh_set g18); obtain ⟨g18, _⟩ := g18)
  have := g18.ne kb5; have := g18.ne' kb5
  have := g18.ne kb11; have := g18.ne' kb11
  have := g18.ne kb16; have := g18.ne' kb16
  (try simp only [List.length_cons, List.length_nil, Nat.zero_add, Nat.reduceAdd])
  first | refine ARun.storeAll rfl rfl ty_size_25 own_ rfl rfl ?_ | refine ARun.store rfl rfl ty_size_25 own_ lens_ rfl ?_
  (try simp only [Mem.set_set, List.set_cons_zero, List.set_cons_succ, Nat.zero_add, Nat.reduceAdd])
  refine rC (Calm.assign rfl) ?_
  refine arun_nil ?_
  refine athen_n ?_
  refine AWP.sub [(0, _), (1, _), (2, _), (3, _), (4, _), (5, _), (10, _), (11, _), (12, _), (13, _), (14, _), (15, _), (16, _), (17, _), (18, _), (19, _)] ⟨rfl, rfl, rfl, rfl, rfl, rfl, rfl, rfl, rfl, rfl, rfl, rfl, rfl, rfl, rfl, rfl, trivial⟩ ?_
  refine named (S := S3) (b := b18) g18.1 ?_
  intro T18 hT18 kb18
  replace hd := hd.less hT18
  replace hk := hk.less hT18
  replace kb5 := hT18.own kb5
  replace hd1 := hd1.less hT18
  replace kb11 := hT18.own kb11
  replace hd2 := hd2.less hT18
  replace kb16 := hT18.own kb16
  replace hd3 := hd3.less hT18
  refine AWP.seq ?_
  refine AWP.region ?_
  refine rC (ldA_ (cs := [_, _, _, _, _]) ty_agg_25 ty_size_25 rfl) ?_
  refine ARun.call (lit_lt rfl) go_31 rfl (c3 _ _ hd1) ?_
  rintro _ S4 ⟨v, rfl, hS4, hd4⟩
  obtain ⟨p4, q4, r4, s4, rfl, hE4, hW4⟩ := id hd4
  replace hd := hd.less hS4
  replace hk := hk.less hS4
  replace kb5 := hS4.own kb5
  replace hd1 := hd1.less hS4
  replace kb11 := hS4.own kb11
  replace hd2 := hd2.less hS4
  replace kb16 := hS4.own kb16
  replace hd3 := hd3.less hS4
  replace kb18 := hS4.own kb18
  refine rC (Calm.move rfl) ?_
  refine rC (Calm.extract rfl rfl) ?_
  refine rC (Calm.extract rfl rfl) ?_
  refine ARun.alloc (lit_lt rfl) ty_zero_25 ?_
  intro b20 f20
  have g20 := f20
  repeat ((with_reducible replace g20 := fresh_set g20); obtain ⟨g20, _⟩ := g20)
  have := g20.ne kb5; have := g20.ne' kb5
  have := g20.ne kb11; have := g20.ne' kb11
  have := g20.ne kb16; have := g20.ne' kb16
  have := g20.ne kb18; have := g20.ne' kb18
  (try simp only [List.length_cons, List.length_nil, Nat.zero_add, Nat.reduceAdd])
  first | refine ARun.storeAll rfl rfl ty_size_25 own_ rfl rfl ?_ | refine ARun.store rfl rfl ty_size_25 own_ lens_ rfl ?_
  (try simp only [Mem.set_set, List.set_cons_zero, List.set_cons_succ, Nat.zero_add, Nat.reduceAdd])
  refine rC (Calm.assign rfl) ?_
  refine arun_nil ?_
  refine athen_n ?_
  refine AWP.sub [(0, _), (1, _), (2, _), (3, _), (4, _), (5, _), (10, _), (11, _), (12, _), (13, _), (14, _), (15, _), (16, _), (17, _), (18, _), (19, _), (20, _), (21, _)] ⟨rfl, rfl, rfl, rfl, rfl, rfl, rfl, rfl, rfl, rfl, rfl, rfl, rfl, rfl, rfl, rfl, rfl, rfl, trivial⟩ ?_
  refine named (S := S4) (b := b20) g20.1 ?_
  intro T20 hT20 kb20
  replace hd := hd.less hT20
  replace hk := hk.less hT20
  replace kb5 := hT20.own kb5
  replace hd1 := hd1.less hT20
  replace kb11 := hT20.own kb11
  replace hd2 := hd2.less hT20
  replace kb16 := hT20.own kb16
  replace hd3 := hd3.less hT20
  replace kb18 := hT20.own kb18
  replace hd4 := hd4.less hT20
  refine AWP.seq ?_
  refine AWP.region ?_
  refine rC (ldA_ (cs := [_, _, _, _, _]) ty_agg_25 ty_size_25 rfl) ?_
  refine ARun.call (lit_lt rfl) go_32 rfl (e3 _ _ hd) ?_
  rintro _ S5 ⟨v, rfl, hS5, hd5⟩
  obtain ⟨p5, q5, r5, s5, rfl, hE5, hW5⟩ := id hd5
  replace hd := hd.less hS5
  replace hk := hk.less hS5
  replace kb5 := hS5.own kb5
  replace hd1 := hd1.less hS5
  replace kb11 := hS5.own kb11
  replace hd2 := hd2.less hS5
  replace kb16 := hS5.own kb16
  replace hd3 := hd3.less hS5
  replace kb18 := hS5.own kb18
  replace hd4 := hd4.less hS5
  replace kb20 := hS5.own kb20
  refine rC (Calm.move rfl) ?_
  refine rC (Calm.extract rfl rfl) ?_
  refine rC (Calm.extract rfl rfl) ?_
  refine ARun.alloc (lit_lt rfl) ty_zero_25 ?_
  intro b22 f22
  have g22 := f22
  repeat ((with_reducible replace g22 := fresh_set g22); obtain ⟨g22, _⟩ := g22)
  have := g22.ne kb5; have := g22.ne' kb5
  have := g22.ne kb11; have := g22.ne' kb11
  have := g22.ne kb16; have := g22.ne' kb16
  have := g22.ne kb18; have := g22.ne' kb18
  have := g22.ne kb20; have := g22.ne' kb20
  (try simp only [List.length_cons, List.length_nil, Nat.zero_add, Nat.reduceAdd])
  first | refine ARun.storeAll rfl rfl ty_size_25 own_ rfl rfl ?_ | refine ARun.store rfl rfl ty_size_25 own_ lens_ rfl ?_
  (try simp only [Mem.set_set, List.set_cons_zero, List.set_cons_succ, Nat.zero_add, Nat.reduceAdd])
  refine rC (Calm.assign rfl) ?_
  refine arun_nil ?_
  refine athen_n ?_
  refine AWP.sub [(0, _), (1, _), (2, _), (3, _), (4, _), (5, _), (10, _), (11, _), (12, _), (13, _), (14, _), (15, _), (16, _), (17, _), (18, _), (19, _), (20, _), (21, _), (22, _), (23, _)] ⟨rfl, rfl, rfl, rfl, rfl, rfl, rfl, rfl, rfl, rfl, rfl, rfl, rfl, rfl, rfl, rfl, rfl, rfl, rfl, rfl, trivial⟩ ?_
  refine named (S := S5) (b := b22) g22.1 ?_
  intro T22 hT22 kb22
  replace hd := hd.less hT22
  replace hk := hk.less hT22
  replace kb5 := hT22.own kb5
  replace hd1 := hd1.less hT22
  replace kb11 := hT22.own kb11
  replace hd2 := hd2.less hT22
  replace kb16 := hT22.own kb16
  replace hd3 := hd3.less hT22
  replace kb18 := hT22.own kb18
  replace hd4 := hd4.less hT22
  replace kb20 := hT22.own kb20
  replace hd5 := hd5.less hT22
  refine AWP.seq ?_
  refine AWP.region ?_
  refine rC (ldA_ (cs := [_, _, _, _, _]) ty_agg_25 ty_size_25 rfl) ?_
  refine rC (Calm.move rfl) ?_
  refine ARun.call (lit_lt rfl) go_33 rfl (c4 _ _ _ hd1 hk) ?_
  rintro _ S6 ⟨v, rfl, hS6, hd6⟩
  obtain ⟨p6, q6, r6, s6, rfl, hE6, hW6⟩ := id hd6
  replace hd := hd.less hS6
  replace hk := hk.less hS6
  replace kb5 := hS6.own kb5
  replace hd1 := hd1.less hS6
  replace kb11 := hS6.own kb11
  replace hd2 := hd2.less hS6
  replace kb16 := hS6.own kb16
  replace hd3 := hd3.less hS6
  replace kb18 := hS6.own kb18
  replace hd4 := hd4.less hS6
  replace kb20 := hS6.own kb20
  replace hd5 := hd5.less hS6
  replace kb22 := hS6.own kb22
  refine rC (Calm.move rfl) ?_
  refine rC (Calm.extract rfl rfl) ?_
  refine rC (Calm.extract rfl rfl) ?_
  refine ARun.alloc (lit_lt rfl) ty_zero_25 ?_
  intro b24 f24
  have g24 := f24
  repeat ((with_reducible replace g24 := fresh_set g24); obtain ⟨g24, _⟩ := g24)
  have := g24.ne kb5; have := g24.ne' kb5
  have := g24.ne kb11; have := g24.ne' kb11
  have := g24.ne kb16; have := g24.ne' kb16
  have := g24.ne kb18; have := g24.ne' kb18
  have := g24.ne kb20; have := g24.ne' kb20
  have := g24.ne kb22; have := g24.ne' kb22
  (try simp only [List.length_cons, List.length_nil, Nat.zero_add, Nat.reduceAdd])
  first | refine ARun.storeAll rfl rfl ty_size_25 own_ rfl rfl ?_ | refine ARun.store rfl rfl ty_size_25 own_ lens_ rfl ?_
  (try simp only [Mem.set_set, List.set_cons_zero, List.set_cons_succ, Nat.zero_add, Nat.reduceAdd])
  refine rC (Calm.assign rfl) ?_
  refine arun_nil ?_
  refine athen_n ?_
  refine AWP.sub [(0, _), (1, _), (2, _), (3, _), (4, _), (5, _), (10, _), (11, _), (12, _), (13, _), (14, _), (15, _), (16, _), (17, _), (18, _), (19, _), (20, _), (21, _), (22, _), (23, _), (24, _), (25, _)] ⟨rfl, rfl, rfl, rfl, rfl, rfl, rfl, rfl, rfl, rfl, rfl, rfl, rfl, rfl, rfl, rfl, rfl, rfl, rfl, rfl, rfl, rfl, trivial⟩ ?_
  refine named (S := S6) (b := b24) g24.1 ?_
  intro T24 hT24 kb24
  replace hd := hd.less hT24
  replace hk := hk.less hT24
  replace kb5 := hT24.own kb5
  replace hd1 := hd1.less hT24
  replace kb11 := hT24.own kb11
  replace hd2 := hd2.less hT24
  replace kb16 := hT24.own kb16
  replace hd3 := hd3.less hT24
  replace kb18 := hT24.own kb18
  replace hd4 := hd4.less hT24
  replace kb20 := hT24.own kb20
  replace hd5 := hd5.less hT24
  replace kb22 := hT24.own kb22
  replace hd6 := hd6.less hT24
  refine AWP.seq ?_
  refine AWP.region ?_
  refine rC (ldA_ (cs := [_, _, _, _, _]) ty_agg_25 ty_size_25 rfl) ?_
  refine rC (Calm.move rfl) ?_
  refine ARun.call (lit_lt rfl) go_34 rfl (e4 _ _ _ hd hk) ?_
  rintro _ S7 ⟨v, rfl, hS7, hd7⟩
  obtain ⟨p7, q7, r7, s7, rfl, hE7, hW7⟩ := id hd7
  replace hd := hd.less hS7
  replace hk := hk.less hS7
  replace kb5 := hS7.own kb5
  replace hd1 := hd1.less hS7
  replace kb11 := hS7.own kb11
  replace hd2 := hd2.less hS7
  replace kb16 := hS7.own kb16
  replace hd3 := hd3.less hS7
  replace kb18 := hS7.own kb18
  replace hd4 := hd4.less hS7
  replace kb20 := hS7.own kb20
  replace hd5 := hd5.less hS7
  replace kb22 := hS7.own kb22
  replace hd6 := hd6.less hS7
  replace kb24 := hS7.own kb24
  refine rC (Calm.move rfl) ?_
  refine rC (Calm.extract rfl rfl) ?_
  refine rC (Calm.extract rfl rfl) ?_
  refine ARun.alloc (lit_lt rfl) ty_zero_25 ?_
  intro b26 f26
  have g26 := f26
  repeat ((with_reducible replace g26 := fresh_set g26); obtain ⟨g26, _⟩ := g26)
  have := g26.ne kb5; have := g26.ne' kb5
  have := g26.ne kb11; have := g26.ne' kb11
  have := g26.ne kb16; have := g26.ne' kb16
  have := g26.ne kb18; have := g26.ne' kb18
  have := g26.ne kb20; have := g26.ne' kb20
  have := g26.ne kb22; have := g26.ne' kb22
  have := g26.ne kb24; have := g26.ne' kb24
  (try simp only [List.length_cons, List.length_nil, Nat.zero_add, Nat.reduceAdd])
  first | refine ARun.storeAll rfl rfl ty_size_25 own_ rfl rfl ?_ | refine ARun.store rfl rfl ty_size_25 own_ lens_ rfl ?_
  (try simp only [Mem.set_set, List.set_cons_zero, List.set_cons_succ, Nat.zero_add, Nat.reduceAdd])
  refine rC (Calm.assign rfl) ?_
  refine arun_nil ?_
  refine athen_n ?_
  refine AWP.sub [(0, _), (1, _), (2, _), (3, _), (4, _), (5, _), (10, _), (11, _), (12, _), (13, _), (14, _), (15, _), (16, _), (17, _), (18, _), (19, _), (20, _), (21, _), (22, _), (23, _), (24, _), (25, _), (26, _), (27, _)] ⟨rfl, rfl, rfl, rfl, rfl, rfl, rfl, rfl, rfl, rfl, rfl, rfl, rfl, rfl, rfl, rfl, rfl, rfl, rfl, rfl, rfl, rfl, rfl, rfl, trivial⟩ ?_
  refine named (S := S7) (b := b26) g26.1 ?_
  intro T26 hT26 kb26
  replace hd := hd.less hT26
  replace hk := hk.less hT26
  replace kb5 := hT26.own kb5
  replace hd1 := hd1.less hT26
  replace kb11 := hT26.own kb11
  replace hd2 := hd2.less hT26
  replace kb16 := hT26.own kb16
  replace hd3 := hd3.less hT26
  replace kb18 := hT26.own kb18
  replace hd4 := hd4.less hT26
  replace kb20 := hT26.own kb20
  replace hd5 := hd5.less hT26
  replace kb22 := hT26.own kb22
  replace hd6 := hd6.less hT26
  replace kb24 := hT26.own kb24
  replace hd7 := hd7.less hT26
  refine AWP.seq ?_
  refine AWP.region ?_
  refine ARun.call (lit_lt rfl) go_23 rfl (lv_lives _) ?_
  rintro _ Sx ⟨rfl, h1⟩
  rw [h1]; clear h1 Sx
  refine rC (Calm.move rfl) ?_
  first | refine rS 83 ?_ | refine rU 83 ?_ | refine rG 83 (Calm.move rfl) ?_
  first | refine rS 83 ?_ | refine rU 83 ?_ | refine rG 83 (Calm.move rfl) ?_
  first | refine rS 83 ?_ | refine rU 83 ?_ | refine rG 83 (Calm.bin rfl rfl (bin_bool (bin_str_eql _ _) (decide_eq_true rfl))) ?_
  refine rC ((by first | exact Calm.pickT rfl rfl | exact Calm.pickF rfl rfl)) ?_
  refine rC (Calm.move rfl) ?_
  first | refine rS 88 ?_ | refine rU 88 ?_ | refine rG 88 (Calm.move rfl) ?_
  first | refine rS 88 ?_ | refine rU 88 ?_ | refine rG 88 (Calm.move rfl) ?_
  first | refine rS 88 ?_ | refine rU 88 ?_ | refine rG 88 (Calm.bin rfl rfl (bin_bool b_eql (decide_eq_true rfl))) ?_
  refine rC ((by first | exact Calm.pickT rfl rfl | exact Calm.pickF rfl rfl)) ?_
  refine rC (Calm.move rfl) ?_
  first | refine rS 93 ?_ | refine rU 93 ?_ | refine rG 93 (ldA_ (cs := [_, _, _, _, _]) ty_agg_25 ty_size_25 rfl) ?_
  first | refine rS 93 ?_ | refine rU 93 ?_ | refine rG 93 (ldA_ (cs := [_, _, _, _, _]) ty_agg_25 ty_size_25 rfl) ?_
  refine ARun.callG 11 true 93 rfl (lit_lt rfl) rfl (lit_lt rfl) go_24 rfl (rd_Same _ _ u2.1 _ hd2 hd3) ?_
  rintro _ Sx ⟨rfl, h1⟩
  rw [h1]; clear h1 Sx
  refine rC ((by first | exact Calm.pickT rfl rfl | exact Calm.pickF rfl rfl)) ?_
  refine rC (Calm.move rfl) ?_
  first | refine rS 98 ?_ | refine rU 98 ?_ | refine rG 98 (Calm.move rfl) ?_
  first | refine rS 98 ?_ | refine rU 98 ?_ | refine rG 98 (Calm.move rfl) ?_
  first | refine rS 98 ?_ | refine rU 98 ?_ | refine rG 98 (Calm.bin rfl rfl (bin_bool b_eql (decide_eq_true rfl))) ?_
  refine rC ((by first | exact Calm.pickT rfl rfl | exact Calm.pickF rfl rfl)) ?_
  refine rC (Calm.move rfl) ?_
  first | refine rS 103 ?_ | refine rU 103 ?_ | refine rG 103 (ldA_ (cs := [_, _, _, _, _]) ty_agg_25 ty_size_25 rfl) ?_
  first | refine rS 103 ?_ | refine rU 103 ?_ | refine rG 103 (ldA_ (cs := [_, _, _, _, _]) ty_agg_25 ty_size_25 rfl) ?_
  refine ARun.callG 21 true 103 rfl (lit_lt rfl) rfl (lit_lt rfl) go_24 rfl (rd_Same _ _ u3.1 _ hd4 hd5) ?_
  rintro _ Sx ⟨rfl, h1⟩
  rw [h1]; clear h1 Sx
  refine rC ((by first | exact Calm.pickT rfl rfl | exact Calm.pickF rfl rfl)) ?_
  refine rC (Calm.move rfl) ?_
  first | refine rS 108 ?_ | refine rU 108 ?_ | refine rG 108 (Calm.move rfl) ?_
  first | refine rS 108 ?_ | refine rU 108 ?_ | refine rG 108 (Calm.move rfl) ?_
  first | refine rS 108 ?_ | refine rU 108 ?_ | refine rG 108 (Calm.bin rfl rfl (bin_bool b_eql (decide_eq_true rfl))) ?_
  refine rC ((by first | exact Calm.pickT rfl rfl | exact Calm.pickF rfl rfl)) ?_
  refine rC (Calm.move rfl) ?_
  first | refine rS 113 ?_ | refine rU 113 ?_ | refine rG 113 (ldA_ (cs := [_, _, _, _, _]) ty_agg_25 ty_size_25 rfl) ?_
  first | refine rS 113 ?_ | refine rU 113 ?_ | refine rG 113 (ldA_ (cs := [_, _, _, _, _]) ty_agg_25 ty_size_25 rfl) ?_
  refine ARun.callG 31 true 113 rfl (lit_lt rfl) rfl (lit_lt rfl) go_24 rfl (rd_Same _ _ u4.1 _ hd6 hd7) ?_
  rintro _ Sx ⟨rfl, h1⟩
  rw [h1]; clear h1 Sx
  refine rC ((by first | exact Calm.pickT rfl rfl | exact Calm.pickF rfl rfl)) ?_
  refine rC (Calm.move rfl) ?_
  first | refine rS 118 ?_ | refine rU 118 ?_ | refine rG 118 (Calm.move rfl) ?_
  first | refine rS 118 ?_ | refine rU 118 ?_ | refine rG 118 (Calm.move rfl) ?_
  first | refine rS 118 ?_ | refine rU 118 ?_ | refine rG 118 (Calm.bin rfl rfl (bin_bool b_eql (decide_eq_true rfl))) ?_
  refine rC ((by first | exact Calm.pickT rfl rfl | exact Calm.pickF rfl rfl)) ?_
  refine rC (Calm.move rfl) ?_
  first | refine rS 123 ?_ | refine rU 123 ?_ | refine rG 123 (ldA_ (cs := [_, _, _, _, _]) ty_agg_25 ty_size_25 rfl) ?_
  first | refine rS 123 ?_ | refine rU 123 ?_ | refine rG 123 (ldA_ (cs := [_, _, _, _, _]) ty_agg_25 ty_size_25 rfl) ?_
  refine ARun.callG 41 true 123 rfl (lit_lt rfl) rfl (lit_lt rfl) go_24 rfl (rd_Same _ _ d _ hd1 hd) ?_
  rintro _ Sx ⟨rfl, h1⟩
  rw [h1]; clear h1 Sx
  refine rC ((by first | exact Calm.pickT rfl rfl | exact Calm.pickF rfl rfl)) ?_
  refine rC (Calm.assign rfl) ?_
  refine arun_nil ?_
  refine athen_n ?_
  refine AWP.sub [(0, _), (1, _), (2, _), (3, _), (4, _), (5, _), (10, _), (11, _), (12, _), (13, _), (14, _), (15, _), (16, _), (17, _), (18, _), (19, _), (20, _), (21, _), (22, _), (23, _), (24, _), (25, _), (26, _), (27, _)] ⟨rfl, rfl, rfl, rfl, rfl, rfl, rfl, rfl, rfl, rfl, rfl, rfl, rfl, rfl, rfl, rfl, rfl, rfl, rfl, rfl, rfl, rfl, rfl, rfl, trivial⟩ ?_
  refine AWP.ret ?_
  refine ⟨_, _, ⟨_, _, rfl, rfl, rfl⟩, less_, ?_⟩
  rfl
theorem walk_DiskSectors (cs : List Value) (y : D) (s : ByteArray) (k : Int) (data : ByteArray) (vk : Value) (l : List Bool) (W : World) (w0 : DkV (roM W) cs y) (w1 : s.size ≤ maxLen) (z1 : s.size < 140737488355328) (w2 : (Lit.int .i64 k).wf = true) (w3 : data.size ≤ maxLen) (z3 : data.size < 140737488355328) (w4 : BoolsV (roM W) [vk] l) :
    Calls Try.prog 4 #[.agg cs.toArray, .string s, .int .i64 k, .string data, vk] W fun e w' => e = .returned (.bool true) ∧ Below W.heap.size W w' := by
  obtain ⟨v', e, hv⟩ := w4
  cases e
  exact ACall.callsW (law_DiskSectors _ _ y s k data l _ w0.1 w0.2 hv)
end Go.Proofs.Ytkeiphkccnfhoaa
