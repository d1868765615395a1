/-
  Disk: the law DiskRoom walked.
-/
import Derived.Test.YtkeiphkccnfhoaaDiskLv
import Derived.Test.YtkeiphkccnfhoaaDiskOpen
import Derived.Test.YtkeiphkccnfhoaaDkP1
namespace Go.Proofs.Ytkeiphkccnfhoaa
open Go.RowKit
open Mv Disk
set_option linter.unusedVariables false
set_option linter.unusedSimpArgs false
set_option maxRecDepth 20000
theorem room_or (d : D) : ((roomD d).2 ≠ 0 ∧ (roomD d).1 = 0) ∨ (Right d ∧ d.down = false ∧ roomD d = (d.size - used d.ext, 0)) := by
  unfold roomD
  rcases openD_or d with ⟨ho, hR⟩ | ⟨ho, hR, hdn⟩ | ⟨ho, hR, hdn⟩ <;> rw [ho]
  · left; rw [if_pos (by simp)]; exact ⟨by simp, rfl⟩
  · left; rw [if_pos (by simp)]; exact ⟨by simp, rfl⟩
  · right; rw [if_neg (by simp)]; exact ⟨hR, hdn, rfl⟩
set_option maxHeartbeats 8000000 in
theorem law_DiskRoom (v : Value) (d : D) (s : ByteArray) (n : Int) (S : Mem) (hd : DkR S v d) (hz : Dz d) (hn : -9223372036854775808 ≤ n ∧ n ≤ 9223372036854775807) :
    ACall Try.prog 8 #[v, .string s, .int .i64 n] S fun r S' => r = .bool true := by
  have c0 := fun v S h => disk_Room v d S h hz
  have c1 := fun x v S h => disk_Sectors v d x S h hz
  have c2 := fun v S h => disk_New v d s n S h hz
  obtain ⟨pe, ce, pw, cw, rfl, hE, hW⟩ := id hd
  rcases room_or d with ⟨h1, h2⟩ | ⟨hR, hdn, hrm⟩
  · generalize roomD d = u at *
    refine ACall.enter (args := [.agg #[.int .i64 d.size, .slice pe d.ext.length ce, .slice pw d.waits.length cw, .int .i64 d.fuse, .bool d.down], .string s, .int .i64 n]) (rs := [.tmp 6]) 113 [(0, .agg #[.int .i64 d.size, .slice pe d.ext.length ce, .slice pw d.waits.length cw, .int .i64 d.fuse, .bool d.down]), (1, .string s), (2, .int .i64 n)] Try.func8 rfl rfl (Nat.le_of_ble_eq_true rfl) rfl ⟨rfl, rfl, rfl, trivial⟩ ?_
    refine AWP.seq ?_
    refine AWP.region ?_
    refine ARun.boxA (cs := [_, _, _, _, _]) (lit_lt rfl) rfl ?_
    intro b3 f3
    have g3 := f3
    repeat ((with_reducible replace g3 := fresh_set g3); obtain ⟨g3, _⟩ := g3)
    (try simp only [List.length_cons, List.length_nil, Nat.zero_add, Nat.reduceAdd])
    refine rC (Calm.assign rfl) ?_
    refine arun_nil ?_
    refine athen_n ?_
    refine named (S := S) (b := b3) g3.1 ?_
    intro T3 hT3 kb3
    replace hd := hd.less hT3
    replace hE := hE.less hT3
    refine AWP.seq ?_
    refine AWP.seq ?_
    refine AWP.region ?_
    refine ARun.call (lit_lt rfl) go_23 rfl (lv_lives _) ?_
    rintro _ Sx ⟨rfl, h1⟩
    rw [h1]; clear h1 Sx
    refine rC (Calm.un rfl (una_not _)) ?_
    refine arun_nil ?_
    refine athen_n ?_
    refine AWP.sub [(0, _), (1, _), (2, _), (3, _), (6, _), (21, _)] ⟨rfl, rfl, rfl, rfl, rfl, rfl, trivial⟩ ?_
    refine AWP.condF rfl (by first | rfl | (simp; done) | (simp; omega)) ?_
    refine AWP.skip ?_
    refine athen_n ?_
    refine AWP.seq ?_
    refine AWP.region ?_
    refine rC (ldA_ (cs := [_, _, _, _, _]) ty_agg_25 ty_size_25 rfl) ?_
    refine ARun.call (lit_lt rfl) go_19 rfl (c0 _ _ hd) ?_
    rintro _ Sx ⟨rfl, h1⟩
    rw [h1]; clear h1 Sx
    refine rC (Calm.move rfl) ?_
    refine rC (Calm.extract rfl rfl) ?_
    refine rC (Calm.extract rfl rfl) ?_
    refine rC (Calm.assign rfl) ?_
    refine rC (Calm.assign rfl) ?_
    refine arun_nil ?_
    refine athen_n ?_
    refine AWP.sub [(0, _), (1, _), (2, _), (3, _), (6, _), (21, _), (7, _), (8, _)] ⟨rfl, rfl, rfl, rfl, rfl, rfl, rfl, rfl, trivial⟩ ?_
    refine AWP.seq ?_
    refine AWP.seq ?_
    refine AWP.region ?_
    refine rC (Calm.move rfl) ?_
    refine rC (Calm.bin rfl rfl (bin_bool (bin_neq _ _) (bnot_dec_true h1))) ?_
    refine arun_nil ?_
    refine athen_n ?_
    refine AWP.sub [(0, _), (1, _), (2, _), (3, _), (6, _), (21, _), (7, _), (8, _), (28, _)] ⟨rfl, rfl, rfl, rfl, rfl, rfl, rfl, rfl, rfl, trivial⟩ ?_
    refine AWP.condT rfl (by first | rfl | (simp; done) | (simp; omega)) ?_
    refine AWP.seq ?_
    refine AWP.region ?_
    refine rC (Calm.move rfl) ?_
    refine rC (Calm.bin rfl rfl (bin_bool b_eql (decide_eq_true (h2)))) ?_
    refine rC (Calm.assign rfl) ?_
    refine arun_nil ?_
    refine athen_n ?_
    refine AWP.sub [(0, _), (1, _), (2, _), (3, _), (6, _), (21, _), (7, _), (8, _), (28, _)] ⟨rfl, rfl, rfl, rfl, rfl, rfl, rfl, rfl, rfl, trivial⟩ ?_
    refine AWP.ret ?_
    refine athen_ret ?_
    refine ⟨_, _, ⟨_, _, rfl, rfl, rfl⟩, less_, ?_⟩
    rfl
  · rw [hrm] at c0
    have hsec := fun x hx => sectors_law hR hdn (x := x) hx
    obtain ⟨n1, n2⟩ := new_law (s := s) (n := n) hR hdn
    rw [opened_ok hR hdn] at c2
    have hus := hR.ex.us; have h0 := hR.s0; have h16 := hR.s1; have hrl := right_len hR
    obtain ⟨_, _, ee1, ee2, ee3, hE3⟩ := id hE
    cases ee1
    generalize newD d s n = r at *
    obtain ⟨e, er⟩ := r
    simp only at n1 n2
    refine ACall.enter (args := [.agg #[.int .i64 d.size, .slice pe d.ext.length ce, .slice pw d.waits.length cw, .int .i64 d.fuse, .bool d.down], .string s, .int .i64 n]) (rs := [.tmp 6]) 113 [(0, .agg #[.int .i64 d.size, .slice pe d.ext.length ce, .slice pw d.waits.length cw, .int .i64 d.fuse, .bool d.down]), (1, .string s), (2, .int .i64 n)] Try.func8 rfl rfl (Nat.le_of_ble_eq_true rfl) rfl ⟨rfl, rfl, rfl, trivial⟩ ?_
    refine AWP.seq ?_
    refine AWP.region ?_
    refine ARun.boxA (cs := [_, _, _, _, _]) (lit_lt rfl) rfl ?_
    intro b3 f3
    have g3 := f3
    repeat ((with_reducible replace g3 := fresh_set g3); obtain ⟨g3, _⟩ := g3)
    (try simp only [List.length_cons, List.length_nil, Nat.zero_add, Nat.reduceAdd])
    refine rC (Calm.assign rfl) ?_
    refine arun_nil ?_
    refine athen_n ?_
    refine named (S := S) (b := b3) g3.1 ?_
    intro T3 hT3 kb3
    replace hd := hd.less hT3
    replace hE := hE.less hT3
    refine AWP.seq ?_
    refine AWP.seq ?_
    refine AWP.region ?_
    refine ARun.call (lit_lt rfl) go_23 rfl (lv_lives _) ?_
    rintro _ Sx ⟨rfl, h1⟩
    rw [h1]; clear h1 Sx
    refine rC (Calm.un rfl (una_not _)) ?_
    refine arun_nil ?_
    refine athen_n ?_
    refine AWP.sub [(0, _), (1, _), (2, _), (3, _), (6, _), (21, _)] ⟨rfl, rfl, rfl, rfl, rfl, rfl, trivial⟩ ?_
    refine AWP.condF rfl (by first | rfl | (simp; done) | (simp; omega)) ?_
    refine AWP.skip ?_
    refine athen_n ?_
    refine AWP.seq ?_
    refine AWP.region ?_
    refine rC (ldA_ (cs := [_, _, _, _, _]) ty_agg_25 ty_size_25 rfl) ?_
    refine ARun.call (lit_lt rfl) go_19 rfl (c0 _ _ hd) ?_
    rintro _ Sx ⟨rfl, h1⟩
    rw [h1]; clear h1 Sx
    refine rC (Calm.move rfl) ?_
    refine rC (Calm.extract rfl rfl) ?_
    refine rC (Calm.extract rfl rfl) ?_
    refine rC (Calm.assign rfl) ?_
    refine rC (Calm.assign rfl) ?_
    refine arun_nil ?_
    refine athen_n ?_
    refine AWP.sub [(0, _), (1, _), (2, _), (3, _), (6, _), (21, _), (7, _), (8, _)] ⟨rfl, rfl, rfl, rfl, rfl, rfl, rfl, rfl, trivial⟩ ?_
    refine AWP.seq ?_
    refine AWP.seq ?_
    refine AWP.region ?_
    refine rC (Calm.move rfl) ?_
    refine rC (Calm.bin rfl rfl b_neq) ?_
    refine arun_nil ?_
    refine athen_n ?_
    refine AWP.sub [(0, _), (1, _), (2, _), (3, _), (6, _), (21, _), (7, _), (8, _), (28, _)] ⟨rfl, rfl, rfl, rfl, rfl, rfl, rfl, rfl, rfl, trivial⟩ ?_
    refine AWP.condF rfl (by first | rfl | (simp; done) | (simp; omega)) ?_
    refine AWP.skip ?_
    refine athen_n ?_
    refine AWP.seq ?_
    refine AWP.region ?_
    refine rC (Calm.assign rfl) ?_
    refine arun_nil ?_
    refine athen_n ?_
    refine AWP.seq ?_
    refine AWP.seq ?_
    refine AWP.region ?_
    refine rC (Calm.fieldAddr ty_field_25_1 rfl) ?_
    refine rC (ld_ ty_plain_22 rfl) ?_
    refine rC (Calm.lenSl Try.underlying22 rfl) ?_
    refine rC (Calm.move rfl) ?_
    refine arun_nil ?_
    refine athen_n ?_
    refine AWP.sub [(0, _), (1, _), (2, _), (3, _), (6, _), (21, _), (7, _), (8, _), (28, _), (9, _), (32, _), (33, _), (34, _)] ⟨rfl, rfl, rfl, rfl, rfl, rfl, rfl, rfl, rfl, rfl, rfl, rfl, rfl, trivial⟩ ?_
    refine AWP.block ?_
    refine AWP.loop (X := Nat) (fun x => [(1, .string s), (2, .int .i64 n), (3, .pointer (some ⟨b3, 0, none⟩)), (7, .int .i64 (d.size - used d.ext)), (9, .int .i64 (used (d.ext.take x) : Nat)), (32, .slice pe d.ext.length ce), (33, .int .i64 d.ext.length), (34, .int .i64 x)]) (fun x => T3) (fun x => x ≤ d.ext.length) (fun x => d.ext.length - x) (0) ⟨rfl, rfl, rfl, rfl, some_int (by simp [used]), rfl, rfl, rfl, trivial⟩ (Mem.Less.refl _) (Nat.zero_le _) ?_
    rintro i hi
    (try dsimp only at *)
    refine AWP.seq ?_
    refine AWP.region ?_
    refine rC (Calm.bin rfl rfl b_lss) ?_
    refine arun_nil ?_
    refine athen_n ?_
    refine AWP.seq ?_
    refine AWP.condB rfl (fun hc => ?_) (fun hc => ?_)
    · have hc : i < d.ext.length := by have := of_decide_eq_true hc; omega
      obtain ⟨b, off, rfl, hk⟩ := hE3.resolve_left (fun e => by rw [e] at hc; simp at hc)
      have hki := (hk i hc).less hT3
      have hut := used_take hc
      have hul := used_take_le d.ext (i + 1)
      obtain ⟨hs1, hs2⟩ := hsec _ (List.getElem_mem hc)
      generalize d.ext[i] = x at *
      unfold extF at hki
      refine AWP.skip ?_
      refine athen_n ?_
      refine AWP.seq ?_
      refine AWP.block ?_
      refine AWP.seq ?_
      refine AWP.region ?_
      refine rC (Calm.indexS Try.underlying22 ty_size_54 rfl rfl (by omega) (by omega)) ?_
      refine rC (ldA_ (cs := [_, _]) ty_agg_54 ty_size_54 rfl) ?_
      refine ARun.alloc (lit_lt rfl) ty_zero_54 ?_
      intro b11 f11
      have g11 := f11
      repeat ((with_reducible replace g11 := fresh_set g11); obtain ⟨g11, _⟩ := g11)
      have := g11.ne kb3; have := g11.ne' kb3
      (try simp only [List.length_cons, List.length_nil, Nat.zero_add, Nat.reduceAdd])
      first | refine ARun.storeAll rfl rfl ty_size_54 own_ rfl rfl ?_ | refine ARun.store rfl rfl ty_size_54 own_ lens_ rfl ?_
      (try simp only [Mem.set_set, List.set_cons_zero, List.set_cons_succ, Nat.zero_add, Nat.reduceAdd])
      refine arun_nil ?_
      refine athen_n ?_
      refine AWP.sub [(1, _), (2, _), (3, _), (7, _), (9, _), (32, _), (33, _), (34, _), (35, _), (11, _)] ⟨rfl, rfl, rfl, rfl, rfl, rfl, rfl, rfl, rfl, rfl, trivial⟩ ?_
      refine AWP.seq ?_
      refine AWP.region ?_
      refine rC (ldA_ (cs := [_, _, _, _, _]) ty_agg_25 ty_size_25 rfl) ?_
      refine rC (Calm.fieldAddr ty_field_54_0 rfl) ?_
      refine rC (ld_ ty_plain_9 rfl) ?_
      refine ARun.call (lit_lt rfl) go_21 rfl (c1 x.1 _ _ (hd.less less_)) ?_
      rintro _ Sx ⟨rfl, h1⟩
      rw [h1, hs1]; clear h1 Sx
      refine rC (Calm.move rfl) ?_
      refine rC (Calm.extract rfl rfl) ?_
      refine rC (Calm.extract rfl rfl) ?_
      refine rC (Calm.assign rfl) ?_
      refine rC (Calm.assign rfl) ?_
      refine arun_nil ?_
      refine athen_n ?_
      refine AWP.sub [(1, _), (2, _), (3, _), (7, _), (9, _), (32, _), (33, _), (34, _), (35, _), (11, _), (12, _), (13, _)] ⟨rfl, rfl, rfl, rfl, rfl, rfl, rfl, rfl, rfl, rfl, rfl, rfl, trivial⟩ ?_
      refine AWP.seq ?_
      refine AWP.seq ?_
      refine AWP.region ?_
      refine rC (Calm.move rfl) ?_
      refine rC (Calm.bin rfl rfl b_neq) ?_
      refine rC (Calm.move rfl) ?_
      first | refine rS 47 ?_ | refine rU 47 ?_ | refine rG 47 (Calm.move rfl) ?_
      first | refine rS 47 ?_ | refine rU 47 ?_ | refine rG 47 (Calm.bin rfl rfl b_lss) ?_
      refine rC ((by first | exact Calm.pickT rfl rfl | exact Calm.pickF rfl rfl)) ?_
      refine arun_nil ?_
      refine athen_n ?_
      refine AWP.sub [(1, _), (2, _), (3, _), (7, _), (9, _), (32, _), (33, _), (34, _), (35, _), (11, _), (12, _), (13, _), (50, _)] ⟨rfl, rfl, rfl, rfl, rfl, rfl, rfl, rfl, rfl, rfl, rfl, rfl, rfl, trivial⟩ ?_
      refine AWP.condF rfl (by first | rfl | (simp; done) | (simp; omega)) ?_
      refine AWP.skip ?_
      refine athen_n ?_
      refine AWP.region ?_
      refine rC (Calm.move rfl) ?_
      refine rC (Calm.move rfl) ?_
      refine rC (Calm.bin rfl rfl b_add_i64) ?_
      refine rC (Calm.assign rfl) ?_
      refine arun_nil ?_
      refine ain_n ?_
      refine athen_n ?_
      refine AWP.sub [(1, _), (2, _), (3, _), (7, _), (9, _), (32, _), (33, _), (34, _), (35, _), (11, _), (12, _), (13, _), (50, _)] ⟨rfl, rfl, rfl, rfl, rfl, rfl, rfl, rfl, rfl, rfl, rfl, rfl, rfl, trivial⟩ ?_
      refine AWP.region ?_
      refine rC (Calm.bin rfl rfl b_add_i64) ?_
      refine rC (Calm.move rfl) ?_
      refine arun_nil ?_
      refine athen_n ?_
      refine ⟨i + 1, ?_, ?_, ?_, ?_⟩
      all_goals (try dsimp only)
      · exact ⟨rfl, rfl, rfl, rfl, some_int (by omega), rfl, rfl, rfl, trivial⟩
      · exact less_
      · exact hc
      · omega
    · have hc : i = d.ext.length := by have := of_decide_eq_false hc; omega
      subst hc
      rw [List.take_length]
      refine AWP.exit ?_
      refine athen_exit ?_
      refine athen_exit ?_
      refine ain_same ?_
      refine athen_n ?_
      refine AWP.seq ?_
      refine AWP.region ?_
      refine rC (ldA_ (cs := [_, _, _, _, _]) ty_agg_25 ty_size_25 rfl) ?_
      refine rC (Calm.move rfl) ?_
      refine rC (Calm.move rfl) ?_
      refine ARun.call (lit_lt rfl) go_13 rfl (c2 _ _ hd) ?_
      rintro _ S1 ⟨v, rfl, hS1, hd1⟩
      obtain ⟨p1, q1, r1, s1, rfl, hE1, hW1⟩ := id hd1
      replace hd := hd.less hS1
      replace hE := hE.less hS1
      replace kb3 := hS1.own kb3
      refine rC (Calm.move rfl) ?_
      refine rC (Calm.extract rfl rfl) ?_
      refine rC (Calm.extract rfl rfl) ?_
      refine ARun.alloc (lit_lt rfl) ty_zero_25 ?_
      intro b14 f14
      have g14 := f14
      repeat ((with_reducible replace g14 := fresh_set g14); obtain ⟨g14, _⟩ := g14)
      have := g14.ne kb3; have := g14.ne' kb3
      (try simp only [List.length_cons, List.length_nil, Nat.zero_add, Nat.reduceAdd])
      first | refine ARun.storeAll rfl rfl ty_size_25 own_ rfl rfl ?_ | refine ARun.store rfl rfl ty_size_25 own_ lens_ rfl ?_
      (try simp only [Mem.set_set, List.set_cons_zero, List.set_cons_succ, Nat.zero_add, Nat.reduceAdd])
      refine rC (Calm.assign rfl) ?_
      refine arun_nil ?_
      refine athen_n ?_
      refine AWP.sub [(1, _), (2, _), (3, _), (7, _), (9, _), (32, _), (33, _), (34, _), (35, _), (14, _), (15, _)] ⟨rfl, rfl, rfl, rfl, rfl, rfl, rfl, rfl, rfl, rfl, rfl, trivial⟩ ?_
      refine named (S := S1) (b := b14) g14.1 ?_
      intro T14 hT14 kb14
      replace hd := hd.less hT14
      replace hE := hE.less hT14
      replace kb3 := hT14.own kb3
      replace hd1 := hd1.less hT14
      by_cases q : er = 0
      · subst q
        obtain ⟨hRe, hdne, hfe, hre, hfree⟩ := n2 rfl
        have hze : Dz e := dz_right hRe (by rw [hfe]; exact hz.f1)
        have c3 := fun v S h => disk_Room v e S h hze
        have c4 := fun v vn S h hn => disk_Free v vn e [s] S h hze hn
        rw [hre] at c3
        rw [hfree] at c4
        have hue := hRe.ex.us
        refine AWP.seq ?_
        refine AWP.seq ?_
        refine AWP.region ?_
        refine rC (Calm.move rfl) ?_
        refine rC (Calm.bin rfl rfl b_neq) ?_
        refine arun_nil ?_
        refine athen_n ?_
        refine AWP.sub [(1, _), (2, _), (3, _), (7, _), (9, _), (32, _), (33, _), (34, _), (35, _), (14, _), (15, _), (63, _)] ⟨rfl, rfl, rfl, rfl, rfl, rfl, rfl, rfl, rfl, rfl, rfl, rfl, trivial⟩ ?_
        refine AWP.condF rfl (by first | rfl | (simp; done) | (simp; omega)) ?_
        refine AWP.skip ?_
        refine athen_n ?_
        refine AWP.seq ?_
        refine AWP.region ?_
        refine rC (ldA_ (cs := [_, _, _, _, _]) ty_agg_25 ty_size_25 rfl) ?_
        refine ARun.call (lit_lt rfl) go_19 rfl (c3 _ _ hd1) ?_
        rintro _ Sx ⟨rfl, h1⟩
        rw [h1]; clear h1 Sx
        refine rC (Calm.move rfl) ?_
        refine rC (Calm.extract rfl rfl) ?_
        refine rC (Calm.extract rfl rfl) ?_
        refine rC (Calm.assign rfl) ?_
        refine rC (Calm.assign rfl) ?_
        refine arun_nil ?_
        refine athen_n ?_
        refine AWP.sub [(1, _), (2, _), (3, _), (7, _), (9, _), (32, _), (33, _), (34, _), (35, _), (14, _), (15, _), (63, _), (16, _), (17, _)] ⟨rfl, rfl, rfl, rfl, rfl, rfl, rfl, rfl, rfl, rfl, rfl, rfl, rfl, rfl, trivial⟩ ?_
        refine AWP.seq ?_
        refine AWP.region ?_
        refine rC (ldA_ (cs := [_, _, _, _, _]) ty_agg_25 ty_size_25 rfl) ?_
        refine rC (Calm.move rfl) ?_
        refine ARun.build1s (lit_lt rfl) ty_sl_26 rfl rfl ?_
        intro b83 f83
        have g83 := f83
        repeat ((with_reducible replace g83 := fresh_set g83); obtain ⟨g83, _⟩ := g83)
        have := g83.ne kb3; have := g83.ne' kb3
        have := g83.ne kb14; have := g83.ne' kb14
        refine ARun.call (lit_lt rfl) go_15 rfl (c4 _ _ _ (hd1.less less_) (sl_own (f := strs) (n := 1) (fun _ => rfl) (Mem.own_set_same _ b83 _) (by rfl) rfl (by simp))) ?_
        rintro _ S2 ⟨v, rfl, hS2', hd2⟩
        obtain ⟨p2, q2, r2, s2, rfl, hE2, hW2⟩ := id hd2
        have hS2 := (Mem.less_set T14 b83 _ f83.1).trans hS2'
        replace hd := hd.less hS2
        replace hE := hE.less hS2
        replace kb3 := hS2.own kb3
        replace hd1 := hd1.less hS2
        replace kb14 := hS2.own kb14
        refine rC (Calm.move rfl) ?_
        refine rC (Calm.extract rfl rfl) ?_
        refine rC (Calm.extract rfl rfl) ?_
        refine ARun.alloc (lit_lt rfl) ty_zero_25 ?_
        intro b18 f18
        have g18 := f18
        repeat ((with_reducible replace g18 := fresh_set g18); obtain ⟨g18, _⟩ := g18)
        have := g18.ne kb3; have := g18.ne' kb3
        have := g18.ne kb14; have := g18.ne' kb14
        (try simp only [List.length_cons, List.length_nil, Nat.zero_add, Nat.reduceAdd])
        first | refine ARun.storeAll rfl rfl ty_size_25 own_ rfl rfl ?_ | refine ARun.store rfl rfl ty_size_25 own_ lens_ rfl ?_
        (try simp only [Mem.set_set, List.set_cons_zero, List.set_cons_succ, Nat.zero_add, Nat.reduceAdd])
        refine rC (Calm.assign rfl) ?_
        refine arun_nil ?_
        refine athen_n ?_
        refine AWP.sub [(1, _), (2, _), (3, _), (7, _), (9, _), (32, _), (33, _), (34, _), (35, _), (14, _), (15, _), (63, _), (16, _), (17, _), (18, _), (19, _)] ⟨rfl, rfl, rfl, rfl, rfl, rfl, rfl, rfl, rfl, rfl, rfl, rfl, rfl, rfl, rfl, rfl, trivial⟩ ?_
        refine named (S := S2) (b := b18) g18.1 ?_
        intro T18 hT18 kb18
        replace hd := hd.less hT18
        replace hE := hE.less hT18
        replace kb3 := hT18.own kb3
        replace hd1 := hd1.less hT18
        replace kb14 := hT18.own kb14
        replace hd2 := hd2.less hT18
        refine AWP.seq ?_
        refine AWP.region ?_
        refine rC (Calm.move rfl) ?_
        refine rC (Calm.move rfl) ?_
        refine rC (Calm.bin rfl rfl b_add_i64) ?_
        refine rC (Calm.fieldAddr ty_field_25_0 rfl) ?_
        refine rC (ld_ ty_plain_3 rfl) ?_
        refine rC (Calm.bin rfl rfl (bin_bool b_eql (decide_eq_true (by omega)))) ?_
        refine rC (Calm.move rfl) ?_
        first | refine rS 93 ?_ | refine rU 93 ?_ | refine rG 93 (Calm.move rfl) ?_
        first | refine rS 93 ?_ | refine rU 93 ?_ | refine rG 93 (Calm.bin rfl rfl b_eql) ?_
        refine rC ((by first | exact Calm.pickT rfl rfl | exact Calm.pickF rfl rfl)) ?_
        refine rC (Calm.move rfl) ?_
        first | refine rS 97 ?_ | refine rU 97 ?_ | refine rG 97 (Calm.move rfl) ?_
        first | refine rS 97 ?_ | refine rU 97 ?_ | refine rG 97 (Calm.move rfl) ?_
        first | refine rS 97 ?_ | refine rU 97 ?_ | refine rG 97 (Calm.bin rfl rfl b_sub_i64) ?_
        first | refine rS 97 ?_ | refine rU 97 ?_ | refine rG 97 (Calm.move rfl) ?_
        first | refine rS 97 ?_ | refine rU 97 ?_ | refine rG 97 (Calm.bin rfl rfl (bin_bool b_eql (decide_eq_true (by omega)))) ?_
        refine rC ((by first | exact Calm.pickT rfl rfl | exact Calm.pickF rfl rfl)) ?_
        refine rC (Calm.move rfl) ?_
        first | refine rS 104 ?_ | refine rU 104 ?_ | refine rG 104 (Calm.move rfl) ?_
        first | refine rS 104 ?_ | refine rU 104 ?_ | refine rG 104 (Calm.bin rfl rfl b_eql) ?_
        refine rC ((by first | exact Calm.pickT rfl rfl | exact Calm.pickF rfl rfl)) ?_
        refine rC (Calm.move rfl) ?_
        first | refine rS 108 ?_ | refine rU 108 ?_ | refine rG 108 (ldA_ (cs := [_, _, _, _, _]) ty_agg_25 ty_size_25 rfl) ?_
        first | refine rS 108 ?_ | refine rU 108 ?_ | refine rG 108 (ldA_ (cs := [_, _, _, _, _]) ty_agg_25 ty_size_25 rfl) ?_
        refine ARun.callG 21 true 108 rfl (lit_lt rfl) rfl (lit_lt rfl) go_24 rfl (rd_Same _ _ d _ hd hd2) ?_
        rintro _ Sx ⟨rfl, h1⟩
        rw [h1]; clear h1 Sx
        refine rC ((by first | exact Calm.pickT rfl rfl | exact Calm.pickF rfl rfl)) ?_
        refine rC (Calm.assign rfl) ?_
        refine arun_nil ?_
        refine athen_n ?_
        refine AWP.sub [(1, _), (2, _), (3, _), (7, _), (9, _), (32, _), (33, _), (34, _), (35, _), (14, _), (15, _), (63, _), (16, _), (17, _), (18, _), (19, _), (6, _)] ⟨rfl, rfl, rfl, rfl, rfl, rfl, rfl, rfl, rfl, rfl, rfl, rfl, rfl, rfl, rfl, rfl, rfl, trivial⟩ ?_
        refine AWP.ret ?_
        refine ⟨_, _, ⟨_, _, rfl, rfl, rfl⟩, less_, ?_⟩
        rfl
      · have hed := n1 q
        subst hed
        refine AWP.seq ?_
        refine AWP.seq ?_
        refine AWP.region ?_
        refine rC (Calm.move rfl) ?_
        refine rC (Calm.bin rfl rfl (bin_bool (bin_neq _ _) (bnot_dec_true q))) ?_
        refine arun_nil ?_
        refine athen_n ?_
        refine AWP.sub [(1, _), (2, _), (3, _), (7, _), (9, _), (32, _), (33, _), (34, _), (35, _), (14, _), (15, _), (63, _)] ⟨rfl, rfl, rfl, rfl, rfl, rfl, rfl, rfl, rfl, rfl, rfl, rfl, trivial⟩ ?_
        refine AWP.condT rfl (by first | rfl | (simp; done) | (simp; omega)) ?_
        refine AWP.seq ?_
        refine AWP.region ?_
        refine rC (Calm.move rfl) ?_
        refine rC (Calm.move rfl) ?_
        refine rC (Calm.bin rfl rfl b_add_i64) ?_
        refine rC (Calm.fieldAddr ty_field_25_0 rfl) ?_
        refine rC (ld_ ty_plain_3 rfl) ?_
        refine rC (Calm.bin rfl rfl (bin_bool b_eql (decide_eq_true (by omega)))) ?_
        refine rC (Calm.move rfl) ?_
        first | refine rS 70 ?_ | refine rU 70 ?_ | refine rG 70 (ldA_ (cs := [_, _, _, _, _]) ty_agg_25 ty_size_25 rfl) ?_
        first | refine rS 70 ?_ | refine rU 70 ?_ | refine rG 70 (ldA_ (cs := [_, _, _, _, _]) ty_agg_25 ty_size_25 rfl) ?_
        refine ARun.callG 6 true 70 rfl (lit_lt rfl) rfl (lit_lt rfl) go_24 rfl (rd_Same _ _ e _ hd hd1) ?_
        rintro _ Sx ⟨rfl, h1⟩
        rw [h1]; clear h1 Sx
        refine rC ((by first | exact Calm.pickT rfl rfl | exact Calm.pickF rfl rfl)) ?_
        refine rC (Calm.assign rfl) ?_
        refine arun_nil ?_
        refine athen_n ?_
        refine AWP.sub [(1, _), (2, _), (3, _), (7, _), (9, _), (32, _), (33, _), (34, _), (35, _), (14, _), (15, _), (63, _), (6, _)] ⟨rfl, rfl, rfl, rfl, rfl, rfl, rfl, rfl, rfl, rfl, rfl, rfl, rfl, trivial⟩ ?_
        refine AWP.ret ?_
        refine athen_ret ?_
        refine ⟨_, _, ⟨_, _, rfl, rfl, rfl⟩, less_, ?_⟩
        rfl
theorem walk_DiskRoom (cs : List Value) (y : D) (s : ByteArray) (n : Int) (W : World) (w0 : DkV (roM W) cs y) (w1 : s.size ≤ maxLen) (z1 : s.size < 140737488355328) (w2 : (Lit.int .i64 n).wf = true) :
    Calls Try.prog 8 #[.agg cs.toArray, .string s, .int .i64 n] W fun e w' => e = .returned (.bool true) ∧ Below W.heap.size W w' :=
  ACall.callsW (law_DiskRoom _ y s n _ w0.1 w0.2 (wfi w2))
end Go.Proofs.Ytkeiphkccnfhoaa
