/-
  Disk: the law's own look at the program (lives): true.
-/
import Derived.Test.YtkeiphkccnfhoaaDiskLv0
import Derived.Test.YtkeiphkccnfhoaaDraw
namespace Go.Proofs.Ytkeiphkccnfhoaa
open Go.RowKit
open Mv Disk
set_option linter.unusedVariables false
set_option linter.unusedSimpArgs false
set_option maxRecDepth 4000
theorem z63 : madeL [.int .u8 0] ((63 : Int).toNat * 1) = cellsB (List.replicate 63 0) := by
  rw [madeL_one, show (63 : Int).toNat * 1 = 63 from rfl]
  simp [cellsB, nb]
theorem sl_own {α : Type} {n : Nat} {f : α → List Value} (hn : ∀ x, (f x).length = n) {S : Mem} {b : Nat} {r : Blk} {l : List α} {k : Nat} (h : S.own b = some r) (hc : r.cells = l.flatMap f) (hk : l.length = k) (hl : l.length ≤ 1048576) : Sl n f S (.slice (some ⟨b, 0, none⟩) k k) l := by
  refine ⟨_, _, by rw [hk], by omega, by omega, .inr ⟨b, 0, rfl, fun i hi => ?_⟩⟩
  intro w hv q v hq
  have hj : (l.flatMap f)[i * n + q]? = some v := by
    have e1 : l = l.take i ++ l[i] :: l.drop (i + 1) := by rw [← List.drop_eq_getElem_cons hi, List.take_append_drop]
    have hlt : (l.take i).flatMap f = (l.take i).flatMap f := rfl
    have hlen := flat_length hn (l.take i)
    rw [List.length_take, Nat.min_eq_left (Nat.le_of_lt hi)] at hlen
    have hq2 : q < (f l[i]).length := (List.getElem?_eq_some_iff.1 hq).1
    conv => lhs; rw [e1]
    rw [List.flatMap_append, List.flatMap_cons, List.getElem?_append_right (by omega), List.getElem?_append_left (by omega)]
    rw [show i * n + q - (List.flatMap f (List.take i l)).length = q from by omega]
    exact hq
  have := hv.rd (a := ⟨b, i * n + q, none⟩) (v := v) (by unfold Mem.rd; rw [h]; show r.cells[i * n + q]? = some v; rw [hc]; exact hj)
  rw [addr_add]
  rw [show 0 + i * n + q = i * n + q from by omega]; exact this
set_option maxHeartbeats 8000000 in
theorem lv_lives (S : Mem) : ACall Try.prog 23 #[] S fun r S' => r = .bool true ∧ S' = S := by
  have dz0 : Dz L0 := dz_right right_L0 (by decide)
  have dz1 : Dz (L1 nA (zeros 2) []) := dz_right (right_1 _ zeros2) (by show (-1 : Int) ≤ _; decide)
  have dz2 : Dz (L1 nA (zeros 2) W1) := dz_right right_W1 (by show (-1 : Int) ≤ _; decide)
  have dz3 : Dz (L1 nA (zeros 2) W2) := dz_right right_W2 (by show (-1 : Int) ≤ _; decide)
  have dz4 : Dz (L1 nA x4 []) := dz_right (right_1 _ x4_size) (by show (-1 : Int) ≤ _; decide)
  have dz5 : Dz (L1 nA x5 []) := dz_right (right_1 _ x5_size) (by show (-1 : Int) ≤ _; decide)
  have dzB : Dz (L1 nB x5 []) := dz_right right_B (by show (-1 : Int) ≤ _; decide)
  have c0 : ∀ S, ACall Try.prog 35 #[.int .i64 4] S (DkRes (L0, 0) S) := fun S => by have := disk_Make 4 S; rw [l0] at this; exact this
  have c1 := fun v S h => disk_New v L0 nA 2 S h dz0
  have c2 := fun v S h => disk_Write v (L1 nA (zeros 2) []) nA 0 oneS S h dz1
  have c3 := fun v S h => disk_Write v (L1 nA (zeros 2) W1) nA 1 twoS S h dz2
  have c4 := fun v S h => disk_Read v (L1 nA (zeros 2) W2) nA 0 S h dz3
  have c5 := fun v vk S h hl => disk_Crash v vk (L1 nA (zeros 2) W2) [false, true] S h dz3 hl
  have c6 := fun v S h => disk_Read v (L1 nA x4 []) nA 0 S h dz4
  have c7 := fun v S h => disk_Read v (L1 nA x4 []) nA 1 S h dz4
  have c8 := fun v S h => disk_Sync v (L1 nA (zeros 2) W2) S h dz3
  have c9 := fun v S h => disk_Room v (L1 nA x5 []) S h dz5
  have c10 := fun v S h => disk_Move v (L1 nA x5 []) nA nB S h dz5
  have c11 := fun v S h => disk_Sectors v (L1 nB x5 []) nB S h dzB
  have c12 := fun v vn S h hn => disk_Free v vn (L1 nB x5 []) [nB] S h dzB hn
  have c13 := fun v S h => disk_New v L0 nC 5 S h dz0
  have c14 := fun v S h => disk_Check v (L1 nA x5 []) S h dz5
  rw [l1] at c1; rw [l2] at c2; rw [l3] at c3; rw [l4] at c4; rw [l5] at c5; rw [l6] at c6; rw [l7] at c7; rw [l8] at c8; rw [l9] at c9; rw [l10] at c10; rw [l11] at c11; rw [l12] at c12; rw [l13] at c13; rw [l14] at c14
  clear dz0 dz1 dz2 dz3 dz4 dz5 dzB
  generalize hone : oneS = one at *
  generalize htwo : twoS = two at *
  generalize hx4 : x4 = y4 at *
  generalize hx5 : x5 = y5 at *
  clear hx4 hx5
  refine ACall.enter (args := []) (rs := [.tmp 0]) 189 [] Try.func23 rfl rfl (Nat.le_of_ble_eq_true rfl) rfl trivial ?_
  refine AWP.seq ?_
  refine AWP.region ?_
  refine rC (Calm.assign rfl) ?_
  refine arun_nil ?_
  refine athen_n ?_
  refine AWP.seq ?_
  refine AWP.drawTo [(0, .bool false), (1, .string one), (2, .string two)] [] mixed ?_ ?_
  · refine DG.two 0 3 (by kernel_rfl) rfl ?_ rfl ?_
    · skip
      refine ARun.makeSlice (lit_lt rfl) ty_sl_92 rfl rfl (by omega) (by omega) (by omega) (by omega) ?_
      intro b28 f28
      refine arun_nil ⟨fun _ => Mem.less_set _ _ _ f28.1, ?_⟩
      refine DG.two 1 3 (by kernel_rfl) rfl ?_ rfl ?_
      · skip
        refine rC (Calm.toStr ty_bytes_92 ty_str_9 rfl (l := List.replicate 63 0) (by simp) (rds_ownE (Mem.own_set_same _ b28 _) z63)) ?_
        refine arun_nil ⟨fun _ => Mem.less_set _ _ _ f28.1, ?_⟩
        refine DG.pure 2 (by kernel_rfl) (by kernel_rfl) rfl rfl rfl rfl (lit_lt rfl) (fun _ => Calm.bin rfl rfl (bin_str_add (by rw [size_bs, List.length_replicate]; decide))) ?_
        refine DG.pure 6 (by kernel_rfl) (by kernel_rfl) rfl rfl rfl rfl (lit_lt rfl) (fun _ => Calm.assign rfl) ?_
        refine DG.only 3 (by kernel_rfl) rfl ?_
        refine ARun.makeSlice (lit_lt rfl) ty_sl_92 rfl rfl (by omega) (by omega) (by omega) (by omega) ?_
        intro b31 f31
        refine arun_nil ⟨fun _ => (Mem.less_set _ _ _ f28.1).trans (Mem.less_set _ _ _ f31.1), ?_⟩
        refine DG.only 4 (by kernel_rfl) rfl ?_
        refine rC (Calm.toStr ty_bytes_92 ty_str_9 rfl (l := List.replicate 63 0) (by simp) (rds_ownE (Mem.own_set_same _ b31 _) z63)) ?_
        refine arun_nil ⟨fun _ => (Mem.less_set _ _ _ f28.1).trans (Mem.less_set _ _ _ f31.1), ?_⟩
        refine DG.pure 5 (by kernel_rfl) (by kernel_rfl) rfl rfl rfl rfl (lit_lt rfl) (fun _ => Calm.bin rfl rfl (bin_str_add (by rw [size_bs, List.length_replicate]; decide))) ?_
        refine DG.pure 7 (by kernel_rfl) (by kernel_rfl) rfl rfl rfl rfl (lit_lt rfl) (fun _ => Calm.assign rfl) ?_
        refine DG.end_ (by kernel_rfl) ⟨rfl, ⟨rfl, some_val (by rw [← hone]; rfl), some_val (by rw [← htwo]; rfl), trivial⟩, (Mem.less_set _ _ _ f28.1).trans (Mem.less_set _ _ _ f31.1)⟩
      · skip
        refine ARun.makeSlice (lit_lt rfl) ty_sl_92 rfl rfl (by omega) (by omega) (by omega) (by omega) ?_
        intro b31 f31
        refine arun_nil ⟨fun _ => (Mem.less_set _ _ _ f28.1).trans (Mem.less_set _ _ _ f31.1), ?_⟩
        refine DG.two 1 4 (by kernel_rfl) rfl ?_ rfl ?_
        · skip
          refine rC (Calm.toStr ty_bytes_92 ty_str_9 rfl (l := List.replicate 63 0) (by simp) (rds_ownE ((Mem.own_set_other _ _ (Ne.symm (fresh_set f31).2)).trans (Mem.own_set_same _ b28 _)) z63)) ?_
          refine arun_nil ⟨fun _ => (Mem.less_set _ _ _ f28.1).trans (Mem.less_set _ _ _ f31.1), ?_⟩
          refine DG.pure 2 (by kernel_rfl) (by kernel_rfl) rfl rfl rfl rfl (lit_lt rfl) (fun _ => Calm.bin rfl rfl (bin_str_add (by rw [size_bs, List.length_replicate]; decide))) ?_
          refine DG.pure 6 (by kernel_rfl) (by kernel_rfl) rfl rfl rfl rfl (lit_lt rfl) (fun _ => Calm.assign rfl) ?_
          refine DG.only 4 (by kernel_rfl) rfl ?_
          refine rC (Calm.toStr ty_bytes_92 ty_str_9 rfl (l := List.replicate 63 0) (by simp) (rds_ownE (Mem.own_set_same _ b31 _) z63)) ?_
          refine arun_nil ⟨fun _ => (Mem.less_set _ _ _ f28.1).trans (Mem.less_set _ _ _ f31.1), ?_⟩
          refine DG.pure 5 (by kernel_rfl) (by kernel_rfl) rfl rfl rfl rfl (lit_lt rfl) (fun _ => Calm.bin rfl rfl (bin_str_add (by rw [size_bs, List.length_replicate]; decide))) ?_
          refine DG.pure 7 (by kernel_rfl) (by kernel_rfl) rfl rfl rfl rfl (lit_lt rfl) (fun _ => Calm.assign rfl) ?_
          refine DG.end_ (by kernel_rfl) ⟨rfl, ⟨rfl, some_val (by rw [← hone]; rfl), some_val (by rw [← htwo]; rfl), trivial⟩, (Mem.less_set _ _ _ f28.1).trans (Mem.less_set _ _ _ f31.1)⟩
        · skip
          refine rC (Calm.toStr ty_bytes_92 ty_str_9 rfl (l := List.replicate 63 0) (by simp) (rds_ownE (Mem.own_set_same _ b31 _) z63)) ?_
          refine arun_nil ⟨fun _ => (Mem.less_set _ _ _ f28.1).trans (Mem.less_set _ _ _ f31.1), ?_⟩
          refine DG.pure 5 (by kernel_rfl) (by kernel_rfl) rfl rfl rfl rfl (lit_lt rfl) (fun _ => Calm.bin rfl rfl (bin_str_add (by rw [size_bs, List.length_replicate]; decide))) ?_
          refine DG.only 1 (by kernel_rfl) rfl ?_
          refine rC (Calm.toStr ty_bytes_92 ty_str_9 rfl (l := List.replicate 63 0) (by simp) (rds_ownE ((Mem.own_set_other _ _ (Ne.symm (fresh_set f31).2)).trans (Mem.own_set_same _ b28 _)) z63)) ?_
          refine arun_nil ⟨fun _ => (Mem.less_set _ _ _ f28.1).trans (Mem.less_set _ _ _ f31.1), ?_⟩
          refine DG.pure 2 (by kernel_rfl) (by kernel_rfl) rfl rfl rfl rfl (lit_lt rfl) (fun _ => Calm.bin rfl rfl (bin_str_add (by rw [size_bs, List.length_replicate]; decide))) ?_
          refine DG.pure 6 (by kernel_rfl) (by kernel_rfl) rfl rfl rfl rfl (lit_lt rfl) (fun _ => Calm.assign rfl) ?_
          refine DG.pure 7 (by kernel_rfl) (by kernel_rfl) rfl rfl rfl rfl (lit_lt rfl) (fun _ => Calm.assign rfl) ?_
          refine DG.end_ (by kernel_rfl) ⟨rfl, ⟨rfl, some_val (by rw [← hone]; rfl), some_val (by rw [← htwo]; rfl), trivial⟩, (Mem.less_set _ _ _ f28.1).trans (Mem.less_set _ _ _ f31.1)⟩
    · skip
      refine ARun.makeSlice (lit_lt rfl) ty_sl_92 rfl rfl (by omega) (by omega) (by omega) (by omega) ?_
      intro b31 f31
      refine arun_nil ⟨fun _ => Mem.less_set _ _ _ f31.1, ?_⟩
      refine DG.two 0 4 (by kernel_rfl) rfl ?_ rfl ?_
      · skip
        refine ARun.makeSlice (lit_lt rfl) ty_sl_92 rfl rfl (by omega) (by omega) (by omega) (by omega) ?_
        intro b28 f28
        refine arun_nil ⟨fun _ => (Mem.less_set _ _ _ f31.1).trans (Mem.less_set _ _ _ f28.1), ?_⟩
        refine DG.two 1 4 (by kernel_rfl) rfl ?_ rfl ?_
        · skip
          refine rC (Calm.toStr ty_bytes_92 ty_str_9 rfl (l := List.replicate 63 0) (by simp) (rds_ownE (Mem.own_set_same _ b28 _) z63)) ?_
          refine arun_nil ⟨fun _ => (Mem.less_set _ _ _ f31.1).trans (Mem.less_set _ _ _ f28.1), ?_⟩
          refine DG.pure 2 (by kernel_rfl) (by kernel_rfl) rfl rfl rfl rfl (lit_lt rfl) (fun _ => Calm.bin rfl rfl (bin_str_add (by rw [size_bs, List.length_replicate]; decide))) ?_
          refine DG.pure 6 (by kernel_rfl) (by kernel_rfl) rfl rfl rfl rfl (lit_lt rfl) (fun _ => Calm.assign rfl) ?_
          refine DG.only 4 (by kernel_rfl) rfl ?_
          refine rC (Calm.toStr ty_bytes_92 ty_str_9 rfl (l := List.replicate 63 0) (by simp) (rds_ownE ((Mem.own_set_other _ _ (Ne.symm (fresh_set f28).2)).trans (Mem.own_set_same _ b31 _)) z63)) ?_
          refine arun_nil ⟨fun _ => (Mem.less_set _ _ _ f31.1).trans (Mem.less_set _ _ _ f28.1), ?_⟩
          refine DG.pure 5 (by kernel_rfl) (by kernel_rfl) rfl rfl rfl rfl (lit_lt rfl) (fun _ => Calm.bin rfl rfl (bin_str_add (by rw [size_bs, List.length_replicate]; decide))) ?_
          refine DG.pure 7 (by kernel_rfl) (by kernel_rfl) rfl rfl rfl rfl (lit_lt rfl) (fun _ => Calm.assign rfl) ?_
          refine DG.end_ (by kernel_rfl) ⟨rfl, ⟨rfl, some_val (by rw [← hone]; rfl), some_val (by rw [← htwo]; rfl), trivial⟩, (Mem.less_set _ _ _ f31.1).trans (Mem.less_set _ _ _ f28.1)⟩
        · skip
          refine rC (Calm.toStr ty_bytes_92 ty_str_9 rfl (l := List.replicate 63 0) (by simp) (rds_ownE ((Mem.own_set_other _ _ (Ne.symm (fresh_set f28).2)).trans (Mem.own_set_same _ b31 _)) z63)) ?_
          refine arun_nil ⟨fun _ => (Mem.less_set _ _ _ f31.1).trans (Mem.less_set _ _ _ f28.1), ?_⟩
          refine DG.pure 5 (by kernel_rfl) (by kernel_rfl) rfl rfl rfl rfl (lit_lt rfl) (fun _ => Calm.bin rfl rfl (bin_str_add (by rw [size_bs, List.length_replicate]; decide))) ?_
          refine DG.only 1 (by kernel_rfl) rfl ?_
          refine rC (Calm.toStr ty_bytes_92 ty_str_9 rfl (l := List.replicate 63 0) (by simp) (rds_ownE (Mem.own_set_same _ b28 _) z63)) ?_
          refine arun_nil ⟨fun _ => (Mem.less_set _ _ _ f31.1).trans (Mem.less_set _ _ _ f28.1), ?_⟩
          refine DG.pure 2 (by kernel_rfl) (by kernel_rfl) rfl rfl rfl rfl (lit_lt rfl) (fun _ => Calm.bin rfl rfl (bin_str_add (by rw [size_bs, List.length_replicate]; decide))) ?_
          refine DG.pure 6 (by kernel_rfl) (by kernel_rfl) rfl rfl rfl rfl (lit_lt rfl) (fun _ => Calm.assign rfl) ?_
          refine DG.pure 7 (by kernel_rfl) (by kernel_rfl) rfl rfl rfl rfl (lit_lt rfl) (fun _ => Calm.assign rfl) ?_
          refine DG.end_ (by kernel_rfl) ⟨rfl, ⟨rfl, some_val (by rw [← hone]; rfl), some_val (by rw [← htwo]; rfl), trivial⟩, (Mem.less_set _ _ _ f31.1).trans (Mem.less_set _ _ _ f28.1)⟩
      · skip
        refine rC (Calm.toStr ty_bytes_92 ty_str_9 rfl (l := List.replicate 63 0) (by simp) (rds_ownE (Mem.own_set_same _ b31 _) z63)) ?_
        refine arun_nil ⟨fun _ => Mem.less_set _ _ _ f31.1, ?_⟩
        refine DG.pure 5 (by kernel_rfl) (by kernel_rfl) rfl rfl rfl rfl (lit_lt rfl) (fun _ => Calm.bin rfl rfl (bin_str_add (by rw [size_bs, List.length_replicate]; decide))) ?_
        refine DG.only 0 (by kernel_rfl) rfl ?_
        refine ARun.makeSlice (lit_lt rfl) ty_sl_92 rfl rfl (by omega) (by omega) (by omega) (by omega) ?_
        intro b28 f28
        refine arun_nil ⟨fun _ => (Mem.less_set _ _ _ f31.1).trans (Mem.less_set _ _ _ f28.1), ?_⟩
        refine DG.only 1 (by kernel_rfl) rfl ?_
        refine rC (Calm.toStr ty_bytes_92 ty_str_9 rfl (l := List.replicate 63 0) (by simp) (rds_ownE (Mem.own_set_same _ b28 _) z63)) ?_
        refine arun_nil ⟨fun _ => (Mem.less_set _ _ _ f31.1).trans (Mem.less_set _ _ _ f28.1), ?_⟩
        refine DG.pure 2 (by kernel_rfl) (by kernel_rfl) rfl rfl rfl rfl (lit_lt rfl) (fun _ => Calm.bin rfl rfl (bin_str_add (by rw [size_bs, List.length_replicate]; decide))) ?_
        refine DG.pure 6 (by kernel_rfl) (by kernel_rfl) rfl rfl rfl rfl (lit_lt rfl) (fun _ => Calm.assign rfl) ?_
        refine DG.pure 7 (by kernel_rfl) (by kernel_rfl) rfl rfl rfl rfl (lit_lt rfl) (fun _ => Calm.assign rfl) ?_
        refine DG.end_ (by kernel_rfl) ⟨rfl, ⟨rfl, some_val (by rw [← hone]; rfl), some_val (by rw [← htwo]; rfl), trivial⟩, (Mem.less_set _ _ _ f31.1).trans (Mem.less_set _ _ _ f28.1)⟩
  refine athen_n ?_
  refine AWP.seq ?_
  refine AWP.region ?_
  refine ARun.call (lit_lt rfl) go_35 rfl (c0 _) ?_
  rintro _ S1 ⟨v, rfl, hS1, hd1⟩
  obtain ⟨p1, q1, r1, s1, rfl, hE1, hW1⟩ := id hd1
  refine rC (Calm.move rfl) ?_
  refine rC (Calm.extract rfl rfl) ?_
  refine rC (Calm.extract rfl rfl) ?_
  refine ARun.alloc (lit_lt rfl) ty_zero_25 ?_
  intro b3 f3
  have g3 := f3
  repeat ((with_reducible replace g3 := fresh_set g3); obtain ⟨g3, _⟩ := g3)
  (try simp only [List.length_cons, List.length_nil, Nat.zero_add, Nat.reduceAdd])
  first | refine ARun.storeAll rfl rfl ty_size_25 own_ rfl rfl ?_ | refine ARun.store rfl rfl ty_size_25 own_ lens_ rfl ?_
  (try simp only [Mem.set_set, List.set_cons_zero, List.set_cons_succ, Nat.zero_add, Nat.reduceAdd])
  refine rC (Calm.assign rfl) ?_
  refine arun_nil ?_
  refine athen_n ?_
  refine AWP.sub [(0, _), (1, _), (2, _), (3, _), (4, _)] ⟨rfl, rfl, rfl, rfl, rfl, trivial⟩ ?_
  refine AWP.seq ?_
  refine AWP.region ?_
  refine rC (ldA_ (cs := [_, _, _, _, _]) ty_agg_25 ty_size_25 rfl) ?_
  refine ARun.call (lit_lt rfl) go_13 rfl ((c1 _ S1 hd1).frame f3) ?_
  rintro _ Sx ⟨M1, ⟨v, rfl, hM1, hd2⟩, fa, h1⟩
  rw [h1]; clear h1 Sx
  obtain ⟨p2, q2, r2, s2, rfl, hE2, hW2⟩ := id hd2
  have hS2 := hS1.trans hM1
  refine rC (Calm.move rfl) ?_
  refine rC (Calm.extract rfl rfl) ?_
  refine rC (Calm.extract rfl rfl) ?_
  first | refine ARun.storeAll rfl rfl ty_size_25 own_ rfl rfl ?_ | refine ARun.store rfl rfl ty_size_25 own_ lens_ rfl ?_
  (try simp only [Mem.set_set, List.set_cons_zero, List.set_cons_succ, Nat.zero_add, Nat.reduceAdd])
  refine rC (Calm.assign rfl) ?_
  refine arun_nil ?_
  refine athen_n ?_
  refine AWP.sub [(0, _), (1, _), (2, _), (3, _), (4, _), (5, _)] ⟨rfl, rfl, rfl, rfl, rfl, rfl, trivial⟩ ?_
  refine AWP.seq ?_
  refine AWP.region ?_
  refine rC (ldA_ (cs := [_, _, _, _, _]) ty_agg_25 ty_size_25 rfl) ?_
  refine rC (Calm.move rfl) ?_
  refine ARun.call (lit_lt rfl) go_29 rfl ((c2 _ M1 hd2).frame fa) ?_
  rintro _ Sx ⟨M2, ⟨v, rfl, hM2, hd3⟩, fb, h1⟩
  rw [h1]; clear h1 Sx
  obtain ⟨p3, q3, r3, s3, rfl, hE3, hW3⟩ := id hd3
  have hS3 := hS2.trans hM2
  refine rC (Calm.move rfl) ?_
  refine rC (Calm.extract rfl rfl) ?_
  refine rC (Calm.extract rfl rfl) ?_
  first | refine ARun.storeAll rfl rfl ty_size_25 own_ rfl rfl ?_ | refine ARun.store rfl rfl ty_size_25 own_ lens_ rfl ?_
  (try simp only [Mem.set_set, List.set_cons_zero, List.set_cons_succ, Nat.zero_add, Nat.reduceAdd])
  refine rC (Calm.assign rfl) ?_
  refine arun_nil ?_
  refine athen_n ?_
  refine AWP.sub [(0, _), (1, _), (2, _), (3, _), (4, _), (5, _), (6, _)] ⟨rfl, rfl, rfl, rfl, rfl, rfl, rfl, trivial⟩ ?_
  refine AWP.seq ?_
  refine AWP.region ?_
  refine rC (ldA_ (cs := [_, _, _, _, _]) ty_agg_25 ty_size_25 rfl) ?_
  refine rC (Calm.move rfl) ?_
  refine ARun.call (lit_lt rfl) go_29 rfl ((c3 _ M2 hd3).frame fb) ?_
  rintro _ Sx ⟨M3, ⟨v, rfl, hM3, hd4⟩, fc, h1⟩
  rw [h1]; clear h1 Sx
  obtain ⟨p4, q4, r4, s4, rfl, hE4, hW4⟩ := id hd4
  have hS4 := hS3.trans hM3
  refine rC (Calm.move rfl) ?_
  refine rC (Calm.extract rfl rfl) ?_
  refine rC (Calm.extract rfl rfl) ?_
  first | refine ARun.storeAll rfl rfl ty_size_25 own_ rfl rfl ?_ | refine ARun.store rfl rfl ty_size_25 own_ lens_ rfl ?_
  (try simp only [Mem.set_set, List.set_cons_zero, List.set_cons_succ, Nat.zero_add, Nat.reduceAdd])
  refine rC (Calm.assign rfl) ?_
  refine arun_nil ?_
  refine athen_n ?_
  refine AWP.sub [(0, _), (1, _), (2, _), (3, _), (4, _), (5, _), (6, _), (7, _)] ⟨rfl, rfl, rfl, rfl, rfl, rfl, rfl, rfl, trivial⟩ ?_
  refine named (S := M3) (b := b3) fc.1 ?_
  intro T3 hT3 kb3
  replace hd4 := hd4.less hT3
  replace hS4 := hS4.trans hT3
  refine AWP.seq ?_
  refine AWP.region ?_
  refine rC (ldA_ (cs := [_, _, _, _, _]) ty_agg_25 ty_size_25 rfl) ?_
  refine ARun.call (lit_lt rfl) go_27 rfl (c4 _ _ (hd4.less less_)) ?_
  rintro _ Sx ⟨rfl, h1⟩
  rw [h1]; clear h1 Sx
  refine rC (Calm.move rfl) ?_
  refine rC (Calm.extract rfl rfl) ?_
  refine rC (Calm.extract rfl rfl) ?_
  refine rC (Calm.assign rfl) ?_
  refine rC (Calm.assign rfl) ?_
  refine arun_nil ?_
  refine athen_n ?_
  refine AWP.sub [(0, _), (1, _), (2, _), (3, _), (4, _), (5, _), (6, _), (7, _), (8, _), (9, _)] ⟨rfl, rfl, rfl, rfl, rfl, rfl, rfl, rfl, rfl, rfl, trivial⟩ ?_
  refine AWP.seq ?_
  refine AWP.region ?_
  refine rC (ldA_ (cs := [_, _, _, _, _]) ty_agg_25 ty_size_25 rfl) ?_
  refine ARun.buildN (cs := [_, _]) (lit_lt rfl) ty_sl_40 rfl rfl rfl rfl ?_
  intro b62 f62
  have g62 := f62
  repeat ((with_reducible replace g62 := fresh_set g62); obtain ⟨g62, _⟩ := g62)
  have := g62.ne kb3; have := g62.ne' kb3
  refine ARun.call (lit_lt rfl) go_33 rfl (c5 _ _ _ (hd4.less less_) (sl_own (f := bools) (n := 1) (fun _ => rfl) (Mem.own_set_same _ b62 _) (by rfl) rfl (by decide))) ?_
  rintro _ S5 ⟨v, rfl, hS5', hd5⟩
  obtain ⟨p5, q5, r5, s5, rfl, hE5, hW5⟩ := id hd5
  have hS5 := (Mem.less_set T3 b62 _ f62.1).trans hS5'
  replace hd4 := hd4.less hS5
  replace hS4 := hS4.trans hS5
  replace kb3 := hS5.own kb3
  refine rC (Calm.move rfl) ?_
  refine rC (Calm.extract rfl rfl) ?_
  refine rC (Calm.extract rfl rfl) ?_
  refine ARun.alloc (lit_lt rfl) ty_zero_25 ?_
  intro b10 f10
  have g10 := f10
  repeat ((with_reducible replace g10 := fresh_set g10); obtain ⟨g10, _⟩ := g10)
  have := g10.ne kb3; have := g10.ne' kb3
  (try simp only [List.length_cons, List.length_nil, Nat.zero_add, Nat.reduceAdd])
  first | refine ARun.storeAll rfl rfl ty_size_25 own_ rfl rfl ?_ | refine ARun.store rfl rfl ty_size_25 own_ lens_ rfl ?_
  (try simp only [Mem.set_set, List.set_cons_zero, List.set_cons_succ, Nat.zero_add, Nat.reduceAdd])
  refine rC (Calm.assign rfl) ?_
  refine arun_nil ?_
  refine athen_n ?_
  refine AWP.sub [(0, _), (1, _), (2, _), (3, _), (4, _), (5, _), (6, _), (7, _), (8, _), (9, _), (10, _), (11, _)] ⟨rfl, rfl, rfl, rfl, rfl, rfl, rfl, rfl, rfl, rfl, rfl, rfl, trivial⟩ ?_
  refine named (S := S5) (b := b10) g10.1 ?_
  intro T10 hT10 kb10
  replace hd4 := hd4.less hT10
  replace hS4 := hS4.trans hT10
  replace kb3 := hT10.own kb3
  replace hd5 := hd5.less hT10
  refine AWP.seq ?_
  refine AWP.region ?_
  refine rC (ldA_ (cs := [_, _, _, _, _]) ty_agg_25 ty_size_25 rfl) ?_
  refine ARun.call (lit_lt rfl) go_27 rfl (c6 _ _ (hd5.less less_)) ?_
  rintro _ Sx ⟨rfl, h1⟩
  rw [h1]; clear h1 Sx
  refine rC (Calm.move rfl) ?_
  refine rC (Calm.extract rfl rfl) ?_
  refine rC (Calm.extract rfl rfl) ?_
  refine rC (Calm.assign rfl) ?_
  refine rC (Calm.assign rfl) ?_
  refine arun_nil ?_
  refine athen_n ?_
  refine AWP.sub [(0, _), (1, _), (2, _), (3, _), (4, _), (5, _), (6, _), (7, _), (8, _), (9, _), (10, _), (11, _), (12, _), (13, _)] ⟨rfl, rfl, rfl, rfl, rfl, rfl, rfl, rfl, rfl, rfl, rfl, rfl, rfl, rfl, trivial⟩ ?_
  refine AWP.seq ?_
  refine AWP.region ?_
  refine rC (ldA_ (cs := [_, _, _, _, _]) ty_agg_25 ty_size_25 rfl) ?_
  refine ARun.call (lit_lt rfl) go_27 rfl (c7 _ _ (hd5.less less_)) ?_
  rintro _ Sx ⟨rfl, h1⟩
  rw [h1]; clear h1 Sx
  refine rC (Calm.move rfl) ?_
  refine rC (Calm.extract rfl rfl) ?_
  refine rC (Calm.extract rfl rfl) ?_
  refine rC (Calm.assign rfl) ?_
  refine rC (Calm.assign rfl) ?_
  refine arun_nil ?_
  refine athen_n ?_
  refine AWP.sub [(0, _), (1, _), (2, _), (3, _), (4, _), (5, _), (6, _), (7, _), (8, _), (9, _), (10, _), (11, _), (12, _), (13, _), (14, _), (15, _)] ⟨rfl, rfl, rfl, rfl, rfl, rfl, rfl, rfl, rfl, rfl, rfl, rfl, rfl, rfl, rfl, rfl, trivial⟩ ?_
  refine AWP.seq ?_
  refine AWP.region ?_
  refine rC (ldA_ (cs := [_, _, _, _, _]) ty_agg_25 ty_size_25 rfl) ?_
  refine ARun.call (lit_lt rfl) go_31 rfl (c8 _ _ (hd4.less less_)) ?_
  rintro _ S8 ⟨v, rfl, hS8, hd8⟩
  obtain ⟨p8, q8, r8, s8, rfl, hE8, hW8⟩ := id hd8
  replace hd4 := hd4.less hS8
  replace hS4 := hS4.trans hS8
  replace kb3 := hS8.own kb3
  replace hd5 := hd5.less hS8
  replace kb10 := hS8.own kb10
  refine rC (Calm.move rfl) ?_
  refine rC (Calm.extract rfl rfl) ?_
  refine rC (Calm.extract rfl rfl) ?_
  refine ARun.alloc (lit_lt rfl) ty_zero_25 ?_
  intro b16 f16
  have g16 := f16
  repeat ((with_reducible replace g16 := fresh_set g16); obtain ⟨g16, _⟩ := g16)
  have := g16.ne kb3; have := g16.ne' kb3
  have := g16.ne kb10; have := g16.ne' kb10
  (try simp only [List.length_cons, List.length_nil, Nat.zero_add, Nat.reduceAdd])
  first | refine ARun.storeAll rfl rfl ty_size_25 own_ rfl rfl ?_ | refine ARun.store rfl rfl ty_size_25 own_ lens_ rfl ?_
  (try simp only [Mem.set_set, List.set_cons_zero, List.set_cons_succ, Nat.zero_add, Nat.reduceAdd])
  refine rC (Calm.assign rfl) ?_
  refine arun_nil ?_
  refine athen_n ?_
  refine AWP.sub [(0, _), (1, _), (2, _), (3, _), (4, _), (5, _), (6, _), (7, _), (8, _), (9, _), (10, _), (11, _), (12, _), (13, _), (14, _), (15, _), (16, _), (17, _)] ⟨rfl, rfl, rfl, rfl, rfl, rfl, rfl, rfl, rfl, rfl, rfl, rfl, rfl, rfl, rfl, rfl, rfl, rfl, trivial⟩ ?_
  refine named (S := S8) (b := b16) g16.1 ?_
  intro T16 hT16 kb16
  replace hd4 := hd4.less hT16
  replace hS4 := hS4.trans hT16
  replace kb3 := hT16.own kb3
  replace hd5 := hd5.less hT16
  replace kb10 := hT16.own kb10
  replace hd8 := hd8.less hT16
  refine AWP.seq ?_
  refine AWP.region ?_
  refine rC (ldA_ (cs := [_, _, _, _, _]) ty_agg_25 ty_size_25 rfl) ?_
  refine ARun.call (lit_lt rfl) go_19 rfl (c9 _ _ (hd8.less less_)) ?_
  rintro _ Sx ⟨rfl, h1⟩
  rw [h1]; clear h1 Sx
  refine rC (Calm.move rfl) ?_
  refine rC (Calm.extract rfl rfl) ?_
  refine rC (Calm.extract rfl rfl) ?_
  refine rC (Calm.assign rfl) ?_
  refine rC (Calm.assign rfl) ?_
  refine arun_nil ?_
  refine athen_n ?_
  refine AWP.sub [(0, _), (1, _), (2, _), (3, _), (4, _), (5, _), (6, _), (7, _), (8, _), (9, _), (10, _), (11, _), (12, _), (13, _), (14, _), (15, _), (16, _), (17, _), (18, _), (19, _)] ⟨rfl, rfl, rfl, rfl, rfl, rfl, rfl, rfl, rfl, rfl, rfl, rfl, rfl, rfl, rfl, rfl, rfl, rfl, rfl, rfl, trivial⟩ ?_
  refine AWP.seq ?_
  refine AWP.region ?_
  refine rC (ldA_ (cs := [_, _, _, _, _]) ty_agg_25 ty_size_25 rfl) ?_
  refine ARun.call (lit_lt rfl) go_17 rfl (c10 _ _ (hd8.less less_)) ?_
  rintro _ S10 ⟨v, rfl, hS10, hd10⟩
  obtain ⟨p10, q10, r10, s10, rfl, hE10, hW10⟩ := id hd10
  replace hd4 := hd4.less hS10
  replace hS4 := hS4.trans hS10
  replace kb3 := hS10.own kb3
  replace hd5 := hd5.less hS10
  replace kb10 := hS10.own kb10
  replace hd8 := hd8.less hS10
  replace kb16 := hS10.own kb16
  refine rC (Calm.move rfl) ?_
  refine rC (Calm.extract rfl rfl) ?_
  refine rC (Calm.extract rfl rfl) ?_
  refine ARun.alloc (lit_lt rfl) ty_zero_25 ?_
  intro b20 f20
  have g20 := f20
  repeat ((with_reducible replace g20 := fresh_set g20); obtain ⟨g20, _⟩ := g20)
  have := g20.ne kb3; have := g20.ne' kb3
  have := g20.ne kb10; have := g20.ne' kb10
  have := g20.ne kb16; have := g20.ne' kb16
  (try simp only [List.length_cons, List.length_nil, Nat.zero_add, Nat.reduceAdd])
  first | refine ARun.storeAll rfl rfl ty_size_25 own_ rfl rfl ?_ | refine ARun.store rfl rfl ty_size_25 own_ lens_ rfl ?_
  (try simp only [Mem.set_set, List.set_cons_zero, List.set_cons_succ, Nat.zero_add, Nat.reduceAdd])
  refine rC (Calm.assign rfl) ?_
  refine arun_nil ?_
  refine athen_n ?_
  refine AWP.sub [(0, _), (1, _), (2, _), (3, _), (4, _), (5, _), (6, _), (7, _), (8, _), (9, _), (10, _), (11, _), (12, _), (13, _), (14, _), (15, _), (16, _), (17, _), (18, _), (19, _), (20, _), (21, _)] ⟨rfl, rfl, rfl, rfl, rfl, rfl, rfl, rfl, rfl, rfl, rfl, rfl, rfl, rfl, rfl, rfl, rfl, rfl, rfl, rfl, rfl, rfl, trivial⟩ ?_
  refine named (S := S10) (b := b20) g20.1 ?_
  intro T20 hT20 kb20
  replace hd4 := hd4.less hT20
  replace hS4 := hS4.trans hT20
  replace kb3 := hT20.own kb3
  replace hd5 := hd5.less hT20
  replace kb10 := hT20.own kb10
  replace hd8 := hd8.less hT20
  replace kb16 := hT20.own kb16
  replace hd10 := hd10.less hT20
  refine AWP.seq ?_
  refine AWP.region ?_
  refine rC (ldA_ (cs := [_, _, _, _, _]) ty_agg_25 ty_size_25 rfl) ?_
  refine ARun.call (lit_lt rfl) go_21 rfl (c11 _ _ (hd10.less less_)) ?_
  rintro _ Sx ⟨rfl, h1⟩
  rw [h1]; clear h1 Sx
  refine rC (Calm.move rfl) ?_
  refine rC (Calm.extract rfl rfl) ?_
  refine rC (Calm.extract rfl rfl) ?_
  refine rC (Calm.assign rfl) ?_
  refine rC (Calm.assign rfl) ?_
  refine arun_nil ?_
  refine athen_n ?_
  refine AWP.sub [(0, _), (1, _), (2, _), (3, _), (4, _), (5, _), (6, _), (7, _), (8, _), (9, _), (10, _), (11, _), (12, _), (13, _), (14, _), (15, _), (16, _), (17, _), (18, _), (19, _), (20, _), (21, _), (22, _), (23, _)] ⟨rfl, rfl, rfl, rfl, rfl, rfl, rfl, rfl, rfl, rfl, rfl, rfl, rfl, rfl, rfl, rfl, rfl, rfl, rfl, rfl, rfl, rfl, rfl, rfl, trivial⟩ ?_
  refine AWP.seq ?_
  refine AWP.region ?_
  refine rC (ldA_ (cs := [_, _, _, _, _]) ty_agg_25 ty_size_25 rfl) ?_
  refine ARun.build1s (lit_lt rfl) ty_sl_26 rfl rfl ?_
  intro b98 f98
  have g98 := f98
  repeat ((with_reducible replace g98 := fresh_set g98); obtain ⟨g98, _⟩ := g98)
  have := g98.ne kb3; have := g98.ne' kb3
  have := g98.ne kb10; have := g98.ne' kb10
  have := g98.ne kb16; have := g98.ne' kb16
  have := g98.ne kb20; have := g98.ne' kb20
  refine ARun.call (lit_lt rfl) go_15 rfl (c12 _ _ _ (hd10.less less_) (sl_own (f := strs) (n := 1) (fun _ => rfl) (Mem.own_set_same _ b98 _) (by rfl) rfl (by decide))) ?_
  rintro _ S12 ⟨v, rfl, hS12', hd12⟩
  obtain ⟨p12, q12, r12, s12, rfl, hE12, hW12⟩ := id hd12
  have hS12 := (Mem.less_set T20 b98 _ f98.1).trans hS12'
  replace hd4 := hd4.less hS12
  replace hS4 := hS4.trans hS12
  replace kb3 := hS12.own kb3
  replace hd5 := hd5.less hS12
  replace kb10 := hS12.own kb10
  replace hd8 := hd8.less hS12
  replace kb16 := hS12.own kb16
  replace hd10 := hd10.less hS12
  replace kb20 := hS12.own kb20
  refine rC (Calm.move rfl) ?_
  refine rC (Calm.extract rfl rfl) ?_
  refine rC (Calm.extract rfl rfl) ?_
  refine ARun.alloc (lit_lt rfl) ty_zero_25 ?_
  intro b24 f24
  have g24 := f24
  repeat ((with_reducible replace g24 := fresh_set g24); obtain ⟨g24, _⟩ := g24)
  have := g24.ne kb3; have := g24.ne' kb3
  have := g24.ne kb10; have := g24.ne' kb10
  have := g24.ne kb16; have := g24.ne' kb16
  have := g24.ne kb20; have := g24.ne' kb20
  (try simp only [List.length_cons, List.length_nil, Nat.zero_add, Nat.reduceAdd])
  first | refine ARun.storeAll rfl rfl ty_size_25 own_ rfl rfl ?_ | refine ARun.store rfl rfl ty_size_25 own_ lens_ rfl ?_
  (try simp only [Mem.set_set, List.set_cons_zero, List.set_cons_succ, Nat.zero_add, Nat.reduceAdd])
  refine rC (Calm.assign rfl) ?_
  refine arun_nil ?_
  refine athen_n ?_
  refine AWP.sub [(0, _), (1, _), (2, _), (3, _), (4, _), (5, _), (6, _), (7, _), (8, _), (9, _), (10, _), (11, _), (12, _), (13, _), (14, _), (15, _), (16, _), (17, _), (18, _), (19, _), (20, _), (21, _), (22, _), (23, _), (24, _), (25, _)] ⟨rfl, rfl, rfl, rfl, rfl, rfl, rfl, rfl, rfl, rfl, rfl, rfl, rfl, rfl, rfl, rfl, rfl, rfl, rfl, rfl, rfl, rfl, rfl, rfl, rfl, rfl, trivial⟩ ?_
  refine named (S := S12) (b := b24) g24.1 ?_
  intro T24 hT24 kb24
  replace hd4 := hd4.less hT24
  replace hS4 := hS4.trans hT24
  replace kb3 := hT24.own kb3
  replace hd5 := hd5.less hT24
  replace kb10 := hT24.own kb10
  replace hd8 := hd8.less hT24
  replace kb16 := hT24.own kb16
  replace hd10 := hd10.less hT24
  replace kb20 := hT24.own kb20
  replace hd12 := hd12.less hT24
  refine AWP.seq ?_
  refine AWP.region ?_
  refine rC (ldA_ (cs := [_, _, _, _, _]) ty_agg_25 ty_size_25 rfl) ?_
  refine ARun.call (lit_lt rfl) go_13 rfl (c13 _ _ (hd12.less less_)) ?_
  rintro _ S13 ⟨v, rfl, hS13, hd13⟩
  obtain ⟨p13, q13, r13, s13, rfl, hE13, hW13⟩ := id hd13
  replace hd4 := hd4.less hS13
  replace hS4 := hS4.trans hS13
  replace kb3 := hS13.own kb3
  replace hd5 := hd5.less hS13
  replace kb10 := hS13.own kb10
  replace hd8 := hd8.less hS13
  replace kb16 := hS13.own kb16
  replace hd10 := hd10.less hS13
  replace kb20 := hS13.own kb20
  replace hd12 := hd12.less hS13
  replace kb24 := hS13.own kb24
  refine rC (Calm.move rfl) ?_
  refine rC (Calm.extract rfl rfl) ?_
  refine rC (Calm.extract rfl rfl) ?_
  refine ARun.alloc (lit_lt rfl) ty_zero_25 ?_
  intro b26 f26
  have g26 := f26
  repeat ((with_reducible replace g26 := fresh_set g26); obtain ⟨g26, _⟩ := g26)
  have := g26.ne kb3; have := g26.ne' kb3
  have := g26.ne kb10; have := g26.ne' kb10
  have := g26.ne kb16; have := g26.ne' kb16
  have := g26.ne kb20; have := g26.ne' kb20
  have := g26.ne kb24; have := g26.ne' kb24
  (try simp only [List.length_cons, List.length_nil, Nat.zero_add, Nat.reduceAdd])
  first | refine ARun.storeAll rfl rfl ty_size_25 own_ rfl rfl ?_ | refine ARun.store rfl rfl ty_size_25 own_ lens_ rfl ?_
  (try simp only [Mem.set_set, List.set_cons_zero, List.set_cons_succ, Nat.zero_add, Nat.reduceAdd])
  refine rC (Calm.assign rfl) ?_
  refine arun_nil ?_
  refine athen_n ?_
  refine AWP.sub [(0, _), (1, _), (2, _), (3, _), (4, _), (5, _), (6, _), (7, _), (8, _), (9, _), (10, _), (11, _), (12, _), (13, _), (14, _), (15, _), (16, _), (17, _), (18, _), (19, _), (20, _), (21, _), (22, _), (23, _), (24, _), (25, _), (27, _)] ⟨rfl, rfl, rfl, rfl, rfl, rfl, rfl, rfl, rfl, rfl, rfl, rfl, rfl, rfl, rfl, rfl, rfl, rfl, rfl, rfl, rfl, rfl, rfl, rfl, rfl, rfl, rfl, trivial⟩ ?_
  refine named (S := S13) (b := b26) g26.1 ?_
  intro T26 hT26 kb26
  replace hd4 := hd4.less hT26
  replace hS4 := hS4.trans hT26
  replace kb3 := hT26.own kb3
  replace hd5 := hd5.less hT26
  replace kb10 := hT26.own kb10
  replace hd8 := hd8.less hT26
  replace kb16 := hT26.own kb16
  replace hd10 := hd10.less hT26
  replace kb20 := hT26.own kb20
  replace hd12 := hd12.less hT26
  replace kb24 := hT26.own kb24
  refine AWP.seq ?_
  refine AWP.region ?_
  refine rC (Calm.move rfl) ?_
  refine rC (Calm.bin rfl rfl b_eql) ?_
  refine rC (Calm.move rfl) ?_
  first | refine rS 109 ?_ | refine rU 109 ?_ | refine rG 109 (Calm.move rfl) ?_
  first | refine rS 109 ?_ | refine rU 109 ?_ | refine rG 109 (Calm.bin rfl rfl b_eql) ?_
  refine rC ((by first | exact Calm.pickT rfl rfl | exact Calm.pickF rfl rfl)) ?_
  refine rC (Calm.move rfl) ?_
  first | refine rS 113 ?_ | refine rU 113 ?_ | refine rG 113 (Calm.move rfl) ?_
  first | refine rS 113 ?_ | refine rU 113 ?_ | refine rG 113 (Calm.bin rfl rfl b_eql) ?_
  refine rC ((by first | exact Calm.pickT rfl rfl | exact Calm.pickF rfl rfl)) ?_
  refine rC (Calm.move rfl) ?_
  first | refine rS 117 ?_ | refine rU 117 ?_ | refine rG 117 (Calm.move rfl) ?_
  first | refine rS 117 ?_ | refine rU 117 ?_ | refine rG 117 (Calm.bin rfl rfl b_eql) ?_
  refine rC ((by first | exact Calm.pickT rfl rfl | exact Calm.pickF rfl rfl)) ?_
  refine rC (Calm.move rfl) ?_
  first | refine rS 121 ?_ | refine rU 121 ?_ | refine rG 121 (Calm.move rfl) ?_
  first | refine rS 121 ?_ | refine rU 121 ?_ | refine rG 121 (Calm.move rfl) ?_
  first | refine rS 121 ?_ | refine rU 121 ?_ | refine rG 121 (Calm.bin rfl rfl (bin_bool (bin_str_eql _ _) (decide_eq_true rfl))) ?_
  refine rC ((by first | exact Calm.pickT rfl rfl | exact Calm.pickF rfl rfl)) ?_
  refine rC (Calm.move rfl) ?_
  first | refine rS 126 ?_ | refine rU 126 ?_ | refine rG 126 (Calm.move rfl) ?_
  first | refine rS 126 ?_ | refine rU 126 ?_ | refine rG 126 (Calm.bin rfl rfl b_eql) ?_
  refine rC ((by first | exact Calm.pickT rfl rfl | exact Calm.pickF rfl rfl)) ?_
  refine rC (Calm.move rfl) ?_
  first | refine rS 130 ?_ | refine rU 130 ?_ | refine rG 130 (Calm.move rfl) ?_
  first | refine rS 130 ?_ | refine rU 130 ?_ | refine rG 130 (Calm.bin rfl rfl b_eql) ?_
  refine rC ((by first | exact Calm.pickT rfl rfl | exact Calm.pickF rfl rfl)) ?_
  refine rC (Calm.move rfl) ?_
  first | refine rS 134 ?_ | refine rU 134 ?_ | refine rG 134 (Calm.move rfl) ?_
  refine ARun.callG 27 true 134 rfl (lit_lt rfl) rfl (lit_lt rfl) go_53 rfl (rd_Zeros 1 _ (by decide)) ?_
  rintro _ Sx ⟨rfl, h1⟩
  rw [h1]; clear h1 Sx
  first | refine rS 134 ?_ | refine rU 134 ?_ | refine rG 134 (Calm.bin rfl rfl (bin_bool (bin_str_eql _ _) (decide_eq_true rfl))) ?_
  refine rC ((by first | exact Calm.pickT rfl rfl | exact Calm.pickF rfl rfl)) ?_
  refine rC (Calm.move rfl) ?_
  first | refine rS 139 ?_ | refine rU 139 ?_ | refine rG 139 (Calm.move rfl) ?_
  first | refine rS 139 ?_ | refine rU 139 ?_ | refine rG 139 (Calm.bin rfl rfl b_eql) ?_
  refine rC ((by first | exact Calm.pickT rfl rfl | exact Calm.pickF rfl rfl)) ?_
  refine rC (Calm.move rfl) ?_
  first | refine rS 143 ?_ | refine rU 143 ?_ | refine rG 143 (Calm.move rfl) ?_
  first | refine rS 143 ?_ | refine rU 143 ?_ | refine rG 143 (Calm.move rfl) ?_
  first | refine rS 143 ?_ | refine rU 143 ?_ | refine rG 143 (Calm.bin rfl rfl (bin_bool (bin_str_eql _ _) (decide_eq_true rfl))) ?_
  refine rC ((by first | exact Calm.pickT rfl rfl | exact Calm.pickF rfl rfl)) ?_
  refine rC (Calm.move rfl) ?_
  first | refine rS 148 ?_ | refine rU 148 ?_ | refine rG 148 (Calm.move rfl) ?_
  first | refine rS 148 ?_ | refine rU 148 ?_ | refine rG 148 (Calm.bin rfl rfl b_eql) ?_
  refine rC ((by first | exact Calm.pickT rfl rfl | exact Calm.pickF rfl rfl)) ?_
  refine rC (Calm.move rfl) ?_
  first | refine rS 152 ?_ | refine rU 152 ?_ | refine rG 152 (Calm.move rfl) ?_
  first | refine rS 152 ?_ | refine rU 152 ?_ | refine rG 152 (Calm.bin rfl rfl b_eql) ?_
  refine rC ((by first | exact Calm.pickT rfl rfl | exact Calm.pickF rfl rfl)) ?_
  refine rC (Calm.move rfl) ?_
  first | refine rS 156 ?_ | refine rU 156 ?_ | refine rG 156 (Calm.move rfl) ?_
  first | refine rS 156 ?_ | refine rU 156 ?_ | refine rG 156 (Calm.bin rfl rfl b_eql) ?_
  refine rC ((by first | exact Calm.pickT rfl rfl | exact Calm.pickF rfl rfl)) ?_
  refine rC (Calm.move rfl) ?_
  first | refine rS 160 ?_ | refine rU 160 ?_ | refine rG 160 (Calm.move rfl) ?_
  first | refine rS 160 ?_ | refine rU 160 ?_ | refine rG 160 (Calm.bin rfl rfl b_eql) ?_
  refine rC ((by first | exact Calm.pickT rfl rfl | exact Calm.pickF rfl rfl)) ?_
  refine rC (Calm.move rfl) ?_
  first | refine rS 164 ?_ | refine rU 164 ?_ | refine rG 164 (Calm.move rfl) ?_
  first | refine rS 164 ?_ | refine rU 164 ?_ | refine rG 164 (Calm.bin rfl rfl b_eql) ?_
  refine rC ((by first | exact Calm.pickT rfl rfl | exact Calm.pickF rfl rfl)) ?_
  refine rC (Calm.move rfl) ?_
  first | refine rS 168 ?_ | refine rU 168 ?_ | refine rG 168 (Calm.move rfl) ?_
  first | refine rS 168 ?_ | refine rU 168 ?_ | refine rG 168 (Calm.bin rfl rfl b_eql) ?_
  refine rC ((by first | exact Calm.pickT rfl rfl | exact Calm.pickF rfl rfl)) ?_
  refine rC (Calm.move rfl) ?_
  first | refine rS 172 ?_ | refine rU 172 ?_ | refine rG 172 (Calm.move rfl) ?_
  first | refine rS 172 ?_ | refine rU 172 ?_ | refine rG 172 (Calm.bin rfl rfl b_eql) ?_
  refine rC ((by first | exact Calm.pickT rfl rfl | exact Calm.pickF rfl rfl)) ?_
  refine rC (Calm.move rfl) ?_
  first | refine rS 176 ?_ | refine rU 176 ?_ | refine rG 176 (Calm.move rfl) ?_
  first | refine rS 176 ?_ | refine rU 176 ?_ | refine rG 176 (Calm.bin rfl rfl b_eql) ?_
  refine rC ((by first | exact Calm.pickT rfl rfl | exact Calm.pickF rfl rfl)) ?_
  refine rC (Calm.move rfl) ?_
  first | refine rS 180 ?_ | refine rU 180 ?_ | refine rG 180 (Calm.move rfl) ?_
  first | refine rS 180 ?_ | refine rU 180 ?_ | refine rG 180 (Calm.bin rfl rfl b_eql) ?_
  refine rC ((by first | exact Calm.pickT rfl rfl | exact Calm.pickF rfl rfl)) ?_
  refine rC (Calm.move rfl) ?_
  first | refine rS 184 ?_ | refine rU 184 ?_ | refine rG 184 (ldA_ (cs := [_, _, _, _, _]) ty_agg_25 ty_size_25 rfl) ?_
  refine ARun.callG 77 true 184 rfl (lit_lt rfl) rfl (lit_lt rfl) go_25 rfl (c14 _ _ (hd8.less less_)) ?_
  rintro _ Sx ⟨rfl, h1⟩
  rw [h1]; clear h1 Sx
  first | refine rS 184 ?_ | refine rU 184 ?_ | refine rG 184 (Calm.bin rfl rfl b_eql) ?_
  refine rC ((by first | exact Calm.pickT rfl rfl | exact Calm.pickF rfl rfl)) ?_
  refine rC (Calm.assign rfl) ?_
  refine arun_nil ?_
  refine athen_n ?_
  refine AWP.sub [(0, _), (1, _), (2, _), (3, _), (4, _), (5, _), (6, _), (7, _), (8, _), (9, _), (10, _), (11, _), (12, _), (13, _), (14, _), (15, _), (16, _), (17, _), (18, _), (19, _), (20, _), (21, _), (22, _), (23, _), (24, _), (25, _), (27, _)] ⟨rfl, rfl, rfl, rfl, rfl, rfl, rfl, rfl, rfl, rfl, rfl, rfl, rfl, rfl, rfl, rfl, rfl, rfl, rfl, rfl, rfl, rfl, rfl, rfl, rfl, rfl, rfl, trivial⟩ ?_
  refine AWP.ret ?_
  refine ⟨_, S, ⟨_, _, rfl, rfl, rfl⟩, hS4, ?_⟩
  exact ⟨rfl, rfl⟩
end Go.Proofs.Ytkeiphkccnfhoaa
