/-
  Disk: Check.
-/
import Derived.Test.YtkeiphkccnfhoaaDisk3
namespace Go.Proofs.Ytkeiphkccnfhoaa
open Go.RowKit
open Mv Disk
set_option linter.unusedVariables false
set_option linter.unusedSimpArgs false
set_option maxRecDepth 4000
theorem wok_pos {l : List Ext} (ha : Asc l) {w : Wr} {p : Nat} (hp : p < l.length) (e : l[p].1 = w.1) : wok l w ↔ 0 ≤ w.2.1 ∧ w.2.1 < sec l[p] ∧ w.2.2.size = 64 := by
  constructor
  · rintro ⟨x, hx, e2, h⟩
    have : x = l[p] := asc_inj ha hx (List.getElem_mem hp) (e2.trans e.symm)
    subst this; exact h
  · intro h
    exact ⟨l[p], List.getElem_mem hp, e, h⟩
theorem wok_has {l : List Ext} {w : Wr} (h : wok l w) : has l w.1 = true := by
  obtain ⟨x, hx, e, _⟩ := h
  exact has_iff.2 ⟨x, hx, e⟩
/-- A disk over memory. -/
def DkR (S : Mem) (v : Value) (d : D) : Prop := ∃ pe ce pw cw, v = .agg #[.int .i64 d.size, .slice pe d.ext.length ce, .slice pw d.waits.length cw, .int .i64 d.fuse, .bool d.down] ∧ Sl 2 extF S (.slice pe d.ext.length ce) d.ext ∧ Sl 3 wrF S (.slice pw d.waits.length cw) d.waits
theorem DkR.less {S S' : Mem} {v : Value} {d : D} (h : DkR S v d) (hl : S.Less S') : DkR S' v d := by
  obtain ⟨pe, ce, pw, cw, e, h1, h2⟩ := h
  exact ⟨pe, ce, pw, cw, e, h1.less hl, h2.less hl⟩
/-- Bounds of what comes in. -/
structure Dz (d : D) : Prop where
  s0 : -9223372036854775808 ≤ d.size
  s1 : d.size ≤ 9223372036854775807
  f0 : -9223372036854775808 ≤ d.fuse
  f1 : d.fuse ≤ 9223372036854775807
  el : d.ext.length ≤ 4398046511104
  wl : d.waits.length ≤ 3518437208883
  ez : ∀ x ∈ d.ext, x.1.size ≤ 140737488351232 ∧ x.2.size ≤ 140737488351232
  wz : ∀ w ∈ d.waits, w.1.size ≤ 140737488351232 ∧ -9223372036854775808 ≤ w.2.1 ∧ w.2.1 ≤ 9223372036854775807 ∧ w.2.2.size ≤ 140737488351232
set_option maxHeartbeats 2000000 in
theorem disk_Check (v : Value) (d : D) (S : Mem) (hd : DkR S v d) (hz : Dz d) :
    ACall Try.prog 25 #[v] S fun r S' => r = .int .i64 (chkD d) ∧ S' = S := by
  obtain ⟨pe, ce, pw, cw, rfl, hE, hW⟩ := hd
  obtain ⟨size, ext, waits, fuse, down⟩ := d
  have hez := fun x hx => (hz.ez x hx).2
  have hs0 := hz.s0; have hs1 := hz.s1; have hf0 := hz.f0; have hf1 := hz.f1
  simp only at hE hW hez hs0 hs1 hf0 hf1 ⊢
  obtain ⟨_, _, ee1, ee2, ee3, hE3⟩ := id hE
  obtain ⟨_, _, ew1, ew2, ew3, hW3⟩ := id hW
  cases ee1; cases ew1
  refine ACall.enter (args := [.agg #[.int .i64 size, .slice pe ext.length ce, .slice pw waits.length cw, .int .i64 fuse, .bool down]]) (rs := [.tmp 2]) 74 [(0, .agg #[.int .i64 size, .slice pe ext.length ce, .slice pw waits.length cw, .int .i64 fuse, .bool down])] Try.func25 rfl rfl (Nat.le_of_ble_eq_true rfl) rfl ⟨rfl, trivial⟩ ?_
  refine AWP.seq ?_
  refine AWP.region ?_
  refine ARun.boxA (cs := [_, _, _, _, _]) (lit_lt rfl) rfl ?_
  intro b1 f1
  have g1 := f1
  repeat ((with_reducible replace g1 := fresh_set g1); obtain ⟨g1, _⟩ := g1)
  (try simp only [List.length_cons, List.length_nil, Nat.zero_add, Nat.reduceAdd])
  refine rC (Calm.assign rfl) ?_
  refine arun_nil ?_
  refine athen_n ?_
  refine named (S := S) (b := b1) g1.1 ?_
  intro T1 hT1 kb1
  replace hE := hE.less hT1
  replace hW := hW.less hT1
  by_cases q1 : size < 0
  · refine AWP.seq ?_
    refine AWP.seq ?_
    refine AWP.region ?_
    refine rC (Calm.fieldAddr ty_field_25_0 rfl) ?_
    refine rC (ld_ ty_plain_3 rfl) ?_
    refine rC (Calm.bin rfl rfl b_lss) ?_
    refine rC (Calm.move rfl) ?_
    first | refine rS 10 ?_ | refine rU 10 ?_ | refine rG 10 (Calm.fieldAddr ty_field_25_0 rfl) ?_
    first | refine rS 10 ?_ | refine rU 10 ?_ | refine rG 10 (ld_ ty_plain_3 rfl) ?_
    first | refine rS 10 ?_ | refine rU 10 ?_ | refine rG 10 (Calm.bin rfl rfl b_gtr) ?_
    refine rC ((by first | exact Calm.pickT rfl rfl | exact Calm.pickF rfl rfl)) ?_
    refine rC (Calm.move rfl) ?_
    first | refine rS 15 ?_ | refine rU 15 ?_ | refine rG 15 (Calm.fieldAddr ty_field_25_2 rfl) ?_
    first | refine rS 15 ?_ | refine rU 15 ?_ | refine rG 15 (ld_ ty_plain_23 rfl) ?_
    first | refine rS 15 ?_ | refine rU 15 ?_ | refine rG 15 (Calm.lenSl Try.underlying23 rfl) ?_
    first | refine rS 15 ?_ | refine rU 15 ?_ | refine rG 15 (Calm.bin rfl rfl b_gtr) ?_
    refine rC ((by first | exact Calm.pickT rfl rfl | exact Calm.pickF rfl rfl)) ?_
    refine rC (Calm.move rfl) ?_
    first | refine rS 21 ?_ | refine rU 21 ?_ | refine rG 21 (Calm.fieldAddr ty_field_25_3 rfl) ?_
    first | refine rS 21 ?_ | refine rU 21 ?_ | refine rG 21 (ld_ ty_plain_3 rfl) ?_
    first | refine rS 21 ?_ | refine rU 21 ?_ | refine rG 21 (Calm.bin rfl rfl b_lss) ?_
    refine rC ((by first | exact Calm.pickT rfl rfl | exact Calm.pickF rfl rfl)) ?_
    refine rC (Calm.move rfl) ?_
    first | refine rS 26 ?_ | refine rU 26 ?_ | refine rG 26 (Calm.fieldAddr ty_field_25_1 rfl) ?_
    first | refine rS 26 ?_ | refine rU 26 ?_ | refine rG 26 (ld_ ty_plain_22 rfl) ?_
    first | refine rS 26 ?_ | refine rU 26 ?_ | refine rG 26 (Calm.fieldAddr ty_field_25_0 rfl) ?_
    first | refine rS 26 ?_ | refine rU 26 ?_ | refine rG 26 (ld_ ty_plain_3 rfl) ?_
    first | refine rS 26 ?_ | refine rU 26 ?_
    first | refine rS 26 ?_ | refine rU 26 ?_ | refine rG 26 (Calm.un rfl (una_not _)) ?_
    refine rC ((by first | exact Calm.pickT rfl rfl | exact Calm.pickF rfl rfl)) ?_
    refine arun_nil ?_
    refine athen_n ?_
    refine AWP.sub [(0, _), (1, _), (2, _), (33, _)] ⟨rfl, rfl, rfl, rfl, trivial⟩ ?_
    refine AWP.condT rfl (by first | rfl | (simp; done) | (simp; omega)) ?_
    refine AWP.seq ?_
    refine AWP.region ?_
    refine rC (Calm.assign rfl) ?_
    refine arun_nil ?_
    refine athen_n ?_
    refine AWP.ret ?_
    refine athen_ret ?_
    refine ⟨_, S, ⟨_, _, rfl, rfl, rfl⟩, hT1.trans less_, ?_⟩
    exact ⟨by rw [chkD_no (fun h => absurd h.s0 (by simp only; omega))]; rfl, rfl⟩
  · by_cases q2 : 16384 < size
    · refine AWP.seq ?_
      refine AWP.seq ?_
      refine AWP.region ?_
      refine rC (Calm.fieldAddr ty_field_25_0 rfl) ?_
      refine rC (ld_ ty_plain_3 rfl) ?_
      refine rC (Calm.bin rfl rfl b_lss) ?_
      refine rC (Calm.move rfl) ?_
      first | refine rS 10 ?_ | refine rU 10 ?_ | refine rG 10 (Calm.fieldAddr ty_field_25_0 rfl) ?_
      first | refine rS 10 ?_ | refine rU 10 ?_ | refine rG 10 (ld_ ty_plain_3 rfl) ?_
      first | refine rS 10 ?_ | refine rU 10 ?_ | refine rG 10 (Calm.bin rfl rfl b_gtr) ?_
      refine rC ((by first | exact Calm.pickT rfl rfl | exact Calm.pickF rfl rfl)) ?_
      refine rC (Calm.move rfl) ?_
      first | refine rS 15 ?_ | refine rU 15 ?_ | refine rG 15 (Calm.fieldAddr ty_field_25_2 rfl) ?_
      first | refine rS 15 ?_ | refine rU 15 ?_ | refine rG 15 (ld_ ty_plain_23 rfl) ?_
      first | refine rS 15 ?_ | refine rU 15 ?_ | refine rG 15 (Calm.lenSl Try.underlying23 rfl) ?_
      first | refine rS 15 ?_ | refine rU 15 ?_ | refine rG 15 (Calm.bin rfl rfl b_gtr) ?_
      refine rC ((by first | exact Calm.pickT rfl rfl | exact Calm.pickF rfl rfl)) ?_
      refine rC (Calm.move rfl) ?_
      first | refine rS 21 ?_ | refine rU 21 ?_ | refine rG 21 (Calm.fieldAddr ty_field_25_3 rfl) ?_
      first | refine rS 21 ?_ | refine rU 21 ?_ | refine rG 21 (ld_ ty_plain_3 rfl) ?_
      first | refine rS 21 ?_ | refine rU 21 ?_ | refine rG 21 (Calm.bin rfl rfl b_lss) ?_
      refine rC ((by first | exact Calm.pickT rfl rfl | exact Calm.pickF rfl rfl)) ?_
      refine rC (Calm.move rfl) ?_
      first | refine rS 26 ?_ | refine rU 26 ?_ | refine rG 26 (Calm.fieldAddr ty_field_25_1 rfl) ?_
      first | refine rS 26 ?_ | refine rU 26 ?_ | refine rG 26 (ld_ ty_plain_22 rfl) ?_
      first | refine rS 26 ?_ | refine rU 26 ?_ | refine rG 26 (Calm.fieldAddr ty_field_25_0 rfl) ?_
      first | refine rS 26 ?_ | refine rU 26 ?_ | refine rG 26 (ld_ ty_plain_3 rfl) ?_
      first | refine rS 26 ?_ | refine rU 26 ?_
      first | refine rS 26 ?_ | refine rU 26 ?_ | refine rG 26 (Calm.un rfl (una_not _)) ?_
      refine rC ((by first | exact Calm.pickT rfl rfl | exact Calm.pickF rfl rfl)) ?_
      refine arun_nil ?_
      refine athen_n ?_
      refine AWP.sub [(0, _), (1, _), (2, _), (33, _)] ⟨rfl, rfl, rfl, rfl, trivial⟩ ?_
      refine AWP.condT rfl (by first | rfl | (simp; done) | (simp; omega)) ?_
      refine AWP.seq ?_
      refine AWP.region ?_
      refine rC (Calm.assign rfl) ?_
      refine arun_nil ?_
      refine athen_n ?_
      refine AWP.ret ?_
      refine athen_ret ?_
      refine ⟨_, S, ⟨_, _, rfl, rfl, rfl⟩, hT1.trans less_, ?_⟩
      exact ⟨by rw [chkD_no (fun h => absurd h.s1 (by simp only; omega))]; rfl, rfl⟩
    · by_cases q3 : 16384 < waits.length
      · refine AWP.seq ?_
        refine AWP.seq ?_
        refine AWP.region ?_
        refine rC (Calm.fieldAddr ty_field_25_0 rfl) ?_
        refine rC (ld_ ty_plain_3 rfl) ?_
        refine rC (Calm.bin rfl rfl b_lss) ?_
        refine rC (Calm.move rfl) ?_
        first | refine rS 10 ?_ | refine rU 10 ?_ | refine rG 10 (Calm.fieldAddr ty_field_25_0 rfl) ?_
        first | refine rS 10 ?_ | refine rU 10 ?_ | refine rG 10 (ld_ ty_plain_3 rfl) ?_
        first | refine rS 10 ?_ | refine rU 10 ?_ | refine rG 10 (Calm.bin rfl rfl b_gtr) ?_
        refine rC ((by first | exact Calm.pickT rfl rfl | exact Calm.pickF rfl rfl)) ?_
        refine rC (Calm.move rfl) ?_
        first | refine rS 15 ?_ | refine rU 15 ?_ | refine rG 15 (Calm.fieldAddr ty_field_25_2 rfl) ?_
        first | refine rS 15 ?_ | refine rU 15 ?_ | refine rG 15 (ld_ ty_plain_23 rfl) ?_
        first | refine rS 15 ?_ | refine rU 15 ?_ | refine rG 15 (Calm.lenSl Try.underlying23 rfl) ?_
        first | refine rS 15 ?_ | refine rU 15 ?_ | refine rG 15 (Calm.bin rfl rfl b_gtr) ?_
        refine rC ((by first | exact Calm.pickT rfl rfl | exact Calm.pickF rfl rfl)) ?_
        refine rC (Calm.move rfl) ?_
        first | refine rS 21 ?_ | refine rU 21 ?_ | refine rG 21 (Calm.fieldAddr ty_field_25_3 rfl) ?_
        first | refine rS 21 ?_ | refine rU 21 ?_ | refine rG 21 (ld_ ty_plain_3 rfl) ?_
        first | refine rS 21 ?_ | refine rU 21 ?_ | refine rG 21 (Calm.bin rfl rfl b_lss) ?_
        refine rC ((by first | exact Calm.pickT rfl rfl | exact Calm.pickF rfl rfl)) ?_
        refine rC (Calm.move rfl) ?_
        first | refine rS 26 ?_ | refine rU 26 ?_ | refine rG 26 (Calm.fieldAddr ty_field_25_1 rfl) ?_
        first | refine rS 26 ?_ | refine rU 26 ?_ | refine rG 26 (ld_ ty_plain_22 rfl) ?_
        first | refine rS 26 ?_ | refine rU 26 ?_ | refine rG 26 (Calm.fieldAddr ty_field_25_0 rfl) ?_
        first | refine rS 26 ?_ | refine rU 26 ?_ | refine rG 26 (ld_ ty_plain_3 rfl) ?_
        first | refine rS 26 ?_ | refine rU 26 ?_
        first | refine rS 26 ?_ | refine rU 26 ?_ | refine rG 26 (Calm.un rfl (una_not _)) ?_
        refine rC ((by first | exact Calm.pickT rfl rfl | exact Calm.pickF rfl rfl)) ?_
        refine arun_nil ?_
        refine athen_n ?_
        refine AWP.sub [(0, _), (1, _), (2, _), (33, _)] ⟨rfl, rfl, rfl, rfl, trivial⟩ ?_
        refine AWP.condT rfl (by first | rfl | (simp; done) | (simp; omega)) ?_
        refine AWP.seq ?_
        refine AWP.region ?_
        refine rC (Calm.assign rfl) ?_
        refine arun_nil ?_
        refine athen_n ?_
        refine AWP.ret ?_
        refine athen_ret ?_
        refine ⟨_, S, ⟨_, _, rfl, rfl, rfl⟩, hT1.trans less_, ?_⟩
        exact ⟨by rw [chkD_no (fun h => absurd h.wl (by simp only; omega))]; rfl, rfl⟩
      · by_cases q4 : fuse < -1
        · refine AWP.seq ?_
          refine AWP.seq ?_
          refine AWP.region ?_
          refine rC (Calm.fieldAddr ty_field_25_0 rfl) ?_
          refine rC (ld_ ty_plain_3 rfl) ?_
          refine rC (Calm.bin rfl rfl b_lss) ?_
          refine rC (Calm.move rfl) ?_
          first | refine rS 10 ?_ | refine rU 10 ?_ | refine rG 10 (Calm.fieldAddr ty_field_25_0 rfl) ?_
          first | refine rS 10 ?_ | refine rU 10 ?_ | refine rG 10 (ld_ ty_plain_3 rfl) ?_
          first | refine rS 10 ?_ | refine rU 10 ?_ | refine rG 10 (Calm.bin rfl rfl b_gtr) ?_
          refine rC ((by first | exact Calm.pickT rfl rfl | exact Calm.pickF rfl rfl)) ?_
          refine rC (Calm.move rfl) ?_
          first | refine rS 15 ?_ | refine rU 15 ?_ | refine rG 15 (Calm.fieldAddr ty_field_25_2 rfl) ?_
          first | refine rS 15 ?_ | refine rU 15 ?_ | refine rG 15 (ld_ ty_plain_23 rfl) ?_
          first | refine rS 15 ?_ | refine rU 15 ?_ | refine rG 15 (Calm.lenSl Try.underlying23 rfl) ?_
          first | refine rS 15 ?_ | refine rU 15 ?_ | refine rG 15 (Calm.bin rfl rfl b_gtr) ?_
          refine rC ((by first | exact Calm.pickT rfl rfl | exact Calm.pickF rfl rfl)) ?_
          refine rC (Calm.move rfl) ?_
          first | refine rS 21 ?_ | refine rU 21 ?_ | refine rG 21 (Calm.fieldAddr ty_field_25_3 rfl) ?_
          first | refine rS 21 ?_ | refine rU 21 ?_ | refine rG 21 (ld_ ty_plain_3 rfl) ?_
          first | refine rS 21 ?_ | refine rU 21 ?_ | refine rG 21 (Calm.bin rfl rfl b_lss) ?_
          refine rC ((by first | exact Calm.pickT rfl rfl | exact Calm.pickF rfl rfl)) ?_
          refine rC (Calm.move rfl) ?_
          first | refine rS 26 ?_ | refine rU 26 ?_ | refine rG 26 (Calm.fieldAddr ty_field_25_1 rfl) ?_
          first | refine rS 26 ?_ | refine rU 26 ?_ | refine rG 26 (ld_ ty_plain_22 rfl) ?_
          first | refine rS 26 ?_ | refine rU 26 ?_ | refine rG 26 (Calm.fieldAddr ty_field_25_0 rfl) ?_
          first | refine rS 26 ?_ | refine rU 26 ?_ | refine rG 26 (ld_ ty_plain_3 rfl) ?_
          first | refine rS 26 ?_ | refine rU 26 ?_
          first | refine rS 26 ?_ | refine rU 26 ?_ | refine rG 26 (Calm.un rfl (una_not _)) ?_
          refine rC ((by first | exact Calm.pickT rfl rfl | exact Calm.pickF rfl rfl)) ?_
          refine arun_nil ?_
          refine athen_n ?_
          refine AWP.sub [(0, _), (1, _), (2, _), (33, _)] ⟨rfl, rfl, rfl, rfl, trivial⟩ ?_
          refine AWP.condT rfl (by first | rfl | (simp; done) | (simp; omega)) ?_
          refine AWP.seq ?_
          refine AWP.region ?_
          refine rC (Calm.assign rfl) ?_
          refine arun_nil ?_
          refine athen_n ?_
          refine AWP.ret ?_
          refine athen_ret ?_
          refine ⟨_, S, ⟨_, _, rfl, rfl, rfl⟩, hT1.trans less_, ?_⟩
          exact ⟨by rw [chkD_no (fun h => absurd h.fu (by simp only; omega))]; rfl, rfl⟩
        · refine AWP.seq ?_
          refine AWP.seq ?_
          refine AWP.region ?_
          refine rC (Calm.fieldAddr ty_field_25_0 rfl) ?_
          refine rC (ld_ ty_plain_3 rfl) ?_
          refine rC (Calm.bin rfl rfl b_lss) ?_
          refine rC (Calm.move rfl) ?_
          first | refine rS 10 ?_ | refine rU 10 ?_ | refine rG 10 (Calm.fieldAddr ty_field_25_0 rfl) ?_
          first | refine rS 10 ?_ | refine rU 10 ?_ | refine rG 10 (ld_ ty_plain_3 rfl) ?_
          first | refine rS 10 ?_ | refine rU 10 ?_ | refine rG 10 (Calm.bin rfl rfl b_gtr) ?_
          refine rC ((by first | exact Calm.pickT rfl rfl | exact Calm.pickF rfl rfl)) ?_
          refine rC (Calm.move rfl) ?_
          first | refine rS 15 ?_ | refine rU 15 ?_ | refine rG 15 (Calm.fieldAddr ty_field_25_2 rfl) ?_
          first | refine rS 15 ?_ | refine rU 15 ?_ | refine rG 15 (ld_ ty_plain_23 rfl) ?_
          first | refine rS 15 ?_ | refine rU 15 ?_ | refine rG 15 (Calm.lenSl Try.underlying23 rfl) ?_
          first | refine rS 15 ?_ | refine rU 15 ?_ | refine rG 15 (Calm.bin rfl rfl b_gtr) ?_
          refine rC ((by first | exact Calm.pickT rfl rfl | exact Calm.pickF rfl rfl)) ?_
          refine rC (Calm.move rfl) ?_
          first | refine rS 21 ?_ | refine rU 21 ?_ | refine rG 21 (Calm.fieldAddr ty_field_25_3 rfl) ?_
          first | refine rS 21 ?_ | refine rU 21 ?_ | refine rG 21 (ld_ ty_plain_3 rfl) ?_
          first | refine rS 21 ?_ | refine rU 21 ?_ | refine rG 21 (Calm.bin rfl rfl b_lss) ?_
          refine rC ((by first | exact Calm.pickT rfl rfl | exact Calm.pickF rfl rfl)) ?_
          refine rC (Calm.move rfl) ?_
          first | refine rS 26 ?_ | refine rU 26 ?_ | refine rG 26 (Calm.fieldAddr ty_field_25_1 rfl) ?_
          first | refine rS 26 ?_ | refine rU 26 ?_ | refine rG 26 (ld_ ty_plain_22 rfl) ?_
          first | refine rS 26 ?_ | refine rU 26 ?_ | refine rG 26 (Calm.fieldAddr ty_field_25_0 rfl) ?_
          first | refine rS 26 ?_ | refine rU 26 ?_ | refine rG 26 (ld_ ty_plain_3 rfl) ?_
          refine ARun.callG 19 false 26 rfl (lit_lt rfl) rfl (lit_lt rfl) go_61 rfl (disk_extents _ ext size _ hE (by omega) (by omega) hez) ?_
          rintro _ S1 ⟨⟨t, rfl, ht⟩, h1⟩
          rw [h1]; clear h1 S1
          first | refine rS 26 ?_ | refine rU 26 ?_ | refine rG 26 (Calm.un rfl (una_not _)) ?_
          refine rC ((by first | exact Calm.pickT rfl rfl | exact Calm.pickF rfl rfl)) ?_
          refine arun_nil ?_
          refine athen_n ?_
          refine AWP.sub [(0, _), (1, _), (2, _), (33, _)] ⟨rfl, rfl, rfl, rfl, trivial⟩ ?_
          by_cases q5 : ERight ext size
          · obtain rfl : t = true := ht.2 q5
            refine AWP.condF rfl (by first | rfl | (simp; done) | (simp; omega)) ?_
            have hul := used_ge q5.ok
            have hus := q5.us
            refine AWP.skip ?_
            refine athen_n ?_
            refine AWP.seq ?_
            refine AWP.seq ?_
            refine AWP.region ?_
            refine rC (Calm.fieldAddr ty_field_25_2 rfl) ?_
            refine rC (ld_ ty_plain_23 rfl) ?_
            refine rC (Calm.lenSl Try.underlying23 rfl) ?_
            refine rC (Calm.move rfl) ?_
            refine arun_nil ?_
            refine athen_n ?_
            refine AWP.sub [(0, _), (1, _), (2, _), (33, _), (35, _), (36, _), (37, _)] ⟨rfl, rfl, rfl, rfl, rfl, rfl, rfl, trivial⟩ ?_
            refine AWP.block ?_
            refine AWP.loop (X := Nat) (fun x => [(1, .pointer (some ⟨b1, 0, none⟩)), (35, .slice pw waits.length cw), (36, .int .i64 waits.length), (37, .int .i64 x)]) (fun x => T1) (fun x => x ≤ waits.length ∧ ∀ j (h : j < waits.length), j < x → wok ext waits[j]) (fun x => waits.length - x) (0) ⟨rfl, rfl, rfl, rfl, trivial⟩ (Mem.Less.refl _) (⟨Nat.zero_le _, fun j _ h => absurd h (Nat.not_lt_zero _)⟩) ?_
            rintro i ⟨hi, hall⟩
            (try dsimp only at *)
            refine AWP.seq ?_
            refine AWP.region ?_
            refine rC (Calm.bin rfl rfl b_lss) ?_
            refine arun_nil ?_
            refine athen_n ?_
            refine AWP.seq ?_
            refine AWP.condB rfl (fun hc => ?_) (fun hc => ?_)
            · have hc : i < waits.length := by have := of_decide_eq_true hc; omega
              obtain ⟨b, off, rfl, hk⟩ := hW3.resolve_left (fun e => by subst e; simp at hc)
              have hki := (hk i hc).less hT1
              have hwz := hz.wz _ (List.getElem_mem hc)
              have hwn : ¬ wok ext waits[i] → ¬ Right ⟨size, ext, waits, fuse, down⟩ := fun h h' => h (h'.wr _ (List.getElem_mem hc))
              have hall' : wok ext waits[i] → ∀ j (h : j < waits.length), j < i + 1 → wok ext waits[j] := fun hw j h hj => by rcases Nat.lt_or_ge j i with h' | h'; exact hall j h h'; obtain rfl : j = i := (by omega); exact hw
              have hhp := has_pos q5.asc waits[i].1
              have hwh := wok_has (l := ext) (w := waits[i])
              have hwp := fun (p : Nat) (hp : p < ext.length) (e : ext[p].1 = (waits[i]'hc).1) => wok_pos q5.asc hp e
              generalize waits[i] = w at *
              unfold wrF at hki
              refine AWP.skip ?_
              refine athen_n ?_
              refine AWP.seq ?_
              refine AWP.block ?_
              refine AWP.seq ?_
              refine AWP.region ?_
              refine rC (Calm.indexS Try.underlying23 ty_size_51 rfl rfl (by omega) (by omega)) ?_
              refine rC (ldA_ (cs := [_, _, _]) ty_agg_51 ty_size_51 rfl) ?_
              refine ARun.alloc (lit_lt rfl) ty_zero_51 ?_
              intro b4 f4
              have g4 := f4
              repeat ((with_reducible replace g4 := fresh_set g4); obtain ⟨g4, _⟩ := g4)
              have := g4.ne kb1; have := g4.ne' kb1
              (try simp only [List.length_cons, List.length_nil, Nat.zero_add, Nat.reduceAdd])
              first | refine ARun.storeAll rfl rfl ty_size_51 own_ rfl rfl ?_ | refine ARun.store rfl rfl ty_size_51 own_ lens_ rfl ?_
              (try simp only [Mem.set_set, List.set_cons_zero, List.set_cons_succ, Nat.zero_add, Nat.reduceAdd])
              refine arun_nil ?_
              refine athen_n ?_
              refine AWP.sub [(1, _), (35, _), (36, _), (37, _), (38, _), (4, _)] ⟨rfl, rfl, rfl, rfl, rfl, rfl, trivial⟩ ?_
              refine AWP.seq ?_
              refine AWP.region ?_
              refine rC (Calm.fieldAddr ty_field_25_1 rfl) ?_
              refine rC (ld_ ty_plain_22 rfl) ?_
              refine rC (Calm.fieldAddr ty_field_51_0 rfl) ?_
              refine rC (ld_ ty_plain_9 rfl) ?_
              refine ARun.call (lit_lt rfl) go_59 rfl (disk_find _ ext w.1 _ (hE.less less_) q5.asc (by omega)) ?_
              rintro _ S1 ⟨rfl, h1⟩
              rw [h1]; clear h1 S1
              refine rC (Calm.move rfl) ?_
              refine rC (Calm.extract rfl rfl) ?_
              refine rC (Calm.extract rfl rfl) ?_
              refine rC (Calm.assign rfl) ?_
              refine rC (Calm.assign rfl) ?_
              refine arun_nil ?_
              refine athen_n ?_
              refine AWP.sub [(1, _), (35, _), (36, _), (37, _), (38, _), (4, _), (5, _), (6, _)] ⟨rfl, rfl, rfl, rfl, rfl, rfl, rfl, rfl, trivial⟩ ?_
              by_cases q6 : has ext w.1 = true
              · obtain ⟨hp, hpe⟩ := hhp.1 q6
                obtain ⟨be, oe, hpe2, hke⟩ := hE3.resolve_left (fun e => by subst e; simp at hp)
                subst hpe2
                have hkp := (hke _ hp).less hT1
                have hsz := hez _ (List.getElem_mem hp)
                replace hwp := hwp _ hp hpe
                rw [q6]
                generalize hpp : pos ext w.1 = p at *
                generalize hxx : ext[p] = x at *
                unfold extF at hkp
                have hsx : sec x ≤ 140737488351232 := by unfold sec; omega
                by_cases q7 : w.2.1 < 0
                · refine AWP.seq ?_
                  refine AWP.draw [(0, true), (1, true), (2, true), (3, true), (4, true), (5, true), (6, true), (7, true), (8, true), (9, true), (10, true), (11, true), (12, true), (13, true), (14, true), (15, false), (16, true), (17, true), (18, true), (19, true), (20, true), (21, true), (22, true), (23, true)] [] mixed (by kernel_rfl) ?_
                  refine dP (hc := fun _ => Calm.move rfl) (h := ?_)
                  refine dP (hc := fun _ => Calm.un rfl (una_not _)) (h := ?_)
                  refine dP (hc := fun _ => Calm.move rfl) (h := ?_)
                  first | refine dS ?_ | refine dU ?_ | refine dG (hc := fun _ => Calm.fieldAddr ty_field_51_1 rfl) (h := ?_)
                  first | refine dS ?_ | refine dU ?_ | refine dL (hc := ld_ ty_plain_3 rfl) (h := ?_)
                  first | refine dS ?_ | refine dU ?_ | refine dG (hc := fun _ => Calm.bin rfl rfl b_lss) (h := ?_)
                  refine dP (hc := fun _ => (by first | exact Calm.pickT rfl rfl | exact Calm.pickF rfl rfl)) (h := ?_)
                  refine dP (hc := fun _ => Calm.move rfl) (h := ?_)
                  first | refine dS ?_ | refine dU ?_ | refine dG (hc := fun _ => Calm.fieldAddr ty_field_51_1 rfl) (h := ?_)
                  first | refine dS ?_ | refine dU ?_ | refine dL (hc := ld_ ty_plain_3 rfl) (h := ?_)
                  first | refine dS ?_ | refine dU ?_ | refine dG (hc := fun _ => Calm.fieldAddr ty_field_25_1 rfl) (h := ?_)
                  first | refine dS ?_ | refine dU ?_ | refine dL (hc := ld_ ty_plain_22 rfl) (h := ?_)
                  first | refine dS ?_ | refine dU ?_ | refine dG (hc := fun _ => Calm.move rfl) (h := ?_)
                  first | refine dS ?_ | refine dU ?_ | refine dG (hc := fun _ => Calm.indexS Try.underlying22 ty_size_54 rfl rfl (by omega) (by omega)) (h := ?_)
                  first | refine dS ?_ | refine dU ?_ | refine dL (hc := ldA_ (cs := [_, _]) ty_agg_54 ty_size_54 rfl) (h := ?_)
                  refine draw_only rfl ?_
                  first | refine rS 56 ?_ | refine rU 56 ?_
                  refine arun_nil ⟨fun _ => less_, ?_⟩
                  first | refine dS ?_ | refine dU ?_ | refine dG (hc := fun _ => Calm.bin rfl rfl b_geq) (h := ?_)
                  refine dP (hc := fun _ => (by first | exact Calm.pickT rfl rfl | exact Calm.pickF rfl rfl)) (h := ?_)
                  refine dP (hc := fun _ => Calm.move rfl) (h := ?_)
                  first | refine dS ?_ | refine dU ?_ | refine dG (hc := fun _ => Calm.fieldAddr ty_field_51_2 rfl) (h := ?_)
                  first | refine dS ?_ | refine dU ?_ | refine dL (hc := ld_ ty_plain_9 rfl) (h := ?_)
                  first | refine dS ?_ | refine dU ?_ | refine dL (hc := Calm.lenStr (strT_spec ty_str_9) rfl) (h := ?_)
                  first | refine dS ?_ | refine dU ?_ | refine dG (hc := fun _ => Calm.bin rfl rfl b_neq) (h := ?_)
                  refine dP (hc := fun _ => (by first | exact Calm.pickT rfl rfl | exact Calm.pickF rfl rfl)) (h := ?_)
                  refine draw_nil ?_
                  refine athen_n ?_
                  refine AWP.sub [(1, _), (35, _), (36, _), (37, _), (38, _), (4, _), (5, _), (6, _), (72, _)] ⟨rfl, rfl, rfl, rfl, rfl, rfl, rfl, rfl, rfl, trivial⟩ ?_
                  refine AWP.condT rfl (by first | rfl | (simp; done) | (simp; omega)) ?_
                  refine AWP.seq ?_
                  refine AWP.region ?_
                  refine rC (Calm.assign rfl) ?_
                  refine arun_nil ?_
                  refine athen_n ?_
                  refine AWP.ret ?_
                  refine ain_ret ?_
                  refine athen_ret ?_
                  refine athen_ret ?_
                  refine ain_ret ?_
                  refine athen_ret ?_
                  refine ⟨_, S, ⟨_, _, rfl, rfl, rfl⟩, hT1.trans less_, ?_⟩
                  exact ⟨by rw [chkD_no (hwn (fun h => absurd (hwp.1 h).1 (by omega)))]; rfl, rfl⟩
                · by_cases q8 : (sec x : Int) ≤ w.2.1
                  · refine AWP.seq ?_
                    refine AWP.draw [(0, true), (1, true), (2, true), (3, true), (4, true), (5, true), (6, true), (7, true), (8, true), (9, true), (10, true), (11, true), (12, true), (13, true), (14, true), (15, false), (16, true), (17, true), (18, true), (19, true), (20, true), (21, true), (22, true), (23, true)] [] mixed (by kernel_rfl) ?_
                    refine dP (hc := fun _ => Calm.move rfl) (h := ?_)
                    refine dP (hc := fun _ => Calm.un rfl (una_not _)) (h := ?_)
                    refine dP (hc := fun _ => Calm.move rfl) (h := ?_)
                    first | refine dS ?_ | refine dU ?_ | refine dG (hc := fun _ => Calm.fieldAddr ty_field_51_1 rfl) (h := ?_)
                    first | refine dS ?_ | refine dU ?_ | refine dL (hc := ld_ ty_plain_3 rfl) (h := ?_)
                    first | refine dS ?_ | refine dU ?_ | refine dG (hc := fun _ => Calm.bin rfl rfl b_lss) (h := ?_)
                    refine dP (hc := fun _ => (by first | exact Calm.pickT rfl rfl | exact Calm.pickF rfl rfl)) (h := ?_)
                    refine dP (hc := fun _ => Calm.move rfl) (h := ?_)
                    first | refine dS ?_ | refine dU ?_ | refine dG (hc := fun _ => Calm.fieldAddr ty_field_51_1 rfl) (h := ?_)
                    first | refine dS ?_ | refine dU ?_ | refine dL (hc := ld_ ty_plain_3 rfl) (h := ?_)
                    first | refine dS ?_ | refine dU ?_ | refine dG (hc := fun _ => Calm.fieldAddr ty_field_25_1 rfl) (h := ?_)
                    first | refine dS ?_ | refine dU ?_ | refine dL (hc := ld_ ty_plain_22 rfl) (h := ?_)
                    first | refine dS ?_ | refine dU ?_ | refine dG (hc := fun _ => Calm.move rfl) (h := ?_)
                    first | refine dS ?_ | refine dU ?_ | refine dG (hc := fun _ => Calm.indexS Try.underlying22 ty_size_54 rfl rfl (by omega) (by omega)) (h := ?_)
                    first | refine dS ?_ | refine dU ?_ | refine dL (hc := ldA_ (cs := [_, _]) ty_agg_54 ty_size_54 rfl) (h := ?_)
                    refine draw_only rfl ?_
                    refine ARun.callG 7 false 56 rfl (lit_lt rfl) rfl (lit_lt rfl) go_60 rfl (disk_sectors x _ (by omega)) ?_
                    rintro _ S1 ⟨rfl, h1⟩
                    rw [h1]; clear h1 S1
                    refine arun_nil ⟨fun _ => less_, ?_⟩
                    first | refine dS ?_ | refine dU ?_ | refine dG (hc := fun _ => Calm.bin rfl rfl b_geq) (h := ?_)
                    refine dP (hc := fun _ => (by first | exact Calm.pickT rfl rfl | exact Calm.pickF rfl rfl)) (h := ?_)
                    refine dP (hc := fun _ => Calm.move rfl) (h := ?_)
                    first | refine dS ?_ | refine dU ?_ | refine dG (hc := fun _ => Calm.fieldAddr ty_field_51_2 rfl) (h := ?_)
                    first | refine dS ?_ | refine dU ?_ | refine dL (hc := ld_ ty_plain_9 rfl) (h := ?_)
                    first | refine dS ?_ | refine dU ?_ | refine dL (hc := Calm.lenStr (strT_spec ty_str_9) rfl) (h := ?_)
                    first | refine dS ?_ | refine dU ?_ | refine dG (hc := fun _ => Calm.bin rfl rfl b_neq) (h := ?_)
                    refine dP (hc := fun _ => (by first | exact Calm.pickT rfl rfl | exact Calm.pickF rfl rfl)) (h := ?_)
                    refine draw_nil ?_
                    refine athen_n ?_
                    refine AWP.sub [(1, _), (35, _), (36, _), (37, _), (38, _), (4, _), (5, _), (6, _), (72, _)] ⟨rfl, rfl, rfl, rfl, rfl, rfl, rfl, rfl, rfl, trivial⟩ ?_
                    refine AWP.condT rfl (by first | rfl | (simp; done) | (simp; omega)) ?_
                    refine AWP.seq ?_
                    refine AWP.region ?_
                    refine rC (Calm.assign rfl) ?_
                    refine arun_nil ?_
                    refine athen_n ?_
                    refine AWP.ret ?_
                    refine ain_ret ?_
                    refine athen_ret ?_
                    refine athen_ret ?_
                    refine ain_ret ?_
                    refine athen_ret ?_
                    refine ⟨_, S, ⟨_, _, rfl, rfl, rfl⟩, hT1.trans less_, ?_⟩
                    exact ⟨by rw [chkD_no (hwn (fun h => absurd (hwp.1 h).2.1 (by omega)))]; rfl, rfl⟩
                  · by_cases q9 : w.2.2.size = 64
                    · refine AWP.seq ?_
                      refine AWP.draw [(0, true), (1, true), (2, true), (3, true), (4, true), (5, true), (6, true), (7, true), (8, true), (9, true), (10, true), (11, true), (12, true), (13, true), (14, true), (15, false), (16, true), (17, true), (18, true), (19, true), (20, true), (21, true), (22, true), (23, true)] [] mixed (by kernel_rfl) ?_
                      refine dP (hc := fun _ => Calm.move rfl) (h := ?_)
                      refine dP (hc := fun _ => Calm.un rfl (una_not _)) (h := ?_)
                      refine dP (hc := fun _ => Calm.move rfl) (h := ?_)
                      first | refine dS ?_ | refine dU ?_ | refine dG (hc := fun _ => Calm.fieldAddr ty_field_51_1 rfl) (h := ?_)
                      first | refine dS ?_ | refine dU ?_ | refine dL (hc := ld_ ty_plain_3 rfl) (h := ?_)
                      first | refine dS ?_ | refine dU ?_ | refine dG (hc := fun _ => Calm.bin rfl rfl b_lss) (h := ?_)
                      refine dP (hc := fun _ => (by first | exact Calm.pickT rfl rfl | exact Calm.pickF rfl rfl)) (h := ?_)
                      refine dP (hc := fun _ => Calm.move rfl) (h := ?_)
                      first | refine dS ?_ | refine dU ?_ | refine dG (hc := fun _ => Calm.fieldAddr ty_field_51_1 rfl) (h := ?_)
                      first | refine dS ?_ | refine dU ?_ | refine dL (hc := ld_ ty_plain_3 rfl) (h := ?_)
                      first | refine dS ?_ | refine dU ?_ | refine dG (hc := fun _ => Calm.fieldAddr ty_field_25_1 rfl) (h := ?_)
                      first | refine dS ?_ | refine dU ?_ | refine dL (hc := ld_ ty_plain_22 rfl) (h := ?_)
                      first | refine dS ?_ | refine dU ?_ | refine dG (hc := fun _ => Calm.move rfl) (h := ?_)
                      first | refine dS ?_ | refine dU ?_ | refine dG (hc := fun _ => Calm.indexS Try.underlying22 ty_size_54 rfl rfl (by omega) (by omega)) (h := ?_)
                      first | refine dS ?_ | refine dU ?_ | refine dL (hc := ldA_ (cs := [_, _]) ty_agg_54 ty_size_54 rfl) (h := ?_)
                      refine draw_only rfl ?_
                      refine ARun.callG 7 false 56 rfl (lit_lt rfl) rfl (lit_lt rfl) go_60 rfl (disk_sectors x _ (by omega)) ?_
                      rintro _ S1 ⟨rfl, h1⟩
                      rw [h1]; clear h1 S1
                      refine arun_nil ⟨fun _ => less_, ?_⟩
                      first | refine dS ?_ | refine dU ?_ | refine dG (hc := fun _ => Calm.bin rfl rfl b_geq) (h := ?_)
                      refine dP (hc := fun _ => (by first | exact Calm.pickT rfl rfl | exact Calm.pickF rfl rfl)) (h := ?_)
                      refine dP (hc := fun _ => Calm.move rfl) (h := ?_)
                      first | refine dS ?_ | refine dU ?_ | refine dG (hc := fun _ => Calm.fieldAddr ty_field_51_2 rfl) (h := ?_)
                      first | refine dS ?_ | refine dU ?_ | refine dL (hc := ld_ ty_plain_9 rfl) (h := ?_)
                      first | refine dS ?_ | refine dU ?_ | refine dL (hc := Calm.lenStr (strT_spec ty_str_9) rfl) (h := ?_)
                      first | refine dS ?_ | refine dU ?_ | refine dG (hc := fun _ => Calm.bin rfl rfl b_neq) (h := ?_)
                      refine dP (hc := fun _ => (by first | exact Calm.pickT rfl rfl | exact Calm.pickF rfl rfl)) (h := ?_)
                      refine draw_nil ?_
                      refine athen_n ?_
                      refine AWP.sub [(1, _), (35, _), (36, _), (37, _), (38, _), (4, _), (5, _), (6, _), (72, _)] ⟨rfl, rfl, rfl, rfl, rfl, rfl, rfl, rfl, rfl, trivial⟩ ?_
                      refine AWP.condF rfl (by first | rfl | (simp; done) | (simp; omega)) ?_
                      refine AWP.skip ?_
                      refine ain_n ?_
                      refine athen_n ?_
                      refine AWP.region ?_
                      refine rC (Calm.bin rfl rfl b_add_i64) ?_
                      refine rC (Calm.move rfl) ?_
                      refine arun_nil ?_
                      refine athen_n ?_
                      refine ⟨i + 1, ?_, ?_, ?_, ?_⟩
                      all_goals (try dsimp only)
                      · exact ⟨rfl, rfl, rfl, rfl, trivial⟩
                      · exact less_
                      · exact ⟨hc, hall' (hwp.2 ⟨by omega, by omega, q9⟩)⟩
                      · omega
                    · refine AWP.seq ?_
                      refine AWP.draw [(0, true), (1, true), (2, true), (3, true), (4, true), (5, true), (6, true), (7, true), (8, true), (9, true), (10, true), (11, true), (12, true), (13, true), (14, true), (15, false), (16, true), (17, true), (18, true), (19, true), (20, true), (21, true), (22, true), (23, true)] [] mixed (by kernel_rfl) ?_
                      refine dP (hc := fun _ => Calm.move rfl) (h := ?_)
                      refine dP (hc := fun _ => Calm.un rfl (una_not _)) (h := ?_)
                      refine dP (hc := fun _ => Calm.move rfl) (h := ?_)
                      first | refine dS ?_ | refine dU ?_ | refine dG (hc := fun _ => Calm.fieldAddr ty_field_51_1 rfl) (h := ?_)
                      first | refine dS ?_ | refine dU ?_ | refine dL (hc := ld_ ty_plain_3 rfl) (h := ?_)
                      first | refine dS ?_ | refine dU ?_ | refine dG (hc := fun _ => Calm.bin rfl rfl b_lss) (h := ?_)
                      refine dP (hc := fun _ => (by first | exact Calm.pickT rfl rfl | exact Calm.pickF rfl rfl)) (h := ?_)
                      refine dP (hc := fun _ => Calm.move rfl) (h := ?_)
                      first | refine dS ?_ | refine dU ?_ | refine dG (hc := fun _ => Calm.fieldAddr ty_field_51_1 rfl) (h := ?_)
                      first | refine dS ?_ | refine dU ?_ | refine dL (hc := ld_ ty_plain_3 rfl) (h := ?_)
                      first | refine dS ?_ | refine dU ?_ | refine dG (hc := fun _ => Calm.fieldAddr ty_field_25_1 rfl) (h := ?_)
                      first | refine dS ?_ | refine dU ?_ | refine dL (hc := ld_ ty_plain_22 rfl) (h := ?_)
                      first | refine dS ?_ | refine dU ?_ | refine dG (hc := fun _ => Calm.move rfl) (h := ?_)
                      first | refine dS ?_ | refine dU ?_ | refine dG (hc := fun _ => Calm.indexS Try.underlying22 ty_size_54 rfl rfl (by omega) (by omega)) (h := ?_)
                      first | refine dS ?_ | refine dU ?_ | refine dL (hc := ldA_ (cs := [_, _]) ty_agg_54 ty_size_54 rfl) (h := ?_)
                      refine draw_only rfl ?_
                      refine ARun.callG 7 false 56 rfl (lit_lt rfl) rfl (lit_lt rfl) go_60 rfl (disk_sectors x _ (by omega)) ?_
                      rintro _ S1 ⟨rfl, h1⟩
                      rw [h1]; clear h1 S1
                      refine arun_nil ⟨fun _ => less_, ?_⟩
                      first | refine dS ?_ | refine dU ?_ | refine dG (hc := fun _ => Calm.bin rfl rfl b_geq) (h := ?_)
                      refine dP (hc := fun _ => (by first | exact Calm.pickT rfl rfl | exact Calm.pickF rfl rfl)) (h := ?_)
                      refine dP (hc := fun _ => Calm.move rfl) (h := ?_)
                      first | refine dS ?_ | refine dU ?_ | refine dG (hc := fun _ => Calm.fieldAddr ty_field_51_2 rfl) (h := ?_)
                      first | refine dS ?_ | refine dU ?_ | refine dL (hc := ld_ ty_plain_9 rfl) (h := ?_)
                      first | refine dS ?_ | refine dU ?_ | refine dL (hc := Calm.lenStr (strT_spec ty_str_9) rfl) (h := ?_)
                      first | refine dS ?_ | refine dU ?_ | refine dG (hc := fun _ => Calm.bin rfl rfl b_neq) (h := ?_)
                      refine dP (hc := fun _ => (by first | exact Calm.pickT rfl rfl | exact Calm.pickF rfl rfl)) (h := ?_)
                      refine draw_nil ?_
                      refine athen_n ?_
                      refine AWP.sub [(1, _), (35, _), (36, _), (37, _), (38, _), (4, _), (5, _), (6, _), (72, _)] ⟨rfl, rfl, rfl, rfl, rfl, rfl, rfl, rfl, rfl, trivial⟩ ?_
                      refine AWP.condT rfl (by first | rfl | (simp; done) | (simp; omega)) ?_
                      refine AWP.seq ?_
                      refine AWP.region ?_
                      refine rC (Calm.assign rfl) ?_
                      refine arun_nil ?_
                      refine athen_n ?_
                      refine AWP.ret ?_
                      refine ain_ret ?_
                      refine athen_ret ?_
                      refine athen_ret ?_
                      refine ain_ret ?_
                      refine athen_ret ?_
                      refine ⟨_, S, ⟨_, _, rfl, rfl, rfl⟩, hT1.trans less_, ?_⟩
                      exact ⟨by rw [chkD_no (hwn (fun h => q9 (hwp.1 h).2.2))]; rfl, rfl⟩
              · rw [Bool.eq_false_iff.2 q6]
                refine AWP.seq ?_
                refine AWP.draw [(0, true), (1, true), (2, true), (3, true), (4, true), (5, true), (6, true), (7, true), (8, true), (9, true), (10, true), (11, true), (12, true), (13, true), (14, true), (15, false), (16, true), (17, true), (18, true), (19, true), (20, true), (21, true), (22, true), (23, true)] [] mixed (by kernel_rfl) ?_
                refine dP (hc := fun _ => Calm.move rfl) (h := ?_)
                refine dP (hc := fun _ => Calm.un rfl (una_not _)) (h := ?_)
                refine dP (hc := fun _ => Calm.move rfl) (h := ?_)
                first | refine dS ?_ | refine dU ?_ | refine dG (hc := fun _ => Calm.fieldAddr ty_field_51_1 rfl) (h := ?_)
                first | refine dS ?_ | refine dU ?_ | refine dL (hc := ld_ ty_plain_3 rfl) (h := ?_)
                first | refine dS ?_ | refine dU ?_ | refine dG (hc := fun _ => Calm.bin rfl rfl b_lss) (h := ?_)
                refine dP (hc := fun _ => (by first | exact Calm.pickT rfl rfl | exact Calm.pickF rfl rfl)) (h := ?_)
                refine dP (hc := fun _ => Calm.move rfl) (h := ?_)
                first | refine dS ?_ | refine dU ?_ | refine dG (hc := fun _ => Calm.fieldAddr ty_field_51_1 rfl) (h := ?_)
                first | refine dS ?_ | refine dU ?_ | refine dL (hc := ld_ ty_plain_3 rfl) (h := ?_)
                first | refine dS ?_ | refine dU ?_ | refine dG (hc := fun _ => Calm.fieldAddr ty_field_25_1 rfl) (h := ?_)
                first | refine dS ?_ | refine dU ?_ | refine dL (hc := ld_ ty_plain_22 rfl) (h := ?_)
                first | refine dS ?_ | refine dU ?_ | refine dG (hc := fun _ => Calm.move rfl) (h := ?_)
                first | refine dS ?_ | refine dU ?_ | refine dG (hc := fun _ => Calm.indexS Try.underlying22 ty_size_54 rfl rfl (by omega) (by omega)) (h := ?_)
                first | refine dS ?_ | refine dU ?_ | refine dL (hc := ldA_ (cs := [_, _]) ty_agg_54 ty_size_54 rfl) (h := ?_)
                refine draw_only rfl ?_
                first | refine rS 56 ?_ | refine rU 56 ?_
                refine arun_nil ⟨fun _ => less_, ?_⟩
                first | refine dS ?_ | refine dU ?_ | refine dG (hc := fun _ => Calm.bin rfl rfl b_geq) (h := ?_)
                refine dP (hc := fun _ => (by first | exact Calm.pickT rfl rfl | exact Calm.pickF rfl rfl)) (h := ?_)
                refine dP (hc := fun _ => Calm.move rfl) (h := ?_)
                first | refine dS ?_ | refine dU ?_ | refine dG (hc := fun _ => Calm.fieldAddr ty_field_51_2 rfl) (h := ?_)
                first | refine dS ?_ | refine dU ?_ | refine dL (hc := ld_ ty_plain_9 rfl) (h := ?_)
                first | refine dS ?_ | refine dU ?_ | refine dL (hc := Calm.lenStr (strT_spec ty_str_9) rfl) (h := ?_)
                first | refine dS ?_ | refine dU ?_ | refine dG (hc := fun _ => Calm.bin rfl rfl b_neq) (h := ?_)
                refine dP (hc := fun _ => (by first | exact Calm.pickT rfl rfl | exact Calm.pickF rfl rfl)) (h := ?_)
                refine draw_nil ?_
                refine athen_n ?_
                refine AWP.sub [(1, _), (35, _), (36, _), (37, _), (38, _), (4, _), (5, _), (6, _), (72, _)] ⟨rfl, rfl, rfl, rfl, rfl, rfl, rfl, rfl, rfl, trivial⟩ ?_
                refine AWP.condT rfl (by first | rfl | (simp; done) | (simp; omega)) ?_
                refine AWP.seq ?_
                refine AWP.region ?_
                refine rC (Calm.assign rfl) ?_
                refine arun_nil ?_
                refine athen_n ?_
                refine AWP.ret ?_
                refine ain_ret ?_
                refine athen_ret ?_
                refine athen_ret ?_
                refine ain_ret ?_
                refine athen_ret ?_
                refine ⟨_, S, ⟨_, _, rfl, rfl, rfl⟩, hT1.trans less_, ?_⟩
                exact ⟨by rw [chkD_no (hwn (fun h => q6 (hwh h)))]; rfl, rfl⟩
            · have hc : i = waits.length := by have := of_decide_eq_false hc; omega
              refine AWP.exit ?_
              refine athen_exit ?_
              refine athen_exit ?_
              refine ain_same ?_
              refine athen_n ?_
              refine AWP.seq ?_
              refine AWP.region ?_
              refine rC (Calm.assign rfl) ?_
              refine arun_nil ?_
              refine athen_n ?_
              refine AWP.ret ?_
              refine ⟨_, S, ⟨_, _, rfl, rfl, rfl⟩, hT1.trans less_, ?_⟩
              exact ⟨by rw [chkD_yes ⟨by simp only; omega, by simp only; omega, by simp only; omega, by simp only; omega, q5, fun w hw => by obtain ⟨j, hj, rfl⟩ := List.getElem_of_mem hw; exact hall j hj (by have h' : j < waits.length := hj; omega)⟩]; rfl, rfl⟩
          · obtain rfl : t = false := Bool.eq_false_iff.2 (fun e => q5 (ht.1 e))
            refine AWP.condT rfl (by first | rfl | (simp; done) | (simp; omega)) ?_
            refine AWP.seq ?_
            refine AWP.region ?_
            refine rC (Calm.assign rfl) ?_
            refine arun_nil ?_
            refine athen_n ?_
            refine AWP.ret ?_
            refine athen_ret ?_
            refine ⟨_, S, ⟨_, _, rfl, rfl, rfl⟩, hT1.trans less_, ?_⟩
            exact ⟨by rw [chkD_no (fun h => q5 h.ex)]; rfl, rfl⟩
end Go.Proofs.Ytkeiphkccnfhoaa
