/-
  Disk, the document's side: Check.
-/
import Derived.Test.YtkeiphkccnfhoaaDR2
namespace Go.Proofs.Ytkeiphkccnfhoaa
open Go.RowKit
open Mv Disk
set_option linter.unusedVariables false
set_option linter.unusedSimpArgs false
set_option maxRecDepth 4000
theorem sl_take {α : Type} {n : Nat} {f : α → List Value} {S : Mem} {a : Option Addr} {cap : Nat} {l : List α} (h : Sl n f S (.slice a l.length cap) l) {k : Nat} (hk : k ≤ l.length) : Sl n f S (.slice a k cap) (l.take k) := by
  obtain ⟨a', cap', e, h1, h2, h3⟩ := h
  cases e
  have hl : (l.take k).length = k := by simp; omega
  refine ⟨a, cap, by rw [hl], by omega, by omega, ?_⟩
  rcases h3 with rfl | ⟨b, off, e, hh⟩
  · exact .inl (by simp)
  · exact .inr ⟨b, off, e, fun j hj => by
      rw [List.getElem_take]
      exact hh j (by omega)⟩
set_option maxHeartbeats 4000000 in
theorem rd_Check (v : Value) (d : D) (S : Mem) (hd : DkR S v d) (hz : Dz d) :
    ACall Try.prog 26 #[v] S fun r S' => r = .int .i64 (chkD d) ∧ S' = S := by
  obtain ⟨pe, ce, pw, cw, rfl, hE, hW⟩ := hd
  obtain ⟨size, ext, waits, fuse, down⟩ := d
  have hez := fun x hx => (hz.ez x hx).2
  have hs0 := hz.s0; have hs1 := hz.s1; have hf0 := hz.f0; have hf1 := hz.f1
  simp only at hE hW hez hs0 hs1 hf0 hf1 ⊢
  obtain ⟨_, _, ee1, ee2, ee3, hE3⟩ := id hE
  obtain ⟨_, _, ew1, ew2, ew3, hW3⟩ := id hW
  cases ee1; cases ew1
  refine ACall.enter (args := [.agg #[.int .i64 size, .slice pe ext.length ce, .slice pw waits.length cw, .int .i64 fuse, .bool down]]) (rs := [.tmp 2]) 122 [(0, .agg #[.int .i64 size, .slice pe ext.length ce, .slice pw waits.length cw, .int .i64 fuse, .bool down])] Try.func26 rfl rfl (Nat.le_of_ble_eq_true rfl) rfl ⟨rfl, trivial⟩ ?_
  refine AWP.seq ?_
  refine AWP.region ?_
  refine ARun.boxA (cs := [_, _, _, _, _]) (lit_lt rfl) rfl ?_
  intro b1 f1
  have g1 := f1
  repeat ((with_reducible replace g1 := fresh_set g1); obtain ⟨g1, _⟩ := g1)
  (try simp only [List.length_cons, List.length_nil, Nat.zero_add, Nat.reduceAdd])
  refine rC (Calm.assign rfl) ?_
  refine arun_nil ?_
  refine athen_n ?_
  refine named (S := S) (b := b1) g1.1 ?_
  intro T1 hT1 kb1
  replace hE := hE.less hT1
  replace hW := hW.less hT1
  by_cases q1 : size < 0
  · refine AWP.seq ?_
    refine AWP.seq ?_
    refine AWP.region ?_
    refine rC (Calm.fieldAddr ty_field_25_0 rfl) ?_
    refine rC (ld_ ty_plain_3 rfl) ?_
    refine rC (Calm.bin rfl rfl b_lss) ?_
    refine rC (Calm.move rfl) ?_
    first | refine rS 11 ?_ | refine rU 11 ?_ | refine rG 11 (Calm.fieldAddr ty_field_25_0 rfl) ?_
    first | refine rS 11 ?_ | refine rU 11 ?_ | refine rG 11 (ld_ ty_plain_3 rfl) ?_
    first | refine rS 11 ?_ | refine rU 11 ?_ | refine rG 11 (Calm.bin rfl rfl b_gtr) ?_
    refine rC ((by first | exact Calm.pickT rfl rfl | exact Calm.pickF rfl rfl)) ?_
    refine rC (Calm.move rfl) ?_
    first | refine rS 16 ?_ | refine rU 16 ?_ | refine rG 16 (Calm.fieldAddr ty_field_25_1 rfl) ?_
    first | refine rS 16 ?_ | refine rU 16 ?_ | refine rG 16 (ld_ ty_plain_22 rfl) ?_
    first | refine rS 16 ?_ | refine rU 16 ?_ | refine rG 16 (Calm.lenSl Try.underlying22 rfl) ?_
    first | refine rS 16 ?_ | refine rU 16 ?_ | refine rG 16 (Calm.bin rfl rfl b_gtr) ?_
    refine rC ((by first | exact Calm.pickT rfl rfl | exact Calm.pickF rfl rfl)) ?_
    refine rC (Calm.move rfl) ?_
    first | refine rS 22 ?_ | refine rU 22 ?_ | refine rG 22 (Calm.fieldAddr ty_field_25_2 rfl) ?_
    first | refine rS 22 ?_ | refine rU 22 ?_ | refine rG 22 (ld_ ty_plain_23 rfl) ?_
    first | refine rS 22 ?_ | refine rU 22 ?_ | refine rG 22 (Calm.lenSl Try.underlying23 rfl) ?_
    first | refine rS 22 ?_ | refine rU 22 ?_ | refine rG 22 (Calm.bin rfl rfl b_gtr) ?_
    refine rC ((by first | exact Calm.pickT rfl rfl | exact Calm.pickF rfl rfl)) ?_
    refine rC (Calm.move rfl) ?_
    first | refine rS 28 ?_ | refine rU 28 ?_ | refine rG 28 (Calm.fieldAddr ty_field_25_3 rfl) ?_
    first | refine rS 28 ?_ | refine rU 28 ?_ | refine rG 28 (ld_ ty_plain_3 rfl) ?_
    first | refine rS 28 ?_ | refine rU 28 ?_ | refine rG 28 (Calm.bin rfl rfl b_lss) ?_
    refine rC ((by first | exact Calm.pickT rfl rfl | exact Calm.pickF rfl rfl)) ?_
    refine arun_nil ?_
    refine athen_n ?_
    refine AWP.sub [(0, _), (1, _), (2, _), (32, _)] ⟨rfl, rfl, rfl, rfl, trivial⟩ ?_
    refine AWP.condT rfl (by first | rfl | (simp; done) | (simp; omega)) ?_
    refine AWP.seq ?_
    refine AWP.region ?_
    refine rC (Calm.assign rfl) ?_
    refine arun_nil ?_
    refine athen_n ?_
    refine AWP.ret ?_
    refine athen_ret ?_
    refine ⟨_, S, ⟨_, _, rfl, rfl, rfl⟩, hT1.trans less_, ?_⟩
    exact ⟨by rw [chkD_no (fun h => absurd h.s0 (by simp only; omega))]; rfl, rfl⟩
  · by_cases q2 : 16384 < size
    · refine AWP.seq ?_
      refine AWP.seq ?_
      refine AWP.region ?_
      refine rC (Calm.fieldAddr ty_field_25_0 rfl) ?_
      refine rC (ld_ ty_plain_3 rfl) ?_
      refine rC (Calm.bin rfl rfl b_lss) ?_
      refine rC (Calm.move rfl) ?_
      first | refine rS 11 ?_ | refine rU 11 ?_ | refine rG 11 (Calm.fieldAddr ty_field_25_0 rfl) ?_
      first | refine rS 11 ?_ | refine rU 11 ?_ | refine rG 11 (ld_ ty_plain_3 rfl) ?_
      first | refine rS 11 ?_ | refine rU 11 ?_ | refine rG 11 (Calm.bin rfl rfl b_gtr) ?_
      refine rC ((by first | exact Calm.pickT rfl rfl | exact Calm.pickF rfl rfl)) ?_
      refine rC (Calm.move rfl) ?_
      first | refine rS 16 ?_ | refine rU 16 ?_ | refine rG 16 (Calm.fieldAddr ty_field_25_1 rfl) ?_
      first | refine rS 16 ?_ | refine rU 16 ?_ | refine rG 16 (ld_ ty_plain_22 rfl) ?_
      first | refine rS 16 ?_ | refine rU 16 ?_ | refine rG 16 (Calm.lenSl Try.underlying22 rfl) ?_
      first | refine rS 16 ?_ | refine rU 16 ?_ | refine rG 16 (Calm.bin rfl rfl b_gtr) ?_
      refine rC ((by first | exact Calm.pickT rfl rfl | exact Calm.pickF rfl rfl)) ?_
      refine rC (Calm.move rfl) ?_
      first | refine rS 22 ?_ | refine rU 22 ?_ | refine rG 22 (Calm.fieldAddr ty_field_25_2 rfl) ?_
      first | refine rS 22 ?_ | refine rU 22 ?_ | refine rG 22 (ld_ ty_plain_23 rfl) ?_
      first | refine rS 22 ?_ | refine rU 22 ?_ | refine rG 22 (Calm.lenSl Try.underlying23 rfl) ?_
      first | refine rS 22 ?_ | refine rU 22 ?_ | refine rG 22 (Calm.bin rfl rfl b_gtr) ?_
      refine rC ((by first | exact Calm.pickT rfl rfl | exact Calm.pickF rfl rfl)) ?_
      refine rC (Calm.move rfl) ?_
      first | refine rS 28 ?_ | refine rU 28 ?_ | refine rG 28 (Calm.fieldAddr ty_field_25_3 rfl) ?_
      first | refine rS 28 ?_ | refine rU 28 ?_ | refine rG 28 (ld_ ty_plain_3 rfl) ?_
      first | refine rS 28 ?_ | refine rU 28 ?_ | refine rG 28 (Calm.bin rfl rfl b_lss) ?_
      refine rC ((by first | exact Calm.pickT rfl rfl | exact Calm.pickF rfl rfl)) ?_
      refine arun_nil ?_
      refine athen_n ?_
      refine AWP.sub [(0, _), (1, _), (2, _), (32, _)] ⟨rfl, rfl, rfl, rfl, trivial⟩ ?_
      refine AWP.condT rfl (by first | rfl | (simp; done) | (simp; omega)) ?_
      refine AWP.seq ?_
      refine AWP.region ?_
      refine rC (Calm.assign rfl) ?_
      refine arun_nil ?_
      refine athen_n ?_
      refine AWP.ret ?_
      refine athen_ret ?_
      refine ⟨_, S, ⟨_, _, rfl, rfl, rfl⟩, hT1.trans less_, ?_⟩
      exact ⟨by rw [chkD_no (fun h => absurd h.s1 (by simp only; omega))]; rfl, rfl⟩
    · by_cases q20 : 16384 < ext.length
      · refine AWP.seq ?_
        refine AWP.seq ?_
        refine AWP.region ?_
        refine rC (Calm.fieldAddr ty_field_25_0 rfl) ?_
        refine rC (ld_ ty_plain_3 rfl) ?_
        refine rC (Calm.bin rfl rfl b_lss) ?_
        refine rC (Calm.move rfl) ?_
        first | refine rS 11 ?_ | refine rU 11 ?_ | refine rG 11 (Calm.fieldAddr ty_field_25_0 rfl) ?_
        first | refine rS 11 ?_ | refine rU 11 ?_ | refine rG 11 (ld_ ty_plain_3 rfl) ?_
        first | refine rS 11 ?_ | refine rU 11 ?_ | refine rG 11 (Calm.bin rfl rfl b_gtr) ?_
        refine rC ((by first | exact Calm.pickT rfl rfl | exact Calm.pickF rfl rfl)) ?_
        refine rC (Calm.move rfl) ?_
        first | refine rS 16 ?_ | refine rU 16 ?_ | refine rG 16 (Calm.fieldAddr ty_field_25_1 rfl) ?_
        first | refine rS 16 ?_ | refine rU 16 ?_ | refine rG 16 (ld_ ty_plain_22 rfl) ?_
        first | refine rS 16 ?_ | refine rU 16 ?_ | refine rG 16 (Calm.lenSl Try.underlying22 rfl) ?_
        first | refine rS 16 ?_ | refine rU 16 ?_ | refine rG 16 (Calm.bin rfl rfl b_gtr) ?_
        refine rC ((by first | exact Calm.pickT rfl rfl | exact Calm.pickF rfl rfl)) ?_
        refine rC (Calm.move rfl) ?_
        first | refine rS 22 ?_ | refine rU 22 ?_ | refine rG 22 (Calm.fieldAddr ty_field_25_2 rfl) ?_
        first | refine rS 22 ?_ | refine rU 22 ?_ | refine rG 22 (ld_ ty_plain_23 rfl) ?_
        first | refine rS 22 ?_ | refine rU 22 ?_ | refine rG 22 (Calm.lenSl Try.underlying23 rfl) ?_
        first | refine rS 22 ?_ | refine rU 22 ?_ | refine rG 22 (Calm.bin rfl rfl b_gtr) ?_
        refine rC ((by first | exact Calm.pickT rfl rfl | exact Calm.pickF rfl rfl)) ?_
        refine rC (Calm.move rfl) ?_
        first | refine rS 28 ?_ | refine rU 28 ?_ | refine rG 28 (Calm.fieldAddr ty_field_25_3 rfl) ?_
        first | refine rS 28 ?_ | refine rU 28 ?_ | refine rG 28 (ld_ ty_plain_3 rfl) ?_
        first | refine rS 28 ?_ | refine rU 28 ?_ | refine rG 28 (Calm.bin rfl rfl b_lss) ?_
        refine rC ((by first | exact Calm.pickT rfl rfl | exact Calm.pickF rfl rfl)) ?_
        refine arun_nil ?_
        refine athen_n ?_
        refine AWP.sub [(0, _), (1, _), (2, _), (32, _)] ⟨rfl, rfl, rfl, rfl, trivial⟩ ?_
        refine AWP.condT rfl (by first | rfl | (simp; done) | (simp; omega)) ?_
        refine AWP.seq ?_
        refine AWP.region ?_
        refine rC (Calm.assign rfl) ?_
        refine arun_nil ?_
        refine athen_n ?_
        refine AWP.ret ?_
        refine athen_ret ?_
        refine ⟨_, S, ⟨_, _, rfl, rfl, rfl⟩, hT1.trans less_, ?_⟩
        exact ⟨by rw [chkD_no (fun h => by have h1 := used_ge h.ex.ok; have h2 := h.ex.us; simp only at h1 h2; omega)]; rfl, rfl⟩
      · by_cases q3 : 16384 < waits.length
        · refine AWP.seq ?_
          refine AWP.seq ?_
          refine AWP.region ?_
          refine rC (Calm.fieldAddr ty_field_25_0 rfl) ?_
          refine rC (ld_ ty_plain_3 rfl) ?_
          refine rC (Calm.bin rfl rfl b_lss) ?_
          refine rC (Calm.move rfl) ?_
          first | refine rS 11 ?_ | refine rU 11 ?_ | refine rG 11 (Calm.fieldAddr ty_field_25_0 rfl) ?_
          first | refine rS 11 ?_ | refine rU 11 ?_ | refine rG 11 (ld_ ty_plain_3 rfl) ?_
          first | refine rS 11 ?_ | refine rU 11 ?_ | refine rG 11 (Calm.bin rfl rfl b_gtr) ?_
          refine rC ((by first | exact Calm.pickT rfl rfl | exact Calm.pickF rfl rfl)) ?_
          refine rC (Calm.move rfl) ?_
          first | refine rS 16 ?_ | refine rU 16 ?_ | refine rG 16 (Calm.fieldAddr ty_field_25_1 rfl) ?_
          first | refine rS 16 ?_ | refine rU 16 ?_ | refine rG 16 (ld_ ty_plain_22 rfl) ?_
          first | refine rS 16 ?_ | refine rU 16 ?_ | refine rG 16 (Calm.lenSl Try.underlying22 rfl) ?_
          first | refine rS 16 ?_ | refine rU 16 ?_ | refine rG 16 (Calm.bin rfl rfl b_gtr) ?_
          refine rC ((by first | exact Calm.pickT rfl rfl | exact Calm.pickF rfl rfl)) ?_
          refine rC (Calm.move rfl) ?_
          first | refine rS 22 ?_ | refine rU 22 ?_ | refine rG 22 (Calm.fieldAddr ty_field_25_2 rfl) ?_
          first | refine rS 22 ?_ | refine rU 22 ?_ | refine rG 22 (ld_ ty_plain_23 rfl) ?_
          first | refine rS 22 ?_ | refine rU 22 ?_ | refine rG 22 (Calm.lenSl Try.underlying23 rfl) ?_
          first | refine rS 22 ?_ | refine rU 22 ?_ | refine rG 22 (Calm.bin rfl rfl b_gtr) ?_
          refine rC ((by first | exact Calm.pickT rfl rfl | exact Calm.pickF rfl rfl)) ?_
          refine rC (Calm.move rfl) ?_
          first | refine rS 28 ?_ | refine rU 28 ?_ | refine rG 28 (Calm.fieldAddr ty_field_25_3 rfl) ?_
          first | refine rS 28 ?_ | refine rU 28 ?_ | refine rG 28 (ld_ ty_plain_3 rfl) ?_
          first | refine rS 28 ?_ | refine rU 28 ?_ | refine rG 28 (Calm.bin rfl rfl b_lss) ?_
          refine rC ((by first | exact Calm.pickT rfl rfl | exact Calm.pickF rfl rfl)) ?_
          refine arun_nil ?_
          refine athen_n ?_
          refine AWP.sub [(0, _), (1, _), (2, _), (32, _)] ⟨rfl, rfl, rfl, rfl, trivial⟩ ?_
          refine AWP.condT rfl (by first | rfl | (simp; done) | (simp; omega)) ?_
          refine AWP.seq ?_
          refine AWP.region ?_
          refine rC (Calm.assign rfl) ?_
          refine arun_nil ?_
          refine athen_n ?_
          refine AWP.ret ?_
          refine athen_ret ?_
          refine ⟨_, S, ⟨_, _, rfl, rfl, rfl⟩, hT1.trans less_, ?_⟩
          exact ⟨by rw [chkD_no (fun h => absurd h.wl (by simp only; omega))]; rfl, rfl⟩
        · by_cases q4 : fuse < -1
          · refine AWP.seq ?_
            refine AWP.seq ?_
            refine AWP.region ?_
            refine rC (Calm.fieldAddr ty_field_25_0 rfl) ?_
            refine rC (ld_ ty_plain_3 rfl) ?_
            refine rC (Calm.bin rfl rfl b_lss) ?_
            refine rC (Calm.move rfl) ?_
            first | refine rS 11 ?_ | refine rU 11 ?_ | refine rG 11 (Calm.fieldAddr ty_field_25_0 rfl) ?_
            first | refine rS 11 ?_ | refine rU 11 ?_ | refine rG 11 (ld_ ty_plain_3 rfl) ?_
            first | refine rS 11 ?_ | refine rU 11 ?_ | refine rG 11 (Calm.bin rfl rfl b_gtr) ?_
            refine rC ((by first | exact Calm.pickT rfl rfl | exact Calm.pickF rfl rfl)) ?_
            refine rC (Calm.move rfl) ?_
            first | refine rS 16 ?_ | refine rU 16 ?_ | refine rG 16 (Calm.fieldAddr ty_field_25_1 rfl) ?_
            first | refine rS 16 ?_ | refine rU 16 ?_ | refine rG 16 (ld_ ty_plain_22 rfl) ?_
            first | refine rS 16 ?_ | refine rU 16 ?_ | refine rG 16 (Calm.lenSl Try.underlying22 rfl) ?_
            first | refine rS 16 ?_ | refine rU 16 ?_ | refine rG 16 (Calm.bin rfl rfl b_gtr) ?_
            refine rC ((by first | exact Calm.pickT rfl rfl | exact Calm.pickF rfl rfl)) ?_
            refine rC (Calm.move rfl) ?_
            first | refine rS 22 ?_ | refine rU 22 ?_ | refine rG 22 (Calm.fieldAddr ty_field_25_2 rfl) ?_
            first | refine rS 22 ?_ | refine rU 22 ?_ | refine rG 22 (ld_ ty_plain_23 rfl) ?_
            first | refine rS 22 ?_ | refine rU 22 ?_ | refine rG 22 (Calm.lenSl Try.underlying23 rfl) ?_
            first | refine rS 22 ?_ | refine rU 22 ?_ | refine rG 22 (Calm.bin rfl rfl b_gtr) ?_
            refine rC ((by first | exact Calm.pickT rfl rfl | exact Calm.pickF rfl rfl)) ?_
            refine rC (Calm.move rfl) ?_
            first | refine rS 28 ?_ | refine rU 28 ?_ | refine rG 28 (Calm.fieldAddr ty_field_25_3 rfl) ?_
            first | refine rS 28 ?_ | refine rU 28 ?_ | refine rG 28 (ld_ ty_plain_3 rfl) ?_
            first | refine rS 28 ?_ | refine rU 28 ?_ | refine rG 28 (Calm.bin rfl rfl b_lss) ?_
            refine rC ((by first | exact Calm.pickT rfl rfl | exact Calm.pickF rfl rfl)) ?_
            refine arun_nil ?_
            refine athen_n ?_
            refine AWP.sub [(0, _), (1, _), (2, _), (32, _)] ⟨rfl, rfl, rfl, rfl, trivial⟩ ?_
            refine AWP.condT rfl (by first | rfl | (simp; done) | (simp; omega)) ?_
            refine AWP.seq ?_
            refine AWP.region ?_
            refine rC (Calm.assign rfl) ?_
            refine arun_nil ?_
            refine athen_n ?_
            refine AWP.ret ?_
            refine athen_ret ?_
            refine ⟨_, S, ⟨_, _, rfl, rfl, rfl⟩, hT1.trans less_, ?_⟩
            exact ⟨by rw [chkD_no (fun h => absurd h.fu (by simp only; omega))]; rfl, rfl⟩
          · refine AWP.seq ?_
            refine AWP.seq ?_
            refine AWP.region ?_
            refine rC (Calm.fieldAddr ty_field_25_0 rfl) ?_
            refine rC (ld_ ty_plain_3 rfl) ?_
            refine rC (Calm.bin rfl rfl b_lss) ?_
            refine rC (Calm.move rfl) ?_
            first | refine rS 11 ?_ | refine rU 11 ?_ | refine rG 11 (Calm.fieldAddr ty_field_25_0 rfl) ?_
            first | refine rS 11 ?_ | refine rU 11 ?_ | refine rG 11 (ld_ ty_plain_3 rfl) ?_
            first | refine rS 11 ?_ | refine rU 11 ?_ | refine rG 11 (Calm.bin rfl rfl b_gtr) ?_
            refine rC ((by first | exact Calm.pickT rfl rfl | exact Calm.pickF rfl rfl)) ?_
            refine rC (Calm.move rfl) ?_
            first | refine rS 16 ?_ | refine rU 16 ?_ | refine rG 16 (Calm.fieldAddr ty_field_25_1 rfl) ?_
            first | refine rS 16 ?_ | refine rU 16 ?_ | refine rG 16 (ld_ ty_plain_22 rfl) ?_
            first | refine rS 16 ?_ | refine rU 16 ?_ | refine rG 16 (Calm.lenSl Try.underlying22 rfl) ?_
            first | refine rS 16 ?_ | refine rU 16 ?_ | refine rG 16 (Calm.bin rfl rfl b_gtr) ?_
            refine rC ((by first | exact Calm.pickT rfl rfl | exact Calm.pickF rfl rfl)) ?_
            refine rC (Calm.move rfl) ?_
            first | refine rS 22 ?_ | refine rU 22 ?_ | refine rG 22 (Calm.fieldAddr ty_field_25_2 rfl) ?_
            first | refine rS 22 ?_ | refine rU 22 ?_ | refine rG 22 (ld_ ty_plain_23 rfl) ?_
            first | refine rS 22 ?_ | refine rU 22 ?_ | refine rG 22 (Calm.lenSl Try.underlying23 rfl) ?_
            first | refine rS 22 ?_ | refine rU 22 ?_ | refine rG 22 (Calm.bin rfl rfl b_gtr) ?_
            refine rC ((by first | exact Calm.pickT rfl rfl | exact Calm.pickF rfl rfl)) ?_
            refine rC (Calm.move rfl) ?_
            first | refine rS 28 ?_ | refine rU 28 ?_ | refine rG 28 (Calm.fieldAddr ty_field_25_3 rfl) ?_
            first | refine rS 28 ?_ | refine rU 28 ?_ | refine rG 28 (ld_ ty_plain_3 rfl) ?_
            first | refine rS 28 ?_ | refine rU 28 ?_ | refine rG 28 (Calm.bin rfl rfl b_lss) ?_
            refine rC ((by first | exact Calm.pickT rfl rfl | exact Calm.pickF rfl rfl)) ?_
            refine arun_nil ?_
            refine athen_n ?_
            refine AWP.sub [(0, _), (1, _), (2, _), (32, _)] ⟨rfl, rfl, rfl, rfl, trivial⟩ ?_
            refine AWP.condF rfl (by first | rfl | (simp; done) | (simp; omega)) ?_
            refine AWP.skip ?_
            refine athen_n ?_
            refine AWP.seq ?_
            refine AWP.seq ?_
            refine AWP.region ?_
            refine rC (Calm.fieldAddr ty_field_25_1 rfl) ?_
            refine rC (ld_ ty_plain_22 rfl) ?_
            refine rC (Calm.lenSl Try.underlying22 rfl) ?_
            refine rC (Calm.move rfl) ?_
            refine arun_nil ?_
            refine athen_n ?_
            refine AWP.sub [(0, _), (1, _), (2, _), (32, _), (34, _), (35, _), (36, _)] ⟨rfl, rfl, rfl, rfl, rfl, rfl, rfl, trivial⟩ ?_
            refine AWP.block ?_
            refine AWP.loop (X := Nat) (fun x => [(1, .pointer (some ⟨b1, 0, none⟩)), (34, .slice pe ext.length ce), (35, .int .i64 ext.length), (36, .int .i64 x)]) (fun x => T1) (fun x => x ≤ ext.length ∧ Upto ext size x) (fun x => ext.length - x) (0) ⟨rfl, rfl, rfl, rfl, trivial⟩ (Mem.Less.refl _) (⟨Nat.zero_le _, upto_zero ext (by omega)⟩) ?_
            rintro i ⟨hi, hup⟩
            (try dsimp only at *)
            refine AWP.seq ?_
            refine AWP.region ?_
            refine rC (Calm.bin rfl rfl b_lss) ?_
            refine arun_nil ?_
            refine athen_n ?_
            refine AWP.seq ?_
            refine AWP.condB rfl (fun hc => ?_) (fun hc => ?_)
            · have hc : i < ext.length := by have := of_decide_eq_true hc; omega
              obtain ⟨b, off, rfl, hk⟩ := hE3.resolve_left (fun e => by subst e; simp at hc)
              have hki := (hk i hc).less hT1
              have hzi := hez _ (List.getElem_mem hc)
              have hus := hup.us
              have hra : Right ⟨size, ext, waits, fuse, down⟩ → eok ext[i] ∧ lt (lastN ext i) ext[i].1 = true ∧ (used (ext.take i) : Int) + sec ext[i] ≤ size := fun h => right_at h.ex hc
              have hut : used (ext.take (i + 1)) = used (ext.take i) + sec ext[i] := by rw [take_get hc, used_append]; simp [used]
              have hln := lastN_succ hc
              have hsu := upto_succ hup hc
              have hslt := sl_take hE (k := i + 1) hc
              unfold extF at hki
              by_cases q5 : nm ext[i].1
              · rcases Nat.eq_zero_or_pos i with q0 | q0
                · have q6 : lt (lastN ext i) ext[i].1 = true := by subst q0; exact lt_empty q5.1
                  by_cases q7 : ext[i].2.size = 0
                  · refine AWP.skip ?_
                    refine athen_n ?_
                    refine AWP.seq ?_
                    refine AWP.block ?_
                    refine AWP.seq ?_
                    refine AWP.region ?_
                    refine rC (Calm.move rfl) ?_
                    refine rC (Calm.indexS Try.underlying22 ty_size_54 rfl rfl (by omega) (by omega)) ?_
                    refine rC (ldA_ (cs := [_, _]) ty_agg_54 ty_size_54 rfl) ?_
                    refine ARun.alloc (lit_lt rfl) ty_zero_54 ?_
                    intro b4 f4
                    have g4 := f4
                    repeat ((with_reducible replace g4 := fresh_set g4); obtain ⟨g4, _⟩ := g4)
                    have := g4.ne kb1; have := g4.ne' kb1
                    (try simp only [List.length_cons, List.length_nil, Nat.zero_add, Nat.reduceAdd])
                    refine rC (Calm.assign rfl) ?_
                    first | refine ARun.storeAll rfl rfl ty_size_54 own_ rfl rfl ?_ | refine ARun.store rfl rfl ty_size_54 own_ lens_ rfl ?_
                    (try simp only [Mem.set_set, List.set_cons_zero, List.set_cons_succ, Nat.zero_add, Nat.reduceAdd])
                    refine arun_nil ?_
                    refine athen_n ?_
                    refine AWP.sub [(1, _), (34, _), (35, _), (36, _), (37, _), (4, _), (3, _)] ⟨rfl, rfl, rfl, rfl, rfl, rfl, rfl, trivial⟩ ?_
                    refine AWP.seq ?_
                    refine AWP.seq ?_
                    refine AWP.draw [(0, true), (1, true), (2, false), (3, true), (4, true), (5, true), (6, true), (7, true), (8, true), (9, true), (10, true), (11, true), (12, true), (13, true), (14, true), (15, true), (16, true), (17, true), (18, true), (19, true), (20, true), (21, true), (22, true), (23, true), (24, true), (25, true), (26, true), (27, true), (28, true), (29, true), (30, true), (31, true)] [] mixed (by kernel_rfl) ?_
                    refine dP (hc := fun _ => Calm.fieldAddr ty_field_54_0 rfl) (h := ?_)
                    refine dC (hc := ld_ ty_plain_9 rfl) (h := ?_)
                    refine draw_only rfl ?_
                    refine ARun.call (lit_lt rfl) go_49 rfl (rd_Named _ _) ?_
                    rintro _ S1 ⟨rfl, h1⟩
                    rw [h1, decide_eq_true q5]; clear h1 S1
                    refine arun_nil ⟨fun _ => less_, ?_⟩
                    refine dP (hc := fun _ => Calm.un rfl (una_not _)) (h := ?_)
                    refine dP (hc := fun _ => Calm.move rfl) (h := ?_)
                    first | refine dS ?_ | refine dU ?_ | refine dG (hc := fun _ => Calm.move rfl) (h := ?_)
                    first | refine dS ?_ | refine dU ?_ | refine dG (hc := fun _ => Calm.bin rfl rfl b_gtr) (h := ?_)
                    first | refine dS ?_ | refine dU ?_ | refine dG (hc := fun _ => Calm.move rfl) (h := ?_)
                    first | refine dS ?_ | refine dU ?_ | refine dG (hc := fun _ => Calm.fieldAddr ty_field_25_1 rfl) (h := ?_)
                    first | refine dS ?_ | refine dU ?_ | refine dL (hc := ld_ ty_plain_22 rfl) (h := ?_)
                    first | refine dS ?_ | refine dU ?_ | refine dG (hc := fun _ => Calm.move rfl) (h := ?_)
                    first | refine dS ?_ | refine dU ?_ | refine dG (hc := fun _ => Calm.bin rfl rfl b_sub_i64) (h := ?_)
                    first | refine dS ?_ | refine dU ?_ | refine dG (hc := fun _ => Calm.indexS Try.underlying22 ty_size_54 rfl rfl (by omega) (by omega)) (h := ?_)
                    first | refine dS ?_ | refine dU ?_ | refine dG (hc := fun _ => Calm.fieldAddr ty_field_54_0 rfl) (h := ?_)
                    first | refine dS ?_ | refine dU ?_ | refine dL (hc := ld_ ty_plain_9 rfl) (h := ?_)
                    first | refine dS ?_ | refine dU ?_ | refine dG (hc := fun _ => Calm.fieldAddr ty_field_54_0 rfl) (h := ?_)
                    first | refine dS ?_ | refine dU ?_ | refine dL (hc := ld_ ty_plain_9 rfl) (h := ?_)
                    first | refine dS ?_ | refine dU ?_ | refine dG (hc := fun _ => Calm.bin rfl rfl (bin_str_geq _ _)) (h := ?_)
                    first | refine dS ?_ | refine dU ?_ | refine dG (hc := fun _ => (by first | exact Calm.pickT rfl rfl | exact Calm.pickF rfl rfl)) (h := ?_)
                    refine dP (hc := fun _ => (by first | exact Calm.pickT rfl rfl | exact Calm.pickF rfl rfl)) (h := ?_)
                    refine dP (hc := fun _ => Calm.move rfl) (h := ?_)
                    first | refine dS ?_ | refine dU ?_ | refine dG (hc := fun _ => Calm.fieldAddr ty_field_54_1 rfl) (h := ?_)
                    first | refine dS ?_ | refine dU ?_ | refine dL (hc := ld_ ty_plain_9 rfl) (h := ?_)
                    first | refine dS ?_ | refine dU ?_ | refine dG (hc := fun _ => Calm.bin rfl rfl (bin_bool (bin_str_eql _ _) (decide_eq_true ((size0 _).2 q7)))) (h := ?_)
                    refine dP (hc := fun _ => (by first | exact Calm.pickT rfl rfl | exact Calm.pickF rfl rfl)) (h := ?_)
                    refine dP (hc := fun _ => Calm.move rfl) (h := ?_)
                    first | refine dS ?_ | refine dU ?_ | refine dG (hc := fun _ => Calm.fieldAddr ty_field_54_1 rfl) (h := ?_)
                    first | refine dS ?_ | refine dU ?_ | refine dL (hc := ld_ ty_plain_9 rfl) (h := ?_)
                    first | refine dS ?_ | refine dU ?_ | refine dL (hc := Calm.lenStr (strT_spec ty_str_9) rfl) (h := ?_)
                    first | refine dS ?_ | refine dU ?_ | refine dG (hc := fun _ => Calm.bin rfl rfl b_rem) (h := ?_)
                    first | refine dS ?_ | refine dU ?_ | refine dG (hc := fun _ => Calm.bin rfl rfl b_neq) (h := ?_)
                    refine dP (hc := fun _ => (by first | exact Calm.pickT rfl rfl | exact Calm.pickF rfl rfl)) (h := ?_)
                    refine draw_nil ?_
                    refine athen_n ?_
                    refine AWP.sub [(1, _), (34, _), (35, _), (36, _), (37, _), (4, _), (3, _), (72, _)] ⟨rfl, rfl, rfl, rfl, rfl, rfl, rfl, rfl, trivial⟩ ?_
                    refine AWP.condT rfl (by first | rfl | (simp; done) | (simp; omega)) ?_
                    refine AWP.seq ?_
                    refine AWP.region ?_
                    refine rC (Calm.assign rfl) ?_
                    refine arun_nil ?_
                    refine athen_n ?_
                    refine AWP.ret ?_
                    refine athen_ret ?_
                    refine ain_ret ?_
                    refine athen_ret ?_
                    refine athen_ret ?_
                    refine ain_ret ?_
                    refine athen_ret ?_
                    refine ⟨_, S, ⟨_, _, rfl, rfl, rfl⟩, hT1.trans less_, ?_⟩
                    exact ⟨by rw [chkD_no (fun h => (hra h).1.2.1 q7)]; rfl, rfl⟩
                  · by_cases q8 : ext[i].2.size % 64 = 0
                    · refine AWP.skip ?_
                      refine athen_n ?_
                      refine AWP.seq ?_
                      refine AWP.block ?_
                      refine AWP.seq ?_
                      refine AWP.region ?_
                      refine rC (Calm.move rfl) ?_
                      refine rC (Calm.indexS Try.underlying22 ty_size_54 rfl rfl (by omega) (by omega)) ?_
                      refine rC (ldA_ (cs := [_, _]) ty_agg_54 ty_size_54 rfl) ?_
                      refine ARun.alloc (lit_lt rfl) ty_zero_54 ?_
                      intro b4 f4
                      have g4 := f4
                      repeat ((with_reducible replace g4 := fresh_set g4); obtain ⟨g4, _⟩ := g4)
                      have := g4.ne kb1; have := g4.ne' kb1
                      (try simp only [List.length_cons, List.length_nil, Nat.zero_add, Nat.reduceAdd])
                      refine rC (Calm.assign rfl) ?_
                      first | refine ARun.storeAll rfl rfl ty_size_54 own_ rfl rfl ?_ | refine ARun.store rfl rfl ty_size_54 own_ lens_ rfl ?_
                      (try simp only [Mem.set_set, List.set_cons_zero, List.set_cons_succ, Nat.zero_add, Nat.reduceAdd])
                      refine arun_nil ?_
                      refine athen_n ?_
                      refine AWP.sub [(1, _), (34, _), (35, _), (36, _), (37, _), (4, _), (3, _)] ⟨rfl, rfl, rfl, rfl, rfl, rfl, rfl, trivial⟩ ?_
                      refine AWP.seq ?_
                      refine AWP.seq ?_
                      refine AWP.draw [(0, true), (1, true), (2, false), (3, true), (4, true), (5, true), (6, true), (7, true), (8, true), (9, true), (10, true), (11, true), (12, true), (13, true), (14, true), (15, true), (16, true), (17, true), (18, true), (19, true), (20, true), (21, true), (22, true), (23, true), (24, true), (25, true), (26, true), (27, true), (28, true), (29, true), (30, true), (31, true)] [] mixed (by kernel_rfl) ?_
                      refine dP (hc := fun _ => Calm.fieldAddr ty_field_54_0 rfl) (h := ?_)
                      refine dC (hc := ld_ ty_plain_9 rfl) (h := ?_)
                      refine draw_only rfl ?_
                      refine ARun.call (lit_lt rfl) go_49 rfl (rd_Named _ _) ?_
                      rintro _ S1 ⟨rfl, h1⟩
                      rw [h1, decide_eq_true q5]; clear h1 S1
                      refine arun_nil ⟨fun _ => less_, ?_⟩
                      refine dP (hc := fun _ => Calm.un rfl (una_not _)) (h := ?_)
                      refine dP (hc := fun _ => Calm.move rfl) (h := ?_)
                      first | refine dS ?_ | refine dU ?_ | refine dG (hc := fun _ => Calm.move rfl) (h := ?_)
                      first | refine dS ?_ | refine dU ?_ | refine dG (hc := fun _ => Calm.bin rfl rfl b_gtr) (h := ?_)
                      first | refine dS ?_ | refine dU ?_ | refine dG (hc := fun _ => Calm.move rfl) (h := ?_)
                      first | refine dS ?_ | refine dU ?_ | refine dG (hc := fun _ => Calm.fieldAddr ty_field_25_1 rfl) (h := ?_)
                      first | refine dS ?_ | refine dU ?_ | refine dL (hc := ld_ ty_plain_22 rfl) (h := ?_)
                      first | refine dS ?_ | refine dU ?_ | refine dG (hc := fun _ => Calm.move rfl) (h := ?_)
                      first | refine dS ?_ | refine dU ?_ | refine dG (hc := fun _ => Calm.bin rfl rfl b_sub_i64) (h := ?_)
                      first | refine dS ?_ | refine dU ?_ | refine dG (hc := fun _ => Calm.indexS Try.underlying22 ty_size_54 rfl rfl (by omega) (by omega)) (h := ?_)
                      first | refine dS ?_ | refine dU ?_ | refine dG (hc := fun _ => Calm.fieldAddr ty_field_54_0 rfl) (h := ?_)
                      first | refine dS ?_ | refine dU ?_ | refine dL (hc := ld_ ty_plain_9 rfl) (h := ?_)
                      first | refine dS ?_ | refine dU ?_ | refine dG (hc := fun _ => Calm.fieldAddr ty_field_54_0 rfl) (h := ?_)
                      first | refine dS ?_ | refine dU ?_ | refine dL (hc := ld_ ty_plain_9 rfl) (h := ?_)
                      first | refine dS ?_ | refine dU ?_ | refine dG (hc := fun _ => Calm.bin rfl rfl (bin_str_geq _ _)) (h := ?_)
                      first | refine dS ?_ | refine dU ?_ | refine dG (hc := fun _ => (by first | exact Calm.pickT rfl rfl | exact Calm.pickF rfl rfl)) (h := ?_)
                      refine dP (hc := fun _ => (by first | exact Calm.pickT rfl rfl | exact Calm.pickF rfl rfl)) (h := ?_)
                      refine dP (hc := fun _ => Calm.move rfl) (h := ?_)
                      first | refine dS ?_ | refine dU ?_ | refine dG (hc := fun _ => Calm.fieldAddr ty_field_54_1 rfl) (h := ?_)
                      first | refine dS ?_ | refine dU ?_ | refine dL (hc := ld_ ty_plain_9 rfl) (h := ?_)
                      first | refine dS ?_ | refine dU ?_ | refine dG (hc := fun _ => Calm.bin rfl rfl (bin_bool (bin_str_eql _ _) (decide_eq_false (fun e => q7 ((size0 _).1 e))))) (h := ?_)
                      refine dP (hc := fun _ => (by first | exact Calm.pickT rfl rfl | exact Calm.pickF rfl rfl)) (h := ?_)
                      refine dP (hc := fun _ => Calm.move rfl) (h := ?_)
                      first | refine dS ?_ | refine dU ?_ | refine dG (hc := fun _ => Calm.fieldAddr ty_field_54_1 rfl) (h := ?_)
                      first | refine dS ?_ | refine dU ?_ | refine dL (hc := ld_ ty_plain_9 rfl) (h := ?_)
                      first | refine dS ?_ | refine dU ?_ | refine dL (hc := Calm.lenStr (strT_spec ty_str_9) rfl) (h := ?_)
                      first | refine dS ?_ | refine dU ?_ | refine dG (hc := fun _ => Calm.bin rfl rfl b_rem) (h := ?_)
                      first | refine dS ?_ | refine dU ?_ | refine dG (hc := fun _ => Calm.bin rfl rfl b_neq) (h := ?_)
                      refine dP (hc := fun _ => (by first | exact Calm.pickT rfl rfl | exact Calm.pickF rfl rfl)) (h := ?_)
                      refine draw_nil ?_
                      refine athen_n ?_
                      refine AWP.sub [(1, _), (34, _), (35, _), (36, _), (37, _), (4, _), (3, _), (72, _)] ⟨rfl, rfl, rfl, rfl, rfl, rfl, rfl, rfl, trivial⟩ ?_
                      refine AWP.condF rfl (by first | rfl | (simp; done) | (simp; omega)) ?_
                      have hsx : sec ext[i] ≤ 140737488351232 := by unfold sec; omega
                      refine AWP.skip ?_
                      refine athen_n ?_
                      refine AWP.seq ?_
                      refine AWP.draw [(0, true), (1, true), (2, true), (3, true), (4, true), (6, true), (7, true), (5, false), (8, true)] [] mixed (by kernel_rfl) ?_
                      refine dP (hc := fun _ => Calm.fieldAddr ty_field_25_1 rfl) (h := ?_)
                      refine dC (hc := ld_ ty_plain_22 rfl) (h := ?_)
                      refine dP (hc := fun _ => Calm.move rfl) (h := ?_)
                      refine dP (hc := fun _ => Calm.bin rfl rfl b_add_i64) (h := ?_)
                      refine dP (hc := fun _ => (by first | exact Calm.sliceHead Try.underlying22 ty_size_54 rfl (bnd_none _ _) (fun _ => rfl) (bnd_some _ _ rfl (by omega) (by omega)) | exact Calm.sliceNil Try.underlying22 ty_size_54 rfl (bnd_none _ _) (by simp) (bnd_zero _ _ rfl) (bnd_none _ _))) (h := ?_)
                      refine dP (hc := fun _ => Calm.fieldAddr ty_field_25_0 rfl) (h := ?_)
                      refine dC (hc := ld_ ty_plain_3 rfl) (h := ?_)
                      refine draw_only rfl ?_
                      refine ARun.call (lit_lt rfl) go_51 rfl (rd_used _ (ext.take (i + 1)) _ (hslt.less less_) (by omega) (fun x hx => by have := hez x (List.mem_of_mem_take hx); omega)) ?_
                      rintro _ S1 ⟨rfl, h1⟩
                      rw [h1]; clear h1 S1
                      refine arun_nil ⟨fun _ => less_, ?_⟩
                      refine dP (hc := fun _ => Calm.bin rfl rfl b_gtr) (h := ?_)
                      refine draw_nil ?_
                      refine athen_n ?_
                      refine AWP.sub [(1, _), (34, _), (35, _), (36, _), (37, _), (4, _), (3, _), (72, _), (81, _)] ⟨rfl, rfl, rfl, rfl, rfl, rfl, rfl, rfl, rfl, trivial⟩ ?_
                      refine AWP.condB rfl (fun q9 => ?_) (fun q9 => ?_)
                      · refine AWP.seq ?_
                        refine AWP.region ?_
                        refine rC (Calm.assign rfl) ?_
                        refine arun_nil ?_
                        refine athen_n ?_
                        refine AWP.ret ?_
                        refine ain_ret ?_
                        refine athen_ret ?_
                        refine athen_ret ?_
                        refine ain_ret ?_
                        refine athen_ret ?_
                        refine ⟨_, S, ⟨_, _, rfl, rfl, rfl⟩, hT1.trans less_, ?_⟩
                        exact ⟨by rw [chkD_no (fun h => absurd (hra h).2.2 (by have := of_decide_eq_true q9; omega))]; rfl, rfl⟩
                      · have q9 := of_decide_eq_false q9
                        refine AWP.skip ?_
                        refine ain_n ?_
                        refine athen_n ?_
                        refine AWP.region ?_
                        refine rC (Calm.bin rfl rfl b_add_i64) ?_
                        refine rC (Calm.move rfl) ?_
                        refine arun_nil ?_
                        refine athen_n ?_
                        refine ⟨i + 1, ?_, ?_, ?_, ?_⟩
                        all_goals (try dsimp only)
                        · exact ⟨rfl, rfl, rfl, rfl, trivial⟩
                        · exact less_
                        · exact ⟨hc, hsu ⟨q5, q7, q8⟩ q6 (by omega)⟩
                        · omega
                    · refine AWP.skip ?_
                      refine athen_n ?_
                      refine AWP.seq ?_
                      refine AWP.block ?_
                      refine AWP.seq ?_
                      refine AWP.region ?_
                      refine rC (Calm.move rfl) ?_
                      refine rC (Calm.indexS Try.underlying22 ty_size_54 rfl rfl (by omega) (by omega)) ?_
                      refine rC (ldA_ (cs := [_, _]) ty_agg_54 ty_size_54 rfl) ?_
                      refine ARun.alloc (lit_lt rfl) ty_zero_54 ?_
                      intro b4 f4
                      have g4 := f4
                      repeat ((with_reducible replace g4 := fresh_set g4); obtain ⟨g4, _⟩ := g4)
                      have := g4.ne kb1; have := g4.ne' kb1
                      (try simp only [List.length_cons, List.length_nil, Nat.zero_add, Nat.reduceAdd])
                      refine rC (Calm.assign rfl) ?_
                      first | refine ARun.storeAll rfl rfl ty_size_54 own_ rfl rfl ?_ | refine ARun.store rfl rfl ty_size_54 own_ lens_ rfl ?_
                      (try simp only [Mem.set_set, List.set_cons_zero, List.set_cons_succ, Nat.zero_add, Nat.reduceAdd])
                      refine arun_nil ?_
                      refine athen_n ?_
                      refine AWP.sub [(1, _), (34, _), (35, _), (36, _), (37, _), (4, _), (3, _)] ⟨rfl, rfl, rfl, rfl, rfl, rfl, rfl, trivial⟩ ?_
                      refine AWP.seq ?_
                      refine AWP.seq ?_
                      refine AWP.draw [(0, true), (1, true), (2, false), (3, true), (4, true), (5, true), (6, true), (7, true), (8, true), (9, true), (10, true), (11, true), (12, true), (13, true), (14, true), (15, true), (16, true), (17, true), (18, true), (19, true), (20, true), (21, true), (22, true), (23, true), (24, true), (25, true), (26, true), (27, true), (28, true), (29, true), (30, true), (31, true)] [] mixed (by kernel_rfl) ?_
                      refine dP (hc := fun _ => Calm.fieldAddr ty_field_54_0 rfl) (h := ?_)
                      refine dC (hc := ld_ ty_plain_9 rfl) (h := ?_)
                      refine draw_only rfl ?_
                      refine ARun.call (lit_lt rfl) go_49 rfl (rd_Named _ _) ?_
                      rintro _ S1 ⟨rfl, h1⟩
                      rw [h1, decide_eq_true q5]; clear h1 S1
                      refine arun_nil ⟨fun _ => less_, ?_⟩
                      refine dP (hc := fun _ => Calm.un rfl (una_not _)) (h := ?_)
                      refine dP (hc := fun _ => Calm.move rfl) (h := ?_)
                      first | refine dS ?_ | refine dU ?_ | refine dG (hc := fun _ => Calm.move rfl) (h := ?_)
                      first | refine dS ?_ | refine dU ?_ | refine dG (hc := fun _ => Calm.bin rfl rfl b_gtr) (h := ?_)
                      first | refine dS ?_ | refine dU ?_ | refine dG (hc := fun _ => Calm.move rfl) (h := ?_)
                      first | refine dS ?_ | refine dU ?_ | refine dG (hc := fun _ => Calm.fieldAddr ty_field_25_1 rfl) (h := ?_)
                      first | refine dS ?_ | refine dU ?_ | refine dL (hc := ld_ ty_plain_22 rfl) (h := ?_)
                      first | refine dS ?_ | refine dU ?_ | refine dG (hc := fun _ => Calm.move rfl) (h := ?_)
                      first | refine dS ?_ | refine dU ?_ | refine dG (hc := fun _ => Calm.bin rfl rfl b_sub_i64) (h := ?_)
                      first | refine dS ?_ | refine dU ?_ | refine dG (hc := fun _ => Calm.indexS Try.underlying22 ty_size_54 rfl rfl (by omega) (by omega)) (h := ?_)
                      first | refine dS ?_ | refine dU ?_ | refine dG (hc := fun _ => Calm.fieldAddr ty_field_54_0 rfl) (h := ?_)
                      first | refine dS ?_ | refine dU ?_ | refine dL (hc := ld_ ty_plain_9 rfl) (h := ?_)
                      first | refine dS ?_ | refine dU ?_ | refine dG (hc := fun _ => Calm.fieldAddr ty_field_54_0 rfl) (h := ?_)
                      first | refine dS ?_ | refine dU ?_ | refine dL (hc := ld_ ty_plain_9 rfl) (h := ?_)
                      first | refine dS ?_ | refine dU ?_ | refine dG (hc := fun _ => Calm.bin rfl rfl (bin_str_geq _ _)) (h := ?_)
                      first | refine dS ?_ | refine dU ?_ | refine dG (hc := fun _ => (by first | exact Calm.pickT rfl rfl | exact Calm.pickF rfl rfl)) (h := ?_)
                      refine dP (hc := fun _ => (by first | exact Calm.pickT rfl rfl | exact Calm.pickF rfl rfl)) (h := ?_)
                      refine dP (hc := fun _ => Calm.move rfl) (h := ?_)
                      first | refine dS ?_ | refine dU ?_ | refine dG (hc := fun _ => Calm.fieldAddr ty_field_54_1 rfl) (h := ?_)
                      first | refine dS ?_ | refine dU ?_ | refine dL (hc := ld_ ty_plain_9 rfl) (h := ?_)
                      first | refine dS ?_ | refine dU ?_ | refine dG (hc := fun _ => Calm.bin rfl rfl (bin_bool (bin_str_eql _ _) (decide_eq_false (fun e => q7 ((size0 _).1 e))))) (h := ?_)
                      refine dP (hc := fun _ => (by first | exact Calm.pickT rfl rfl | exact Calm.pickF rfl rfl)) (h := ?_)
                      refine dP (hc := fun _ => Calm.move rfl) (h := ?_)
                      first | refine dS ?_ | refine dU ?_ | refine dG (hc := fun _ => Calm.fieldAddr ty_field_54_1 rfl) (h := ?_)
                      first | refine dS ?_ | refine dU ?_ | refine dL (hc := ld_ ty_plain_9 rfl) (h := ?_)
                      first | refine dS ?_ | refine dU ?_ | refine dL (hc := Calm.lenStr (strT_spec ty_str_9) rfl) (h := ?_)
                      first | refine dS ?_ | refine dU ?_ | refine dG (hc := fun _ => Calm.bin rfl rfl b_rem) (h := ?_)
                      first | refine dS ?_ | refine dU ?_ | refine dG (hc := fun _ => Calm.bin rfl rfl b_neq) (h := ?_)
                      refine dP (hc := fun _ => (by first | exact Calm.pickT rfl rfl | exact Calm.pickF rfl rfl)) (h := ?_)
                      refine draw_nil ?_
                      refine athen_n ?_
                      refine AWP.sub [(1, _), (34, _), (35, _), (36, _), (37, _), (4, _), (3, _), (72, _)] ⟨rfl, rfl, rfl, rfl, rfl, rfl, rfl, rfl, trivial⟩ ?_
                      refine AWP.condT rfl (by first | rfl | (simp; done) | (simp; omega)) ?_
                      refine AWP.seq ?_
                      refine AWP.region ?_
                      refine rC (Calm.assign rfl) ?_
                      refine arun_nil ?_
                      refine athen_n ?_
                      refine AWP.ret ?_
                      refine athen_ret ?_
                      refine ain_ret ?_
                      refine athen_ret ?_
                      refine athen_ret ?_
                      refine ain_ret ?_
                      refine athen_ret ?_
                      refine ⟨_, S, ⟨_, _, rfl, rfl, rfl⟩, hT1.trans less_, ?_⟩
                      exact ⟨by rw [chkD_no (fun h => q8 (hra h).1.2.2)]; rfl, rfl⟩
                · obtain ⟨i', rfl⟩ : ∃ i', i = i' + 1 := ⟨i - 1, by omega⟩
                  have hki' := (hk i' (by omega)).less hT1
                  unfold extF at hki'
                  have hki0 : T1.Knows ⟨b, off + i' * 2, none⟩ [.string (ext[i']'(by omega)).1] := kn_at hki' 0 rfl
                  have hl' : lastN ext (i' + 1) = (ext[i']'(by omega)).1 := lastN_succ (by omega)
                  by_cases q6 : lt (lastN ext (i' + 1)) ext[i' + 1].1 = true
                  · by_cases q7 : ext[i' + 1].2.size = 0
                    · refine AWP.skip ?_
                      refine athen_n ?_
                      refine AWP.seq ?_
                      refine AWP.block ?_
                      refine AWP.seq ?_
                      refine AWP.region ?_
                      refine rC (Calm.move rfl) ?_
                      refine rC (Calm.indexS Try.underlying22 ty_size_54 rfl rfl (by omega) (by omega)) ?_
                      refine rC (ldA_ (cs := [_, _]) ty_agg_54 ty_size_54 rfl) ?_
                      refine ARun.alloc (lit_lt rfl) ty_zero_54 ?_
                      intro b4 f4
                      have g4 := f4
                      repeat ((with_reducible replace g4 := fresh_set g4); obtain ⟨g4, _⟩ := g4)
                      have := g4.ne kb1; have := g4.ne' kb1
                      (try simp only [List.length_cons, List.length_nil, Nat.zero_add, Nat.reduceAdd])
                      refine rC (Calm.assign rfl) ?_
                      first | refine ARun.storeAll rfl rfl ty_size_54 own_ rfl rfl ?_ | refine ARun.store rfl rfl ty_size_54 own_ lens_ rfl ?_
                      (try simp only [Mem.set_set, List.set_cons_zero, List.set_cons_succ, Nat.zero_add, Nat.reduceAdd])
                      refine arun_nil ?_
                      refine athen_n ?_
                      refine AWP.sub [(1, _), (34, _), (35, _), (36, _), (37, _), (4, _), (3, _)] ⟨rfl, rfl, rfl, rfl, rfl, rfl, rfl, trivial⟩ ?_
                      refine AWP.seq ?_
                      refine AWP.seq ?_
                      refine AWP.draw [(0, true), (1, true), (2, false), (3, true), (4, true), (5, true), (6, true), (7, true), (8, true), (9, true), (10, true), (11, true), (12, true), (13, true), (14, true), (15, true), (16, true), (17, true), (18, true), (19, true), (20, true), (21, true), (22, true), (23, true), (24, true), (25, true), (26, true), (27, true), (28, true), (29, true), (30, true), (31, true)] [] mixed (by kernel_rfl) ?_
                      refine dP (hc := fun _ => Calm.fieldAddr ty_field_54_0 rfl) (h := ?_)
                      refine dC (hc := ld_ ty_plain_9 rfl) (h := ?_)
                      refine draw_only rfl ?_
                      refine ARun.call (lit_lt rfl) go_49 rfl (rd_Named _ _) ?_
                      rintro _ S1 ⟨rfl, h1⟩
                      rw [h1, decide_eq_true q5]; clear h1 S1
                      refine arun_nil ⟨fun _ => less_, ?_⟩
                      refine dP (hc := fun _ => Calm.un rfl (una_not _)) (h := ?_)
                      refine dP (hc := fun _ => Calm.move rfl) (h := ?_)
                      first | refine dS ?_ | refine dU ?_ | refine dG (hc := fun _ => Calm.move rfl) (h := ?_)
                      first | refine dS ?_ | refine dU ?_ | refine dG (hc := fun _ => Calm.bin rfl rfl b_gtr) (h := ?_)
                      first | refine dS ?_ | refine dU ?_ | refine dG (hc := fun _ => Calm.move rfl) (h := ?_)
                      first | refine dS ?_ | refine dU ?_ | refine dG (hc := fun _ => Calm.fieldAddr ty_field_25_1 rfl) (h := ?_)
                      first | refine dS ?_ | refine dU ?_ | refine dL (hc := ld_ ty_plain_22 rfl) (h := ?_)
                      first | refine dS ?_ | refine dU ?_ | refine dG (hc := fun _ => Calm.move rfl) (h := ?_)
                      first | refine dS ?_ | refine dU ?_ | refine dG (hc := fun _ => Calm.bin rfl rfl (bin_subW (c := (i' : Int)) (by rw [IntWalk.i64_in _ (by omega)]; omega))) (h := ?_)
                      first | refine dS ?_ | refine dU ?_ | refine dG (hc := fun _ => Calm.indexS Try.underlying22 ty_size_54 rfl rfl (by omega) (by omega)) (h := ?_)
                      first | refine dS ?_ | refine dU ?_ | refine dG (hc := fun _ => Calm.fieldAddr ty_field_54_0 rfl) (h := ?_)
                      first | refine dS ?_ | refine dU ?_ | refine dL (hc := Calm.loadK ty_plain_9 rfl (hki0.less less_)) (h := ?_)
                      first | refine dS ?_ | refine dU ?_ | refine dG (hc := fun _ => Calm.fieldAddr ty_field_54_0 rfl) (h := ?_)
                      first | refine dS ?_ | refine dU ?_ | refine dL (hc := ld_ ty_plain_9 rfl) (h := ?_)
                      first | refine dS ?_ | refine dU ?_ | refine dG (hc := fun _ => Calm.bin rfl rfl (bin_bool (bin_str_geq _ _) (by rw [lt_def, ← hl', q6]; first | done | rfl))) (h := ?_)
                      first | refine dS ?_ | refine dU ?_ | refine dG (hc := fun _ => (by first | exact Calm.pickT rfl rfl | exact Calm.pickF rfl rfl)) (h := ?_)
                      refine dP (hc := fun _ => (by first | exact Calm.pickT rfl rfl | exact Calm.pickF rfl rfl)) (h := ?_)
                      refine dP (hc := fun _ => Calm.move rfl) (h := ?_)
                      first | refine dS ?_ | refine dU ?_ | refine dG (hc := fun _ => Calm.fieldAddr ty_field_54_1 rfl) (h := ?_)
                      first | refine dS ?_ | refine dU ?_ | refine dL (hc := ld_ ty_plain_9 rfl) (h := ?_)
                      first | refine dS ?_ | refine dU ?_ | refine dG (hc := fun _ => Calm.bin rfl rfl (bin_bool (bin_str_eql _ _) (decide_eq_true ((size0 _).2 q7)))) (h := ?_)
                      refine dP (hc := fun _ => (by first | exact Calm.pickT rfl rfl | exact Calm.pickF rfl rfl)) (h := ?_)
                      refine dP (hc := fun _ => Calm.move rfl) (h := ?_)
                      first | refine dS ?_ | refine dU ?_ | refine dG (hc := fun _ => Calm.fieldAddr ty_field_54_1 rfl) (h := ?_)
                      first | refine dS ?_ | refine dU ?_ | refine dL (hc := ld_ ty_plain_9 rfl) (h := ?_)
                      first | refine dS ?_ | refine dU ?_ | refine dL (hc := Calm.lenStr (strT_spec ty_str_9) rfl) (h := ?_)
                      first | refine dS ?_ | refine dU ?_ | refine dG (hc := fun _ => Calm.bin rfl rfl b_rem) (h := ?_)
                      first | refine dS ?_ | refine dU ?_ | refine dG (hc := fun _ => Calm.bin rfl rfl b_neq) (h := ?_)
                      refine dP (hc := fun _ => (by first | exact Calm.pickT rfl rfl | exact Calm.pickF rfl rfl)) (h := ?_)
                      refine draw_nil ?_
                      refine athen_n ?_
                      refine AWP.sub [(1, _), (34, _), (35, _), (36, _), (37, _), (4, _), (3, _), (72, _)] ⟨rfl, rfl, rfl, rfl, rfl, rfl, rfl, rfl, trivial⟩ ?_
                      refine AWP.condT rfl (by first | rfl | (simp; done) | (simp; omega)) ?_
                      refine AWP.seq ?_
                      refine AWP.region ?_
                      refine rC (Calm.assign rfl) ?_
                      refine arun_nil ?_
                      refine athen_n ?_
                      refine AWP.ret ?_
                      refine athen_ret ?_
                      refine ain_ret ?_
                      refine athen_ret ?_
                      refine athen_ret ?_
                      refine ain_ret ?_
                      refine athen_ret ?_
                      refine ⟨_, S, ⟨_, _, rfl, rfl, rfl⟩, hT1.trans less_, ?_⟩
                      exact ⟨by rw [chkD_no (fun h => (hra h).1.2.1 q7)]; rfl, rfl⟩
                    · by_cases q8 : ext[i' + 1].2.size % 64 = 0
                      · refine AWP.skip ?_
                        refine athen_n ?_
                        refine AWP.seq ?_
                        refine AWP.block ?_
                        refine AWP.seq ?_
                        refine AWP.region ?_
                        refine rC (Calm.move rfl) ?_
                        refine rC (Calm.indexS Try.underlying22 ty_size_54 rfl rfl (by omega) (by omega)) ?_
                        refine rC (ldA_ (cs := [_, _]) ty_agg_54 ty_size_54 rfl) ?_
                        refine ARun.alloc (lit_lt rfl) ty_zero_54 ?_
                        intro b4 f4
                        have g4 := f4
                        repeat ((with_reducible replace g4 := fresh_set g4); obtain ⟨g4, _⟩ := g4)
                        have := g4.ne kb1; have := g4.ne' kb1
                        (try simp only [List.length_cons, List.length_nil, Nat.zero_add, Nat.reduceAdd])
                        refine rC (Calm.assign rfl) ?_
                        first | refine ARun.storeAll rfl rfl ty_size_54 own_ rfl rfl ?_ | refine ARun.store rfl rfl ty_size_54 own_ lens_ rfl ?_
                        (try simp only [Mem.set_set, List.set_cons_zero, List.set_cons_succ, Nat.zero_add, Nat.reduceAdd])
                        refine arun_nil ?_
                        refine athen_n ?_
                        refine AWP.sub [(1, _), (34, _), (35, _), (36, _), (37, _), (4, _), (3, _)] ⟨rfl, rfl, rfl, rfl, rfl, rfl, rfl, trivial⟩ ?_
                        refine AWP.seq ?_
                        refine AWP.seq ?_
                        refine AWP.draw [(0, true), (1, true), (2, false), (3, true), (4, true), (5, true), (6, true), (7, true), (8, true), (9, true), (10, true), (11, true), (12, true), (13, true), (14, true), (15, true), (16, true), (17, true), (18, true), (19, true), (20, true), (21, true), (22, true), (23, true), (24, true), (25, true), (26, true), (27, true), (28, true), (29, true), (30, true), (31, true)] [] mixed (by kernel_rfl) ?_
                        refine dP (hc := fun _ => Calm.fieldAddr ty_field_54_0 rfl) (h := ?_)
                        refine dC (hc := ld_ ty_plain_9 rfl) (h := ?_)
                        refine draw_only rfl ?_
                        refine ARun.call (lit_lt rfl) go_49 rfl (rd_Named _ _) ?_
                        rintro _ S1 ⟨rfl, h1⟩
                        rw [h1, decide_eq_true q5]; clear h1 S1
                        refine arun_nil ⟨fun _ => less_, ?_⟩
                        refine dP (hc := fun _ => Calm.un rfl (una_not _)) (h := ?_)
                        refine dP (hc := fun _ => Calm.move rfl) (h := ?_)
                        first | refine dS ?_ | refine dU ?_ | refine dG (hc := fun _ => Calm.move rfl) (h := ?_)
                        first | refine dS ?_ | refine dU ?_ | refine dG (hc := fun _ => Calm.bin rfl rfl b_gtr) (h := ?_)
                        first | refine dS ?_ | refine dU ?_ | refine dG (hc := fun _ => Calm.move rfl) (h := ?_)
                        first | refine dS ?_ | refine dU ?_ | refine dG (hc := fun _ => Calm.fieldAddr ty_field_25_1 rfl) (h := ?_)
                        first | refine dS ?_ | refine dU ?_ | refine dL (hc := ld_ ty_plain_22 rfl) (h := ?_)
                        first | refine dS ?_ | refine dU ?_ | refine dG (hc := fun _ => Calm.move rfl) (h := ?_)
                        first | refine dS ?_ | refine dU ?_ | refine dG (hc := fun _ => Calm.bin rfl rfl (bin_subW (c := (i' : Int)) (by rw [IntWalk.i64_in _ (by omega)]; omega))) (h := ?_)
                        first | refine dS ?_ | refine dU ?_ | refine dG (hc := fun _ => Calm.indexS Try.underlying22 ty_size_54 rfl rfl (by omega) (by omega)) (h := ?_)
                        first | refine dS ?_ | refine dU ?_ | refine dG (hc := fun _ => Calm.fieldAddr ty_field_54_0 rfl) (h := ?_)
                        first | refine dS ?_ | refine dU ?_ | refine dL (hc := Calm.loadK ty_plain_9 rfl (hki0.less less_)) (h := ?_)
                        first | refine dS ?_ | refine dU ?_ | refine dG (hc := fun _ => Calm.fieldAddr ty_field_54_0 rfl) (h := ?_)
                        first | refine dS ?_ | refine dU ?_ | refine dL (hc := ld_ ty_plain_9 rfl) (h := ?_)
                        first | refine dS ?_ | refine dU ?_ | refine dG (hc := fun _ => Calm.bin rfl rfl (bin_bool (bin_str_geq _ _) (by rw [lt_def, ← hl', q6]; first | done | rfl))) (h := ?_)
                        first | refine dS ?_ | refine dU ?_ | refine dG (hc := fun _ => (by first | exact Calm.pickT rfl rfl | exact Calm.pickF rfl rfl)) (h := ?_)
                        refine dP (hc := fun _ => (by first | exact Calm.pickT rfl rfl | exact Calm.pickF rfl rfl)) (h := ?_)
                        refine dP (hc := fun _ => Calm.move rfl) (h := ?_)
                        first | refine dS ?_ | refine dU ?_ | refine dG (hc := fun _ => Calm.fieldAddr ty_field_54_1 rfl) (h := ?_)
                        first | refine dS ?_ | refine dU ?_ | refine dL (hc := ld_ ty_plain_9 rfl) (h := ?_)
                        first | refine dS ?_ | refine dU ?_ | refine dG (hc := fun _ => Calm.bin rfl rfl (bin_bool (bin_str_eql _ _) (decide_eq_false (fun e => q7 ((size0 _).1 e))))) (h := ?_)
                        refine dP (hc := fun _ => (by first | exact Calm.pickT rfl rfl | exact Calm.pickF rfl rfl)) (h := ?_)
                        refine dP (hc := fun _ => Calm.move rfl) (h := ?_)
                        first | refine dS ?_ | refine dU ?_ | refine dG (hc := fun _ => Calm.fieldAddr ty_field_54_1 rfl) (h := ?_)
                        first | refine dS ?_ | refine dU ?_ | refine dL (hc := ld_ ty_plain_9 rfl) (h := ?_)
                        first | refine dS ?_ | refine dU ?_ | refine dL (hc := Calm.lenStr (strT_spec ty_str_9) rfl) (h := ?_)
                        first | refine dS ?_ | refine dU ?_ | refine dG (hc := fun _ => Calm.bin rfl rfl b_rem) (h := ?_)
                        first | refine dS ?_ | refine dU ?_ | refine dG (hc := fun _ => Calm.bin rfl rfl b_neq) (h := ?_)
                        refine dP (hc := fun _ => (by first | exact Calm.pickT rfl rfl | exact Calm.pickF rfl rfl)) (h := ?_)
                        refine draw_nil ?_
                        refine athen_n ?_
                        refine AWP.sub [(1, _), (34, _), (35, _), (36, _), (37, _), (4, _), (3, _), (72, _)] ⟨rfl, rfl, rfl, rfl, rfl, rfl, rfl, rfl, trivial⟩ ?_
                        refine AWP.condF rfl (by first | rfl | (simp; done) | (simp; omega)) ?_
                        have hsx : sec ext[i' + 1] ≤ 140737488351232 := by unfold sec; omega
                        refine AWP.skip ?_
                        refine athen_n ?_
                        refine AWP.seq ?_
                        refine AWP.draw [(0, true), (1, true), (2, true), (3, true), (4, true), (6, true), (7, true), (5, false), (8, true)] [] mixed (by kernel_rfl) ?_
                        refine dP (hc := fun _ => Calm.fieldAddr ty_field_25_1 rfl) (h := ?_)
                        refine dC (hc := ld_ ty_plain_22 rfl) (h := ?_)
                        refine dP (hc := fun _ => Calm.move rfl) (h := ?_)
                        refine dP (hc := fun _ => Calm.bin rfl rfl b_add_i64) (h := ?_)
                        refine dP (hc := fun _ => (by first | exact Calm.sliceHead Try.underlying22 ty_size_54 rfl (bnd_none _ _) (fun _ => rfl) (bnd_some _ _ rfl (by omega) (by omega)) | exact Calm.sliceNil Try.underlying22 ty_size_54 rfl (bnd_none _ _) (by simp) (bnd_zero _ _ rfl) (bnd_none _ _))) (h := ?_)
                        refine dP (hc := fun _ => Calm.fieldAddr ty_field_25_0 rfl) (h := ?_)
                        refine dC (hc := ld_ ty_plain_3 rfl) (h := ?_)
                        refine draw_only rfl ?_
                        refine ARun.call (lit_lt rfl) go_51 rfl (rd_used _ (ext.take (i' + 1 + 1)) _ (hslt.less less_) (by omega) (fun x hx => by have := hez x (List.mem_of_mem_take hx); omega)) ?_
                        rintro _ S1 ⟨rfl, h1⟩
                        rw [h1]; clear h1 S1
                        refine arun_nil ⟨fun _ => less_, ?_⟩
                        refine dP (hc := fun _ => Calm.bin rfl rfl b_gtr) (h := ?_)
                        refine draw_nil ?_
                        refine athen_n ?_
                        refine AWP.sub [(1, _), (34, _), (35, _), (36, _), (37, _), (4, _), (3, _), (72, _), (81, _)] ⟨rfl, rfl, rfl, rfl, rfl, rfl, rfl, rfl, rfl, trivial⟩ ?_
                        refine AWP.condB rfl (fun q9 => ?_) (fun q9 => ?_)
                        · refine AWP.seq ?_
                          refine AWP.region ?_
                          refine rC (Calm.assign rfl) ?_
                          refine arun_nil ?_
                          refine athen_n ?_
                          refine AWP.ret ?_
                          refine ain_ret ?_
                          refine athen_ret ?_
                          refine athen_ret ?_
                          refine ain_ret ?_
                          refine athen_ret ?_
                          refine ⟨_, S, ⟨_, _, rfl, rfl, rfl⟩, hT1.trans less_, ?_⟩
                          exact ⟨by rw [chkD_no (fun h => absurd (hra h).2.2 (by have := of_decide_eq_true q9; omega))]; rfl, rfl⟩
                        · have q9 := of_decide_eq_false q9
                          refine AWP.skip ?_
                          refine ain_n ?_
                          refine athen_n ?_
                          refine AWP.region ?_
                          refine rC (Calm.bin rfl rfl b_add_i64) ?_
                          refine rC (Calm.move rfl) ?_
                          refine arun_nil ?_
                          refine athen_n ?_
                          refine ⟨i' + 1 + 1, ?_, ?_, ?_, ?_⟩
                          all_goals (try dsimp only)
                          · exact ⟨rfl, rfl, rfl, rfl, trivial⟩
                          · exact less_
                          · exact ⟨hc, hsu ⟨q5, q7, q8⟩ q6 (by omega)⟩
                          · omega
                      · refine AWP.skip ?_
                        refine athen_n ?_
                        refine AWP.seq ?_
                        refine AWP.block ?_
                        refine AWP.seq ?_
                        refine AWP.region ?_
                        refine rC (Calm.move rfl) ?_
                        refine rC (Calm.indexS Try.underlying22 ty_size_54 rfl rfl (by omega) (by omega)) ?_
                        refine rC (ldA_ (cs := [_, _]) ty_agg_54 ty_size_54 rfl) ?_
                        refine ARun.alloc (lit_lt rfl) ty_zero_54 ?_
                        intro b4 f4
                        have g4 := f4
                        repeat ((with_reducible replace g4 := fresh_set g4); obtain ⟨g4, _⟩ := g4)
                        have := g4.ne kb1; have := g4.ne' kb1
                        (try simp only [List.length_cons, List.length_nil, Nat.zero_add, Nat.reduceAdd])
                        refine rC (Calm.assign rfl) ?_
                        first | refine ARun.storeAll rfl rfl ty_size_54 own_ rfl rfl ?_ | refine ARun.store rfl rfl ty_size_54 own_ lens_ rfl ?_
                        (try simp only [Mem.set_set, List.set_cons_zero, List.set_cons_succ, Nat.zero_add, Nat.reduceAdd])
                        refine arun_nil ?_
                        refine athen_n ?_
                        refine AWP.sub [(1, _), (34, _), (35, _), (36, _), (37, _), (4, _), (3, _)] ⟨rfl, rfl, rfl, rfl, rfl, rfl, rfl, trivial⟩ ?_
                        refine AWP.seq ?_
                        refine AWP.seq ?_
                        refine AWP.draw [(0, true), (1, true), (2, false), (3, true), (4, true), (5, true), (6, true), (7, true), (8, true), (9, true), (10, true), (11, true), (12, true), (13, true), (14, true), (15, true), (16, true), (17, true), (18, true), (19, true), (20, true), (21, true), (22, true), (23, true), (24, true), (25, true), (26, true), (27, true), (28, true), (29, true), (30, true), (31, true)] [] mixed (by kernel_rfl) ?_
                        refine dP (hc := fun _ => Calm.fieldAddr ty_field_54_0 rfl) (h := ?_)
                        refine dC (hc := ld_ ty_plain_9 rfl) (h := ?_)
                        refine draw_only rfl ?_
                        refine ARun.call (lit_lt rfl) go_49 rfl (rd_Named _ _) ?_
                        rintro _ S1 ⟨rfl, h1⟩
                        rw [h1, decide_eq_true q5]; clear h1 S1
                        refine arun_nil ⟨fun _ => less_, ?_⟩
                        refine dP (hc := fun _ => Calm.un rfl (una_not _)) (h := ?_)
                        refine dP (hc := fun _ => Calm.move rfl) (h := ?_)
                        first | refine dS ?_ | refine dU ?_ | refine dG (hc := fun _ => Calm.move rfl) (h := ?_)
                        first | refine dS ?_ | refine dU ?_ | refine dG (hc := fun _ => Calm.bin rfl rfl b_gtr) (h := ?_)
                        first | refine dS ?_ | refine dU ?_ | refine dG (hc := fun _ => Calm.move rfl) (h := ?_)
                        first | refine dS ?_ | refine dU ?_ | refine dG (hc := fun _ => Calm.fieldAddr ty_field_25_1 rfl) (h := ?_)
                        first | refine dS ?_ | refine dU ?_ | refine dL (hc := ld_ ty_plain_22 rfl) (h := ?_)
                        first | refine dS ?_ | refine dU ?_ | refine dG (hc := fun _ => Calm.move rfl) (h := ?_)
                        first | refine dS ?_ | refine dU ?_ | refine dG (hc := fun _ => Calm.bin rfl rfl (bin_subW (c := (i' : Int)) (by rw [IntWalk.i64_in _ (by omega)]; omega))) (h := ?_)
                        first | refine dS ?_ | refine dU ?_ | refine dG (hc := fun _ => Calm.indexS Try.underlying22 ty_size_54 rfl rfl (by omega) (by omega)) (h := ?_)
                        first | refine dS ?_ | refine dU ?_ | refine dG (hc := fun _ => Calm.fieldAddr ty_field_54_0 rfl) (h := ?_)
                        first | refine dS ?_ | refine dU ?_ | refine dL (hc := Calm.loadK ty_plain_9 rfl (hki0.less less_)) (h := ?_)
                        first | refine dS ?_ | refine dU ?_ | refine dG (hc := fun _ => Calm.fieldAddr ty_field_54_0 rfl) (h := ?_)
                        first | refine dS ?_ | refine dU ?_ | refine dL (hc := ld_ ty_plain_9 rfl) (h := ?_)
                        first | refine dS ?_ | refine dU ?_ | refine dG (hc := fun _ => Calm.bin rfl rfl (bin_bool (bin_str_geq _ _) (by rw [lt_def, ← hl', q6]; first | done | rfl))) (h := ?_)
                        first | refine dS ?_ | refine dU ?_ | refine dG (hc := fun _ => (by first | exact Calm.pickT rfl rfl | exact Calm.pickF rfl rfl)) (h := ?_)
                        refine dP (hc := fun _ => (by first | exact Calm.pickT rfl rfl | exact Calm.pickF rfl rfl)) (h := ?_)
                        refine dP (hc := fun _ => Calm.move rfl) (h := ?_)
                        first | refine dS ?_ | refine dU ?_ | refine dG (hc := fun _ => Calm.fieldAddr ty_field_54_1 rfl) (h := ?_)
                        first | refine dS ?_ | refine dU ?_ | refine dL (hc := ld_ ty_plain_9 rfl) (h := ?_)
                        first | refine dS ?_ | refine dU ?_ | refine dG (hc := fun _ => Calm.bin rfl rfl (bin_bool (bin_str_eql _ _) (decide_eq_false (fun e => q7 ((size0 _).1 e))))) (h := ?_)
                        refine dP (hc := fun _ => (by first | exact Calm.pickT rfl rfl | exact Calm.pickF rfl rfl)) (h := ?_)
                        refine dP (hc := fun _ => Calm.move rfl) (h := ?_)
                        first | refine dS ?_ | refine dU ?_ | refine dG (hc := fun _ => Calm.fieldAddr ty_field_54_1 rfl) (h := ?_)
                        first | refine dS ?_ | refine dU ?_ | refine dL (hc := ld_ ty_plain_9 rfl) (h := ?_)
                        first | refine dS ?_ | refine dU ?_ | refine dL (hc := Calm.lenStr (strT_spec ty_str_9) rfl) (h := ?_)
                        first | refine dS ?_ | refine dU ?_ | refine dG (hc := fun _ => Calm.bin rfl rfl b_rem) (h := ?_)
                        first | refine dS ?_ | refine dU ?_ | refine dG (hc := fun _ => Calm.bin rfl rfl b_neq) (h := ?_)
                        refine dP (hc := fun _ => (by first | exact Calm.pickT rfl rfl | exact Calm.pickF rfl rfl)) (h := ?_)
                        refine draw_nil ?_
                        refine athen_n ?_
                        refine AWP.sub [(1, _), (34, _), (35, _), (36, _), (37, _), (4, _), (3, _), (72, _)] ⟨rfl, rfl, rfl, rfl, rfl, rfl, rfl, rfl, trivial⟩ ?_
                        refine AWP.condT rfl (by first | rfl | (simp; done) | (simp; omega)) ?_
                        refine AWP.seq ?_
                        refine AWP.region ?_
                        refine rC (Calm.assign rfl) ?_
                        refine arun_nil ?_
                        refine athen_n ?_
                        refine AWP.ret ?_
                        refine athen_ret ?_
                        refine ain_ret ?_
                        refine athen_ret ?_
                        refine athen_ret ?_
                        refine ain_ret ?_
                        refine athen_ret ?_
                        refine ⟨_, S, ⟨_, _, rfl, rfl, rfl⟩, hT1.trans less_, ?_⟩
                        exact ⟨by rw [chkD_no (fun h => q8 (hra h).1.2.2)]; rfl, rfl⟩
                  · refine AWP.skip ?_
                    refine athen_n ?_
                    refine AWP.seq ?_
                    refine AWP.block ?_
                    refine AWP.seq ?_
                    refine AWP.region ?_
                    refine rC (Calm.move rfl) ?_
                    refine rC (Calm.indexS Try.underlying22 ty_size_54 rfl rfl (by omega) (by omega)) ?_
                    refine rC (ldA_ (cs := [_, _]) ty_agg_54 ty_size_54 rfl) ?_
                    refine ARun.alloc (lit_lt rfl) ty_zero_54 ?_
                    intro b4 f4
                    have g4 := f4
                    repeat ((with_reducible replace g4 := fresh_set g4); obtain ⟨g4, _⟩ := g4)
                    have := g4.ne kb1; have := g4.ne' kb1
                    (try simp only [List.length_cons, List.length_nil, Nat.zero_add, Nat.reduceAdd])
                    refine rC (Calm.assign rfl) ?_
                    first | refine ARun.storeAll rfl rfl ty_size_54 own_ rfl rfl ?_ | refine ARun.store rfl rfl ty_size_54 own_ lens_ rfl ?_
                    (try simp only [Mem.set_set, List.set_cons_zero, List.set_cons_succ, Nat.zero_add, Nat.reduceAdd])
                    refine arun_nil ?_
                    refine athen_n ?_
                    refine AWP.sub [(1, _), (34, _), (35, _), (36, _), (37, _), (4, _), (3, _)] ⟨rfl, rfl, rfl, rfl, rfl, rfl, rfl, trivial⟩ ?_
                    refine AWP.seq ?_
                    refine AWP.seq ?_
                    refine AWP.draw [(0, true), (1, true), (2, false), (3, true), (4, true), (5, true), (6, true), (7, true), (8, true), (9, true), (10, true), (11, true), (12, true), (13, true), (14, true), (15, true), (16, true), (17, true), (18, true), (19, true), (20, true), (21, true), (22, true), (23, true), (24, true), (25, true), (26, true), (27, true), (28, true), (29, true), (30, true), (31, true)] [] mixed (by kernel_rfl) ?_
                    refine dP (hc := fun _ => Calm.fieldAddr ty_field_54_0 rfl) (h := ?_)
                    refine dC (hc := ld_ ty_plain_9 rfl) (h := ?_)
                    refine draw_only rfl ?_
                    refine ARun.call (lit_lt rfl) go_49 rfl (rd_Named _ _) ?_
                    rintro _ S1 ⟨rfl, h1⟩
                    rw [h1, decide_eq_true q5]; clear h1 S1
                    refine arun_nil ⟨fun _ => less_, ?_⟩
                    refine dP (hc := fun _ => Calm.un rfl (una_not _)) (h := ?_)
                    refine dP (hc := fun _ => Calm.move rfl) (h := ?_)
                    first | refine dS ?_ | refine dU ?_ | refine dG (hc := fun _ => Calm.move rfl) (h := ?_)
                    first | refine dS ?_ | refine dU ?_ | refine dG (hc := fun _ => Calm.bin rfl rfl b_gtr) (h := ?_)
                    first | refine dS ?_ | refine dU ?_ | refine dG (hc := fun _ => Calm.move rfl) (h := ?_)
                    first | refine dS ?_ | refine dU ?_ | refine dG (hc := fun _ => Calm.fieldAddr ty_field_25_1 rfl) (h := ?_)
                    first | refine dS ?_ | refine dU ?_ | refine dL (hc := ld_ ty_plain_22 rfl) (h := ?_)
                    first | refine dS ?_ | refine dU ?_ | refine dG (hc := fun _ => Calm.move rfl) (h := ?_)
                    first | refine dS ?_ | refine dU ?_ | refine dG (hc := fun _ => Calm.bin rfl rfl (bin_subW (c := (i' : Int)) (by rw [IntWalk.i64_in _ (by omega)]; omega))) (h := ?_)
                    first | refine dS ?_ | refine dU ?_ | refine dG (hc := fun _ => Calm.indexS Try.underlying22 ty_size_54 rfl rfl (by omega) (by omega)) (h := ?_)
                    first | refine dS ?_ | refine dU ?_ | refine dG (hc := fun _ => Calm.fieldAddr ty_field_54_0 rfl) (h := ?_)
                    first | refine dS ?_ | refine dU ?_ | refine dL (hc := Calm.loadK ty_plain_9 rfl (hki0.less less_)) (h := ?_)
                    first | refine dS ?_ | refine dU ?_ | refine dG (hc := fun _ => Calm.fieldAddr ty_field_54_0 rfl) (h := ?_)
                    first | refine dS ?_ | refine dU ?_ | refine dL (hc := ld_ ty_plain_9 rfl) (h := ?_)
                    first | refine dS ?_ | refine dU ?_ | refine dG (hc := fun _ => Calm.bin rfl rfl (bin_bool (bin_str_geq _ _) (by rw [lt_def, ← hl', Bool.eq_false_iff.2 q6]; first | done | rfl))) (h := ?_)
                    first | refine dS ?_ | refine dU ?_ | refine dG (hc := fun _ => (by first | exact Calm.pickT rfl rfl | exact Calm.pickF rfl rfl)) (h := ?_)
                    refine dP (hc := fun _ => (by first | exact Calm.pickT rfl rfl | exact Calm.pickF rfl rfl)) (h := ?_)
                    refine dP (hc := fun _ => Calm.move rfl) (h := ?_)
                    first | refine dS ?_ | refine dU ?_ | refine dG (hc := fun _ => Calm.fieldAddr ty_field_54_1 rfl) (h := ?_)
                    first | refine dS ?_ | refine dU ?_ | refine dL (hc := ld_ ty_plain_9 rfl) (h := ?_)
                    first | refine dS ?_ | refine dU ?_ | refine dG (hc := fun _ => Calm.bin rfl rfl (bin_str_eql _ _)) (h := ?_)
                    refine dP (hc := fun _ => (by first | exact Calm.pickT rfl rfl | exact Calm.pickF rfl rfl)) (h := ?_)
                    refine dP (hc := fun _ => Calm.move rfl) (h := ?_)
                    first | refine dS ?_ | refine dU ?_ | refine dG (hc := fun _ => Calm.fieldAddr ty_field_54_1 rfl) (h := ?_)
                    first | refine dS ?_ | refine dU ?_ | refine dL (hc := ld_ ty_plain_9 rfl) (h := ?_)
                    first | refine dS ?_ | refine dU ?_ | refine dL (hc := Calm.lenStr (strT_spec ty_str_9) rfl) (h := ?_)
                    first | refine dS ?_ | refine dU ?_ | refine dG (hc := fun _ => Calm.bin rfl rfl b_rem) (h := ?_)
                    first | refine dS ?_ | refine dU ?_ | refine dG (hc := fun _ => Calm.bin rfl rfl b_neq) (h := ?_)
                    refine dP (hc := fun _ => (by first | exact Calm.pickT rfl rfl | exact Calm.pickF rfl rfl)) (h := ?_)
                    refine draw_nil ?_
                    refine athen_n ?_
                    refine AWP.sub [(1, _), (34, _), (35, _), (36, _), (37, _), (4, _), (3, _), (72, _)] ⟨rfl, rfl, rfl, rfl, rfl, rfl, rfl, rfl, trivial⟩ ?_
                    refine AWP.condT rfl (by first | rfl | (simp; done) | (simp; omega)) ?_
                    refine AWP.seq ?_
                    refine AWP.region ?_
                    refine rC (Calm.assign rfl) ?_
                    refine arun_nil ?_
                    refine athen_n ?_
                    refine AWP.ret ?_
                    refine athen_ret ?_
                    refine ain_ret ?_
                    refine athen_ret ?_
                    refine athen_ret ?_
                    refine ain_ret ?_
                    refine athen_ret ?_
                    refine ⟨_, S, ⟨_, _, rfl, rfl, rfl⟩, hT1.trans less_, ?_⟩
                    exact ⟨by rw [chkD_no (fun h => q6 (hra h).2.1)]; rfl, rfl⟩
              · refine AWP.skip ?_
                refine athen_n ?_
                refine AWP.seq ?_
                refine AWP.block ?_
                refine AWP.seq ?_
                refine AWP.region ?_
                refine rC (Calm.move rfl) ?_
                refine rC (Calm.indexS Try.underlying22 ty_size_54 rfl rfl (by omega) (by omega)) ?_
                refine rC (ldA_ (cs := [_, _]) ty_agg_54 ty_size_54 rfl) ?_
                refine ARun.alloc (lit_lt rfl) ty_zero_54 ?_
                intro b4 f4
                have g4 := f4
                repeat ((with_reducible replace g4 := fresh_set g4); obtain ⟨g4, _⟩ := g4)
                have := g4.ne kb1; have := g4.ne' kb1
                (try simp only [List.length_cons, List.length_nil, Nat.zero_add, Nat.reduceAdd])
                refine rC (Calm.assign rfl) ?_
                first | refine ARun.storeAll rfl rfl ty_size_54 own_ rfl rfl ?_ | refine ARun.store rfl rfl ty_size_54 own_ lens_ rfl ?_
                (try simp only [Mem.set_set, List.set_cons_zero, List.set_cons_succ, Nat.zero_add, Nat.reduceAdd])
                refine arun_nil ?_
                refine athen_n ?_
                refine AWP.sub [(1, _), (34, _), (35, _), (36, _), (37, _), (4, _), (3, _)] ⟨rfl, rfl, rfl, rfl, rfl, rfl, rfl, trivial⟩ ?_
                refine AWP.seq ?_
                refine AWP.seq ?_
                refine AWP.draw [(0, true), (1, true), (2, false), (3, true), (4, true), (5, true), (6, true), (7, true), (8, true), (9, true), (10, true), (11, true), (12, true), (13, true), (14, true), (15, true), (16, true), (17, true), (18, true), (19, true), (20, true), (21, true), (22, true), (23, true), (24, true), (25, true), (26, true), (27, true), (28, true), (29, true), (30, true), (31, true)] [] mixed (by kernel_rfl) ?_
                refine dP (hc := fun _ => Calm.fieldAddr ty_field_54_0 rfl) (h := ?_)
                refine dC (hc := ld_ ty_plain_9 rfl) (h := ?_)
                refine draw_only rfl ?_
                refine ARun.call (lit_lt rfl) go_49 rfl (rd_Named _ _) ?_
                rintro _ S1 ⟨rfl, h1⟩
                rw [h1, decide_eq_false q5]; clear h1 S1
                refine arun_nil ⟨fun _ => less_, ?_⟩
                refine dP (hc := fun _ => Calm.un rfl (una_not _)) (h := ?_)
                refine dP (hc := fun _ => Calm.move rfl) (h := ?_)
                first | refine dS ?_ | refine dU ?_ | refine dG (hc := fun _ => Calm.move rfl) (h := ?_)
                first | refine dS ?_ | refine dU ?_ | refine dG (hc := fun _ => Calm.bin rfl rfl b_gtr) (h := ?_)
                first | refine dS ?_ | refine dU ?_ | refine dG (hc := fun _ => Calm.move rfl) (h := ?_)
                first | refine dS ?_ | refine dU ?_ | refine dG (hc := fun _ => Calm.fieldAddr ty_field_25_1 rfl) (h := ?_)
                first | refine dS ?_ | refine dU ?_ | refine dL (hc := ld_ ty_plain_22 rfl) (h := ?_)
                first | refine dS ?_ | refine dU ?_ | refine dG (hc := fun _ => Calm.move rfl) (h := ?_)
                first | refine dS ?_ | refine dU ?_ | refine dG (hc := fun _ => Calm.bin rfl rfl b_sub_i64) (h := ?_)
                first | refine dS ?_ | refine dU ?_ | refine dG (hc := fun _ => Calm.indexS Try.underlying22 ty_size_54 rfl rfl (by omega) (by omega)) (h := ?_)
                first | refine dS ?_ | refine dU ?_ | refine dG (hc := fun _ => Calm.fieldAddr ty_field_54_0 rfl) (h := ?_)
                first | refine dS ?_ | refine dU ?_ | refine dL (hc := ld_ ty_plain_9 rfl) (h := ?_)
                first | refine dS ?_ | refine dU ?_ | refine dG (hc := fun _ => Calm.fieldAddr ty_field_54_0 rfl) (h := ?_)
                first | refine dS ?_ | refine dU ?_ | refine dL (hc := ld_ ty_plain_9 rfl) (h := ?_)
                first | refine dS ?_ | refine dU ?_ | refine dG (hc := fun _ => Calm.bin rfl rfl (bin_str_geq _ _)) (h := ?_)
                first | refine dS ?_ | refine dU ?_ | refine dG (hc := fun _ => (by first | exact Calm.pickT rfl rfl | exact Calm.pickF rfl rfl)) (h := ?_)
                refine dP (hc := fun _ => (by first | exact Calm.pickT rfl rfl | exact Calm.pickF rfl rfl)) (h := ?_)
                refine dP (hc := fun _ => Calm.move rfl) (h := ?_)
                first | refine dS ?_ | refine dU ?_ | refine dG (hc := fun _ => Calm.fieldAddr ty_field_54_1 rfl) (h := ?_)
                first | refine dS ?_ | refine dU ?_ | refine dL (hc := ld_ ty_plain_9 rfl) (h := ?_)
                first | refine dS ?_ | refine dU ?_ | refine dG (hc := fun _ => Calm.bin rfl rfl (bin_str_eql _ _)) (h := ?_)
                refine dP (hc := fun _ => (by first | exact Calm.pickT rfl rfl | exact Calm.pickF rfl rfl)) (h := ?_)
                refine dP (hc := fun _ => Calm.move rfl) (h := ?_)
                first | refine dS ?_ | refine dU ?_ | refine dG (hc := fun _ => Calm.fieldAddr ty_field_54_1 rfl) (h := ?_)
                first | refine dS ?_ | refine dU ?_ | refine dL (hc := ld_ ty_plain_9 rfl) (h := ?_)
                first | refine dS ?_ | refine dU ?_ | refine dL (hc := Calm.lenStr (strT_spec ty_str_9) rfl) (h := ?_)
                first | refine dS ?_ | refine dU ?_ | refine dG (hc := fun _ => Calm.bin rfl rfl b_rem) (h := ?_)
                first | refine dS ?_ | refine dU ?_ | refine dG (hc := fun _ => Calm.bin rfl rfl b_neq) (h := ?_)
                refine dP (hc := fun _ => (by first | exact Calm.pickT rfl rfl | exact Calm.pickF rfl rfl)) (h := ?_)
                refine draw_nil ?_
                refine athen_n ?_
                refine AWP.sub [(1, _), (34, _), (35, _), (36, _), (37, _), (4, _), (3, _), (72, _)] ⟨rfl, rfl, rfl, rfl, rfl, rfl, rfl, rfl, trivial⟩ ?_
                refine AWP.condT rfl (by first | rfl | (simp; done) | (simp; omega)) ?_
                refine AWP.seq ?_
                refine AWP.region ?_
                refine rC (Calm.assign rfl) ?_
                refine arun_nil ?_
                refine athen_n ?_
                refine AWP.ret ?_
                refine athen_ret ?_
                refine ain_ret ?_
                refine athen_ret ?_
                refine athen_ret ?_
                refine ain_ret ?_
                refine athen_ret ?_
                refine ⟨_, S, ⟨_, _, rfl, rfl, rfl⟩, hT1.trans less_, ?_⟩
                exact ⟨by rw [chkD_no (fun h => q5 (hra h).1.1)]; rfl, rfl⟩
            · have hc : i = ext.length := by have := of_decide_eq_false hc; omega
              subst hc
              have q5 := upto_all hup
              have hul := used_ge q5.ok
              have hus := q5.us
              refine AWP.exit ?_
              refine athen_exit ?_
              refine athen_exit ?_
              refine ain_same ?_
              refine athen_n ?_
              refine AWP.seq ?_
              refine AWP.seq ?_
              refine AWP.region ?_
              refine rC (Calm.fieldAddr ty_field_25_2 rfl) ?_
              refine rC (ld_ ty_plain_23 rfl) ?_
              refine rC (Calm.lenSl Try.underlying23 rfl) ?_
              refine rC (Calm.move rfl) ?_
              refine arun_nil ?_
              refine athen_n ?_
              refine AWP.sub [(1, _), (34, _), (35, _), (36, _), (37, _), (84, _), (85, _), (86, _)] ⟨rfl, rfl, rfl, rfl, rfl, rfl, rfl, rfl, trivial⟩ ?_
              refine AWP.block ?_
              refine AWP.loop (X := Nat) (fun x => [(1, .pointer (some ⟨b1, 0, none⟩)), (84, .slice pw waits.length cw), (85, .int .i64 waits.length), (86, .int .i64 x)]) (fun x => T1) (fun x => x ≤ waits.length ∧ ∀ j (h : j < waits.length), j < x → wok ext waits[j]) (fun x => waits.length - x) (0) ⟨rfl, rfl, rfl, rfl, trivial⟩ (Mem.Less.refl _) (⟨Nat.zero_le _, fun j _ h => absurd h (Nat.not_lt_zero _)⟩) ?_
              rintro i ⟨hi, hall⟩
              (try dsimp only at *)
              refine AWP.seq ?_
              refine AWP.region ?_
              refine rC (Calm.bin rfl rfl b_lss) ?_
              refine arun_nil ?_
              refine athen_n ?_
              refine AWP.seq ?_
              refine AWP.condB rfl (fun hc => ?_) (fun hc => ?_)
              · have hc : i < waits.length := by have := of_decide_eq_true hc; omega
                obtain ⟨b, off, rfl, hk⟩ := hW3.resolve_left (fun e => by subst e; simp at hc)
                have hki := (hk i hc).less hT1
                have hwz := hz.wz _ (List.getElem_mem hc)
                have hwn : ¬ wok ext waits[i] → ¬ Right ⟨size, ext, waits, fuse, down⟩ := fun h h' => h (h'.wr _ (List.getElem_mem hc))
                have hall' : wok ext waits[i] → ∀ j (h : j < waits.length), j < i + 1 → wok ext waits[j] := fun hw j h hj => by rcases Nat.lt_or_ge j i with h' | h'; exact hall j h h'; obtain rfl : j = i := (by omega); exact hw
                have hhp := has_pos q5.asc waits[i].1
                have hwh := wok_has (l := ext) (w := waits[i])
                have hwp := fun (p : Nat) (hp : p < ext.length) (e : ext[p].1 = (waits[i]'hc).1) => wok_pos q5.asc hp e
                generalize waits[i] = w at *
                unfold wrF at hki
                refine AWP.skip ?_
                refine athen_n ?_
                refine AWP.seq ?_
                refine AWP.block ?_
                refine AWP.seq ?_
                refine AWP.region ?_
                refine rC (Calm.indexS Try.underlying23 ty_size_51 rfl rfl (by omega) (by omega)) ?_
                refine rC (ldA_ (cs := [_, _, _]) ty_agg_51 ty_size_51 rfl) ?_
                refine ARun.alloc (lit_lt rfl) ty_zero_51 ?_
                intro b6 f6
                have g6 := f6
                repeat ((with_reducible replace g6 := fresh_set g6); obtain ⟨g6, _⟩ := g6)
                have := g6.ne kb1; have := g6.ne' kb1
                (try simp only [List.length_cons, List.length_nil, Nat.zero_add, Nat.reduceAdd])
                first | refine ARun.storeAll rfl rfl ty_size_51 own_ rfl rfl ?_ | refine ARun.store rfl rfl ty_size_51 own_ lens_ rfl ?_
                (try simp only [Mem.set_set, List.set_cons_zero, List.set_cons_succ, Nat.zero_add, Nat.reduceAdd])
                refine arun_nil ?_
                refine athen_n ?_
                refine AWP.sub [(1, _), (84, _), (85, _), (86, _), (87, _), (6, _)] ⟨rfl, rfl, rfl, rfl, rfl, rfl, trivial⟩ ?_
                refine AWP.seq ?_
                refine AWP.region ?_
                refine rC (Calm.fieldAddr ty_field_25_1 rfl) ?_
                refine rC (ld_ ty_plain_22 rfl) ?_
                refine rC (Calm.fieldAddr ty_field_51_0 rfl) ?_
                refine rC (ld_ ty_plain_9 rfl) ?_
                refine ARun.call (lit_lt rfl) go_50 rfl (rd_Find _ ext w.1 _ (hE.less less_) q5.asc) ?_
                rintro _ S1 ⟨rfl, h1⟩
                rw [h1]; clear h1 S1
                refine rC (Calm.assign rfl) ?_
                refine arun_nil ?_
                refine athen_n ?_
                refine AWP.sub [(1, _), (84, _), (85, _), (86, _), (87, _), (6, _), (7, _)] ⟨rfl, rfl, rfl, rfl, rfl, rfl, rfl, trivial⟩ ?_
                by_cases q6 : has ext w.1 = true
                · obtain ⟨hp, hpe⟩ := hhp.1 q6
                  obtain ⟨be, oe, hpe2, hke⟩ := hE3.resolve_left (fun e => by subst e; simp at hp)
                  subst hpe2
                  have hkp := (hke _ hp).less hT1
                  have hsz := hez _ (List.getElem_mem hp)
                  replace hwp := hwp _ hp hpe
                  have hfn : fnd ext w.1 = (pos ext w.1 : Nat) := by unfold fnd; rw [if_pos q6]
                  rw [hfn]
                  generalize hpp : pos ext w.1 = p at *
                  generalize hxx : ext[p] = x at *
                  unfold extF at hkp
                  have hsx : sec x ≤ 140737488351232 := by unfold sec; omega
                  have hsd : sec x = x.2.size / 64 := rfl
                  by_cases q7 : w.2.1 < 0
                  · refine AWP.seq ?_
                    refine AWP.draw [(0, true), (1, true), (2, true), (3, true), (4, true), (5, true), (6, true), (7, true), (8, true), (9, true), (10, true), (11, true), (12, true), (13, true), (14, true), (15, true), (16, true), (17, true), (18, true), (19, true), (20, true), (21, true), (22, true), (23, true), (24, true), (25, true)] [] mixed (by kernel_rfl) ?_
                    refine dP (hc := fun _ => Calm.move rfl) (h := ?_)
                    refine dP (hc := fun _ => Calm.bin rfl rfl b_lss) (h := ?_)
                    refine dP (hc := fun _ => Calm.move rfl) (h := ?_)
                    first | refine dS ?_ | refine dU ?_ | refine dG (hc := fun _ => Calm.fieldAddr ty_field_51_1 rfl) (h := ?_)
                    first | refine dS ?_ | refine dU ?_ | refine dL (hc := ld_ ty_plain_3 rfl) (h := ?_)
                    first | refine dS ?_ | refine dU ?_ | refine dG (hc := fun _ => Calm.bin rfl rfl b_lss) (h := ?_)
                    refine dP (hc := fun _ => (by first | exact Calm.pickT rfl rfl | exact Calm.pickF rfl rfl)) (h := ?_)
                    refine dP (hc := fun _ => Calm.move rfl) (h := ?_)
                    first | refine dS ?_ | refine dU ?_ | refine dG (hc := fun _ => Calm.fieldAddr ty_field_51_1 rfl) (h := ?_)
                    first | refine dS ?_ | refine dU ?_ | refine dL (hc := ld_ ty_plain_3 rfl) (h := ?_)
                    first | refine dS ?_ | refine dU ?_ | refine dG (hc := fun _ => Calm.fieldAddr ty_field_25_1 rfl) (h := ?_)
                    first | refine dS ?_ | refine dU ?_ | refine dL (hc := ld_ ty_plain_22 rfl) (h := ?_)
                    first | refine dS ?_ | refine dU ?_ | refine dG (hc := fun _ => Calm.move rfl) (h := ?_)
                    first | refine dS ?_ | refine dU ?_ | refine dG (hc := fun _ => Calm.indexS Try.underlying22 ty_size_54 rfl rfl (by omega) (by omega)) (h := ?_)
                    first | refine dS ?_ | refine dU ?_ | refine dG (hc := fun _ => Calm.fieldAddr ty_field_54_1 rfl) (h := ?_)
                    first | refine dS ?_ | refine dU ?_ | refine dL (hc := ld_ ty_plain_9 rfl) (h := ?_)
                    first | refine dS ?_ | refine dU ?_ | refine dL (hc := Calm.lenStr (strT_spec ty_str_9) rfl) (h := ?_)
                    first | refine dS ?_ | refine dU ?_ | refine dG (hc := fun _ => Calm.bin rfl rfl b_quo_i64) (h := ?_)
                    first | refine dS ?_ | refine dU ?_ | refine dG (hc := fun _ => Calm.bin rfl rfl b_geq) (h := ?_)
                    refine dP (hc := fun _ => (by first | exact Calm.pickT rfl rfl | exact Calm.pickF rfl rfl)) (h := ?_)
                    refine dP (hc := fun _ => Calm.move rfl) (h := ?_)
                    first | refine dS ?_ | refine dU ?_ | refine dG (hc := fun _ => Calm.fieldAddr ty_field_51_2 rfl) (h := ?_)
                    first | refine dS ?_ | refine dU ?_ | refine dL (hc := ld_ ty_plain_9 rfl) (h := ?_)
                    first | refine dS ?_ | refine dU ?_ | refine dL (hc := Calm.lenStr (strT_spec ty_str_9) rfl) (h := ?_)
                    first | refine dS ?_ | refine dU ?_ | refine dG (hc := fun _ => Calm.bin rfl rfl b_neq) (h := ?_)
                    refine dP (hc := fun _ => (by first | exact Calm.pickT rfl rfl | exact Calm.pickF rfl rfl)) (h := ?_)
                    refine draw_nil ?_
                    refine athen_n ?_
                    refine AWP.sub [(1, _), (84, _), (85, _), (86, _), (87, _), (6, _), (7, _), (120, _)] ⟨rfl, rfl, rfl, rfl, rfl, rfl, rfl, rfl, trivial⟩ ?_
                    refine AWP.condT rfl (by first | rfl | (simp; done) | (simp; omega)) ?_
                    refine AWP.seq ?_
                    refine AWP.region ?_
                    refine rC (Calm.assign rfl) ?_
                    refine arun_nil ?_
                    refine athen_n ?_
                    refine AWP.ret ?_
                    refine ain_ret ?_
                    refine athen_ret ?_
                    refine athen_ret ?_
                    refine ain_ret ?_
                    refine athen_ret ?_
                    refine ⟨_, S, ⟨_, _, rfl, rfl, rfl⟩, hT1.trans less_, ?_⟩
                    exact ⟨by rw [chkD_no (hwn (fun h => absurd (hwp.1 h).1 (by omega)))]; rfl, rfl⟩
                  · by_cases q8 : (sec x : Int) ≤ w.2.1
                    · refine AWP.seq ?_
                      refine AWP.draw [(0, true), (1, true), (2, true), (3, true), (4, true), (5, true), (6, true), (7, true), (8, true), (9, true), (10, true), (11, true), (12, true), (13, true), (14, true), (15, true), (16, true), (17, true), (18, true), (19, true), (20, true), (21, true), (22, true), (23, true), (24, true), (25, true)] [] mixed (by kernel_rfl) ?_
                      refine dP (hc := fun _ => Calm.move rfl) (h := ?_)
                      refine dP (hc := fun _ => Calm.bin rfl rfl b_lss) (h := ?_)
                      refine dP (hc := fun _ => Calm.move rfl) (h := ?_)
                      first | refine dS ?_ | refine dU ?_ | refine dG (hc := fun _ => Calm.fieldAddr ty_field_51_1 rfl) (h := ?_)
                      first | refine dS ?_ | refine dU ?_ | refine dL (hc := ld_ ty_plain_3 rfl) (h := ?_)
                      first | refine dS ?_ | refine dU ?_ | refine dG (hc := fun _ => Calm.bin rfl rfl b_lss) (h := ?_)
                      refine dP (hc := fun _ => (by first | exact Calm.pickT rfl rfl | exact Calm.pickF rfl rfl)) (h := ?_)
                      refine dP (hc := fun _ => Calm.move rfl) (h := ?_)
                      first | refine dS ?_ | refine dU ?_ | refine dG (hc := fun _ => Calm.fieldAddr ty_field_51_1 rfl) (h := ?_)
                      first | refine dS ?_ | refine dU ?_ | refine dL (hc := ld_ ty_plain_3 rfl) (h := ?_)
                      first | refine dS ?_ | refine dU ?_ | refine dG (hc := fun _ => Calm.fieldAddr ty_field_25_1 rfl) (h := ?_)
                      first | refine dS ?_ | refine dU ?_ | refine dL (hc := ld_ ty_plain_22 rfl) (h := ?_)
                      first | refine dS ?_ | refine dU ?_ | refine dG (hc := fun _ => Calm.move rfl) (h := ?_)
                      first | refine dS ?_ | refine dU ?_ | refine dG (hc := fun _ => Calm.indexS Try.underlying22 ty_size_54 rfl rfl (by omega) (by omega)) (h := ?_)
                      first | refine dS ?_ | refine dU ?_ | refine dG (hc := fun _ => Calm.fieldAddr ty_field_54_1 rfl) (h := ?_)
                      first | refine dS ?_ | refine dU ?_ | refine dL (hc := Calm.loadK ty_plain_9 rfl ((kn_at hkp 1 rfl).less less_)) (h := ?_)
                      first | refine dS ?_ | refine dU ?_ | refine dL (hc := Calm.lenStr (strT_spec ty_str_9) rfl) (h := ?_)
                      first | refine dS ?_ | refine dU ?_ | refine dG (hc := fun _ => Calm.bin rfl rfl b_quo_i64) (h := ?_)
                      first | refine dS ?_ | refine dU ?_ | refine dG (hc := fun _ => Calm.bin rfl rfl b_geq) (h := ?_)
                      refine dP (hc := fun _ => (by first | exact Calm.pickT rfl rfl | exact Calm.pickF rfl rfl)) (h := ?_)
                      refine dP (hc := fun _ => Calm.move rfl) (h := ?_)
                      first | refine dS ?_ | refine dU ?_ | refine dG (hc := fun _ => Calm.fieldAddr ty_field_51_2 rfl) (h := ?_)
                      first | refine dS ?_ | refine dU ?_ | refine dL (hc := ld_ ty_plain_9 rfl) (h := ?_)
                      first | refine dS ?_ | refine dU ?_ | refine dL (hc := Calm.lenStr (strT_spec ty_str_9) rfl) (h := ?_)
                      first | refine dS ?_ | refine dU ?_ | refine dG (hc := fun _ => Calm.bin rfl rfl b_neq) (h := ?_)
                      refine dP (hc := fun _ => (by first | exact Calm.pickT rfl rfl | exact Calm.pickF rfl rfl)) (h := ?_)
                      refine draw_nil ?_
                      refine athen_n ?_
                      refine AWP.sub [(1, _), (84, _), (85, _), (86, _), (87, _), (6, _), (7, _), (120, _)] ⟨rfl, rfl, rfl, rfl, rfl, rfl, rfl, rfl, trivial⟩ ?_
                      refine AWP.condT rfl (by first | rfl | (simp; done) | (simp; omega)) ?_
                      refine AWP.seq ?_
                      refine AWP.region ?_
                      refine rC (Calm.assign rfl) ?_
                      refine arun_nil ?_
                      refine athen_n ?_
                      refine AWP.ret ?_
                      refine ain_ret ?_
                      refine athen_ret ?_
                      refine athen_ret ?_
                      refine ain_ret ?_
                      refine athen_ret ?_
                      refine ⟨_, S, ⟨_, _, rfl, rfl, rfl⟩, hT1.trans less_, ?_⟩
                      exact ⟨by rw [chkD_no (hwn (fun h => absurd (hwp.1 h).2.1 (by omega)))]; rfl, rfl⟩
                    · by_cases q9 : w.2.2.size = 64
                      · refine AWP.seq ?_
                        refine AWP.draw [(0, true), (1, true), (2, true), (3, true), (4, true), (5, true), (6, true), (7, true), (8, true), (9, true), (10, true), (11, true), (12, true), (13, true), (14, true), (15, true), (16, true), (17, true), (18, true), (19, true), (20, true), (21, true), (22, true), (23, true), (24, true), (25, true)] [] mixed (by kernel_rfl) ?_
                        refine dP (hc := fun _ => Calm.move rfl) (h := ?_)
                        refine dP (hc := fun _ => Calm.bin rfl rfl b_lss) (h := ?_)
                        refine dP (hc := fun _ => Calm.move rfl) (h := ?_)
                        first | refine dS ?_ | refine dU ?_ | refine dG (hc := fun _ => Calm.fieldAddr ty_field_51_1 rfl) (h := ?_)
                        first | refine dS ?_ | refine dU ?_ | refine dL (hc := ld_ ty_plain_3 rfl) (h := ?_)
                        first | refine dS ?_ | refine dU ?_ | refine dG (hc := fun _ => Calm.bin rfl rfl b_lss) (h := ?_)
                        refine dP (hc := fun _ => (by first | exact Calm.pickT rfl rfl | exact Calm.pickF rfl rfl)) (h := ?_)
                        refine dP (hc := fun _ => Calm.move rfl) (h := ?_)
                        first | refine dS ?_ | refine dU ?_ | refine dG (hc := fun _ => Calm.fieldAddr ty_field_51_1 rfl) (h := ?_)
                        first | refine dS ?_ | refine dU ?_ | refine dL (hc := ld_ ty_plain_3 rfl) (h := ?_)
                        first | refine dS ?_ | refine dU ?_ | refine dG (hc := fun _ => Calm.fieldAddr ty_field_25_1 rfl) (h := ?_)
                        first | refine dS ?_ | refine dU ?_ | refine dL (hc := ld_ ty_plain_22 rfl) (h := ?_)
                        first | refine dS ?_ | refine dU ?_ | refine dG (hc := fun _ => Calm.move rfl) (h := ?_)
                        first | refine dS ?_ | refine dU ?_ | refine dG (hc := fun _ => Calm.indexS Try.underlying22 ty_size_54 rfl rfl (by omega) (by omega)) (h := ?_)
                        first | refine dS ?_ | refine dU ?_ | refine dG (hc := fun _ => Calm.fieldAddr ty_field_54_1 rfl) (h := ?_)
                        first | refine dS ?_ | refine dU ?_ | refine dL (hc := Calm.loadK ty_plain_9 rfl ((kn_at hkp 1 rfl).less less_)) (h := ?_)
                        first | refine dS ?_ | refine dU ?_ | refine dL (hc := Calm.lenStr (strT_spec ty_str_9) rfl) (h := ?_)
                        first | refine dS ?_ | refine dU ?_ | refine dG (hc := fun _ => Calm.bin rfl rfl b_quo_i64) (h := ?_)
                        first | refine dS ?_ | refine dU ?_ | refine dG (hc := fun _ => Calm.bin rfl rfl b_geq) (h := ?_)
                        refine dP (hc := fun _ => (by first | exact Calm.pickT rfl rfl | exact Calm.pickF rfl rfl)) (h := ?_)
                        refine dP (hc := fun _ => Calm.move rfl) (h := ?_)
                        first | refine dS ?_ | refine dU ?_ | refine dG (hc := fun _ => Calm.fieldAddr ty_field_51_2 rfl) (h := ?_)
                        first | refine dS ?_ | refine dU ?_ | refine dL (hc := ld_ ty_plain_9 rfl) (h := ?_)
                        first | refine dS ?_ | refine dU ?_ | refine dL (hc := Calm.lenStr (strT_spec ty_str_9) rfl) (h := ?_)
                        first | refine dS ?_ | refine dU ?_ | refine dG (hc := fun _ => Calm.bin rfl rfl b_neq) (h := ?_)
                        refine dP (hc := fun _ => (by first | exact Calm.pickT rfl rfl | exact Calm.pickF rfl rfl)) (h := ?_)
                        refine draw_nil ?_
                        refine athen_n ?_
                        refine AWP.sub [(1, _), (84, _), (85, _), (86, _), (87, _), (6, _), (7, _), (120, _)] ⟨rfl, rfl, rfl, rfl, rfl, rfl, rfl, rfl, trivial⟩ ?_
                        refine AWP.condF rfl (by first | rfl | (simp; done) | (simp; omega)) ?_
                        refine AWP.skip ?_
                        refine ain_n ?_
                        refine athen_n ?_
                        refine AWP.region ?_
                        refine rC (Calm.bin rfl rfl b_add_i64) ?_
                        refine rC (Calm.move rfl) ?_
                        refine arun_nil ?_
                        refine athen_n ?_
                        refine ⟨i + 1, ?_, ?_, ?_, ?_⟩
                        all_goals (try dsimp only)
                        · exact ⟨rfl, rfl, rfl, rfl, trivial⟩
                        · exact less_
                        · exact ⟨hc, hall' (hwp.2 ⟨by omega, by omega, q9⟩)⟩
                        · omega
                      · refine AWP.seq ?_
                        refine AWP.draw [(0, true), (1, true), (2, true), (3, true), (4, true), (5, true), (6, true), (7, true), (8, true), (9, true), (10, true), (11, true), (12, true), (13, true), (14, true), (15, true), (16, true), (17, true), (18, true), (19, true), (20, true), (21, true), (22, true), (23, true), (24, true), (25, true)] [] mixed (by kernel_rfl) ?_
                        refine dP (hc := fun _ => Calm.move rfl) (h := ?_)
                        refine dP (hc := fun _ => Calm.bin rfl rfl b_lss) (h := ?_)
                        refine dP (hc := fun _ => Calm.move rfl) (h := ?_)
                        first | refine dS ?_ | refine dU ?_ | refine dG (hc := fun _ => Calm.fieldAddr ty_field_51_1 rfl) (h := ?_)
                        first | refine dS ?_ | refine dU ?_ | refine dL (hc := ld_ ty_plain_3 rfl) (h := ?_)
                        first | refine dS ?_ | refine dU ?_ | refine dG (hc := fun _ => Calm.bin rfl rfl b_lss) (h := ?_)
                        refine dP (hc := fun _ => (by first | exact Calm.pickT rfl rfl | exact Calm.pickF rfl rfl)) (h := ?_)
                        refine dP (hc := fun _ => Calm.move rfl) (h := ?_)
                        first | refine dS ?_ | refine dU ?_ | refine dG (hc := fun _ => Calm.fieldAddr ty_field_51_1 rfl) (h := ?_)
                        first | refine dS ?_ | refine dU ?_ | refine dL (hc := ld_ ty_plain_3 rfl) (h := ?_)
                        first | refine dS ?_ | refine dU ?_ | refine dG (hc := fun _ => Calm.fieldAddr ty_field_25_1 rfl) (h := ?_)
                        first | refine dS ?_ | refine dU ?_ | refine dL (hc := ld_ ty_plain_22 rfl) (h := ?_)
                        first | refine dS ?_ | refine dU ?_ | refine dG (hc := fun _ => Calm.move rfl) (h := ?_)
                        first | refine dS ?_ | refine dU ?_ | refine dG (hc := fun _ => Calm.indexS Try.underlying22 ty_size_54 rfl rfl (by omega) (by omega)) (h := ?_)
                        first | refine dS ?_ | refine dU ?_ | refine dG (hc := fun _ => Calm.fieldAddr ty_field_54_1 rfl) (h := ?_)
                        first | refine dS ?_ | refine dU ?_ | refine dL (hc := Calm.loadK ty_plain_9 rfl ((kn_at hkp 1 rfl).less less_)) (h := ?_)
                        first | refine dS ?_ | refine dU ?_ | refine dL (hc := Calm.lenStr (strT_spec ty_str_9) rfl) (h := ?_)
                        first | refine dS ?_ | refine dU ?_ | refine dG (hc := fun _ => Calm.bin rfl rfl b_quo_i64) (h := ?_)
                        first | refine dS ?_ | refine dU ?_ | refine dG (hc := fun _ => Calm.bin rfl rfl b_geq) (h := ?_)
                        refine dP (hc := fun _ => (by first | exact Calm.pickT rfl rfl | exact Calm.pickF rfl rfl)) (h := ?_)
                        refine dP (hc := fun _ => Calm.move rfl) (h := ?_)
                        first | refine dS ?_ | refine dU ?_ | refine dG (hc := fun _ => Calm.fieldAddr ty_field_51_2 rfl) (h := ?_)
                        first | refine dS ?_ | refine dU ?_ | refine dL (hc := ld_ ty_plain_9 rfl) (h := ?_)
                        first | refine dS ?_ | refine dU ?_ | refine dL (hc := Calm.lenStr (strT_spec ty_str_9) rfl) (h := ?_)
                        first | refine dS ?_ | refine dU ?_ | refine dG (hc := fun _ => Calm.bin rfl rfl b_neq) (h := ?_)
                        refine dP (hc := fun _ => (by first | exact Calm.pickT rfl rfl | exact Calm.pickF rfl rfl)) (h := ?_)
                        refine draw_nil ?_
                        refine athen_n ?_
                        refine AWP.sub [(1, _), (84, _), (85, _), (86, _), (87, _), (6, _), (7, _), (120, _)] ⟨rfl, rfl, rfl, rfl, rfl, rfl, rfl, rfl, trivial⟩ ?_
                        refine AWP.condT rfl (by first | rfl | (simp; done) | (simp; omega)) ?_
                        refine AWP.seq ?_
                        refine AWP.region ?_
                        refine rC (Calm.assign rfl) ?_
                        refine arun_nil ?_
                        refine athen_n ?_
                        refine AWP.ret ?_
                        refine ain_ret ?_
                        refine athen_ret ?_
                        refine athen_ret ?_
                        refine ain_ret ?_
                        refine athen_ret ?_
                        refine ⟨_, S, ⟨_, _, rfl, rfl, rfl⟩, hT1.trans less_, ?_⟩
                        exact ⟨by rw [chkD_no (hwn (fun h => q9 (hwp.1 h).2.2))]; rfl, rfl⟩
                · have hfn : fnd ext w.1 = -1 := by unfold fnd; rw [if_neg q6]
                  rw [hfn]
                  refine AWP.seq ?_
                  refine AWP.draw [(0, true), (1, true), (2, true), (3, true), (4, true), (5, true), (6, true), (7, true), (8, true), (9, true), (10, true), (11, true), (12, true), (13, true), (14, true), (15, true), (16, true), (17, true), (18, true), (19, true), (20, true), (21, true), (22, true), (23, true), (24, true), (25, true)] [] mixed (by kernel_rfl) ?_
                  refine dP (hc := fun _ => Calm.move rfl) (h := ?_)
                  refine dP (hc := fun _ => Calm.bin rfl rfl b_lss) (h := ?_)
                  refine dP (hc := fun _ => Calm.move rfl) (h := ?_)
                  first | refine dS ?_ | refine dU ?_ | refine dG (hc := fun _ => Calm.fieldAddr ty_field_51_1 rfl) (h := ?_)
                  first | refine dS ?_ | refine dU ?_ | refine dL (hc := ld_ ty_plain_3 rfl) (h := ?_)
                  first | refine dS ?_ | refine dU ?_ | refine dG (hc := fun _ => Calm.bin rfl rfl b_lss) (h := ?_)
                  refine dP (hc := fun _ => (by first | exact Calm.pickT rfl rfl | exact Calm.pickF rfl rfl)) (h := ?_)
                  refine dP (hc := fun _ => Calm.move rfl) (h := ?_)
                  first | refine dS ?_ | refine dU ?_ | refine dG (hc := fun _ => Calm.fieldAddr ty_field_51_1 rfl) (h := ?_)
                  first | refine dS ?_ | refine dU ?_ | refine dL (hc := ld_ ty_plain_3 rfl) (h := ?_)
                  first | refine dS ?_ | refine dU ?_ | refine dG (hc := fun _ => Calm.fieldAddr ty_field_25_1 rfl) (h := ?_)
                  first | refine dS ?_ | refine dU ?_ | refine dL (hc := ld_ ty_plain_22 rfl) (h := ?_)
                  first | refine dS ?_ | refine dU ?_ | refine dG (hc := fun _ => Calm.move rfl) (h := ?_)
                  first | refine dS ?_ | refine dU ?_ | refine dG (hc := fun _ => Calm.indexS Try.underlying22 ty_size_54 rfl rfl (by omega) (by omega)) (h := ?_)
                  first | refine dS ?_ | refine dU ?_ | refine dG (hc := fun _ => Calm.fieldAddr ty_field_54_1 rfl) (h := ?_)
                  first | refine dS ?_ | refine dU ?_ | refine dL (hc := ld_ ty_plain_9 rfl) (h := ?_)
                  first | refine dS ?_ | refine dU ?_ | refine dL (hc := Calm.lenStr (strT_spec ty_str_9) rfl) (h := ?_)
                  first | refine dS ?_ | refine dU ?_ | refine dG (hc := fun _ => Calm.bin rfl rfl b_quo_i64) (h := ?_)
                  first | refine dS ?_ | refine dU ?_ | refine dG (hc := fun _ => Calm.bin rfl rfl b_geq) (h := ?_)
                  refine dP (hc := fun _ => (by first | exact Calm.pickT rfl rfl | exact Calm.pickF rfl rfl)) (h := ?_)
                  refine dP (hc := fun _ => Calm.move rfl) (h := ?_)
                  first | refine dS ?_ | refine dU ?_ | refine dG (hc := fun _ => Calm.fieldAddr ty_field_51_2 rfl) (h := ?_)
                  first | refine dS ?_ | refine dU ?_ | refine dL (hc := ld_ ty_plain_9 rfl) (h := ?_)
                  first | refine dS ?_ | refine dU ?_ | refine dL (hc := Calm.lenStr (strT_spec ty_str_9) rfl) (h := ?_)
                  first | refine dS ?_ | refine dU ?_ | refine dG (hc := fun _ => Calm.bin rfl rfl b_neq) (h := ?_)
                  refine dP (hc := fun _ => (by first | exact Calm.pickT rfl rfl | exact Calm.pickF rfl rfl)) (h := ?_)
                  refine draw_nil ?_
                  refine athen_n ?_
                  refine AWP.sub [(1, _), (84, _), (85, _), (86, _), (87, _), (6, _), (7, _), (120, _)] ⟨rfl, rfl, rfl, rfl, rfl, rfl, rfl, rfl, trivial⟩ ?_
                  refine AWP.condT rfl (by first | rfl | (simp; done) | (simp; omega)) ?_
                  refine AWP.seq ?_
                  refine AWP.region ?_
                  refine rC (Calm.assign rfl) ?_
                  refine arun_nil ?_
                  refine athen_n ?_
                  refine AWP.ret ?_
                  refine ain_ret ?_
                  refine athen_ret ?_
                  refine athen_ret ?_
                  refine ain_ret ?_
                  refine athen_ret ?_
                  refine ⟨_, S, ⟨_, _, rfl, rfl, rfl⟩, hT1.trans less_, ?_⟩
                  exact ⟨by rw [chkD_no (hwn (fun h => q6 (hwh h)))]; rfl, rfl⟩
              · have hc : i = waits.length := by have := of_decide_eq_false hc; omega
                refine AWP.exit ?_
                refine athen_exit ?_
                refine athen_exit ?_
                refine ain_same ?_
                refine athen_n ?_
                refine AWP.seq ?_
                refine AWP.region ?_
                refine rC (Calm.assign rfl) ?_
                refine arun_nil ?_
                refine athen_n ?_
                refine AWP.ret ?_
                refine ⟨_, S, ⟨_, _, rfl, rfl, rfl⟩, hT1.trans less_, ?_⟩
                exact ⟨by rw [chkD_yes ⟨by simp only; omega, by simp only; omega, by simp only; omega, by simp only; omega, q5, fun w hw => by obtain ⟨j, hj, rfl⟩ := List.getElem_of_mem hw; exact hall j hj (by have h' : j < waits.length := hj; omega)⟩]; rfl, rfl⟩
end Go.Proofs.Ytkeiphkccnfhoaa
