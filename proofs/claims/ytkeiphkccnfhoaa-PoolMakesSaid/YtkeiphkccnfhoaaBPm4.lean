/-
  Texts that belong together: Pool4, Pool5, Pool6, Pool7, Pool8, Pool9, Pool10, Pool11, DR1.
-/
import Derived.Test.YtkeiphkccnfhoaaBPm3
namespace Go.Proofs.Ytkeiphkccnfhoaa
open Go.RowKit
open Mv Disk
set_option linter.unusedVariables false
set_option linter.unusedSimpArgs false
set_option maxRecDepth 20000
/-- A pool. -/
structure Pl where
  d : D
  fr : List Fr
  tick : Int
  reads : Int
  writes : Int
def PlR (S : Mem) (v : Value) (p : Pl) : Prop := ∃ pe ce pw cw pf cf, v = .agg #[.int .i64 p.d.size, .slice pe p.d.ext.length ce, .slice pw p.d.waits.length cw, .int .i64 p.d.fuse, .bool p.d.down, .slice pf p.fr.length cf, .int .u64 p.tick, .int .u64 p.reads, .int .u64 p.writes] ∧ Sl 2 extF S (.slice pe p.d.ext.length ce) p.d.ext ∧ Sl 3 wrF S (.slice pw p.d.waits.length cw) p.d.waits ∧ Sl 7 frF S (.slice pf p.fr.length cf) p.fr
theorem PlR.less {S S' : Mem} {v : Value} {p : Pl} (h : PlR S v p) (hl : S.Less S') : PlR S' v p := by
  obtain ⟨pe, ce, pw, cw, pf, cf, e, h1, h2, h3⟩ := h
  exact ⟨pe, ce, pw, cw, pf, cf, e, h1.less hl, h2.less hl, h3.less hl⟩
structure PRight (p : Pl) : Prop where
  dr : Right p.d
  l1 : 1 ≤ p.fr.length
  l2 : p.fr.length ≤ 256
  ok : ∀ i (h : i < p.fr.length), Sound p.d p.fr[i] p.tick ∧ ∀ y ∈ p.fr.take i, ¬ like p.fr[i] y
noncomputable def chkP (p : Pl) : Int := by classical exact if PRight p then 0 else 2
theorem chkP_yes {p : Pl} (h : PRight p) : chkP p = 0 := by unfold chkP; exact if_pos h
theorem chkP_no {p : Pl} (h : ¬ PRight p) : chkP p = 2 := by unfold chkP; exact if_neg h
theorem sl_takeP {α : Type} {n : Nat} {f : α → List Value} {S : Mem} {a : Option Addr} {cap : Nat} {l : List α} (h : Sl n f S (.slice a l.length cap) l) {k : Nat} (hk : k ≤ l.length) : Sl n f S (.slice a k cap) (l.take k) := by
  obtain ⟨a', cap', e, h1, h2, h3⟩ := h
  cases e
  have hl : (l.take k).length = k := by simp; omega
  refine ⟨a, cap, by rw [hl], by omega, by omega, ?_⟩
  rcases h3 with rfl | ⟨b, off, e, hh⟩
  · exact .inl (by simp)
  · exact .inr ⟨b, off, e, fun j hj => by
      rw [List.getElem_take]
      exact hh j (by omega)⟩
set_option maxHeartbeats 8000000 in
theorem pl_Check (v : Value) (p : Pl) (S : Mem) (hp : PlR S v p) (hz : Dz p.d) :
    ACall Try.prog 77 #[v] S fun r S' => r = .int .i64 (chkP p) ∧ S' = S := by
  obtain ⟨pe, ce, pw, cw, pf, cf, rfl, hE, hW, hF⟩ := hp
  have hdk : DkR S (.agg #[.int .i64 p.d.size, .slice pe p.d.ext.length ce, .slice pw p.d.waits.length cw, .int .i64 p.d.fuse, .bool p.d.down]) p.d := ⟨pe, ce, pw, cw, rfl, hE, hW⟩
  have hck := fun S h => disk_Check (.agg #[.int .i64 p.d.size, .slice pe p.d.ext.length ce, .slice pw p.d.waits.length cw, .int .i64 p.d.fuse, .bool p.d.down]) p.d S h hz
  obtain ⟨_, _, ef1, ef2, ef3, hF3⟩ := id hF
  cases ef1
  obtain ⟨d, fr, tick, reads, writes⟩ := p
  simp only at *
  by_cases q1 : Right d
  · rw [chkD_yes q1] at hck
    by_cases q2 : fr.length < 1
    · rw [chkP_no (fun h => absurd h.l1 (by simp only; omega))]
      refine ACall.enter (args := [.agg #[.int .i64 d.size, .slice pe d.ext.length ce, .slice pw d.waits.length cw, .int .i64 d.fuse, .bool d.down, .slice pf fr.length cf, .int .u64 tick, .int .u64 reads, .int .u64 writes]]) (rs := [.tmp 2]) 49 [(0, .agg #[.int .i64 d.size, .slice pe d.ext.length ce, .slice pw d.waits.length cw, .int .i64 d.fuse, .bool d.down, .slice pf fr.length cf, .int .u64 tick, .int .u64 reads, .int .u64 writes])] Try.func77 rfl rfl (Nat.le_of_ble_eq_true rfl) rfl ⟨rfl, trivial⟩ ?_
      refine AWP.seq ?_
      refine AWP.region ?_
      refine ARun.boxA (cs := [_, _, _, _, _, _, _, _, _]) (lit_lt rfl) rfl ?_
      intro b1 f1
      have g1 := f1
      repeat ((with_reducible replace g1 := fresh_set g1); obtain ⟨g1, _⟩ := g1)
      (try simp only [List.length_cons, List.length_nil, Nat.zero_add, Nat.reduceAdd])
      refine rC (Calm.assign rfl) ?_
      refine arun_nil ?_
      refine athen_n ?_
      refine AWP.seq ?_
      refine AWP.seq ?_
      refine AWP.region ?_
      refine rC (Calm.fieldAddr ty_field_60_0 rfl) ?_
      refine rC (ldA_ (cs := [_, _, _, _, _]) ty_agg_25 ty_size_25 rfl) ?_
      refine ARun.call (lit_lt rfl) go_25 rfl (hck _ (hdk.less less_)) ?_
      rintro _ S1 ⟨rfl, h1⟩
      rw [h1]; clear h1 S1
      refine rC (Calm.bin rfl rfl b_neq) ?_
      refine rC (Calm.move rfl) ?_
      first | refine rS 10 ?_ | refine rU 10 ?_ | refine rG 10 (Calm.fieldAddr ty_field_60_1 rfl) ?_
      first | refine rS 10 ?_ | refine rU 10 ?_ | refine rG 10 (ld_ ty_plain_57 rfl) ?_
      first | refine rS 10 ?_ | refine rU 10 ?_ | refine rG 10 (Calm.lenSl Try.underlying57 rfl) ?_
      first | refine rS 10 ?_ | refine rU 10 ?_ | refine rG 10 (Calm.bin rfl rfl b_lss) ?_
      refine rC ((by first | exact Calm.pickT rfl rfl | exact Calm.pickF rfl rfl)) ?_
      refine rC (Calm.move rfl) ?_
      first | refine rS 16 ?_ | refine rU 16 ?_ | refine rG 16 (Calm.fieldAddr ty_field_60_1 rfl) ?_
      first | refine rS 16 ?_ | refine rU 16 ?_ | refine rG 16 (ld_ ty_plain_57 rfl) ?_
      first | refine rS 16 ?_ | refine rU 16 ?_ | refine rG 16 (Calm.lenSl Try.underlying57 rfl) ?_
      first | refine rS 16 ?_ | refine rU 16 ?_ | refine rG 16 (Calm.bin rfl rfl b_gtr) ?_
      refine rC ((by first | exact Calm.pickT rfl rfl | exact Calm.pickF rfl rfl)) ?_
      refine arun_nil ?_
      refine athen_n ?_
      refine AWP.sub [(0, _), (1, _), (2, _), (21, _)] ⟨rfl, rfl, rfl, rfl, trivial⟩ ?_
      refine AWP.condT rfl (by first | rfl | (simp; done) | (simp; omega)) ?_
      refine AWP.seq ?_
      refine AWP.region ?_
      refine rC (Calm.assign rfl) ?_
      refine arun_nil ?_
      refine athen_n ?_
      refine AWP.ret ?_
      refine athen_ret ?_
      refine ⟨_, S, ⟨_, _, rfl, rfl, rfl⟩, less_, ?_⟩
      exact ⟨rfl, rfl⟩
    · by_cases q3 : 256 < fr.length
      · rw [chkP_no (fun h => absurd h.l2 (by simp only; omega))]
        refine ACall.enter (args := [.agg #[.int .i64 d.size, .slice pe d.ext.length ce, .slice pw d.waits.length cw, .int .i64 d.fuse, .bool d.down, .slice pf fr.length cf, .int .u64 tick, .int .u64 reads, .int .u64 writes]]) (rs := [.tmp 2]) 49 [(0, .agg #[.int .i64 d.size, .slice pe d.ext.length ce, .slice pw d.waits.length cw, .int .i64 d.fuse, .bool d.down, .slice pf fr.length cf, .int .u64 tick, .int .u64 reads, .int .u64 writes])] Try.func77 rfl rfl (Nat.le_of_ble_eq_true rfl) rfl ⟨rfl, trivial⟩ ?_
        refine AWP.seq ?_
        refine AWP.region ?_
        refine ARun.boxA (cs := [_, _, _, _, _, _, _, _, _]) (lit_lt rfl) rfl ?_
        intro b1 f1
        have g1 := f1
        repeat ((with_reducible replace g1 := fresh_set g1); obtain ⟨g1, _⟩ := g1)
        (try simp only [List.length_cons, List.length_nil, Nat.zero_add, Nat.reduceAdd])
        refine rC (Calm.assign rfl) ?_
        refine arun_nil ?_
        refine athen_n ?_
        refine AWP.seq ?_
        refine AWP.seq ?_
        refine AWP.region ?_
        refine rC (Calm.fieldAddr ty_field_60_0 rfl) ?_
        refine rC (ldA_ (cs := [_, _, _, _, _]) ty_agg_25 ty_size_25 rfl) ?_
        refine ARun.call (lit_lt rfl) go_25 rfl (hck _ (hdk.less less_)) ?_
        rintro _ S1 ⟨rfl, h1⟩
        rw [h1]; clear h1 S1
        refine rC (Calm.bin rfl rfl b_neq) ?_
        refine rC (Calm.move rfl) ?_
        first | refine rS 10 ?_ | refine rU 10 ?_ | refine rG 10 (Calm.fieldAddr ty_field_60_1 rfl) ?_
        first | refine rS 10 ?_ | refine rU 10 ?_ | refine rG 10 (ld_ ty_plain_57 rfl) ?_
        first | refine rS 10 ?_ | refine rU 10 ?_ | refine rG 10 (Calm.lenSl Try.underlying57 rfl) ?_
        first | refine rS 10 ?_ | refine rU 10 ?_ | refine rG 10 (Calm.bin rfl rfl b_lss) ?_
        refine rC ((by first | exact Calm.pickT rfl rfl | exact Calm.pickF rfl rfl)) ?_
        refine rC (Calm.move rfl) ?_
        first | refine rS 16 ?_ | refine rU 16 ?_ | refine rG 16 (Calm.fieldAddr ty_field_60_1 rfl) ?_
        first | refine rS 16 ?_ | refine rU 16 ?_ | refine rG 16 (ld_ ty_plain_57 rfl) ?_
        first | refine rS 16 ?_ | refine rU 16 ?_ | refine rG 16 (Calm.lenSl Try.underlying57 rfl) ?_
        first | refine rS 16 ?_ | refine rU 16 ?_ | refine rG 16 (Calm.bin rfl rfl b_gtr) ?_
        refine rC ((by first | exact Calm.pickT rfl rfl | exact Calm.pickF rfl rfl)) ?_
        refine arun_nil ?_
        refine athen_n ?_
        refine AWP.sub [(0, _), (1, _), (2, _), (21, _)] ⟨rfl, rfl, rfl, rfl, trivial⟩ ?_
        refine AWP.condT rfl (by first | rfl | (simp; done) | (simp; omega)) ?_
        refine AWP.seq ?_
        refine AWP.region ?_
        refine rC (Calm.assign rfl) ?_
        refine arun_nil ?_
        refine athen_n ?_
        refine AWP.ret ?_
        refine athen_ret ?_
        refine ⟨_, S, ⟨_, _, rfl, rfl, rfl⟩, less_, ?_⟩
        exact ⟨rfl, rfl⟩
      · skip
        refine ACall.enter (args := [.agg #[.int .i64 d.size, .slice pe d.ext.length ce, .slice pw d.waits.length cw, .int .i64 d.fuse, .bool d.down, .slice pf fr.length cf, .int .u64 tick, .int .u64 reads, .int .u64 writes]]) (rs := [.tmp 2]) 49 [(0, .agg #[.int .i64 d.size, .slice pe d.ext.length ce, .slice pw d.waits.length cw, .int .i64 d.fuse, .bool d.down, .slice pf fr.length cf, .int .u64 tick, .int .u64 reads, .int .u64 writes])] Try.func77 rfl rfl (Nat.le_of_ble_eq_true rfl) rfl ⟨rfl, trivial⟩ ?_
        refine AWP.seq ?_
        refine AWP.region ?_
        refine ARun.boxA (cs := [_, _, _, _, _, _, _, _, _]) (lit_lt rfl) rfl ?_
        intro b1 f1
        have g1 := f1
        repeat ((with_reducible replace g1 := fresh_set g1); obtain ⟨g1, _⟩ := g1)
        (try simp only [List.length_cons, List.length_nil, Nat.zero_add, Nat.reduceAdd])
        refine rC (Calm.assign rfl) ?_
        refine arun_nil ?_
        refine athen_n ?_
        refine named (S := S) (b := b1) g1.1 ?_
        intro T1 hT1 kb1
        replace hE := hE.less hT1
        replace hW := hW.less hT1
        replace hF := hF.less hT1
        refine AWP.seq ?_
        refine AWP.seq ?_
        refine AWP.region ?_
        refine rC (Calm.fieldAddr ty_field_60_0 rfl) ?_
        refine rC (ldA_ (cs := [_, _, _, _, _]) ty_agg_25 ty_size_25 rfl) ?_
        refine ARun.call (lit_lt rfl) go_25 rfl (hck _ (hdk.less (hT1.trans less_))) ?_
        rintro _ S1 ⟨rfl, h1⟩
        rw [h1]; clear h1 S1
        refine rC (Calm.bin rfl rfl b_neq) ?_
        refine rC (Calm.move rfl) ?_
        first | refine rS 10 ?_ | refine rU 10 ?_ | refine rG 10 (Calm.fieldAddr ty_field_60_1 rfl) ?_
        first | refine rS 10 ?_ | refine rU 10 ?_ | refine rG 10 (ld_ ty_plain_57 rfl) ?_
        first | refine rS 10 ?_ | refine rU 10 ?_ | refine rG 10 (Calm.lenSl Try.underlying57 rfl) ?_
        first | refine rS 10 ?_ | refine rU 10 ?_ | refine rG 10 (Calm.bin rfl rfl b_lss) ?_
        refine rC ((by first | exact Calm.pickT rfl rfl | exact Calm.pickF rfl rfl)) ?_
        refine rC (Calm.move rfl) ?_
        first | refine rS 16 ?_ | refine rU 16 ?_ | refine rG 16 (Calm.fieldAddr ty_field_60_1 rfl) ?_
        first | refine rS 16 ?_ | refine rU 16 ?_ | refine rG 16 (ld_ ty_plain_57 rfl) ?_
        first | refine rS 16 ?_ | refine rU 16 ?_ | refine rG 16 (Calm.lenSl Try.underlying57 rfl) ?_
        first | refine rS 16 ?_ | refine rU 16 ?_ | refine rG 16 (Calm.bin rfl rfl b_gtr) ?_
        refine rC ((by first | exact Calm.pickT rfl rfl | exact Calm.pickF rfl rfl)) ?_
        refine arun_nil ?_
        refine athen_n ?_
        refine AWP.sub [(0, _), (1, _), (2, _), (21, _)] ⟨rfl, rfl, rfl, rfl, trivial⟩ ?_
        refine AWP.condF rfl (by first | rfl | (simp; done) | (simp; omega)) ?_
        refine AWP.skip ?_
        refine athen_n ?_
        refine AWP.seq ?_
        refine AWP.region ?_
        refine rC (Calm.fieldAddr ty_field_60_0 rfl) ?_
        refine rC (ldA_ (cs := [_, _, _, _, _]) ty_agg_25 ty_size_25 rfl) ?_
        refine rC (Calm.build (cs := [_, _, _, _, _]) ty_bld_90 rfl rfl) ?_
        refine ARun.boxA (cs := [_, _, _, _, _]) (lit_lt rfl) rfl ?_
        intro b25 f25
        have g25 := f25
        repeat ((with_reducible replace g25 := fresh_set g25); obtain ⟨g25, _⟩ := g25)
        have := g25.ne kb1; have := g25.ne' kb1
        (try simp only [List.length_cons, List.length_nil, Nat.zero_add, Nat.reduceAdd])
        refine rC (Calm.assign rfl) ?_
        refine arun_nil ?_
        refine athen_n ?_
        refine AWP.sub [(0, _), (1, _), (2, _), (21, _), (3, _)] ⟨rfl, rfl, rfl, rfl, rfl, trivial⟩ ?_
        refine named (S := T1) (b := b25) g25.1 ?_
        intro T25 hT25 kb25
        replace hE := hE.less hT25
        replace hW := hW.less hT25
        replace hF := hF.less hT25
        replace kb1 := hT25.own kb1
        have hrd : RdV T25 b25 d := ⟨pe, ce, pw, cw, kb25, hE, hW⟩
        refine AWP.seq ?_
        refine AWP.seq ?_
        refine AWP.region ?_
        refine rC (Calm.fieldAddr ty_field_60_1 rfl) ?_
        refine rC (ld_ ty_plain_57 rfl) ?_
        refine rC (Calm.lenSl Try.underlying57 rfl) ?_
        refine rC (Calm.move rfl) ?_
        refine arun_nil ?_
        refine athen_n ?_
        refine AWP.sub [(0, _), (1, _), (2, _), (21, _), (3, _), (27, _), (28, _), (29, _)] ⟨rfl, rfl, rfl, rfl, rfl, rfl, rfl, rfl, trivial⟩ ?_
        refine AWP.block ?_
        refine AWP.loop (X := Nat) (fun x => [(1, .pointer (some ⟨b1, 0, none⟩)), (3, .pointer (some ⟨b25, 0, none⟩)), (27, .slice pf fr.length cf), (28, .int .i64 fr.length), (29, .int .i64 x)]) (fun x => T25) (fun x => x ≤ fr.length ∧ ∀ i (h : i < fr.length), i < x → Sound d fr[i] tick ∧ ∀ y ∈ fr.take i, ¬ like fr[i] y) (fun x => fr.length - x) (0) ⟨rfl, rfl, rfl, rfl, rfl, trivial⟩ (Mem.Less.refl _) (⟨Nat.zero_le _, fun i _ h => absurd h (Nat.not_lt_zero _)⟩) ?_
        rintro i ⟨hi, hall⟩
        (try dsimp only at *)
        refine AWP.seq ?_
        refine AWP.region ?_
        refine rC (Calm.bin rfl rfl b_lss) ?_
        refine arun_nil ?_
        refine athen_n ?_
        refine AWP.seq ?_
        refine AWP.condB rfl (fun hc => ?_) (fun hc => ?_)
        · have hc : i < fr.length := by have := of_decide_eq_true hc; omega
          obtain ⟨b, off, rfl, hk⟩ := hF3.resolve_left (fun e => by rw [e] at hc; simp at hc)
          have hki := (hk i hc).less (hT1.trans hT25)
          have hbad := fun (h : ¬ (Sound d fr[i] tick ∧ ∀ y ∈ fr.take i, ¬ like fr[i] y)) => chkP_no (p := ⟨d, fr, tick, reads, writes⟩) (fun hr => h (hr.ok i hc))
          have hgood : (Sound d fr[i] tick ∧ ∀ y ∈ fr.take i, ¬ like fr[i] y) → ∀ j (h : j < fr.length), j < i + 1 → Sound d fr[j] tick ∧ ∀ y ∈ fr.take j, ¬ like fr[j] y := fun hg j h hj => by rcases Nat.lt_or_ge j i with h' | h'; exact hall j h h'; obtain rfl : j = i := (by omega); exact hg
          have hst := sl_takeP hF (k := i) hi
          generalize fr[i] = x at *
          unfold frF at hki
          have cs := fun S h => pl_sound b25 d x tick S h q1
          unfold frV at cs
          by_cases q4 : Sound d x tick
          · rw [decide_eq_true q4] at cs
            refine AWP.skip ?_
            refine athen_n ?_
            refine AWP.seq ?_
            refine AWP.block ?_
            refine AWP.seq ?_
            refine AWP.region ?_
            refine rC (Calm.move rfl) ?_
            refine rC (Calm.indexS Try.underlying57 ty_size_110 rfl rfl (by omega) (by omega)) ?_
            refine rC (ldA_ (cs := [_, _, _, _, _, _, _]) ty_agg_110 ty_size_110 rfl) ?_
            refine ARun.alloc (lit_lt rfl) ty_zero_110 ?_
            intro b5 f5
            have g5 := f5
            repeat ((with_reducible replace g5 := fresh_set g5); obtain ⟨g5, _⟩ := g5)
            have := g5.ne kb1; have := g5.ne' kb1
            have := g5.ne kb25; have := g5.ne' kb25
            (try simp only [List.length_cons, List.length_nil, Nat.zero_add, Nat.reduceAdd])
            refine rC (Calm.assign rfl) ?_
            first | refine ARun.storeAll rfl rfl ty_size_110 own_ rfl rfl ?_ | refine ARun.store rfl rfl ty_size_110 own_ lens_ rfl ?_
            (try simp only [Mem.set_set, List.set_cons_zero, List.set_cons_succ, Nat.zero_add, Nat.reduceAdd])
            refine arun_nil ?_
            refine athen_n ?_
            refine AWP.sub [(1, _), (3, _), (27, _), (28, _), (29, _), (30, _), (5, _), (4, _)] ⟨rfl, rfl, rfl, rfl, rfl, rfl, rfl, rfl, trivial⟩ ?_
            refine AWP.seq ?_
            refine AWP.region ?_
            refine rC (Calm.move rfl) ?_
            refine rC (ldA_ (cs := [_, _, _, _, _, _, _]) ty_agg_110 ty_size_110 rfl) ?_
            refine rC (Calm.fieldAddr ty_field_60_2 rfl) ?_
            refine rC (ld_ ty_plain_58 rfl) ?_
            refine ARun.call (lit_lt rfl) go_104 rfl (cs _ (hrd.less less_)) ?_
            rintro _ S1 ⟨rfl, h1⟩
            rw [h1]; clear h1 S1
            refine rC (Calm.un rfl (una_not _)) ?_
            refine rC (Calm.move rfl) ?_
            first | refine rS 40 ?_ | refine rU 40 ?_ | refine rG 40 (Calm.fieldAddr ty_field_60_1 rfl) ?_
            first | refine rS 40 ?_ | refine rU 40 ?_ | refine rG 40 (ld_ ty_plain_57 rfl) ?_
            first | refine rS 40 ?_ | refine rU 40 ?_ | refine rG 40 (Calm.move rfl) ?_
            first | refine rS 40 ?_ | refine rU 40 ?_ | refine rG 40 ((by first | exact Calm.sliceHead Try.underlying57 ty_size_110 rfl (bnd_none _ _) (fun _ => rfl) (bnd_some _ _ rfl (by omega) (by omega)) | exact Calm.sliceNil Try.underlying57 ty_size_110 rfl (bnd_none _ _) (by simp) (bnd_zero _ _ rfl) (bnd_none _ _))) ?_
            first | refine rS 40 ?_ | refine rU 40 ?_ | refine rG 40 (Calm.makeFunc rfl rfl) ?_
            refine ARun.callG 6 false 40 rfl (lit_lt rfl) rfl (lit_lt rfl) go_105 rfl (pl_contains _ (fr.take i) x b5 _ (hst.less less_) ((rds_own (Mem.own_set_same _ b5 _)).knows)) ?_
            rintro _ S1 ⟨⟨t, rfl, ht⟩, h1⟩
            rw [h1]; clear h1 S1
            refine rC ((by first | exact Calm.pickT rfl rfl | exact Calm.pickF rfl rfl)) ?_
            refine arun_nil ?_
            refine athen_n ?_
            refine AWP.sub [(1, _), (3, _), (27, _), (28, _), (29, _), (30, _), (5, _), (4, _), (47, _)] ⟨rfl, rfl, rfl, rfl, rfl, rfl, rfl, rfl, rfl, trivial⟩ ?_
            refine AWP.condB rfl (fun hb => ?_) (fun hb => ?_)
            · refine AWP.seq ?_
              refine AWP.region ?_
              refine rC (Calm.assign rfl) ?_
              refine arun_nil ?_
              refine athen_n ?_
              refine AWP.ret ?_
              refine ain_ret ?_
              refine athen_ret ?_
              refine athen_ret ?_
              refine ain_ret ?_
              refine athen_ret ?_
              refine ⟨_, S, ⟨_, _, rfl, rfl, rfl⟩, (hT1.trans hT25).trans less_, ?_⟩
              exact ⟨by rw [hbad (fun h => by obtain ⟨y, hy, hn⟩ := ht.1 hb; exact h.2 y hy hn)]; rfl, rfl⟩
            · refine AWP.skip ?_
              refine ain_n ?_
              refine athen_n ?_
              refine AWP.region ?_
              refine rC (Calm.bin rfl rfl b_add_i64) ?_
              refine rC (Calm.move rfl) ?_
              refine arun_nil ?_
              refine athen_n ?_
              refine ⟨i + 1, ?_, ?_, ?_, ?_⟩
              all_goals (try dsimp only)
              · exact ⟨rfl, rfl, rfl, rfl, rfl, trivial⟩
              · exact less_
              · exact ⟨hc, hgood ⟨q4, fun y hy hn => by rw [ht.2 ⟨y, hy, hn⟩] at hb; cases hb⟩⟩
              · omega
          · rw [decide_eq_false q4] at cs
            refine AWP.skip ?_
            refine athen_n ?_
            refine AWP.seq ?_
            refine AWP.block ?_
            refine AWP.seq ?_
            refine AWP.region ?_
            refine rC (Calm.move rfl) ?_
            refine rC (Calm.indexS Try.underlying57 ty_size_110 rfl rfl (by omega) (by omega)) ?_
            refine rC (ldA_ (cs := [_, _, _, _, _, _, _]) ty_agg_110 ty_size_110 rfl) ?_
            refine ARun.alloc (lit_lt rfl) ty_zero_110 ?_
            intro b5 f5
            have g5 := f5
            repeat ((with_reducible replace g5 := fresh_set g5); obtain ⟨g5, _⟩ := g5)
            have := g5.ne kb1; have := g5.ne' kb1
            have := g5.ne kb25; have := g5.ne' kb25
            (try simp only [List.length_cons, List.length_nil, Nat.zero_add, Nat.reduceAdd])
            refine rC (Calm.assign rfl) ?_
            first | refine ARun.storeAll rfl rfl ty_size_110 own_ rfl rfl ?_ | refine ARun.store rfl rfl ty_size_110 own_ lens_ rfl ?_
            (try simp only [Mem.set_set, List.set_cons_zero, List.set_cons_succ, Nat.zero_add, Nat.reduceAdd])
            refine arun_nil ?_
            refine athen_n ?_
            refine AWP.sub [(1, _), (3, _), (27, _), (28, _), (29, _), (30, _), (5, _), (4, _)] ⟨rfl, rfl, rfl, rfl, rfl, rfl, rfl, rfl, trivial⟩ ?_
            refine AWP.seq ?_
            refine AWP.region ?_
            refine rC (Calm.move rfl) ?_
            refine rC (ldA_ (cs := [_, _, _, _, _, _, _]) ty_agg_110 ty_size_110 rfl) ?_
            refine rC (Calm.fieldAddr ty_field_60_2 rfl) ?_
            refine rC (ld_ ty_plain_58 rfl) ?_
            refine ARun.call (lit_lt rfl) go_104 rfl (cs _ (hrd.less less_)) ?_
            rintro _ S1 ⟨rfl, h1⟩
            rw [h1]; clear h1 S1
            refine rC (Calm.un rfl (una_not _)) ?_
            refine rC (Calm.move rfl) ?_
            first | refine rS 40 ?_ | refine rU 40 ?_ | refine rG 40 (Calm.fieldAddr ty_field_60_1 rfl) ?_
            first | refine rS 40 ?_ | refine rU 40 ?_ | refine rG 40 (ld_ ty_plain_57 rfl) ?_
            first | refine rS 40 ?_ | refine rU 40 ?_ | refine rG 40 (Calm.move rfl) ?_
            first | refine rS 40 ?_ | refine rU 40 ?_ | refine rG 40 ((by first | exact Calm.sliceHead Try.underlying57 ty_size_110 rfl (bnd_none _ _) (fun _ => rfl) (bnd_some _ _ rfl (by omega) (by omega)) | exact Calm.sliceNil Try.underlying57 ty_size_110 rfl (bnd_none _ _) (by simp) (bnd_zero _ _ rfl) (bnd_none _ _))) ?_
            first | refine rS 40 ?_ | refine rU 40 ?_ | refine rG 40 (Calm.makeFunc rfl rfl) ?_
            first | refine rS 40 ?_ | refine rU 40 ?_
            refine rC ((by first | exact Calm.pickT rfl rfl | exact Calm.pickF rfl rfl)) ?_
            refine arun_nil ?_
            refine athen_n ?_
            refine AWP.sub [(1, _), (3, _), (27, _), (28, _), (29, _), (30, _), (5, _), (4, _), (47, _)] ⟨rfl, rfl, rfl, rfl, rfl, rfl, rfl, rfl, rfl, trivial⟩ ?_
            refine AWP.condT rfl (by first | rfl | (simp; done) | (simp; omega)) ?_
            refine AWP.seq ?_
            refine AWP.region ?_
            refine rC (Calm.assign rfl) ?_
            refine arun_nil ?_
            refine athen_n ?_
            refine AWP.ret ?_
            refine ain_ret ?_
            refine athen_ret ?_
            refine athen_ret ?_
            refine ain_ret ?_
            refine athen_ret ?_
            refine ⟨_, S, ⟨_, _, rfl, rfl, rfl⟩, (hT1.trans hT25).trans less_, ?_⟩
            exact ⟨by rw [hbad (fun h => q4 h.1)]; rfl, rfl⟩
        · have hc : i = fr.length := by have := of_decide_eq_false hc; omega
          refine AWP.exit ?_
          refine athen_exit ?_
          refine athen_exit ?_
          refine ain_same ?_
          refine athen_n ?_
          refine AWP.seq ?_
          refine AWP.region ?_
          refine rC (Calm.assign rfl) ?_
          refine arun_nil ?_
          refine athen_n ?_
          refine AWP.ret ?_
          refine ⟨_, S, ⟨_, _, rfl, rfl, rfl⟩, (hT1.trans hT25).trans less_, ?_⟩
          exact ⟨by rw [chkP_yes ⟨q1, by simp only; omega, by simp only; omega, fun j hj => hall j hj (by have h' : j < fr.length := hj; omega)⟩]; rfl, rfl⟩
  · rw [chkD_no q1] at hck
    rw [chkP_no (fun h => q1 h.dr)]
    refine ACall.enter (args := [.agg #[.int .i64 d.size, .slice pe d.ext.length ce, .slice pw d.waits.length cw, .int .i64 d.fuse, .bool d.down, .slice pf fr.length cf, .int .u64 tick, .int .u64 reads, .int .u64 writes]]) (rs := [.tmp 2]) 49 [(0, .agg #[.int .i64 d.size, .slice pe d.ext.length ce, .slice pw d.waits.length cw, .int .i64 d.fuse, .bool d.down, .slice pf fr.length cf, .int .u64 tick, .int .u64 reads, .int .u64 writes])] Try.func77 rfl rfl (Nat.le_of_ble_eq_true rfl) rfl ⟨rfl, trivial⟩ ?_
    refine AWP.seq ?_
    refine AWP.region ?_
    refine ARun.boxA (cs := [_, _, _, _, _, _, _, _, _]) (lit_lt rfl) rfl ?_
    intro b1 f1
    have g1 := f1
    repeat ((with_reducible replace g1 := fresh_set g1); obtain ⟨g1, _⟩ := g1)
    (try simp only [List.length_cons, List.length_nil, Nat.zero_add, Nat.reduceAdd])
    refine rC (Calm.assign rfl) ?_
    refine arun_nil ?_
    refine athen_n ?_
    refine AWP.seq ?_
    refine AWP.seq ?_
    refine AWP.region ?_
    refine rC (Calm.fieldAddr ty_field_60_0 rfl) ?_
    refine rC (ldA_ (cs := [_, _, _, _, _]) ty_agg_25 ty_size_25 rfl) ?_
    refine ARun.call (lit_lt rfl) go_25 rfl (hck _ (hdk.less less_)) ?_
    rintro _ S1 ⟨rfl, h1⟩
    rw [h1]; clear h1 S1
    refine rC (Calm.bin rfl rfl b_neq) ?_
    refine rC (Calm.move rfl) ?_
    first | refine rS 10 ?_ | refine rU 10 ?_ | refine rG 10 (Calm.fieldAddr ty_field_60_1 rfl) ?_
    first | refine rS 10 ?_ | refine rU 10 ?_ | refine rG 10 (ld_ ty_plain_57 rfl) ?_
    first | refine rS 10 ?_ | refine rU 10 ?_ | refine rG 10 (Calm.lenSl Try.underlying57 rfl) ?_
    first | refine rS 10 ?_ | refine rU 10 ?_ | refine rG 10 (Calm.bin rfl rfl b_lss) ?_
    refine rC ((by first | exact Calm.pickT rfl rfl | exact Calm.pickF rfl rfl)) ?_
    refine rC (Calm.move rfl) ?_
    first | refine rS 16 ?_ | refine rU 16 ?_ | refine rG 16 (Calm.fieldAddr ty_field_60_1 rfl) ?_
    first | refine rS 16 ?_ | refine rU 16 ?_ | refine rG 16 (ld_ ty_plain_57 rfl) ?_
    first | refine rS 16 ?_ | refine rU 16 ?_ | refine rG 16 (Calm.lenSl Try.underlying57 rfl) ?_
    first | refine rS 16 ?_ | refine rU 16 ?_ | refine rG 16 (Calm.bin rfl rfl b_gtr) ?_
    refine rC ((by first | exact Calm.pickT rfl rfl | exact Calm.pickF rfl rfl)) ?_
    refine arun_nil ?_
    refine athen_n ?_
    refine AWP.sub [(0, _), (1, _), (2, _), (21, _)] ⟨rfl, rfl, rfl, rfl, trivial⟩ ?_
    refine AWP.condT rfl (by first | rfl | (simp; done) | (simp; omega)) ?_
    refine AWP.seq ?_
    refine AWP.region ?_
    refine rC (Calm.assign rfl) ?_
    refine arun_nil ?_
    refine athen_n ?_
    refine AWP.ret ?_
    refine athen_ret ?_
    refine ⟨_, S, ⟨_, _, rfl, rfl, rfl⟩, less_, ?_⟩
    exact ⟨rfl, rfl⟩
end Go.Proofs.Ytkeiphkccnfhoaa
namespace Go.Proofs.Ytkeiphkccnfhoaa
open Go.RowKit
open Mv Disk
set_option linter.unusedVariables false
set_option linter.unusedSimpArgs false
set_option maxRecDepth 20000
def leasedB (x : Fr) : Bool := x.leased
def pinnedB (x : Fr) : Bool := !x.leased && decide (0 < x.pins)
def heldB (x : Fr) : Bool := !x.leased && (decide (0 < x.pins) || decide x.holds)
noncomputable def countsP (p : Pl) : Int × Int × Int × Int := if chkP p = 0 then ((p.fr.countP heldB : Nat), (p.fr.countP pinnedB : Nat), (p.fr.countP leasedB : Nat), 0) else (0, 0, 0, 2)
theorem count_take {q : Fr → Bool} {l : List Fr} {i : Nat} (h : i < l.length) : (l.take (i + 1)).countP q = (l.take i).countP q + if q l[i] = true then 1 else 0 := by
  rw [take_get h, List.countP_append, List.countP_singleton]
theorem count_le {q : Fr → Bool} (l : List Fr) (i : Nat) : (l.take i).countP q ≤ l.length := Nat.le_trans List.countP_le_length (by simp; omega)
theorem chkP_or (p : Pl) : (chkP p = 0 ∧ PRight p) ∨ chkP p = 2 := by
  by_cases h : PRight p
  · exact .inl ⟨chkP_yes h, h⟩
  · exact .inr (chkP_no h)
set_option maxHeartbeats 8000000 in
theorem pl_Counts (v : Value) (p : Pl) (S : Mem) (hp : PlR S v p) (hz : Dz p.d) :
    ACall Try.prog 41 #[v] S fun r S' => r = .tuple #[.int .i64 (countsP p).1, .int .i64 (countsP p).2.1, .int .i64 (countsP p).2.2.1, .int .i64 (countsP p).2.2.2] ∧ S' = S := by
  have hck := fun S h => pl_Check v p S h hz
  obtain ⟨pe, ce, pw, cw, pf, cf, rfl, hE, hW, hF⟩ := id hp
  unfold countsP
  obtain ⟨_, _, ef1, ef2, ef3, hF3⟩ := id hF
  cases ef1
  obtain ⟨d, fr, tick, reads, writes⟩ := p
  simp only at *
  rcases chkP_or ⟨d, fr, tick, reads, writes⟩ with ⟨q, hR⟩ | q
  · rw [q] at hck
    rw [if_pos q]
    have h256 := hR.l2
    simp only at h256
    refine ACall.enter (args := [.agg #[.int .i64 d.size, .slice pe d.ext.length ce, .slice pw d.waits.length cw, .int .i64 d.fuse, .bool d.down, .slice pf fr.length cf, .int .u64 tick, .int .u64 reads, .int .u64 writes]]) (rs := [.tmp 2, .tmp 3, .tmp 4, .tmp 5]) 44 [(0, .agg #[.int .i64 d.size, .slice pe d.ext.length ce, .slice pw d.waits.length cw, .int .i64 d.fuse, .bool d.down, .slice pf fr.length cf, .int .u64 tick, .int .u64 reads, .int .u64 writes])] Try.func41 rfl rfl (Nat.le_of_ble_eq_true rfl) rfl ⟨rfl, trivial⟩ ?_
    refine AWP.seq ?_
    refine AWP.region ?_
    refine ARun.boxA (cs := [_, _, _, _, _, _, _, _, _]) (lit_lt rfl) rfl ?_
    intro b1 f1
    have g1 := f1
    repeat ((with_reducible replace g1 := fresh_set g1); obtain ⟨g1, _⟩ := g1)
    (try simp only [List.length_cons, List.length_nil, Nat.zero_add, Nat.reduceAdd])
    refine rC (Calm.assign rfl) ?_
    refine rC (Calm.assign rfl) ?_
    refine rC (Calm.assign rfl) ?_
    refine rC (Calm.assign rfl) ?_
    refine arun_nil ?_
    refine athen_n ?_
    refine named (S := S) (b := b1) g1.1 ?_
    intro T1 hT1 kb1
    replace hp := hp.less hT1
    replace hF := hF.less hT1
    refine AWP.seq ?_
    refine AWP.seq ?_
    refine AWP.region ?_
    refine rC (ldA_ (cs := [_, _, _, _, _, _, _, _, _]) ty_agg_60 ty_size_60 rfl) ?_
    refine ARun.call (lit_lt rfl) go_77 rfl (hck _ hp) ?_
    rintro _ S1 ⟨rfl, h1⟩
    rw [h1]; clear h1 S1
    refine rC (Calm.assign rfl) ?_
    refine arun_nil ?_
    refine athen_n ?_
    refine AWP.sub [(0, _), (1, _), (2, _), (3, _), (4, _), (5, _), (6, _)] ⟨rfl, rfl, rfl, rfl, rfl, rfl, rfl, trivial⟩ ?_
    refine AWP.seq ?_
    refine AWP.region ?_
    refine rC (Calm.move rfl) ?_
    refine rC (Calm.bin rfl rfl b_neq) ?_
    refine arun_nil ?_
    refine athen_n ?_
    refine AWP.sub [(0, _), (1, _), (2, _), (3, _), (4, _), (5, _), (6, _), (15, _)] ⟨rfl, rfl, rfl, rfl, rfl, rfl, rfl, rfl, trivial⟩ ?_
    refine AWP.condF rfl (by first | rfl | (simp; done) | (simp; omega)) ?_
    refine AWP.skip ?_
    refine athen_n ?_
    refine AWP.seq ?_
    refine AWP.region ?_
    refine rC (Calm.assign rfl) ?_
    refine rC (Calm.assign rfl) ?_
    refine rC (Calm.assign rfl) ?_
    refine arun_nil ?_
    refine athen_n ?_
    refine AWP.seq ?_
    refine AWP.seq ?_
    refine AWP.region ?_
    refine rC (Calm.fieldAddr ty_field_60_1 rfl) ?_
    refine rC (ld_ ty_plain_57 rfl) ?_
    refine rC (Calm.lenSl Try.underlying57 rfl) ?_
    refine rC (Calm.move rfl) ?_
    refine arun_nil ?_
    refine athen_n ?_
    refine AWP.sub [(0, _), (1, _), (2, _), (3, _), (4, _), (5, _), (6, _), (15, _), (7, _), (8, _), (9, _), (18, _), (19, _), (20, _)] ⟨rfl, rfl, rfl, rfl, rfl, rfl, rfl, rfl, rfl, rfl, rfl, rfl, rfl, rfl, trivial⟩ ?_
    refine AWP.block ?_
    refine AWP.loop (X := Nat) (fun x => [(1, .pointer (some ⟨b1, 0, none⟩)), (7, .int .i64 ((fr.take x).countP heldB : Nat)), (8, .int .i64 ((fr.take x).countP pinnedB : Nat)), (9, .int .i64 ((fr.take x).countP leasedB : Nat)), (18, .slice pf fr.length cf), (19, .int .i64 fr.length), (20, .int .i64 x)]) (fun x => T1) (fun x => x ≤ fr.length) (fun x => fr.length - x) (0) ⟨rfl, some_int (by simp), some_int (by simp), some_int (by simp), rfl, rfl, rfl, trivial⟩ (Mem.Less.refl _) (Nat.zero_le _) ?_
    rintro i hi
    (try dsimp only at *)
    refine AWP.seq ?_
    refine AWP.region ?_
    refine rC (Calm.bin rfl rfl b_lss) ?_
    refine arun_nil ?_
    refine athen_n ?_
    refine AWP.seq ?_
    refine AWP.condB rfl (fun hc => ?_) (fun hc => ?_)
    · have hc : i < fr.length := by have := of_decide_eq_true hc; omega
      obtain ⟨b, off, rfl, hk⟩ := hF3.resolve_left (fun e => by rw [e] at hc; simp at hc)
      have hki := (hk i hc).less hT1
      have t1 := count_take (q := heldB) hc
      have t2 := count_take (q := pinnedB) hc
      have t3 := count_take (q := leasedB) hc
      have u1 := count_le (q := heldB) fr (i + 1)
      have u2 := count_le (q := pinnedB) fr (i + 1)
      have u3 := count_le (q := leasedB) fr (i + 1)
      generalize fr[i] = x at *
      have ch := fun S => pl_holds x S
      unfold frV at ch
      unfold frF at hki
      by_cases a1 : x.leased = true
      · simp [heldB, pinnedB, leasedB, a1] at t1 t2 t3
        refine AWP.skip ?_
        refine athen_n ?_
        refine AWP.seq ?_
        refine AWP.block ?_
        refine AWP.seq ?_
        refine AWP.region ?_
        refine rC (Calm.indexS Try.underlying57 ty_size_110 rfl rfl (by omega) (by omega)) ?_
        refine rC (ldA_ (cs := [_, _, _, _, _, _, _]) ty_agg_110 ty_size_110 rfl) ?_
        refine ARun.alloc (lit_lt rfl) ty_zero_110 ?_
        intro b11 f11
        have g11 := f11
        repeat ((with_reducible replace g11 := fresh_set g11); obtain ⟨g11, _⟩ := g11)
        have := g11.ne kb1; have := g11.ne' kb1
        (try simp only [List.length_cons, List.length_nil, Nat.zero_add, Nat.reduceAdd])
        first | refine ARun.storeAll rfl rfl ty_size_110 own_ rfl rfl ?_ | refine ARun.store rfl rfl ty_size_110 own_ lens_ rfl ?_
        (try simp only [Mem.set_set, List.set_cons_zero, List.set_cons_succ, Nat.zero_add, Nat.reduceAdd])
        refine arun_nil ?_
        refine athen_n ?_
        refine AWP.sub [(1, _), (7, _), (8, _), (9, _), (18, _), (19, _), (20, _), (21, _), (11, _)] ⟨rfl, rfl, rfl, rfl, rfl, rfl, rfl, rfl, rfl, trivial⟩ ?_
        refine AWP.block ?_
        refine AWP.seq ?_
        refine AWP.block ?_
        refine AWP.seq ?_
        refine AWP.block ?_
        refine AWP.seq ?_
        refine AWP.block ?_
        refine AWP.seq ?_
        refine AWP.seq ?_
        refine AWP.seq ?_
        refine AWP.region ?_
        refine rC (Calm.fieldAddr ty_field_110_6 rfl) ?_
        refine rC (Calm.as (congrArg Value.bool a1) (ld_ ty_plain_4 rfl)) ?_
        refine rC (Calm.assign rfl) ?_
        refine arun_nil ?_
        refine athen_n ?_
        refine AWP.sub [(1, _), (7, _), (8, _), (9, _), (18, _), (19, _), (20, _), (21, _), (11, _), (24, _)] ⟨rfl, rfl, rfl, rfl, rfl, rfl, rfl, rfl, rfl, rfl, trivial⟩ ?_
        refine AWP.condT rfl (by first | rfl | (simp; done) | (simp; omega)) ?_
        refine AWP.exit ?_
        refine athen_exit ?_
        refine athen_exit ?_
        refine ain_same ?_
        refine athen_n ?_
        refine AWP.seq ?_
        refine AWP.region ?_
        refine rC (Calm.move rfl) ?_
        refine rC (Calm.bin rfl rfl b_add_i64) ?_
        refine rC (Calm.assign rfl) ?_
        refine arun_nil ?_
        refine athen_n ?_
        refine AWP.sub [(1, _), (7, _), (8, _), (9, _), (18, _), (19, _), (20, _), (21, _), (11, _), (24, _)] ⟨rfl, rfl, rfl, rfl, rfl, rfl, rfl, rfl, rfl, rfl, trivial⟩ ?_
        refine AWP.exit ?_
        refine ain_other rfl ?_
        refine athen_exit ?_
        refine ain_other rfl ?_
        refine athen_exit ?_
        refine ain_same ?_
        refine ain_n ?_
        refine athen_n ?_
        refine AWP.region ?_
        refine rC (Calm.bin rfl rfl b_add_i64) ?_
        refine rC (Calm.move rfl) ?_
        refine arun_nil ?_
        refine athen_n ?_
        refine ⟨i + 1, ?_, ?_, ?_, ?_⟩
        all_goals (try dsimp only)
        · exact ⟨rfl, some_int (by omega), some_int (by omega), some_int (by omega), rfl, rfl, rfl, trivial⟩
        · exact less_
        · exact hc
        · omega
      · have a1 : x.leased = false := by simpa using a1
        by_cases a2 : 0 < x.pins
        · simp [heldB, pinnedB, leasedB, a1, a2] at t1 t2 t3
          refine AWP.skip ?_
          refine athen_n ?_
          refine AWP.seq ?_
          refine AWP.block ?_
          refine AWP.seq ?_
          refine AWP.region ?_
          refine rC (Calm.indexS Try.underlying57 ty_size_110 rfl rfl (by omega) (by omega)) ?_
          refine rC (ldA_ (cs := [_, _, _, _, _, _, _]) ty_agg_110 ty_size_110 rfl) ?_
          refine ARun.alloc (lit_lt rfl) ty_zero_110 ?_
          intro b11 f11
          have g11 := f11
          repeat ((with_reducible replace g11 := fresh_set g11); obtain ⟨g11, _⟩ := g11)
          have := g11.ne kb1; have := g11.ne' kb1
          (try simp only [List.length_cons, List.length_nil, Nat.zero_add, Nat.reduceAdd])
          first | refine ARun.storeAll rfl rfl ty_size_110 own_ rfl rfl ?_ | refine ARun.store rfl rfl ty_size_110 own_ lens_ rfl ?_
          (try simp only [Mem.set_set, List.set_cons_zero, List.set_cons_succ, Nat.zero_add, Nat.reduceAdd])
          refine arun_nil ?_
          refine athen_n ?_
          refine AWP.sub [(1, _), (7, _), (8, _), (9, _), (18, _), (19, _), (20, _), (21, _), (11, _)] ⟨rfl, rfl, rfl, rfl, rfl, rfl, rfl, rfl, rfl, trivial⟩ ?_
          refine AWP.block ?_
          refine AWP.seq ?_
          refine AWP.block ?_
          refine AWP.seq ?_
          refine AWP.block ?_
          refine AWP.seq ?_
          refine AWP.block ?_
          refine AWP.seq ?_
          refine AWP.seq ?_
          refine AWP.seq ?_
          refine AWP.region ?_
          refine rC (Calm.fieldAddr ty_field_110_6 rfl) ?_
          refine rC (Calm.as (congrArg Value.bool a1) (ld_ ty_plain_4 rfl)) ?_
          refine rC (Calm.assign rfl) ?_
          refine arun_nil ?_
          refine athen_n ?_
          refine AWP.sub [(1, _), (7, _), (8, _), (9, _), (18, _), (19, _), (20, _), (21, _), (11, _), (24, _)] ⟨rfl, rfl, rfl, rfl, rfl, rfl, rfl, rfl, rfl, rfl, trivial⟩ ?_
          refine AWP.condF rfl (by first | rfl | (simp; done) | (simp; omega)) ?_
          refine AWP.skip ?_
          refine athen_n ?_
          refine AWP.seq ?_
          refine AWP.seq ?_
          refine AWP.region ?_
          refine rC (Calm.fieldAddr ty_field_110_3 rfl) ?_
          refine rC (ld_ ty_plain_3 rfl) ?_
          refine rC (Calm.bin rfl rfl b_gtr) ?_
          refine rC (Calm.assign rfl) ?_
          refine arun_nil ?_
          refine athen_n ?_
          refine AWP.sub [(1, _), (7, _), (8, _), (9, _), (18, _), (19, _), (20, _), (21, _), (11, _), (24, _), (27, _)] ⟨rfl, rfl, rfl, rfl, rfl, rfl, rfl, rfl, rfl, rfl, rfl, trivial⟩ ?_
          refine AWP.condT rfl (by first | rfl | (simp; done) | (simp; omega)) ?_
          refine AWP.exit ?_
          refine athen_exit ?_
          refine athen_exit ?_
          refine ain_other rfl ?_
          refine athen_exit ?_
          refine ain_same ?_
          refine athen_n ?_
          refine AWP.region ?_
          refine rC (Calm.move rfl) ?_
          refine rC (Calm.bin rfl rfl b_add_i64) ?_
          refine rC (Calm.assign rfl) ?_
          refine arun_nil ?_
          refine ain_n ?_
          refine athen_n ?_
          refine AWP.sub [(1, _), (7, _), (8, _), (9, _), (18, _), (19, _), (20, _), (21, _), (11, _), (24, _), (27, _)] ⟨rfl, rfl, rfl, rfl, rfl, rfl, rfl, rfl, rfl, rfl, rfl, trivial⟩ ?_
          refine AWP.seq ?_
          refine AWP.region ?_
          refine rC (Calm.move rfl) ?_
          refine rC (Calm.bin rfl rfl b_add_i64) ?_
          refine rC (Calm.assign rfl) ?_
          refine arun_nil ?_
          refine athen_n ?_
          refine AWP.sub [(1, _), (7, _), (8, _), (9, _), (18, _), (19, _), (20, _), (21, _), (11, _), (24, _), (27, _)] ⟨rfl, rfl, rfl, rfl, rfl, rfl, rfl, rfl, rfl, rfl, rfl, trivial⟩ ?_
          refine AWP.exit ?_
          refine ain_same ?_
          refine ain_n ?_
          refine athen_n ?_
          refine AWP.region ?_
          refine rC (Calm.bin rfl rfl b_add_i64) ?_
          refine rC (Calm.move rfl) ?_
          refine arun_nil ?_
          refine athen_n ?_
          refine ⟨i + 1, ?_, ?_, ?_, ?_⟩
          all_goals (try dsimp only)
          · exact ⟨rfl, some_int (by omega), some_int (by omega), some_int (by omega), rfl, rfl, rfl, trivial⟩
          · exact less_
          · exact hc
          · omega
        · by_cases a3 : x.holds
          · simp [heldB, pinnedB, leasedB, a1, a2, a3] at t1 t2 t3
            rw [decide_eq_true a3] at ch
            refine AWP.skip ?_
            refine athen_n ?_
            refine AWP.seq ?_
            refine AWP.block ?_
            refine AWP.seq ?_
            refine AWP.region ?_
            refine rC (Calm.indexS Try.underlying57 ty_size_110 rfl rfl (by omega) (by omega)) ?_
            refine rC (ldA_ (cs := [_, _, _, _, _, _, _]) ty_agg_110 ty_size_110 rfl) ?_
            refine ARun.alloc (lit_lt rfl) ty_zero_110 ?_
            intro b11 f11
            have g11 := f11
            repeat ((with_reducible replace g11 := fresh_set g11); obtain ⟨g11, _⟩ := g11)
            have := g11.ne kb1; have := g11.ne' kb1
            (try simp only [List.length_cons, List.length_nil, Nat.zero_add, Nat.reduceAdd])
            first | refine ARun.storeAll rfl rfl ty_size_110 own_ rfl rfl ?_ | refine ARun.store rfl rfl ty_size_110 own_ lens_ rfl ?_
            (try simp only [Mem.set_set, List.set_cons_zero, List.set_cons_succ, Nat.zero_add, Nat.reduceAdd])
            refine arun_nil ?_
            refine athen_n ?_
            refine AWP.sub [(1, _), (7, _), (8, _), (9, _), (18, _), (19, _), (20, _), (21, _), (11, _)] ⟨rfl, rfl, rfl, rfl, rfl, rfl, rfl, rfl, rfl, trivial⟩ ?_
            refine AWP.block ?_
            refine AWP.seq ?_
            refine AWP.block ?_
            refine AWP.seq ?_
            refine AWP.block ?_
            refine AWP.seq ?_
            refine AWP.block ?_
            refine AWP.seq ?_
            refine AWP.seq ?_
            refine AWP.seq ?_
            refine AWP.region ?_
            refine rC (Calm.fieldAddr ty_field_110_6 rfl) ?_
            refine rC (Calm.as (congrArg Value.bool a1) (ld_ ty_plain_4 rfl)) ?_
            refine rC (Calm.assign rfl) ?_
            refine arun_nil ?_
            refine athen_n ?_
            refine AWP.sub [(1, _), (7, _), (8, _), (9, _), (18, _), (19, _), (20, _), (21, _), (11, _), (24, _)] ⟨rfl, rfl, rfl, rfl, rfl, rfl, rfl, rfl, rfl, rfl, trivial⟩ ?_
            refine AWP.condF rfl (by first | rfl | (simp; done) | (simp; omega)) ?_
            refine AWP.skip ?_
            refine athen_n ?_
            refine AWP.seq ?_
            refine AWP.seq ?_
            refine AWP.region ?_
            refine rC (Calm.fieldAddr ty_field_110_3 rfl) ?_
            refine rC (ld_ ty_plain_3 rfl) ?_
            refine rC (Calm.bin rfl rfl b_gtr) ?_
            refine rC (Calm.assign rfl) ?_
            refine arun_nil ?_
            refine athen_n ?_
            refine AWP.sub [(1, _), (7, _), (8, _), (9, _), (18, _), (19, _), (20, _), (21, _), (11, _), (24, _), (27, _)] ⟨rfl, rfl, rfl, rfl, rfl, rfl, rfl, rfl, rfl, rfl, rfl, trivial⟩ ?_
            refine AWP.condF rfl (by first | rfl | (simp; done) | (simp; omega)) ?_
            refine AWP.skip ?_
            refine athen_n ?_
            refine AWP.seq ?_
            refine AWP.region ?_
            refine rC (ldA_ (cs := [_, _, _, _, _, _, _]) ty_agg_110 ty_size_110 rfl) ?_
            refine ARun.call (lit_lt rfl) go_78 rfl (ch _) ?_
            rintro _ S1 ⟨rfl, h1⟩
            rw [h1]; clear h1 S1
            refine rC (Calm.assign rfl) ?_
            refine arun_nil ?_
            refine athen_n ?_
            refine AWP.sub [(1, _), (7, _), (8, _), (9, _), (18, _), (19, _), (20, _), (21, _), (11, _), (24, _), (27, _), (31, _)] ⟨rfl, rfl, rfl, rfl, rfl, rfl, rfl, rfl, rfl, rfl, rfl, rfl, trivial⟩ ?_
            refine AWP.condT rfl (by first | rfl | (simp; done) | (simp; omega)) ?_
            refine AWP.exit ?_
            refine athen_exit ?_
            refine ain_other rfl ?_
            refine athen_exit ?_
            refine ain_other rfl ?_
            refine athen_exit ?_
            refine ain_same ?_
            refine athen_n ?_
            refine AWP.seq ?_
            refine AWP.region ?_
            refine rC (Calm.move rfl) ?_
            refine rC (Calm.bin rfl rfl b_add_i64) ?_
            refine rC (Calm.assign rfl) ?_
            refine arun_nil ?_
            refine athen_n ?_
            refine AWP.sub [(1, _), (7, _), (8, _), (9, _), (18, _), (19, _), (20, _), (21, _), (11, _), (24, _), (27, _), (31, _)] ⟨rfl, rfl, rfl, rfl, rfl, rfl, rfl, rfl, rfl, rfl, rfl, rfl, trivial⟩ ?_
            refine AWP.exit ?_
            refine ain_same ?_
            refine ain_n ?_
            refine athen_n ?_
            refine AWP.region ?_
            refine rC (Calm.bin rfl rfl b_add_i64) ?_
            refine rC (Calm.move rfl) ?_
            refine arun_nil ?_
            refine athen_n ?_
            refine ⟨i + 1, ?_, ?_, ?_, ?_⟩
            all_goals (try dsimp only)
            · exact ⟨rfl, some_int (by omega), some_int (by omega), some_int (by omega), rfl, rfl, rfl, trivial⟩
            · exact less_
            · exact hc
            · omega
          · simp [heldB, pinnedB, leasedB, a1, a2, a3] at t1 t2 t3
            rw [decide_eq_false a3] at ch
            refine AWP.skip ?_
            refine athen_n ?_
            refine AWP.seq ?_
            refine AWP.block ?_
            refine AWP.seq ?_
            refine AWP.region ?_
            refine rC (Calm.indexS Try.underlying57 ty_size_110 rfl rfl (by omega) (by omega)) ?_
            refine rC (ldA_ (cs := [_, _, _, _, _, _, _]) ty_agg_110 ty_size_110 rfl) ?_
            refine ARun.alloc (lit_lt rfl) ty_zero_110 ?_
            intro b11 f11
            have g11 := f11
            repeat ((with_reducible replace g11 := fresh_set g11); obtain ⟨g11, _⟩ := g11)
            have := g11.ne kb1; have := g11.ne' kb1
            (try simp only [List.length_cons, List.length_nil, Nat.zero_add, Nat.reduceAdd])
            first | refine ARun.storeAll rfl rfl ty_size_110 own_ rfl rfl ?_ | refine ARun.store rfl rfl ty_size_110 own_ lens_ rfl ?_
            (try simp only [Mem.set_set, List.set_cons_zero, List.set_cons_succ, Nat.zero_add, Nat.reduceAdd])
            refine arun_nil ?_
            refine athen_n ?_
            refine AWP.sub [(1, _), (7, _), (8, _), (9, _), (18, _), (19, _), (20, _), (21, _), (11, _)] ⟨rfl, rfl, rfl, rfl, rfl, rfl, rfl, rfl, rfl, trivial⟩ ?_
            refine AWP.block ?_
            refine AWP.seq ?_
            refine AWP.block ?_
            refine AWP.seq ?_
            refine AWP.block ?_
            refine AWP.seq ?_
            refine AWP.block ?_
            refine AWP.seq ?_
            refine AWP.seq ?_
            refine AWP.seq ?_
            refine AWP.region ?_
            refine rC (Calm.fieldAddr ty_field_110_6 rfl) ?_
            refine rC (Calm.as (congrArg Value.bool a1) (ld_ ty_plain_4 rfl)) ?_
            refine rC (Calm.assign rfl) ?_
            refine arun_nil ?_
            refine athen_n ?_
            refine AWP.sub [(1, _), (7, _), (8, _), (9, _), (18, _), (19, _), (20, _), (21, _), (11, _), (24, _)] ⟨rfl, rfl, rfl, rfl, rfl, rfl, rfl, rfl, rfl, rfl, trivial⟩ ?_
            refine AWP.condF rfl (by first | rfl | (simp; done) | (simp; omega)) ?_
            refine AWP.skip ?_
            refine athen_n ?_
            refine AWP.seq ?_
            refine AWP.seq ?_
            refine AWP.region ?_
            refine rC (Calm.fieldAddr ty_field_110_3 rfl) ?_
            refine rC (ld_ ty_plain_3 rfl) ?_
            refine rC (Calm.bin rfl rfl b_gtr) ?_
            refine rC (Calm.assign rfl) ?_
            refine arun_nil ?_
            refine athen_n ?_
            refine AWP.sub [(1, _), (7, _), (8, _), (9, _), (18, _), (19, _), (20, _), (21, _), (11, _), (24, _), (27, _)] ⟨rfl, rfl, rfl, rfl, rfl, rfl, rfl, rfl, rfl, rfl, rfl, trivial⟩ ?_
            refine AWP.condF rfl (by first | rfl | (simp; done) | (simp; omega)) ?_
            refine AWP.skip ?_
            refine athen_n ?_
            refine AWP.seq ?_
            refine AWP.region ?_
            refine rC (ldA_ (cs := [_, _, _, _, _, _, _]) ty_agg_110 ty_size_110 rfl) ?_
            refine ARun.call (lit_lt rfl) go_78 rfl (ch _) ?_
            rintro _ S1 ⟨rfl, h1⟩
            rw [h1]; clear h1 S1
            refine rC (Calm.assign rfl) ?_
            refine arun_nil ?_
            refine athen_n ?_
            refine AWP.sub [(1, _), (7, _), (8, _), (9, _), (18, _), (19, _), (20, _), (21, _), (11, _), (24, _), (27, _), (31, _)] ⟨rfl, rfl, rfl, rfl, rfl, rfl, rfl, rfl, rfl, rfl, rfl, rfl, trivial⟩ ?_
            refine AWP.condF rfl (by first | rfl | (simp; done) | (simp; omega)) ?_
            refine AWP.skip ?_
            refine athen_n ?_
            refine AWP.exit ?_
            refine ain_other rfl ?_
            refine athen_exit ?_
            refine ain_other rfl ?_
            refine athen_exit ?_
            refine ain_other rfl ?_
            refine athen_exit ?_
            refine ain_same ?_
            refine ain_n ?_
            refine athen_n ?_
            refine AWP.region ?_
            refine rC (Calm.bin rfl rfl b_add_i64) ?_
            refine rC (Calm.move rfl) ?_
            refine arun_nil ?_
            refine athen_n ?_
            refine ⟨i + 1, ?_, ?_, ?_, ?_⟩
            all_goals (try dsimp only)
            · exact ⟨rfl, some_int (by omega), some_int (by omega), some_int (by omega), rfl, rfl, rfl, trivial⟩
            · exact less_
            · exact hc
            · omega
    · have hc : i = fr.length := by have := of_decide_eq_false hc; omega
      subst hc
      rw [List.take_length]
      refine AWP.exit ?_
      refine athen_exit ?_
      refine athen_exit ?_
      refine ain_same ?_
      refine athen_n ?_
      refine AWP.seq ?_
      refine AWP.region ?_
      refine rC (Calm.move rfl) ?_
      refine rC (Calm.move rfl) ?_
      refine rC (Calm.move rfl) ?_
      refine rC (Calm.assign rfl) ?_
      refine rC (Calm.assign rfl) ?_
      refine rC (Calm.assign rfl) ?_
      refine rC (Calm.assign rfl) ?_
      refine arun_nil ?_
      refine athen_n ?_
      refine AWP.sub [(1, _), (7, _), (8, _), (9, _), (18, _), (19, _), (20, _), (21, _), (2, _), (3, _), (4, _), (5, _)] ⟨rfl, rfl, rfl, rfl, rfl, rfl, rfl, rfl, rfl, rfl, rfl, rfl, trivial⟩ ?_
      refine AWP.ret ?_
      refine ⟨_, S, ⟨_, _, rfl, ⟨_, _, rfl, ⟨_, _, rfl, ⟨_, _, rfl, rfl, rfl⟩, rfl⟩, rfl⟩, rfl⟩, hT1.trans less_, ?_⟩
      exact ⟨rfl, rfl⟩
  · rw [q] at hck
    rw [if_neg (by rw [q]; decide)]
    refine ACall.enter (args := [.agg #[.int .i64 d.size, .slice pe d.ext.length ce, .slice pw d.waits.length cw, .int .i64 d.fuse, .bool d.down, .slice pf fr.length cf, .int .u64 tick, .int .u64 reads, .int .u64 writes]]) (rs := [.tmp 2, .tmp 3, .tmp 4, .tmp 5]) 44 [(0, .agg #[.int .i64 d.size, .slice pe d.ext.length ce, .slice pw d.waits.length cw, .int .i64 d.fuse, .bool d.down, .slice pf fr.length cf, .int .u64 tick, .int .u64 reads, .int .u64 writes])] Try.func41 rfl rfl (Nat.le_of_ble_eq_true rfl) rfl ⟨rfl, trivial⟩ ?_
    refine AWP.seq ?_
    refine AWP.region ?_
    refine ARun.boxA (cs := [_, _, _, _, _, _, _, _, _]) (lit_lt rfl) rfl ?_
    intro b1 f1
    have g1 := f1
    repeat ((with_reducible replace g1 := fresh_set g1); obtain ⟨g1, _⟩ := g1)
    (try simp only [List.length_cons, List.length_nil, Nat.zero_add, Nat.reduceAdd])
    refine rC (Calm.assign rfl) ?_
    refine rC (Calm.assign rfl) ?_
    refine rC (Calm.assign rfl) ?_
    refine rC (Calm.assign rfl) ?_
    refine arun_nil ?_
    refine athen_n ?_
    refine AWP.seq ?_
    refine AWP.seq ?_
    refine AWP.region ?_
    refine rC (ldA_ (cs := [_, _, _, _, _, _, _, _, _]) ty_agg_60 ty_size_60 rfl) ?_
    refine ARun.call (lit_lt rfl) go_77 rfl (hck _ (hp.less less_)) ?_
    rintro _ S1 ⟨rfl, h1⟩
    rw [h1]; clear h1 S1
    refine rC (Calm.assign rfl) ?_
    refine arun_nil ?_
    refine athen_n ?_
    refine AWP.sub [(0, _), (1, _), (2, _), (3, _), (4, _), (5, _), (6, _)] ⟨rfl, rfl, rfl, rfl, rfl, rfl, rfl, trivial⟩ ?_
    refine AWP.seq ?_
    refine AWP.region ?_
    refine rC (Calm.move rfl) ?_
    refine rC (Calm.bin rfl rfl b_neq) ?_
    refine arun_nil ?_
    refine athen_n ?_
    refine AWP.sub [(0, _), (1, _), (2, _), (3, _), (4, _), (5, _), (6, _), (15, _)] ⟨rfl, rfl, rfl, rfl, rfl, rfl, rfl, rfl, trivial⟩ ?_
    refine AWP.condT rfl (by first | rfl | (simp; done) | (simp; omega)) ?_
    refine AWP.seq ?_
    refine AWP.region ?_
    refine rC (Calm.move rfl) ?_
    refine rC (Calm.assign rfl) ?_
    refine rC (Calm.assign rfl) ?_
    refine rC (Calm.assign rfl) ?_
    refine rC (Calm.assign rfl) ?_
    refine arun_nil ?_
    refine athen_n ?_
    refine AWP.sub [(0, _), (1, _), (2, _), (3, _), (4, _), (5, _), (6, _), (15, _)] ⟨rfl, rfl, rfl, rfl, rfl, rfl, rfl, rfl, trivial⟩ ?_
    refine AWP.ret ?_
    refine athen_ret ?_
    refine ⟨_, S, ⟨_, _, rfl, ⟨_, _, rfl, ⟨_, _, rfl, ⟨_, _, rfl, rfl, rfl⟩, rfl⟩, rfl⟩, rfl⟩, less_, ?_⟩
    exact ⟨rfl, rfl⟩
end Go.Proofs.Ytkeiphkccnfhoaa
namespace Go.Proofs.Ytkeiphkccnfhoaa
open Go.RowKit
open Mv Disk
set_option linter.unusedVariables false
set_option linter.unusedSimpArgs false
set_option maxRecDepth 4000
abbrev frT : TypeId := 110
theorem fr_one (l : List Fr) : ∀ v ∈ l.flatMap frF, v.oneCell' = true := fun v hv => by
  obtain ⟨x, _, hx⟩ := List.mem_flatMap.1 hv
  simp only [frF, List.mem_cons, List.not_mem_nil, or_false] at hx
  rcases hx with rfl | rfl | rfl | rfl | rfl | rfl | rfl <;> rfl
theorem pl_CloneF (v : Value) (l : List Fr) (S : Mem) (hl : Sl 7 frF S v l) (hz : l.length ≤ 1048576) :
    ACall Try.prog 108 #[v] S (OwnR 7 frF frT l S) := by
  obtain ⟨a, cap, rfl, h1, h2, h3⟩ := id hl
  refine ACall.enter (args := [.slice a l.length cap]) (rs := [.tmp 2]) 8 [(0, .slice a l.length cap)] Try.func108 rfl rfl (Nat.le_of_ble_eq_true rfl) rfl ⟨rfl, trivial⟩ ?_
  cases a
  · refine AWP.seq ?_
    refine AWP.region ?_
    refine rC (Calm.assign rfl) ?_
    refine arun_nil ?_
    refine athen_n ?_
    refine AWP.seq ?_
    refine AWP.seq ?_
    refine AWP.region ?_
    refine rC (Calm.move rfl) ?_
    refine rC (Calm.bin rfl rfl (bin_nil_eql Try.underlying57)) ?_
    refine arun_nil ?_
    refine athen_n ?_
    refine AWP.sub [(0, _), (2, _), (4, _)] ⟨rfl, rfl, rfl, trivial⟩ ?_
    refine AWP.condT rfl (by first | rfl | (simp; done) | (simp; omega)) ?_
    obtain rfl : l = [] := h3.resolve_right (fun ⟨b, off, e, _⟩ => by cases e)
    refine AWP.seq ?_
    refine AWP.region ?_
    refine rC (Calm.assign rfl) ?_
    refine arun_nil ?_
    refine athen_n ?_
    refine AWP.ret ?_
    refine athen_ret ?_
    refine ⟨_, S, ⟨_, _, rfl, rfl, rfl⟩, less_, ?_⟩
    exact ⟨none, okO_nil S, rfl, rfl⟩
  · refine AWP.seq ?_
    refine AWP.region ?_
    refine rC (Calm.assign rfl) ?_
    refine arun_nil ?_
    refine athen_n ?_
    refine AWP.seq ?_
    refine AWP.seq ?_
    refine AWP.region ?_
    refine rC (Calm.move rfl) ?_
    refine rC (Calm.bin rfl rfl (bin_nil_eql Try.underlying57)) ?_
    refine arun_nil ?_
    refine athen_n ?_
    refine AWP.sub [(0, _), (2, _), (4, _)] ⟨rfl, rfl, rfl, trivial⟩ ?_
    refine AWP.condF rfl (by first | rfl | (simp; done) | (simp; omega)) ?_
    refine AWP.skip ?_
    refine athen_n ?_
    refine AWP.seq ?_
    refine AWP.region ?_
    refine ARun.build0 (lit_lt rfl) ty_sl_57 ?_
    intro b5 f5
    have g5 := f5
    repeat ((with_reducible replace g5 := fresh_set g5); obtain ⟨g5, _⟩ := g5)
    refine rC (Calm.move rfl) ?_
    refine ARun.appendOK (n := 7) (o := some (b5, 0)) (k := 0) (m := l.length) (cs := []) (lit_lt rfl) ty_sl_57 rfl rfl rfl (okO_own f5 (Nat.le_refl _)) (appN_self (okO_own f5 (Nat.le_refl 0)) rfl) rfl ((hl.less less_).src fr_len) (flat_length fr_len l) (fr_one l) (by omega) (by omega) ?_
    intro o ho
    rw [Nat.zero_add] at ho ⊢
    refine rC (Calm.assign rfl) ?_
    refine arun_nil ?_
    refine athen_n ?_
    refine AWP.sub [(0, _), (2, _), (4, _)] ⟨rfl, rfl, rfl, trivial⟩ ?_
    refine AWP.ret ?_
    refine ⟨_, _, ⟨_, _, rfl, rfl, rfl⟩, Mem.Less.refl _, ?_⟩
    exact ⟨o, ho, rfl, rfl⟩
end Go.Proofs.Ytkeiphkccnfhoaa
namespace Go.Proofs.Ytkeiphkccnfhoaa
open Go.RowKit
open Mv Disk
set_option linter.unusedVariables false
set_option linter.unusedSimpArgs false
set_option maxRecDepth 4000
def P0 : Pl := ⟨D0, [], 0, 0, 0⟩
def up1 (x : Int) : Int := IntKind.u64.wrap (x + 1)
def setP (p : Pl) (i : Nat) (x : Fr) : Pl := { p with fr := p.fr.set i x }
def atF (p : Pl) (i : Nat) : Fr := p.fr.getD i F0
/-- A frame is written. -/
def wrP (p : Pl) (i : Nat) : Pl × Int :=
  ({ p with d := (writeD p.d (atF p i).name (atF p i).sector (atF p i).data).1, writes := up1 p.writes, fr := if (writeD p.d (atF p i).name (atF p i).sector (atF p i).data).2 = 0 then p.fr.set i { atF p i with dirty := false } else p.fr }, (writeD p.d (atF p i).name (atF p i).sector (atF p i).data).2)
def bestF (fr : List Fr) : Nat → Int
  | 0 => -1
  | i + 1 => if (fr.getD i F0).idle ∧ (bestF fr i < 0 ∨ (fr.getD i F0).tick < (fr.getD (bestF fr i).toNat F0).tick) then (i : Nat) else bestF fr i
theorem bestF_le (fr : List Fr) : ∀ i, -1 ≤ bestF fr i ∧ bestF fr i < i
  | 0 => ⟨by unfold bestF; omega, by unfold bestF; omega⟩
  | i + 1 => by
    have := bestF_le fr i
    unfold bestF
    split <;> omega
/-- A frame is taken. -/
def takeP (p : Pl) : Pl × Nat × Int :=
  if p.fr.findIdx (fun x => decide (x = F0)) < p.fr.length then (p, p.fr.findIdx (fun x => decide (x = F0)), 0)
  else if bestF p.fr p.fr.length < 0 then (p, 0, 9)
  else if (atF p (bestF p.fr p.fr.length).toNat).dirty = true then
    (if (wrP p (bestF p.fr p.fr.length).toNat).2 = 0 then (setP (wrP p (bestF p.fr p.fr.length).toNat).1 (bestF p.fr p.fr.length).toNat F0, (bestF p.fr p.fr.length).toNat, 0)
     else ((wrP p (bestF p.fr p.fr.length).toNat).1, 0, (wrP p (bestF p.fr p.fr.length).toNat).2))
  else (setP p (bestF p.fr p.fr.length).toNat F0, (bestF p.fr p.fr.length).toNat, 0)
def isF (s : ByteArray) (k : Int) (x : Fr) : Bool := decide (x.holds ∧ x.sector = k ∧ x.name = s)
/-- A frame's pins are one more. -/
def pin1 (p : Pl) (i : Nat) : Pl := { p with tick := up1 p.tick, fr := p.fr.set i { atF p i with tick := up1 p.tick, pins := (atF p i).pins + 1 } }
def newF (s : ByteArray) (k : Int) (data : ByteArray) : Fr := ⟨s, k, data, 0, false, 0, false⟩
def pinP (p : Pl) (s : ByteArray) (k : Int) : Pl × Nat × Int :=
  if p.fr.findIdx (isF s k) < p.fr.length then
    (if (atF p (p.fr.findIdx (isF s k))).pins = 256 then (p, 0, 11) else (pin1 p (p.fr.findIdx (isF s k)), p.fr.findIdx (isF s k), 0))
  else if (readD p.d s k).2 ≠ 0 then (p, 0, (readD p.d s k).2)
  else if (takeP p).2.2 ≠ 0 then ((takeP p).1, 0, (takeP p).2.2)
  else (pin1 { setP (takeP p).1 (takeP p).2.1 (newF s k (readD p.d s k).1) with reads := up1 (takeP p).1.reads } (takeP p).2.1, (takeP p).2.1, 0)
def unpin1 (p : Pl) (i : Int) : Pl × Int :=
  if i < 0 ∨ (p.fr.length : Int) ≤ i then (p, 1) else if (atF p i.toNat).pins = 0 then (p, 11) else (setP p i.toNat { atF p i.toNat with pins := (atF p i.toNat).pins - 1 }, 0)
def ret1 (p : Pl) (i : Int) : Pl × Int :=
  if i < 0 ∨ (p.fr.length : Int) ≤ i then (p, 1) else if (atF p i.toNat).leased = false then (p, 11) else (setP p i.toNat F0, 0)
def eachP (f : Pl → Int → Pl × Int) (p0 : Pl) : Pl → List Int → Pl × Int
  | p, [] => (p, 0)
  | p, i :: l => if (f p i).2 = 0 then eachP f p0 (f p i).1 l else (p0, (f p i).2)
def pinnedP (p : Pl) (i a n : Int) : Int := if i < 0 ∨ (p.fr.length : Int) ≤ i ∨ a < 0 ∨ 64 < a ∨ 64 - a < n then 1 else if (atF p i.toNat).pins = 0 then 11 else 0
def lookP (p : Pl) (i : Int) : ByteArray × Int := if pinnedP p i 0 0 = 0 then ((atF p i.toNat).data, 0) else (ByteArray.empty, pinnedP p i 0 0)
def fillS (t : ByteArray) (a : Int) (s : ByteArray) : ByteArray := t.extract 0 a.toNat ++ s ++ t.extract (a.toNat + s.size) t.size
def fillP (p : Pl) (i a : Int) (s : ByteArray) : Pl × Int := if pinnedP p i a s.size = 0 then (setP p i.toNat { atF p i.toNat with data := fillS (atF p i.toNat).data a s, dirty := true }, 0) else (p, pinnedP p i a s.size)
def leaseN : Nat → Pl → List Int → Pl × List Int × Int
  | 0, p, l => (p, l, 0)
  | n + 1, p, l => if (takeP p).2.2 = 0 then leaseN n (setP (takeP p).1 (takeP p).2.1 F1) (l ++ [((takeP p).2.1 : Int)]) else ((takeP p).1, [], (takeP p).2.2)
def idlesP (p : Pl) : Nat := p.fr.countP fun x => decide x.idle
def leaseP (p : Pl) (n : Int) : Pl × List Int × Int := if n < 0 then (p, [], 1) else if (idlesP p : Int) < n then (p, [], 9) else leaseN n.toNat p []
def ofN (s : ByteArray) (x : Fr) : Bool := decide (x.holds ∧ x.name = s)
def dropP (p : Pl) (s : ByteArray) : Pl × Int := if p.fr.any (fun x => ofN s x && decide (0 < x.pins)) = true then (p, 11) else ({ p with fr := p.fr.map fun x => if ofN s x = true then F0 else x }, 0)
/-- The frames from i on are written, so many. -/
def flushN (p : Pl) (i : Nat) : Nat → Pl × Int
  | 0 => (p, 0)
  | n + 1 => if (atF p i).dirty = true then (if (wrP p i).2 = 0 then flushN (wrP p i).1 (i + 1) n else wrP p i) else flushN p (i + 1) n
def flushP (p : Pl) : Pl × Int := if (flushN p 0 p.fr.length).2 = 0 then ({ (flushN p 0 p.fr.length).1 with d := settleD (flushN p 0 p.fr.length).1.d fun _ => true }, 0) else flushN p 0 p.fr.length
noncomputable def openP (p : Pl) : Pl × Int := if chkP p = 0 then (p, if p.d.down = true then 10 else 0) else (P0, 2)
noncomputable def openedP (p : Pl) (f : Pl × Int) : Pl × Int := if (openP p).2 = 0 then f else openP p
/-! ### What holds of a pool at work -/
structure PW (p : Pl) : Prop where
  dr : Right p.d
  fu : p.d.fuse ≤ 9223372036854775807
  nd : p.d.down = false
  l1 : 1 ≤ p.fr.length
  l2 : p.fr.length ≤ 256
  pn : ∀ x ∈ p.fr, 0 ≤ x.pins ∧ x.pins ≤ 256
theorem atF_eq {p : Pl} {i : Nat} (h : i < p.fr.length) : atF p i = p.fr[i] := by unfold atF; simp [List.getD, List.getElem?_eq_getElem h]
theorem atF_mem {p : Pl} {i : Nat} (h : i < p.fr.length) : atF p i ∈ p.fr := by rw [atF_eq h]; exact List.getElem_mem h
abbrev arT : TypeId := 135
def frB (fr : List Fr) (c : Nat) : Blk := ⟨frT, fr.flatMap frF, c * 7⟩
def arB (p b c : Nat) (x : Pl) (k : Int) : Blk := ⟨arT, [.pointer (some ⟨p, 0, none⟩), .slice (some ⟨b, 0, none⟩) x.fr.length c, .int .u64 x.tick, .int .u64 x.reads, .int .u64 x.writes, .int .i64 k], 6⟩
/-- A pool at work: its block a, over the memory M of its disk at work (p), its frames' block b. -/
def arM (M : Mem) (a p b c : Nat) (x : Pl) (k : Int) : Mem := (M.set b (frB x.fr c)).set a (arB p b c x k)
structure OkA (S : Mem) (a p b c : Nat) (x : Pl) (oE oW : Option (Nat × Nat)) : Prop where
  v : OkV S p x.d oE oW
  fb : Fresh (devM S p x.d oE oW) b
  fa : Fresh (devM S p x.d oE oW) a
  ab : a ≠ b
  l : x.fr.length ≤ c
def ArS (S : Mem) (a p b c : Nat) (x : Pl) (S' : Mem) : Prop := ∃ k oE oW, OkA S a p b c x oE oW ∧ S' = arM (devM S p x.d oE oW) a p b c x k
theorem spl_flat {α : Type} {n : Nat} {f : α → List Value} (hn : ∀ x, (f x).length = n) (l : List α) (k : Nat) (y : α) (h : k < l.length) : spl (l.flatMap f) (k * n) (f y) = (l.set k y).flatMap f := by
  have e1 : l = l.take k ++ l[k] :: l.drop (k + 1) := by rw [← drop_get h, List.take_append_drop]
  have e2 : l.set k y = l.take k ++ y :: l.drop (k + 1) := by rw [List.set_eq_take_append_cons_drop, if_pos h]
  rw [e2]
  conv => lhs; rw [e1]
  rw [List.flatMap_append, List.flatMap_append, List.flatMap_cons, List.flatMap_cons]
  have hl := flat_length hn (l.take k)
  rw [List.length_take, Nat.min_eq_left (Nat.le_of_lt h)] at hl
  have hk := hn l[k]
  have hy := hn y
  generalize List.flatMap f (List.take k l) = A at *
  generalize List.flatMap f (List.drop (k + 1) l) = B at *
  generalize f l[k] = C at *
  unfold spl
  rw [List.take_left' hl, ← List.append_assoc A C B, List.drop_left' (by rw [List.length_append]; omega), List.append_assoc]
theorem less_eq {S S' : Mem} (h : S = S') : S.Less S' := by rw [h]; exact Mem.Less.refl _
theorem ar_own {M : Mem} {a p b c : Nat} {x : Pl} {k : Int} : (arM M a p b c x k).own a = some (arB p b c x k) := Mem.own_set_same _ _ _
theorem ar_fr {M : Mem} {a p b c : Nat} {x : Pl} {k : Int} (h : a ≠ b) : (arM M a p b c x k).own b = some (frB x.fr c) := (Mem.own_set_other _ _ (Ne.symm h)).trans (Mem.own_set_same _ _ _)
theorem ar_setF {M : Mem} {a p b c : Nat} {x : Pl} {k : Int} (h : a ≠ b) (fr' : List Fr) (hl : fr'.length = x.fr.length) : (arM M a p b c x k).set b (frB fr' c) = arM M a p b c { x with fr := fr' } k := by
  unfold arM
  rw [← Mem.set_comm _ _ _ (Ne.symm h), Mem.set_set]
  unfold arB; rw [hl]
theorem ar_setA {M : Mem} {a p b c : Nat} {x x' : Pl} {k k' : Int} (h : x'.fr = x.fr) : (arM M a p b c x k).set a (arB p b c x' k') = arM M a p b c x' k' := by
  unfold arM
  rw [Mem.set_set, h]
theorem ar_sl {M : Mem} {a p b c : Nat} {x : Pl} {k : Int} (h : a ≠ b) (hl : x.fr.length ≤ c) (hm : x.fr.length ≤ 256) : Sl 7 frF (arM M a p b c x k) (.slice (some ⟨b, 0, none⟩) x.fr.length c) x.fr :=
  Sl.own (ar_fr h) fr_len List.prefix_rfl rfl hl (Nat.le_trans hm (by decide))
theorem ar_less {M : Mem} {a p b c : Nat} {x : Pl} {k : Int} (fb : Fresh M b) (fa : Fresh M a) (h : a ≠ b) : M.Less (arM M a p b c x k) :=
  (Mem.less_set _ _ _ fb.1).trans (Mem.less_set _ _ _ ((Mem.own_set_other _ _ h).trans fa.1))
theorem OkA.less {S : Mem} {a p b c : Nat} {x : Pl} {oE oW : Option (Nat × Nat)} (h : OkA S a p b c x oE oW) (k : Int) : S.Less (arM (devM S p x.d oE oW) a p b c x k) :=
  (h.v.dk.less.trans (Mem.less_set _ _ _ h.v.fr.1)).trans (ar_less h.fb h.fa h.ab)
theorem OkA.rd {S : Mem} {a p b c : Nat} {x : Pl} {oE oW : Option (Nat × Nat)} (h : OkA S a p b c x oE oW) (hw : PW x) (k : Int) : RdV (arM (devM S p x.d oE oW) a p b c x k) p x.d :=
  (h.v.rd (right_lens hw.dr).1 (right_lens hw.dr).2).less (ar_less h.fb h.fa h.ab)
theorem OkA.like {S : Mem} {a p b c : Nat} {x x' : Pl} {oE oW : Option (Nat × Nat)} (h : OkA S a p b c x oE oW) (hd : x'.d = x.d) (hl : x'.fr.length = x.fr.length) : OkA S a p b c x' oE oW :=
  ⟨by rw [hd]; exact h.v, by rw [hd]; exact h.fb, by rw [hd]; exact h.fa, h.ab, by rw [hl]; exact h.l⟩
/-- A call of the disk's, at work in a pool. -/
theorem ar_call {S : Mem} {a p b c : Nat} {x : Pl} {oE oW : Option (Nat × Nat)} (h : OkA S a p b c x oE oW) (k : Int) {f : FuncId} {args : Array Value} {R : Value → Mem → Prop} (hc : ACall Try.prog f args (devM S p x.d oE oW) R) :
    ACall Try.prog f args (arM (devM S p x.d oE oW) a p b c x k) fun r S' => ∃ M, R r M ∧ Fresh M b ∧ Fresh M a ∧ S' = arM M a p b c x k := by
  have fa' : Fresh ((devM S p x.d oE oW).set b (frB x.fr c)) a := fresh_more h.fa h.ab
  refine ((hc.frame (r := frB x.fr c) h.fb).frame (r := arB p b c x k) fa').mono fun r S' ⟨Sa, ⟨M, hR, f1, e1⟩, f2, e2⟩ => ?_
  subst e1
  exact ⟨M, hR, f1, (fresh_set f2).1, e2⟩
section
variable {P : Program} {N : Nat} {ops : Array Oper} {E : Env} {S : Mem} {K : Env → Mem → Prop}
variable {ty : TypeId} {pos : String} {aft : Array Edge} {gd : Option (Nat × Bool)}
/-- A frame is stored. -/
theorem Mv.ARun.storeFr {os : List Oper} {T : TypeId} {x y : Operand} {b o c i : Nat} {l : List Fr} {u : Fr} {v : Value} (hx : ev E x = some (.pointer (some ⟨b, o, none⟩))) (hy : ev E y = some v) (hv : v = frV u) (ho : o = i * 7) (hi : i < l.length) (hs : sizeT P T = some 7) (hb : S.own b = some (frB l c))
    (h : ARun P N ops os K E (S.set b (frB (l.set i u) c))) : ARun P N ops (⟨none, .store T x y, ty, pos, aft, none⟩ :: os) K E S := by
  subst hv ho
  have hl := flat_length fr_len l
  have := Nat.mul_le_mul_right 7 (show i + 1 ≤ l.length from hi)
  refine ARun.store hx hy (by unfold frV; exact hs) hb (by unfold frB frV; show i * 7 + 7 ≤ (l.flatMap frF).length; omega) (by unfold frV; simp [Value.cells, Value.oneCell']) ?_
  have e : spl (frB l c).cells (i * 7) (frV u).cells.toList = (l.set i u).flatMap frF := spl_flat fr_len l i u hi
  rw [e]; exact h
/-- A part of a frame is stored. -/
theorem Mv.ARun.storeFr1 {os : List Oper} {T : TypeId} {x y : Operand} {b o c i q : Nat} {l : List Fr} {u : Fr} {v : Value} (hx : ev E x = some (.pointer (some ⟨b, o, none⟩))) (hy : ev E y = some v) (hv1 : v.cells = #[v]) (hv2 : v.oneCell' = true) (ho : o = i * 7 + q) (hq : q < 7) (hi : i < l.length) (hu : (frF l[i]).set q v = frF u) (hs : sizeT P T = some 1) (hb : S.own b = some (frB l c))
    (h : ARun P N ops os K E (S.set b (frB (l.set i u) c))) : ARun P N ops (⟨none, .store T x y, ty, pos, aft, none⟩ :: os) K E S := by
  subst ho
  have hl := flat_length fr_len l
  have := Nat.mul_le_mul_right 7 (show i + 1 ≤ l.length from hi)
  refine ARun.store1 hx hy hs hv1 hb (by unfold frB; show i * 7 + q < (l.flatMap frF).length; omega) hv2 ?_
  have e : (frB l c).cells.set (i * 7 + q) v = (l.set i u).flatMap frF := flat_set fr_len l i u hi q v hq hu
  rw [e]; exact h
end
end Go.Proofs.Ytkeiphkccnfhoaa
namespace Go.Proofs.Ytkeiphkccnfhoaa
open Go.RowKit
open Mv Disk
set_option linter.unusedVariables false
set_option linter.unusedSimpArgs false
set_option maxRecDepth 4000
theorem Mv.Calm.maxE {P : Program} {N : Nat} {E : Env} {S : Mem} {dst : Option Nat} {ty : TypeId} {pos : String} {aft : Array Edge} {gd : Option (Nat × Bool)} {x y : Operand} {k k' : IntKind} {a b c : Int} {ats : Array TypeId} (h : c = max a b) (hx : ev E x = some (.int k a)) (hy : ev E y = some (.int k' b)) : ACalm P N ⟨dst, .call ⟨.builtin .max, #[x, y], ats⟩, ty, pos, aft, gd⟩ E S (.int k c) := by
  by_cases hab : a ≤ b
  · rw [show c = b from by omega]; exact Calm.maxR hx hy hab
  · rw [show c = a from by omega]; exact Calm.maxL hx hy (by omega)
theorem sl_at {α : Type} {n : Nat} {f : α → List Value} {S : Mem} {b : Nat} {len cap : Nat} {l : List α} (h : Sl n f S (.slice (some ⟨b, 0, none⟩) len cap) l) (i : Nat) (hi : i < l.length) : S.Knows ⟨b, 0 + i * n, none⟩ (f l[i]) := h.at1 i hi
theorem ar_kn {M : Mem} {a p b c : Nat} {x : Pl} {k : Int} (h : a ≠ b) (hl : x.fr.length ≤ c) (hm : x.fr.length ≤ 256) {i : Nat} (hi : i < x.fr.length) : (arM M a p b c x k).Knows ⟨b, 0 + i * 7, none⟩ (frF (atF x i)) := by
  rw [atF_eq hi]; exact sl_at (ar_sl h hl hm) i hi
set_option maxHeartbeats 2000000 in
theorem pl_busy (a p b c : Nat) (x : Pl) (k : Int) (S : Mem) (hA : S.own a = some (arB p b c x k)) (hF : Sl 7 frF S (.slice (some ⟨b, 0, none⟩) x.fr.length c) x.fr) (h256 : x.fr.length ≤ 256) :
    ACall Try.prog 130 #[.pointer (some ⟨a, 0, none⟩)] S fun r S' => (∃ n : Nat, n ≤ 256 ∧ r = .int .i64 n) ∧ S' = S := by
  unfold arB at hA
  refine ACall.enter (args := [.pointer (some ⟨a, 0, none⟩)]) (rs := [.tmp 2]) 22 [(0, .pointer (some ⟨a, 0, none⟩))] Try.func130 rfl rfl (Nat.le_of_ble_eq_true rfl) rfl ⟨rfl, trivial⟩ ?_
  refine AWP.seq ?_
  refine AWP.region ?_
  refine rC (Calm.assign rfl) ?_
  refine arun_nil ?_
  refine athen_n ?_
  refine AWP.seq ?_
  refine AWP.region ?_
  refine rC (Calm.assign rfl) ?_
  refine arun_nil ?_
  refine athen_n ?_
  refine AWP.seq ?_
  refine AWP.seq ?_
  refine AWP.region ?_
  refine rC (Calm.move rfl) ?_
  refine rC (Calm.nilCheck rfl) ?_
  refine rC (Calm.fieldAddr ty_field_135_1 rfl) ?_
  refine rC (ld_ ty_plain_57 rfl) ?_
  refine rC (Calm.lenSl Try.underlying57 rfl) ?_
  refine rC (Calm.move rfl) ?_
  refine arun_nil ?_
  refine athen_n ?_
  refine AWP.sub [(0, _), (2, _), (3, _), (9, _), (10, _), (11, _)] ⟨rfl, rfl, rfl, rfl, rfl, rfl, trivial⟩ ?_
  refine AWP.block ?_
  refine AWP.loop (X := Nat) (fun y => [(0, .pointer (some ⟨a, 0, none⟩)), (3, .int .i64 ((x.fr.take y).countP (fun z => !decide (z = F0)) : Nat)), (9, .slice (some ⟨b, 0, none⟩) x.fr.length c), (10, .int .i64 x.fr.length), (11, .int .i64 y)]) (fun _ => S) (fun y => y ≤ x.fr.length) (fun y => x.fr.length - y) (0) ⟨rfl, some_int (by simp), rfl, rfl, rfl, trivial⟩ less_ (Nat.zero_le _) ?_
  rintro i hi
  (try dsimp only at *)
  refine AWP.seq ?_
  refine AWP.region ?_
  refine rC (Calm.bin rfl rfl b_lss) ?_
  refine arun_nil ?_
  refine athen_n ?_
  refine AWP.seq ?_
  refine AWP.condB rfl (fun hc => ?_) (fun hc => ?_)
  · have hc : i < x.fr.length := by have := of_decide_eq_true hc; omega
    have hki := sl_at hF i hc
    have t1 := count_take (q := fun z => !decide (z = F0)) hc
    have u1 := count_le (q := fun z => !decide (z = F0)) x.fr (i + 1)
    generalize x.fr[i] = y at *
    have cf := fun S => pl_free y S
    unfold frV at cf
    unfold frF at hki
    by_cases q : y = F0
    · simp only [q, decide_true, Bool.not_true, Bool.false_eq_true, if_false, Nat.add_zero] at t1
      rw [decide_eq_true q] at cf
      refine AWP.skip ?_
      refine athen_n ?_
      refine AWP.seq ?_
      refine AWP.block ?_
      refine AWP.seq ?_
      refine AWP.region ?_
      refine rC (Calm.indexS Try.underlying57 ty_size_110 rfl rfl (by omega) (by omega)) ?_
      refine rC (ldA_ (cs := [_, _, _, _, _, _, _]) ty_agg_110 ty_size_110 rfl) ?_
      refine ARun.alloc (lit_lt rfl) ty_zero_110 ?_
      intro b5 f5
      have g5 := f5
      repeat ((with_reducible replace g5 := fresh_set g5); obtain ⟨g5, _⟩ := g5)
      have := g5.ne hA; have := g5.ne' hA
      (try simp only [List.length_cons, List.length_nil, Nat.zero_add, Nat.reduceAdd])
      first | refine ARun.storeAll rfl rfl ty_size_110 own_ rfl rfl ?_ | refine ARun.store rfl rfl ty_size_110 own_ lens_ rfl ?_
      (try simp only [Mem.set_set, List.set_cons_zero, List.set_cons_succ, Nat.zero_add, Nat.reduceAdd])
      refine arun_nil ?_
      refine athen_n ?_
      refine AWP.sub [(0, _), (3, _), (9, _), (10, _), (11, _), (12, _), (5, _)] ⟨rfl, rfl, rfl, rfl, rfl, rfl, rfl, trivial⟩ ?_
      refine AWP.seq ?_
      refine AWP.region ?_
      refine rC (ldA_ (cs := [_, _, _, _, _, _, _]) ty_agg_110 ty_size_110 rfl) ?_
      refine ARun.call (lit_lt rfl) go_128 rfl (cf _) ?_
      rintro _ S1 ⟨rfl, h1⟩
      rw [h1]; clear h1 S1
      refine rC (Calm.un rfl (una_not _)) ?_
      refine arun_nil ?_
      refine athen_n ?_
      refine AWP.sub [(0, _), (3, _), (9, _), (10, _), (11, _), (12, _), (5, _), (17, _)] ⟨rfl, rfl, rfl, rfl, rfl, rfl, rfl, rfl, trivial⟩ ?_
      refine AWP.condF rfl (by first | rfl | (simp; done) | (simp; omega)) ?_
      refine AWP.skip ?_
      refine ain_n ?_
      refine athen_n ?_
      refine AWP.region ?_
      refine rC (Calm.bin rfl rfl b_add_i64) ?_
      refine rC (Calm.move rfl) ?_
      refine arun_nil ?_
      refine athen_n ?_
      refine ⟨i + 1, ?_, ?_, ?_, ?_⟩
      all_goals (try dsimp only)
      · exact ⟨rfl, some_int (by omega), rfl, rfl, rfl, trivial⟩
      · exact less_
      · exact hc
      · omega
    · simp only [q, decide_false, Bool.not_false, if_true] at t1
      rw [decide_eq_false q] at cf
      refine AWP.skip ?_
      refine athen_n ?_
      refine AWP.seq ?_
      refine AWP.block ?_
      refine AWP.seq ?_
      refine AWP.region ?_
      refine rC (Calm.indexS Try.underlying57 ty_size_110 rfl rfl (by omega) (by omega)) ?_
      refine rC (ldA_ (cs := [_, _, _, _, _, _, _]) ty_agg_110 ty_size_110 rfl) ?_
      refine ARun.alloc (lit_lt rfl) ty_zero_110 ?_
      intro b5 f5
      have g5 := f5
      repeat ((with_reducible replace g5 := fresh_set g5); obtain ⟨g5, _⟩ := g5)
      have := g5.ne hA; have := g5.ne' hA
      (try simp only [List.length_cons, List.length_nil, Nat.zero_add, Nat.reduceAdd])
      first | refine ARun.storeAll rfl rfl ty_size_110 own_ rfl rfl ?_ | refine ARun.store rfl rfl ty_size_110 own_ lens_ rfl ?_
      (try simp only [Mem.set_set, List.set_cons_zero, List.set_cons_succ, Nat.zero_add, Nat.reduceAdd])
      refine arun_nil ?_
      refine athen_n ?_
      refine AWP.sub [(0, _), (3, _), (9, _), (10, _), (11, _), (12, _), (5, _)] ⟨rfl, rfl, rfl, rfl, rfl, rfl, rfl, trivial⟩ ?_
      refine AWP.seq ?_
      refine AWP.region ?_
      refine rC (ldA_ (cs := [_, _, _, _, _, _, _]) ty_agg_110 ty_size_110 rfl) ?_
      refine ARun.call (lit_lt rfl) go_128 rfl (cf _) ?_
      rintro _ S1 ⟨rfl, h1⟩
      rw [h1]; clear h1 S1
      refine rC (Calm.un rfl (una_not _)) ?_
      refine arun_nil ?_
      refine athen_n ?_
      refine AWP.sub [(0, _), (3, _), (9, _), (10, _), (11, _), (12, _), (5, _), (17, _)] ⟨rfl, rfl, rfl, rfl, rfl, rfl, rfl, rfl, trivial⟩ ?_
      refine AWP.condT rfl (by first | rfl | (simp; done) | (simp; omega)) ?_
      refine AWP.region ?_
      refine rC (Calm.move rfl) ?_
      refine rC (Calm.bin rfl rfl b_add_i64) ?_
      refine rC (Calm.assign rfl) ?_
      refine arun_nil ?_
      refine ain_n ?_
      refine athen_n ?_
      refine AWP.sub [(0, _), (3, _), (9, _), (10, _), (11, _), (12, _), (5, _), (17, _)] ⟨rfl, rfl, rfl, rfl, rfl, rfl, rfl, rfl, trivial⟩ ?_
      refine AWP.region ?_
      refine rC (Calm.bin rfl rfl b_add_i64) ?_
      refine rC (Calm.move rfl) ?_
      refine arun_nil ?_
      refine athen_n ?_
      refine ⟨i + 1, ?_, ?_, ?_, ?_⟩
      all_goals (try dsimp only)
      · exact ⟨rfl, some_int (by omega), rfl, rfl, rfl, trivial⟩
      · exact less_
      · exact hc
      · omega
  · have hcn : x.fr.countP (fun z => !decide (z = F0)) ≤ x.fr.length := List.countP_le_length
    have hc : i = x.fr.length := by have := of_decide_eq_false hc; omega
    subst hc
    rw [List.take_length]
    refine AWP.exit ?_
    refine athen_exit ?_
    refine athen_exit ?_
    refine ain_same ?_
    refine athen_n ?_
    refine AWP.seq ?_
    refine AWP.region ?_
    refine rC (Calm.move rfl) ?_
    refine rC (Calm.assign rfl) ?_
    refine arun_nil ?_
    refine athen_n ?_
    refine AWP.sub [(0, _), (3, _), (9, _), (10, _), (11, _), (12, _), (2, _)] ⟨rfl, rfl, rfl, rfl, rfl, rfl, rfl, trivial⟩ ?_
    refine AWP.ret ?_
    refine ⟨_, S, ⟨_, _, rfl, rfl, rfl⟩, less_, ?_⟩
    exact ⟨⟨_, by omega, rfl⟩, rfl⟩
set_option maxHeartbeats 2000000 in
theorem pl_idles (a p b c : Nat) (x : Pl) (k : Int) (S : Mem) (hA : S.own a = some (arB p b c x k)) (hF : Sl 7 frF S (.slice (some ⟨b, 0, none⟩) x.fr.length c) x.fr) (h256 : x.fr.length ≤ 256) :
    ACall Try.prog 109 #[.pointer (some ⟨a, 0, none⟩)] S fun r S' => r = .int .i64 (idlesP x : Nat) ∧ S' = S := by
  unfold arB at hA
  unfold idlesP
  refine ACall.enter (args := [.pointer (some ⟨a, 0, none⟩)]) (rs := [.tmp 2]) 21 [(0, .pointer (some ⟨a, 0, none⟩))] Try.func109 rfl rfl (Nat.le_of_ble_eq_true rfl) rfl ⟨rfl, trivial⟩ ?_
  refine AWP.seq ?_
  refine AWP.region ?_
  refine rC (Calm.assign rfl) ?_
  refine arun_nil ?_
  refine athen_n ?_
  refine AWP.seq ?_
  refine AWP.region ?_
  refine rC (Calm.assign rfl) ?_
  refine arun_nil ?_
  refine athen_n ?_
  refine AWP.seq ?_
  refine AWP.seq ?_
  refine AWP.region ?_
  refine rC (Calm.move rfl) ?_
  refine rC (Calm.nilCheck rfl) ?_
  refine rC (Calm.fieldAddr ty_field_135_1 rfl) ?_
  refine rC (ld_ ty_plain_57 rfl) ?_
  refine rC (Calm.lenSl Try.underlying57 rfl) ?_
  refine rC (Calm.move rfl) ?_
  refine arun_nil ?_
  refine athen_n ?_
  refine AWP.sub [(0, _), (2, _), (3, _), (9, _), (10, _), (11, _)] ⟨rfl, rfl, rfl, rfl, rfl, rfl, trivial⟩ ?_
  refine AWP.block ?_
  refine AWP.loop (X := Nat) (fun y => [(0, .pointer (some ⟨a, 0, none⟩)), (3, .int .i64 ((x.fr.take y).countP (fun z => decide z.idle) : Nat)), (9, .slice (some ⟨b, 0, none⟩) x.fr.length c), (10, .int .i64 x.fr.length), (11, .int .i64 y)]) (fun _ => S) (fun y => y ≤ x.fr.length) (fun y => x.fr.length - y) (0) ⟨rfl, some_int (by simp), rfl, rfl, rfl, trivial⟩ less_ (Nat.zero_le _) ?_
  rintro i hi
  (try dsimp only at *)
  refine AWP.seq ?_
  refine AWP.region ?_
  refine rC (Calm.bin rfl rfl b_lss) ?_
  refine arun_nil ?_
  refine athen_n ?_
  refine AWP.seq ?_
  refine AWP.condB rfl (fun hc => ?_) (fun hc => ?_)
  · have hc : i < x.fr.length := by have := of_decide_eq_true hc; omega
    have hki := sl_at hF i hc
    have t1 := count_take (q := fun z => decide z.idle) hc
    have u1 := count_le (q := fun z => decide z.idle) x.fr (i + 1)
    generalize x.fr[i] = y at *
    have cf := fun S => pl_idle y S
    unfold frV at cf
    unfold frF at hki
    by_cases q : y.idle
    · simp only [q, decide_true, if_true] at t1
      rw [decide_eq_true q] at cf
      refine AWP.skip ?_
      refine athen_n ?_
      refine AWP.seq ?_
      refine AWP.block ?_
      refine AWP.seq ?_
      refine AWP.region ?_
      refine rC (Calm.indexS Try.underlying57 ty_size_110 rfl rfl (by omega) (by omega)) ?_
      refine rC (ldA_ (cs := [_, _, _, _, _, _, _]) ty_agg_110 ty_size_110 rfl) ?_
      refine ARun.alloc (lit_lt rfl) ty_zero_110 ?_
      intro b5 f5
      have g5 := f5
      repeat ((with_reducible replace g5 := fresh_set g5); obtain ⟨g5, _⟩ := g5)
      have := g5.ne hA; have := g5.ne' hA
      (try simp only [List.length_cons, List.length_nil, Nat.zero_add, Nat.reduceAdd])
      first | refine ARun.storeAll rfl rfl ty_size_110 own_ rfl rfl ?_ | refine ARun.store rfl rfl ty_size_110 own_ lens_ rfl ?_
      (try simp only [Mem.set_set, List.set_cons_zero, List.set_cons_succ, Nat.zero_add, Nat.reduceAdd])
      refine arun_nil ?_
      refine athen_n ?_
      refine AWP.sub [(0, _), (3, _), (9, _), (10, _), (11, _), (12, _), (5, _)] ⟨rfl, rfl, rfl, rfl, rfl, rfl, rfl, trivial⟩ ?_
      refine AWP.seq ?_
      refine AWP.region ?_
      refine rC (ldA_ (cs := [_, _, _, _, _, _, _]) ty_agg_110 ty_size_110 rfl) ?_
      refine ARun.call (lit_lt rfl) go_129 rfl (cf _) ?_
      rintro _ S1 ⟨rfl, h1⟩
      rw [h1]; clear h1 S1
      refine arun_nil ?_
      refine athen_n ?_
      refine AWP.sub [(0, _), (3, _), (9, _), (10, _), (11, _), (12, _), (5, _), (16, _)] ⟨rfl, rfl, rfl, rfl, rfl, rfl, rfl, rfl, trivial⟩ ?_
      refine AWP.condT rfl (by first | rfl | (simp; done) | (simp; omega)) ?_
      refine AWP.region ?_
      refine rC (Calm.move rfl) ?_
      refine rC (Calm.bin rfl rfl b_add_i64) ?_
      refine rC (Calm.assign rfl) ?_
      refine arun_nil ?_
      refine ain_n ?_
      refine athen_n ?_
      refine AWP.sub [(0, _), (3, _), (9, _), (10, _), (11, _), (12, _), (5, _), (16, _)] ⟨rfl, rfl, rfl, rfl, rfl, rfl, rfl, rfl, trivial⟩ ?_
      refine AWP.region ?_
      refine rC (Calm.bin rfl rfl b_add_i64) ?_
      refine rC (Calm.move rfl) ?_
      refine arun_nil ?_
      refine athen_n ?_
      refine ⟨i + 1, ?_, ?_, ?_, ?_⟩
      all_goals (try dsimp only)
      · exact ⟨rfl, some_int (by omega), rfl, rfl, rfl, trivial⟩
      · exact less_
      · exact hc
      · omega
    · simp only [q, decide_false, Bool.false_eq_true, if_false, Nat.add_zero] at t1
      rw [decide_eq_false q] at cf
      refine AWP.skip ?_
      refine athen_n ?_
      refine AWP.seq ?_
      refine AWP.block ?_
      refine AWP.seq ?_
      refine AWP.region ?_
      refine rC (Calm.indexS Try.underlying57 ty_size_110 rfl rfl (by omega) (by omega)) ?_
      refine rC (ldA_ (cs := [_, _, _, _, _, _, _]) ty_agg_110 ty_size_110 rfl) ?_
      refine ARun.alloc (lit_lt rfl) ty_zero_110 ?_
      intro b5 f5
      have g5 := f5
      repeat ((with_reducible replace g5 := fresh_set g5); obtain ⟨g5, _⟩ := g5)
      have := g5.ne hA; have := g5.ne' hA
      (try simp only [List.length_cons, List.length_nil, Nat.zero_add, Nat.reduceAdd])
      first | refine ARun.storeAll rfl rfl ty_size_110 own_ rfl rfl ?_ | refine ARun.store rfl rfl ty_size_110 own_ lens_ rfl ?_
      (try simp only [Mem.set_set, List.set_cons_zero, List.set_cons_succ, Nat.zero_add, Nat.reduceAdd])
      refine arun_nil ?_
      refine athen_n ?_
      refine AWP.sub [(0, _), (3, _), (9, _), (10, _), (11, _), (12, _), (5, _)] ⟨rfl, rfl, rfl, rfl, rfl, rfl, rfl, trivial⟩ ?_
      refine AWP.seq ?_
      refine AWP.region ?_
      refine rC (ldA_ (cs := [_, _, _, _, _, _, _]) ty_agg_110 ty_size_110 rfl) ?_
      refine ARun.call (lit_lt rfl) go_129 rfl (cf _) ?_
      rintro _ S1 ⟨rfl, h1⟩
      rw [h1]; clear h1 S1
      refine arun_nil ?_
      refine athen_n ?_
      refine AWP.sub [(0, _), (3, _), (9, _), (10, _), (11, _), (12, _), (5, _), (16, _)] ⟨rfl, rfl, rfl, rfl, rfl, rfl, rfl, rfl, trivial⟩ ?_
      refine AWP.condF rfl (by first | rfl | (simp; done) | (simp; omega)) ?_
      refine AWP.skip ?_
      refine ain_n ?_
      refine athen_n ?_
      refine AWP.region ?_
      refine rC (Calm.bin rfl rfl b_add_i64) ?_
      refine rC (Calm.move rfl) ?_
      refine arun_nil ?_
      refine athen_n ?_
      refine ⟨i + 1, ?_, ?_, ?_, ?_⟩
      all_goals (try dsimp only)
      · exact ⟨rfl, some_int (by omega), rfl, rfl, rfl, trivial⟩
      · exact less_
      · exact hc
      · omega
  · have hc : i = x.fr.length := by have := of_decide_eq_false hc; omega
    subst hc
    rw [List.take_length]
    refine AWP.exit ?_
    refine athen_exit ?_
    refine athen_exit ?_
    refine ain_same ?_
    refine athen_n ?_
    refine AWP.seq ?_
    refine AWP.region ?_
    refine rC (Calm.move rfl) ?_
    refine rC (Calm.assign rfl) ?_
    refine arun_nil ?_
    refine athen_n ?_
    refine AWP.sub [(0, _), (3, _), (9, _), (10, _), (11, _), (12, _), (2, _)] ⟨rfl, rfl, rfl, rfl, rfl, rfl, rfl, trivial⟩ ?_
    refine AWP.ret ?_
    refine ⟨_, S, ⟨_, _, rfl, rfl, rfl⟩, less_, ?_⟩
    exact ⟨rfl, rfl⟩
theorem ar_eq {M : Mem} {a p b c : Nat} {x x' : Pl} {k : Int} (h1 : x.fr = x'.fr) (h2 : x.tick = x'.tick) (h3 : x.reads = x'.reads) (h4 : x.writes = x'.writes) : arM M a p b c x k = arM M a p b c x' k := by
  unfold arM arB; rw [h1, h2, h3, h4]
/-- Parts of a frame. -/
theorem kn_fr {S : Mem} {b o : Nat} {y : Fr} (h : S.Knows ⟨b, o, none⟩ (frF y)) : S.Knows ⟨b, o + 0, none⟩ [.string y.name] ∧ S.Knows ⟨b, o + 1, none⟩ [.int .i64 y.sector] ∧ S.Knows ⟨b, o + 2, none⟩ [.string y.data] ∧ S.Knows ⟨b, o + 3, none⟩ [.int .i64 y.pins] ∧ S.Knows ⟨b, o + 4, none⟩ [.bool y.dirty] ∧ S.Knows ⟨b, o + 5, none⟩ [.int .u64 y.tick] ∧ S.Knows ⟨b, o + 6, none⟩ [.bool y.leased] :=
  ⟨kn_at h 0 rfl, kn_at h 1 rfl, kn_at h 2 rfl, kn_at h 3 rfl, kn_at h 4 rfl, kn_at h 5 rfl, kn_at h 6 rfl⟩
theorem kn_zero {S : Mem} {b o : Nat} {cs : List Value} (h : S.Knows ⟨b, 0 + o, none⟩ cs) : S.Knows ⟨b, o, none⟩ cs := by rw [Nat.zero_add] at h; exact h
/-- What an operation of a pool at work gives. -/
def ArR (S : Mem) (a p b c : Nat) (q : Pl × Int) (r : Value) (S' : Mem) : Prop := r = .int .i64 q.2 ∧ ArS S a p b c q.1 S'
set_option maxHeartbeats 2000000 in
theorem pl_write (a p b c : Nat) (x : Pl) (i : Nat) (k : Int) (S : Mem) (oE oW : Option (Nat × Nat)) (hok : OkA S a p b c x oE oW) (hw : PW x) (hi : i < x.fr.length) :
    ACall Try.prog 127 #[.pointer (some ⟨a, 0, none⟩), .int .i64 (i : Nat)] (arM (devM S p x.d oE oW) a p b c x k) (ArR S a p b c (wrP x i)) := by
  have hi2 := Nat.le_trans (Nat.le_of_lt hi) hw.l2
  have hA := ar_own (M := devM S p x.d oE oW) (a := a) (p := p) (b := b) (c := c) (x := x) (k := k)
  have hok1 : OkA S a p b c { x with writes := up1 x.writes } oE oW := hok.like rfl rfl
  have hcall := ar_call hok1 k (dev_Write p x.d (atF x i).name (atF x i).sector (atF x i).data S oE oW hok1.v hw.dr hw.fu)
  have hsA := ar_setA (M := devM S p x.d oE oW) (a := a) (p := p) (b := b) (c := c) (x := x) (x' := { x with writes := up1 x.writes }) (k := k) (k' := k) rfl
  have hA1 := ar_own (M := devM S p x.d oE oW) (a := a) (p := p) (b := b) (c := c) (x := { x with writes := up1 x.writes }) (k := k)
  have hK := ar_kn (M := devM S p x.d oE oW) (p := p) (x := { x with writes := up1 x.writes }) (k := k) hok1.ab hok1.l hw.l2 hi
  obtain ⟨k0, k1, k2, k3, k4, k5, k6⟩ := kn_fr (kn_zero hK)
  have hat : atF { x with writes := up1 x.writes } i = atF x i := rfl
  rw [hat] at k0 k1 k2 k3 k4 k5 k6
  unfold wrP
  generalize hy : atF x i = y at *
  generalize hq : writeD x.d y.name y.sector y.data = q at *
  generalize hT : arM (devM S p x.d oE oW) a p b c x k = T at *
  generalize hT1 : arM (devM S p x.d oE oW) a p b c { x with writes := up1 x.writes } k = T1 at *
  unfold arB at hA hA1
  refine ACall.enter (args := [.pointer (some ⟨a, 0, none⟩), .int .i64 (i : Nat)]) (rs := [.tmp 4]) 43 [(0, .pointer (some ⟨a, 0, none⟩)), (1, .int .i64 (i : Nat))] Try.func127 rfl rfl (Nat.le_of_ble_eq_true rfl) rfl ⟨rfl, rfl, trivial⟩ ?_
  refine AWP.seq ?_
  refine AWP.region ?_
  refine rC (Calm.assign rfl) ?_
  refine arun_nil ?_
  refine athen_n ?_
  refine AWP.seq ?_
  refine AWP.region ?_
  refine rC (Calm.move rfl) ?_
  refine rC (Calm.nilCheck rfl) ?_
  refine rC (Calm.fieldAddr ty_field_135_1 rfl) ?_
  refine rC (ld_ ty_plain_57 rfl) ?_
  refine rC (Calm.move rfl) ?_
  refine rC (Calm.indexS Try.underlying57 ty_size_110 rfl rfl (by omega) (by omega)) ?_
  refine rC (Calm.assign rfl) ?_
  refine arun_nil ?_
  refine athen_n ?_
  refine AWP.sub [(0, _), (1, _), (4, _), (5, _)] ⟨rfl, rfl, rfl, rfl, trivial⟩ ?_
  refine AWP.seq ?_
  refine AWP.region ?_
  refine rC (Calm.move rfl) ?_
  refine rC (Calm.nilCheck rfl) ?_
  refine rC (Calm.fieldAddr ty_field_135_4 rfl) ?_
  refine rC (ld_ ty_plain_58 rfl) ?_
  refine rC (Calm.bin rfl rfl b_add_u64) ?_
  refine rC (Calm.nilCheck rfl) ?_
  refine rC (Calm.fieldAddr ty_field_135_4 rfl) ?_
  refine ARun.store1 rfl rfl ty_size_58 rfl hA (show 4 < 6 from by decide) rfl ?_
  (try simp only [Mem.set_set, List.set_cons_zero, List.set_cons_succ, Nat.zero_add, Nat.reduceAdd])
  refine arun_nil ?_
  refine athen_n ?_
  refine AWP.sub [(0, _), (1, _), (4, _), (5, _)] ⟨rfl, rfl, rfl, rfl, trivial⟩ ?_
  refine AWP.less T1 (by rw [← hsA]; exact Mem.Less.refl _) ?_
  refine AWP.seq ?_
  refine AWP.draw [(0, true), (1, true), (2, true), (3, true), (4, true), (5, true), (6, true), (7, true), (8, true), (9, true), (10, true), (11, true), (12, true), (13, true), (14, true), (15, true), (16, false), (17, true)] [16] mixed (by kernel_rfl) ?_
  refine dP (hc := fun _ => Calm.move rfl) (h := ?_)
  refine dP (hc := fun _ => Calm.nilCheck rfl) (h := ?_)
  refine dP (hc := fun _ => Calm.fieldAddr ty_field_135_0 rfl) (h := ?_)
  refine dC (hc := ld_ ty_plain_72 rfl) (h := ?_)
  refine dP (hc := fun _ => Calm.move rfl) (h := ?_)
  refine dP (hc := fun _ => Calm.nilCheck rfl) (h := ?_)
  refine dP (hc := fun _ => Calm.fieldAddr ty_field_110_0 rfl) (h := ?_)
  refine dC (hc := ld_ ty_plain_9 rfl) (h := ?_)
  refine dP (hc := fun _ => Calm.move rfl) (h := ?_)
  refine dP (hc := fun _ => Calm.nilCheck rfl) (h := ?_)
  refine dP (hc := fun _ => Calm.fieldAddr ty_field_110_1 rfl) (h := ?_)
  refine dC (hc := ld_ ty_plain_3 rfl) (h := ?_)
  refine dP (hc := fun _ => Calm.move rfl) (h := ?_)
  refine dP (hc := fun _ => Calm.nilCheck rfl) (h := ?_)
  refine dP (hc := fun _ => Calm.fieldAddr ty_field_110_2 rfl) (h := ?_)
  refine dC (hc := ld_ ty_plain_9 rfl) (h := ?_)
  refine draw_only rfl ?_
  refine ARun.call (lit_lt rfl) go_64 rfl (hcall) ?_
  rintro _ S1 ⟨M, ⟨oE', oW', hok', rfl, hM⟩, fb, fa, h1⟩
  rw [h1]; clear h1 S1; rw [hM] at fb fa ⊢
  refine arun_nil ⟨fun h => absurd h (by decide), ?_⟩
  refine dP (hc := fun _ => Calm.assign rfl) (h := ?_)
  refine draw_nil ?_
  refine athen_n ?_
  refine AWP.sub [(0, _), (1, _), (4, _), (5, _), (6, _)] ⟨rfl, rfl, rfl, rfl, rfl, trivial⟩ ?_
  by_cases e0 : q.2 = 0
  · refine AWP.seq ?_
    refine AWP.seq ?_
    refine AWP.region ?_
    refine rC (Calm.move rfl) ?_
    refine rC (Calm.bin rfl rfl b_eql) ?_
    refine arun_nil ?_
    refine athen_n ?_
    refine AWP.sub [(0, _), (1, _), (4, _), (5, _), (6, _), (38, _)] ⟨rfl, rfl, rfl, rfl, rfl, rfl, trivial⟩ ?_
    refine AWP.condT rfl (by first | rfl | (simp; done) | (simp; omega)) ?_
    refine AWP.region ?_
    refine rC (Calm.move rfl) ?_
    refine rC (Calm.nilCheck rfl) ?_
    refine rC (Calm.fieldAddr ty_field_110_4 rfl) ?_
    refine ARun.storeFr1 (c := c) (i := i) (l := x.fr) (q := 4) (u := { y with dirty := false }) rfl rfl rfl rfl (by omega) (by decide) hi (by rw [← hy, atF_eq hi]; rfl) ty_size_4 (ar_fr hok.ab) ?_
    (try simp only [Mem.set_set, List.set_cons_zero, List.set_cons_succ, Nat.zero_add, Nat.reduceAdd])
    refine arun_nil ?_
    refine athen_n ?_
    refine AWP.sub [(0, _), (1, _), (4, _), (5, _), (6, _), (38, _)] ⟨rfl, rfl, rfl, rfl, rfl, rfl, trivial⟩ ?_
    rw [show ∀ u, (arM (devM S p q.1 oE' oW') a p b c { x with writes := up1 x.writes } k).set b (frB (x.fr.set i u) c) = arM (devM S p q.1 oE' oW') a p b c { x with writes := up1 x.writes, fr := x.fr.set i u } k from fun u => ar_setF hok.ab _ (by simp)]
    refine AWP.seq ?_
    refine AWP.region ?_
    refine rC (Calm.move rfl) ?_
    refine rC (Calm.assign rfl) ?_
    refine arun_nil ?_
    refine athen_n ?_
    refine AWP.sub [(0, _), (1, _), (4, _), (5, _), (6, _), (38, _)] ⟨rfl, rfl, rfl, rfl, rfl, rfl, trivial⟩ ?_
    refine AWP.ret ?_
    refine ⟨_, arM (devM S p q.1 oE' oW') a p b c { x with writes := up1 x.writes, fr := x.fr.set i { y with dirty := false } } k, ⟨_, _, rfl, rfl, rfl⟩, Mem.Less.refl _, ?_⟩
    exact ⟨rfl, k, oE', oW', ⟨hok', fb, fa, hok.ab, by simp only [if_pos e0, List.length_set]; exact hok.l⟩, by simp only [if_pos e0]; exact ar_eq rfl rfl rfl rfl⟩
  · refine AWP.seq ?_
    refine AWP.seq ?_
    refine AWP.region ?_
    refine rC (Calm.move rfl) ?_
    refine rC (Calm.bin rfl rfl b_eql) ?_
    refine arun_nil ?_
    refine athen_n ?_
    refine AWP.sub [(0, _), (1, _), (4, _), (5, _), (6, _), (38, _)] ⟨rfl, rfl, rfl, rfl, rfl, rfl, trivial⟩ ?_
    refine AWP.condF rfl (by first | rfl | (simp; done) | (simp; omega)) ?_
    refine AWP.skip ?_
    refine athen_n ?_
    refine AWP.seq ?_
    refine AWP.region ?_
    refine rC (Calm.move rfl) ?_
    refine rC (Calm.assign rfl) ?_
    refine arun_nil ?_
    refine athen_n ?_
    refine AWP.sub [(0, _), (1, _), (4, _), (5, _), (6, _), (38, _)] ⟨rfl, rfl, rfl, rfl, rfl, rfl, trivial⟩ ?_
    refine AWP.ret ?_
    refine ⟨_, arM (devM S p q.1 oE' oW') a p b c { x with writes := up1 x.writes } k, ⟨_, _, rfl, rfl, rfl⟩, Mem.Less.refl _, ?_⟩
    exact ⟨rfl, k, oE', oW', ⟨hok', fb, fa, hok.ab, by simp only [if_neg e0]; exact hok.l⟩, by simp only [if_neg e0]; exact ar_eq rfl rfl rfl rfl⟩
end Go.Proofs.Ytkeiphkccnfhoaa
namespace Go.Proofs.Ytkeiphkccnfhoaa
open Go.RowKit
open Mv Disk
set_option linter.unusedVariables false
set_option linter.unusedSimpArgs false
set_option maxRecDepth 4000
theorem wrP_len (x : Pl) (i : Nat) : (wrP x i).1.fr.length = x.fr.length := by
  unfold wrP; simp only; split <;> simp
theorem getD_at {l : List Fr} {i : Nat} (h : i < l.length) : l.getD i F0 = l[i] := by simp [List.getD, List.getElem?_eq_getElem h]
theorem findF0_at {l : List Fr} {i : Nat} (h : i < l.length) (he : l[i] = F0) (hn : ∀ j (hj : j < l.length), j < i → l[j] ≠ F0) : l.findIdx (fun x => decide (x = F0)) = i :=
  (List.findIdx_eq h).2 ⟨by simp [he], fun j hj => by simp [hn j (by omega) hj]⟩
theorem findF0_no {l : List Fr} (hn : ∀ j (hj : j < l.length), l[j] ≠ F0) : ¬ l.findIdx (fun x => decide (x = F0)) < l.length := fun h => by
  have := List.findIdx_getElem (w := h)
  simp only [decide_eq_true_eq] at this
  exact hn _ h this
set_option maxHeartbeats 4000000 in
theorem pl_take (a p b c : Nat) (x : Pl) (k : Int) (S : Mem) (oE oW : Option (Nat × Nat)) (hok : OkA S a p b c x oE oW) (hw : PW x) :
    ACall Try.prog 110 #[.pointer (some ⟨a, 0, none⟩)] (arM (devM S p x.d oE oW) a p b c x k) fun r S' => r = .tuple #[.int .i64 ((takeP x).2.1 : Nat), .int .i64 (takeP x).2.2] ∧ ArS S a p b c (takeP x).1 S' := by
  have h256 := hw.l2
  have hA := ar_own (M := devM S p x.d oE oW) (a := a) (p := p) (b := b) (c := c) (x := x) (k := k)
  have hB := ar_fr (M := devM S p x.d oE oW) (p := p) (c := c) (x := x) (k := k) hok.ab
  have hF := ar_sl (M := devM S p x.d oE oW) (p := p) (x := x) (k := k) hok.ab hok.l hw.l2
  have hsA := fun k' => ar_setA (M := devM S p x.d oE oW) (a := a) (p := p) (b := b) (c := c) (x := x) (x' := x) (k := k) (k' := k') rfl
  have hsF := fun fr' h => ar_setF (M := devM S p x.d oE oW) (p := p) (c := c) (x := x) (k := k) hok.ab fr' h
  have hwr := fun m hm => pl_write a p b c x m k S oE oW hok hw hm
  generalize hT : arM (devM S p x.d oE oW) a p b c x k = T at *
  have hbusy := fun S => pl_busy a p b c x k S
  unfold arB at hA hbusy
  refine ACall.enter (args := [.pointer (some ⟨a, 0, none⟩)]) (rs := [.tmp 2, .tmp 3]) 79 [(0, .pointer (some ⟨a, 0, none⟩))] Try.func110 rfl rfl (Nat.le_of_ble_eq_true rfl) rfl ⟨rfl, trivial⟩ ?_
  refine AWP.seq ?_
  refine AWP.region ?_
  refine rC (Calm.assign rfl) ?_
  refine rC (Calm.assign rfl) ?_
  refine arun_nil ?_
  refine athen_n ?_
  refine AWP.seq ?_
  refine AWP.region ?_
  refine rC (Calm.assign rfl) ?_
  refine arun_nil ?_
  refine athen_n ?_
  refine AWP.seq ?_
  refine AWP.seq ?_
  refine AWP.region ?_
  refine rC (Calm.move rfl) ?_
  refine rC (Calm.nilCheck rfl) ?_
  refine rC (Calm.fieldAddr ty_field_135_1 rfl) ?_
  refine rC (ld_ ty_plain_57 rfl) ?_
  refine rC (Calm.lenSl Try.underlying57 rfl) ?_
  refine rC (Calm.move rfl) ?_
  refine arun_nil ?_
  refine athen_n ?_
  refine AWP.sub [(0, _), (2, _), (3, _), (4, _), (11, _), (12, _), (13, _)] ⟨rfl, rfl, rfl, rfl, rfl, rfl, rfl, trivial⟩ ?_
  refine AWP.block ?_
  refine AWP.loop (X := Nat) (fun y => [(0, .pointer (some ⟨a, 0, none⟩)), (4, .int .i64 (bestF x.fr y)), (11, .slice (some ⟨b, 0, none⟩) x.fr.length c), (12, .int .i64 x.fr.length), (13, .int .i64 y)]) (fun _ => T) (fun y => y ≤ x.fr.length ∧ ∀ j (hj : j < x.fr.length), j < y → x.fr[j] ≠ F0) (fun y => x.fr.length - y) (0) ⟨rfl, rfl, rfl, rfl, rfl, trivial⟩ less_ (⟨Nat.zero_le _, fun j _ h => absurd h (Nat.not_lt_zero _)⟩) ?_
  rintro i ⟨hi, hno⟩
  (try dsimp only at *)
  obtain ⟨hb0, hb1⟩ := bestF_le x.fr i
  refine AWP.seq ?_
  refine AWP.region ?_
  refine rC (Calm.bin rfl rfl b_lss) ?_
  refine arun_nil ?_
  refine athen_n ?_
  refine AWP.seq ?_
  refine AWP.condB rfl (fun hc => ?_) (fun hc => ?_)
  · have hc : i < x.fr.length := by have := of_decide_eq_true hc; omega
    have hki := sl_at hF i hc
    have hge := getD_at hc
    by_cases q : x.fr[i] = F0
    · have htk : takeP x = (x, i, 0) := by unfold takeP; rw [findF0_at hc q hno, if_pos hc]
      rw [htk]
      have cf := fun S => pl_free x.fr[i] S
      rw [decide_eq_true q] at cf
      generalize x.fr[i] = y at *
      unfold frV at cf
      unfold frF at hki
      refine AWP.skip ?_
      refine athen_n ?_
      refine AWP.seq ?_
      refine AWP.block ?_
      refine AWP.seq ?_
      refine AWP.region ?_
      refine rC (Calm.move rfl) ?_
      refine rC (Calm.indexS Try.underlying57 ty_size_110 rfl rfl (by omega) (by omega)) ?_
      refine rC (ldA_ (cs := [_, _, _, _, _, _, _]) ty_agg_110 ty_size_110 rfl) ?_
      refine ARun.alloc (lit_lt rfl) ty_zero_110 ?_
      intro b6 f6
      have g6 := f6
      repeat ((with_reducible replace g6 := fresh_set g6); obtain ⟨g6, _⟩ := g6)
      have := g6.ne hA; have := g6.ne' hA
      (try simp only [List.length_cons, List.length_nil, Nat.zero_add, Nat.reduceAdd])
      refine rC (Calm.assign rfl) ?_
      first | refine ARun.storeAll rfl rfl ty_size_110 own_ rfl rfl ?_ | refine ARun.store rfl rfl ty_size_110 own_ lens_ rfl ?_
      (try simp only [Mem.set_set, List.set_cons_zero, List.set_cons_succ, Nat.zero_add, Nat.reduceAdd])
      refine arun_nil ?_
      refine athen_n ?_
      refine AWP.sub [(0, _), (4, _), (11, _), (12, _), (13, _), (14, _), (6, _), (5, _)] ⟨rfl, rfl, rfl, rfl, rfl, rfl, rfl, rfl, trivial⟩ ?_
      refine AWP.block ?_
      refine AWP.seq ?_
      refine AWP.region ?_
      refine rC (ldA_ (cs := [_, _, _, _, _, _, _]) ty_agg_110 ty_size_110 rfl) ?_
      refine ARun.call (lit_lt rfl) go_128 rfl (cf _) ?_
      rintro _ S1 ⟨rfl, h1⟩
      rw [h1]; clear h1 S1
      refine rC (Calm.assign rfl) ?_
      refine arun_nil ?_
      refine athen_n ?_
      refine AWP.sub [(0, _), (4, _), (11, _), (12, _), (13, _), (14, _), (6, _), (5, _), (18, _)] ⟨rfl, rfl, rfl, rfl, rfl, rfl, rfl, rfl, rfl, trivial⟩ ?_
      refine AWP.condT rfl (by first | rfl | (simp; done) | (simp; omega)) ?_
      refine AWP.seq ?_
      refine AWP.draw [(0, true), (1, true), (2, true), (3, true), (4, true), (5, true), (6, false), (7, true), (8, true), (9, true), (10, true), (11, false)] [11] mixed (by kernel_rfl) ?_
      refine dP (hc := fun _ => Calm.move rfl) (h := ?_)
      refine dP (hc := fun _ => Calm.move rfl) (h := ?_)
      refine dP (hc := fun _ => Calm.nilCheck rfl) (h := ?_)
      refine dP (hc := fun _ => Calm.fieldAddr ty_field_135_5 rfl) (h := ?_)
      refine dC (hc := ld_ ty_plain_3 rfl) (h := ?_)
      refine dP (hc := fun _ => Calm.move rfl) (h := ?_)
      refine draw_only rfl ?_
      refine ARun.call (lit_lt rfl) go_130 rfl (hbusy _ own_ (hF.less less_) h256) ?_
      rintro _ S1 ⟨⟨n, hn, rfl⟩, h1⟩
      rw [h1]; clear h1 S1
      refine arun_nil ⟨fun _ => less_, ?_⟩
      refine dP (hc := fun _ => Calm.bin rfl rfl b_add_i64) (h := ?_)
      refine dC (hc := Calm.maxE rfl rfl rfl) (h := ?_)
      refine dP (hc := fun _ => Calm.nilCheck rfl) (h := ?_)
      refine dP (hc := fun _ => Calm.fieldAddr ty_field_135_5 rfl) (h := ?_)
      refine draw_only rfl ?_
      refine ARun.store1 (r := ⟨_, [_, _, _, _, _, _], 6⟩) rfl rfl ty_size_3 rfl own_ (show 0 + 5 < 6 from by decide) rfl ?_
      (try simp only [Mem.set_set, List.set_cons_zero, List.set_cons_succ, Nat.zero_add, Nat.reduceAdd])
      refine arun_nil ⟨fun h => absurd h (by decide), ?_⟩
      refine draw_nil ?_
      refine athen_n ?_
      refine AWP.sub [(0, _), (4, _), (11, _), (12, _), (13, _), (14, _), (6, _), (5, _), (18, _)] ⟨rfl, rfl, rfl, rfl, rfl, rfl, rfl, rfl, rfl, trivial⟩ ?_
      refine AWP.seq ?_
      refine AWP.region ?_
      refine rC (Calm.move rfl) ?_
      refine rC (Calm.assign rfl) ?_
      refine rC (Calm.assign rfl) ?_
      refine arun_nil ?_
      refine athen_n ?_
      refine AWP.sub [(0, _), (4, _), (11, _), (12, _), (13, _), (14, _), (6, _), (5, _), (18, _), (2, _), (3, _)] ⟨rfl, rfl, rfl, rfl, rfl, rfl, rfl, rfl, rfl, rfl, rfl, trivial⟩ ?_
      refine AWP.ret ?_
      refine ain_ret ?_
      refine ain_ret ?_
      refine athen_ret ?_
      refine athen_ret ?_
      refine ain_ret ?_
      refine athen_ret ?_
      refine ⟨_, arM (devM S p x.d oE oW) a p b c x (max k ((n : Int) + 1)), ⟨_, _, rfl, ⟨_, _, rfl, rfl, rfl⟩, rfl⟩, (by rw [← hsA]; exact Less.set (Mem.less_set _ _ _ g6.1) _ _), ?_⟩
      exact ⟨rfl, max k ((n : Int) + 1), oE, oW, hok, rfl⟩
    · have hno' : ∀ j (hj : j < x.fr.length), j < i + 1 → x.fr[j] ≠ F0 := fun j hj h => by rcases Nat.lt_or_ge j i with h' | h'; exact hno j hj h'; obtain rfl : j = i := (by omega); exact q
      by_cases q2 : x.fr[i].idle
      · by_cases q3 : bestF x.fr i < 0
        · have hbs : bestF x.fr (i + 1) = (i : Nat) := by rw [bestF, if_pos ⟨by rw [hge]; exact q2, .inl q3⟩]
          have cf := fun S => pl_free x.fr[i] S
          rw [decide_eq_false q] at cf
          have ci := fun S => pl_idle x.fr[i] S
          rw [decide_eq_true q2] at ci
          generalize x.fr[i] = y at *
          unfold frV at cf ci
          unfold frF at hki
          refine AWP.skip ?_
          refine athen_n ?_
          refine AWP.seq ?_
          refine AWP.block ?_
          refine AWP.seq ?_
          refine AWP.region ?_
          refine rC (Calm.move rfl) ?_
          refine rC (Calm.indexS Try.underlying57 ty_size_110 rfl rfl (by omega) (by omega)) ?_
          refine rC (ldA_ (cs := [_, _, _, _, _, _, _]) ty_agg_110 ty_size_110 rfl) ?_
          refine ARun.alloc (lit_lt rfl) ty_zero_110 ?_
          intro b6 f6
          have g6 := f6
          repeat ((with_reducible replace g6 := fresh_set g6); obtain ⟨g6, _⟩ := g6)
          have := g6.ne hA; have := g6.ne' hA
          (try simp only [List.length_cons, List.length_nil, Nat.zero_add, Nat.reduceAdd])
          refine rC (Calm.assign rfl) ?_
          first | refine ARun.storeAll rfl rfl ty_size_110 own_ rfl rfl ?_ | refine ARun.store rfl rfl ty_size_110 own_ lens_ rfl ?_
          (try simp only [Mem.set_set, List.set_cons_zero, List.set_cons_succ, Nat.zero_add, Nat.reduceAdd])
          refine arun_nil ?_
          refine athen_n ?_
          refine AWP.sub [(0, _), (4, _), (11, _), (12, _), (13, _), (14, _), (6, _), (5, _)] ⟨rfl, rfl, rfl, rfl, rfl, rfl, rfl, rfl, trivial⟩ ?_
          refine AWP.block ?_
          refine AWP.seq ?_
          refine AWP.region ?_
          refine rC (ldA_ (cs := [_, _, _, _, _, _, _]) ty_agg_110 ty_size_110 rfl) ?_
          refine ARun.call (lit_lt rfl) go_128 rfl (cf _) ?_
          rintro _ S1 ⟨rfl, h1⟩
          rw [h1]; clear h1 S1
          refine rC (Calm.assign rfl) ?_
          refine arun_nil ?_
          refine athen_n ?_
          refine AWP.sub [(0, _), (4, _), (11, _), (12, _), (13, _), (14, _), (6, _), (5, _), (18, _)] ⟨rfl, rfl, rfl, rfl, rfl, rfl, rfl, rfl, rfl, trivial⟩ ?_
          refine AWP.condF rfl (by first | rfl | (simp; done) | (simp; omega)) ?_
          refine AWP.seq ?_
          refine AWP.region ?_
          refine rC (ldA_ (cs := [_, _, _, _, _, _, _]) ty_agg_110 ty_size_110 rfl) ?_
          refine ARun.call (lit_lt rfl) go_129 rfl (ci _) ?_
          rintro _ S1 ⟨rfl, h1⟩
          rw [h1]; clear h1 S1
          refine rC (Calm.un rfl (una_not _)) ?_
          refine rC (Calm.assign rfl) ?_
          refine arun_nil ?_
          refine athen_n ?_
          refine AWP.sub [(0, _), (4, _), (11, _), (12, _), (13, _), (14, _), (6, _), (5, _), (18, _), (33, _)] ⟨rfl, rfl, rfl, rfl, rfl, rfl, rfl, rfl, rfl, rfl, trivial⟩ ?_
          refine AWP.condF rfl (by first | rfl | (simp; done) | (simp; omega)) ?_
          refine AWP.seq ?_
          refine AWP.draw [(0, true), (1, true), (2, true), (3, true), (4, true), (5, true), (6, true), (7, true), (8, true), (9, true), (10, true), (11, true), (12, true), (13, true), (14, true), (15, true)] [] mixed (by kernel_rfl) ?_
          refine dP (hc := fun _ => Calm.move rfl) (h := ?_)
          refine dP (hc := fun _ => Calm.bin rfl rfl (bin_bool (bin_lss _ _) (decide_eq_true q3))) (h := ?_)
          refine dP (hc := fun _ => Calm.move rfl) (h := ?_)
          first | refine dS ?_ | refine dU ?_ | refine dG (hc := fun _ => Calm.fieldAddr ty_field_110_5 rfl) (h := ?_)
          first | refine dS ?_ | refine dU ?_ | refine dL (hc := ld_ ty_plain_58 rfl) (h := ?_)
          first | refine dS ?_ | refine dU ?_ | refine dG (hc := fun _ => Calm.move rfl) (h := ?_)
          first | refine dS ?_ | refine dU ?_ | refine dG (hc := fun _ => Calm.nilCheck rfl) (h := ?_)
          first | refine dS ?_ | refine dU ?_ | refine dG (hc := fun _ => Calm.fieldAddr ty_field_135_1 rfl) (h := ?_)
          first | refine dS ?_ | refine dU ?_ | refine dL (hc := ld_ ty_plain_57 rfl) (h := ?_)
          first | refine dS ?_ | refine dU ?_ | refine dG (hc := fun _ => Calm.move rfl) (h := ?_)
          first | refine dS ?_ | refine dU ?_ | refine dG (hc := fun _ => Calm.indexS Try.underlying57 ty_size_110 rfl rfl (by omega) (by omega)) (h := ?_)
          first | refine dS ?_ | refine dU ?_ | refine dG (hc := fun _ => Calm.fieldAddr ty_field_110_5 rfl) (h := ?_)
          first | refine dS ?_ | refine dU ?_ | refine dL (hc := ld_ ty_plain_58 rfl) (h := ?_)
          first | refine dS ?_ | refine dU ?_ | refine dG (hc := fun _ => Calm.bin rfl rfl b_lss) (h := ?_)
          refine dP (hc := fun _ => (by first | exact Calm.pickT rfl rfl | exact Calm.pickF rfl rfl)) (h := ?_)
          refine dP (hc := fun _ => Calm.assign rfl) (h := ?_)
          refine draw_nil ?_
          refine athen_n ?_
          refine AWP.sub [(0, _), (4, _), (11, _), (12, _), (13, _), (14, _), (6, _), (5, _), (18, _), (33, _), (37, _)] ⟨rfl, rfl, rfl, rfl, rfl, rfl, rfl, rfl, rfl, rfl, rfl, trivial⟩ ?_
          refine AWP.condT rfl (by first | rfl | (simp; done) | (simp; omega)) ?_
          refine AWP.region ?_
          refine rC (Calm.move rfl) ?_
          refine rC (Calm.assign rfl) ?_
          refine arun_nil ?_
          refine ain_n ?_
          refine ain_n ?_
          refine athen_n ?_
          refine AWP.sub [(0, _), (4, _), (11, _), (12, _), (13, _), (14, _), (6, _), (5, _), (18, _), (33, _), (37, _)] ⟨rfl, rfl, rfl, rfl, rfl, rfl, rfl, rfl, rfl, rfl, rfl, trivial⟩ ?_
          refine AWP.region ?_
          refine rC (Calm.bin rfl rfl b_add_i64) ?_
          refine rC (Calm.move rfl) ?_
          refine arun_nil ?_
          refine athen_n ?_
          refine ⟨i + 1, ?_, ?_, ?_, ?_⟩
          all_goals (try dsimp only)
          · exact ⟨rfl, some_int hbs.symm, rfl, rfl, rfl, trivial⟩
          · exact less_
          · exact ⟨hc, hno'⟩
          · omega
        · obtain ⟨m, hm⟩ : ∃ m : Nat, bestF x.fr i = (m : Int) := ⟨_, (Int.toNat_of_nonneg (by omega)).symm⟩
          have hml : m < x.fr.length := by omega
          obtain ⟨_, _, _, _, _, kb, _⟩ := kn_fr (sl_at hF m hml)
          have hbs : bestF x.fr (i + 1) = if x.fr[i].tick < x.fr[m].tick then (i : Int) else (m : Int) := by rw [bestF, hm, hge, Int.toNat_natCast, getD_at hml]; by_cases z : x.fr[i].tick < x.fr[m].tick; rw [if_pos z, if_pos ⟨q2, .inr z⟩]; rw [if_neg z, if_neg (fun h => h.2.elim (by omega) z)]
          rw [hm]
          have cf := fun S => pl_free x.fr[i] S
          rw [decide_eq_false q] at cf
          have ci := fun S => pl_idle x.fr[i] S
          rw [decide_eq_true q2] at ci
          generalize x.fr[m] = z at *
          generalize x.fr[i] = y at *
          unfold frV at cf ci
          unfold frF at hki
          refine AWP.skip ?_
          refine athen_n ?_
          refine AWP.seq ?_
          refine AWP.block ?_
          refine AWP.seq ?_
          refine AWP.region ?_
          refine rC (Calm.move rfl) ?_
          refine rC (Calm.indexS Try.underlying57 ty_size_110 rfl rfl (by omega) (by omega)) ?_
          refine rC (ldA_ (cs := [_, _, _, _, _, _, _]) ty_agg_110 ty_size_110 rfl) ?_
          refine ARun.alloc (lit_lt rfl) ty_zero_110 ?_
          intro b6 f6
          have g6 := f6
          repeat ((with_reducible replace g6 := fresh_set g6); obtain ⟨g6, _⟩ := g6)
          have := g6.ne hA; have := g6.ne' hA
          (try simp only [List.length_cons, List.length_nil, Nat.zero_add, Nat.reduceAdd])
          refine rC (Calm.assign rfl) ?_
          first | refine ARun.storeAll rfl rfl ty_size_110 own_ rfl rfl ?_ | refine ARun.store rfl rfl ty_size_110 own_ lens_ rfl ?_
          (try simp only [Mem.set_set, List.set_cons_zero, List.set_cons_succ, Nat.zero_add, Nat.reduceAdd])
          refine arun_nil ?_
          refine athen_n ?_
          refine AWP.sub [(0, _), (4, _), (11, _), (12, _), (13, _), (14, _), (6, _), (5, _)] ⟨rfl, rfl, rfl, rfl, rfl, rfl, rfl, rfl, trivial⟩ ?_
          refine AWP.block ?_
          refine AWP.seq ?_
          refine AWP.region ?_
          refine rC (ldA_ (cs := [_, _, _, _, _, _, _]) ty_agg_110 ty_size_110 rfl) ?_
          refine ARun.call (lit_lt rfl) go_128 rfl (cf _) ?_
          rintro _ S1 ⟨rfl, h1⟩
          rw [h1]; clear h1 S1
          refine rC (Calm.assign rfl) ?_
          refine arun_nil ?_
          refine athen_n ?_
          refine AWP.sub [(0, _), (4, _), (11, _), (12, _), (13, _), (14, _), (6, _), (5, _), (18, _)] ⟨rfl, rfl, rfl, rfl, rfl, rfl, rfl, rfl, rfl, trivial⟩ ?_
          refine AWP.condF rfl (by first | rfl | (simp; done) | (simp; omega)) ?_
          refine AWP.seq ?_
          refine AWP.region ?_
          refine rC (ldA_ (cs := [_, _, _, _, _, _, _]) ty_agg_110 ty_size_110 rfl) ?_
          refine ARun.call (lit_lt rfl) go_129 rfl (ci _) ?_
          rintro _ S1 ⟨rfl, h1⟩
          rw [h1]; clear h1 S1
          refine rC (Calm.un rfl (una_not _)) ?_
          refine rC (Calm.assign rfl) ?_
          refine arun_nil ?_
          refine athen_n ?_
          refine AWP.sub [(0, _), (4, _), (11, _), (12, _), (13, _), (14, _), (6, _), (5, _), (18, _), (33, _)] ⟨rfl, rfl, rfl, rfl, rfl, rfl, rfl, rfl, rfl, rfl, trivial⟩ ?_
          refine AWP.condF rfl (by first | rfl | (simp; done) | (simp; omega)) ?_
          refine AWP.seq ?_
          refine AWP.draw [(0, true), (1, true), (2, true), (3, true), (4, true), (5, true), (6, true), (7, true), (8, true), (9, true), (10, true), (11, true), (12, true), (13, true), (14, true), (15, true)] [] mixed (by kernel_rfl) ?_
          refine dP (hc := fun _ => Calm.move rfl) (h := ?_)
          refine dP (hc := fun _ => Calm.bin rfl rfl (bin_bool (bin_lss _ _) (decide_eq_false (by omega)))) (h := ?_)
          refine dP (hc := fun _ => Calm.move rfl) (h := ?_)
          first | refine dS ?_ | refine dU ?_ | refine dG (hc := fun _ => Calm.fieldAddr ty_field_110_5 rfl) (h := ?_)
          first | refine dS ?_ | refine dU ?_ | refine dL (hc := ld_ ty_plain_58 rfl) (h := ?_)
          first | refine dS ?_ | refine dU ?_ | refine dG (hc := fun _ => Calm.move rfl) (h := ?_)
          first | refine dS ?_ | refine dU ?_ | refine dG (hc := fun _ => Calm.nilCheck rfl) (h := ?_)
          first | refine dS ?_ | refine dU ?_ | refine dG (hc := fun _ => Calm.fieldAddr ty_field_135_1 rfl) (h := ?_)
          first | refine dS ?_ | refine dU ?_ | refine dL (hc := ld_ ty_plain_57 rfl) (h := ?_)
          first | refine dS ?_ | refine dU ?_ | refine dG (hc := fun _ => Calm.move rfl) (h := ?_)
          first | refine dS ?_ | refine dU ?_ | refine dG (hc := fun _ => Calm.indexS Try.underlying57 ty_size_110 rfl rfl (by omega) (by omega)) (h := ?_)
          first | refine dS ?_ | refine dU ?_ | refine dG (hc := fun _ => Calm.fieldAddr ty_field_110_5 rfl) (h := ?_)
          first | refine dS ?_ | refine dU ?_ | refine dL (hc := ld_ ty_plain_58 rfl) (h := ?_)
          first | refine dS ?_ | refine dU ?_ | refine dG (hc := fun _ => Calm.bin rfl rfl b_lss) (h := ?_)
          refine dP (hc := fun _ => (by first | exact Calm.pickT rfl rfl | exact Calm.pickF rfl rfl)) (h := ?_)
          refine dP (hc := fun _ => Calm.assign rfl) (h := ?_)
          refine draw_nil ?_
          refine athen_n ?_
          refine AWP.sub [(0, _), (4, _), (11, _), (12, _), (13, _), (14, _), (6, _), (5, _), (18, _), (33, _), (37, _)] ⟨rfl, rfl, rfl, rfl, rfl, rfl, rfl, rfl, rfl, rfl, rfl, trivial⟩ ?_
          refine AWP.condB rfl (fun hx => ?_) (fun hx => ?_)
          · refine AWP.region ?_
            refine rC (Calm.move rfl) ?_
            refine rC (Calm.assign rfl) ?_
            refine arun_nil ?_
            refine ain_n ?_
            refine ain_n ?_
            refine athen_n ?_
            refine AWP.sub [(0, _), (4, _), (11, _), (12, _), (13, _), (14, _), (6, _), (5, _), (18, _), (33, _), (37, _)] ⟨rfl, rfl, rfl, rfl, rfl, rfl, rfl, rfl, rfl, rfl, rfl, trivial⟩ ?_
            refine AWP.region ?_
            refine rC (Calm.bin rfl rfl b_add_i64) ?_
            refine rC (Calm.move rfl) ?_
            refine arun_nil ?_
            refine athen_n ?_
            refine ⟨i + 1, ?_, ?_, ?_, ?_⟩
            all_goals (try dsimp only)
            · exact ⟨rfl, some_int (by rw [hbs, if_pos (of_decide_eq_true hx)]), rfl, rfl, rfl, trivial⟩
            · exact less_
            · exact ⟨hc, hno'⟩
            · omega
          · refine AWP.skip ?_
            refine ain_n ?_
            refine ain_n ?_
            refine athen_n ?_
            refine AWP.region ?_
            refine rC (Calm.bin rfl rfl b_add_i64) ?_
            refine rC (Calm.move rfl) ?_
            refine arun_nil ?_
            refine athen_n ?_
            refine ⟨i + 1, ?_, ?_, ?_, ?_⟩
            all_goals (try dsimp only)
            · exact ⟨rfl, some_int (by rw [hbs, if_neg (of_decide_eq_false hx)]), rfl, rfl, rfl, trivial⟩
            · exact less_
            · exact ⟨hc, hno'⟩
            · omega
      · have hbs : bestF x.fr (i + 1) = bestF x.fr i := by rw [bestF, if_neg (fun h => q2 (by rw [← hge]; exact h.1))]
        have cf := fun S => pl_free x.fr[i] S
        rw [decide_eq_false q] at cf
        have ci := fun S => pl_idle x.fr[i] S
        rw [decide_eq_false q2] at ci
        generalize x.fr[i] = y at *
        unfold frV at cf ci
        unfold frF at hki
        refine AWP.skip ?_
        refine athen_n ?_
        refine AWP.seq ?_
        refine AWP.block ?_
        refine AWP.seq ?_
        refine AWP.region ?_
        refine rC (Calm.move rfl) ?_
        refine rC (Calm.indexS Try.underlying57 ty_size_110 rfl rfl (by omega) (by omega)) ?_
        refine rC (ldA_ (cs := [_, _, _, _, _, _, _]) ty_agg_110 ty_size_110 rfl) ?_
        refine ARun.alloc (lit_lt rfl) ty_zero_110 ?_
        intro b6 f6
        have g6 := f6
        repeat ((with_reducible replace g6 := fresh_set g6); obtain ⟨g6, _⟩ := g6)
        have := g6.ne hA; have := g6.ne' hA
        (try simp only [List.length_cons, List.length_nil, Nat.zero_add, Nat.reduceAdd])
        refine rC (Calm.assign rfl) ?_
        first | refine ARun.storeAll rfl rfl ty_size_110 own_ rfl rfl ?_ | refine ARun.store rfl rfl ty_size_110 own_ lens_ rfl ?_
        (try simp only [Mem.set_set, List.set_cons_zero, List.set_cons_succ, Nat.zero_add, Nat.reduceAdd])
        refine arun_nil ?_
        refine athen_n ?_
        refine AWP.sub [(0, _), (4, _), (11, _), (12, _), (13, _), (14, _), (6, _), (5, _)] ⟨rfl, rfl, rfl, rfl, rfl, rfl, rfl, rfl, trivial⟩ ?_
        refine AWP.block ?_
        refine AWP.seq ?_
        refine AWP.region ?_
        refine rC (ldA_ (cs := [_, _, _, _, _, _, _]) ty_agg_110 ty_size_110 rfl) ?_
        refine ARun.call (lit_lt rfl) go_128 rfl (cf _) ?_
        rintro _ S1 ⟨rfl, h1⟩
        rw [h1]; clear h1 S1
        refine rC (Calm.assign rfl) ?_
        refine arun_nil ?_
        refine athen_n ?_
        refine AWP.sub [(0, _), (4, _), (11, _), (12, _), (13, _), (14, _), (6, _), (5, _), (18, _)] ⟨rfl, rfl, rfl, rfl, rfl, rfl, rfl, rfl, rfl, trivial⟩ ?_
        refine AWP.condF rfl (by first | rfl | (simp; done) | (simp; omega)) ?_
        refine AWP.seq ?_
        refine AWP.region ?_
        refine rC (ldA_ (cs := [_, _, _, _, _, _, _]) ty_agg_110 ty_size_110 rfl) ?_
        refine ARun.call (lit_lt rfl) go_129 rfl (ci _) ?_
        rintro _ S1 ⟨rfl, h1⟩
        rw [h1]; clear h1 S1
        refine rC (Calm.un rfl (una_not _)) ?_
        refine rC (Calm.assign rfl) ?_
        refine arun_nil ?_
        refine athen_n ?_
        refine AWP.sub [(0, _), (4, _), (11, _), (12, _), (13, _), (14, _), (6, _), (5, _), (18, _), (33, _)] ⟨rfl, rfl, rfl, rfl, rfl, rfl, rfl, rfl, rfl, rfl, trivial⟩ ?_
        refine AWP.condT rfl (by first | rfl | (simp; done) | (simp; omega)) ?_
        refine AWP.skip ?_
        refine ain_n ?_
        refine ain_n ?_
        refine athen_n ?_
        refine AWP.region ?_
        refine rC (Calm.bin rfl rfl b_add_i64) ?_
        refine rC (Calm.move rfl) ?_
        refine arun_nil ?_
        refine athen_n ?_
        refine ⟨i + 1, ?_, ?_, ?_, ?_⟩
        all_goals (try dsimp only)
        · exact ⟨rfl, some_int hbs.symm, rfl, rfl, rfl, trivial⟩
        · exact less_
        · exact ⟨hc, hno'⟩
        · omega
  · have hc : i = x.fr.length := by have := of_decide_eq_false hc; omega
    subst hc
    have hnf := findF0_no (fun j hj => hno j hj hj)
    by_cases q3 : bestF x.fr x.fr.length < 0
    · have htk : takeP x = (x, 0, 9) := by unfold takeP; rw [if_neg hnf, if_pos q3]
      rw [htk]
      refine AWP.exit ?_
      refine athen_exit ?_
      refine athen_exit ?_
      refine ain_same ?_
      refine athen_n ?_
      refine AWP.seq ?_
      refine AWP.seq ?_
      refine AWP.region ?_
      refine rC (Calm.move rfl) ?_
      refine rC (Calm.bin rfl rfl b_lss) ?_
      refine arun_nil ?_
      refine athen_n ?_
      refine AWP.sub [(0, _), (4, _), (11, _), (12, _), (13, _), (14, _), (56, _)] ⟨rfl, rfl, rfl, rfl, rfl, rfl, rfl, trivial⟩ ?_
      refine AWP.condT rfl (by first | rfl | (simp; done) | (simp; omega)) ?_
      refine AWP.seq ?_
      refine AWP.region ?_
      refine rC (Calm.assign rfl) ?_
      refine rC (Calm.assign rfl) ?_
      refine arun_nil ?_
      refine athen_n ?_
      refine AWP.ret ?_
      refine athen_ret ?_
      refine ⟨_, T, ⟨_, _, rfl, ⟨_, _, rfl, rfl, rfl⟩, rfl⟩, less_, ?_⟩
      exact ⟨rfl, k, oE, oW, hok, hT.symm⟩
    · obtain ⟨m, hm⟩ : ∃ m : Nat, bestF x.fr x.fr.length = (m : Int) := ⟨_, (Int.toNat_of_nonneg (by omega)).symm⟩
      have hml : m < x.fr.length := by omega
      have hmt : (bestF x.fr x.fr.length).toNat = m := by rw [hm]; rfl
      obtain ⟨_, _, _, _, kb, _, _⟩ := kn_fr (sl_at hF m hml)
      rw [hm]
      by_cases q4 : x.fr[m].dirty = true
      · have hwm := hwr m hml
        refine AWP.exit ?_
        refine athen_exit ?_
        refine athen_exit ?_
        refine ain_same ?_
        refine athen_n ?_
        refine AWP.seq ?_
        refine AWP.seq ?_
        refine AWP.region ?_
        refine rC (Calm.move rfl) ?_
        refine rC (Calm.bin rfl rfl b_lss) ?_
        refine arun_nil ?_
        refine athen_n ?_
        refine AWP.sub [(0, _), (4, _), (11, _), (12, _), (13, _), (14, _), (56, _)] ⟨rfl, rfl, rfl, rfl, rfl, rfl, rfl, trivial⟩ ?_
        refine AWP.condF rfl (by first | rfl | (simp; done) | (simp; omega)) ?_
        refine AWP.skip ?_
        refine athen_n ?_
        refine AWP.seq ?_
        refine AWP.seq ?_
        refine AWP.region ?_
        refine rC (Calm.move rfl) ?_
        refine rC (Calm.nilCheck rfl) ?_
        refine rC (Calm.fieldAddr ty_field_135_1 rfl) ?_
        refine rC (ld_ ty_plain_57 rfl) ?_
        refine rC (Calm.move rfl) ?_
        refine rC (Calm.indexS Try.underlying57 ty_size_110 rfl rfl (by omega) (by omega)) ?_
        refine rC (Calm.fieldAddr ty_field_110_4 rfl) ?_
        refine rC (Calm.as (congrArg Value.bool q4) (ld_ ty_plain_4 rfl)) ?_
        refine arun_nil ?_
        refine athen_n ?_
        refine AWP.sub [(0, _), (4, _), (11, _), (12, _), (13, _), (14, _), (56, _), (64, _)] ⟨rfl, rfl, rfl, rfl, rfl, rfl, rfl, rfl, trivial⟩ ?_
        refine AWP.condT rfl (by first | rfl | (simp; done) | (simp; omega)) ?_
        refine AWP.seq ?_
        refine AWP.region ?_
        refine rC (Calm.move rfl) ?_
        refine rC (Calm.move rfl) ?_
        refine ARun.call (lit_lt rfl) go_127 rfl (hwm) ?_
        rintro _ S1 ⟨rfl, k', oE', oW', hok', h1⟩
        rw [h1]; clear h1 S1
        have hA2 := ar_own (M := devM S p (wrP x m).1.d oE' oW') (a := a) (p := p) (b := b) (c := c) (x := (wrP x m).1) (k := k')
        have hB2 := ar_fr (M := devM S p (wrP x m).1.d oE' oW') (p := p) (c := c) (x := (wrP x m).1) (k := k') hok.ab
        have hsF2 := fun fr' h => ar_setF (M := devM S p (wrP x m).1.d oE' oW') (p := p) (c := c) (x := (wrP x m).1) (k := k') hok.ab fr' h
        have hwl := wrP_len x m
        have htk : takeP x = if (wrP x m).2 = 0 then (setP (wrP x m).1 m F0, m, 0) else ((wrP x m).1, 0, (wrP x m).2) := by unfold takeP; rw [if_neg hnf, if_neg q3, hmt, if_pos (by rw [atF_eq hml]; exact q4)]
        rw [htk]
        generalize wrP x m = u at *
        unfold arB at hA2
        rw [hwl] at hA2
        refine rC (Calm.assign rfl) ?_
        refine arun_nil ?_
        refine athen_n ?_
        refine AWP.sub [(0, _), (4, _), (11, _), (12, _), (13, _), (14, _), (56, _), (64, _), (7, _)] ⟨rfl, rfl, rfl, rfl, rfl, rfl, rfl, rfl, rfl, trivial⟩ ?_
        by_cases e0 : u.2 = 0
        · rw [if_pos e0]
          refine AWP.seq ?_
          refine AWP.region ?_
          refine rC (Calm.move rfl) ?_
          refine rC (Calm.bin rfl rfl b_neq) ?_
          refine arun_nil ?_
          refine athen_n ?_
          refine AWP.sub [(0, _), (4, _), (11, _), (12, _), (13, _), (14, _), (56, _), (64, _), (7, _), (69, _)] ⟨rfl, rfl, rfl, rfl, rfl, rfl, rfl, rfl, rfl, rfl, trivial⟩ ?_
          refine AWP.condF rfl (by first | rfl | (simp; done) | (simp; omega)) ?_
          refine AWP.skip ?_
          refine athen_n ?_
          refine AWP.seq ?_
          refine AWP.region ?_
          refine rC (Calm.move rfl) ?_
          refine rC (Calm.nilCheck rfl) ?_
          refine rC (Calm.fieldAddr ty_field_135_1 rfl) ?_
          refine rC (ld_ ty_plain_57 rfl) ?_
          refine rC (Calm.move rfl) ?_
          refine rC (Calm.build (cs := [_, _, _, _, _, _, _]) ty_bld_110 rfl rfl) ?_
          refine rC (Calm.indexS Try.underlying57 ty_size_110 rfl rfl (by omega) (by omega)) ?_
          refine ARun.storeFr (c := c) (i := m) (l := u.1.fr) (u := F0) rfl rfl rfl (by omega) (by omega) ty_size_110 hB2 ?_
          (try simp only [Mem.set_set, List.set_cons_zero, List.set_cons_succ, Nat.zero_add, Nat.reduceAdd])
          refine arun_nil ?_
          refine athen_n ?_
          refine AWP.sub [(0, _), (4, _), (11, _), (12, _), (13, _), (14, _), (56, _), (64, _), (7, _), (69, _)] ⟨rfl, rfl, rfl, rfl, rfl, rfl, rfl, rfl, rfl, rfl, trivial⟩ ?_
          refine AWP.seq ?_
          refine AWP.region ?_
          refine rC (Calm.move rfl) ?_
          refine rC (Calm.assign rfl) ?_
          refine rC (Calm.assign rfl) ?_
          refine arun_nil ?_
          refine athen_n ?_
          refine AWP.sub [(0, _), (4, _), (11, _), (12, _), (13, _), (14, _), (56, _), (64, _), (7, _), (69, _), (2, _), (3, _)] ⟨rfl, rfl, rfl, rfl, rfl, rfl, rfl, rfl, rfl, rfl, rfl, rfl, trivial⟩ ?_
          refine AWP.ret ?_
          refine ⟨_, arM (devM S p u.1.d oE' oW') a p b c (setP u.1 m F0) k', ⟨_, _, rfl, ⟨_, _, rfl, rfl, rfl⟩, rfl⟩, (by rw [hsF2 _ (by simp)]; exact Mem.Less.refl _), ?_⟩
          exact ⟨rfl, k', oE', oW', hok'.like rfl (by unfold setP; simp), rfl⟩
        · rw [if_neg e0]
          refine AWP.seq ?_
          refine AWP.region ?_
          refine rC (Calm.move rfl) ?_
          refine rC (Calm.bin rfl rfl b_neq) ?_
          refine arun_nil ?_
          refine athen_n ?_
          refine AWP.sub [(0, _), (4, _), (11, _), (12, _), (13, _), (14, _), (56, _), (64, _), (7, _), (69, _)] ⟨rfl, rfl, rfl, rfl, rfl, rfl, rfl, rfl, rfl, rfl, trivial⟩ ?_
          refine AWP.condT rfl (by first | rfl | (simp; done) | (simp; omega)) ?_
          refine AWP.seq ?_
          refine AWP.region ?_
          refine rC (Calm.move rfl) ?_
          refine rC (Calm.assign rfl) ?_
          refine rC (Calm.assign rfl) ?_
          refine arun_nil ?_
          refine athen_n ?_
          refine AWP.sub [(0, _), (4, _), (11, _), (12, _), (13, _), (14, _), (56, _), (64, _), (7, _), (69, _), (2, _), (3, _)] ⟨rfl, rfl, rfl, rfl, rfl, rfl, rfl, rfl, rfl, rfl, rfl, rfl, trivial⟩ ?_
          refine AWP.ret ?_
          refine athen_ret ?_
          refine ⟨_, arM (devM S p u.1.d oE' oW') a p b c u.1 k', ⟨_, _, rfl, ⟨_, _, rfl, rfl, rfl⟩, rfl⟩, Mem.Less.refl _, ?_⟩
          exact ⟨rfl, k', oE', oW', hok', rfl⟩
      · have q4' : x.fr[m].dirty = false := by simpa using q4
        have htk : takeP x = (setP x m F0, m, 0) := by unfold takeP; rw [if_neg hnf, if_neg q3, hmt, if_neg (by rw [atF_eq hml]; exact q4)]
        rw [htk]
        refine AWP.exit ?_
        refine athen_exit ?_
        refine athen_exit ?_
        refine ain_same ?_
        refine athen_n ?_
        refine AWP.seq ?_
        refine AWP.seq ?_
        refine AWP.region ?_
        refine rC (Calm.move rfl) ?_
        refine rC (Calm.bin rfl rfl b_lss) ?_
        refine arun_nil ?_
        refine athen_n ?_
        refine AWP.sub [(0, _), (4, _), (11, _), (12, _), (13, _), (14, _), (56, _)] ⟨rfl, rfl, rfl, rfl, rfl, rfl, rfl, trivial⟩ ?_
        refine AWP.condF rfl (by first | rfl | (simp; done) | (simp; omega)) ?_
        refine AWP.skip ?_
        refine athen_n ?_
        refine AWP.seq ?_
        refine AWP.seq ?_
        refine AWP.region ?_
        refine rC (Calm.move rfl) ?_
        refine rC (Calm.nilCheck rfl) ?_
        refine rC (Calm.fieldAddr ty_field_135_1 rfl) ?_
        refine rC (ld_ ty_plain_57 rfl) ?_
        refine rC (Calm.move rfl) ?_
        refine rC (Calm.indexS Try.underlying57 ty_size_110 rfl rfl (by omega) (by omega)) ?_
        refine rC (Calm.fieldAddr ty_field_110_4 rfl) ?_
        refine rC (Calm.as (congrArg Value.bool q4') (ld_ ty_plain_4 rfl)) ?_
        refine arun_nil ?_
        refine athen_n ?_
        refine AWP.sub [(0, _), (4, _), (11, _), (12, _), (13, _), (14, _), (56, _), (64, _)] ⟨rfl, rfl, rfl, rfl, rfl, rfl, rfl, rfl, trivial⟩ ?_
        refine AWP.condF rfl (by first | rfl | (simp; done) | (simp; omega)) ?_
        refine AWP.skip ?_
        refine athen_n ?_
        refine AWP.seq ?_
        refine AWP.region ?_
        refine rC (Calm.move rfl) ?_
        refine rC (Calm.nilCheck rfl) ?_
        refine rC (Calm.fieldAddr ty_field_135_1 rfl) ?_
        refine rC (ld_ ty_plain_57 rfl) ?_
        refine rC (Calm.move rfl) ?_
        refine rC (Calm.build (cs := [_, _, _, _, _, _, _]) ty_bld_110 rfl rfl) ?_
        refine rC (Calm.indexS Try.underlying57 ty_size_110 rfl rfl (by omega) (by omega)) ?_
        refine ARun.storeFr (c := c) (i := m) (l := x.fr) (u := F0) rfl rfl rfl (by omega) hml ty_size_110 hB ?_
        (try simp only [Mem.set_set, List.set_cons_zero, List.set_cons_succ, Nat.zero_add, Nat.reduceAdd])
        refine arun_nil ?_
        refine athen_n ?_
        refine AWP.sub [(0, _), (4, _), (11, _), (12, _), (13, _), (14, _), (56, _), (64, _)] ⟨rfl, rfl, rfl, rfl, rfl, rfl, rfl, rfl, trivial⟩ ?_
        refine AWP.seq ?_
        refine AWP.region ?_
        refine rC (Calm.move rfl) ?_
        refine rC (Calm.assign rfl) ?_
        refine rC (Calm.assign rfl) ?_
        refine arun_nil ?_
        refine athen_n ?_
        refine AWP.sub [(0, _), (4, _), (11, _), (12, _), (13, _), (14, _), (56, _), (64, _), (2, _), (3, _)] ⟨rfl, rfl, rfl, rfl, rfl, rfl, rfl, rfl, rfl, rfl, trivial⟩ ?_
        refine AWP.ret ?_
        refine ⟨_, arM (devM S p x.d oE oW) a p b c (setP x m F0) k, ⟨_, _, rfl, ⟨_, _, rfl, rfl, rfl⟩, rfl⟩, (by rw [hsF _ (by simp)]; exact Mem.Less.refl _), ?_⟩
        exact ⟨rfl, k, oE, oW, hok.like rfl (by unfold setP; simp), rfl⟩
end Go.Proofs.Ytkeiphkccnfhoaa
namespace Go.Proofs.Ytkeiphkccnfhoaa
open Go.RowKit
open Mv Disk
set_option linter.unusedVariables false
set_option linter.unusedSimpArgs false
set_option maxRecDepth 4000
theorem pl_pin1 (x : Fr) (s : ByteArray) (k : Int) (kb sb : Nat) (S : Mem) (hk : S.Knows ⟨kb, 0, none⟩ [.int .i64 k]) (hs : S.Knows ⟨sb, 0, none⟩ [.string s]) :
    ACall Try.prog 126 #[frV x, .pointer (some ⟨kb, 0, none⟩), .pointer (some ⟨sb, 0, none⟩)] S fun r S' => r = .bool (isF s k x) ∧ S' = S := by
  have ch := fun S => pl_holds x S
  unfold frV isF at *
  by_cases q1 : x.holds
  · rw [decide_eq_true q1] at ch
    by_cases q2 : x.sector = k
    · have e : decide (x.holds ∧ x.sector = k ∧ x.name = s) = decide (x.name = s) := by simp [q1, q2]
      rw [e]
      refine ACall.enter (args := [.agg #[.string x.name, .int .i64 x.sector, .string x.data, .int .i64 x.pins, .bool x.dirty, .int .u64 x.tick, .bool x.leased], .pointer (some ⟨kb, 0, none⟩), .pointer (some ⟨sb, 0, none⟩)]) (rs := [.tmp 4]) 19 [(0, .agg #[.string x.name, .int .i64 x.sector, .string x.data, .int .i64 x.pins, .bool x.dirty, .int .u64 x.tick, .bool x.leased]), (1, .pointer (some ⟨kb, 0, none⟩)), (2, .pointer (some ⟨sb, 0, none⟩))] Try.func126 rfl rfl (Nat.le_of_ble_eq_true rfl) rfl ⟨rfl, rfl, rfl, trivial⟩ ?_
      refine AWP.seq ?_
      refine AWP.region ?_
      refine ARun.boxA (cs := [_, _, _, _, _, _, _]) (lit_lt rfl) rfl ?_
      intro b3 f3
      have g3 := f3
      repeat ((with_reducible replace g3 := fresh_set g3); obtain ⟨g3, _⟩ := g3)
      (try simp only [List.length_cons, List.length_nil, Nat.zero_add, Nat.reduceAdd])
      refine rC (Calm.assign rfl) ?_
      refine arun_nil ?_
      refine athen_n ?_
      refine AWP.seq ?_
      refine AWP.region ?_
      refine rC (ldA_ (cs := [_, _, _, _, _, _, _]) ty_agg_110 ty_size_110 rfl) ?_
      refine ARun.call (lit_lt rfl) go_78 rfl (ch _) ?_
      rintro _ S1 ⟨rfl, h1⟩
      rw [h1]; clear h1 S1
      refine rC (Calm.move rfl) ?_
      first | refine rS 7 ?_ | refine rU 7 ?_ | refine rG 7 (Calm.fieldAddr ty_field_110_1 rfl) ?_
      first | refine rS 7 ?_ | refine rU 7 ?_ | refine rG 7 (ld_ ty_plain_3 rfl) ?_
      first | refine rS 7 ?_ | refine rU 7 ?_ | refine rG 7 (ld_ ty_plain_3 rfl) ?_
      first | refine rS 7 ?_ | refine rU 7 ?_ | refine rG 7 (Calm.bin rfl rfl (bin_bool (bin_eql _ _) (decide_eq_true q2))) ?_
      refine rC ((by first | exact Calm.pickT rfl rfl | exact Calm.pickF rfl rfl)) ?_
      refine rC (Calm.move rfl) ?_
      first | refine rS 13 ?_ | refine rU 13 ?_ | refine rG 13 (Calm.fieldAddr ty_field_110_0 rfl) ?_
      first | refine rS 13 ?_ | refine rU 13 ?_ | refine rG 13 (ld_ ty_plain_9 rfl) ?_
      first | refine rS 13 ?_ | refine rU 13 ?_ | refine rG 13 (ld_ ty_plain_9 rfl) ?_
      first | refine rS 13 ?_ | refine rU 13 ?_ | refine rG 13 (Calm.bin rfl rfl (bin_bool (bin_str_eql _ _) rfl)) ?_
      refine rC ((by first | exact Calm.pickT rfl rfl | exact Calm.pickF rfl rfl)) ?_
      refine rC (Calm.assign rfl) ?_
      refine arun_nil ?_
      refine athen_n ?_
      refine AWP.sub [(0, _), (1, _), (2, _), (3, _), (4, _)] ⟨rfl, rfl, rfl, rfl, rfl, trivial⟩ ?_
      refine AWP.ret ?_
      refine ⟨_, S, ⟨_, _, rfl, rfl, rfl⟩, less_, ?_⟩
      exact ⟨rfl, rfl⟩
    · rw [decide_eq_false (fun h => q2 h.2.1)]
      refine ACall.enter (args := [.agg #[.string x.name, .int .i64 x.sector, .string x.data, .int .i64 x.pins, .bool x.dirty, .int .u64 x.tick, .bool x.leased], .pointer (some ⟨kb, 0, none⟩), .pointer (some ⟨sb, 0, none⟩)]) (rs := [.tmp 4]) 19 [(0, .agg #[.string x.name, .int .i64 x.sector, .string x.data, .int .i64 x.pins, .bool x.dirty, .int .u64 x.tick, .bool x.leased]), (1, .pointer (some ⟨kb, 0, none⟩)), (2, .pointer (some ⟨sb, 0, none⟩))] Try.func126 rfl rfl (Nat.le_of_ble_eq_true rfl) rfl ⟨rfl, rfl, rfl, trivial⟩ ?_
      refine AWP.seq ?_
      refine AWP.region ?_
      refine ARun.boxA (cs := [_, _, _, _, _, _, _]) (lit_lt rfl) rfl ?_
      intro b3 f3
      have g3 := f3
      repeat ((with_reducible replace g3 := fresh_set g3); obtain ⟨g3, _⟩ := g3)
      (try simp only [List.length_cons, List.length_nil, Nat.zero_add, Nat.reduceAdd])
      refine rC (Calm.assign rfl) ?_
      refine arun_nil ?_
      refine athen_n ?_
      refine AWP.seq ?_
      refine AWP.region ?_
      refine rC (ldA_ (cs := [_, _, _, _, _, _, _]) ty_agg_110 ty_size_110 rfl) ?_
      refine ARun.call (lit_lt rfl) go_78 rfl (ch _) ?_
      rintro _ S1 ⟨rfl, h1⟩
      rw [h1]; clear h1 S1
      refine rC (Calm.move rfl) ?_
      first | refine rS 7 ?_ | refine rU 7 ?_ | refine rG 7 (Calm.fieldAddr ty_field_110_1 rfl) ?_
      first | refine rS 7 ?_ | refine rU 7 ?_ | refine rG 7 (ld_ ty_plain_3 rfl) ?_
      first | refine rS 7 ?_ | refine rU 7 ?_ | refine rG 7 (ld_ ty_plain_3 rfl) ?_
      first | refine rS 7 ?_ | refine rU 7 ?_ | refine rG 7 (Calm.bin rfl rfl (bin_bool (bin_eql _ _) (decide_eq_false q2))) ?_
      refine rC ((by first | exact Calm.pickT rfl rfl | exact Calm.pickF rfl rfl)) ?_
      refine rC (Calm.move rfl) ?_
      first | refine rS 13 ?_ | refine rU 13 ?_ | refine rG 13 (Calm.fieldAddr ty_field_110_0 rfl) ?_
      first | refine rS 13 ?_ | refine rU 13 ?_ | refine rG 13 (ld_ ty_plain_9 rfl) ?_
      first | refine rS 13 ?_ | refine rU 13 ?_ | refine rG 13 (ld_ ty_plain_9 rfl) ?_
      first | refine rS 13 ?_ | refine rU 13 ?_ | refine rG 13 (Calm.bin rfl rfl (bin_str_eql _ _)) ?_
      refine rC ((by first | exact Calm.pickT rfl rfl | exact Calm.pickF rfl rfl)) ?_
      refine rC (Calm.assign rfl) ?_
      refine arun_nil ?_
      refine athen_n ?_
      refine AWP.sub [(0, _), (1, _), (2, _), (3, _), (4, _)] ⟨rfl, rfl, rfl, rfl, rfl, trivial⟩ ?_
      refine AWP.ret ?_
      refine ⟨_, S, ⟨_, _, rfl, rfl, rfl⟩, less_, ?_⟩
      exact ⟨rfl, rfl⟩
  · rw [decide_eq_false q1] at ch
    rw [decide_eq_false (fun h => q1 h.1)]
    refine ACall.enter (args := [.agg #[.string x.name, .int .i64 x.sector, .string x.data, .int .i64 x.pins, .bool x.dirty, .int .u64 x.tick, .bool x.leased], .pointer (some ⟨kb, 0, none⟩), .pointer (some ⟨sb, 0, none⟩)]) (rs := [.tmp 4]) 19 [(0, .agg #[.string x.name, .int .i64 x.sector, .string x.data, .int .i64 x.pins, .bool x.dirty, .int .u64 x.tick, .bool x.leased]), (1, .pointer (some ⟨kb, 0, none⟩)), (2, .pointer (some ⟨sb, 0, none⟩))] Try.func126 rfl rfl (Nat.le_of_ble_eq_true rfl) rfl ⟨rfl, rfl, rfl, trivial⟩ ?_
    refine AWP.seq ?_
    refine AWP.region ?_
    refine ARun.boxA (cs := [_, _, _, _, _, _, _]) (lit_lt rfl) rfl ?_
    intro b3 f3
    have g3 := f3
    repeat ((with_reducible replace g3 := fresh_set g3); obtain ⟨g3, _⟩ := g3)
    (try simp only [List.length_cons, List.length_nil, Nat.zero_add, Nat.reduceAdd])
    refine rC (Calm.assign rfl) ?_
    refine arun_nil ?_
    refine athen_n ?_
    refine AWP.seq ?_
    refine AWP.region ?_
    refine rC (ldA_ (cs := [_, _, _, _, _, _, _]) ty_agg_110 ty_size_110 rfl) ?_
    refine ARun.call (lit_lt rfl) go_78 rfl (ch _) ?_
    rintro _ S1 ⟨rfl, h1⟩
    rw [h1]; clear h1 S1
    refine rC (Calm.move rfl) ?_
    first | refine rS 7 ?_ | refine rU 7 ?_ | refine rG 7 (Calm.fieldAddr ty_field_110_1 rfl) ?_
    first | refine rS 7 ?_ | refine rU 7 ?_ | refine rG 7 (ld_ ty_plain_3 rfl) ?_
    first | refine rS 7 ?_ | refine rU 7 ?_ | refine rG 7 (ld_ ty_plain_3 rfl) ?_
    first | refine rS 7 ?_ | refine rU 7 ?_ | refine rG 7 (Calm.bin rfl rfl b_eql) ?_
    refine rC ((by first | exact Calm.pickT rfl rfl | exact Calm.pickF rfl rfl)) ?_
    refine rC (Calm.move rfl) ?_
    first | refine rS 13 ?_ | refine rU 13 ?_ | refine rG 13 (Calm.fieldAddr ty_field_110_0 rfl) ?_
    first | refine rS 13 ?_ | refine rU 13 ?_ | refine rG 13 (ld_ ty_plain_9 rfl) ?_
    first | refine rS 13 ?_ | refine rU 13 ?_ | refine rG 13 (ld_ ty_plain_9 rfl) ?_
    first | refine rS 13 ?_ | refine rU 13 ?_ | refine rG 13 (Calm.bin rfl rfl (bin_str_eql _ _)) ?_
    refine rC ((by first | exact Calm.pickT rfl rfl | exact Calm.pickF rfl rfl)) ?_
    refine rC (Calm.assign rfl) ?_
    refine arun_nil ?_
    refine athen_n ?_
    refine AWP.sub [(0, _), (1, _), (2, _), (3, _), (4, _)] ⟨rfl, rfl, rfl, rfl, rfl, trivial⟩ ?_
    refine AWP.ret ?_
    refine ⟨_, S, ⟨_, _, rfl, rfl, rfl⟩, less_, ?_⟩
    exact ⟨rfl, rfl⟩
set_option maxHeartbeats 1000000 in
theorem pl_indexP (v : Value) (l : List Fr) (s : ByteArray) (k : Int) (kb sb : Nat) (S : Mem) (hl : Sl 7 frF S v l) (hk : S.Knows ⟨kb, 0, none⟩ [.int .i64 k]) (hs : S.Knows ⟨sb, 0, none⟩ [.string s]) :
    ACall Try.prog 125 #[v, .func (.func 126) #[] #[.pointer (some ⟨kb, 0, none⟩), .pointer (some ⟨sb, 0, none⟩)]] S fun r S' => r = .int .i64 (if l.findIdx (isF s k) < l.length then (l.findIdx (isF s k) : Int) else -1) ∧ S' = S := by
  obtain ⟨a, cap, rfl, h1, h2, h3⟩ := id hl
  refine ACall.enter (args := [.slice a l.length cap, .func (.func 126) #[] #[.pointer (some ⟨kb, 0, none⟩), .pointer (some ⟨sb, 0, none⟩)]]) (rs := [.tmp 4]) 19 [(0, .slice a l.length cap), (1, .func (.func 126) #[] #[.pointer (some ⟨kb, 0, none⟩), .pointer (some ⟨sb, 0, none⟩)])] Try.func125 rfl rfl (Nat.le_of_ble_eq_true rfl) rfl ⟨rfl, rfl, trivial⟩ ?_
  refine AWP.seq ?_
  refine AWP.region ?_
  refine rC (Calm.assign rfl) ?_
  refine arun_nil ?_
  refine athen_n ?_
  refine AWP.seq ?_
  refine AWP.seq ?_
  refine AWP.region ?_
  refine rC (Calm.move rfl) ?_
  refine rC (Calm.lenSl Try.underlying57 rfl) ?_
  refine rC (Calm.move rfl) ?_
  refine arun_nil ?_
  refine athen_n ?_
  refine AWP.sub [(0, _), (1, _), (4, _), (7, _), (8, _)] ⟨rfl, rfl, rfl, rfl, rfl, trivial⟩ ?_
  refine AWP.block ?_
  refine AWP.loop (X := Nat) (fun x => [(0, .slice a l.length cap), (1, .func (.func 126) #[] #[.pointer (some ⟨kb, 0, none⟩), .pointer (some ⟨sb, 0, none⟩)]), (7, .int .i64 l.length), (8, .int .i64 x)]) (fun x => S) (fun i => i ≤ l.length ∧ ∀ j (h : j < l.length), j < i → isF s k l[j] = false) (fun x => l.length - x) (0) ⟨rfl, rfl, rfl, rfl, trivial⟩ (Mem.Less.refl _) (⟨Nat.zero_le _, fun j _ h => absurd h (Nat.not_lt_zero _)⟩) ?_
  rintro i ⟨hi, hall⟩
  (try dsimp only at *)
  refine AWP.seq ?_
  refine AWP.region ?_
  refine rC (Calm.bin rfl rfl b_lss) ?_
  refine arun_nil ?_
  refine athen_n ?_
  refine AWP.seq ?_
  refine AWP.condB rfl (fun hc => ?_) (fun hc => ?_)
  · have hc : i < l.length := by have := of_decide_eq_true hc; omega
    obtain ⟨b, off, rfl, hkk⟩ := h3.resolve_left (fun e => by subst e; simp at hc)
    have hki := hkk i hc
    have hall' : isF s k l[i] = false → ∀ j (h : j < l.length), j < i + 1 → isF s k l[j] = false := fun hn j h hj => by rcases Nat.lt_or_ge j i with h' | h'; exact hall j h h'; obtain rfl : j = i := (by omega); exact hn
    have hat : isF s k l[i] = true → l.findIdx (isF s k) = i := fun hy => (List.findIdx_eq hc).2 ⟨hy, fun j hj => hall j (by omega) hj⟩
    generalize l[i] = y at *
    unfold frF at hki
    refine AWP.skip ?_
    refine athen_n ?_
    refine AWP.seq ?_
    refine AWP.block ?_
    refine AWP.seq ?_
    refine AWP.region ?_
    refine rC (Calm.move rfl) ?_
    refine rC (Calm.assign rfl) ?_
    refine arun_nil ?_
    refine athen_n ?_
    refine AWP.sub [(0, _), (1, _), (7, _), (8, _), (9, _), (5, _)] ⟨rfl, rfl, rfl, rfl, rfl, rfl, trivial⟩ ?_
    refine AWP.seq ?_
    refine AWP.region ?_
    refine rC (Calm.move rfl) ?_
    refine rC (Calm.move rfl) ?_
    refine rC (Calm.move rfl) ?_
    refine rC (Calm.indexS Try.underlying57 ty_size_110 rfl rfl (by omega) (by omega)) ?_
    refine rC (ldA_ (cs := [_, _, _, _, _, _, _]) ty_agg_110 ty_size_110 rfl) ?_
    refine ARun.callV (lit_lt rfl) go_126 rfl rfl (pl_pin1 y s k kb sb _ hk hs) ?_
    rintro _ S1 ⟨rfl, h1⟩
    rw [h1]; clear h1 S1
    refine arun_nil ?_
    refine athen_n ?_
    refine AWP.sub [(0, _), (1, _), (7, _), (8, _), (9, _), (5, _), (16, _)] ⟨rfl, rfl, rfl, rfl, rfl, rfl, rfl, trivial⟩ ?_
    refine AWP.condB rfl (fun hb => ?_) (fun hb => ?_)
    · refine AWP.seq ?_
      refine AWP.region ?_
      refine rC (Calm.move rfl) ?_
      refine rC (Calm.assign rfl) ?_
      refine arun_nil ?_
      refine athen_n ?_
      refine AWP.sub [(0, _), (1, _), (7, _), (8, _), (9, _), (5, _), (16, _), (4, _)] ⟨rfl, rfl, rfl, rfl, rfl, rfl, rfl, rfl, trivial⟩ ?_
      refine AWP.ret ?_
      refine ain_ret ?_
      refine athen_ret ?_
      refine athen_ret ?_
      refine ain_ret ?_
      refine athen_ret ?_
      refine ⟨_, S, ⟨_, _, rfl, rfl, rfl⟩, less_, ?_⟩
      exact ⟨by rw [hat hb, if_pos hc]; rfl, rfl⟩
    · refine AWP.skip ?_
      refine ain_n ?_
      refine athen_n ?_
      refine AWP.region ?_
      refine rC (Calm.bin rfl rfl b_add_i64) ?_
      refine rC (Calm.move rfl) ?_
      refine arun_nil ?_
      refine athen_n ?_
      refine ⟨i + 1, ?_, ?_, ?_, ?_⟩
      all_goals (try dsimp only)
      · exact ⟨rfl, rfl, rfl, rfl, trivial⟩
      · exact less_
      · exact ⟨hc, hall' hb⟩
      · omega
  · have hc : i = l.length := by have := of_decide_eq_false hc; omega
    refine AWP.exit ?_
    refine athen_exit ?_
    refine athen_exit ?_
    refine ain_same ?_
    refine athen_n ?_
    refine AWP.seq ?_
    refine AWP.region ?_
    refine rC (Calm.assign rfl) ?_
    refine arun_nil ?_
    refine athen_n ?_
    refine AWP.ret ?_
    refine ⟨_, S, ⟨_, _, rfl, rfl, rfl⟩, less_, ?_⟩
    exact ⟨by rw [if_neg (fun h => by have h2 := List.findIdx_getElem (w := h); rw [hall _ h (by omega)] at h2; cases h2)]; rfl, rfl⟩
theorem takeP_lt {x : Pl} (h : (takeP x).2.2 = 0) : (takeP x).2.1 < (takeP x).1.fr.length := by
  have hb := bestF_le x.fr x.fr.length
  have hl := wrP_len x (bestF x.fr x.fr.length).toNat
  revert h
  unfold takeP
  repeat' split
  · intro _; assumption
  · intro h; simp at h
  · intro _; unfold setP; simp only [List.length_set]; omega
  · intro h; rename_i e; exact absurd h e
  · intro _; unfold setP; simp only [List.length_set]; omega
/-- What a taking of frames gives, with a number. -/
def ArN (S : Mem) (a p b c : Nat) (q : Pl × Nat × Int) (r : Value) (S' : Mem) : Prop := r = .tuple #[.int .i64 (q.2.1 : Nat), .int .i64 q.2.2] ∧ ArS S a p b c q.1 S'
theorem takeP_fr (x : Pl) : (takeP x).1.fr.length = x.fr.length := by
  have hl := wrP_len x (bestF x.fr x.fr.length).toNat
  unfold takeP
  repeat' split
  all_goals (try unfold setP); simp only [List.length_set]; try exact hl
set_option maxHeartbeats 8000000 in
theorem pl_PinA (a p b c : Nat) (x : Pl) (s : ByteArray) (n : Int) (k : Int) (S : Mem) (oE oW : Option (Nat × Nat)) (hok : OkA S a p b c x oE oW) (hw : PW x) :
    ACall Try.prog 97 #[.pointer (some ⟨a, 0, none⟩), .string s, .int .i64 n] (arM (devM S p x.d oE oW) a p b c x k) (ArN S a p b c (pinP x s n)) := by
  have h256 := hw.l2
  have hA := ar_own (M := devM S p x.d oE oW) (a := a) (p := p) (b := b) (c := c) (x := x) (k := k)
  have hF := ar_sl (M := devM S p x.d oE oW) (p := p) (x := x) (k := k) hok.ab hok.l hw.l2
  have hrd := hok.rd hw k
  have htk := pl_take a p b c x k S oE oW hok hw
  have hix := fun S h1 h2 h3 h4 h5 => pl_indexP (.slice (some ⟨b, 0, none⟩) x.fr.length c) x.fr s n h1 h2 S h3 h4 h5
  have hread := fun M h => dev_Read p x.d s n M h hw.dr
  unfold arB at hA
  unfold pinP
  by_cases q0 : x.fr.findIdx (isF s n) < x.fr.length
  · rw [if_pos q0]
    simp only [if_pos q0] at hix
    have hpn := hw.pn _ (atF_mem q0)
    generalize hI : x.fr.findIdx (isF s n) = i at *
    refine ACall.enter (args := [.pointer (some ⟨a, 0, none⟩), .string s, .int .i64 n]) (rs := [.tmp 6, .tmp 7]) 91 [(0, .pointer (some ⟨a, 0, none⟩)), (1, .string s), (2, .int .i64 n)] Try.func97 rfl rfl (Nat.le_of_ble_eq_true rfl) rfl ⟨rfl, rfl, rfl, trivial⟩ ?_
    refine AWP.seq ?_
    refine AWP.region ?_
    refine ARun.box1 (lit_lt rfl) rfl rfl ?_
    intro b4 f4
    have g4 := f4
    repeat ((with_reducible replace g4 := fresh_set g4); obtain ⟨g4, _⟩ := g4)
    have := g4.ne hA; have := g4.ne' hA
    (try simp only [List.length_cons, List.length_nil, Nat.zero_add, Nat.reduceAdd])
    refine ARun.box1 (lit_lt rfl) rfl rfl ?_
    intro b5 f5
    have g5 := f5
    repeat ((with_reducible replace g5 := fresh_set g5); obtain ⟨g5, _⟩ := g5)
    have := g5.ne hA; have := g5.ne' hA
    (try simp only [List.length_cons, List.length_nil, Nat.zero_add, Nat.reduceAdd])
    refine rC (Calm.assign rfl) ?_
    refine rC (Calm.assign rfl) ?_
    refine arun_nil ?_
    refine athen_n ?_
    refine AWP.seq ?_
    refine AWP.region ?_
    refine rC (Calm.move rfl) ?_
    refine rC (Calm.nilCheck rfl) ?_
    refine rC (Calm.fieldAddr ty_field_135_1 rfl) ?_
    refine rC (ld_ ty_plain_57 rfl) ?_
    refine rC (Calm.makeFunc rfl rfl) ?_
    refine ARun.call (lit_lt rfl) go_125 rfl (hix _ b5 b4 (hF.less less_) ((rds_own (Mem.own_set_same _ b5 _)).knows) ((rds_own (r := ⟨_, [.string s], 1⟩) own_).knows)) ?_
    rintro _ S1 ⟨rfl, h1⟩
    rw [h1]; clear h1 S1
    refine rC (Calm.assign rfl) ?_
    refine arun_nil ?_
    refine athen_n ?_
    refine AWP.sub [(0, _), (1, _), (2, _), (4, _), (5, _), (6, _), (7, _), (8, _)] ⟨rfl, rfl, rfl, rfl, rfl, rfl, rfl, rfl, trivial⟩ ?_
    refine AWP.seq ?_
    refine AWP.seq ?_
    refine AWP.region ?_
    refine rC (Calm.move rfl) ?_
    refine rC (Calm.bin rfl rfl b_lss) ?_
    refine arun_nil ?_
    refine athen_n ?_
    refine AWP.sub [(0, _), (1, _), (2, _), (4, _), (5, _), (6, _), (7, _), (8, _), (19, _)] ⟨rfl, rfl, rfl, rfl, rfl, rfl, rfl, rfl, rfl, trivial⟩ ?_
    refine AWP.condF rfl (by first | rfl | (simp; done) | (simp; omega)) ?_
    refine AWP.less (arM (devM S p x.d oE oW) a p b c x k) less_ ?_
    have hA3 := ar_own (M := devM S p x.d oE oW) (a := a) (p := p) (b := b) (c := c) (x := x) (k := k)
    have hB3 := ar_fr (M := devM S p x.d oE oW) (p := p) (c := c) (x := x) (k := k) hok.ab
    obtain ⟨_, _, _, kp, _, _, _⟩ := kn_fr (ar_kn (M := devM S p x.d oE oW) (p := p) (k := k) hok.ab hok.l h256 q0)
    unfold arB at hA3
    by_cases qp : (atF x i).pins = 256
    · rw [if_pos qp]
      refine AWP.skip ?_
      refine athen_n ?_
      refine AWP.seq ?_
      refine AWP.region ?_
      refine rC (Calm.move rfl) ?_
      refine rC (Calm.nilCheck rfl) ?_
      refine rC (Calm.fieldAddr ty_field_135_1 rfl) ?_
      refine rC (ld_ ty_plain_57 rfl) ?_
      refine rC (Calm.move rfl) ?_
      refine rC (Calm.indexS Try.underlying57 ty_size_110 rfl rfl (by omega) (by omega)) ?_
      refine rC (Calm.assign rfl) ?_
      refine arun_nil ?_
      refine athen_n ?_
      refine AWP.sub [(0, _), (1, _), (2, _), (4, _), (5, _), (6, _), (7, _), (8, _), (19, _), (11, _)] ⟨rfl, rfl, rfl, rfl, rfl, rfl, rfl, rfl, rfl, rfl, trivial⟩ ?_
      refine AWP.seq ?_
      refine AWP.seq ?_
      refine AWP.region ?_
      refine rC (Calm.move rfl) ?_
      refine rC (Calm.nilCheck rfl) ?_
      refine rC (Calm.fieldAddr ty_field_110_3 rfl) ?_
      refine rC (ld_ ty_plain_3 rfl) ?_
      refine rC (Calm.bin rfl rfl (bin_bool (bin_eql _ _) (decide_eq_true qp))) ?_
      refine arun_nil ?_
      refine athen_n ?_
      refine AWP.sub [(0, _), (1, _), (2, _), (4, _), (5, _), (6, _), (7, _), (8, _), (19, _), (11, _), (68, _)] ⟨rfl, rfl, rfl, rfl, rfl, rfl, rfl, rfl, rfl, rfl, rfl, trivial⟩ ?_
      refine AWP.condT rfl (by first | rfl | (simp; done) | (simp; omega)) ?_
      refine AWP.seq ?_
      refine AWP.region ?_
      refine rC (Calm.assign rfl) ?_
      refine rC (Calm.assign rfl) ?_
      refine arun_nil ?_
      refine athen_n ?_
      refine AWP.ret ?_
      refine athen_ret ?_
      refine ⟨_, arM (devM S p x.d oE oW) a p b c x k, ⟨_, _, rfl, ⟨_, _, rfl, rfl, rfl⟩, rfl⟩, Mem.Less.refl _, ?_⟩
      exact ⟨rfl, k, oE, oW, hok, rfl⟩
    · rw [if_neg qp]
      refine AWP.skip ?_
      refine athen_n ?_
      refine AWP.seq ?_
      refine AWP.region ?_
      refine rC (Calm.move rfl) ?_
      refine rC (Calm.nilCheck rfl) ?_
      refine rC (Calm.fieldAddr ty_field_135_1 rfl) ?_
      refine rC (ld_ ty_plain_57 rfl) ?_
      refine rC (Calm.move rfl) ?_
      refine rC (Calm.indexS Try.underlying57 ty_size_110 rfl rfl (by omega) (by omega)) ?_
      refine rC (Calm.assign rfl) ?_
      refine arun_nil ?_
      refine athen_n ?_
      refine AWP.sub [(0, _), (1, _), (2, _), (4, _), (5, _), (6, _), (7, _), (8, _), (19, _), (11, _)] ⟨rfl, rfl, rfl, rfl, rfl, rfl, rfl, rfl, rfl, rfl, trivial⟩ ?_
      refine AWP.seq ?_
      refine AWP.seq ?_
      refine AWP.region ?_
      refine rC (Calm.move rfl) ?_
      refine rC (Calm.nilCheck rfl) ?_
      refine rC (Calm.fieldAddr ty_field_110_3 rfl) ?_
      refine rC (ld_ ty_plain_3 rfl) ?_
      refine rC (Calm.bin rfl rfl (bin_bool (bin_eql _ _) (decide_eq_false qp))) ?_
      refine arun_nil ?_
      refine athen_n ?_
      refine AWP.sub [(0, _), (1, _), (2, _), (4, _), (5, _), (6, _), (7, _), (8, _), (19, _), (11, _), (68, _)] ⟨rfl, rfl, rfl, rfl, rfl, rfl, rfl, rfl, rfl, rfl, rfl, trivial⟩ ?_
      refine AWP.condF rfl (by first | rfl | (simp; done) | (simp; omega)) ?_
      refine AWP.skip ?_
      refine athen_n ?_
      refine AWP.seq ?_
      refine AWP.region ?_
      refine rC (Calm.move rfl) ?_
      refine rC (Calm.nilCheck rfl) ?_
      refine rC (Calm.fieldAddr ty_field_135_2 rfl) ?_
      refine rC (ld_ ty_plain_58 rfl) ?_
      refine rC (Calm.bin rfl rfl b_add_u64) ?_
      refine rC (Calm.nilCheck rfl) ?_
      refine rC (Calm.fieldAddr ty_field_135_2 rfl) ?_
      refine ARun.store1 rfl rfl ty_size_58 rfl hA3 (show 2 < 6 from by decide) rfl ?_
      (try simp only [Mem.set_set, List.set_cons_zero, List.set_cons_succ, Nat.zero_add, Nat.reduceAdd])
      refine arun_nil ?_
      refine athen_n ?_
      refine AWP.sub [(0, _), (1, _), (2, _), (4, _), (5, _), (6, _), (7, _), (8, _), (19, _), (11, _), (68, _)] ⟨rfl, rfl, rfl, rfl, rfl, rfl, rfl, rfl, rfl, rfl, rfl, trivial⟩ ?_
      obtain ⟨y1, hy1⟩ : ∃ y1 : Pl, y1 = { x with tick := up1 x.tick } := ⟨_, rfl⟩
      have hyd : y1.d = x.d := by rw [hy1]
      have hyf : y1.fr = x.fr := by rw [hy1]
      have hyt : y1.tick = up1 x.tick := by rw [hy1]
      have hA4 := ar_own (M := devM S p x.d oE oW) (a := a) (p := p) (b := b) (c := c) (x := y1) (k := k)
      have hB4 := ar_fr (M := devM S p x.d oE oW) (p := p) (c := c) (x := y1) (k := k) hok.ab
      refine AWP.less (arM (devM S p x.d oE oW) a p b c y1 k) (by rw [← ar_setA (x := x) (k := k) hyf]; unfold arB; rw [hyf, hyt, hy1]; exact Mem.Less.refl _) ?_
      unfold arB at hA4
      rw [hyf] at hB4 hA4
      refine AWP.seq ?_
      refine AWP.region ?_
      refine rC (Calm.move rfl) ?_
      refine rC (Calm.move rfl) ?_
      refine rC (Calm.nilCheck rfl) ?_
      refine rC (Calm.fieldAddr ty_field_135_2 rfl) ?_
      refine rC (ld_ ty_plain_58 rfl) ?_
      refine rC (Calm.nilCheck rfl) ?_
      refine rC (Calm.fieldAddr ty_field_110_5 rfl) ?_
      refine ARun.storeFr1 (c := c) (i := i) (l := x.fr) (q := 5) (u := { atF x i with tick := y1.tick }) rfl rfl rfl rfl (by omega) (by decide) q0 (by rw [atF_eq q0]; rfl) ty_size_58 hB4 ?_
      (try simp only [Mem.set_set, List.set_cons_zero, List.set_cons_succ, Nat.zero_add, Nat.reduceAdd])
      refine arun_nil ?_
      refine athen_n ?_
      refine AWP.sub [(0, _), (1, _), (2, _), (4, _), (5, _), (6, _), (7, _), (8, _), (19, _), (11, _), (68, _)] ⟨rfl, rfl, rfl, rfl, rfl, rfl, rfl, rfl, rfl, rfl, rfl, trivial⟩ ?_
      obtain ⟨y2, hy2⟩ : ∃ y2 : Pl, y2 = { y1 with fr := x.fr.set i { atF x i with tick := y1.tick } } := ⟨_, rfl⟩
      have hyd2 : y2.d = x.d := by rw [hy2, ← hyd]
      have hyl : y2.fr.length = x.fr.length := by rw [hy2]; simp
      have hi2 : i < y2.fr.length := by rw [hyl]; exact q0
      have hat : atF y2 i = { atF x i with tick := y1.tick } := by rw [atF_eq hi2]; simp only [hy2, List.getElem_set_self]
      have hB5 := ar_fr (M := devM S p x.d oE oW) (p := p) (c := c) (x := y2) (k := k) hok.ab
      obtain ⟨_, _, _, kp2, _, _, _⟩ := kn_fr (kn_zero <| ar_kn (M := devM S p x.d oE oW) (p := p) (k := k) hok.ab (by rw [hyl]; exact hok.l) (by rw [hyl]; exact h256) hi2)
      rw [hat] at kp2
      simp only at kp2
      refine AWP.less (arM (devM S p x.d oE oW) a p b c y2 k) (by rw [hy2, ← ar_setF (x := y1) hok.ab _ (by rw [hyf]; simp)]; exact Mem.Less.refl _) ?_
      refine AWP.seq ?_
      refine AWP.region ?_
      refine rC (Calm.move rfl) ?_
      refine rC (Calm.nilCheck rfl) ?_
      refine rC (Calm.fieldAddr ty_field_110_3 rfl) ?_
      refine rC (ld_ ty_plain_3 rfl) ?_
      refine rC (Calm.bin rfl rfl b_add_i64) ?_
      refine rC (Calm.nilCheck rfl) ?_
      refine rC (Calm.fieldAddr ty_field_110_3 rfl) ?_
      refine ARun.storeFr1 (c := c) (i := i) (l := y2.fr) (q := 3) (u := { atF y2 i with pins := (atF x i).pins + 1 }) rfl rfl rfl rfl (by omega) (by decide) hi2 (by rw [atF_eq hi2]; rfl) ty_size_3 hB5 ?_
      (try simp only [Mem.set_set, List.set_cons_zero, List.set_cons_succ, Nat.zero_add, Nat.reduceAdd])
      refine arun_nil ?_
      refine athen_n ?_
      refine AWP.sub [(0, _), (1, _), (2, _), (4, _), (5, _), (6, _), (7, _), (8, _), (19, _), (11, _), (68, _)] ⟨rfl, rfl, rfl, rfl, rfl, rfl, rfl, rfl, rfl, rfl, rfl, trivial⟩ ?_
      have hfin : { y2 with fr := y2.fr.set i { atF y2 i with pins := (atF x i).pins + 1 } } = pin1 x i := by unfold pin1; rw [hat, hyt, hy2, hy1]; simp only [List.set_set]
      refine AWP.seq ?_
      refine AWP.region ?_
      refine rC (Calm.move rfl) ?_
      refine rC (Calm.assign rfl) ?_
      refine rC (Calm.assign rfl) ?_
      refine arun_nil ?_
      refine athen_n ?_
      refine AWP.sub [(0, _), (1, _), (2, _), (4, _), (5, _), (6, _), (7, _), (8, _), (19, _), (11, _), (68, _)] ⟨rfl, rfl, rfl, rfl, rfl, rfl, rfl, rfl, rfl, rfl, rfl, trivial⟩ ?_
      refine AWP.ret ?_
      refine ⟨_, arM (devM S p x.d oE oW) a p b c (pin1 x i) k, ⟨_, _, rfl, ⟨_, _, rfl, rfl, rfl⟩, rfl⟩, (by rw [← hfin, ← ar_setF (x := y2) hok.ab _ (by simp)]; exact Mem.Less.refl _), ?_⟩
      exact ⟨rfl, k, oE, oW, hok.like rfl (by unfold pin1; simp), rfl⟩
  · rw [if_neg q0]
    simp only [if_neg q0] at hix
    by_cases q1 : (readD x.d s n).2 = 0
    · rw [if_neg (show ¬ (readD x.d s n).2 ≠ 0 from fun h => h q1)]
      rw [q1] at hread
      have htl := fun h => takeP_lt (x := x) h
      have htf := takeP_fr x
      generalize hD : (readD x.d s n).1 = data at *
      refine ACall.enter (args := [.pointer (some ⟨a, 0, none⟩), .string s, .int .i64 n]) (rs := [.tmp 6, .tmp 7]) 91 [(0, .pointer (some ⟨a, 0, none⟩)), (1, .string s), (2, .int .i64 n)] Try.func97 rfl rfl (Nat.le_of_ble_eq_true rfl) rfl ⟨rfl, rfl, rfl, trivial⟩ ?_
      refine AWP.seq ?_
      refine AWP.region ?_
      refine ARun.box1 (lit_lt rfl) rfl rfl ?_
      intro b4 f4
      have g4 := f4
      repeat ((with_reducible replace g4 := fresh_set g4); obtain ⟨g4, _⟩ := g4)
      have := g4.ne hA; have := g4.ne' hA
      (try simp only [List.length_cons, List.length_nil, Nat.zero_add, Nat.reduceAdd])
      refine ARun.box1 (lit_lt rfl) rfl rfl ?_
      intro b5 f5
      have g5 := f5
      repeat ((with_reducible replace g5 := fresh_set g5); obtain ⟨g5, _⟩ := g5)
      have := g5.ne hA; have := g5.ne' hA
      (try simp only [List.length_cons, List.length_nil, Nat.zero_add, Nat.reduceAdd])
      refine rC (Calm.assign rfl) ?_
      refine rC (Calm.assign rfl) ?_
      refine arun_nil ?_
      refine athen_n ?_
      refine AWP.seq ?_
      refine AWP.region ?_
      refine rC (Calm.move rfl) ?_
      refine rC (Calm.nilCheck rfl) ?_
      refine rC (Calm.fieldAddr ty_field_135_1 rfl) ?_
      refine rC (ld_ ty_plain_57 rfl) ?_
      refine rC (Calm.makeFunc rfl rfl) ?_
      refine ARun.call (lit_lt rfl) go_125 rfl (hix _ b5 b4 (hF.less less_) ((rds_own (Mem.own_set_same _ b5 _)).knows) ((rds_own (r := ⟨_, [.string s], 1⟩) own_).knows)) ?_
      rintro _ S1 ⟨rfl, h1⟩
      rw [h1]; clear h1 S1
      refine rC (Calm.assign rfl) ?_
      refine arun_nil ?_
      refine athen_n ?_
      refine AWP.sub [(0, _), (1, _), (2, _), (4, _), (5, _), (6, _), (7, _), (8, _)] ⟨rfl, rfl, rfl, rfl, rfl, rfl, rfl, rfl, trivial⟩ ?_
      refine AWP.seq ?_
      refine AWP.seq ?_
      refine AWP.region ?_
      refine rC (Calm.move rfl) ?_
      refine rC (Calm.bin rfl rfl b_lss) ?_
      refine arun_nil ?_
      refine athen_n ?_
      refine AWP.sub [(0, _), (1, _), (2, _), (4, _), (5, _), (6, _), (7, _), (8, _), (19, _)] ⟨rfl, rfl, rfl, rfl, rfl, rfl, rfl, rfl, rfl, trivial⟩ ?_
      refine AWP.condT rfl (by first | rfl | (simp; done) | (simp; omega)) ?_
      refine AWP.seq ?_
      refine AWP.draw [(0, true), (1, true), (2, true), (3, true), (4, true), (5, true), (6, false), (7, true), (8, true), (9, true), (10, true), (11, true)] [] mixed (by kernel_rfl) ?_
      refine dP (hc := fun _ => Calm.move rfl) (h := ?_)
      refine dP (hc := fun _ => Calm.nilCheck rfl) (h := ?_)
      refine dP (hc := fun _ => Calm.fieldAddr ty_field_135_0 rfl) (h := ?_)
      refine dC (hc := ld_ ty_plain_72 rfl) (h := ?_)
      refine dC (hc := ld_ ty_plain_9 rfl) (h := ?_)
      refine dC (hc := ld_ ty_plain_3 rfl) (h := ?_)
      refine draw_only rfl ?_
      refine ARun.call (lit_lt rfl) go_62 rfl (hread _ (hrd.less less_)) ?_
      rintro _ S1 ⟨rfl, h1⟩
      rw [h1]; clear h1 S1
      refine arun_nil ⟨fun _ => less_, ?_⟩
      refine dP (hc := fun _ => Calm.move rfl) (h := ?_)
      refine dP (hc := fun _ => Calm.extract rfl rfl) (h := ?_)
      refine dP (hc := fun _ => Calm.extract rfl rfl) (h := ?_)
      refine dP (hc := fun _ => Calm.assign rfl) (h := ?_)
      refine dP (hc := fun _ => Calm.assign rfl) (h := ?_)
      refine draw_nil ?_
      refine athen_n ?_
      refine AWP.sub [(0, _), (1, _), (2, _), (4, _), (5, _), (6, _), (7, _), (8, _), (19, _), (9, _), (10, _)] ⟨rfl, rfl, rfl, rfl, rfl, rfl, rfl, rfl, rfl, rfl, rfl, trivial⟩ ?_
      refine AWP.seq ?_
      refine AWP.seq ?_
      refine AWP.region ?_
      refine rC (Calm.move rfl) ?_
      refine rC (Calm.bin rfl rfl b_neq) ?_
      refine arun_nil ?_
      refine athen_n ?_
      refine AWP.sub [(0, _), (1, _), (2, _), (4, _), (5, _), (6, _), (7, _), (8, _), (19, _), (9, _), (10, _), (31, _)] ⟨rfl, rfl, rfl, rfl, rfl, rfl, rfl, rfl, rfl, rfl, rfl, rfl, trivial⟩ ?_
      refine AWP.condF rfl (by first | rfl | (simp; done) | (simp; omega)) ?_
      refine AWP.skip ?_
      refine athen_n ?_
      refine AWP.seq ?_
      refine AWP.seq ?_
      refine AWP.region ?_
      refine rC (Calm.move rfl) ?_
      refine ARun.call (lit_lt rfl) go_110 rfl ((htk.frame f4).frame f5) ?_
      rintro _ S1 ⟨Sa, ⟨Sb, ⟨rfl, k', oE', oW', hok', hSb⟩, fa, hSa⟩, fb, h1⟩
      rw [h1, hSa]; rw [hSa] at fb; clear h1 S1 hSa Sa; rw [hSb] at fa fb ⊢; clear hSb Sb
      generalize takeP x = u at *
      refine rC (Calm.move rfl) ?_
      refine rC (Calm.extract rfl rfl) ?_
      refine rC (Calm.extract rfl rfl) ?_
      refine rC (Calm.assign rfl) ?_
      refine rC (Calm.assign rfl) ?_
      refine arun_nil ?_
      refine athen_n ?_
      refine AWP.sub [(0, _), (1, _), (2, _), (4, _), (5, _), (6, _), (7, _), (8, _), (19, _), (9, _), (10, _), (31, _)] ⟨rfl, rfl, rfl, rfl, rfl, rfl, rfl, rfl, rfl, rfl, rfl, rfl, trivial⟩ ?_
      by_cases q2 : u.2.2 = 0
      · have hul := htl q2
        rw [if_neg (show ¬ u.2.2 ≠ 0 from fun h => h q2)]
        have hu256 : u.1.fr.length ≤ 256 := by rw [htf]; exact h256
        have hA2 := ar_own (M := devM S p u.1.d oE' oW') (a := a) (p := p) (b := b) (c := c) (x := u.1) (k := k')
        have hB2 := ar_fr (M := devM S p u.1.d oE' oW') (p := p) (c := c) (x := u.1) (k := k') hok'.ab
        have hB20 := hB2
        unfold arB at hA2
        refine AWP.seq ?_
        refine AWP.region ?_
        refine rC (Calm.move rfl) ?_
        refine rC (Calm.bin rfl rfl b_neq) ?_
        refine arun_nil ?_
        refine athen_n ?_
        refine AWP.sub [(0, _), (1, _), (2, _), (4, _), (5, _), (6, _), (7, _), (8, _), (19, _), (9, _), (10, _), (31, _), (39, _)] ⟨rfl, rfl, rfl, rfl, rfl, rfl, rfl, rfl, rfl, rfl, rfl, rfl, rfl, trivial⟩ ?_
        refine AWP.condF rfl (by first | rfl | (simp; done) | (simp; omega)) ?_
        refine AWP.skip ?_
        refine athen_n ?_
        refine AWP.seq ?_
        refine AWP.draw [(0, true), (1, true), (2, true), (3, true), (4, true), (5, true), (6, true), (7, true), (8, true), (9, true), (10, false)] [10] mixed (by kernel_rfl) ?_
        refine dP (hc := fun _ => Calm.move rfl) (h := ?_)
        refine dP (hc := fun _ => Calm.nilCheck rfl) (h := ?_)
        refine dP (hc := fun _ => Calm.fieldAddr ty_field_135_1 rfl) (h := ?_)
        refine dC (hc := ld_ ty_plain_57 rfl) (h := ?_)
        refine dP (hc := fun _ => Calm.move rfl) (h := ?_)
        refine dC (hc := ld_ ty_plain_9 rfl) (h := ?_)
        refine dC (hc := ld_ ty_plain_3 rfl) (h := ?_)
        refine dP (hc := fun _ => Calm.move rfl) (h := ?_)
        refine dP (hc := fun _ => Calm.build (cs := [_, _, _, _, _, _, _]) ty_bld_110 rfl rfl) (h := ?_)
        refine dP (hc := fun _ => Calm.indexS Try.underlying57 ty_size_110 rfl rfl (by omega) (by omega)) (h := ?_)
        refine draw_only rfl ?_
        refine ARun.storeFr (c := c) (i := u.2.1) (l := u.1.fr) (u := newF s n data) rfl rfl rfl (by omega) hul ty_size_110 ((Mem.own_set_other _ _ ((fresh_set fb).1.ne hB2)).trans ((Mem.own_set_other _ _ (fa.ne hB2)).trans hB2)) ?_
        (try simp only [Mem.set_set, List.set_cons_zero, List.set_cons_succ, Nat.zero_add, Nat.reduceAdd])
        refine arun_nil ⟨fun h => absurd h (by decide), ?_⟩
        refine draw_nil ?_
        refine athen_n ?_
        refine AWP.sub [(0, _), (1, _), (2, _), (4, _), (5, _), (6, _), (7, _), (8, _), (19, _), (9, _), (10, _), (31, _), (39, _)] ⟨rfl, rfl, rfl, rfl, rfl, rfl, rfl, rfl, rfl, rfl, rfl, rfl, rfl, trivial⟩ ?_
        obtain ⟨y0, hy0⟩ : ∃ y0 : Pl, y0 = setP u.1 u.2.1 (newF s n data) := ⟨_, rfl⟩
        have hyl0 : y0.fr.length = u.1.fr.length := by rw [hy0]; unfold setP; simp
        have hok0 : OkA S a p b c y0 oE' oW' := hok'.like (by rw [hy0]; rfl) hyl0
        have hA0 := ar_own (M := devM S p u.1.d oE' oW') (a := a) (p := p) (b := b) (c := c) (x := y0) (k := k')
        refine AWP.less (arM (devM S p u.1.d oE' oW') a p b c y0 k') (by rw [hy0]; unfold setP; rw [← ar_setF (x := u.1) hok'.ab _ (by simp)]; exact Less.set ((Mem.less_set _ _ _ fa.1).trans (Mem.less_set _ _ _ fb.1)) _ _) ?_
        unfold arB at hA0
        refine AWP.region ?_
        refine rC (Calm.move rfl) ?_
        refine rC (Calm.nilCheck rfl) ?_
        refine rC (Calm.fieldAddr ty_field_135_3 rfl) ?_
        refine rC (ld_ ty_plain_58 rfl) ?_
        refine rC (Calm.bin rfl rfl b_add_u64) ?_
        refine rC (Calm.nilCheck rfl) ?_
        refine rC (Calm.fieldAddr ty_field_135_3 rfl) ?_
        refine ARun.store1 rfl rfl ty_size_58 rfl hA0 (show 3 < 6 from by decide) rfl ?_
        (try simp only [Mem.set_set, List.set_cons_zero, List.set_cons_succ, Nat.zero_add, Nat.reduceAdd])
        refine arun_nil ?_
        refine athen_n ?_
        refine AWP.sub [(0, _), (1, _), (2, _), (4, _), (5, _), (6, _), (7, _), (8, _), (19, _), (9, _), (10, _), (31, _), (39, _)] ⟨rfl, rfl, rfl, rfl, rfl, rfl, rfl, rfl, rfl, rfl, rfl, rfl, rfl, trivial⟩ ?_
        obtain ⟨y, hy⟩ : ∃ y : Pl, y = { y0 with reads := up1 y0.reads } := ⟨_, rfl⟩
        have hyd : y.d = u.1.d := by rw [hy, hy0]; rfl
        have hyf : y.fr = y0.fr := by rw [hy]
        have hokY : OkA S a p b c y oE' oW' := hok0.like (by rw [hy]) (by rw [hyf])
        have hiy : u.2.1 < y.fr.length := by rw [hyf, hyl0]; exact hul
        have hy256 : y.fr.length ≤ 256 := by rw [hyf, hyl0]; exact hu256
        have hpn : 0 ≤ (atF y u.2.1).pins ∧ (atF y u.2.1).pins ≤ 256 := by rw [atF_eq hiy]; simp only [hyf, hy0, setP, List.getElem_set_self, newF]; omega
        have hp0 : ¬ (atF y u.2.1).pins = 256 := by rw [atF_eq hiy]; simp only [hyf, hy0, setP, List.getElem_set_self, newF]; omega
        have hres : (pin1 { setP u.1 u.2.1 (newF s n data) with reads := up1 u.1.reads } u.2.1, u.2.1, (0 : Int)) = if (atF y u.2.1).pins = 256 then (y, 0, 11) else (pin1 y u.2.1, u.2.1, 0) := by rw [if_neg hp0, hy, hy0]; rfl
        refine AWP.less (arM (devM S p u.1.d oE' oW') a p b c y k') (by rw [← ar_setA (x := y0) (k := k') hyf]; unfold arB; rw [hy]; exact Mem.Less.refl _) ?_
        rw [hres]
        rw [← hyd]
        clear hres hA2 hB2 hB20 hA0 hyd hy hyf
        generalize u.2.1 = i at *
        have hA3 := ar_own (M := devM S p y.d oE' oW') (a := a) (p := p) (b := b) (c := c) (x := y) (k := k')
        have hB3 := ar_fr (M := devM S p y.d oE' oW') (p := p) (c := c) (x := y) (k := k') hokY.ab
        obtain ⟨_, _, _, kp, _, _, _⟩ := kn_fr (ar_kn (M := devM S p y.d oE' oW') (p := p) (k := k') hokY.ab hokY.l hy256 hiy)
        unfold arB at hA3
        by_cases qp : (atF y i).pins = 256
        · rw [if_pos qp]
          refine AWP.seq ?_
          refine AWP.region ?_
          refine rC (Calm.move rfl) ?_
          refine rC (Calm.nilCheck rfl) ?_
          refine rC (Calm.fieldAddr ty_field_135_1 rfl) ?_
          refine rC (ld_ ty_plain_57 rfl) ?_
          refine rC (Calm.move rfl) ?_
          refine rC (Calm.indexS Try.underlying57 ty_size_110 rfl rfl (by omega) (by omega)) ?_
          refine rC (Calm.assign rfl) ?_
          refine arun_nil ?_
          refine athen_n ?_
          refine AWP.sub [(0, _), (1, _), (2, _), (4, _), (5, _), (6, _), (7, _), (8, _), (19, _), (9, _), (10, _), (31, _), (39, _), (11, _)] ⟨rfl, rfl, rfl, rfl, rfl, rfl, rfl, rfl, rfl, rfl, rfl, rfl, rfl, rfl, trivial⟩ ?_
          refine AWP.seq ?_
          refine AWP.seq ?_
          refine AWP.region ?_
          refine rC (Calm.move rfl) ?_
          refine rC (Calm.nilCheck rfl) ?_
          refine rC (Calm.fieldAddr ty_field_110_3 rfl) ?_
          refine rC (ld_ ty_plain_3 rfl) ?_
          refine rC (Calm.bin rfl rfl (bin_bool (bin_eql _ _) (decide_eq_true qp))) ?_
          refine arun_nil ?_
          refine athen_n ?_
          refine AWP.sub [(0, _), (1, _), (2, _), (4, _), (5, _), (6, _), (7, _), (8, _), (19, _), (9, _), (10, _), (31, _), (39, _), (11, _), (68, _)] ⟨rfl, rfl, rfl, rfl, rfl, rfl, rfl, rfl, rfl, rfl, rfl, rfl, rfl, rfl, rfl, trivial⟩ ?_
          refine AWP.condT rfl (by first | rfl | (simp; done) | (simp; omega)) ?_
          refine AWP.seq ?_
          refine AWP.region ?_
          refine rC (Calm.assign rfl) ?_
          refine rC (Calm.assign rfl) ?_
          refine arun_nil ?_
          refine athen_n ?_
          refine AWP.ret ?_
          refine athen_ret ?_
          refine ⟨_, arM (devM S p y.d oE' oW') a p b c y k', ⟨_, _, rfl, ⟨_, _, rfl, rfl, rfl⟩, rfl⟩, Mem.Less.refl _, ?_⟩
          exact ⟨rfl, k', oE', oW', hokY, rfl⟩
        · rw [if_neg qp]
          refine AWP.seq ?_
          refine AWP.region ?_
          refine rC (Calm.move rfl) ?_
          refine rC (Calm.nilCheck rfl) ?_
          refine rC (Calm.fieldAddr ty_field_135_1 rfl) ?_
          refine rC (ld_ ty_plain_57 rfl) ?_
          refine rC (Calm.move rfl) ?_
          refine rC (Calm.indexS Try.underlying57 ty_size_110 rfl rfl (by omega) (by omega)) ?_
          refine rC (Calm.assign rfl) ?_
          refine arun_nil ?_
          refine athen_n ?_
          refine AWP.sub [(0, _), (1, _), (2, _), (4, _), (5, _), (6, _), (7, _), (8, _), (19, _), (9, _), (10, _), (31, _), (39, _), (11, _)] ⟨rfl, rfl, rfl, rfl, rfl, rfl, rfl, rfl, rfl, rfl, rfl, rfl, rfl, rfl, trivial⟩ ?_
          refine AWP.seq ?_
          refine AWP.seq ?_
          refine AWP.region ?_
          refine rC (Calm.move rfl) ?_
          refine rC (Calm.nilCheck rfl) ?_
          refine rC (Calm.fieldAddr ty_field_110_3 rfl) ?_
          refine rC (ld_ ty_plain_3 rfl) ?_
          refine rC (Calm.bin rfl rfl (bin_bool (bin_eql _ _) (decide_eq_false qp))) ?_
          refine arun_nil ?_
          refine athen_n ?_
          refine AWP.sub [(0, _), (1, _), (2, _), (4, _), (5, _), (6, _), (7, _), (8, _), (19, _), (9, _), (10, _), (31, _), (39, _), (11, _), (68, _)] ⟨rfl, rfl, rfl, rfl, rfl, rfl, rfl, rfl, rfl, rfl, rfl, rfl, rfl, rfl, rfl, trivial⟩ ?_
          refine AWP.condF rfl (by first | rfl | (simp; done) | (simp; omega)) ?_
          refine AWP.skip ?_
          refine athen_n ?_
          refine AWP.seq ?_
          refine AWP.region ?_
          refine rC (Calm.move rfl) ?_
          refine rC (Calm.nilCheck rfl) ?_
          refine rC (Calm.fieldAddr ty_field_135_2 rfl) ?_
          refine rC (ld_ ty_plain_58 rfl) ?_
          refine rC (Calm.bin rfl rfl b_add_u64) ?_
          refine rC (Calm.nilCheck rfl) ?_
          refine rC (Calm.fieldAddr ty_field_135_2 rfl) ?_
          refine ARun.store1 rfl rfl ty_size_58 rfl hA3 (show 2 < 6 from by decide) rfl ?_
          (try simp only [Mem.set_set, List.set_cons_zero, List.set_cons_succ, Nat.zero_add, Nat.reduceAdd])
          refine arun_nil ?_
          refine athen_n ?_
          refine AWP.sub [(0, _), (1, _), (2, _), (4, _), (5, _), (6, _), (7, _), (8, _), (19, _), (9, _), (10, _), (31, _), (39, _), (11, _), (68, _)] ⟨rfl, rfl, rfl, rfl, rfl, rfl, rfl, rfl, rfl, rfl, rfl, rfl, rfl, rfl, rfl, trivial⟩ ?_
          obtain ⟨y1, hy1⟩ : ∃ y1 : Pl, y1 = { y with tick := up1 y.tick } := ⟨_, rfl⟩
          have hyd : y1.d = y.d := by rw [hy1]
          have hyf : y1.fr = y.fr := by rw [hy1]
          have hyt : y1.tick = up1 y.tick := by rw [hy1]
          have hA4 := ar_own (M := devM S p y.d oE' oW') (a := a) (p := p) (b := b) (c := c) (x := y1) (k := k')
          have hB4 := ar_fr (M := devM S p y.d oE' oW') (p := p) (c := c) (x := y1) (k := k') hokY.ab
          refine AWP.less (arM (devM S p y.d oE' oW') a p b c y1 k') (by rw [← ar_setA (x := y) (k := k') hyf]; unfold arB; rw [hyf, hyt, hy1]; exact Mem.Less.refl _) ?_
          unfold arB at hA4
          rw [hyf] at hB4 hA4
          refine AWP.seq ?_
          refine AWP.region ?_
          refine rC (Calm.move rfl) ?_
          refine rC (Calm.move rfl) ?_
          refine rC (Calm.nilCheck rfl) ?_
          refine rC (Calm.fieldAddr ty_field_135_2 rfl) ?_
          refine rC (ld_ ty_plain_58 rfl) ?_
          refine rC (Calm.nilCheck rfl) ?_
          refine rC (Calm.fieldAddr ty_field_110_5 rfl) ?_
          refine ARun.storeFr1 (c := c) (i := i) (l := y.fr) (q := 5) (u := { atF y i with tick := y1.tick }) rfl rfl rfl rfl (by omega) (by decide) hiy (by rw [atF_eq hiy]; rfl) ty_size_58 hB4 ?_
          (try simp only [Mem.set_set, List.set_cons_zero, List.set_cons_succ, Nat.zero_add, Nat.reduceAdd])
          refine arun_nil ?_
          refine athen_n ?_
          refine AWP.sub [(0, _), (1, _), (2, _), (4, _), (5, _), (6, _), (7, _), (8, _), (19, _), (9, _), (10, _), (31, _), (39, _), (11, _), (68, _)] ⟨rfl, rfl, rfl, rfl, rfl, rfl, rfl, rfl, rfl, rfl, rfl, rfl, rfl, rfl, rfl, trivial⟩ ?_
          obtain ⟨y2, hy2⟩ : ∃ y2 : Pl, y2 = { y1 with fr := y.fr.set i { atF y i with tick := y1.tick } } := ⟨_, rfl⟩
          have hyd2 : y2.d = y.d := by rw [hy2, ← hyd]
          have hyl : y2.fr.length = y.fr.length := by rw [hy2]; simp
          have hi2 : i < y2.fr.length := by rw [hyl]; exact hiy
          have hat : atF y2 i = { atF y i with tick := y1.tick } := by rw [atF_eq hi2]; simp only [hy2, List.getElem_set_self]
          have hB5 := ar_fr (M := devM S p y.d oE' oW') (p := p) (c := c) (x := y2) (k := k') hokY.ab
          obtain ⟨_, _, _, kp2, _, _, _⟩ := kn_fr (kn_zero <| ar_kn (M := devM S p y.d oE' oW') (p := p) (k := k') hokY.ab (by rw [hyl]; exact hokY.l) (by rw [hyl]; exact hy256) hi2)
          rw [hat] at kp2
          simp only at kp2
          refine AWP.less (arM (devM S p y.d oE' oW') a p b c y2 k') (by rw [hy2, ← ar_setF (x := y1) hokY.ab _ (by rw [hyf]; simp)]; exact Mem.Less.refl _) ?_
          refine AWP.seq ?_
          refine AWP.region ?_
          refine rC (Calm.move rfl) ?_
          refine rC (Calm.nilCheck rfl) ?_
          refine rC (Calm.fieldAddr ty_field_110_3 rfl) ?_
          refine rC (ld_ ty_plain_3 rfl) ?_
          refine rC (Calm.bin rfl rfl b_add_i64) ?_
          refine rC (Calm.nilCheck rfl) ?_
          refine rC (Calm.fieldAddr ty_field_110_3 rfl) ?_
          refine ARun.storeFr1 (c := c) (i := i) (l := y2.fr) (q := 3) (u := { atF y2 i with pins := (atF y i).pins + 1 }) rfl rfl rfl rfl (by omega) (by decide) hi2 (by rw [atF_eq hi2]; rfl) ty_size_3 hB5 ?_
          (try simp only [Mem.set_set, List.set_cons_zero, List.set_cons_succ, Nat.zero_add, Nat.reduceAdd])
          refine arun_nil ?_
          refine athen_n ?_
          refine AWP.sub [(0, _), (1, _), (2, _), (4, _), (5, _), (6, _), (7, _), (8, _), (19, _), (9, _), (10, _), (31, _), (39, _), (11, _), (68, _)] ⟨rfl, rfl, rfl, rfl, rfl, rfl, rfl, rfl, rfl, rfl, rfl, rfl, rfl, rfl, rfl, trivial⟩ ?_
          have hfin : { y2 with fr := y2.fr.set i { atF y2 i with pins := (atF y i).pins + 1 } } = pin1 y i := by unfold pin1; rw [hat, hyt, hy2, hy1]; simp only [List.set_set]
          refine AWP.seq ?_
          refine AWP.region ?_
          refine rC (Calm.move rfl) ?_
          refine rC (Calm.assign rfl) ?_
          refine rC (Calm.assign rfl) ?_
          refine arun_nil ?_
          refine athen_n ?_
          refine AWP.sub [(0, _), (1, _), (2, _), (4, _), (5, _), (6, _), (7, _), (8, _), (19, _), (9, _), (10, _), (31, _), (39, _), (11, _), (68, _)] ⟨rfl, rfl, rfl, rfl, rfl, rfl, rfl, rfl, rfl, rfl, rfl, rfl, rfl, rfl, rfl, trivial⟩ ?_
          refine AWP.ret ?_
          refine ⟨_, arM (devM S p y.d oE' oW') a p b c (pin1 y i) k', ⟨_, _, rfl, ⟨_, _, rfl, rfl, rfl⟩, rfl⟩, (by rw [← hfin, ← ar_setF (x := y2) hokY.ab _ (by simp)]; exact Mem.Less.refl _), ?_⟩
          exact ⟨rfl, k', oE', oW', hokY.like rfl (by unfold pin1; simp), rfl⟩
      · rw [if_pos q2]
        refine AWP.seq ?_
        refine AWP.region ?_
        refine rC (Calm.move rfl) ?_
        refine rC (Calm.bin rfl rfl b_neq) ?_
        refine arun_nil ?_
        refine athen_n ?_
        refine AWP.sub [(0, _), (1, _), (2, _), (4, _), (5, _), (6, _), (7, _), (8, _), (19, _), (9, _), (10, _), (31, _), (39, _)] ⟨rfl, rfl, rfl, rfl, rfl, rfl, rfl, rfl, rfl, rfl, rfl, rfl, rfl, trivial⟩ ?_
        refine AWP.condT rfl (by first | rfl | (simp; done) | (simp; omega)) ?_
        refine AWP.seq ?_
        refine AWP.region ?_
        refine rC (Calm.move rfl) ?_
        refine rC (Calm.assign rfl) ?_
        refine rC (Calm.assign rfl) ?_
        refine arun_nil ?_
        refine athen_n ?_
        refine AWP.sub [(0, _), (1, _), (2, _), (4, _), (5, _), (6, _), (7, _), (8, _), (19, _), (9, _), (10, _), (31, _), (39, _)] ⟨rfl, rfl, rfl, rfl, rfl, rfl, rfl, rfl, rfl, rfl, rfl, rfl, rfl, trivial⟩ ?_
        refine AWP.ret ?_
        refine athen_ret ?_
        refine athen_ret ?_
        refine ⟨_, arM (devM S p u.1.d oE' oW') a p b c u.1 k', ⟨_, _, rfl, ⟨_, _, rfl, rfl, rfl⟩, rfl⟩, (Mem.less_set _ _ _ fa.1).trans (Mem.less_set _ _ _ fb.1), ?_⟩
        exact ⟨rfl, k', oE', oW', hok', rfl⟩
    · rw [if_pos q1]
      refine ACall.enter (args := [.pointer (some ⟨a, 0, none⟩), .string s, .int .i64 n]) (rs := [.tmp 6, .tmp 7]) 91 [(0, .pointer (some ⟨a, 0, none⟩)), (1, .string s), (2, .int .i64 n)] Try.func97 rfl rfl (Nat.le_of_ble_eq_true rfl) rfl ⟨rfl, rfl, rfl, trivial⟩ ?_
      refine AWP.seq ?_
      refine AWP.region ?_
      refine ARun.box1 (lit_lt rfl) rfl rfl ?_
      intro b4 f4
      have g4 := f4
      repeat ((with_reducible replace g4 := fresh_set g4); obtain ⟨g4, _⟩ := g4)
      have := g4.ne hA; have := g4.ne' hA
      (try simp only [List.length_cons, List.length_nil, Nat.zero_add, Nat.reduceAdd])
      refine ARun.box1 (lit_lt rfl) rfl rfl ?_
      intro b5 f5
      have g5 := f5
      repeat ((with_reducible replace g5 := fresh_set g5); obtain ⟨g5, _⟩ := g5)
      have := g5.ne hA; have := g5.ne' hA
      (try simp only [List.length_cons, List.length_nil, Nat.zero_add, Nat.reduceAdd])
      refine rC (Calm.assign rfl) ?_
      refine rC (Calm.assign rfl) ?_
      refine arun_nil ?_
      refine athen_n ?_
      refine AWP.seq ?_
      refine AWP.region ?_
      refine rC (Calm.move rfl) ?_
      refine rC (Calm.nilCheck rfl) ?_
      refine rC (Calm.fieldAddr ty_field_135_1 rfl) ?_
      refine rC (ld_ ty_plain_57 rfl) ?_
      refine rC (Calm.makeFunc rfl rfl) ?_
      refine ARun.call (lit_lt rfl) go_125 rfl (hix _ b5 b4 (hF.less less_) ((rds_own (Mem.own_set_same _ b5 _)).knows) ((rds_own (r := ⟨_, [.string s], 1⟩) own_).knows)) ?_
      rintro _ S1 ⟨rfl, h1⟩
      rw [h1]; clear h1 S1
      refine rC (Calm.assign rfl) ?_
      refine arun_nil ?_
      refine athen_n ?_
      refine AWP.sub [(0, _), (1, _), (2, _), (4, _), (5, _), (6, _), (7, _), (8, _)] ⟨rfl, rfl, rfl, rfl, rfl, rfl, rfl, rfl, trivial⟩ ?_
      refine AWP.seq ?_
      refine AWP.seq ?_
      refine AWP.region ?_
      refine rC (Calm.move rfl) ?_
      refine rC (Calm.bin rfl rfl b_lss) ?_
      refine arun_nil ?_
      refine athen_n ?_
      refine AWP.sub [(0, _), (1, _), (2, _), (4, _), (5, _), (6, _), (7, _), (8, _), (19, _)] ⟨rfl, rfl, rfl, rfl, rfl, rfl, rfl, rfl, rfl, trivial⟩ ?_
      refine AWP.condT rfl (by first | rfl | (simp; done) | (simp; omega)) ?_
      refine AWP.seq ?_
      refine AWP.draw [(0, true), (1, true), (2, true), (3, true), (4, true), (5, true), (6, false), (7, true), (8, true), (9, true), (10, true), (11, true)] [] mixed (by kernel_rfl) ?_
      refine dP (hc := fun _ => Calm.move rfl) (h := ?_)
      refine dP (hc := fun _ => Calm.nilCheck rfl) (h := ?_)
      refine dP (hc := fun _ => Calm.fieldAddr ty_field_135_0 rfl) (h := ?_)
      refine dC (hc := ld_ ty_plain_72 rfl) (h := ?_)
      refine dC (hc := ld_ ty_plain_9 rfl) (h := ?_)
      refine dC (hc := ld_ ty_plain_3 rfl) (h := ?_)
      refine draw_only rfl ?_
      refine ARun.call (lit_lt rfl) go_62 rfl (hread _ (hrd.less less_)) ?_
      rintro _ S1 ⟨rfl, h1⟩
      rw [h1]; clear h1 S1
      refine arun_nil ⟨fun _ => less_, ?_⟩
      refine dP (hc := fun _ => Calm.move rfl) (h := ?_)
      refine dP (hc := fun _ => Calm.extract rfl rfl) (h := ?_)
      refine dP (hc := fun _ => Calm.extract rfl rfl) (h := ?_)
      refine dP (hc := fun _ => Calm.assign rfl) (h := ?_)
      refine dP (hc := fun _ => Calm.assign rfl) (h := ?_)
      refine draw_nil ?_
      refine athen_n ?_
      refine AWP.sub [(0, _), (1, _), (2, _), (4, _), (5, _), (6, _), (7, _), (8, _), (19, _), (9, _), (10, _)] ⟨rfl, rfl, rfl, rfl, rfl, rfl, rfl, rfl, rfl, rfl, rfl, trivial⟩ ?_
      refine AWP.seq ?_
      refine AWP.seq ?_
      refine AWP.region ?_
      refine rC (Calm.move rfl) ?_
      refine rC (Calm.bin rfl rfl b_neq) ?_
      refine arun_nil ?_
      refine athen_n ?_
      refine AWP.sub [(0, _), (1, _), (2, _), (4, _), (5, _), (6, _), (7, _), (8, _), (19, _), (9, _), (10, _), (31, _)] ⟨rfl, rfl, rfl, rfl, rfl, rfl, rfl, rfl, rfl, rfl, rfl, rfl, trivial⟩ ?_
      refine AWP.condT rfl (by first | rfl | (simp; done) | (simp; omega)) ?_
      refine AWP.seq ?_
      refine AWP.region ?_
      refine rC (Calm.move rfl) ?_
      refine rC (Calm.assign rfl) ?_
      refine rC (Calm.assign rfl) ?_
      refine arun_nil ?_
      refine athen_n ?_
      refine AWP.sub [(0, _), (1, _), (2, _), (4, _), (5, _), (6, _), (7, _), (8, _), (19, _), (9, _), (10, _), (31, _)] ⟨rfl, rfl, rfl, rfl, rfl, rfl, rfl, rfl, rfl, rfl, rfl, rfl, trivial⟩ ?_
      refine AWP.ret ?_
      refine athen_ret ?_
      refine athen_ret ?_
      refine ⟨_, arM (devM S p x.d oE oW) a p b c x k, ⟨_, _, rfl, ⟨_, _, rfl, rfl, rfl⟩, rfl⟩, less_, ?_⟩
      exact ⟨rfl, k, oE, oW, hok, rfl⟩
end Go.Proofs.Ytkeiphkccnfhoaa
namespace Go.Proofs.Ytkeiphkccnfhoaa
open Go.RowKit
open Mv Disk
set_option linter.unusedVariables false
set_option linter.unusedSimpArgs false
set_option maxRecDepth 4000
set_option maxHeartbeats 2000000 in
theorem pl_UnpinA (a p b c : Nat) (x : Pl) (i : Int) (k : Int) (S : Mem) (oE oW : Option (Nat × Nat)) (hok : OkA S a p b c x oE oW) (hw : PW x) :
    ACall Try.prog 101 #[.pointer (some ⟨a, 0, none⟩), .int .i64 i] (arM (devM S p x.d oE oW) a p b c x k) (ArR S a p b c (unpin1 x i)) := by
  have h256 := hw.l2
  have hA := ar_own (M := devM S p x.d oE oW) (a := a) (p := p) (b := b) (c := c) (x := x) (k := k)
  have hB := ar_fr (M := devM S p x.d oE oW) (p := p) (c := c) (x := x) (k := k) hok.ab
  have hsF := fun fr' h => ar_setF (M := devM S p x.d oE oW) (p := p) (c := c) (x := x) (k := k) hok.ab fr' h
  have hkn := fun j (hj : j < x.fr.length) => ar_kn (M := devM S p x.d oE oW) (p := p) (x := x) (k := k) hok.ab hok.l hw.l2 hj
  have hpn := fun j (hj : j < x.fr.length) => hw.pn _ (atF_mem hj)
  generalize hT : arM (devM S p x.d oE oW) a p b c x k = T at *
  unfold arB at hA
  unfold unpin1
  by_cases q1 : i < 0
  · rw [if_pos (.inl q1)]
    refine ACall.enter (args := [.pointer (some ⟨a, 0, none⟩), .int .i64 i]) (rs := [.tmp 4]) 38 [(0, .pointer (some ⟨a, 0, none⟩)), (1, .int .i64 i)] Try.func101 rfl rfl (Nat.le_of_ble_eq_true rfl) rfl ⟨rfl, rfl, trivial⟩ ?_
    refine AWP.seq ?_
    refine AWP.region ?_
    refine rC (Calm.assign rfl) ?_
    refine arun_nil ?_
    refine athen_n ?_
    refine AWP.seq ?_
    refine AWP.block ?_
    refine AWP.seq ?_
    refine AWP.region ?_
    refine rC (Calm.move rfl) ?_
    refine rC (Calm.bin rfl rfl (bin_bool (bin_lss _ _) (decide_eq_true q1))) ?_
    refine rC (Calm.move rfl) ?_
    first | refine rS 8 ?_ | refine rU 8 ?_ | refine rG 8 (Calm.move rfl) ?_
    first | refine rS 8 ?_ | refine rU 8 ?_ | refine rG 8 (Calm.move rfl) ?_
    first | refine rS 8 ?_ | refine rU 8 ?_ | refine rG 8 (Calm.nilCheck rfl) ?_
    first | refine rS 8 ?_ | refine rU 8 ?_ | refine rG 8 (Calm.fieldAddr ty_field_135_1 rfl) ?_
    first | refine rS 8 ?_ | refine rU 8 ?_ | refine rG 8 (ld_ ty_plain_57 rfl) ?_
    first | refine rS 8 ?_ | refine rU 8 ?_ | refine rG 8 (Calm.lenSl Try.underlying57 rfl) ?_
    first | refine rS 8 ?_ | refine rU 8 ?_ | refine rG 8 (Calm.bin rfl rfl b_geq) ?_
    refine rC ((by first | exact Calm.pickT rfl rfl | exact Calm.pickF rfl rfl)) ?_
    refine rC (Calm.assign rfl) ?_
    refine arun_nil ?_
    refine athen_n ?_
    refine AWP.sub [(0, _), (1, _), (4, _), (5, _)] ⟨rfl, rfl, rfl, rfl, trivial⟩ ?_
    refine AWP.condT rfl (by first | rfl | (simp; done) | (simp; omega)) ?_
    refine AWP.seq ?_
    refine AWP.region ?_
    refine rC (Calm.assign rfl) ?_
    refine arun_nil ?_
    refine athen_n ?_
    refine AWP.ret ?_
    refine ain_ret ?_
    refine athen_ret ?_
    refine ⟨_, T, ⟨_, _, rfl, rfl, rfl⟩, less_, ?_⟩
    exact ⟨rfl, k, oE, oW, hok, hT.symm⟩
  · by_cases q2 : (x.fr.length : Int) ≤ i
    · rw [if_pos (.inr q2)]
      refine ACall.enter (args := [.pointer (some ⟨a, 0, none⟩), .int .i64 i]) (rs := [.tmp 4]) 38 [(0, .pointer (some ⟨a, 0, none⟩)), (1, .int .i64 i)] Try.func101 rfl rfl (Nat.le_of_ble_eq_true rfl) rfl ⟨rfl, rfl, trivial⟩ ?_
      refine AWP.seq ?_
      refine AWP.region ?_
      refine rC (Calm.assign rfl) ?_
      refine arun_nil ?_
      refine athen_n ?_
      refine AWP.seq ?_
      refine AWP.block ?_
      refine AWP.seq ?_
      refine AWP.region ?_
      refine rC (Calm.move rfl) ?_
      refine rC (Calm.bin rfl rfl (bin_bool (bin_lss _ _) (decide_eq_false q1))) ?_
      refine rC (Calm.move rfl) ?_
      first | refine rS 8 ?_ | refine rU 8 ?_ | refine rG 8 (Calm.move rfl) ?_
      first | refine rS 8 ?_ | refine rU 8 ?_ | refine rG 8 (Calm.move rfl) ?_
      first | refine rS 8 ?_ | refine rU 8 ?_ | refine rG 8 (Calm.nilCheck rfl) ?_
      first | refine rS 8 ?_ | refine rU 8 ?_ | refine rG 8 (Calm.fieldAddr ty_field_135_1 rfl) ?_
      first | refine rS 8 ?_ | refine rU 8 ?_ | refine rG 8 (ld_ ty_plain_57 rfl) ?_
      first | refine rS 8 ?_ | refine rU 8 ?_ | refine rG 8 (Calm.lenSl Try.underlying57 rfl) ?_
      first | refine rS 8 ?_ | refine rU 8 ?_ | refine rG 8 (Calm.bin rfl rfl b_geq) ?_
      refine rC ((by first | exact Calm.pickT rfl rfl | exact Calm.pickF rfl rfl)) ?_
      refine rC (Calm.assign rfl) ?_
      refine arun_nil ?_
      refine athen_n ?_
      refine AWP.sub [(0, _), (1, _), (4, _), (5, _)] ⟨rfl, rfl, rfl, rfl, trivial⟩ ?_
      refine AWP.condT rfl (by first | rfl | (simp; done) | (simp; omega)) ?_
      refine AWP.seq ?_
      refine AWP.region ?_
      refine rC (Calm.assign rfl) ?_
      refine arun_nil ?_
      refine athen_n ?_
      refine AWP.ret ?_
      refine ain_ret ?_
      refine athen_ret ?_
      refine ⟨_, T, ⟨_, _, rfl, rfl, rfl⟩, less_, ?_⟩
      exact ⟨rfl, k, oE, oW, hok, hT.symm⟩
    · rw [if_neg (fun h => h.elim q1 q2)]
      obtain ⟨j, rfl⟩ : ∃ j : Nat, i = (j : Int) := ⟨_, (Int.toNat_of_nonneg (by omega)).symm⟩
      rw [Int.toNat_natCast]
      have hj : j < x.fr.length := by omega
      obtain ⟨_, _, _, kp, _, _, _⟩ := kn_fr (hkn j hj)
      have hpj := hpn j hj
      by_cases q3 : (atF x j).pins = 0
      · rw [if_pos q3]
        refine ACall.enter (args := [.pointer (some ⟨a, 0, none⟩), .int .i64 (j : Nat)]) (rs := [.tmp 4]) 38 [(0, .pointer (some ⟨a, 0, none⟩)), (1, .int .i64 (j : Nat))] Try.func101 rfl rfl (Nat.le_of_ble_eq_true rfl) rfl ⟨rfl, rfl, trivial⟩ ?_
        refine AWP.seq ?_
        refine AWP.region ?_
        refine rC (Calm.assign rfl) ?_
        refine arun_nil ?_
        refine athen_n ?_
        refine AWP.seq ?_
        refine AWP.block ?_
        refine AWP.seq ?_
        refine AWP.region ?_
        refine rC (Calm.move rfl) ?_
        refine rC (Calm.bin rfl rfl (bin_bool (bin_lss _ _) (decide_eq_false q1))) ?_
        refine rC (Calm.move rfl) ?_
        first | refine rS 8 ?_ | refine rU 8 ?_ | refine rG 8 (Calm.move rfl) ?_
        first | refine rS 8 ?_ | refine rU 8 ?_ | refine rG 8 (Calm.move rfl) ?_
        first | refine rS 8 ?_ | refine rU 8 ?_ | refine rG 8 (Calm.nilCheck rfl) ?_
        first | refine rS 8 ?_ | refine rU 8 ?_ | refine rG 8 (Calm.fieldAddr ty_field_135_1 rfl) ?_
        first | refine rS 8 ?_ | refine rU 8 ?_ | refine rG 8 (ld_ ty_plain_57 rfl) ?_
        first | refine rS 8 ?_ | refine rU 8 ?_ | refine rG 8 (Calm.lenSl Try.underlying57 rfl) ?_
        first | refine rS 8 ?_ | refine rU 8 ?_ | refine rG 8 (Calm.bin rfl rfl b_geq) ?_
        refine rC ((by first | exact Calm.pickT rfl rfl | exact Calm.pickF rfl rfl)) ?_
        refine rC (Calm.assign rfl) ?_
        refine arun_nil ?_
        refine athen_n ?_
        refine AWP.sub [(0, _), (1, _), (4, _), (5, _)] ⟨rfl, rfl, rfl, rfl, trivial⟩ ?_
        refine AWP.condF rfl (by first | rfl | (simp; done) | (simp; omega)) ?_
        refine AWP.seq ?_
        refine AWP.region ?_
        refine rC (Calm.move rfl) ?_
        refine rC (Calm.nilCheck rfl) ?_
        refine rC (Calm.fieldAddr ty_field_135_1 rfl) ?_
        refine rC (ld_ ty_plain_57 rfl) ?_
        refine rC (Calm.move rfl) ?_
        refine rC (Calm.indexS Try.underlying57 ty_size_110 rfl rfl (by omega) (by omega)) ?_
        refine rC (Calm.fieldAddr ty_field_110_3 rfl) ?_
        refine rC (ld_ ty_plain_3 rfl) ?_
        refine rC (Calm.bin rfl rfl (bin_bool (bin_eql _ _) (decide_eq_true q3))) ?_
        refine rC (Calm.assign rfl) ?_
        refine arun_nil ?_
        refine athen_n ?_
        refine AWP.sub [(0, _), (1, _), (4, _), (5, _), (17, _)] ⟨rfl, rfl, rfl, rfl, rfl, trivial⟩ ?_
        refine AWP.condT rfl (by first | rfl | (simp; done) | (simp; omega)) ?_
        refine AWP.seq ?_
        refine AWP.region ?_
        refine rC (Calm.assign rfl) ?_
        refine arun_nil ?_
        refine athen_n ?_
        refine AWP.ret ?_
        refine ain_ret ?_
        refine athen_ret ?_
        refine ⟨_, T, ⟨_, _, rfl, rfl, rfl⟩, less_, ?_⟩
        exact ⟨rfl, k, oE, oW, hok, hT.symm⟩
      · rw [if_neg q3]
        refine ACall.enter (args := [.pointer (some ⟨a, 0, none⟩), .int .i64 (j : Nat)]) (rs := [.tmp 4]) 38 [(0, .pointer (some ⟨a, 0, none⟩)), (1, .int .i64 (j : Nat))] Try.func101 rfl rfl (Nat.le_of_ble_eq_true rfl) rfl ⟨rfl, rfl, trivial⟩ ?_
        refine AWP.seq ?_
        refine AWP.region ?_
        refine rC (Calm.assign rfl) ?_
        refine arun_nil ?_
        refine athen_n ?_
        refine AWP.seq ?_
        refine AWP.block ?_
        refine AWP.seq ?_
        refine AWP.region ?_
        refine rC (Calm.move rfl) ?_
        refine rC (Calm.bin rfl rfl (bin_bool (bin_lss _ _) (decide_eq_false q1))) ?_
        refine rC (Calm.move rfl) ?_
        first | refine rS 8 ?_ | refine rU 8 ?_ | refine rG 8 (Calm.move rfl) ?_
        first | refine rS 8 ?_ | refine rU 8 ?_ | refine rG 8 (Calm.move rfl) ?_
        first | refine rS 8 ?_ | refine rU 8 ?_ | refine rG 8 (Calm.nilCheck rfl) ?_
        first | refine rS 8 ?_ | refine rU 8 ?_ | refine rG 8 (Calm.fieldAddr ty_field_135_1 rfl) ?_
        first | refine rS 8 ?_ | refine rU 8 ?_ | refine rG 8 (ld_ ty_plain_57 rfl) ?_
        first | refine rS 8 ?_ | refine rU 8 ?_ | refine rG 8 (Calm.lenSl Try.underlying57 rfl) ?_
        first | refine rS 8 ?_ | refine rU 8 ?_ | refine rG 8 (Calm.bin rfl rfl b_geq) ?_
        refine rC ((by first | exact Calm.pickT rfl rfl | exact Calm.pickF rfl rfl)) ?_
        refine rC (Calm.assign rfl) ?_
        refine arun_nil ?_
        refine athen_n ?_
        refine AWP.sub [(0, _), (1, _), (4, _), (5, _)] ⟨rfl, rfl, rfl, rfl, trivial⟩ ?_
        refine AWP.condF rfl (by first | rfl | (simp; done) | (simp; omega)) ?_
        refine AWP.seq ?_
        refine AWP.region ?_
        refine rC (Calm.move rfl) ?_
        refine rC (Calm.nilCheck rfl) ?_
        refine rC (Calm.fieldAddr ty_field_135_1 rfl) ?_
        refine rC (ld_ ty_plain_57 rfl) ?_
        refine rC (Calm.move rfl) ?_
        refine rC (Calm.indexS Try.underlying57 ty_size_110 rfl rfl (by omega) (by omega)) ?_
        refine rC (Calm.fieldAddr ty_field_110_3 rfl) ?_
        refine rC (ld_ ty_plain_3 rfl) ?_
        refine rC (Calm.bin rfl rfl (bin_bool (bin_eql _ _) (decide_eq_false q3))) ?_
        refine rC (Calm.assign rfl) ?_
        refine arun_nil ?_
        refine athen_n ?_
        refine AWP.sub [(0, _), (1, _), (4, _), (5, _), (17, _)] ⟨rfl, rfl, rfl, rfl, rfl, trivial⟩ ?_
        refine AWP.condF rfl (by first | rfl | (simp; done) | (simp; omega)) ?_
        refine AWP.skip ?_
        refine ain_n ?_
        refine athen_n ?_
        refine AWP.seq ?_
        refine AWP.region ?_
        refine rC (Calm.move rfl) ?_
        refine rC (Calm.nilCheck rfl) ?_
        refine rC (Calm.fieldAddr ty_field_135_1 rfl) ?_
        refine rC (ld_ ty_plain_57 rfl) ?_
        refine rC (Calm.move rfl) ?_
        refine rC (Calm.indexS Try.underlying57 ty_size_110 rfl rfl (by omega) (by omega)) ?_
        refine rC (Calm.fieldAddr ty_field_110_3 rfl) ?_
        refine rC (ld_ ty_plain_3 rfl) ?_
        refine rC (Calm.bin rfl rfl b_sub_i64) ?_
        refine rC (Calm.indexS Try.underlying57 ty_size_110 rfl rfl (by omega) (by omega)) ?_
        refine rC (Calm.fieldAddr ty_field_110_3 rfl) ?_
        refine ARun.storeFr1 (c := c) (i := j) (l := x.fr) (q := 3) (u := { atF x j with pins := (atF x j).pins - 1 }) rfl rfl rfl rfl (by omega) (by decide) hj (by rw [atF_eq hj]; rfl) ty_size_3 hB ?_
        (try simp only [Mem.set_set, List.set_cons_zero, List.set_cons_succ, Nat.zero_add, Nat.reduceAdd])
        refine arun_nil ?_
        refine athen_n ?_
        refine AWP.sub [(0, _), (1, _), (4, _), (5, _), (17, _)] ⟨rfl, rfl, rfl, rfl, rfl, trivial⟩ ?_
        refine AWP.seq ?_
        refine AWP.region ?_
        refine rC (Calm.assign rfl) ?_
        refine arun_nil ?_
        refine athen_n ?_
        refine AWP.ret ?_
        refine ⟨_, arM (devM S p x.d oE oW) a p b c (setP x j { atF x j with pins := (atF x j).pins - 1 }) k, ⟨_, _, rfl, rfl, rfl⟩, (by rw [hsF _ (by simp)]; exact Mem.Less.refl _), ?_⟩
        exact ⟨rfl, k, oE, oW, hok.like rfl (by unfold setP; simp), rfl⟩
set_option maxHeartbeats 2000000 in
theorem pl_ReturnA (a p b c : Nat) (x : Pl) (i : Int) (k : Int) (S : Mem) (oE oW : Option (Nat × Nat)) (hok : OkA S a p b c x oE oW) (hw : PW x) :
    ACall Try.prog 82 #[.pointer (some ⟨a, 0, none⟩), .int .i64 i] (arM (devM S p x.d oE oW) a p b c x k) (ArR S a p b c (ret1 x i)) := by
  have h256 := hw.l2
  have hA := ar_own (M := devM S p x.d oE oW) (a := a) (p := p) (b := b) (c := c) (x := x) (k := k)
  have hB := ar_fr (M := devM S p x.d oE oW) (p := p) (c := c) (x := x) (k := k) hok.ab
  have hsF := fun fr' h => ar_setF (M := devM S p x.d oE oW) (p := p) (c := c) (x := x) (k := k) hok.ab fr' h
  have hkn := fun j (hj : j < x.fr.length) => ar_kn (M := devM S p x.d oE oW) (p := p) (x := x) (k := k) hok.ab hok.l hw.l2 hj
  generalize hT : arM (devM S p x.d oE oW) a p b c x k = T at *
  unfold arB at hA
  unfold ret1
  by_cases q1 : i < 0
  · rw [if_pos (.inl q1)]
    refine ACall.enter (args := [.pointer (some ⟨a, 0, none⟩), .int .i64 i]) (rs := [.tmp 4]) 34 [(0, .pointer (some ⟨a, 0, none⟩)), (1, .int .i64 i)] Try.func82 rfl rfl (Nat.le_of_ble_eq_true rfl) rfl ⟨rfl, rfl, trivial⟩ ?_
    refine AWP.seq ?_
    refine AWP.region ?_
    refine rC (Calm.assign rfl) ?_
    refine arun_nil ?_
    refine athen_n ?_
    refine AWP.seq ?_
    refine AWP.block ?_
    refine AWP.seq ?_
    refine AWP.region ?_
    refine rC (Calm.move rfl) ?_
    refine rC (Calm.bin rfl rfl (bin_bool (bin_lss _ _) (decide_eq_true q1))) ?_
    refine rC (Calm.move rfl) ?_
    first | refine rS 8 ?_ | refine rU 8 ?_ | refine rG 8 (Calm.move rfl) ?_
    first | refine rS 8 ?_ | refine rU 8 ?_ | refine rG 8 (Calm.move rfl) ?_
    first | refine rS 8 ?_ | refine rU 8 ?_ | refine rG 8 (Calm.nilCheck rfl) ?_
    first | refine rS 8 ?_ | refine rU 8 ?_ | refine rG 8 (Calm.fieldAddr ty_field_135_1 rfl) ?_
    first | refine rS 8 ?_ | refine rU 8 ?_ | refine rG 8 (ld_ ty_plain_57 rfl) ?_
    first | refine rS 8 ?_ | refine rU 8 ?_ | refine rG 8 (Calm.lenSl Try.underlying57 rfl) ?_
    first | refine rS 8 ?_ | refine rU 8 ?_ | refine rG 8 (Calm.bin rfl rfl b_geq) ?_
    refine rC ((by first | exact Calm.pickT rfl rfl | exact Calm.pickF rfl rfl)) ?_
    refine rC (Calm.assign rfl) ?_
    refine arun_nil ?_
    refine athen_n ?_
    refine AWP.sub [(0, _), (1, _), (4, _), (5, _)] ⟨rfl, rfl, rfl, rfl, trivial⟩ ?_
    refine AWP.condT rfl (by first | rfl | (simp; done) | (simp; omega)) ?_
    refine AWP.seq ?_
    refine AWP.region ?_
    refine rC (Calm.assign rfl) ?_
    refine arun_nil ?_
    refine athen_n ?_
    refine AWP.ret ?_
    refine ain_ret ?_
    refine athen_ret ?_
    refine ⟨_, T, ⟨_, _, rfl, rfl, rfl⟩, less_, ?_⟩
    exact ⟨rfl, k, oE, oW, hok, hT.symm⟩
  · by_cases q2 : (x.fr.length : Int) ≤ i
    · rw [if_pos (.inr q2)]
      refine ACall.enter (args := [.pointer (some ⟨a, 0, none⟩), .int .i64 i]) (rs := [.tmp 4]) 34 [(0, .pointer (some ⟨a, 0, none⟩)), (1, .int .i64 i)] Try.func82 rfl rfl (Nat.le_of_ble_eq_true rfl) rfl ⟨rfl, rfl, trivial⟩ ?_
      refine AWP.seq ?_
      refine AWP.region ?_
      refine rC (Calm.assign rfl) ?_
      refine arun_nil ?_
      refine athen_n ?_
      refine AWP.seq ?_
      refine AWP.block ?_
      refine AWP.seq ?_
      refine AWP.region ?_
      refine rC (Calm.move rfl) ?_
      refine rC (Calm.bin rfl rfl (bin_bool (bin_lss _ _) (decide_eq_false q1))) ?_
      refine rC (Calm.move rfl) ?_
      first | refine rS 8 ?_ | refine rU 8 ?_ | refine rG 8 (Calm.move rfl) ?_
      first | refine rS 8 ?_ | refine rU 8 ?_ | refine rG 8 (Calm.move rfl) ?_
      first | refine rS 8 ?_ | refine rU 8 ?_ | refine rG 8 (Calm.nilCheck rfl) ?_
      first | refine rS 8 ?_ | refine rU 8 ?_ | refine rG 8 (Calm.fieldAddr ty_field_135_1 rfl) ?_
      first | refine rS 8 ?_ | refine rU 8 ?_ | refine rG 8 (ld_ ty_plain_57 rfl) ?_
      first | refine rS 8 ?_ | refine rU 8 ?_ | refine rG 8 (Calm.lenSl Try.underlying57 rfl) ?_
      first | refine rS 8 ?_ | refine rU 8 ?_ | refine rG 8 (Calm.bin rfl rfl b_geq) ?_
      refine rC ((by first | exact Calm.pickT rfl rfl | exact Calm.pickF rfl rfl)) ?_
      refine rC (Calm.assign rfl) ?_
      refine arun_nil ?_
      refine athen_n ?_
      refine AWP.sub [(0, _), (1, _), (4, _), (5, _)] ⟨rfl, rfl, rfl, rfl, trivial⟩ ?_
      refine AWP.condT rfl (by first | rfl | (simp; done) | (simp; omega)) ?_
      refine AWP.seq ?_
      refine AWP.region ?_
      refine rC (Calm.assign rfl) ?_
      refine arun_nil ?_
      refine athen_n ?_
      refine AWP.ret ?_
      refine ain_ret ?_
      refine athen_ret ?_
      refine ⟨_, T, ⟨_, _, rfl, rfl, rfl⟩, less_, ?_⟩
      exact ⟨rfl, k, oE, oW, hok, hT.symm⟩
    · rw [if_neg (fun h => h.elim q1 q2)]
      obtain ⟨j, rfl⟩ : ∃ j : Nat, i = (j : Int) := ⟨_, (Int.toNat_of_nonneg (by omega)).symm⟩
      rw [Int.toNat_natCast]
      have hj : j < x.fr.length := by omega
      obtain ⟨_, _, _, _, _, _, kp⟩ := kn_fr (hkn j hj)
      by_cases q3 : (atF x j).leased = false
      · rw [if_pos q3]
        refine ACall.enter (args := [.pointer (some ⟨a, 0, none⟩), .int .i64 (j : Nat)]) (rs := [.tmp 4]) 34 [(0, .pointer (some ⟨a, 0, none⟩)), (1, .int .i64 (j : Nat))] Try.func82 rfl rfl (Nat.le_of_ble_eq_true rfl) rfl ⟨rfl, rfl, trivial⟩ ?_
        refine AWP.seq ?_
        refine AWP.region ?_
        refine rC (Calm.assign rfl) ?_
        refine arun_nil ?_
        refine athen_n ?_
        refine AWP.seq ?_
        refine AWP.block ?_
        refine AWP.seq ?_
        refine AWP.region ?_
        refine rC (Calm.move rfl) ?_
        refine rC (Calm.bin rfl rfl (bin_bool (bin_lss _ _) (decide_eq_false q1))) ?_
        refine rC (Calm.move rfl) ?_
        first | refine rS 8 ?_ | refine rU 8 ?_ | refine rG 8 (Calm.move rfl) ?_
        first | refine rS 8 ?_ | refine rU 8 ?_ | refine rG 8 (Calm.move rfl) ?_
        first | refine rS 8 ?_ | refine rU 8 ?_ | refine rG 8 (Calm.nilCheck rfl) ?_
        first | refine rS 8 ?_ | refine rU 8 ?_ | refine rG 8 (Calm.fieldAddr ty_field_135_1 rfl) ?_
        first | refine rS 8 ?_ | refine rU 8 ?_ | refine rG 8 (ld_ ty_plain_57 rfl) ?_
        first | refine rS 8 ?_ | refine rU 8 ?_ | refine rG 8 (Calm.lenSl Try.underlying57 rfl) ?_
        first | refine rS 8 ?_ | refine rU 8 ?_ | refine rG 8 (Calm.bin rfl rfl b_geq) ?_
        refine rC ((by first | exact Calm.pickT rfl rfl | exact Calm.pickF rfl rfl)) ?_
        refine rC (Calm.assign rfl) ?_
        refine arun_nil ?_
        refine athen_n ?_
        refine AWP.sub [(0, _), (1, _), (4, _), (5, _)] ⟨rfl, rfl, rfl, rfl, trivial⟩ ?_
        refine AWP.condF rfl (by first | rfl | (simp; done) | (simp; omega)) ?_
        refine AWP.seq ?_
        refine AWP.region ?_
        refine rC (Calm.move rfl) ?_
        refine rC (Calm.nilCheck rfl) ?_
        refine rC (Calm.fieldAddr ty_field_135_1 rfl) ?_
        refine rC (ld_ ty_plain_57 rfl) ?_
        refine rC (Calm.move rfl) ?_
        refine rC (Calm.indexS Try.underlying57 ty_size_110 rfl rfl (by omega) (by omega)) ?_
        refine rC (Calm.fieldAddr ty_field_110_6 rfl) ?_
        refine rC (Calm.as (congrArg Value.bool q3) (ld_ ty_plain_4 rfl)) ?_
        refine rC (Calm.un rfl (una_not _)) ?_
        refine rC (Calm.assign rfl) ?_
        refine arun_nil ?_
        refine athen_n ?_
        refine AWP.sub [(0, _), (1, _), (4, _), (5, _), (17, _)] ⟨rfl, rfl, rfl, rfl, rfl, trivial⟩ ?_
        refine AWP.condT rfl (by first | rfl | (simp; done) | (simp; omega)) ?_
        refine AWP.seq ?_
        refine AWP.region ?_
        refine rC (Calm.assign rfl) ?_
        refine arun_nil ?_
        refine athen_n ?_
        refine AWP.ret ?_
        refine ain_ret ?_
        refine athen_ret ?_
        refine ⟨_, T, ⟨_, _, rfl, rfl, rfl⟩, less_, ?_⟩
        exact ⟨rfl, k, oE, oW, hok, hT.symm⟩
      · rw [if_neg q3]
        have q3' : (atF x j).leased = true := by simpa using q3
        refine ACall.enter (args := [.pointer (some ⟨a, 0, none⟩), .int .i64 (j : Nat)]) (rs := [.tmp 4]) 34 [(0, .pointer (some ⟨a, 0, none⟩)), (1, .int .i64 (j : Nat))] Try.func82 rfl rfl (Nat.le_of_ble_eq_true rfl) rfl ⟨rfl, rfl, trivial⟩ ?_
        refine AWP.seq ?_
        refine AWP.region ?_
        refine rC (Calm.assign rfl) ?_
        refine arun_nil ?_
        refine athen_n ?_
        refine AWP.seq ?_
        refine AWP.block ?_
        refine AWP.seq ?_
        refine AWP.region ?_
        refine rC (Calm.move rfl) ?_
        refine rC (Calm.bin rfl rfl (bin_bool (bin_lss _ _) (decide_eq_false q1))) ?_
        refine rC (Calm.move rfl) ?_
        first | refine rS 8 ?_ | refine rU 8 ?_ | refine rG 8 (Calm.move rfl) ?_
        first | refine rS 8 ?_ | refine rU 8 ?_ | refine rG 8 (Calm.move rfl) ?_
        first | refine rS 8 ?_ | refine rU 8 ?_ | refine rG 8 (Calm.nilCheck rfl) ?_
        first | refine rS 8 ?_ | refine rU 8 ?_ | refine rG 8 (Calm.fieldAddr ty_field_135_1 rfl) ?_
        first | refine rS 8 ?_ | refine rU 8 ?_ | refine rG 8 (ld_ ty_plain_57 rfl) ?_
        first | refine rS 8 ?_ | refine rU 8 ?_ | refine rG 8 (Calm.lenSl Try.underlying57 rfl) ?_
        first | refine rS 8 ?_ | refine rU 8 ?_ | refine rG 8 (Calm.bin rfl rfl b_geq) ?_
        refine rC ((by first | exact Calm.pickT rfl rfl | exact Calm.pickF rfl rfl)) ?_
        refine rC (Calm.assign rfl) ?_
        refine arun_nil ?_
        refine athen_n ?_
        refine AWP.sub [(0, _), (1, _), (4, _), (5, _)] ⟨rfl, rfl, rfl, rfl, trivial⟩ ?_
        refine AWP.condF rfl (by first | rfl | (simp; done) | (simp; omega)) ?_
        refine AWP.seq ?_
        refine AWP.region ?_
        refine rC (Calm.move rfl) ?_
        refine rC (Calm.nilCheck rfl) ?_
        refine rC (Calm.fieldAddr ty_field_135_1 rfl) ?_
        refine rC (ld_ ty_plain_57 rfl) ?_
        refine rC (Calm.move rfl) ?_
        refine rC (Calm.indexS Try.underlying57 ty_size_110 rfl rfl (by omega) (by omega)) ?_
        refine rC (Calm.fieldAddr ty_field_110_6 rfl) ?_
        refine rC (Calm.as (congrArg Value.bool q3') (ld_ ty_plain_4 rfl)) ?_
        refine rC (Calm.un rfl (una_not _)) ?_
        refine rC (Calm.assign rfl) ?_
        refine arun_nil ?_
        refine athen_n ?_
        refine AWP.sub [(0, _), (1, _), (4, _), (5, _), (17, _)] ⟨rfl, rfl, rfl, rfl, rfl, trivial⟩ ?_
        refine AWP.condF rfl (by first | rfl | (simp; done) | (simp; omega)) ?_
        refine AWP.skip ?_
        refine ain_n ?_
        refine athen_n ?_
        refine AWP.seq ?_
        refine AWP.region ?_
        refine rC (Calm.move rfl) ?_
        refine rC (Calm.nilCheck rfl) ?_
        refine rC (Calm.fieldAddr ty_field_135_1 rfl) ?_
        refine rC (ld_ ty_plain_57 rfl) ?_
        refine rC (Calm.move rfl) ?_
        refine rC (Calm.build (cs := [_, _, _, _, _, _, _]) ty_bld_110 rfl rfl) ?_
        refine rC (Calm.indexS Try.underlying57 ty_size_110 rfl rfl (by omega) (by omega)) ?_
        refine ARun.storeFr (c := c) (i := j) (l := x.fr) (u := F0) rfl rfl rfl (by omega) hj ty_size_110 hB ?_
        (try simp only [Mem.set_set, List.set_cons_zero, List.set_cons_succ, Nat.zero_add, Nat.reduceAdd])
        refine arun_nil ?_
        refine athen_n ?_
        refine AWP.sub [(0, _), (1, _), (4, _), (5, _), (17, _)] ⟨rfl, rfl, rfl, rfl, rfl, trivial⟩ ?_
        refine AWP.seq ?_
        refine AWP.region ?_
        refine rC (Calm.assign rfl) ?_
        refine arun_nil ?_
        refine athen_n ?_
        refine AWP.ret ?_
        refine ⟨_, arM (devM S p x.d oE oW) a p b c (setP x j F0) k, ⟨_, _, rfl, rfl, rfl⟩, (by rw [hsF _ (by simp)]; exact Mem.Less.refl _), ?_⟩
        exact ⟨rfl, k, oE, oW, hok.like rfl (by unfold setP; simp), rfl⟩
set_option maxHeartbeats 2000000 in
theorem pl_pinned (a p b c : Nat) (x : Pl) (i g n : Int) (k : Int) (T : Mem) (hA : T.own a = some (arB p b c x k)) (hF : Sl 7 frF T (.slice (some ⟨b, 0, none⟩) x.fr.length c) x.fr) (h256 : x.fr.length ≤ 256) (hn : 0 ≤ n) :
    ACall Try.prog 98 #[.pointer (some ⟨a, 0, none⟩), .int .i64 i, .int .i64 g, .int .i64 n] T fun r S' => r = .int .i64 (pinnedP x i g n) ∧ S' = T := by
  unfold arB at hA
  unfold pinnedP
  by_cases q1 : i < 0
  · rw [if_pos (.inl q1)]
    refine ACall.enter (args := [.pointer (some ⟨a, 0, none⟩), .int .i64 i, .int .i64 g, .int .i64 n]) (rs := [.tmp 8]) 45 [(0, .pointer (some ⟨a, 0, none⟩)), (1, .int .i64 i), (2, .int .i64 g), (3, .int .i64 n)] Try.func98 rfl rfl (Nat.le_of_ble_eq_true rfl) rfl ⟨rfl, rfl, rfl, rfl, trivial⟩ ?_
    refine AWP.seq ?_
    refine AWP.region ?_
    refine rC (Calm.assign rfl) ?_
    refine arun_nil ?_
    refine athen_n ?_
    refine AWP.seq ?_
    refine AWP.block ?_
    refine AWP.seq ?_
    refine AWP.region ?_
    refine rC (Calm.move rfl) ?_
    refine rC (Calm.bin rfl rfl (bin_bool (bin_lss _ _) (decide_eq_true q1))) ?_
    refine rC (Calm.move rfl) ?_
    first | refine rS 12 ?_ | refine rU 12 ?_ | refine rG 12 (Calm.move rfl) ?_
    first | refine rS 12 ?_ | refine rU 12 ?_ | refine rG 12 (Calm.move rfl) ?_
    first | refine rS 12 ?_ | refine rU 12 ?_ | refine rG 12 (Calm.nilCheck rfl) ?_
    first | refine rS 12 ?_ | refine rU 12 ?_ | refine rG 12 (Calm.fieldAddr ty_field_135_1 rfl) ?_
    first | refine rS 12 ?_ | refine rU 12 ?_ | refine rG 12 (ld_ ty_plain_57 rfl) ?_
    first | refine rS 12 ?_ | refine rU 12 ?_ | refine rG 12 (Calm.lenSl Try.underlying57 rfl) ?_
    first | refine rS 12 ?_ | refine rU 12 ?_ | refine rG 12 (Calm.bin rfl rfl b_geq) ?_
    refine rC ((by first | exact Calm.pickT rfl rfl | exact Calm.pickF rfl rfl)) ?_
    refine rC (Calm.move rfl) ?_
    first | refine rS 21 ?_ | refine rU 21 ?_ | refine rG 21 (Calm.move rfl) ?_
    first | refine rS 21 ?_ | refine rU 21 ?_ | refine rG 21 (Calm.bin rfl rfl b_lss) ?_
    refine rC ((by first | exact Calm.pickT rfl rfl | exact Calm.pickF rfl rfl)) ?_
    refine rC (Calm.move rfl) ?_
    first | refine rS 25 ?_ | refine rU 25 ?_ | refine rG 25 (Calm.move rfl) ?_
    first | refine rS 25 ?_ | refine rU 25 ?_ | refine rG 25 (Calm.bin rfl rfl b_gtr) ?_
    refine rC ((by first | exact Calm.pickT rfl rfl | exact Calm.pickF rfl rfl)) ?_
    refine rC (Calm.move rfl) ?_
    first | refine rS 29 ?_ | refine rU 29 ?_ | refine rG 29 (Calm.move rfl) ?_
    first | refine rS 29 ?_ | refine rU 29 ?_ | refine rG 29 (Calm.move rfl) ?_
    first | refine rS 29 ?_ | refine rU 29 ?_ | refine rG 29 (Calm.bin rfl rfl b_sub_i64) ?_
    first | refine rS 29 ?_ | refine rU 29 ?_ | refine rG 29 (Calm.bin rfl rfl b_gtr) ?_
    refine rC ((by first | exact Calm.pickT rfl rfl | exact Calm.pickF rfl rfl)) ?_
    refine rC (Calm.assign rfl) ?_
    refine arun_nil ?_
    refine athen_n ?_
    refine AWP.sub [(0, _), (1, _), (2, _), (3, _), (8, _), (9, _)] ⟨rfl, rfl, rfl, rfl, rfl, rfl, trivial⟩ ?_
    refine AWP.condT rfl (by first | rfl | (simp; done) | (simp; omega)) ?_
    refine AWP.seq ?_
    refine AWP.region ?_
    refine rC (Calm.assign rfl) ?_
    refine arun_nil ?_
    refine athen_n ?_
    refine AWP.ret ?_
    refine ain_ret ?_
    refine athen_ret ?_
    refine ⟨_, T, ⟨_, _, rfl, rfl, rfl⟩, less_, ?_⟩
    exact ⟨rfl, rfl⟩
  · by_cases q2 : (x.fr.length : Int) ≤ i
    · rw [if_pos (.inr (.inl q2))]
      refine ACall.enter (args := [.pointer (some ⟨a, 0, none⟩), .int .i64 i, .int .i64 g, .int .i64 n]) (rs := [.tmp 8]) 45 [(0, .pointer (some ⟨a, 0, none⟩)), (1, .int .i64 i), (2, .int .i64 g), (3, .int .i64 n)] Try.func98 rfl rfl (Nat.le_of_ble_eq_true rfl) rfl ⟨rfl, rfl, rfl, rfl, trivial⟩ ?_
      refine AWP.seq ?_
      refine AWP.region ?_
      refine rC (Calm.assign rfl) ?_
      refine arun_nil ?_
      refine athen_n ?_
      refine AWP.seq ?_
      refine AWP.block ?_
      refine AWP.seq ?_
      refine AWP.region ?_
      refine rC (Calm.move rfl) ?_
      refine rC (Calm.bin rfl rfl (bin_bool (bin_lss _ _) (decide_eq_false q1))) ?_
      refine rC (Calm.move rfl) ?_
      first | refine rS 12 ?_ | refine rU 12 ?_ | refine rG 12 (Calm.move rfl) ?_
      first | refine rS 12 ?_ | refine rU 12 ?_ | refine rG 12 (Calm.move rfl) ?_
      first | refine rS 12 ?_ | refine rU 12 ?_ | refine rG 12 (Calm.nilCheck rfl) ?_
      first | refine rS 12 ?_ | refine rU 12 ?_ | refine rG 12 (Calm.fieldAddr ty_field_135_1 rfl) ?_
      first | refine rS 12 ?_ | refine rU 12 ?_ | refine rG 12 (ld_ ty_plain_57 rfl) ?_
      first | refine rS 12 ?_ | refine rU 12 ?_ | refine rG 12 (Calm.lenSl Try.underlying57 rfl) ?_
      first | refine rS 12 ?_ | refine rU 12 ?_ | refine rG 12 (Calm.bin rfl rfl (bin_bool (bin_geq _ _) (decide_eq_true q2))) ?_
      refine rC ((by first | exact Calm.pickT rfl rfl | exact Calm.pickF rfl rfl)) ?_
      refine rC (Calm.move rfl) ?_
      first | refine rS 21 ?_ | refine rU 21 ?_ | refine rG 21 (Calm.move rfl) ?_
      first | refine rS 21 ?_ | refine rU 21 ?_ | refine rG 21 (Calm.bin rfl rfl b_lss) ?_
      refine rC ((by first | exact Calm.pickT rfl rfl | exact Calm.pickF rfl rfl)) ?_
      refine rC (Calm.move rfl) ?_
      first | refine rS 25 ?_ | refine rU 25 ?_ | refine rG 25 (Calm.move rfl) ?_
      first | refine rS 25 ?_ | refine rU 25 ?_ | refine rG 25 (Calm.bin rfl rfl b_gtr) ?_
      refine rC ((by first | exact Calm.pickT rfl rfl | exact Calm.pickF rfl rfl)) ?_
      refine rC (Calm.move rfl) ?_
      first | refine rS 29 ?_ | refine rU 29 ?_ | refine rG 29 (Calm.move rfl) ?_
      first | refine rS 29 ?_ | refine rU 29 ?_ | refine rG 29 (Calm.move rfl) ?_
      first | refine rS 29 ?_ | refine rU 29 ?_ | refine rG 29 (Calm.bin rfl rfl b_sub_i64) ?_
      first | refine rS 29 ?_ | refine rU 29 ?_ | refine rG 29 (Calm.bin rfl rfl b_gtr) ?_
      refine rC ((by first | exact Calm.pickT rfl rfl | exact Calm.pickF rfl rfl)) ?_
      refine rC (Calm.assign rfl) ?_
      refine arun_nil ?_
      refine athen_n ?_
      refine AWP.sub [(0, _), (1, _), (2, _), (3, _), (8, _), (9, _)] ⟨rfl, rfl, rfl, rfl, rfl, rfl, trivial⟩ ?_
      refine AWP.condT rfl (by first | rfl | (simp; done) | (simp; omega)) ?_
      refine AWP.seq ?_
      refine AWP.region ?_
      refine rC (Calm.assign rfl) ?_
      refine arun_nil ?_
      refine athen_n ?_
      refine AWP.ret ?_
      refine ain_ret ?_
      refine athen_ret ?_
      refine ⟨_, T, ⟨_, _, rfl, rfl, rfl⟩, less_, ?_⟩
      exact ⟨rfl, rfl⟩
    · by_cases q3 : g < 0
      · rw [if_pos (.inr (.inr (.inl q3)))]
        refine ACall.enter (args := [.pointer (some ⟨a, 0, none⟩), .int .i64 i, .int .i64 g, .int .i64 n]) (rs := [.tmp 8]) 45 [(0, .pointer (some ⟨a, 0, none⟩)), (1, .int .i64 i), (2, .int .i64 g), (3, .int .i64 n)] Try.func98 rfl rfl (Nat.le_of_ble_eq_true rfl) rfl ⟨rfl, rfl, rfl, rfl, trivial⟩ ?_
        refine AWP.seq ?_
        refine AWP.region ?_
        refine rC (Calm.assign rfl) ?_
        refine arun_nil ?_
        refine athen_n ?_
        refine AWP.seq ?_
        refine AWP.block ?_
        refine AWP.seq ?_
        refine AWP.region ?_
        refine rC (Calm.move rfl) ?_
        refine rC (Calm.bin rfl rfl (bin_bool (bin_lss _ _) (decide_eq_false q1))) ?_
        refine rC (Calm.move rfl) ?_
        first | refine rS 12 ?_ | refine rU 12 ?_ | refine rG 12 (Calm.move rfl) ?_
        first | refine rS 12 ?_ | refine rU 12 ?_ | refine rG 12 (Calm.move rfl) ?_
        first | refine rS 12 ?_ | refine rU 12 ?_ | refine rG 12 (Calm.nilCheck rfl) ?_
        first | refine rS 12 ?_ | refine rU 12 ?_ | refine rG 12 (Calm.fieldAddr ty_field_135_1 rfl) ?_
        first | refine rS 12 ?_ | refine rU 12 ?_ | refine rG 12 (ld_ ty_plain_57 rfl) ?_
        first | refine rS 12 ?_ | refine rU 12 ?_ | refine rG 12 (Calm.lenSl Try.underlying57 rfl) ?_
        first | refine rS 12 ?_ | refine rU 12 ?_ | refine rG 12 (Calm.bin rfl rfl (bin_bool (bin_geq _ _) (decide_eq_false q2))) ?_
        refine rC ((by first | exact Calm.pickT rfl rfl | exact Calm.pickF rfl rfl)) ?_
        refine rC (Calm.move rfl) ?_
        first | refine rS 21 ?_ | refine rU 21 ?_ | refine rG 21 (Calm.move rfl) ?_
        first | refine rS 21 ?_ | refine rU 21 ?_ | refine rG 21 (Calm.bin rfl rfl (bin_bool (bin_lss _ _) (decide_eq_true q3))) ?_
        refine rC ((by first | exact Calm.pickT rfl rfl | exact Calm.pickF rfl rfl)) ?_
        refine rC (Calm.move rfl) ?_
        first | refine rS 25 ?_ | refine rU 25 ?_ | refine rG 25 (Calm.move rfl) ?_
        first | refine rS 25 ?_ | refine rU 25 ?_ | refine rG 25 (Calm.bin rfl rfl b_gtr) ?_
        refine rC ((by first | exact Calm.pickT rfl rfl | exact Calm.pickF rfl rfl)) ?_
        refine rC (Calm.move rfl) ?_
        first | refine rS 29 ?_ | refine rU 29 ?_ | refine rG 29 (Calm.move rfl) ?_
        first | refine rS 29 ?_ | refine rU 29 ?_ | refine rG 29 (Calm.move rfl) ?_
        first | refine rS 29 ?_ | refine rU 29 ?_ | refine rG 29 (Calm.bin rfl rfl b_sub_i64) ?_
        first | refine rS 29 ?_ | refine rU 29 ?_ | refine rG 29 (Calm.bin rfl rfl b_gtr) ?_
        refine rC ((by first | exact Calm.pickT rfl rfl | exact Calm.pickF rfl rfl)) ?_
        refine rC (Calm.assign rfl) ?_
        refine arun_nil ?_
        refine athen_n ?_
        refine AWP.sub [(0, _), (1, _), (2, _), (3, _), (8, _), (9, _)] ⟨rfl, rfl, rfl, rfl, rfl, rfl, trivial⟩ ?_
        refine AWP.condT rfl (by first | rfl | (simp; done) | (simp; omega)) ?_
        refine AWP.seq ?_
        refine AWP.region ?_
        refine rC (Calm.assign rfl) ?_
        refine arun_nil ?_
        refine athen_n ?_
        refine AWP.ret ?_
        refine ain_ret ?_
        refine athen_ret ?_
        refine ⟨_, T, ⟨_, _, rfl, rfl, rfl⟩, less_, ?_⟩
        exact ⟨rfl, rfl⟩
      · by_cases q4 : 64 < g
        · rw [if_pos (.inr (.inr (.inr (.inl q4))))]
          refine ACall.enter (args := [.pointer (some ⟨a, 0, none⟩), .int .i64 i, .int .i64 g, .int .i64 n]) (rs := [.tmp 8]) 45 [(0, .pointer (some ⟨a, 0, none⟩)), (1, .int .i64 i), (2, .int .i64 g), (3, .int .i64 n)] Try.func98 rfl rfl (Nat.le_of_ble_eq_true rfl) rfl ⟨rfl, rfl, rfl, rfl, trivial⟩ ?_
          refine AWP.seq ?_
          refine AWP.region ?_
          refine rC (Calm.assign rfl) ?_
          refine arun_nil ?_
          refine athen_n ?_
          refine AWP.seq ?_
          refine AWP.block ?_
          refine AWP.seq ?_
          refine AWP.region ?_
          refine rC (Calm.move rfl) ?_
          refine rC (Calm.bin rfl rfl (bin_bool (bin_lss _ _) (decide_eq_false q1))) ?_
          refine rC (Calm.move rfl) ?_
          first | refine rS 12 ?_ | refine rU 12 ?_ | refine rG 12 (Calm.move rfl) ?_
          first | refine rS 12 ?_ | refine rU 12 ?_ | refine rG 12 (Calm.move rfl) ?_
          first | refine rS 12 ?_ | refine rU 12 ?_ | refine rG 12 (Calm.nilCheck rfl) ?_
          first | refine rS 12 ?_ | refine rU 12 ?_ | refine rG 12 (Calm.fieldAddr ty_field_135_1 rfl) ?_
          first | refine rS 12 ?_ | refine rU 12 ?_ | refine rG 12 (ld_ ty_plain_57 rfl) ?_
          first | refine rS 12 ?_ | refine rU 12 ?_ | refine rG 12 (Calm.lenSl Try.underlying57 rfl) ?_
          first | refine rS 12 ?_ | refine rU 12 ?_ | refine rG 12 (Calm.bin rfl rfl (bin_bool (bin_geq _ _) (decide_eq_false q2))) ?_
          refine rC ((by first | exact Calm.pickT rfl rfl | exact Calm.pickF rfl rfl)) ?_
          refine rC (Calm.move rfl) ?_
          first | refine rS 21 ?_ | refine rU 21 ?_ | refine rG 21 (Calm.move rfl) ?_
          first | refine rS 21 ?_ | refine rU 21 ?_ | refine rG 21 (Calm.bin rfl rfl (bin_bool (bin_lss _ _) (decide_eq_false q3))) ?_
          refine rC ((by first | exact Calm.pickT rfl rfl | exact Calm.pickF rfl rfl)) ?_
          refine rC (Calm.move rfl) ?_
          first | refine rS 25 ?_ | refine rU 25 ?_ | refine rG 25 (Calm.move rfl) ?_
          first | refine rS 25 ?_ | refine rU 25 ?_ | refine rG 25 (Calm.bin rfl rfl (bin_bool (bin_gtr _ _) (decide_eq_true q4))) ?_
          refine rC ((by first | exact Calm.pickT rfl rfl | exact Calm.pickF rfl rfl)) ?_
          refine rC (Calm.move rfl) ?_
          first | refine rS 29 ?_ | refine rU 29 ?_ | refine rG 29 (Calm.move rfl) ?_
          first | refine rS 29 ?_ | refine rU 29 ?_ | refine rG 29 (Calm.move rfl) ?_
          first | refine rS 29 ?_ | refine rU 29 ?_ | refine rG 29 (Calm.bin rfl rfl b_sub_i64) ?_
          first | refine rS 29 ?_ | refine rU 29 ?_ | refine rG 29 (Calm.bin rfl rfl b_gtr) ?_
          refine rC ((by first | exact Calm.pickT rfl rfl | exact Calm.pickF rfl rfl)) ?_
          refine rC (Calm.assign rfl) ?_
          refine arun_nil ?_
          refine athen_n ?_
          refine AWP.sub [(0, _), (1, _), (2, _), (3, _), (8, _), (9, _)] ⟨rfl, rfl, rfl, rfl, rfl, rfl, trivial⟩ ?_
          refine AWP.condT rfl (by first | rfl | (simp; done) | (simp; omega)) ?_
          refine AWP.seq ?_
          refine AWP.region ?_
          refine rC (Calm.assign rfl) ?_
          refine arun_nil ?_
          refine athen_n ?_
          refine AWP.ret ?_
          refine ain_ret ?_
          refine athen_ret ?_
          refine ⟨_, T, ⟨_, _, rfl, rfl, rfl⟩, less_, ?_⟩
          exact ⟨rfl, rfl⟩
        · by_cases q5 : 64 - g < n
          · rw [if_pos (.inr (.inr (.inr (.inr q5))))]
            refine ACall.enter (args := [.pointer (some ⟨a, 0, none⟩), .int .i64 i, .int .i64 g, .int .i64 n]) (rs := [.tmp 8]) 45 [(0, .pointer (some ⟨a, 0, none⟩)), (1, .int .i64 i), (2, .int .i64 g), (3, .int .i64 n)] Try.func98 rfl rfl (Nat.le_of_ble_eq_true rfl) rfl ⟨rfl, rfl, rfl, rfl, trivial⟩ ?_
            refine AWP.seq ?_
            refine AWP.region ?_
            refine rC (Calm.assign rfl) ?_
            refine arun_nil ?_
            refine athen_n ?_
            refine AWP.seq ?_
            refine AWP.block ?_
            refine AWP.seq ?_
            refine AWP.region ?_
            refine rC (Calm.move rfl) ?_
            refine rC (Calm.bin rfl rfl (bin_bool (bin_lss _ _) (decide_eq_false q1))) ?_
            refine rC (Calm.move rfl) ?_
            first | refine rS 12 ?_ | refine rU 12 ?_ | refine rG 12 (Calm.move rfl) ?_
            first | refine rS 12 ?_ | refine rU 12 ?_ | refine rG 12 (Calm.move rfl) ?_
            first | refine rS 12 ?_ | refine rU 12 ?_ | refine rG 12 (Calm.nilCheck rfl) ?_
            first | refine rS 12 ?_ | refine rU 12 ?_ | refine rG 12 (Calm.fieldAddr ty_field_135_1 rfl) ?_
            first | refine rS 12 ?_ | refine rU 12 ?_ | refine rG 12 (ld_ ty_plain_57 rfl) ?_
            first | refine rS 12 ?_ | refine rU 12 ?_ | refine rG 12 (Calm.lenSl Try.underlying57 rfl) ?_
            first | refine rS 12 ?_ | refine rU 12 ?_ | refine rG 12 (Calm.bin rfl rfl (bin_bool (bin_geq _ _) (decide_eq_false q2))) ?_
            refine rC ((by first | exact Calm.pickT rfl rfl | exact Calm.pickF rfl rfl)) ?_
            refine rC (Calm.move rfl) ?_
            first | refine rS 21 ?_ | refine rU 21 ?_ | refine rG 21 (Calm.move rfl) ?_
            first | refine rS 21 ?_ | refine rU 21 ?_ | refine rG 21 (Calm.bin rfl rfl (bin_bool (bin_lss _ _) (decide_eq_false q3))) ?_
            refine rC ((by first | exact Calm.pickT rfl rfl | exact Calm.pickF rfl rfl)) ?_
            refine rC (Calm.move rfl) ?_
            first | refine rS 25 ?_ | refine rU 25 ?_ | refine rG 25 (Calm.move rfl) ?_
            first | refine rS 25 ?_ | refine rU 25 ?_ | refine rG 25 (Calm.bin rfl rfl (bin_bool (bin_gtr _ _) (decide_eq_false q4))) ?_
            refine rC ((by first | exact Calm.pickT rfl rfl | exact Calm.pickF rfl rfl)) ?_
            refine rC (Calm.move rfl) ?_
            first | refine rS 29 ?_ | refine rU 29 ?_ | refine rG 29 (Calm.move rfl) ?_
            first | refine rS 29 ?_ | refine rU 29 ?_ | refine rG 29 (Calm.move rfl) ?_
            first | refine rS 29 ?_ | refine rU 29 ?_ | refine rG 29 (Calm.bin rfl rfl b_sub_i64) ?_
            first | refine rS 29 ?_ | refine rU 29 ?_ | refine rG 29 (Calm.bin rfl rfl (bin_bool (bin_gtr _ _) (decide_eq_true q5))) ?_
            refine rC ((by first | exact Calm.pickT rfl rfl | exact Calm.pickF rfl rfl)) ?_
            refine rC (Calm.assign rfl) ?_
            refine arun_nil ?_
            refine athen_n ?_
            refine AWP.sub [(0, _), (1, _), (2, _), (3, _), (8, _), (9, _)] ⟨rfl, rfl, rfl, rfl, rfl, rfl, trivial⟩ ?_
            refine AWP.condT rfl (by first | rfl | (simp; done) | (simp; omega)) ?_
            refine AWP.seq ?_
            refine AWP.region ?_
            refine rC (Calm.assign rfl) ?_
            refine arun_nil ?_
            refine athen_n ?_
            refine AWP.ret ?_
            refine ain_ret ?_
            refine athen_ret ?_
            refine ⟨_, T, ⟨_, _, rfl, rfl, rfl⟩, less_, ?_⟩
            exact ⟨rfl, rfl⟩
          · rw [if_neg (fun h => h.elim q1 (fun h => h.elim q2 (fun h => h.elim q3 (fun h => h.elim q4 q5))))]
            obtain ⟨j, rfl⟩ : ∃ j : Nat, i = (j : Int) := ⟨_, (Int.toNat_of_nonneg (by omega)).symm⟩
            rw [Int.toNat_natCast]
            have hj : j < x.fr.length := by omega
            have hk := sl_at hF j hj
            rw [← atF_eq hj] at hk
            obtain ⟨_, _, _, kp, _, _, _⟩ := kn_fr hk
            by_cases q6 : (atF x j).pins = 0
            · rw [if_pos q6]
              refine ACall.enter (args := [.pointer (some ⟨a, 0, none⟩), .int .i64 (j : Nat), .int .i64 g, .int .i64 n]) (rs := [.tmp 8]) 45 [(0, .pointer (some ⟨a, 0, none⟩)), (1, .int .i64 (j : Nat)), (2, .int .i64 g), (3, .int .i64 n)] Try.func98 rfl rfl (Nat.le_of_ble_eq_true rfl) rfl ⟨rfl, rfl, rfl, rfl, trivial⟩ ?_
              refine AWP.seq ?_
              refine AWP.region ?_
              refine rC (Calm.assign rfl) ?_
              refine arun_nil ?_
              refine athen_n ?_
              refine AWP.seq ?_
              refine AWP.block ?_
              refine AWP.seq ?_
              refine AWP.region ?_
              refine rC (Calm.move rfl) ?_
              refine rC (Calm.bin rfl rfl (bin_bool (bin_lss _ _) (decide_eq_false q1))) ?_
              refine rC (Calm.move rfl) ?_
              first | refine rS 12 ?_ | refine rU 12 ?_ | refine rG 12 (Calm.move rfl) ?_
              first | refine rS 12 ?_ | refine rU 12 ?_ | refine rG 12 (Calm.move rfl) ?_
              first | refine rS 12 ?_ | refine rU 12 ?_ | refine rG 12 (Calm.nilCheck rfl) ?_
              first | refine rS 12 ?_ | refine rU 12 ?_ | refine rG 12 (Calm.fieldAddr ty_field_135_1 rfl) ?_
              first | refine rS 12 ?_ | refine rU 12 ?_ | refine rG 12 (ld_ ty_plain_57 rfl) ?_
              first | refine rS 12 ?_ | refine rU 12 ?_ | refine rG 12 (Calm.lenSl Try.underlying57 rfl) ?_
              first | refine rS 12 ?_ | refine rU 12 ?_ | refine rG 12 (Calm.bin rfl rfl (bin_bool (bin_geq _ _) (decide_eq_false q2))) ?_
              refine rC ((by first | exact Calm.pickT rfl rfl | exact Calm.pickF rfl rfl)) ?_
              refine rC (Calm.move rfl) ?_
              first | refine rS 21 ?_ | refine rU 21 ?_ | refine rG 21 (Calm.move rfl) ?_
              first | refine rS 21 ?_ | refine rU 21 ?_ | refine rG 21 (Calm.bin rfl rfl (bin_bool (bin_lss _ _) (decide_eq_false q3))) ?_
              refine rC ((by first | exact Calm.pickT rfl rfl | exact Calm.pickF rfl rfl)) ?_
              refine rC (Calm.move rfl) ?_
              first | refine rS 25 ?_ | refine rU 25 ?_ | refine rG 25 (Calm.move rfl) ?_
              first | refine rS 25 ?_ | refine rU 25 ?_ | refine rG 25 (Calm.bin rfl rfl (bin_bool (bin_gtr _ _) (decide_eq_false q4))) ?_
              refine rC ((by first | exact Calm.pickT rfl rfl | exact Calm.pickF rfl rfl)) ?_
              refine rC (Calm.move rfl) ?_
              first | refine rS 29 ?_ | refine rU 29 ?_ | refine rG 29 (Calm.move rfl) ?_
              first | refine rS 29 ?_ | refine rU 29 ?_ | refine rG 29 (Calm.move rfl) ?_
              first | refine rS 29 ?_ | refine rU 29 ?_ | refine rG 29 (Calm.bin rfl rfl b_sub_i64) ?_
              first | refine rS 29 ?_ | refine rU 29 ?_ | refine rG 29 (Calm.bin rfl rfl (bin_bool (bin_gtr _ _) (decide_eq_false q5))) ?_
              refine rC ((by first | exact Calm.pickT rfl rfl | exact Calm.pickF rfl rfl)) ?_
              refine rC (Calm.assign rfl) ?_
              refine arun_nil ?_
              refine athen_n ?_
              refine AWP.sub [(0, _), (1, _), (2, _), (3, _), (8, _), (9, _)] ⟨rfl, rfl, rfl, rfl, rfl, rfl, trivial⟩ ?_
              refine AWP.condF rfl (by first | rfl | (simp; done) | (simp; omega)) ?_
              refine AWP.seq ?_
              refine AWP.region ?_
              refine rC (Calm.move rfl) ?_
              refine rC (Calm.nilCheck rfl) ?_
              refine rC (Calm.fieldAddr ty_field_135_1 rfl) ?_
              refine rC (ld_ ty_plain_57 rfl) ?_
              refine rC (Calm.move rfl) ?_
              refine rC (Calm.indexS Try.underlying57 ty_size_110 rfl rfl (by omega) (by omega)) ?_
              refine rC (Calm.fieldAddr ty_field_110_3 rfl) ?_
              refine rC (ld_ ty_plain_3 rfl) ?_
              refine rC (Calm.bin rfl rfl (bin_bool (bin_eql _ _) (decide_eq_true q6))) ?_
              refine rC (Calm.assign rfl) ?_
              refine arun_nil ?_
              refine athen_n ?_
              refine AWP.sub [(0, _), (1, _), (2, _), (3, _), (8, _), (9, _), (35, _)] ⟨rfl, rfl, rfl, rfl, rfl, rfl, rfl, trivial⟩ ?_
              refine AWP.condT rfl (by first | rfl | (simp; done) | (simp; omega)) ?_
              refine AWP.seq ?_
              refine AWP.region ?_
              refine rC (Calm.assign rfl) ?_
              refine arun_nil ?_
              refine athen_n ?_
              refine AWP.ret ?_
              refine ain_ret ?_
              refine athen_ret ?_
              refine ⟨_, T, ⟨_, _, rfl, rfl, rfl⟩, less_, ?_⟩
              exact ⟨rfl, rfl⟩
            · rw [if_neg q6]
              refine ACall.enter (args := [.pointer (some ⟨a, 0, none⟩), .int .i64 (j : Nat), .int .i64 g, .int .i64 n]) (rs := [.tmp 8]) 45 [(0, .pointer (some ⟨a, 0, none⟩)), (1, .int .i64 (j : Nat)), (2, .int .i64 g), (3, .int .i64 n)] Try.func98 rfl rfl (Nat.le_of_ble_eq_true rfl) rfl ⟨rfl, rfl, rfl, rfl, trivial⟩ ?_
              refine AWP.seq ?_
              refine AWP.region ?_
              refine rC (Calm.assign rfl) ?_
              refine arun_nil ?_
              refine athen_n ?_
              refine AWP.seq ?_
              refine AWP.block ?_
              refine AWP.seq ?_
              refine AWP.region ?_
              refine rC (Calm.move rfl) ?_
              refine rC (Calm.bin rfl rfl (bin_bool (bin_lss _ _) (decide_eq_false q1))) ?_
              refine rC (Calm.move rfl) ?_
              first | refine rS 12 ?_ | refine rU 12 ?_ | refine rG 12 (Calm.move rfl) ?_
              first | refine rS 12 ?_ | refine rU 12 ?_ | refine rG 12 (Calm.move rfl) ?_
              first | refine rS 12 ?_ | refine rU 12 ?_ | refine rG 12 (Calm.nilCheck rfl) ?_
              first | refine rS 12 ?_ | refine rU 12 ?_ | refine rG 12 (Calm.fieldAddr ty_field_135_1 rfl) ?_
              first | refine rS 12 ?_ | refine rU 12 ?_ | refine rG 12 (ld_ ty_plain_57 rfl) ?_
              first | refine rS 12 ?_ | refine rU 12 ?_ | refine rG 12 (Calm.lenSl Try.underlying57 rfl) ?_
              first | refine rS 12 ?_ | refine rU 12 ?_ | refine rG 12 (Calm.bin rfl rfl (bin_bool (bin_geq _ _) (decide_eq_false q2))) ?_
              refine rC ((by first | exact Calm.pickT rfl rfl | exact Calm.pickF rfl rfl)) ?_
              refine rC (Calm.move rfl) ?_
              first | refine rS 21 ?_ | refine rU 21 ?_ | refine rG 21 (Calm.move rfl) ?_
              first | refine rS 21 ?_ | refine rU 21 ?_ | refine rG 21 (Calm.bin rfl rfl (bin_bool (bin_lss _ _) (decide_eq_false q3))) ?_
              refine rC ((by first | exact Calm.pickT rfl rfl | exact Calm.pickF rfl rfl)) ?_
              refine rC (Calm.move rfl) ?_
              first | refine rS 25 ?_ | refine rU 25 ?_ | refine rG 25 (Calm.move rfl) ?_
              first | refine rS 25 ?_ | refine rU 25 ?_ | refine rG 25 (Calm.bin rfl rfl (bin_bool (bin_gtr _ _) (decide_eq_false q4))) ?_
              refine rC ((by first | exact Calm.pickT rfl rfl | exact Calm.pickF rfl rfl)) ?_
              refine rC (Calm.move rfl) ?_
              first | refine rS 29 ?_ | refine rU 29 ?_ | refine rG 29 (Calm.move rfl) ?_
              first | refine rS 29 ?_ | refine rU 29 ?_ | refine rG 29 (Calm.move rfl) ?_
              first | refine rS 29 ?_ | refine rU 29 ?_ | refine rG 29 (Calm.bin rfl rfl b_sub_i64) ?_
              first | refine rS 29 ?_ | refine rU 29 ?_ | refine rG 29 (Calm.bin rfl rfl (bin_bool (bin_gtr _ _) (decide_eq_false q5))) ?_
              refine rC ((by first | exact Calm.pickT rfl rfl | exact Calm.pickF rfl rfl)) ?_
              refine rC (Calm.assign rfl) ?_
              refine arun_nil ?_
              refine athen_n ?_
              refine AWP.sub [(0, _), (1, _), (2, _), (3, _), (8, _), (9, _)] ⟨rfl, rfl, rfl, rfl, rfl, rfl, trivial⟩ ?_
              refine AWP.condF rfl (by first | rfl | (simp; done) | (simp; omega)) ?_
              refine AWP.seq ?_
              refine AWP.region ?_
              refine rC (Calm.move rfl) ?_
              refine rC (Calm.nilCheck rfl) ?_
              refine rC (Calm.fieldAddr ty_field_135_1 rfl) ?_
              refine rC (ld_ ty_plain_57 rfl) ?_
              refine rC (Calm.move rfl) ?_
              refine rC (Calm.indexS Try.underlying57 ty_size_110 rfl rfl (by omega) (by omega)) ?_
              refine rC (Calm.fieldAddr ty_field_110_3 rfl) ?_
              refine rC (ld_ ty_plain_3 rfl) ?_
              refine rC (Calm.bin rfl rfl (bin_bool (bin_eql _ _) (decide_eq_false q6))) ?_
              refine rC (Calm.assign rfl) ?_
              refine arun_nil ?_
              refine athen_n ?_
              refine AWP.sub [(0, _), (1, _), (2, _), (3, _), (8, _), (9, _), (35, _)] ⟨rfl, rfl, rfl, rfl, rfl, rfl, rfl, trivial⟩ ?_
              refine AWP.condF rfl (by first | rfl | (simp; done) | (simp; omega)) ?_
              refine AWP.skip ?_
              refine ain_n ?_
              refine athen_n ?_
              refine AWP.seq ?_
              refine AWP.region ?_
              refine rC (Calm.assign rfl) ?_
              refine arun_nil ?_
              refine athen_n ?_
              refine AWP.ret ?_
              refine ⟨_, T, ⟨_, _, rfl, rfl, rfl⟩, less_, ?_⟩
              exact ⟨rfl, rfl⟩
theorem pl_LookA (a p b c : Nat) (x : Pl) (j : Nat) (k : Int) (T : Mem) (hA : T.own a = some (arB p b c x k)) (hF : Sl 7 frF T (.slice (some ⟨b, 0, none⟩) x.fr.length c) x.fr) (hj : j < x.fr.length) :
    ACall Try.prog 100 #[.pointer (some ⟨a, 0, none⟩), .int .i64 (j : Nat)] T fun r S' => r = .string (atF x j).data ∧ S' = T := by
  have hk := sl_at hF j hj
  rw [← atF_eq hj] at hk
  obtain ⟨_, _, kp, _, _, _, _⟩ := kn_fr hk
  unfold arB at hA
  refine ACall.enter (args := [.pointer (some ⟨a, 0, none⟩), .int .i64 (j : Nat)]) (rs := [.tmp 4]) 13 [(0, .pointer (some ⟨a, 0, none⟩)), (1, .int .i64 (j : Nat))] Try.func100 rfl rfl (Nat.le_of_ble_eq_true rfl) rfl ⟨rfl, rfl, trivial⟩ ?_
  refine AWP.seq ?_
  refine AWP.region ?_
  refine rC (Calm.assign rfl) ?_
  refine arun_nil ?_
  refine athen_n ?_
  refine AWP.seq ?_
  refine AWP.region ?_
  refine rC (Calm.move rfl) ?_
  refine rC (Calm.nilCheck rfl) ?_
  refine rC (Calm.fieldAddr ty_field_135_1 rfl) ?_
  refine rC (ld_ ty_plain_57 rfl) ?_
  refine rC (Calm.move rfl) ?_
  refine rC (Calm.indexS Try.underlying57 ty_size_110 rfl rfl (by omega) (by omega)) ?_
  refine rC (Calm.fieldAddr ty_field_110_2 rfl) ?_
  refine rC (ld_ ty_plain_9 rfl) ?_
  refine rC (Calm.assign rfl) ?_
  refine arun_nil ?_
  refine athen_n ?_
  refine AWP.sub [(0, _), (1, _), (4, _)] ⟨rfl, rfl, rfl, trivial⟩ ?_
  refine AWP.ret ?_
  refine ⟨_, T, ⟨_, _, rfl, rfl, rfl⟩, less_, ?_⟩
  exact ⟨rfl, rfl⟩
end Go.Proofs.Ytkeiphkccnfhoaa
namespace Go.Proofs.Ytkeiphkccnfhoaa
open Go.RowKit
open Mv Disk
set_option linter.unusedVariables false
set_option linter.unusedSimpArgs false
set_option maxRecDepth 4000
theorem rd_Named (s : ByteArray) (S : Mem) : ACall Try.prog 49 #[.string s] S fun r S' => r = .bool (decide (nm s)) ∧ S' = S := by
  by_cases h0 : s.size = 0
  · have e : s = ByteArray.empty := (size0 s).2 h0
    refine ACall.enter (args := [.string s]) (rs := [.tmp 2]) 10 [(0, .string s)] Try.func49 rfl rfl (Nat.le_of_ble_eq_true rfl) rfl ⟨rfl, trivial⟩ ?_
    refine AWP.seq ?_
    refine AWP.region ?_
    refine rC (Calm.assign rfl) ?_
    refine arun_nil ?_
    refine athen_n ?_
    refine AWP.seq ?_
    refine AWP.region ?_
    refine rC (Calm.move rfl) ?_
    refine rC (Calm.bin rfl rfl (bin_bool (bin_str_neq _ _) (bnot_dec_false e))) ?_
    refine rC (Calm.move rfl) ?_
    first | refine rS 5 ?_ | refine rU 5 ?_ | refine rG 5 (Calm.move rfl) ?_
    first | refine rS 5 ?_ | refine rU 5 ?_ | refine rG 5 (Calm.lenStr (strT_spec ty_str_9) rfl) ?_
    first | refine rS 5 ?_ | refine rU 5 ?_ | refine rG 5 (Calm.bin rfl rfl b_leq) ?_
    refine rC ((by first | exact Calm.pickT rfl rfl | exact Calm.pickF rfl rfl)) ?_
    refine rC (Calm.assign rfl) ?_
    refine arun_nil ?_
    refine athen_n ?_
    refine AWP.sub [(0, _), (2, _)] ⟨rfl, rfl, trivial⟩ ?_
    refine AWP.ret ?_
    refine ⟨_, S, ⟨_, _, rfl, rfl, rfl⟩, less_, ?_⟩
    exact ⟨congrArg Value.bool (decide_eq_false (fun h => h.1 h0)).symm, rfl⟩
  · have e : ¬ s = ByteArray.empty := fun h => h0 ((size0 s).1 h)
    refine ACall.enter (args := [.string s]) (rs := [.tmp 2]) 10 [(0, .string s)] Try.func49 rfl rfl (Nat.le_of_ble_eq_true rfl) rfl ⟨rfl, trivial⟩ ?_
    refine AWP.seq ?_
    refine AWP.region ?_
    refine rC (Calm.assign rfl) ?_
    refine arun_nil ?_
    refine athen_n ?_
    refine AWP.seq ?_
    refine AWP.region ?_
    refine rC (Calm.move rfl) ?_
    refine rC (Calm.bin rfl rfl (bin_bool (bin_str_neq _ _) (bnot_dec_true e))) ?_
    refine rC (Calm.move rfl) ?_
    first | refine rS 5 ?_ | refine rU 5 ?_ | refine rG 5 (Calm.move rfl) ?_
    first | refine rS 5 ?_ | refine rU 5 ?_ | refine rG 5 (Calm.lenStr (strT_spec ty_str_9) rfl) ?_
    first | refine rS 5 ?_ | refine rU 5 ?_ | refine rG 5 (Calm.bin rfl rfl b_leq) ?_
    refine rC ((by first | exact Calm.pickT rfl rfl | exact Calm.pickF rfl rfl)) ?_
    refine rC (Calm.assign rfl) ?_
    refine arun_nil ?_
    refine athen_n ?_
    refine AWP.sub [(0, _), (2, _)] ⟨rfl, rfl, trivial⟩ ?_
    refine AWP.ret ?_
    refine ⟨_, S, ⟨_, _, rfl, rfl, rfl⟩, less_, ?_⟩
    exact ⟨congrArg Value.bool (decide_eq_decide.2 (by unfold nm; omega)), rfl⟩
theorem rd_Find (v : Value) (l : List Ext) (s : ByteArray) (S : Mem) (hl : Sl 2 extF S v l) (ha : Asc l) :
    ACall Try.prog 50 #[v, .string s] S fun r S' => r = .int .i64 (fnd l s) ∧ S' = S := by
  obtain ⟨a, cap, rfl, h1, h2, h3⟩ := id hl
  refine ACall.enter (args := [.slice a l.length cap, .string s]) (rs := [.tmp 4]) 20 [(0, .slice a l.length cap), (1, .string s)] Try.func50 rfl rfl (Nat.le_of_ble_eq_true rfl) rfl ⟨rfl, rfl, trivial⟩ ?_
  refine AWP.seq ?_
  refine AWP.region ?_
  refine rC (Calm.assign rfl) ?_
  refine arun_nil ?_
  refine athen_n ?_
  refine AWP.seq ?_
  refine AWP.seq ?_
  refine AWP.region ?_
  refine rC (Calm.move rfl) ?_
  refine rC (Calm.lenSl Try.underlying22 rfl) ?_
  refine rC (Calm.move rfl) ?_
  refine arun_nil ?_
  refine athen_n ?_
  refine AWP.block ?_
  refine AWP.loop (X := Nat) (fun x => [(1, .string s), (7, .slice a l.length cap), (8, .int .i64 l.length), (9, .int .i64 x)]) (fun x => S) (fun x => x ≤ l.length ∧ ∀ j (h : j < l.length), j < x → l[j].1 ≠ s) (fun x => l.length - x) (0) ⟨rfl, rfl, rfl, rfl, trivial⟩ (Mem.Less.refl _) (⟨Nat.zero_le _, fun j _ h => absurd h (Nat.not_lt_zero _)⟩) ?_
  rintro i ⟨hi, hall⟩
  (try dsimp only at *)
  refine AWP.seq ?_
  refine AWP.region ?_
  refine rC (Calm.bin rfl rfl b_lss) ?_
  refine arun_nil ?_
  refine athen_n ?_
  refine AWP.seq ?_
  refine AWP.condB rfl (fun hc => ?_) (fun hc => ?_)
  · have hc : i < l.length := by have := of_decide_eq_true hc; omega
    obtain ⟨b, off, rfl, hk⟩ := h3.resolve_left (fun e => by subst e; simp at hc)
    have hki := hk i hc
    unfold extF at hki
    refine AWP.skip ?_
    refine athen_n ?_
    refine AWP.seq ?_
    refine AWP.block ?_
    refine AWP.seq ?_
    refine AWP.region ?_
    refine rC (Calm.move rfl) ?_
    refine rC (Calm.indexS Try.underlying22 ty_size_54 rfl rfl (by omega) (by omega)) ?_
    refine rC (ldA_ (cs := [_, _]) ty_agg_54 ty_size_54 rfl) ?_
    refine ARun.alloc (lit_lt rfl) ty_zero_54 ?_
    intro b6 f6
    have g6 := f6
    repeat ((with_reducible replace g6 := fresh_set g6); obtain ⟨g6, _⟩ := g6)
    (try simp only [List.length_cons, List.length_nil, Nat.zero_add, Nat.reduceAdd])
    refine rC (Calm.assign rfl) ?_
    first | refine ARun.storeAll rfl rfl ty_size_54 own_ rfl rfl ?_ | refine ARun.store rfl rfl ty_size_54 own_ lens_ rfl ?_
    (try simp only [Mem.set_set, List.set_cons_zero, List.set_cons_succ, Nat.zero_add, Nat.reduceAdd])
    refine arun_nil ?_
    refine athen_n ?_
    refine AWP.sub [(1, _), (7, _), (8, _), (9, _), (10, _), (6, _), (5, _)] ⟨rfl, rfl, rfl, rfl, rfl, rfl, rfl, trivial⟩ ?_
    refine AWP.seq ?_
    refine AWP.region ?_
    refine rC (Calm.fieldAddr ty_field_54_0 rfl) ?_
    refine rC (ld_ ty_plain_9 rfl) ?_
    refine rC (Calm.move rfl) ?_
    refine rC (Calm.bin rfl rfl (bin_str_eql _ _)) ?_
    refine arun_nil ?_
    refine athen_n ?_
    refine AWP.sub [(1, _), (7, _), (8, _), (9, _), (10, _), (6, _), (5, _), (17, _)] ⟨rfl, rfl, rfl, rfl, rfl, rfl, rfl, rfl, trivial⟩ ?_
    refine AWP.condB rfl (fun hb => ?_) (fun hb => ?_)
    · refine AWP.seq ?_
      refine AWP.region ?_
      refine rC (Calm.move rfl) ?_
      refine rC (Calm.assign rfl) ?_
      refine arun_nil ?_
      refine athen_n ?_
      refine AWP.sub [(1, _), (7, _), (8, _), (9, _), (10, _), (6, _), (5, _), (17, _), (4, _)] ⟨rfl, rfl, rfl, rfl, rfl, rfl, rfl, rfl, rfl, trivial⟩ ?_
      refine AWP.ret ?_
      refine ain_ret ?_
      refine athen_ret ?_
      refine athen_ret ?_
      refine ain_ret ?_
      refine athen_ret ?_
      refine ⟨_, S, ⟨_, _, rfl, rfl, rfl⟩, less_, ?_⟩
      exact ⟨by rw [fnd_at ha hc (of_decide_eq_true hb)]; rfl, rfl⟩
    · refine AWP.skip ?_
      refine ain_n ?_
      refine athen_n ?_
      refine AWP.region ?_
      refine rC (Calm.bin rfl rfl b_add_i64) ?_
      refine rC (Calm.move rfl) ?_
      refine arun_nil ?_
      refine athen_n ?_
      refine ⟨i + 1, ?_, ?_, ?_, ?_⟩
      all_goals (try dsimp only)
      · exact ⟨rfl, rfl, rfl, rfl, trivial⟩
      · exact less_
      · exact ⟨hc, fun j h hj => by rcases Nat.lt_or_ge j i with h' | h'; exact hall j h h'; obtain rfl : j = i := (by omega); exact of_decide_eq_false hb⟩
      · omega
  · have hc : i = l.length := by have := of_decide_eq_false hc; omega
    refine AWP.exit ?_
    refine athen_exit ?_
    refine athen_exit ?_
    refine ain_same ?_
    refine athen_n ?_
    refine AWP.seq ?_
    refine AWP.region ?_
    refine rC (Calm.assign rfl) ?_
    refine arun_nil ?_
    refine athen_n ?_
    refine AWP.ret ?_
    refine ⟨_, S, ⟨_, _, rfl, rfl, rfl⟩, less_, ?_⟩
    exact ⟨by rw [fnd_none (fun j h => hall j h (by omega))]; rfl, rfl⟩
theorem rd_used (v : Value) (l : List Ext) (S : Mem) (hl : Sl 2 extF S v l) (hu : used l ≤ 9223372036854775807) (hz : ∀ x ∈ l, x.2.size ≤ 9223372036854775807) :
    ACall Try.prog 51 #[v] S fun r S' => r = .int .i64 (used l : Nat) ∧ S' = S := by
  obtain ⟨a, cap, rfl, h1, h2, h3⟩ := id hl
  refine ACall.enter (args := [.slice a l.length cap]) (rs := [.tmp 2]) 20 [(0, .slice a l.length cap)] Try.func51 rfl rfl (Nat.le_of_ble_eq_true rfl) rfl ⟨rfl, trivial⟩ ?_
  refine AWP.seq ?_
  refine AWP.region ?_
  refine rC (Calm.assign rfl) ?_
  refine arun_nil ?_
  refine athen_n ?_
  refine AWP.seq ?_
  refine AWP.region ?_
  refine rC (Calm.assign rfl) ?_
  refine arun_nil ?_
  refine athen_n ?_
  refine AWP.seq ?_
  refine AWP.seq ?_
  refine AWP.region ?_
  refine rC (Calm.move rfl) ?_
  refine rC (Calm.lenSl Try.underlying22 rfl) ?_
  refine rC (Calm.move rfl) ?_
  refine arun_nil ?_
  refine athen_n ?_
  refine AWP.block ?_
  refine AWP.loop (X := Nat) (fun x => [(3, .int .i64 (used (l.take x) : Nat)), (6, .slice a l.length cap), (7, .int .i64 l.length), (8, .int .i64 x)]) (fun x => S) (fun x => x ≤ l.length) (fun x => l.length - x) (0) ⟨some_int (by simp [used]), rfl, rfl, rfl, trivial⟩ (Mem.Less.refl _) (Nat.zero_le _) ?_
  rintro i hi
  (try dsimp only at *)
  refine AWP.seq ?_
  refine AWP.region ?_
  refine rC (Calm.bin rfl rfl b_lss) ?_
  refine arun_nil ?_
  refine athen_n ?_
  refine AWP.seq ?_
  refine AWP.condB rfl (fun hc => ?_) (fun hc => ?_)
  · have hc : i < l.length := by have := of_decide_eq_true hc; omega
    obtain ⟨b, off, rfl, hk⟩ := h3.resolve_left (fun e => by subst e; simp at hc)
    have hki := hk i hc
    have hut := used_take hc
    have hul := used_take_le l (i + 1)
    have hsx := hz _ (List.getElem_mem hc)
    generalize l[i] = x at *
    unfold extF at hki
    unfold sec at hut
    refine AWP.skip ?_
    refine athen_n ?_
    refine AWP.seq ?_
    refine AWP.block ?_
    refine AWP.seq ?_
    refine AWP.region ?_
    refine rC (Calm.indexS Try.underlying22 ty_size_54 rfl rfl (by omega) (by omega)) ?_
    refine rC (ldA_ (cs := [_, _]) ty_agg_54 ty_size_54 rfl) ?_
    refine ARun.alloc (lit_lt rfl) ty_zero_54 ?_
    intro b5 f5
    have g5 := f5
    repeat ((with_reducible replace g5 := fresh_set g5); obtain ⟨g5, _⟩ := g5)
    (try simp only [List.length_cons, List.length_nil, Nat.zero_add, Nat.reduceAdd])
    first | refine ARun.storeAll rfl rfl ty_size_54 own_ rfl rfl ?_ | refine ARun.store rfl rfl ty_size_54 own_ lens_ rfl ?_
    (try simp only [Mem.set_set, List.set_cons_zero, List.set_cons_succ, Nat.zero_add, Nat.reduceAdd])
    refine arun_nil ?_
    refine athen_n ?_
    refine AWP.sub [(3, _), (6, _), (7, _), (8, _), (9, _), (5, _)] ⟨rfl, rfl, rfl, rfl, rfl, rfl, trivial⟩ ?_
    refine AWP.region ?_
    refine rC (Calm.move rfl) ?_
    refine rC (Calm.fieldAddr ty_field_54_1 rfl) ?_
    refine rC (ld_ ty_plain_9 rfl) ?_
    refine rC (Calm.lenStr (strT_spec ty_str_9) rfl) ?_
    refine rC (Calm.bin rfl rfl b_quo_i64) ?_
    refine rC (Calm.bin rfl rfl b_add_i64) ?_
    refine rC (Calm.assign rfl) ?_
    refine arun_nil ?_
    refine ain_n ?_
    refine athen_n ?_
    refine AWP.sub [(3, _), (6, _), (7, _), (8, _), (9, _), (5, _)] ⟨rfl, rfl, rfl, rfl, rfl, rfl, trivial⟩ ?_
    refine AWP.region ?_
    refine rC (Calm.bin rfl rfl b_add_i64) ?_
    refine rC (Calm.move rfl) ?_
    refine arun_nil ?_
    refine athen_n ?_
    refine ⟨i + 1, ?_, ?_, ?_, ?_⟩
    all_goals (try dsimp only)
    · exact ⟨some_int (by omega), rfl, rfl, rfl, trivial⟩
    · exact less_
    · exact hc
    · omega
  · have hc : i = l.length := by have := of_decide_eq_false hc; omega
    subst hc
    rw [List.take_length]
    refine AWP.exit ?_
    refine athen_exit ?_
    refine athen_exit ?_
    refine ain_same ?_
    refine athen_n ?_
    refine AWP.seq ?_
    refine AWP.region ?_
    refine rC (Calm.move rfl) ?_
    refine rC (Calm.assign rfl) ?_
    refine arun_nil ?_
    refine athen_n ?_
    refine AWP.sub [(3, _), (6, _), (7, _), (8, _), (9, _), (2, _)] ⟨rfl, rfl, rfl, rfl, rfl, rfl, trivial⟩ ?_
    refine AWP.ret ?_
    refine ⟨_, S, ⟨_, _, rfl, rfl, rfl⟩, less_, ?_⟩
    exact ⟨rfl, rfl⟩
end Go.Proofs.Ytkeiphkccnfhoaa
