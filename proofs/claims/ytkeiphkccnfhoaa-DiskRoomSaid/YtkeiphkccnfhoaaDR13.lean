/-
  Disk, the document's side: Sync and Crash.
-/
import Derived.Test.YtkeiphkccnfhoaaDR12
namespace Go.Proofs.Ytkeiphkccnfhoaa
open Go.RowKit
open Mv Disk
set_option linter.unusedVariables false
set_option linter.unusedSimpArgs false
set_option maxRecDepth 4000

def mixK (kp : Nat → Bool) (d : D) (n : Nat) : D := { d with ext := d.ext.map (doneN kp d.waits n) }
theorem mix0 (kp : Nat → Bool) (d : D) : mixK kp d 0 = d := by unfold mixK; rw [doneN_zero]
theorem mix_skip {kp : Nat → Bool} {d : D} {n : Nat} (hn : n < d.waits.length) (hk : kp n = false) : mixK kp d (n + 1) = mixK kp d n := by unfold mixK; rw [doneN_skip hn hk]
theorem mix_facts {d : D} (kp : Nat → Bool) {n : Nat} (hR : Right d) (hn : n < d.waits.length) : ∃ p x, ∃ hp : p < (mixK kp d n).ext.length, (mixK kp d n).ext[p] = x ∧ x.1 = d.waits[n].1 ∧ 0 ≤ d.waits[n].2.1 ∧ 64 * d.waits[n].2.1.toNat + 64 ≤ x.2.size ∧ d.waits[n].2.2.size = 64 ∧ x.2.size ≤ 1048576 ∧ (kp n = true → putD (mixK kp d n) d.waits[n] p x = mixK kp d (n + 1)) := by
  obtain ⟨y, hy, e, h0, h1, h2⟩ := hR.wr _ (List.getElem_mem hn)
  obtain ⟨hlt, he⟩ := (has_pos hR.ex.asc d.waits[n].1).1 (has_iff.2 ⟨y, hy, e⟩)
  have hxy : d.ext[pos d.ext d.waits[n].1] = y := asc_inj hR.ex.asc (List.getElem_mem hlt) hy (by rw [he, e])
  have hsy := right_sec hR hy
  have hsz := acc_size (kp := kp) (right_fit hR hy) n (by omega)
  refine ⟨pos d.ext d.waits[n].1, doneN kp d.waits n y, by unfold mixK; rw [List.length_map]; exact hlt, ?_, e, h0, ?_, h2, ?_, fun hk => ?_⟩
  · unfold mixK; simp only [List.getElem_map]; rw [hxy]
  · show _ ≤ ((accW kp y d.waits n).getD y.2).size
    omega
  · show ((accW kp y d.waits n).getD y.2).size ≤ _
    omega
  · unfold putD mixK
    simp only
    rw [doneN_step hn hk hR.ex.asc hlt he, hxy]
theorem fresh_mix {S : Mem} {d d' : D} {oE oW : Option (Nat × Nat)} {b : Nat} (h : Fresh (dkM S d oE oW) b) : Fresh (dkM S d' oE oW) b := by
  obtain ⟨g, h1⟩ := fresh_outN h
  obtain ⟨g', h2⟩ := fresh_outN g
  exact fresh_outN_mk (fresh_outN_mk g' (fun q c e => Ne.symm (h2 q c e))) (fun q c e => Ne.symm (h1 q c e))
theorem mix_asc {d : D} (hR : Right d) (kp : Nat → Bool) (n : Nat) : Asc (mixK kp d n).ext := asc_map (f := doneN kp d.waits n) (fun _ => rfl) hR.ex.asc
set_option maxHeartbeats 2000000 in
theorem rd_Sync (v : Value) (d : D) (S : Mem) (hd : DkR S v d) (hz : Dz d) :
    ACall Try.prog 32 #[v] S (DkRes (opened d (syncD d)) S) := by
  have hpow := fun M h => rd_power v d M h hz
  have hasw := fun why => rd_as v d why S hd hz
  have hcopy := rd_Copy v d S hd hz.el hz.wl
  obtain ⟨pe, ce, pw, cw, rfl, hE, hW⟩ := id hd
  unfold opened
  rcases openD_or d with ⟨ho, hR⟩ | ⟨ho, hR, hdn⟩ | ⟨ho, hR, hdn⟩ <;> (simp only [ho] at hpow ⊢)
  · have hasw := hasw 2; rw [asD_no hR] at hasw; rw [if_neg (by decide)]
    refine ACall.enter (args := [.agg #[.int .i64 d.size, .slice pe d.ext.length ce, .slice pw d.waits.length cw, .int .i64 d.fuse, .bool d.down]]) (rs := [.cell 2 25, .tmp 3]) 31 [(0, .agg #[.int .i64 d.size, .slice pe d.ext.length ce, .slice pw d.waits.length cw, .int .i64 d.fuse, .bool d.down])] Try.func32 rfl rfl (Nat.le_of_ble_eq_true rfl) rfl ⟨rfl, trivial⟩ ?_
    refine AWP.seq ?_
    refine AWP.region ?_
    refine ARun.boxA (cs := [_, _, _, _, _]) (lit_lt rfl) rfl ?_
    intro b1 f1
    have g1 := f1
    repeat ((with_reducible replace g1 := fresh_set g1); obtain ⟨g1, _⟩ := g1)
    (try simp only [List.length_cons, List.length_nil, Nat.zero_add, Nat.reduceAdd])
    refine ARun.alloc (lit_lt rfl) ty_zero_25 ?_
    intro b2 f2
    have g2 := f2
    repeat ((with_reducible replace g2 := fresh_set g2); obtain ⟨g2, _⟩ := g2)
    (try simp only [List.length_cons, List.length_nil, Nat.zero_add, Nat.reduceAdd])
    refine rC (Calm.assign rfl) ?_
    refine arun_nil ?_
    refine athen_n ?_
    refine AWP.seq ?_
    refine AWP.region ?_
    refine rC (ldA_ (cs := [_, _, _, _, _]) ty_agg_25 ty_size_25 rfl) ?_
    refine ARun.call (lit_lt rfl) go_47 rfl (hpow _ (hd.less less_)) ?_
    rintro _ S1 ⟨rfl, h1⟩
    rw [h1]; clear h1 S1
    refine rC (Calm.assign rfl) ?_
    refine arun_nil ?_
    refine athen_n ?_
    refine AWP.sub [(0, _), (1, _), (2, _), (3, _), (4, _)] ⟨rfl, rfl, rfl, rfl, rfl, trivial⟩ ?_
    refine AWP.seq ?_
    refine AWP.seq ?_
    refine AWP.region ?_
    refine rC (Calm.move rfl) ?_
    refine rC (Calm.bin rfl rfl b_neq) ?_
    refine arun_nil ?_
    refine athen_n ?_
    refine AWP.sub [(0, _), (1, _), (2, _), (3, _), (4, _), (10, _)] ⟨rfl, rfl, rfl, rfl, rfl, rfl, trivial⟩ ?_
    refine AWP.condT rfl (by first | rfl | (simp; done) | (simp; omega)) ?_
    refine AWP.seq ?_
    refine AWP.region ?_
    refine rC (ldA_ (cs := [_, _, _, _, _]) ty_agg_25 ty_size_25 rfl) ?_
    refine rC (Calm.move rfl) ?_
    refine ARun.call (lit_lt rfl) go_48 rfl (((hasw).frame f1).frame f2) ?_
    rintro _ S1 ⟨Sa, ⟨M, ⟨v', rfl, hSM, hdk⟩, fa, hSa⟩, fb, h1⟩
    rw [h1, hSa]; rw [hSa] at fb; clear h1 S1 hSa Sa
    obtain ⟨fbm, nba⟩ := fresh_set fb
    obtain ⟨qe, de, qw, dw, rfl, hE2, hW2⟩ := id hdk
    refine rC (Calm.extract rfl rfl) ?_
    refine rC (Calm.extract rfl rfl) ?_
    first | refine ARun.storeAll rfl rfl ty_size_25 own_ rfl rfl ?_ | refine ARun.store rfl rfl ty_size_25 own_ lens_ rfl ?_
    (try simp only [Mem.set_set, List.set_cons_zero, List.set_cons_succ, Nat.zero_add, Nat.reduceAdd])
    refine rC (Calm.assign rfl) ?_
    refine arun_nil ?_
    refine athen_n ?_
    refine AWP.sub [(0, _), (1, _), (2, _), (3, _), (4, _), (10, _)] ⟨rfl, rfl, rfl, rfl, rfl, rfl, trivial⟩ ?_
    refine AWP.ret ?_
    refine athen_ret ?_
    refine ⟨_, M, ⟨_, _, _, rfl, .inr ⟨ty_agg_25, [_, _, _, _, _], ty_size_25, rds_, rfl⟩, ⟨_, _, rfl, rfl, rfl⟩, rfl⟩, less_, ?_⟩
    exact ⟨_, rfl, hSM, hdk⟩
  · have hasw := hasw 10; rw [asD_ok hR] at hasw; rw [if_neg (by decide)]
    refine ACall.enter (args := [.agg #[.int .i64 d.size, .slice pe d.ext.length ce, .slice pw d.waits.length cw, .int .i64 d.fuse, .bool d.down]]) (rs := [.cell 2 25, .tmp 3]) 31 [(0, .agg #[.int .i64 d.size, .slice pe d.ext.length ce, .slice pw d.waits.length cw, .int .i64 d.fuse, .bool d.down])] Try.func32 rfl rfl (Nat.le_of_ble_eq_true rfl) rfl ⟨rfl, trivial⟩ ?_
    refine AWP.seq ?_
    refine AWP.region ?_
    refine ARun.boxA (cs := [_, _, _, _, _]) (lit_lt rfl) rfl ?_
    intro b1 f1
    have g1 := f1
    repeat ((with_reducible replace g1 := fresh_set g1); obtain ⟨g1, _⟩ := g1)
    (try simp only [List.length_cons, List.length_nil, Nat.zero_add, Nat.reduceAdd])
    refine ARun.alloc (lit_lt rfl) ty_zero_25 ?_
    intro b2 f2
    have g2 := f2
    repeat ((with_reducible replace g2 := fresh_set g2); obtain ⟨g2, _⟩ := g2)
    (try simp only [List.length_cons, List.length_nil, Nat.zero_add, Nat.reduceAdd])
    refine rC (Calm.assign rfl) ?_
    refine arun_nil ?_
    refine athen_n ?_
    refine AWP.seq ?_
    refine AWP.region ?_
    refine rC (ldA_ (cs := [_, _, _, _, _]) ty_agg_25 ty_size_25 rfl) ?_
    refine ARun.call (lit_lt rfl) go_47 rfl (hpow _ (hd.less less_)) ?_
    rintro _ S1 ⟨rfl, h1⟩
    rw [h1]; clear h1 S1
    refine rC (Calm.assign rfl) ?_
    refine arun_nil ?_
    refine athen_n ?_
    refine AWP.sub [(0, _), (1, _), (2, _), (3, _), (4, _)] ⟨rfl, rfl, rfl, rfl, rfl, trivial⟩ ?_
    refine AWP.seq ?_
    refine AWP.seq ?_
    refine AWP.region ?_
    refine rC (Calm.move rfl) ?_
    refine rC (Calm.bin rfl rfl b_neq) ?_
    refine arun_nil ?_
    refine athen_n ?_
    refine AWP.sub [(0, _), (1, _), (2, _), (3, _), (4, _), (10, _)] ⟨rfl, rfl, rfl, rfl, rfl, rfl, trivial⟩ ?_
    refine AWP.condT rfl (by first | rfl | (simp; done) | (simp; omega)) ?_
    refine AWP.seq ?_
    refine AWP.region ?_
    refine rC (ldA_ (cs := [_, _, _, _, _]) ty_agg_25 ty_size_25 rfl) ?_
    refine rC (Calm.move rfl) ?_
    refine ARun.call (lit_lt rfl) go_48 rfl (((hasw).frame f1).frame f2) ?_
    rintro _ S1 ⟨Sa, ⟨M, ⟨v', rfl, hSM, hdk⟩, fa, hSa⟩, fb, h1⟩
    rw [h1, hSa]; rw [hSa] at fb; clear h1 S1 hSa Sa
    obtain ⟨fbm, nba⟩ := fresh_set fb
    obtain ⟨qe, de, qw, dw, rfl, hE2, hW2⟩ := id hdk
    refine rC (Calm.extract rfl rfl) ?_
    refine rC (Calm.extract rfl rfl) ?_
    first | refine ARun.storeAll rfl rfl ty_size_25 own_ rfl rfl ?_ | refine ARun.store rfl rfl ty_size_25 own_ lens_ rfl ?_
    (try simp only [Mem.set_set, List.set_cons_zero, List.set_cons_succ, Nat.zero_add, Nat.reduceAdd])
    refine rC (Calm.assign rfl) ?_
    refine arun_nil ?_
    refine athen_n ?_
    refine AWP.sub [(0, _), (1, _), (2, _), (3, _), (4, _), (10, _)] ⟨rfl, rfl, rfl, rfl, rfl, rfl, trivial⟩ ?_
    refine AWP.ret ?_
    refine athen_ret ?_
    refine ⟨_, M, ⟨_, _, _, rfl, .inr ⟨ty_agg_25, [_, _, _, _, _], ty_size_25, rds_, rfl⟩, ⟨_, _, rfl, rfl, rfl⟩, rfl⟩, less_, ?_⟩
    exact ⟨_, rfl, hSM, hdk⟩
  · rw [if_pos trivial]
    have hrl := right_len hR; have hwl := hR.wl
    refine ACall.enter (args := [.agg #[.int .i64 d.size, .slice pe d.ext.length ce, .slice pw d.waits.length cw, .int .i64 d.fuse, .bool d.down]]) (rs := [.cell 2 25, .tmp 3]) 31 [(0, .agg #[.int .i64 d.size, .slice pe d.ext.length ce, .slice pw d.waits.length cw, .int .i64 d.fuse, .bool d.down])] Try.func32 rfl rfl (Nat.le_of_ble_eq_true rfl) rfl ⟨rfl, trivial⟩ ?_
    refine AWP.seq ?_
    refine AWP.region ?_
    refine ARun.boxA (cs := [_, _, _, _, _]) (lit_lt rfl) rfl ?_
    intro b1 f1
    have g1 := f1
    repeat ((with_reducible replace g1 := fresh_set g1); obtain ⟨g1, _⟩ := g1)
    (try simp only [List.length_cons, List.length_nil, Nat.zero_add, Nat.reduceAdd])
    refine ARun.alloc (lit_lt rfl) ty_zero_25 ?_
    intro b2 f2
    have g2 := f2
    repeat ((with_reducible replace g2 := fresh_set g2); obtain ⟨g2, _⟩ := g2)
    (try simp only [List.length_cons, List.length_nil, Nat.zero_add, Nat.reduceAdd])
    refine rC (Calm.assign rfl) ?_
    refine arun_nil ?_
    refine athen_n ?_
    refine AWP.seq ?_
    refine AWP.region ?_
    refine rC (ldA_ (cs := [_, _, _, _, _]) ty_agg_25 ty_size_25 rfl) ?_
    refine ARun.call (lit_lt rfl) go_47 rfl (hpow _ (hd.less less_)) ?_
    rintro _ S1 ⟨rfl, h1⟩
    rw [h1]; clear h1 S1
    refine rC (Calm.assign rfl) ?_
    refine arun_nil ?_
    refine athen_n ?_
    refine AWP.sub [(0, _), (1, _), (2, _), (3, _), (4, _)] ⟨rfl, rfl, rfl, rfl, rfl, trivial⟩ ?_
    refine AWP.seq ?_
    refine AWP.seq ?_
    refine AWP.region ?_
    refine rC (Calm.move rfl) ?_
    refine rC (Calm.bin rfl rfl b_neq) ?_
    refine arun_nil ?_
    refine athen_n ?_
    refine AWP.sub [(0, _), (1, _), (2, _), (3, _), (4, _), (10, _)] ⟨rfl, rfl, rfl, rfl, rfl, rfl, trivial⟩ ?_
    refine AWP.condF rfl (by first | rfl | (simp; done) | (simp; omega)) ?_
    refine AWP.skip ?_
    refine athen_n ?_
    refine AWP.seq ?_
    refine AWP.region ?_
    refine rC (ldA_ (cs := [_, _, _, _, _]) ty_agg_25 ty_size_25 rfl) ?_
    refine ARun.call (lit_lt rfl) go_12 rfl (((hcopy).frame f1).frame f2) ?_
    rintro _ S1 ⟨Sa, ⟨M, ⟨oE, oW, hok, rfl, hM⟩, fa, hSa⟩, fb, h1⟩
    rw [h1, hSa]; rw [hSa] at fb; clear h1 S1 hSa Sa
    obtain ⟨fbm, nba⟩ := fresh_set fb
    unfold dkV
    obtain ⟨qe, de, hqe⟩ := outV_eq hok.e
    obtain ⟨qw, dw, hqw⟩ := outV_eq hok.w
    rw [hqe, hqw]
    first | refine ARun.storeAll rfl rfl ty_size_25 own_ rfl rfl ?_ | refine ARun.store rfl rfl ty_size_25 own_ lens_ rfl ?_
    (try simp only [Mem.set_set, List.set_cons_zero, List.set_cons_succ, Nat.zero_add, Nat.reduceAdd])
    refine arun_nil ?_
    refine athen_n ?_
    refine AWP.sub [(0, _), (1, _), (2, _), (3, _), (4, _), (10, _)] ⟨rfl, rfl, rfl, rfl, rfl, rfl, trivial⟩ ?_
    rw [set_back M nba]
    have hvi : ∀ i, dkV (mixK allK d i) oE oW = .agg #[.int .i64 d.size, .slice qe d.ext.length de, .slice qw d.waits.length dw, .int .i64 d.fuse, .bool d.down] := fun i => by unfold dkV mixK; simp only [List.length_map]; rw [hqe, hqw]
    have hoki : ∀ i, OkD S (mixK allK d i) oE oW := fun i => okD_as hok (by unfold mixK; simp) rfl
    have hdki : ∀ i, DkR (dkM S (mixK allK d i) oE oW) (.agg #[.int .i64 d.size, .slice qe d.ext.length de, .slice qw d.waits.length dw, .int .i64 d.fuse, .bool d.down]) (mixK allK d i) := fun i => by rw [← hvi i]; exact (hoki i).dk (by unfold mixK; simp; omega) (by show d.waits.length ≤ _; omega)
    have fBi : ∀ i, Fresh (dkM S (mixK allK d i) oE oW) b1 := fun i => by rw [hM] at fa; exact fresh_mix fa
    have hM0 : M = dkM S (mixK allK d 0) oE oW := by rw [mix0]; exact hM
    refine AWP.seq ?_
    refine AWP.seq ?_
    refine AWP.region ?_
    refine rC (Calm.fieldAddr ty_field_25_2 rfl) ?_
    refine rC (ld_ ty_plain_23 rfl) ?_
    refine rC (Calm.lenSl Try.underlying23 rfl) ?_
    refine rC (Calm.move rfl) ?_
    refine arun_nil ?_
    refine athen_n ?_
    refine AWP.sub [(0, _), (1, _), (2, _), (3, _), (4, _), (10, _), (19, _), (20, _), (21, _)] ⟨rfl, rfl, rfl, rfl, rfl, rfl, rfl, rfl, rfl, trivial⟩ ?_
    refine AWP.block ?_
    refine AWP.loop (X := Nat) (fun x => [(1, .pointer (some ⟨b1, 0, none⟩)), (2, .pointer (some ⟨b2, 0, none⟩)), (19, .slice qw d.waits.length dw), (20, .int .i64 d.waits.length), (21, .int .i64 x)]) (fun x => ((dkM S (mixK allK d x) oE oW).set b1 (boxD d (.slice qe d.ext.length de) (.slice qw d.waits.length dw))).set b2 (boxD D0 (.slice none 0 0) (.slice none 0 0))) (fun x => x ≤ d.waits.length) (fun x => d.waits.length - x) (0) ⟨rfl, rfl, rfl, rfl, rfl, trivial⟩ ((by rw [← hM0]; exact Mem.Less.refl _)) (Nat.zero_le _) ?_
    rintro i hi
    (try dsimp only at *)
    have fb1 := fBi i
    have fb2 : Fresh ((dkM S (mixK allK d i) oE oW).set b1 (boxD d (.slice qe d.ext.length de) (.slice qw d.waits.length dw))) b2 := fresh_more (by rw [hM] at fbm; exact fresh_mix fbm) nba
    obtain ⟨_, _, _, _, hxx, hEi, hWi⟩ := id (hdki i)
    rw [show (mixK allK d i).ext.length = d.ext.length from List.length_map _] at hxx hEi
    cases hxx
    have hWi' : Sl 3 wrF (dkM S (mixK allK d i) oE oW) (.slice qw d.waits.length dw) d.waits := hWi
    obtain ⟨_, _, ee, _, _, hW3⟩ := id hWi'
    cases ee
    obtain ⟨fb2m, nb2⟩ := fresh_set fb2
    unfold boxD at fb2 ⊢
    refine AWP.seq ?_
    refine AWP.region ?_
    refine rC (Calm.bin rfl rfl b_lss) ?_
    refine arun_nil ?_
    refine athen_n ?_
    refine AWP.seq ?_
    refine AWP.condB rfl (fun hc => ?_) (fun hc => ?_)
    · have hc : i < d.waits.length := by have := of_decide_eq_true hc; omega
      obtain ⟨bw, ow, hqq, hkw⟩ := hW3.resolve_left (fun e => by rw [e] at hc; simp at hc)
      have hkwi := hkw i hc
      obtain ⟨p, x, hp, hx, hx1, h0, h1, h2, h3, hput⟩ := mix_facts allK hR hc
      have hdone := rd_done (mixK allK d i) d.waits[i] S oE oW (hoki i) (by unfold mixK; simp; omega) (by show d.waits.length ≤ _; omega) (mix_asc hR allK i) p x hp hx hx1 h0 h1 h2 (by omega)
      rw [hvi i] at hdone
      have hvp : dkV (putD (mixK allK d i) d.waits[i] p x) oE oW = .agg #[.int .i64 d.size, .slice qe d.ext.length de, .slice qw d.waits.length dw, .int .i64 d.fuse, .bool d.down] := by rw [← hvi i]; unfold dkV putD; simp only [List.length_set]
      rw [hvp] at hdone
      have hsk := mix_skip (kp := allK) hc
      clear hx1 h0 h1 h2 h3 hvp
      subst hqq
      generalize d.waits[i] = w at *
      unfold wrF at hkwi
      have hput := hput (rfl)
      rw [hput] at hdone
      refine AWP.skip ?_
      refine athen_n ?_
      refine AWP.seq ?_
      refine AWP.block ?_
      refine AWP.seq ?_
      refine AWP.region ?_
      refine rC (Calm.indexS Try.underlying23 ty_size_51 rfl rfl (by omega) (by omega)) ?_
      refine rC (ldA_ (cs := [_, _, _]) ty_agg_51 ty_size_51 rfl) ?_
      refine ARun.alloc (lit_lt rfl) ty_zero_51 ?_
      intro b6 f6
      have g6 := f6
      repeat ((with_reducible replace g6 := fresh_set g6); obtain ⟨g6, _⟩ := g6)
      (try simp only [List.length_cons, List.length_nil, Nat.zero_add, Nat.reduceAdd])
      first | refine ARun.storeAll rfl rfl ty_size_51 own_ rfl rfl ?_ | refine ARun.store rfl rfl ty_size_51 own_ lens_ rfl ?_
      (try simp only [Mem.set_set, List.set_cons_zero, List.set_cons_succ, Nat.zero_add, Nat.reduceAdd])
      refine arun_nil ?_
      refine athen_n ?_
      refine AWP.sub [(1, _), (2, _), (19, _), (20, _), (21, _), (22, _), (6, _)] ⟨rfl, rfl, rfl, rfl, rfl, rfl, rfl, trivial⟩ ?_
      refine AWP.region ?_
      refine rC (ldA_ (cs := [_, _, _, _, _]) ty_agg_25 ty_size_25 rfl) ?_
      refine rC (ldA_ (cs := [_, _, _]) ty_agg_51 ty_size_51 rfl) ?_
      refine ARun.call (lit_lt rfl) go_66 rfl ((((hdone).frame fb1).frame fb2).frame f6) ?_
      rintro _ S1 ⟨Sa, ⟨Sb, ⟨M2, ⟨rfl, hM2⟩, ga, hSb⟩, gb, hSa⟩, gc, h1⟩
      rw [h1, hSa, hSb]; rw [hSa, hSb] at gc; rw [hSb] at gb; clear h1 S1 hSa Sa hSb Sb
      obtain ⟨gbm, nba⟩ := fresh_set gb
      obtain ⟨gc1, ncb⟩ := fresh_set gc
      obtain ⟨gcm, nca⟩ := fresh_set gc1
      rw [hM2] at ga gb gc gbm gc1 gcm ⊢
      first | refine ARun.storeAll rfl rfl ty_size_25 own_ rfl rfl ?_ | refine ARun.store rfl rfl ty_size_25 own_ lens_ rfl ?_
      (try simp only [Mem.set_set, List.set_cons_zero, List.set_cons_succ, Nat.zero_add, Nat.reduceAdd])
      refine arun_nil ?_
      refine ain_n ?_
      refine athen_n ?_
      refine AWP.sub [(1, _), (2, _), (19, _), (20, _), (21, _), (22, _), (6, _)] ⟨rfl, rfl, rfl, rfl, rfl, rfl, rfl, trivial⟩ ?_
      refine AWP.region ?_
      refine rC (Calm.bin rfl rfl b_add_i64) ?_
      refine rC (Calm.move rfl) ?_
      refine arun_nil ?_
      refine athen_n ?_
      refine ⟨i + 1, ?_, ?_, ?_, ?_⟩
      all_goals (try dsimp only)
      · exact ⟨rfl, rfl, rfl, rfl, rfl, trivial⟩
      · exact less_
      · exact hc
      · omega
    · have hc : i = d.waits.length := by have := of_decide_eq_false hc; omega
      subst hc
      have hs : Sl 2 extF (dkM S (mixK allK d d.waits.length) oE oW) (.slice qe (d.ext.map (doneX allK d.waits)).length de) (d.ext.map (doneX allK d.waits)) := by rw [List.length_map]; exact hEi
      have hval : ∀ (f : Int) (b : Bool), (Value.agg #[.int .i64 d.size, .slice qe d.ext.length de, .slice none 0 0, .int .i64 f, .bool b]) = .agg #[.int .i64 d.size, .slice qe (d.ext.map (doneX allK d.waits)).length de, .slice none 0 0, .int .i64 f, .bool b] := fun f b => by rw [List.length_map]
      refine AWP.exit ?_
      refine athen_exit ?_
      refine athen_exit ?_
      refine ain_same ?_
      refine athen_n ?_
      refine AWP.seq ?_
      refine AWP.region ?_
      refine rC (Calm.fieldAddr ty_field_25_2 rfl) ?_
      refine ARun.store1 rfl rfl ty_size_23 rfl own_ lens_ rfl ?_
      (try simp only [Mem.set_set, List.set_cons_zero, List.set_cons_succ, Nat.zero_add, Nat.reduceAdd])
      refine arun_nil ?_
      refine athen_n ?_
      refine AWP.sub [(1, _), (2, _), (19, _), (20, _), (21, _), (22, _)] ⟨rfl, rfl, rfl, rfl, rfl, rfl, trivial⟩ ?_
      refine AWP.seq ?_
      refine AWP.region ?_
      refine rC (ldA_ (cs := [_, _, _, _, _]) ty_agg_25 ty_size_25 rfl) ?_
      first | refine ARun.storeAll rfl rfl ty_size_25 own_ rfl rfl ?_ | refine ARun.store rfl rfl ty_size_25 own_ lens_ rfl ?_
      (try simp only [Mem.set_set, List.set_cons_zero, List.set_cons_succ, Nat.zero_add, Nat.reduceAdd])
      refine rC (Calm.assign rfl) ?_
      refine arun_nil ?_
      refine athen_n ?_
      refine AWP.sub [(1, _), (2, _), (19, _), (20, _), (21, _), (22, _), (3, _)] ⟨rfl, rfl, rfl, rfl, rfl, rfl, rfl, trivial⟩ ?_
      refine AWP.ret ?_
      refine ⟨_, dkM S (mixK allK d d.waits.length) oE oW, ⟨_, _, _, rfl, .inr ⟨ty_agg_25, [_, _, _, _, _], ty_size_25, rds_, rfl⟩, ⟨_, _, rfl, rfl, rfl⟩, rfl⟩, less_, ?_⟩
      exact ⟨_, rfl, (hoki _).less, ⟨_, _, _, _, hval _ _, hs, Sl.nil _ _ _⟩⟩
set_option maxHeartbeats 2000000 in
theorem rd_Crash (v vk : Value) (d : D) (l : List Bool) (S : Mem) (hd : DkR S v d) (hz : Dz d) (hl : Sl 1 bools S vk l) :
    ACall Try.prog 34 #[v, vk] S (DkRes (crashD d l) S) := by
  have hcheck := fun M h => rd_Check v d M h hz
  have hcopy := rd_Copy v d S hd hz.el hz.wl
  obtain ⟨pe, ce, pw, cw, rfl, hE, hW⟩ := id hd
  obtain ⟨pk, ck, rfl, hl1, hl2, hl3⟩ := id hl
  unfold crashD
  rcases chkD_or d with ⟨hk, hR⟩ | ⟨hk, hR⟩
  · rw [if_pos hk]
    have hrl := right_len hR; have hwl := hR.wl
    refine ACall.enter (args := [.agg #[.int .i64 d.size, .slice pe d.ext.length ce, .slice pw d.waits.length cw, .int .i64 d.fuse, .bool d.down], .slice pk l.length ck]) (rs := [.cell 4 25, .tmp 5]) 40 [(0, .agg #[.int .i64 d.size, .slice pe d.ext.length ce, .slice pw d.waits.length cw, .int .i64 d.fuse, .bool d.down]), (1, .slice pk l.length ck)] Try.func34 rfl rfl (Nat.le_of_ble_eq_true rfl) rfl ⟨rfl, rfl, trivial⟩ ?_
    refine AWP.seq ?_
    refine AWP.region ?_
    refine ARun.boxA (cs := [_, _, _, _, _]) (lit_lt rfl) rfl ?_
    intro b2 f2
    have g2 := f2
    repeat ((with_reducible replace g2 := fresh_set g2); obtain ⟨g2, _⟩ := g2)
    (try simp only [List.length_cons, List.length_nil, Nat.zero_add, Nat.reduceAdd])
    refine ARun.alloc (lit_lt rfl) ty_zero_25 ?_
    intro b4 f4
    have g4 := f4
    repeat ((with_reducible replace g4 := fresh_set g4); obtain ⟨g4, _⟩ := g4)
    (try simp only [List.length_cons, List.length_nil, Nat.zero_add, Nat.reduceAdd])
    refine rC (Calm.assign rfl) ?_
    refine arun_nil ?_
    refine athen_n ?_
    refine AWP.seq ?_
    refine AWP.seq ?_
    refine AWP.region ?_
    refine rC (ldA_ (cs := [_, _, _, _, _]) ty_agg_25 ty_size_25 rfl) ?_
    refine ARun.call (lit_lt rfl) go_26 rfl (hcheck _ (hd.less less_)) ?_
    rintro _ S1 ⟨rfl, h1⟩
    rw [h1, hk]; clear h1 S1
    refine rC (Calm.bin rfl rfl b_neq) ?_
    refine arun_nil ?_
    refine athen_n ?_
    refine AWP.sub [(0, _), (1, _), (2, _), (4, _), (5, _), (10, _)] ⟨rfl, rfl, rfl, rfl, rfl, rfl, trivial⟩ ?_
    refine AWP.condF rfl (by first | rfl | (simp; done) | (simp; omega)) ?_
    refine AWP.skip ?_
    refine athen_n ?_
    refine AWP.seq ?_
    refine AWP.region ?_
    refine rC (ldA_ (cs := [_, _, _, _, _]) ty_agg_25 ty_size_25 rfl) ?_
    refine ARun.call (lit_lt rfl) go_12 rfl (((hcopy).frame f2).frame f4) ?_
    rintro _ S1 ⟨Sa, ⟨M, ⟨oE, oW, hok, rfl, hM⟩, fa, hSa⟩, fb, h1⟩
    rw [h1, hSa]; rw [hSa] at fb; clear h1 S1 hSa Sa
    obtain ⟨fbm, nba⟩ := fresh_set fb
    unfold dkV
    obtain ⟨qe, de, hqe⟩ := outV_eq hok.e
    obtain ⟨qw, dw, hqw⟩ := outV_eq hok.w
    rw [hqe, hqw]
    first | refine ARun.storeAll rfl rfl ty_size_25 own_ rfl rfl ?_ | refine ARun.store rfl rfl ty_size_25 own_ lens_ rfl ?_
    (try simp only [Mem.set_set, List.set_cons_zero, List.set_cons_succ, Nat.zero_add, Nat.reduceAdd])
    refine arun_nil ?_
    refine athen_n ?_
    refine AWP.sub [(0, _), (1, _), (2, _), (4, _), (5, _), (10, _)] ⟨rfl, rfl, rfl, rfl, rfl, rfl, trivial⟩ ?_
    rw [set_back M nba]
    have hvi : ∀ i, dkV (mixK (keepK l) d i) oE oW = .agg #[.int .i64 d.size, .slice qe d.ext.length de, .slice qw d.waits.length dw, .int .i64 d.fuse, .bool d.down] := fun i => by unfold dkV mixK; simp only [List.length_map]; rw [hqe, hqw]
    have hoki : ∀ i, OkD S (mixK (keepK l) d i) oE oW := fun i => okD_as hok (by unfold mixK; simp) rfl
    have hdki : ∀ i, DkR (dkM S (mixK (keepK l) d i) oE oW) (.agg #[.int .i64 d.size, .slice qe d.ext.length de, .slice qw d.waits.length dw, .int .i64 d.fuse, .bool d.down]) (mixK (keepK l) d i) := fun i => by rw [← hvi i]; exact (hoki i).dk (by unfold mixK; simp; omega) (by show d.waits.length ≤ _; omega)
    have fBi : ∀ i, Fresh (dkM S (mixK (keepK l) d i) oE oW) b2 := fun i => by rw [hM] at fa; exact fresh_mix fa
    have hM0 : M = dkM S (mixK (keepK l) d 0) oE oW := by rw [mix0]; exact hM
    refine AWP.seq ?_
    refine AWP.seq ?_
    refine AWP.region ?_
    refine rC (Calm.fieldAddr ty_field_25_2 rfl) ?_
    refine rC (ld_ ty_plain_23 rfl) ?_
    refine rC (Calm.lenSl Try.underlying23 rfl) ?_
    refine rC (Calm.move rfl) ?_
    refine arun_nil ?_
    refine athen_n ?_
    refine AWP.sub [(0, _), (1, _), (2, _), (4, _), (5, _), (10, _), (15, _), (16, _), (17, _)] ⟨rfl, rfl, rfl, rfl, rfl, rfl, rfl, rfl, rfl, trivial⟩ ?_
    refine AWP.block ?_
    refine AWP.loop (X := Nat) (fun x => [(1, .slice pk l.length ck), (2, .pointer (some ⟨b2, 0, none⟩)), (4, .pointer (some ⟨b4, 0, none⟩)), (15, .slice qw d.waits.length dw), (16, .int .i64 d.waits.length), (17, .int .i64 x)]) (fun x => ((dkM S (mixK (keepK l) d x) oE oW).set b2 (boxD d (.slice qe d.ext.length de) (.slice qw d.waits.length dw))).set b4 (boxD D0 (.slice none 0 0) (.slice none 0 0))) (fun x => x ≤ d.waits.length) (fun x => d.waits.length - x) (0) ⟨rfl, rfl, rfl, rfl, rfl, rfl, trivial⟩ ((by rw [← hM0]; exact Mem.Less.refl _)) (Nat.zero_le _) ?_
    rintro i hi
    (try dsimp only at *)
    have fb1 := fBi i
    have fb2 : Fresh ((dkM S (mixK (keepK l) d i) oE oW).set b2 (boxD d (.slice qe d.ext.length de) (.slice qw d.waits.length dw))) b4 := fresh_more (by rw [hM] at fbm; exact fresh_mix fbm) nba
    obtain ⟨_, _, _, _, hxx, hEi, hWi⟩ := id (hdki i)
    rw [show (mixK (keepK l) d i).ext.length = d.ext.length from List.length_map _] at hxx hEi
    cases hxx
    have hWi' : Sl 3 wrF (dkM S (mixK (keepK l) d i) oE oW) (.slice qw d.waits.length dw) d.waits := hWi
    obtain ⟨_, _, ee, _, _, hW3⟩ := id hWi'
    cases ee
    obtain ⟨fb2m, nb2⟩ := fresh_set fb2
    unfold boxD at fb2 ⊢
    refine AWP.seq ?_
    refine AWP.region ?_
    refine rC (Calm.bin rfl rfl b_lss) ?_
    refine arun_nil ?_
    refine athen_n ?_
    refine AWP.seq ?_
    refine AWP.condB rfl (fun hc => ?_) (fun hc => ?_)
    · have hc : i < d.waits.length := by have := of_decide_eq_true hc; omega
      obtain ⟨bw, ow, hqq, hkw⟩ := hW3.resolve_left (fun e => by rw [e] at hc; simp at hc)
      have hkwi := hkw i hc
      obtain ⟨p, x, hp, hx, hx1, h0, h1, h2, h3, hput⟩ := mix_facts (keepK l) hR hc
      have hdone := rd_done (mixK (keepK l) d i) d.waits[i] S oE oW (hoki i) (by unfold mixK; simp; omega) (by show d.waits.length ≤ _; omega) (mix_asc hR (keepK l) i) p x hp hx hx1 h0 h1 h2 (by omega)
      rw [hvi i] at hdone
      have hvp : dkV (putD (mixK (keepK l) d i) d.waits[i] p x) oE oW = .agg #[.int .i64 d.size, .slice qe d.ext.length de, .slice qw d.waits.length dw, .int .i64 d.fuse, .bool d.down] := by rw [← hvi i]; unfold dkV putD; simp only [List.length_set]
      rw [hvp] at hdone
      have hsk := mix_skip (kp := (keepK l)) hc
      clear hx1 h0 h1 h2 h3 hvp
      subst hqq
      generalize d.waits[i] = w at *
      unfold wrF at hkwi
      by_cases q : i < l.length
      · obtain ⟨bk, ok, rfl, hkk⟩ := hl3.resolve_left (fun e => by rw [e] at q; simp at q)
        have hkki := (hkk i q).less (hoki i).less
        have hkp : keepK l i = l[i] := by unfold keepK; simp [List.getD, List.getElem?_eq_getElem q]
        unfold bools at hkki
        refine AWP.skip ?_
        refine athen_n ?_
        refine AWP.seq ?_
        refine AWP.block ?_
        refine AWP.seq ?_
        refine AWP.region ?_
        refine rC (Calm.move rfl) ?_
        refine rC (Calm.indexS Try.underlying23 ty_size_51 rfl rfl (by omega) (by omega)) ?_
        refine rC (ldA_ (cs := [_, _, _]) ty_agg_51 ty_size_51 rfl) ?_
        refine ARun.alloc (lit_lt rfl) ty_zero_51 ?_
        intro b7 f7
        have g7 := f7
        repeat ((with_reducible replace g7 := fresh_set g7); obtain ⟨g7, _⟩ := g7)
        (try simp only [List.length_cons, List.length_nil, Nat.zero_add, Nat.reduceAdd])
        refine rC (Calm.assign rfl) ?_
        first | refine ARun.storeAll rfl rfl ty_size_51 own_ rfl rfl ?_ | refine ARun.store rfl rfl ty_size_51 own_ lens_ rfl ?_
        (try simp only [Mem.set_set, List.set_cons_zero, List.set_cons_succ, Nat.zero_add, Nat.reduceAdd])
        refine arun_nil ?_
        refine athen_n ?_
        refine AWP.sub [(1, _), (2, _), (4, _), (15, _), (16, _), (17, _), (18, _), (7, _), (6, _)] ⟨rfl, rfl, rfl, rfl, rfl, rfl, rfl, rfl, rfl, trivial⟩ ?_
        refine AWP.seq ?_
        refine AWP.region ?_
        refine rC (Calm.move rfl) ?_
        refine rC (Calm.move rfl) ?_
        refine rC (Calm.lenSl Try.underlying40 rfl) ?_
        refine rC (Calm.bin rfl rfl b_lss) ?_
        refine rC (Calm.move rfl) ?_
        first | refine rS 26 ?_ | refine rU 26 ?_ | refine rG 26 (Calm.move rfl) ?_
        first | refine rS 26 ?_ | refine rU 26 ?_ | refine rG 26 (Calm.move rfl) ?_
        first | refine rS 26 ?_ | refine rU 26 ?_ | refine rG 26 (Calm.indexS Try.underlying40 ty_size_4 rfl rfl (by omega) (by omega)) ?_
        first | refine rS 26 ?_ | refine rU 26 ?_ | refine rG 26 (Calm.loadK ty_plain_4 rfl (hkki.less less_)) ?_
        refine rC ((by first | exact Calm.pickT rfl rfl | exact Calm.pickF rfl rfl)) ?_
        refine arun_nil ?_
        refine athen_n ?_
        refine AWP.sub [(1, _), (2, _), (4, _), (15, _), (16, _), (17, _), (18, _), (7, _), (6, _), (31, _)] ⟨rfl, rfl, rfl, rfl, rfl, rfl, rfl, rfl, rfl, rfl, trivial⟩ ?_
        refine AWP.condB rfl (fun hb => ?_) (fun hb => ?_)
        · have hput := hput (hkp.trans hb)
          rw [hput] at hdone
          refine AWP.region ?_
          refine rC (ldA_ (cs := [_, _, _, _, _]) ty_agg_25 ty_size_25 rfl) ?_
          refine rC (ldA_ (cs := [_, _, _]) ty_agg_51 ty_size_51 rfl) ?_
          refine ARun.call (lit_lt rfl) go_66 rfl ((((hdone).frame fb1).frame fb2).frame f7) ?_
          rintro _ S1 ⟨Sa, ⟨Sb, ⟨M2, ⟨rfl, hM2⟩, ga, hSb⟩, gb, hSa⟩, gc, h1⟩
          rw [h1, hSa, hSb]; rw [hSa, hSb] at gc; rw [hSb] at gb; clear h1 S1 hSa Sa hSb Sb
          obtain ⟨gbm, nba⟩ := fresh_set gb
          obtain ⟨gc1, ncb⟩ := fresh_set gc
          obtain ⟨gcm, nca⟩ := fresh_set gc1
          rw [hM2] at ga gb gc gbm gc1 gcm ⊢
          first | refine ARun.storeAll rfl rfl ty_size_25 own_ rfl rfl ?_ | refine ARun.store rfl rfl ty_size_25 own_ lens_ rfl ?_
          (try simp only [Mem.set_set, List.set_cons_zero, List.set_cons_succ, Nat.zero_add, Nat.reduceAdd])
          refine arun_nil ?_
          refine ain_n ?_
          refine athen_n ?_
          refine AWP.sub [(1, _), (2, _), (4, _), (15, _), (16, _), (17, _), (18, _), (7, _), (6, _), (31, _)] ⟨rfl, rfl, rfl, rfl, rfl, rfl, rfl, rfl, rfl, rfl, trivial⟩ ?_
          refine AWP.region ?_
          refine rC (Calm.bin rfl rfl b_add_i64) ?_
          refine rC (Calm.move rfl) ?_
          refine arun_nil ?_
          refine athen_n ?_
          refine ⟨i + 1, ?_, ?_, ?_, ?_⟩
          all_goals (try dsimp only)
          · exact ⟨rfl, rfl, rfl, rfl, rfl, rfl, trivial⟩
          · exact less_
          · exact hc
          · omega
        · have hsk := hsk (hkp.trans hb)
          refine AWP.skip ?_
          refine ain_n ?_
          refine athen_n ?_
          refine AWP.region ?_
          refine rC (Calm.bin rfl rfl b_add_i64) ?_
          refine rC (Calm.move rfl) ?_
          refine arun_nil ?_
          refine athen_n ?_
          refine ⟨i + 1, ?_, ?_, ?_, ?_⟩
          all_goals (try dsimp only)
          · exact ⟨rfl, rfl, rfl, rfl, rfl, rfl, trivial⟩
          · rw [hsk]; exact less_
          · exact hc
          · omega
      · have hkp : keepK l i = false := by unfold keepK; simp [List.getD, List.getElem?_eq_none (by omega : l.length ≤ i)]
        refine AWP.skip ?_
        refine athen_n ?_
        refine AWP.seq ?_
        refine AWP.block ?_
        refine AWP.seq ?_
        refine AWP.region ?_
        refine rC (Calm.move rfl) ?_
        refine rC (Calm.indexS Try.underlying23 ty_size_51 rfl rfl (by omega) (by omega)) ?_
        refine rC (ldA_ (cs := [_, _, _]) ty_agg_51 ty_size_51 rfl) ?_
        refine ARun.alloc (lit_lt rfl) ty_zero_51 ?_
        intro b7 f7
        have g7 := f7
        repeat ((with_reducible replace g7 := fresh_set g7); obtain ⟨g7, _⟩ := g7)
        (try simp only [List.length_cons, List.length_nil, Nat.zero_add, Nat.reduceAdd])
        refine rC (Calm.assign rfl) ?_
        first | refine ARun.storeAll rfl rfl ty_size_51 own_ rfl rfl ?_ | refine ARun.store rfl rfl ty_size_51 own_ lens_ rfl ?_
        (try simp only [Mem.set_set, List.set_cons_zero, List.set_cons_succ, Nat.zero_add, Nat.reduceAdd])
        refine arun_nil ?_
        refine athen_n ?_
        refine AWP.sub [(1, _), (2, _), (4, _), (15, _), (16, _), (17, _), (18, _), (7, _), (6, _)] ⟨rfl, rfl, rfl, rfl, rfl, rfl, rfl, rfl, rfl, trivial⟩ ?_
        refine AWP.seq ?_
        refine AWP.region ?_
        refine rC (Calm.move rfl) ?_
        refine rC (Calm.move rfl) ?_
        refine rC (Calm.lenSl Try.underlying40 rfl) ?_
        refine rC (Calm.bin rfl rfl b_lss) ?_
        refine rC (Calm.move rfl) ?_
        first | refine rS 26 ?_ | refine rU 26 ?_ | refine rG 26 (Calm.move rfl) ?_
        first | refine rS 26 ?_ | refine rU 26 ?_ | refine rG 26 (Calm.move rfl) ?_
        first | refine rS 26 ?_ | refine rU 26 ?_ | refine rG 26 (Calm.indexS Try.underlying40 ty_size_4 rfl rfl (by omega) (by omega)) ?_
        first | refine rS 26 ?_ | refine rU 26 ?_ | refine rG 26 (ld_ ty_plain_4 rfl) ?_
        refine rC ((by first | exact Calm.pickT rfl rfl | exact Calm.pickF rfl rfl)) ?_
        refine arun_nil ?_
        refine athen_n ?_
        refine AWP.sub [(1, _), (2, _), (4, _), (15, _), (16, _), (17, _), (18, _), (7, _), (6, _), (31, _)] ⟨rfl, rfl, rfl, rfl, rfl, rfl, rfl, rfl, rfl, rfl, trivial⟩ ?_
        refine AWP.condF rfl (by first | rfl | (simp; done) | (simp; omega)) ?_
        have hsk := hsk hkp
        refine AWP.skip ?_
        refine ain_n ?_
        refine athen_n ?_
        refine AWP.region ?_
        refine rC (Calm.bin rfl rfl b_add_i64) ?_
        refine rC (Calm.move rfl) ?_
        refine arun_nil ?_
        refine athen_n ?_
        refine ⟨i + 1, ?_, ?_, ?_, ?_⟩
        all_goals (try dsimp only)
        · exact ⟨rfl, rfl, rfl, rfl, rfl, rfl, trivial⟩
        · rw [hsk]; exact less_
        · exact hc
        · omega
    · have hc : i = d.waits.length := by have := of_decide_eq_false hc; omega
      subst hc
      have hs : Sl 2 extF (dkM S (mixK (keepK l) d d.waits.length) oE oW) (.slice qe (d.ext.map (doneX (keepK l) d.waits)).length de) (d.ext.map (doneX (keepK l) d.waits)) := by rw [List.length_map]; exact hEi
      have hval : ∀ (f : Int) (b : Bool), (Value.agg #[.int .i64 d.size, .slice qe d.ext.length de, .slice none 0 0, .int .i64 f, .bool b]) = .agg #[.int .i64 d.size, .slice qe (d.ext.map (doneX (keepK l) d.waits)).length de, .slice none 0 0, .int .i64 f, .bool b] := fun f b => by rw [List.length_map]
      refine AWP.exit ?_
      refine athen_exit ?_
      refine athen_exit ?_
      refine ain_same ?_
      refine athen_n ?_
      refine AWP.seq ?_
      refine AWP.region ?_
      refine rC (Calm.fieldAddr ty_field_25_2 rfl) ?_
      refine ARun.store1 rfl rfl ty_size_23 rfl own_ lens_ rfl ?_
      (try simp only [Mem.set_set, List.set_cons_zero, List.set_cons_succ, Nat.zero_add, Nat.reduceAdd])
      refine arun_nil ?_
      refine athen_n ?_
      refine AWP.sub [(1, _), (2, _), (4, _), (15, _), (16, _), (17, _), (18, _)] ⟨rfl, rfl, rfl, rfl, rfl, rfl, rfl, trivial⟩ ?_
      refine AWP.seq ?_
      refine AWP.region ?_
      refine rC (Calm.fieldAddr ty_field_25_4 rfl) ?_
      refine ARun.store1 rfl rfl ty_size_4 rfl own_ lens_ rfl ?_
      (try simp only [Mem.set_set, List.set_cons_zero, List.set_cons_succ, Nat.zero_add, Nat.reduceAdd])
      refine arun_nil ?_
      refine athen_n ?_
      refine AWP.sub [(1, _), (2, _), (4, _), (15, _), (16, _), (17, _), (18, _)] ⟨rfl, rfl, rfl, rfl, rfl, rfl, rfl, trivial⟩ ?_
      refine AWP.seq ?_
      refine AWP.region ?_
      refine rC (Calm.fieldAddr ty_field_25_3 rfl) ?_
      refine ARun.store1 rfl rfl ty_size_3 rfl own_ lens_ rfl ?_
      (try simp only [Mem.set_set, List.set_cons_zero, List.set_cons_succ, Nat.zero_add, Nat.reduceAdd])
      refine arun_nil ?_
      refine athen_n ?_
      refine AWP.sub [(1, _), (2, _), (4, _), (15, _), (16, _), (17, _), (18, _)] ⟨rfl, rfl, rfl, rfl, rfl, rfl, rfl, trivial⟩ ?_
      refine AWP.seq ?_
      refine AWP.region ?_
      refine rC (ldA_ (cs := [_, _, _, _, _]) ty_agg_25 ty_size_25 rfl) ?_
      first | refine ARun.storeAll rfl rfl ty_size_25 own_ rfl rfl ?_ | refine ARun.store rfl rfl ty_size_25 own_ lens_ rfl ?_
      (try simp only [Mem.set_set, List.set_cons_zero, List.set_cons_succ, Nat.zero_add, Nat.reduceAdd])
      refine rC (Calm.assign rfl) ?_
      refine arun_nil ?_
      refine athen_n ?_
      refine AWP.sub [(1, _), (2, _), (4, _), (15, _), (16, _), (17, _), (18, _), (5, _)] ⟨rfl, rfl, rfl, rfl, rfl, rfl, rfl, rfl, trivial⟩ ?_
      refine AWP.ret ?_
      refine ⟨_, dkM S (mixK (keepK l) d d.waits.length) oE oW, ⟨_, _, _, rfl, .inr ⟨ty_agg_25, [_, _, _, _, _], ty_size_25, rds_, rfl⟩, ⟨_, _, rfl, rfl, rfl⟩, rfl⟩, less_, ?_⟩
      exact ⟨_, rfl, (hoki _).less, ⟨_, _, _, _, hval _ _, hs, Sl.nil _ _ _⟩⟩
  · rw [if_neg (by rw [hk]; decide)]
    refine ACall.enter (args := [.agg #[.int .i64 d.size, .slice pe d.ext.length ce, .slice pw d.waits.length cw, .int .i64 d.fuse, .bool d.down], .slice pk l.length ck]) (rs := [.cell 4 25, .tmp 5]) 40 [(0, .agg #[.int .i64 d.size, .slice pe d.ext.length ce, .slice pw d.waits.length cw, .int .i64 d.fuse, .bool d.down]), (1, .slice pk l.length ck)] Try.func34 rfl rfl (Nat.le_of_ble_eq_true rfl) rfl ⟨rfl, rfl, trivial⟩ ?_
    refine AWP.seq ?_
    refine AWP.region ?_
    refine ARun.boxA (cs := [_, _, _, _, _]) (lit_lt rfl) rfl ?_
    intro b2 f2
    have g2 := f2
    repeat ((with_reducible replace g2 := fresh_set g2); obtain ⟨g2, _⟩ := g2)
    (try simp only [List.length_cons, List.length_nil, Nat.zero_add, Nat.reduceAdd])
    refine ARun.alloc (lit_lt rfl) ty_zero_25 ?_
    intro b4 f4
    have g4 := f4
    repeat ((with_reducible replace g4 := fresh_set g4); obtain ⟨g4, _⟩ := g4)
    (try simp only [List.length_cons, List.length_nil, Nat.zero_add, Nat.reduceAdd])
    refine rC (Calm.assign rfl) ?_
    refine arun_nil ?_
    refine athen_n ?_
    refine AWP.seq ?_
    refine AWP.seq ?_
    refine AWP.region ?_
    refine rC (ldA_ (cs := [_, _, _, _, _]) ty_agg_25 ty_size_25 rfl) ?_
    refine ARun.call (lit_lt rfl) go_26 rfl (hcheck _ (hd.less less_)) ?_
    rintro _ S1 ⟨rfl, h1⟩
    rw [h1, hk]; clear h1 S1
    refine rC (Calm.bin rfl rfl b_neq) ?_
    refine arun_nil ?_
    refine athen_n ?_
    refine AWP.sub [(0, _), (1, _), (2, _), (4, _), (5, _), (10, _)] ⟨rfl, rfl, rfl, rfl, rfl, rfl, trivial⟩ ?_
    refine AWP.condT rfl (by first | rfl | (simp; done) | (simp; omega)) ?_
    refine AWP.seq ?_
    refine AWP.region ?_
    refine rC (Calm.build (cs := [_, _, _, _, _]) ty_bld_25 rfl rfl) ?_
    first | refine ARun.storeAll rfl rfl ty_size_25 own_ rfl rfl ?_ | refine ARun.store rfl rfl ty_size_25 own_ lens_ rfl ?_
    (try simp only [Mem.set_set, List.set_cons_zero, List.set_cons_succ, Nat.zero_add, Nat.reduceAdd])
    refine rC (Calm.assign rfl) ?_
    refine arun_nil ?_
    refine athen_n ?_
    refine AWP.sub [(0, _), (1, _), (2, _), (4, _), (5, _), (10, _)] ⟨rfl, rfl, rfl, rfl, rfl, rfl, trivial⟩ ?_
    refine AWP.ret ?_
    refine athen_ret ?_
    refine ⟨_, S, ⟨_, _, _, rfl, .inr ⟨ty_agg_25, [_, _, _, _, _], ty_size_25, rds_, rfl⟩, ⟨_, _, rfl, rfl, rfl⟩, rfl⟩, less_, ?_⟩
    exact ⟨_, rfl, Mem.Less.refl _, dkR_zero S⟩
end Go.Proofs.Ytkeiphkccnfhoaa
