/-
  Disk: copies of its slices; Own, Open, Make, done.
-/
import Derived.Test.YtkeiphkccnfhoaaDisk4
namespace Go.Proofs.Ytkeiphkccnfhoaa
open Go.RowKit
open Mv Disk
set_option linter.unusedVariables false
set_option linter.unusedSimpArgs false
set_option maxRecDepth 4000
theorem ext_len (x : Ext) : (extF x).length = 2 := rfl
theorem wr_len (x : Wr) : (wrF x).length = 3 := rfl
theorem ext_one (l : List Ext) : ∀ v ∈ l.flatMap extF, v.oneCell' = true := fun v hv => by
  obtain ⟨x, _, hx⟩ := List.mem_flatMap.1 hv
  simp only [extF, List.mem_cons, List.not_mem_nil, or_false] at hx
  rcases hx with rfl | rfl <;> rfl
theorem wr_one (l : List Wr) : ∀ v ∈ l.flatMap wrF, v.oneCell' = true := fun v hv => by
  obtain ⟨x, _, hx⟩ := List.mem_flatMap.1 hv
  simp only [wrF, List.mem_cons, List.not_mem_nil, or_false] at hx
  rcases hx with rfl | rfl | rfl <;> rfl
abbrev extT : TypeId := 54
abbrev wrT : TypeId := 51
theorem disk_CloneE (v : Value) (l : List Ext) (S : Mem) (hl : Sl 2 extF S v l) (hz : l.length ≤ 4398046511104) :
    ACall Try.prog 88 #[v] S (OwnR 2 extF extT l S) := by
  obtain ⟨a, cap, rfl, h1, h2, h3⟩ := id hl
  refine ACall.enter (args := [.slice a l.length cap]) (rs := [.tmp 2]) 8 [(0, .slice a l.length cap)] Try.func88 rfl rfl (Nat.le_of_ble_eq_true rfl) rfl ⟨rfl, trivial⟩ ?_
  cases a
  · refine AWP.seq ?_
    refine AWP.region ?_
    refine rC (Calm.assign rfl) ?_
    refine arun_nil ?_
    refine athen_n ?_
    refine AWP.seq ?_
    refine AWP.seq ?_
    refine AWP.region ?_
    refine rC (Calm.move rfl) ?_
    refine rC (Calm.bin rfl rfl (bin_nil_eql Try.underlying22)) ?_
    refine arun_nil ?_
    refine athen_n ?_
    refine AWP.sub [(0, _), (2, _), (4, _)] ⟨rfl, rfl, rfl, trivial⟩ ?_
    refine AWP.condT rfl (by first | rfl | (simp; done) | (simp; omega)) ?_
    obtain rfl : l = [] := h3.resolve_right (fun ⟨b, off, e, _⟩ => by cases e)
    refine AWP.seq ?_
    refine AWP.region ?_
    refine rC (Calm.assign rfl) ?_
    refine arun_nil ?_
    refine athen_n ?_
    refine AWP.ret ?_
    refine athen_ret ?_
    refine ⟨_, S, ⟨_, _, rfl, rfl, rfl⟩, less_, ?_⟩
    exact ⟨none, okO_nil S, rfl, rfl⟩
  · refine AWP.seq ?_
    refine AWP.region ?_
    refine rC (Calm.assign rfl) ?_
    refine arun_nil ?_
    refine athen_n ?_
    refine AWP.seq ?_
    refine AWP.seq ?_
    refine AWP.region ?_
    refine rC (Calm.move rfl) ?_
    refine rC (Calm.bin rfl rfl (bin_nil_eql Try.underlying22)) ?_
    refine arun_nil ?_
    refine athen_n ?_
    refine AWP.sub [(0, _), (2, _), (4, _)] ⟨rfl, rfl, rfl, trivial⟩ ?_
    refine AWP.condF rfl (by first | rfl | (simp; done) | (simp; omega)) ?_
    refine AWP.skip ?_
    refine athen_n ?_
    refine AWP.seq ?_
    refine AWP.region ?_
    refine ARun.build0 (lit_lt rfl) ty_sl_22 ?_
    intro b5 f5
    have g5 := f5
    repeat ((with_reducible replace g5 := fresh_set g5); obtain ⟨g5, _⟩ := g5)
    refine rC (Calm.move rfl) ?_
    refine ARun.appendOK (n := 2) (o := some (b5, 0)) (k := 0) (m := l.length) (cs := []) (lit_lt rfl) ty_sl_22 rfl rfl rfl (okO_own f5 (Nat.le_refl _)) (appN_self (okO_own f5 (Nat.le_refl 0)) rfl) rfl ((hl.less less_).src ext_len) (flat_length ext_len l) (ext_one l) (by omega) (by omega) ?_
    intro o ho
    rw [Nat.zero_add] at ho ⊢
    refine rC (Calm.assign rfl) ?_
    refine arun_nil ?_
    refine athen_n ?_
    refine AWP.sub [(0, _), (2, _), (4, _)] ⟨rfl, rfl, rfl, trivial⟩ ?_
    refine AWP.ret ?_
    refine ⟨_, _, ⟨_, _, rfl, rfl, rfl⟩, Mem.Less.refl _, ?_⟩
    exact ⟨o, ho, rfl, rfl⟩
theorem disk_CloneW (v : Value) (l : List Wr) (S : Mem) (hl : Sl 3 wrF S v l) (hz : l.length ≤ 3518437208883) :
    ACall Try.prog 89 #[v] S (OwnR 3 wrF wrT l S) := by
  obtain ⟨a, cap, rfl, h1, h2, h3⟩ := id hl
  refine ACall.enter (args := [.slice a l.length cap]) (rs := [.tmp 2]) 8 [(0, .slice a l.length cap)] Try.func89 rfl rfl (Nat.le_of_ble_eq_true rfl) rfl ⟨rfl, trivial⟩ ?_
  cases a
  · refine AWP.seq ?_
    refine AWP.region ?_
    refine rC (Calm.assign rfl) ?_
    refine arun_nil ?_
    refine athen_n ?_
    refine AWP.seq ?_
    refine AWP.seq ?_
    refine AWP.region ?_
    refine rC (Calm.move rfl) ?_
    refine rC (Calm.bin rfl rfl (bin_nil_eql Try.underlying23)) ?_
    refine arun_nil ?_
    refine athen_n ?_
    refine AWP.sub [(0, _), (2, _), (4, _)] ⟨rfl, rfl, rfl, trivial⟩ ?_
    refine AWP.condT rfl (by first | rfl | (simp; done) | (simp; omega)) ?_
    obtain rfl : l = [] := h3.resolve_right (fun ⟨b, off, e, _⟩ => by cases e)
    refine AWP.seq ?_
    refine AWP.region ?_
    refine rC (Calm.assign rfl) ?_
    refine arun_nil ?_
    refine athen_n ?_
    refine AWP.ret ?_
    refine athen_ret ?_
    refine ⟨_, S, ⟨_, _, rfl, rfl, rfl⟩, less_, ?_⟩
    exact ⟨none, okO_nil S, rfl, rfl⟩
  · refine AWP.seq ?_
    refine AWP.region ?_
    refine rC (Calm.assign rfl) ?_
    refine arun_nil ?_
    refine athen_n ?_
    refine AWP.seq ?_
    refine AWP.seq ?_
    refine AWP.region ?_
    refine rC (Calm.move rfl) ?_
    refine rC (Calm.bin rfl rfl (bin_nil_eql Try.underlying23)) ?_
    refine arun_nil ?_
    refine athen_n ?_
    refine AWP.sub [(0, _), (2, _), (4, _)] ⟨rfl, rfl, rfl, trivial⟩ ?_
    refine AWP.condF rfl (by first | rfl | (simp; done) | (simp; omega)) ?_
    refine AWP.skip ?_
    refine athen_n ?_
    refine AWP.seq ?_
    refine AWP.region ?_
    refine ARun.build0 (lit_lt rfl) ty_sl_23 ?_
    intro b5 f5
    have g5 := f5
    repeat ((with_reducible replace g5 := fresh_set g5); obtain ⟨g5, _⟩ := g5)
    refine rC (Calm.move rfl) ?_
    refine ARun.appendOK (n := 3) (o := some (b5, 0)) (k := 0) (m := l.length) (cs := []) (lit_lt rfl) ty_sl_23 rfl rfl rfl (okO_own f5 (Nat.le_refl _)) (appN_self (okO_own f5 (Nat.le_refl 0)) rfl) rfl ((hl.less less_).src wr_len) (flat_length wr_len l) (wr_one l) (by omega) (by omega) ?_
    intro o ho
    rw [Nat.zero_add] at ho ⊢
    refine rC (Calm.assign rfl) ?_
    refine arun_nil ?_
    refine athen_n ?_
    refine AWP.sub [(0, _), (2, _), (4, _)] ⟨rfl, rfl, rfl, trivial⟩ ?_
    refine AWP.ret ?_
    refine ⟨_, _, ⟨_, _, rfl, rfl, rfl⟩, Mem.Less.refl _, ?_⟩
    exact ⟨o, ho, rfl, rfl⟩
theorem outV_eq {S : Mem} {o : Option (Nat × Nat)} {n : Nat} (h : OkO S o n) : ∃ a c, outV o n = .slice a n c := by
  cases o with
  | none => rw [h.nil rfl]; exact ⟨none, 0, rfl⟩
  | some q => exact ⟨_, q.2, rfl⟩
/-- A disk whose slices are its own. -/
def dkV (d : D) (oE oW : Option (Nat × Nat)) : Value := .agg #[.int .i64 d.size, outV oE d.ext.length, outV oW d.waits.length, .int .i64 d.fuse, .bool d.down]
def dkM (S : Mem) (d : D) (oE oW : Option (Nat × Nat)) : Mem := outN 3 (outN 2 S oE extT (d.ext.flatMap extF)) oW wrT (d.waits.flatMap wrF)
structure OkD (S : Mem) (d : D) (oE oW : Option (Nat × Nat)) : Prop where
  e : OkO S oE d.ext.length
  w : OkO (outN 2 S oE extT (d.ext.flatMap extF)) oW d.waits.length
theorem OkD.less {S : Mem} {d : D} {oE oW : Option (Nat × Nat)} (h : OkD S d oE oW) : S.Less (dkM S d oE oW) := (outN_over h.e).trans (outN_over h.w)
theorem OkD.dk {S : Mem} {d : D} {oE oW : Option (Nat × Nat)} (h : OkD S d oE oW) (he : d.ext.length ≤ 9223372036854775807) (hw : d.waits.length ≤ 9223372036854775807) : DkR (dkM S d oE oW) (dkV d oE oW) d := by
  have h1 := sl_outN ext_len (e := extT) h.e rfl he
  have h2 := sl_outN wr_len (e := wrT) h.w rfl hw
  obtain ⟨a, c, e⟩ := outV_eq h.e
  obtain ⟨a', c', e'⟩ := outV_eq h.w
  rw [e] at h1; rw [e'] at h2
  exact ⟨a, c, a', c', by unfold dkV; rw [e, e'], h1.less (outN_over h.w), h2⟩
set_option maxHeartbeats 1000000 in
theorem disk_Own (v : Value) (d : D) (S : Mem) (hd : DkR S v d) (hz1 : d.ext.length ≤ 4398046511104) (hz2 : d.waits.length ≤ 3518437208883) :
    ACall Try.prog 55 #[v] S fun r S' => ∃ oE oW, OkD S d oE oW ∧ r = dkV d oE oW ∧ S' = dkM S d oE oW := by
  obtain ⟨pe, ce, pw, cw, rfl, hE, hW⟩ := hd
  refine ACall.enter (args := [.agg #[.int .i64 d.size, .slice pe d.ext.length ce, .slice pw d.waits.length cw, .int .i64 d.fuse, .bool d.down]]) (rs := [.cell 2 25]) 12 [(0, .agg #[.int .i64 d.size, .slice pe d.ext.length ce, .slice pw d.waits.length cw, .int .i64 d.fuse, .bool d.down])] Try.func55 rfl rfl (Nat.le_of_ble_eq_true rfl) rfl ⟨rfl, trivial⟩ ?_
  refine AWP.seq ?_
  refine AWP.region ?_
  refine ARun.boxA (cs := [_, _, _, _, _]) (lit_lt rfl) rfl ?_
  intro b1 f1
  have g1 := f1
  repeat ((with_reducible replace g1 := fresh_set g1); obtain ⟨g1, _⟩ := g1)
  (try simp only [List.length_cons, List.length_nil, Nat.zero_add, Nat.reduceAdd])
  refine ARun.alloc (lit_lt rfl) ty_zero_25 ?_
  intro b2 f2
  have g2 := f2
  repeat ((with_reducible replace g2 := fresh_set g2); obtain ⟨g2, _⟩ := g2)
  (try simp only [List.length_cons, List.length_nil, Nat.zero_add, Nat.reduceAdd])
  refine arun_nil ?_
  refine athen_n ?_
  refine AWP.seq ?_
  refine AWP.draw [(0, true), (1, true), (3, true), (4, true), (2, false), (6, true), (5, false), (7, false), (8, true), (9, false)] [7, 9] mixed (by kernel_rfl) ?_
  refine dP (hc := fun _ => Calm.fieldAddr ty_field_25_1 rfl) (h := ?_)
  refine dC (hc := ld_ ty_plain_22 rfl) (h := ?_)
  refine dP (hc := fun _ => Calm.fieldAddr ty_field_25_2 rfl) (h := ?_)
  refine dC (hc := ld_ ty_plain_23 rfl) (h := ?_)
  refine draw_only rfl ?_
  refine ARun.call (lit_lt rfl) go_88 rfl (((disk_CloneE _ d.ext S hE hz1).frame f1).frame f2) ?_
  rintro _ S1 ⟨Sa, ⟨M, ⟨oE, hoE, rfl, hM⟩, f1', hSa⟩, f2', h1⟩
  rw [h1, hSa]; rw [hSa] at f2'; clear h1 S1 hSa Sa
  obtain ⟨qe, de, hqe⟩ := outV_eq hoE
  rw [hqe]
  have hSM : S.Less M := by rw [hM]; exact outN_over hoE
  have hWM : Sl 3 wrF M (.slice pw d.waits.length cw) d.waits := hW.less hSM
  refine arun_nil ⟨fun _ => less_, ?_⟩
  refine dP (hc := fun _ => Calm.fieldAddr ty_field_25_1 rfl) (h := ?_)
  refine draw_only rfl ?_
  refine ARun.call (lit_lt rfl) go_89 rfl (((disk_CloneW _ d.waits M hWM hz2).frame f1').frame f2') ?_
  rintro _ S1 ⟨Sa, ⟨M2, ⟨oW, hoW, rfl, hM2⟩, f1'', hSa⟩, f2'', h1⟩
  rw [h1, hSa]; rw [hSa] at f2''; clear h1 S1 hSa Sa
  obtain ⟨g2m, _⟩ := fresh_set f2''
  obtain ⟨qw, dw, hqw⟩ := outV_eq hoW
  rw [hqw]
  have hSM2 : S.Less M2 := hSM.trans (by rw [hM2]; exact outN_over hoW)
  refine arun_nil ⟨fun _ => less_, ?_⟩
  refine draw_only rfl ?_
  refine ARun.store1 rfl rfl ty_size_22 rfl own_ lens_ rfl ?_
  (try simp only [Mem.set_set, List.set_cons_zero, List.set_cons_succ, Nat.zero_add, Nat.reduceAdd])
  refine arun_nil ⟨fun h => absurd h (by decide), ?_⟩
  refine dP (hc := fun _ => Calm.fieldAddr ty_field_25_2 rfl) (h := ?_)
  refine draw_only rfl ?_
  refine ARun.store1 rfl rfl ty_size_23 rfl own_ lens_ rfl ?_
  (try simp only [Mem.set_set, List.set_cons_zero, List.set_cons_succ, Nat.zero_add, Nat.reduceAdd])
  refine arun_nil ⟨fun h => absurd h (by decide), ?_⟩
  refine draw_nil ?_
  refine athen_n ?_
  refine AWP.sub [(0, _), (1, _), (2, _)] ⟨rfl, rfl, rfl, trivial⟩ ?_
  refine AWP.seq ?_
  refine AWP.region ?_
  refine rC (ldA_ (cs := [_, _, _, _, _]) ty_agg_25 ty_size_25 rfl) ?_
  first | refine ARun.storeAll rfl rfl ty_size_25 own_ rfl rfl ?_ | refine ARun.store rfl rfl ty_size_25 own_ lens_ rfl ?_
  (try simp only [Mem.set_set, List.set_cons_zero, List.set_cons_succ, Nat.zero_add, Nat.reduceAdd])
  refine arun_nil ?_
  refine athen_n ?_
  refine AWP.sub [(0, _), (1, _), (2, _)] ⟨rfl, rfl, rfl, trivial⟩ ?_
  refine AWP.ret ?_
  refine ⟨_, M2, ⟨_, _, _, rfl, .inr ⟨ty_agg_25, [_, _, _, _, _], ty_size_25, rds_, rfl⟩, rfl, rfl⟩, less_, ?_⟩
  exact ⟨oE, oW, ⟨hoE, by rw [← hM]; exact hoW⟩, by unfold dkV; rw [hqe, hqw]; rfl, by rw [hM2, hM]; rfl⟩
/-- A disk that is made or changed, and an error. -/
def DkRes (p : D × Int) (S : Mem) (r : Value) (S' : Mem) : Prop := ∃ v, r = .tuple #[v, .int .i64 p.2] ∧ S.Less S' ∧ DkR S' v p.1
theorem dkR_zero (S : Mem) : DkR S (.agg #[.int .i64 0, .slice none 0 0, .slice none 0 0, .int .i64 0, .bool false]) D0 := ⟨none, 0, none, 0, rfl, Sl.nil _ _ _, Sl.nil _ _ _⟩
def makeD (n : Int) : D × Int := if n < 0 ∨ 16384 < n then (D0, 1) else (⟨n, [], [], -1, false⟩, 0)
theorem disk_Make (n : Int) (S : Mem) : ACall Try.prog 35 #[.int .i64 n] S (DkRes (makeD n) S) := by
  unfold makeD
  by_cases h1 : n < 0
  · rw [if_pos (.inl h1)]
    refine ACall.enter (args := [.int .i64 n]) (rs := [.cell 2 25, .tmp 3]) 13 [(0, .int .i64 n)] Try.func35 rfl rfl (Nat.le_of_ble_eq_true rfl) rfl ⟨rfl, trivial⟩ ?_
    refine AWP.seq ?_
    refine AWP.region ?_
    refine ARun.alloc (lit_lt rfl) ty_zero_25 ?_
    intro b2 f2
    have g2 := f2
    repeat ((with_reducible replace g2 := fresh_set g2); obtain ⟨g2, _⟩ := g2)
    (try simp only [List.length_cons, List.length_nil, Nat.zero_add, Nat.reduceAdd])
    refine rC (Calm.assign rfl) ?_
    refine arun_nil ?_
    refine athen_n ?_
    refine AWP.seq ?_
    refine AWP.seq ?_
    refine AWP.region ?_
    refine rC (Calm.move rfl) ?_
    refine rC (Calm.bin rfl rfl b_lss) ?_
    refine rC (Calm.move rfl) ?_
    first | refine rS 6 ?_ | refine rU 6 ?_ | refine rG 6 (Calm.move rfl) ?_
    first | refine rS 6 ?_ | refine rU 6 ?_ | refine rG 6 (Calm.bin rfl rfl b_gtr) ?_
    refine rC ((by first | exact Calm.pickT rfl rfl | exact Calm.pickF rfl rfl)) ?_
    refine arun_nil ?_
    refine athen_n ?_
    refine AWP.sub [(0, _), (2, _), (3, _), (9, _)] ⟨rfl, rfl, rfl, rfl, trivial⟩ ?_
    refine AWP.condT rfl (by first | rfl | (simp; done) | (simp; omega)) ?_
    refine AWP.seq ?_
    refine AWP.region ?_
    refine rC (Calm.build (cs := [_, _, _, _, _]) ty_bld_25 rfl rfl) ?_
    first | refine ARun.storeAll rfl rfl ty_size_25 own_ rfl rfl ?_ | refine ARun.store rfl rfl ty_size_25 own_ lens_ rfl ?_
    (try simp only [Mem.set_set, List.set_cons_zero, List.set_cons_succ, Nat.zero_add, Nat.reduceAdd])
    refine rC (Calm.assign rfl) ?_
    refine arun_nil ?_
    refine athen_n ?_
    refine AWP.sub [(0, _), (2, _), (3, _), (9, _)] ⟨rfl, rfl, rfl, rfl, trivial⟩ ?_
    refine AWP.ret ?_
    refine athen_ret ?_
    refine ⟨_, S, ⟨_, _, _, rfl, .inr ⟨ty_agg_25, [_, _, _, _, _], ty_size_25, rds_, rfl⟩, ⟨_, _, rfl, rfl, rfl⟩, rfl⟩, less_, ?_⟩
    exact ⟨_, rfl, Mem.Less.refl _, dkR_zero S⟩
  · by_cases h2 : 16384 < n
    · rw [if_pos (.inr h2)]
      refine ACall.enter (args := [.int .i64 n]) (rs := [.cell 2 25, .tmp 3]) 13 [(0, .int .i64 n)] Try.func35 rfl rfl (Nat.le_of_ble_eq_true rfl) rfl ⟨rfl, trivial⟩ ?_
      refine AWP.seq ?_
      refine AWP.region ?_
      refine ARun.alloc (lit_lt rfl) ty_zero_25 ?_
      intro b2 f2
      have g2 := f2
      repeat ((with_reducible replace g2 := fresh_set g2); obtain ⟨g2, _⟩ := g2)
      (try simp only [List.length_cons, List.length_nil, Nat.zero_add, Nat.reduceAdd])
      refine rC (Calm.assign rfl) ?_
      refine arun_nil ?_
      refine athen_n ?_
      refine AWP.seq ?_
      refine AWP.seq ?_
      refine AWP.region ?_
      refine rC (Calm.move rfl) ?_
      refine rC (Calm.bin rfl rfl b_lss) ?_
      refine rC (Calm.move rfl) ?_
      first | refine rS 6 ?_ | refine rU 6 ?_ | refine rG 6 (Calm.move rfl) ?_
      first | refine rS 6 ?_ | refine rU 6 ?_ | refine rG 6 (Calm.bin rfl rfl b_gtr) ?_
      refine rC ((by first | exact Calm.pickT rfl rfl | exact Calm.pickF rfl rfl)) ?_
      refine arun_nil ?_
      refine athen_n ?_
      refine AWP.sub [(0, _), (2, _), (3, _), (9, _)] ⟨rfl, rfl, rfl, rfl, trivial⟩ ?_
      refine AWP.condT rfl (by first | rfl | (simp; done) | (simp; omega)) ?_
      refine AWP.seq ?_
      refine AWP.region ?_
      refine rC (Calm.build (cs := [_, _, _, _, _]) ty_bld_25 rfl rfl) ?_
      first | refine ARun.storeAll rfl rfl ty_size_25 own_ rfl rfl ?_ | refine ARun.store rfl rfl ty_size_25 own_ lens_ rfl ?_
      (try simp only [Mem.set_set, List.set_cons_zero, List.set_cons_succ, Nat.zero_add, Nat.reduceAdd])
      refine rC (Calm.assign rfl) ?_
      refine arun_nil ?_
      refine athen_n ?_
      refine AWP.sub [(0, _), (2, _), (3, _), (9, _)] ⟨rfl, rfl, rfl, rfl, trivial⟩ ?_
      refine AWP.ret ?_
      refine athen_ret ?_
      refine ⟨_, S, ⟨_, _, _, rfl, .inr ⟨ty_agg_25, [_, _, _, _, _], ty_size_25, rds_, rfl⟩, ⟨_, _, rfl, rfl, rfl⟩, rfl⟩, less_, ?_⟩
      exact ⟨_, rfl, Mem.Less.refl _, dkR_zero S⟩
    · rw [if_neg (by omega)]
      refine ACall.enter (args := [.int .i64 n]) (rs := [.cell 2 25, .tmp 3]) 13 [(0, .int .i64 n)] Try.func35 rfl rfl (Nat.le_of_ble_eq_true rfl) rfl ⟨rfl, trivial⟩ ?_
      refine AWP.seq ?_
      refine AWP.region ?_
      refine ARun.alloc (lit_lt rfl) ty_zero_25 ?_
      intro b2 f2
      have g2 := f2
      repeat ((with_reducible replace g2 := fresh_set g2); obtain ⟨g2, _⟩ := g2)
      (try simp only [List.length_cons, List.length_nil, Nat.zero_add, Nat.reduceAdd])
      refine rC (Calm.assign rfl) ?_
      refine arun_nil ?_
      refine athen_n ?_
      refine AWP.seq ?_
      refine AWP.seq ?_
      refine AWP.region ?_
      refine rC (Calm.move rfl) ?_
      refine rC (Calm.bin rfl rfl b_lss) ?_
      refine rC (Calm.move rfl) ?_
      first | refine rS 6 ?_ | refine rU 6 ?_ | refine rG 6 (Calm.move rfl) ?_
      first | refine rS 6 ?_ | refine rU 6 ?_ | refine rG 6 (Calm.bin rfl rfl b_gtr) ?_
      refine rC ((by first | exact Calm.pickT rfl rfl | exact Calm.pickF rfl rfl)) ?_
      refine arun_nil ?_
      refine athen_n ?_
      refine AWP.sub [(0, _), (2, _), (3, _), (9, _)] ⟨rfl, rfl, rfl, rfl, trivial⟩ ?_
      refine AWP.condF rfl (by first | rfl | (simp; done) | (simp; omega)) ?_
      refine AWP.skip ?_
      refine athen_n ?_
      refine AWP.seq ?_
      refine AWP.region ?_
      refine rC (Calm.move rfl) ?_
      refine rC (Calm.build (cs := [_, _, _, _, _]) ty_bld_25 rfl rfl) ?_
      first | refine ARun.storeAll rfl rfl ty_size_25 own_ rfl rfl ?_ | refine ARun.store rfl rfl ty_size_25 own_ lens_ rfl ?_
      (try simp only [Mem.set_set, List.set_cons_zero, List.set_cons_succ, Nat.zero_add, Nat.reduceAdd])
      refine rC (Calm.assign rfl) ?_
      refine arun_nil ?_
      refine athen_n ?_
      refine AWP.sub [(0, _), (2, _), (3, _), (9, _)] ⟨rfl, rfl, rfl, rfl, trivial⟩ ?_
      refine AWP.ret ?_
      refine ⟨_, S, ⟨_, _, _, rfl, .inr ⟨ty_agg_25, [_, _, _, _, _], ty_size_25, rds_, rfl⟩, ⟨_, _, rfl, rfl, rfl⟩, rfl⟩, less_, ?_⟩
      exact ⟨_, rfl, Mem.Less.refl _, none, 0, none, 0, rfl, Sl.nil _ _ _, Sl.nil _ _ _⟩
theorem rdisk_Make (n : Int) (S : Mem) : ACall Try.prog 36 #[.int .i64 n] S (DkRes (makeD n) S) := by
  unfold makeD
  by_cases h1 : n < 0
  · rw [if_pos (.inl h1)]
    refine ACall.enter (args := [.int .i64 n]) (rs := [.cell 2 25, .tmp 3]) 13 [(0, .int .i64 n)] Try.func36 rfl rfl (Nat.le_of_ble_eq_true rfl) rfl ⟨rfl, trivial⟩ ?_
    refine AWP.seq ?_
    refine AWP.region ?_
    refine ARun.alloc (lit_lt rfl) ty_zero_25 ?_
    intro b2 f2
    have g2 := f2
    repeat ((with_reducible replace g2 := fresh_set g2); obtain ⟨g2, _⟩ := g2)
    (try simp only [List.length_cons, List.length_nil, Nat.zero_add, Nat.reduceAdd])
    refine rC (Calm.assign rfl) ?_
    refine arun_nil ?_
    refine athen_n ?_
    refine AWP.seq ?_
    refine AWP.seq ?_
    refine AWP.region ?_
    refine rC (Calm.move rfl) ?_
    refine rC (Calm.bin rfl rfl b_lss) ?_
    refine rC (Calm.move rfl) ?_
    first | refine rS 6 ?_ | refine rU 6 ?_ | refine rG 6 (Calm.move rfl) ?_
    first | refine rS 6 ?_ | refine rU 6 ?_ | refine rG 6 (Calm.bin rfl rfl b_gtr) ?_
    refine rC ((by first | exact Calm.pickT rfl rfl | exact Calm.pickF rfl rfl)) ?_
    refine arun_nil ?_
    refine athen_n ?_
    refine AWP.sub [(0, _), (2, _), (3, _), (9, _)] ⟨rfl, rfl, rfl, rfl, trivial⟩ ?_
    refine AWP.condT rfl (by first | rfl | (simp; done) | (simp; omega)) ?_
    refine AWP.seq ?_
    refine AWP.region ?_
    refine rC (Calm.build (cs := [_, _, _, _, _]) ty_bld_25 rfl rfl) ?_
    first | refine ARun.storeAll rfl rfl ty_size_25 own_ rfl rfl ?_ | refine ARun.store rfl rfl ty_size_25 own_ lens_ rfl ?_
    (try simp only [Mem.set_set, List.set_cons_zero, List.set_cons_succ, Nat.zero_add, Nat.reduceAdd])
    refine rC (Calm.assign rfl) ?_
    refine arun_nil ?_
    refine athen_n ?_
    refine AWP.sub [(0, _), (2, _), (3, _), (9, _)] ⟨rfl, rfl, rfl, rfl, trivial⟩ ?_
    refine AWP.ret ?_
    refine athen_ret ?_
    refine ⟨_, S, ⟨_, _, _, rfl, .inr ⟨ty_agg_25, [_, _, _, _, _], ty_size_25, rds_, rfl⟩, ⟨_, _, rfl, rfl, rfl⟩, rfl⟩, less_, ?_⟩
    exact ⟨_, rfl, Mem.Less.refl _, dkR_zero S⟩
  · by_cases h2 : 16384 < n
    · rw [if_pos (.inr h2)]
      refine ACall.enter (args := [.int .i64 n]) (rs := [.cell 2 25, .tmp 3]) 13 [(0, .int .i64 n)] Try.func36 rfl rfl (Nat.le_of_ble_eq_true rfl) rfl ⟨rfl, trivial⟩ ?_
      refine AWP.seq ?_
      refine AWP.region ?_
      refine ARun.alloc (lit_lt rfl) ty_zero_25 ?_
      intro b2 f2
      have g2 := f2
      repeat ((with_reducible replace g2 := fresh_set g2); obtain ⟨g2, _⟩ := g2)
      (try simp only [List.length_cons, List.length_nil, Nat.zero_add, Nat.reduceAdd])
      refine rC (Calm.assign rfl) ?_
      refine arun_nil ?_
      refine athen_n ?_
      refine AWP.seq ?_
      refine AWP.seq ?_
      refine AWP.region ?_
      refine rC (Calm.move rfl) ?_
      refine rC (Calm.bin rfl rfl b_lss) ?_
      refine rC (Calm.move rfl) ?_
      first | refine rS 6 ?_ | refine rU 6 ?_ | refine rG 6 (Calm.move rfl) ?_
      first | refine rS 6 ?_ | refine rU 6 ?_ | refine rG 6 (Calm.bin rfl rfl b_gtr) ?_
      refine rC ((by first | exact Calm.pickT rfl rfl | exact Calm.pickF rfl rfl)) ?_
      refine arun_nil ?_
      refine athen_n ?_
      refine AWP.sub [(0, _), (2, _), (3, _), (9, _)] ⟨rfl, rfl, rfl, rfl, trivial⟩ ?_
      refine AWP.condT rfl (by first | rfl | (simp; done) | (simp; omega)) ?_
      refine AWP.seq ?_
      refine AWP.region ?_
      refine rC (Calm.build (cs := [_, _, _, _, _]) ty_bld_25 rfl rfl) ?_
      first | refine ARun.storeAll rfl rfl ty_size_25 own_ rfl rfl ?_ | refine ARun.store rfl rfl ty_size_25 own_ lens_ rfl ?_
      (try simp only [Mem.set_set, List.set_cons_zero, List.set_cons_succ, Nat.zero_add, Nat.reduceAdd])
      refine rC (Calm.assign rfl) ?_
      refine arun_nil ?_
      refine athen_n ?_
      refine AWP.sub [(0, _), (2, _), (3, _), (9, _)] ⟨rfl, rfl, rfl, rfl, trivial⟩ ?_
      refine AWP.ret ?_
      refine athen_ret ?_
      refine ⟨_, S, ⟨_, _, _, rfl, .inr ⟨ty_agg_25, [_, _, _, _, _], ty_size_25, rds_, rfl⟩, ⟨_, _, rfl, rfl, rfl⟩, rfl⟩, less_, ?_⟩
      exact ⟨_, rfl, Mem.Less.refl _, dkR_zero S⟩
    · rw [if_neg (by omega)]
      refine ACall.enter (args := [.int .i64 n]) (rs := [.cell 2 25, .tmp 3]) 13 [(0, .int .i64 n)] Try.func36 rfl rfl (Nat.le_of_ble_eq_true rfl) rfl ⟨rfl, trivial⟩ ?_
      refine AWP.seq ?_
      refine AWP.region ?_
      refine ARun.alloc (lit_lt rfl) ty_zero_25 ?_
      intro b2 f2
      have g2 := f2
      repeat ((with_reducible replace g2 := fresh_set g2); obtain ⟨g2, _⟩ := g2)
      (try simp only [List.length_cons, List.length_nil, Nat.zero_add, Nat.reduceAdd])
      refine rC (Calm.assign rfl) ?_
      refine arun_nil ?_
      refine athen_n ?_
      refine AWP.seq ?_
      refine AWP.seq ?_
      refine AWP.region ?_
      refine rC (Calm.move rfl) ?_
      refine rC (Calm.bin rfl rfl b_lss) ?_
      refine rC (Calm.move rfl) ?_
      first | refine rS 6 ?_ | refine rU 6 ?_ | refine rG 6 (Calm.move rfl) ?_
      first | refine rS 6 ?_ | refine rU 6 ?_ | refine rG 6 (Calm.bin rfl rfl b_gtr) ?_
      refine rC ((by first | exact Calm.pickT rfl rfl | exact Calm.pickF rfl rfl)) ?_
      refine arun_nil ?_
      refine athen_n ?_
      refine AWP.sub [(0, _), (2, _), (3, _), (9, _)] ⟨rfl, rfl, rfl, rfl, trivial⟩ ?_
      refine AWP.condF rfl (by first | rfl | (simp; done) | (simp; omega)) ?_
      refine AWP.skip ?_
      refine athen_n ?_
      refine AWP.seq ?_
      refine AWP.region ?_
      refine rC (Calm.move rfl) ?_
      refine rC (Calm.build (cs := [_, _, _, _, _]) ty_bld_25 rfl rfl) ?_
      first | refine ARun.storeAll rfl rfl ty_size_25 own_ rfl rfl ?_ | refine ARun.store rfl rfl ty_size_25 own_ lens_ rfl ?_
      (try simp only [Mem.set_set, List.set_cons_zero, List.set_cons_succ, Nat.zero_add, Nat.reduceAdd])
      refine rC (Calm.assign rfl) ?_
      refine arun_nil ?_
      refine athen_n ?_
      refine AWP.sub [(0, _), (2, _), (3, _), (9, _)] ⟨rfl, rfl, rfl, rfl, trivial⟩ ?_
      refine AWP.ret ?_
      refine ⟨_, S, ⟨_, _, _, rfl, .inr ⟨ty_agg_25, [_, _, _, _, _], ty_size_25, rds_, rfl⟩, ⟨_, _, rfl, rfl, rfl⟩, rfl⟩, less_, ?_⟩
      exact ⟨_, rfl, Mem.Less.refl _, none, 0, none, 0, rfl, Sl.nil _ _ _, Sl.nil _ _ _⟩
/-- A disk at work: its block p, its slices its own. -/
def devM (S : Mem) (p : Nat) (d : D) (oE oW : Option (Nat × Nat)) : Mem := (dkM S d oE oW).set p ⟨90, [.int .i64 d.size, outV oE d.ext.length, outV oW d.waits.length, .int .i64 d.fuse, .bool d.down], 5⟩
structure OkV (S : Mem) (p : Nat) (d : D) (oE oW : Option (Nat × Nat)) : Prop where
  dk : OkD S d oE oW
  fr : Fresh (dkM S d oE oW) p
noncomputable def openD (d : D) : D × Int := if chkD d = 0 then (d, if d.down = true then 10 else 0) else (D0, 2)
/-- A disk at work, and an error. -/
def OpenR (p : D × Int) (S : Mem) (r : Value) (S' : Mem) : Prop := ∃ b oE oW, OkV S b p.1 oE oW ∧ r = .tuple #[.pointer (some ⟨b, 0, none⟩), .int .i64 p.2] ∧ S' = devM S b p.1 oE oW
set_option maxHeartbeats 1000000 in
theorem disk_Open (v : Value) (d : D) (S : Mem) (hd : DkR S v d) (hz : Dz d) :
    ACall Try.prog 44 #[v] S (OpenR (openD d) S) := by
  have hcheck := fun M h => disk_Check v d M h hz
  have hown := fun M h => disk_Own v d M h hz.el hz.wl
  obtain ⟨pe, ce, pw, cw, rfl, hE, hW⟩ := id hd
  unfold openD
  rcases chkD_or d with ⟨hk, hR⟩ | ⟨hk, hR⟩
  · rw [if_pos hk]
    refine ACall.enter (args := [.agg #[.int .i64 d.size, .slice pe d.ext.length ce, .slice pw d.waits.length cw, .int .i64 d.fuse, .bool d.down]]) (rs := [.tmp 2, .tmp 3]) 21 [(0, .agg #[.int .i64 d.size, .slice pe d.ext.length ce, .slice pw d.waits.length cw, .int .i64 d.fuse, .bool d.down])] Try.func44 rfl rfl (Nat.le_of_ble_eq_true rfl) rfl ⟨rfl, trivial⟩ ?_
    refine AWP.seq ?_
    refine AWP.region ?_
    refine ARun.boxA (cs := [_, _, _, _, _]) (lit_lt rfl) rfl ?_
    intro b1 f1
    have g1 := f1
    repeat ((with_reducible replace g1 := fresh_set g1); obtain ⟨g1, _⟩ := g1)
    (try simp only [List.length_cons, List.length_nil, Nat.zero_add, Nat.reduceAdd])
    refine rC (Calm.assign rfl) ?_
    refine rC (Calm.assign rfl) ?_
    refine arun_nil ?_
    refine athen_n ?_
    refine AWP.seq ?_
    refine AWP.seq ?_
    refine AWP.region ?_
    refine rC (ldA_ (cs := [_, _, _, _, _]) ty_agg_25 ty_size_25 rfl) ?_
    refine ARun.call (lit_lt rfl) go_25 rfl (hcheck _ (hd.less less_)) ?_
    rintro _ S1 ⟨rfl, h1⟩
    rw [h1, hk]; clear h1 S1
    refine rC (Calm.assign rfl) ?_
    refine arun_nil ?_
    refine athen_n ?_
    refine AWP.sub [(0, _), (1, _), (2, _), (3, _), (4, _)] ⟨rfl, rfl, rfl, rfl, rfl, trivial⟩ ?_
    refine AWP.seq ?_
    refine AWP.region ?_
    refine rC (Calm.move rfl) ?_
    refine rC (Calm.bin rfl rfl b_neq) ?_
    refine arun_nil ?_
    refine athen_n ?_
    refine AWP.sub [(0, _), (1, _), (2, _), (3, _), (4, _), (9, _)] ⟨rfl, rfl, rfl, rfl, rfl, rfl, trivial⟩ ?_
    refine AWP.condF rfl (by first | rfl | (simp; done) | (simp; omega)) ?_
    refine AWP.skip ?_
    refine athen_n ?_
    refine AWP.seq ?_
    refine AWP.region ?_
    refine rC (ldA_ (cs := [_, _, _, _, _]) ty_agg_25 ty_size_25 rfl) ?_
    refine ARun.call (lit_lt rfl) go_55 rfl ((hown S hd).frame f1) ?_
    rintro _ S1 ⟨M, ⟨oE, oW, hok, rfl, hM⟩, f1', h1⟩
    rw [h1]; clear h1 S1
    have hSM : S.Less M := by rw [hM]; exact hok.less
    unfold dkV
    obtain ⟨qe, de, hqe⟩ := outV_eq hok.e
    obtain ⟨qw, dw, hqw⟩ := outV_eq hok.w
    rw [hqe, hqw]
    refine rC (Calm.build (cs := [_, _, _, _, _]) ty_bld_90 rfl rfl) ?_
    refine ARun.boxA (cs := [_, _, _, _, _]) (lit_lt rfl) rfl ?_
    intro b16 f16
    have g16 := f16
    repeat ((with_reducible replace g16 := fresh_set g16); obtain ⟨g16, _⟩ := g16)
    (try simp only [List.length_cons, List.length_nil, Nat.zero_add, Nat.reduceAdd])
    refine rC (Calm.assign rfl) ?_
    refine arun_nil ?_
    refine athen_n ?_
    refine AWP.sub [(0, _), (1, _), (2, _), (3, _), (4, _), (9, _), (5, _)] ⟨rfl, rfl, rfl, rfl, rfl, rfl, rfl, trivial⟩ ?_
    refine AWP.seq ?_
    refine AWP.seq ?_
    refine AWP.region ?_
    refine rC (Calm.fieldAddr ty_field_25_4 rfl) ?_
    refine rC (ld_ ty_plain_4 rfl) ?_
    refine arun_nil ?_
    refine athen_n ?_
    refine AWP.sub [(0, _), (1, _), (2, _), (3, _), (4, _), (9, _), (5, _), (18, _)] ⟨rfl, rfl, rfl, rfl, rfl, rfl, rfl, rfl, trivial⟩ ?_
    refine AWP.condB rfl (fun hb => ?_) (fun hb => ?_)
    · refine AWP.seq ?_
      refine AWP.region ?_
      refine rC (Calm.move rfl) ?_
      refine rC (Calm.assign rfl) ?_
      refine rC (Calm.assign rfl) ?_
      refine arun_nil ?_
      refine athen_n ?_
      refine AWP.sub [(0, _), (1, _), (2, _), (3, _), (4, _), (9, _), (5, _), (18, _)] ⟨rfl, rfl, rfl, rfl, rfl, rfl, rfl, rfl, trivial⟩ ?_
      refine AWP.ret ?_
      refine athen_ret ?_
      refine ⟨_, M.set b16 _, ⟨_, _, rfl, ⟨_, _, rfl, rfl, rfl⟩, rfl⟩, Less.set (Mem.less_set _ _ _ f1'.1) _ _, ?_⟩
      exact ⟨b16, oE, oW, ⟨hok, by rw [← hM]; exact g16⟩, by rw [if_pos hb]; rfl, by unfold devM; rw [hqe, hqw, ← hM]⟩
    · refine AWP.skip ?_
      refine athen_n ?_
      refine AWP.seq ?_
      refine AWP.region ?_
      refine rC (Calm.move rfl) ?_
      refine rC (Calm.assign rfl) ?_
      refine rC (Calm.assign rfl) ?_
      refine arun_nil ?_
      refine athen_n ?_
      refine AWP.sub [(0, _), (1, _), (2, _), (3, _), (4, _), (9, _), (5, _), (18, _)] ⟨rfl, rfl, rfl, rfl, rfl, rfl, rfl, rfl, trivial⟩ ?_
      refine AWP.ret ?_
      refine ⟨_, M.set b16 _, ⟨_, _, rfl, ⟨_, _, rfl, rfl, rfl⟩, rfl⟩, Less.set (Mem.less_set _ _ _ f1'.1) _ _, ?_⟩
      exact ⟨b16, oE, oW, ⟨hok, by rw [← hM]; exact g16⟩, by rw [if_neg (Bool.eq_false_iff.1 hb)]; rfl, by unfold devM; rw [hqe, hqw, ← hM]⟩
  · rw [if_neg (by rw [hk]; decide)]
    refine ACall.enter (args := [.agg #[.int .i64 d.size, .slice pe d.ext.length ce, .slice pw d.waits.length cw, .int .i64 d.fuse, .bool d.down]]) (rs := [.tmp 2, .tmp 3]) 21 [(0, .agg #[.int .i64 d.size, .slice pe d.ext.length ce, .slice pw d.waits.length cw, .int .i64 d.fuse, .bool d.down])] Try.func44 rfl rfl (Nat.le_of_ble_eq_true rfl) rfl ⟨rfl, trivial⟩ ?_
    refine AWP.seq ?_
    refine AWP.region ?_
    refine ARun.boxA (cs := [_, _, _, _, _]) (lit_lt rfl) rfl ?_
    intro b1 f1
    have g1 := f1
    repeat ((with_reducible replace g1 := fresh_set g1); obtain ⟨g1, _⟩ := g1)
    (try simp only [List.length_cons, List.length_nil, Nat.zero_add, Nat.reduceAdd])
    refine rC (Calm.assign rfl) ?_
    refine rC (Calm.assign rfl) ?_
    refine arun_nil ?_
    refine athen_n ?_
    refine AWP.seq ?_
    refine AWP.seq ?_
    refine AWP.region ?_
    refine rC (ldA_ (cs := [_, _, _, _, _]) ty_agg_25 ty_size_25 rfl) ?_
    refine ARun.call (lit_lt rfl) go_25 rfl (hcheck _ (hd.less less_)) ?_
    rintro _ S1 ⟨rfl, h1⟩
    rw [h1, hk]; clear h1 S1
    refine rC (Calm.assign rfl) ?_
    refine arun_nil ?_
    refine athen_n ?_
    refine AWP.sub [(0, _), (1, _), (2, _), (3, _), (4, _)] ⟨rfl, rfl, rfl, rfl, rfl, trivial⟩ ?_
    refine AWP.seq ?_
    refine AWP.region ?_
    refine rC (Calm.move rfl) ?_
    refine rC (Calm.bin rfl rfl b_neq) ?_
    refine arun_nil ?_
    refine athen_n ?_
    refine AWP.sub [(0, _), (1, _), (2, _), (3, _), (4, _), (9, _)] ⟨rfl, rfl, rfl, rfl, rfl, rfl, trivial⟩ ?_
    refine AWP.condT rfl (by first | rfl | (simp; done) | (simp; omega)) ?_
    refine AWP.seq ?_
    refine AWP.region ?_
    refine rC (Calm.build (cs := [_, _, _, _, _]) ty_bld_90 rfl rfl) ?_
    refine ARun.boxA (cs := [_, _, _, _, _]) (lit_lt rfl) rfl ?_
    intro b11 f11
    have g11 := f11
    repeat ((with_reducible replace g11 := fresh_set g11); obtain ⟨g11, _⟩ := g11)
    (try simp only [List.length_cons, List.length_nil, Nat.zero_add, Nat.reduceAdd])
    refine rC (Calm.move rfl) ?_
    refine rC (Calm.assign rfl) ?_
    refine rC (Calm.assign rfl) ?_
    refine arun_nil ?_
    refine athen_n ?_
    refine AWP.sub [(0, _), (1, _), (2, _), (3, _), (4, _), (9, _)] ⟨rfl, rfl, rfl, rfl, rfl, rfl, trivial⟩ ?_
    refine AWP.ret ?_
    refine athen_ret ?_
    refine ⟨_, S.set b11 _, ⟨_, _, rfl, ⟨_, _, rfl, rfl, rfl⟩, rfl⟩, Less.set (Mem.less_set _ _ _ f1.1) _ _, ?_⟩
    exact ⟨b11, none, none, ⟨⟨okO_nil _, okO_nil _⟩, g11⟩, rfl, rfl⟩
end Go.Proofs.Ytkeiphkccnfhoaa
