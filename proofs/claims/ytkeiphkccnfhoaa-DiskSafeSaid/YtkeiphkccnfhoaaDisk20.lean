/-
  Disk: Sync, Crash.
-/
import Derived.Test.YtkeiphkccnfhoaaDisk19
namespace Go.Proofs.Ytkeiphkccnfhoaa
open Go.RowKit
open Mv Disk
set_option linter.unusedVariables false
set_option linter.unusedSimpArgs false
set_option maxRecDepth 4000
def bools (b : Bool) : List Value := [.bool b]
theorem dev_Sync1 (k : Int) (S : Mem) : ACall Try.prog 96 #[.int .i64 k] S fun r S' => r = .bool true ∧ S' = S := by
  refine ACall.enter (args := [.int .i64 k]) (rs := [.tmp 2]) 3 [(0, .int .i64 k)] Try.func96 rfl rfl (Nat.le_of_ble_eq_true rfl) rfl ⟨rfl, trivial⟩ ?_
  refine AWP.seq ?_
  refine AWP.region ?_
  refine rC (Calm.assign rfl) ?_
  refine arun_nil ?_
  refine athen_n ?_
  refine AWP.sub [(2, _)] ⟨rfl, trivial⟩ ?_
  refine AWP.seq ?_
  refine AWP.region ?_
  refine rC (Calm.assign rfl) ?_
  refine arun_nil ?_
  refine athen_n ?_
  refine AWP.ret ?_
  refine ⟨_, S, ⟨_, _, rfl, rfl, rfl⟩, less_, ?_⟩
  exact ⟨rfl, rfl⟩
theorem dev_Sync (p : Nat) (d : D) (S : Mem) (oE oW : Option (Nat × Nat)) (hok : OkV S p d oE oW) (hR : Right d) :
    ACall Try.prog 65 #[.pointer (some ⟨p, 0, none⟩)] (devM S p d oE oW) fun r S' => ∃ oE' oW', OkV S p (settleD d fun _ => true) oE' oW' ∧ r = .tuple #[] ∧ S' = devM S p (settleD d fun _ => true) oE' oW' := by
  have h := dev_settle p d S oE oW hok hR 96 [] go_96 (fun _ => true) (fun k M _ _ => dev_Sync1 k M)
  generalize devM S p d oE oW = M at *
  refine ACall.enter (args := [.pointer (some ⟨p, 0, none⟩)]) (rs := []) 4 [(0, .pointer (some ⟨p, 0, none⟩))] Try.func65 rfl rfl (Nat.le_of_ble_eq_true rfl) rfl ⟨rfl, trivial⟩ ?_
  refine AWP.region ?_
  refine rC (Calm.move rfl) ?_
  refine ARun.call (lit_lt rfl) go_67 rfl (h) ?_
  rintro _ S1 ⟨rfl, hok', h1⟩
  rw [h1]; clear h1 S1
  refine arun_nil ?_
  refine ⟨_, _, rfl, Mem.Less.refl _, ?_⟩
  exact ⟨oE, none, hok', rfl, rfl⟩
theorem settle_lens {d : D} (hR : Right d) (kp : Nat → Bool) : (settleD d kp).ext.length ≤ 9223372036854775807 ∧ (settleD d kp).waits.length ≤ 9223372036854775807 := by
  have h := right_lens hR
  exact ⟨by show (List.map _ _).length ≤ _; rw [List.length_map]; exact h.1, by show (0 : Nat) ≤ _; exact Nat.zero_le _⟩
def syncD (d : D) : D × Int := (settleD d fun _ => true, 0)
set_option maxHeartbeats 1000000 in
theorem disk_Sync (v : Value) (d : D) (S : Mem) (hd : DkR S v d) (hz : Dz d) :
    ACall Try.prog 31 #[v] S (DkRes (opened d (syncD d)) S) := by
  have hopen := disk_Open v d S hd hz
  obtain ⟨pe, ce, pw, cw, rfl, hE, hW⟩ := id hd
  unfold opened
  rcases openD_or d with ⟨ho, hR⟩ | ⟨ho, hR, hdn⟩ | ⟨ho, hR, hdn⟩ <;> rw [ho] at hopen ⊢
  · rw [if_neg (show ¬ (2 : Int) = 0 from by decide)]
    refine ACall.enter (args := [.agg #[.int .i64 d.size, .slice pe d.ext.length ce, .slice pw d.waits.length cw, .int .i64 d.fuse, .bool d.down]]) (rs := [.cell 2 25, .tmp 3]) 20 [(0, .agg #[.int .i64 d.size, .slice pe d.ext.length ce, .slice pw d.waits.length cw, .int .i64 d.fuse, .bool d.down])] Try.func31 rfl rfl (Nat.le_of_ble_eq_true rfl) rfl ⟨rfl, trivial⟩ ?_
    refine AWP.seq ?_
    refine AWP.region ?_
    refine ARun.boxA (cs := [_, _, _, _, _]) (lit_lt rfl) rfl ?_
    intro b1 f1
    have g1 := f1
    repeat ((with_reducible replace g1 := fresh_set g1); obtain ⟨g1, _⟩ := g1)
    (try simp only [List.length_cons, List.length_nil, Nat.zero_add, Nat.reduceAdd])
    refine ARun.alloc (lit_lt rfl) ty_zero_25 ?_
    intro b2 f2
    have g2 := f2
    repeat ((with_reducible replace g2 := fresh_set g2); obtain ⟨g2, _⟩ := g2)
    (try simp only [List.length_cons, List.length_nil, Nat.zero_add, Nat.reduceAdd])
    refine rC (Calm.assign rfl) ?_
    refine arun_nil ?_
    refine athen_n ?_
    refine AWP.seq ?_
    refine AWP.region ?_
    refine rC (ldA_ (cs := [_, _, _, _, _]) ty_agg_25 ty_size_25 rfl) ?_
    refine ARun.call (lit_lt rfl) go_44 rfl ((hopen.frame f1).frame f2) ?_
    rintro _ S1 ⟨Sa, ⟨M, ⟨p, oE, oW, hok, rfl, hM⟩, fa, hSa⟩, fb, h1⟩
    rw [h1, hSa]; rw [hSa] at fb; clear h1 S1 hSa Sa
    refine rC (Calm.move rfl) ?_
    refine rC (Calm.extract rfl rfl) ?_
    refine rC (Calm.extract rfl rfl) ?_
    refine rC (Calm.assign rfl) ?_
    refine rC (Calm.assign rfl) ?_
    refine arun_nil ?_
    refine athen_n ?_
    refine AWP.sub [(0, _), (1, _), (2, _), (3, _), (4, _), (5, _)] ⟨rfl, rfl, rfl, rfl, rfl, rfl, trivial⟩ ?_
    refine AWP.seq ?_
    refine AWP.seq ?_
    refine AWP.region ?_
    refine rC (Calm.move rfl) ?_
    refine rC (Calm.bin rfl rfl b_eql) ?_
    refine arun_nil ?_
    refine athen_n ?_
    refine AWP.sub [(0, _), (1, _), (2, _), (3, _), (4, _), (5, _), (12, _)] ⟨rfl, rfl, rfl, rfl, rfl, rfl, rfl, trivial⟩ ?_
    refine AWP.condF rfl (by first | rfl | (simp; done) | (simp; omega)) ?_
    rw [hM] at fa fb ⊢
    refine AWP.skip ?_
    refine athen_n ?_
    refine AWP.seq ?_
    refine AWP.region ?_
    refine rC (Calm.move rfl) ?_
    refine rC (Calm.move rfl) ?_
    refine ARun.call (lit_lt rfl) go_46 rfl (((disk_done p D0 2 S oE oW hok (by decide) (by decide)).frame fa).frame fb) ?_
    rintro _ S1 ⟨Sa, ⟨M2, ⟨v, rfl, hl2, hdk⟩, fc, hSa⟩, fd, h1⟩
    rw [h1, hSa]; rw [hSa] at fd; clear h1 S1 hSa Sa
    obtain ⟨qe, de, qw, dw, rfl, _⟩ := id hdk
    obtain ⟨ge, _⟩ := fresh_set fd
    refine rC (Calm.extract rfl rfl) ?_
    refine rC (Calm.extract rfl rfl) ?_
    first | refine ARun.storeAll rfl rfl ty_size_25 own_ rfl rfl ?_ | refine ARun.store rfl rfl ty_size_25 own_ lens_ rfl ?_
    (try simp only [Mem.set_set, List.set_cons_zero, List.set_cons_succ, Nat.zero_add, Nat.reduceAdd])
    refine rC (Calm.assign rfl) ?_
    refine arun_nil ?_
    refine athen_n ?_
    refine AWP.sub [(0, _), (1, _), (2, _), (3, _), (4, _), (5, _), (12, _)] ⟨rfl, rfl, rfl, rfl, rfl, rfl, rfl, trivial⟩ ?_
    refine AWP.ret ?_
    refine ⟨_, M2, ⟨_, _, _, rfl, .inr ⟨ty_agg_25, [_, _, _, _, _], ty_size_25, rds_, rfl⟩, ⟨_, _, rfl, rfl, rfl⟩, rfl⟩, less_, ?_⟩
    exact ⟨_, rfl, hl2, hdk⟩
  · rw [if_neg (show ¬ (10 : Int) = 0 from by decide)]
    refine ACall.enter (args := [.agg #[.int .i64 d.size, .slice pe d.ext.length ce, .slice pw d.waits.length cw, .int .i64 d.fuse, .bool d.down]]) (rs := [.cell 2 25, .tmp 3]) 20 [(0, .agg #[.int .i64 d.size, .slice pe d.ext.length ce, .slice pw d.waits.length cw, .int .i64 d.fuse, .bool d.down])] Try.func31 rfl rfl (Nat.le_of_ble_eq_true rfl) rfl ⟨rfl, trivial⟩ ?_
    refine AWP.seq ?_
    refine AWP.region ?_
    refine ARun.boxA (cs := [_, _, _, _, _]) (lit_lt rfl) rfl ?_
    intro b1 f1
    have g1 := f1
    repeat ((with_reducible replace g1 := fresh_set g1); obtain ⟨g1, _⟩ := g1)
    (try simp only [List.length_cons, List.length_nil, Nat.zero_add, Nat.reduceAdd])
    refine ARun.alloc (lit_lt rfl) ty_zero_25 ?_
    intro b2 f2
    have g2 := f2
    repeat ((with_reducible replace g2 := fresh_set g2); obtain ⟨g2, _⟩ := g2)
    (try simp only [List.length_cons, List.length_nil, Nat.zero_add, Nat.reduceAdd])
    refine rC (Calm.assign rfl) ?_
    refine arun_nil ?_
    refine athen_n ?_
    refine AWP.seq ?_
    refine AWP.region ?_
    refine rC (ldA_ (cs := [_, _, _, _, _]) ty_agg_25 ty_size_25 rfl) ?_
    refine ARun.call (lit_lt rfl) go_44 rfl ((hopen.frame f1).frame f2) ?_
    rintro _ S1 ⟨Sa, ⟨M, ⟨p, oE, oW, hok, rfl, hM⟩, fa, hSa⟩, fb, h1⟩
    rw [h1, hSa]; rw [hSa] at fb; clear h1 S1 hSa Sa
    refine rC (Calm.move rfl) ?_
    refine rC (Calm.extract rfl rfl) ?_
    refine rC (Calm.extract rfl rfl) ?_
    refine rC (Calm.assign rfl) ?_
    refine rC (Calm.assign rfl) ?_
    refine arun_nil ?_
    refine athen_n ?_
    refine AWP.sub [(0, _), (1, _), (2, _), (3, _), (4, _), (5, _)] ⟨rfl, rfl, rfl, rfl, rfl, rfl, trivial⟩ ?_
    refine AWP.seq ?_
    refine AWP.seq ?_
    refine AWP.region ?_
    refine rC (Calm.move rfl) ?_
    refine rC (Calm.bin rfl rfl b_eql) ?_
    refine arun_nil ?_
    refine athen_n ?_
    refine AWP.sub [(0, _), (1, _), (2, _), (3, _), (4, _), (5, _), (12, _)] ⟨rfl, rfl, rfl, rfl, rfl, rfl, rfl, trivial⟩ ?_
    refine AWP.condF rfl (by first | rfl | (simp; done) | (simp; omega)) ?_
    rw [hM] at fa fb ⊢
    refine AWP.skip ?_
    refine athen_n ?_
    refine AWP.seq ?_
    refine AWP.region ?_
    refine rC (Calm.move rfl) ?_
    refine rC (Calm.move rfl) ?_
    refine ARun.call (lit_lt rfl) go_46 rfl (((disk_done p d 10 S oE oW hok (Nat.le_trans (right_len hR).1 (by decide)) (Nat.le_trans hR.wl (by decide))).frame fa).frame fb) ?_
    rintro _ S1 ⟨Sa, ⟨M2, ⟨v, rfl, hl2, hdk⟩, fc, hSa⟩, fd, h1⟩
    rw [h1, hSa]; rw [hSa] at fd; clear h1 S1 hSa Sa
    obtain ⟨qe, de, qw, dw, rfl, _⟩ := id hdk
    obtain ⟨ge, _⟩ := fresh_set fd
    refine rC (Calm.extract rfl rfl) ?_
    refine rC (Calm.extract rfl rfl) ?_
    first | refine ARun.storeAll rfl rfl ty_size_25 own_ rfl rfl ?_ | refine ARun.store rfl rfl ty_size_25 own_ lens_ rfl ?_
    (try simp only [Mem.set_set, List.set_cons_zero, List.set_cons_succ, Nat.zero_add, Nat.reduceAdd])
    refine rC (Calm.assign rfl) ?_
    refine arun_nil ?_
    refine athen_n ?_
    refine AWP.sub [(0, _), (1, _), (2, _), (3, _), (4, _), (5, _), (12, _)] ⟨rfl, rfl, rfl, rfl, rfl, rfl, rfl, trivial⟩ ?_
    refine AWP.ret ?_
    refine ⟨_, M2, ⟨_, _, _, rfl, .inr ⟨ty_agg_25, [_, _, _, _, _], ty_size_25, rds_, rfl⟩, ⟨_, _, rfl, rfl, rfl⟩, rfl⟩, less_, ?_⟩
    exact ⟨_, rfl, hl2, hdk⟩
  · rw [if_pos rfl]
    refine ACall.enter (args := [.agg #[.int .i64 d.size, .slice pe d.ext.length ce, .slice pw d.waits.length cw, .int .i64 d.fuse, .bool d.down]]) (rs := [.cell 2 25, .tmp 3]) 20 [(0, .agg #[.int .i64 d.size, .slice pe d.ext.length ce, .slice pw d.waits.length cw, .int .i64 d.fuse, .bool d.down])] Try.func31 rfl rfl (Nat.le_of_ble_eq_true rfl) rfl ⟨rfl, trivial⟩ ?_
    refine AWP.seq ?_
    refine AWP.region ?_
    refine ARun.boxA (cs := [_, _, _, _, _]) (lit_lt rfl) rfl ?_
    intro b1 f1
    have g1 := f1
    repeat ((with_reducible replace g1 := fresh_set g1); obtain ⟨g1, _⟩ := g1)
    (try simp only [List.length_cons, List.length_nil, Nat.zero_add, Nat.reduceAdd])
    refine ARun.alloc (lit_lt rfl) ty_zero_25 ?_
    intro b2 f2
    have g2 := f2
    repeat ((with_reducible replace g2 := fresh_set g2); obtain ⟨g2, _⟩ := g2)
    (try simp only [List.length_cons, List.length_nil, Nat.zero_add, Nat.reduceAdd])
    refine rC (Calm.assign rfl) ?_
    refine arun_nil ?_
    refine athen_n ?_
    refine AWP.seq ?_
    refine AWP.region ?_
    refine rC (ldA_ (cs := [_, _, _, _, _]) ty_agg_25 ty_size_25 rfl) ?_
    refine ARun.call (lit_lt rfl) go_44 rfl ((hopen.frame f1).frame f2) ?_
    rintro _ S1 ⟨Sa, ⟨M, ⟨p, oE, oW, hok, rfl, hM⟩, fa, hSa⟩, fb, h1⟩
    rw [h1, hSa]; rw [hSa] at fb; clear h1 S1 hSa Sa
    refine rC (Calm.move rfl) ?_
    refine rC (Calm.extract rfl rfl) ?_
    refine rC (Calm.extract rfl rfl) ?_
    refine rC (Calm.assign rfl) ?_
    refine rC (Calm.assign rfl) ?_
    refine arun_nil ?_
    refine athen_n ?_
    refine AWP.sub [(0, _), (1, _), (2, _), (3, _), (4, _), (5, _)] ⟨rfl, rfl, rfl, rfl, rfl, rfl, trivial⟩ ?_
    refine AWP.seq ?_
    refine AWP.seq ?_
    refine AWP.region ?_
    refine rC (Calm.move rfl) ?_
    refine rC (Calm.bin rfl rfl b_eql) ?_
    refine arun_nil ?_
    refine athen_n ?_
    refine AWP.sub [(0, _), (1, _), (2, _), (3, _), (4, _), (5, _), (12, _)] ⟨rfl, rfl, rfl, rfl, rfl, rfl, rfl, trivial⟩ ?_
    refine AWP.condT rfl (by first | rfl | (simp; done) | (simp; omega)) ?_
    rw [hM] at fa fb ⊢
    refine AWP.region ?_
    refine rC (Calm.move rfl) ?_
    refine ARun.call (lit_lt rfl) go_65 rfl (((dev_Sync p d S oE oW hok hR).frame fa).frame fb) ?_
    rintro _ S1 ⟨Sa, ⟨M3, ⟨oE3, oW3, hok3, rfl, hM3⟩, fa3, hSa⟩, fb3, h1⟩
    rw [h1, hSa]; rw [hSa] at fb3; clear h1 S1 hSa Sa; rw [hM3] at fa3 fb3 ⊢
    refine arun_nil ?_
    refine athen_n ?_
    refine AWP.sub [(0, _), (1, _), (2, _), (3, _), (4, _), (5, _), (12, _)] ⟨rfl, rfl, rfl, rfl, rfl, rfl, rfl, trivial⟩ ?_
    refine AWP.seq ?_
    refine AWP.region ?_
    refine rC (Calm.move rfl) ?_
    refine rC (Calm.move rfl) ?_
    refine ARun.call (lit_lt rfl) go_46 rfl (((disk_done p _ _ S oE3 oW3 hok3 (settle_lens hR _).1 (settle_lens hR _).2).frame fa3).frame fb3) ?_
    rintro _ S1 ⟨Sa, ⟨M2, ⟨v, rfl, hl2, hdk⟩, fc, hSa⟩, fd, h1⟩
    rw [h1, hSa]; rw [hSa] at fd; clear h1 S1 hSa Sa
    obtain ⟨qe, de, qw, dw, rfl, _⟩ := id hdk
    obtain ⟨ge, _⟩ := fresh_set fd
    refine rC (Calm.extract rfl rfl) ?_
    refine rC (Calm.extract rfl rfl) ?_
    first | refine ARun.storeAll rfl rfl ty_size_25 own_ rfl rfl ?_ | refine ARun.store rfl rfl ty_size_25 own_ lens_ rfl ?_
    (try simp only [Mem.set_set, List.set_cons_zero, List.set_cons_succ, Nat.zero_add, Nat.reduceAdd])
    refine rC (Calm.assign rfl) ?_
    refine arun_nil ?_
    refine athen_n ?_
    refine AWP.sub [(0, _), (1, _), (2, _), (3, _), (4, _), (5, _), (12, _)] ⟨rfl, rfl, rfl, rfl, rfl, rfl, rfl, trivial⟩ ?_
    refine AWP.ret ?_
    refine ⟨_, M2, ⟨_, _, _, rfl, .inr ⟨ty_agg_25, [_, _, _, _, _], ty_size_25, rds_, rfl⟩, ⟨_, _, rfl, rfl, rfl⟩, rfl⟩, less_, ?_⟩
    exact ⟨_, rfl, hl2, hdk⟩
def keepK (l : List Bool) (k : Nat) : Bool := l.getD k false
theorem disk_Crash1 (v : Value) (l : List Bool) (k kb : Nat) (S : Mem) (hl : Sl 1 bools S v l) (hk : S.Knows ⟨kb, 0, none⟩ [v]) (hkl : k ≤ 16384) :
    ACall Try.prog 68 #[.int .i64 (k : Int), .pointer (some ⟨kb, 0, none⟩)] S fun r S' => r = .bool (keepK l k) ∧ S' = S := by
  obtain ⟨a, cap, rfl, h1, h2, h3⟩ := id hl
  unfold keepK
  by_cases hc : k < l.length
  · obtain ⟨b, off, rfl, hkk⟩ := h3.resolve_left (fun e => by subst e; simp at hc)
    have hki := hkk k hc
    unfold bools at hki
    have e : l.getD k false = l[k] := by simp [List.getD, List.getElem?_eq_getElem hc]
    rw [e]
    refine ACall.enter (args := [.int .i64 (k : Int), .pointer (some ⟨kb, 0, none⟩)]) (rs := [.tmp 3]) 14 [(0, .int .i64 (k : Int)), (1, .pointer (some ⟨kb, 0, none⟩))] Try.func68 rfl rfl (Nat.le_of_ble_eq_true rfl) rfl ⟨rfl, rfl, trivial⟩ ?_
    refine AWP.seq ?_
    refine AWP.region ?_
    refine rC (Calm.assign rfl) ?_
    refine arun_nil ?_
    refine athen_n ?_
    refine AWP.seq ?_
    refine AWP.region ?_
    refine rC (Calm.move rfl) ?_
    refine rC (ld_ ty_plain_40 rfl) ?_
    refine rC (Calm.lenSl Try.underlying40 rfl) ?_
    refine rC (Calm.bin rfl rfl b_lss) ?_
    refine rC (Calm.move rfl) ?_
    first | refine rS 8 ?_ | refine rU 8 ?_ | refine rG 8 (ld_ ty_plain_40 rfl) ?_
    first | refine rS 8 ?_ | refine rU 8 ?_ | refine rG 8 (Calm.move rfl) ?_
    first | refine rS 8 ?_ | refine rU 8 ?_ | refine rG 8 (Calm.indexS Try.underlying40 ty_size_4 rfl rfl (by omega) (by omega)) ?_
    first | refine rS 8 ?_ | refine rU 8 ?_ | refine rG 8 (ld_ ty_plain_4 rfl) ?_
    refine rC ((by first | exact Calm.pickT rfl rfl | exact Calm.pickF rfl rfl)) ?_
    refine rC (Calm.assign rfl) ?_
    refine arun_nil ?_
    refine athen_n ?_
    refine AWP.sub [(0, _), (1, _), (3, _)] ⟨rfl, rfl, rfl, trivial⟩ ?_
    refine AWP.ret ?_
    refine ⟨_, S, ⟨_, _, rfl, rfl, rfl⟩, less_, ?_⟩
    exact ⟨rfl, rfl⟩
  · have e : l.getD k false = false := by simp [List.getD, List.getElem?_eq_none (Nat.le_of_not_lt hc)]
    rw [e]
    refine ACall.enter (args := [.int .i64 (k : Int), .pointer (some ⟨kb, 0, none⟩)]) (rs := [.tmp 3]) 14 [(0, .int .i64 (k : Int)), (1, .pointer (some ⟨kb, 0, none⟩))] Try.func68 rfl rfl (Nat.le_of_ble_eq_true rfl) rfl ⟨rfl, rfl, trivial⟩ ?_
    refine AWP.seq ?_
    refine AWP.region ?_
    refine rC (Calm.assign rfl) ?_
    refine arun_nil ?_
    refine athen_n ?_
    refine AWP.seq ?_
    refine AWP.region ?_
    refine rC (Calm.move rfl) ?_
    refine rC (ld_ ty_plain_40 rfl) ?_
    refine rC (Calm.lenSl Try.underlying40 rfl) ?_
    refine rC (Calm.bin rfl rfl b_lss) ?_
    refine rC (Calm.move rfl) ?_
    first | refine rS 8 ?_ | refine rU 8 ?_ | refine rG 8 (ld_ ty_plain_40 rfl) ?_
    first | refine rS 8 ?_ | refine rU 8 ?_ | refine rG 8 (Calm.move rfl) ?_
    first | refine rS 8 ?_ | refine rU 8 ?_ | refine rG 8 (Calm.indexS Try.underlying40 ty_size_4 rfl rfl (by omega) (by omega)) ?_
    first | refine rS 8 ?_ | refine rU 8 ?_ | refine rG 8 (ld_ ty_plain_4 rfl) ?_
    refine rC ((by first | exact Calm.pickT rfl rfl | exact Calm.pickF rfl rfl)) ?_
    refine rC (Calm.assign rfl) ?_
    refine arun_nil ?_
    refine athen_n ?_
    refine AWP.sub [(0, _), (1, _), (3, _)] ⟨rfl, rfl, rfl, trivial⟩ ?_
    refine AWP.ret ?_
    refine ⟨_, S, ⟨_, _, rfl, rfl, rfl⟩, less_, ?_⟩
    exact ⟨rfl, rfl⟩
def upD (d : D) : D := { d with down := false, fuse := -1 }
noncomputable def crashD (d : D) (l : List Bool) : D × Int := if chkD d = 0 then (upD (settleD d (keepK l)), 0) else (D0, 2)
set_option maxHeartbeats 2000000 in
theorem disk_Crash (v vk : Value) (d : D) (l : List Bool) (S : Mem) (hd : DkR S v d) (hz : Dz d) (hl : Sl 1 bools S vk l) :
    ACall Try.prog 33 #[v, vk] S (DkRes (crashD d l) S) := by
  have hcheck := fun M h => disk_Check v d M h hz
  have hown := fun M h => disk_Own v d M h hz.el hz.wl
  obtain ⟨pe, ce, pw, cw, rfl, hE, hW⟩ := id hd
  obtain ⟨pk, ck, rfl, hl1, hl2, hl3⟩ := id hl
  unfold crashD
  rcases chkD_or d with ⟨hk, hR⟩ | ⟨hk, hR⟩
  · rw [if_pos hk]
    refine ACall.enter (args := [.agg #[.int .i64 d.size, .slice pe d.ext.length ce, .slice pw d.waits.length cw, .int .i64 d.fuse, .bool d.down], .slice pk l.length ck]) (rs := [.cell 4 25, .tmp 5]) 33 [(0, .agg #[.int .i64 d.size, .slice pe d.ext.length ce, .slice pw d.waits.length cw, .int .i64 d.fuse, .bool d.down]), (1, .slice pk l.length ck)] Try.func33 rfl rfl (Nat.le_of_ble_eq_true rfl) rfl ⟨rfl, rfl, trivial⟩ ?_
    refine AWP.seq ?_
    refine AWP.region ?_
    refine ARun.boxA (cs := [_, _, _, _, _]) (lit_lt rfl) rfl ?_
    intro b2 f2
    have g2 := f2
    repeat ((with_reducible replace g2 := fresh_set g2); obtain ⟨g2, _⟩ := g2)
    (try simp only [List.length_cons, List.length_nil, Nat.zero_add, Nat.reduceAdd])
    refine ARun.box1 (lit_lt rfl) rfl rfl ?_
    intro b3 f3
    have g3 := f3
    repeat ((with_reducible replace g3 := fresh_set g3); obtain ⟨g3, _⟩ := g3)
    (try simp only [List.length_cons, List.length_nil, Nat.zero_add, Nat.reduceAdd])
    refine ARun.alloc (lit_lt rfl) ty_zero_25 ?_
    intro b4 f4
    have g4 := f4
    repeat ((with_reducible replace g4 := fresh_set g4); obtain ⟨g4, _⟩ := g4)
    (try simp only [List.length_cons, List.length_nil, Nat.zero_add, Nat.reduceAdd])
    refine rC (Calm.assign rfl) ?_
    refine arun_nil ?_
    refine athen_n ?_
    obtain ⟨S0, hS0⟩ : ∃ S0, (S.set b2 ⟨25, [.int .i64 d.size, .slice pe d.ext.length ce, .slice pw d.waits.length cw, .int .i64 d.fuse, .bool d.down], 5⟩).set b3 ⟨40, [.slice pk l.length ck], 1⟩ = S0 := ⟨_, rfl⟩
    have hSS0 : S.Less S0 := by rw [← hS0]; exact (Mem.less_set _ _ _ f2.1).trans (Mem.less_set _ _ _ f3.1)
    have kb3 : S0.own b3 = some ⟨40, [.slice pk l.length ck], 1⟩ := by rw [← hS0]; exact Mem.own_set_same _ _ _
    have kb2 : S0.own b2 = some ⟨25, [.int .i64 d.size, .slice pe d.ext.length ce, .slice pw d.waits.length cw, .int .i64 d.fuse, .bool d.down], 5⟩ := by rw [← hS0]; exact (Mem.own_set_other _ _ (Ne.symm (fresh_set f3).2)).trans (Mem.own_set_same _ _ _)
    rw [hS0] at f4 ⊢
    have hdS := hd.less hSS0
    have hlS := hl.less hSS0
    have n2 := f4.ne kb2
    have n3 := f4.ne kb3
    refine AWP.seq ?_
    refine AWP.seq ?_
    refine AWP.region ?_
    refine rC (ldA_ (cs := [_, _, _, _, _]) ty_agg_25 ty_size_25 rfl) ?_
    refine ARun.call (lit_lt rfl) go_25 rfl (hcheck _ (hdS.less (Mem.less_set _ _ _ f4.1))) ?_
    rintro _ S1 ⟨rfl, h1⟩
    rw [h1, hk]; clear h1 S1
    refine rC (Calm.assign rfl) ?_
    refine arun_nil ?_
    refine athen_n ?_
    refine AWP.sub [(0, _), (1, _), (2, _), (3, _), (4, _), (5, _), (6, _)] ⟨rfl, rfl, rfl, rfl, rfl, rfl, rfl, trivial⟩ ?_
    refine AWP.seq ?_
    refine AWP.region ?_
    refine rC (Calm.move rfl) ?_
    refine rC (Calm.bin rfl rfl b_neq) ?_
    refine arun_nil ?_
    refine athen_n ?_
    refine AWP.sub [(0, _), (1, _), (2, _), (3, _), (4, _), (5, _), (6, _), (11, _)] ⟨rfl, rfl, rfl, rfl, rfl, rfl, rfl, rfl, trivial⟩ ?_
    refine AWP.condF rfl (by first | rfl | (simp; done) | (simp; omega)) ?_
    refine AWP.skip ?_
    refine athen_n ?_
    refine AWP.seq ?_
    refine AWP.region ?_
    refine rC (ldA_ (cs := [_, _, _, _, _]) ty_agg_25 ty_size_25 rfl) ?_
    refine ARun.call (lit_lt rfl) go_55 rfl ((hown S0 hdS).frame f4) ?_
    rintro _ S1 ⟨M, ⟨oE, oW, hok, rfl, hM⟩, f4', h1⟩
    rw [h1]; clear h1 S1
    unfold dkV
    obtain ⟨qe, de, hqe⟩ := outV_eq hok.e
    obtain ⟨qw, dw, hqw⟩ := outV_eq hok.w
    rw [hqe, hqw]
    refine rC (Calm.build (cs := [_, _, _, _, _]) ty_bld_90 rfl rfl) ?_
    refine ARun.boxA (cs := [_, _, _, _, _]) (lit_lt rfl) rfl ?_
    intro b17 f17
    have g17 := f17
    repeat ((with_reducible replace g17 := fresh_set g17); obtain ⟨g17, _⟩ := g17)
    (try simp only [List.length_cons, List.length_nil, Nat.zero_add, Nat.reduceAdd])
    refine rC (Calm.assign rfl) ?_
    refine arun_nil ?_
    refine athen_n ?_
    refine AWP.sub [(0, _), (1, _), (2, _), (3, _), (4, _), (5, _), (6, _), (11, _), (7, _)] ⟨rfl, rfl, rfl, rfl, rfl, rfl, rfl, rfl, rfl, trivial⟩ ?_
    obtain ⟨f17', n17⟩ := fresh_set f17
    have hokV : OkV S0 b17 d oE oW := ⟨hok, by rw [← hM]; exact f17'⟩
    have hmm : (M.set b4 ⟨25, [.int .i64 0, .slice none 0 0, .slice none 0 0, .int .i64 0, .bool false], 5⟩).set b17 ⟨90, [.int .i64 d.size, .slice qe d.ext.length de, .slice qw d.waits.length dw, .int .i64 d.fuse, .bool d.down], 5⟩ = (devM S0 b17 d oE oW).set b4 ⟨25, [.int .i64 0, .slice none 0 0, .slice none 0 0, .int .i64 0, .bool false], 5⟩ := by rw [Mem.set_comm _ _ _ (Ne.symm n17)]; unfold devM; rw [hqe, hqw, ← hM]
    rw [hmm]
    have fb4 : Fresh (devM S0 b17 d oE oW) b4 := by unfold devM; rw [← hM]; exact fresh_more f4' (Ne.symm n17)
    have hset := dev_settle b17 d S0 oE oW hokV hR 68 [.pointer (some ⟨b3, 0, none⟩)] go_68 (keepK l) (fun k M hk hM => disk_Crash1 _ l k b3 M (hlS.less hM) ((rds_cons (rd_own' (hM.own kb3) rfl) (rds_nil _ _)).knows) (by have := hR.wl; omega))
    refine AWP.seq ?_
    refine AWP.region ?_
    refine rC (Calm.move rfl) ?_
    refine rC (Calm.makeFunc rfl rfl) ?_
    refine ARun.call (lit_lt rfl) go_67 rfl (hset.frame fb4) ?_
    rintro _ S1 ⟨M2, ⟨rfl, hok2, hM2⟩, fb4', h1⟩
    rw [h1, hM2]; rw [hM2] at fb4'; clear h1 S1
    have hp6 : ((devM S0 b17 (settleD d (keepK l)) oE none).set b4 ⟨25, [.int .i64 0, .slice none 0 0, .slice none 0 0, .int .i64 0, .bool false], 5⟩).own b17 = some ⟨90, [.int .i64 d.size, outV oE (settleD d (keepK l)).ext.length, .slice none 0 0, .int .i64 d.fuse, .bool d.down], 5⟩ := (Mem.own_set_other _ _ n17).trans (Mem.own_set_same _ _ _)
    refine arun_nil ?_
    refine athen_n ?_
    refine AWP.sub [(0, _), (1, _), (2, _), (3, _), (4, _), (5, _), (6, _), (11, _), (7, _)] ⟨rfl, rfl, rfl, rfl, rfl, rfl, rfl, rfl, rfl, trivial⟩ ?_
    refine AWP.seq ?_
    refine AWP.region ?_
    refine rC (Calm.move rfl) ?_
    refine rC (Calm.move rfl) ?_
    refine rC (Calm.nilCheck rfl) ?_
    refine rC (Calm.fieldAddr ty_field_90_0 rfl) ?_
    refine rC (Calm.fieldAddr ty_field_25_4 rfl) ?_
    refine ARun.store1 rfl rfl ty_size_4 rfl hp6 (show 4 < 5 from by decide) rfl ?_
    (try simp only [Mem.set_set, List.set_cons_zero, List.set_cons_succ, Nat.zero_add, Nat.reduceAdd])
    refine rC (Calm.nilCheck rfl) ?_
    refine rC (Calm.fieldAddr ty_field_90_0 rfl) ?_
    refine rC (Calm.fieldAddr ty_field_25_3 rfl) ?_
    refine ARun.store1 rfl rfl ty_size_3 rfl (Mem.own_set_same _ _ _) (show 3 < 5 from by decide) rfl ?_
    (try simp only [Mem.set_set, List.set_cons_zero, List.set_cons_succ, Nat.zero_add, Nat.reduceAdd])
    refine arun_nil ?_
    refine athen_n ?_
    refine AWP.sub [(0, _), (1, _), (2, _), (3, _), (4, _), (5, _), (6, _), (11, _), (7, _)] ⟨rfl, rfl, rfl, rfl, rfl, rfl, rfl, rfl, rfl, trivial⟩ ?_
    have hok4 : OkV S0 b17 (upD (settleD d (keepK l))) oE none := okV_mk hok2.apart ⟨hok2.fits.e0, fun _ => rfl, hok2.fits.e, (fun b c e => by cases e)⟩
    refine AWP.less ((devM S0 b17 (upD (settleD d (keepK l))) oE none).set b4 ⟨25, [.int .i64 0, .slice none 0 0, .slice none 0 0, .int .i64 0, .bool false], 5⟩) (by unfold devM; rw [Mem.set_comm _ _ _ (Ne.symm n17), Mem.set_set]; exact Mem.Less.refl _) ?_
    have fb5 : Fresh (devM S0 b17 (upD (settleD d (keepK l))) oE none) b4 := by obtain ⟨q1, q2⟩ := fresh_set fb4'; exact fresh_more q1 q2
    refine AWP.seq ?_
    refine AWP.region ?_
    refine rC (Calm.move rfl) ?_
    refine ARun.call (lit_lt rfl) go_46 rfl ((disk_done b17 (upD (settleD d (keepK l))) 0 S0 oE none hok4 (settle_lens hR (keepK l)).1 (settle_lens hR (keepK l)).2).frame fb5) ?_
    rintro _ S1 ⟨M3, ⟨v, rfl, hl3', hdk⟩, fc, h1⟩
    rw [h1]; clear h1 S1
    obtain ⟨qe2, de2, qw2, dw2, rfl, _⟩ := id hdk
    refine rC (Calm.extract rfl rfl) ?_
    refine rC (Calm.extract rfl rfl) ?_
    first | refine ARun.storeAll rfl rfl ty_size_25 own_ rfl rfl ?_ | refine ARun.store rfl rfl ty_size_25 own_ lens_ rfl ?_
    (try simp only [Mem.set_set, List.set_cons_zero, List.set_cons_succ, Nat.zero_add, Nat.reduceAdd])
    refine rC (Calm.assign rfl) ?_
    refine arun_nil ?_
    refine athen_n ?_
    refine AWP.sub [(0, _), (1, _), (2, _), (3, _), (4, _), (5, _), (6, _), (11, _), (7, _)] ⟨rfl, rfl, rfl, rfl, rfl, rfl, rfl, rfl, rfl, trivial⟩ ?_
    refine AWP.ret ?_
    refine ⟨_, M3, ⟨_, _, _, rfl, .inr ⟨ty_agg_25, [_, _, _, _, _], ty_size_25, rds_, rfl⟩, ⟨_, _, rfl, rfl, rfl⟩, rfl⟩, less_, ?_⟩
    exact ⟨_, rfl, hSS0.trans hl3', hdk⟩
  · rw [if_neg (by rw [hk]; decide)]
    refine ACall.enter (args := [.agg #[.int .i64 d.size, .slice pe d.ext.length ce, .slice pw d.waits.length cw, .int .i64 d.fuse, .bool d.down], .slice pk l.length ck]) (rs := [.cell 4 25, .tmp 5]) 33 [(0, .agg #[.int .i64 d.size, .slice pe d.ext.length ce, .slice pw d.waits.length cw, .int .i64 d.fuse, .bool d.down]), (1, .slice pk l.length ck)] Try.func33 rfl rfl (Nat.le_of_ble_eq_true rfl) rfl ⟨rfl, rfl, trivial⟩ ?_
    refine AWP.seq ?_
    refine AWP.region ?_
    refine ARun.boxA (cs := [_, _, _, _, _]) (lit_lt rfl) rfl ?_
    intro b2 f2
    have g2 := f2
    repeat ((with_reducible replace g2 := fresh_set g2); obtain ⟨g2, _⟩ := g2)
    (try simp only [List.length_cons, List.length_nil, Nat.zero_add, Nat.reduceAdd])
    refine ARun.box1 (lit_lt rfl) rfl rfl ?_
    intro b3 f3
    have g3 := f3
    repeat ((with_reducible replace g3 := fresh_set g3); obtain ⟨g3, _⟩ := g3)
    (try simp only [List.length_cons, List.length_nil, Nat.zero_add, Nat.reduceAdd])
    refine ARun.alloc (lit_lt rfl) ty_zero_25 ?_
    intro b4 f4
    have g4 := f4
    repeat ((with_reducible replace g4 := fresh_set g4); obtain ⟨g4, _⟩ := g4)
    (try simp only [List.length_cons, List.length_nil, Nat.zero_add, Nat.reduceAdd])
    refine rC (Calm.assign rfl) ?_
    refine arun_nil ?_
    refine athen_n ?_
    refine AWP.seq ?_
    refine AWP.seq ?_
    refine AWP.region ?_
    refine rC (ldA_ (cs := [_, _, _, _, _]) ty_agg_25 ty_size_25 rfl) ?_
    refine ARun.call (lit_lt rfl) go_25 rfl (hcheck _ (hd.less less_)) ?_
    rintro _ S1 ⟨rfl, h1⟩
    rw [h1, hk]; clear h1 S1
    refine rC (Calm.assign rfl) ?_
    refine arun_nil ?_
    refine athen_n ?_
    refine AWP.sub [(0, _), (1, _), (2, _), (3, _), (4, _), (5, _), (6, _)] ⟨rfl, rfl, rfl, rfl, rfl, rfl, rfl, trivial⟩ ?_
    refine AWP.seq ?_
    refine AWP.region ?_
    refine rC (Calm.move rfl) ?_
    refine rC (Calm.bin rfl rfl b_neq) ?_
    refine arun_nil ?_
    refine athen_n ?_
    refine AWP.sub [(0, _), (1, _), (2, _), (3, _), (4, _), (5, _), (6, _), (11, _)] ⟨rfl, rfl, rfl, rfl, rfl, rfl, rfl, rfl, trivial⟩ ?_
    refine AWP.condT rfl (by first | rfl | (simp; done) | (simp; omega)) ?_
    refine AWP.seq ?_
    refine AWP.region ?_
    refine rC (Calm.build (cs := [_, _, _, _, _]) ty_bld_25 rfl rfl) ?_
    refine rC (Calm.move rfl) ?_
    first | refine ARun.storeAll rfl rfl ty_size_25 own_ rfl rfl ?_ | refine ARun.store rfl rfl ty_size_25 own_ lens_ rfl ?_
    (try simp only [Mem.set_set, List.set_cons_zero, List.set_cons_succ, Nat.zero_add, Nat.reduceAdd])
    refine rC (Calm.assign rfl) ?_
    refine arun_nil ?_
    refine athen_n ?_
    refine AWP.sub [(0, _), (1, _), (2, _), (3, _), (4, _), (5, _), (6, _), (11, _)] ⟨rfl, rfl, rfl, rfl, rfl, rfl, rfl, rfl, trivial⟩ ?_
    refine AWP.ret ?_
    refine athen_ret ?_
    refine ⟨_, S, ⟨_, _, _, rfl, .inr ⟨ty_agg_25, [_, _, _, _, _], ty_size_25, rds_, rfl⟩, ⟨_, _, rfl, rfl, rfl⟩, rfl⟩, less_, ?_⟩
    exact ⟨_, rfl, Mem.Less.refl _, dkR_zero S⟩
end Go.Proofs.Ytkeiphkccnfhoaa
