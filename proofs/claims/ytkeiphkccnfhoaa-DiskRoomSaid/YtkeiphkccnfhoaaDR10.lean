/-
  Disk, the document's side: Free.
-/
import Derived.Test.YtkeiphkccnfhoaaDR9
namespace Go.Proofs.Ytkeiphkccnfhoaa
open Go.RowKit
open Mv Disk
set_option linter.unusedVariables false
set_option linter.unusedSimpArgs false
set_option maxRecDepth 4000

theorem frees_cons (d0 d : D) (s : ByteArray) (l : List ByteArray) : freesD d0 d (s :: l) = if has d.ext s = true then freesD d0 (forgetD (eraseD d s) s) l else (d0, 3) := by
  rw [freesD]
  unfold freeD
  by_cases q : has d.ext s = true
  · rw [if_pos q, if_pos q]; rfl
  · rw [if_neg q, if_neg q]; rfl
set_option maxHeartbeats 2000000 in
theorem rd_Free (v vn : Value) (d : D) (names : List ByteArray) (S : Mem) (hd : DkR S v d) (hz : Dz d) (hn : Sl 1 strs S vn names) :
    ACall Try.prog 16 #[v, vn] S (DkRes (opened d (freesD d d names)) S) := by
  have hpow := fun M h => rd_power v d M h hz
  have hasw := fun M h why => rd_as v d why M h hz
  have hcopy := rd_CopyW v d S hd hz
  obtain ⟨pe, ce, pw, cw, rfl, hE, hW⟩ := id hd
  obtain ⟨pn, cn, rfl, hn1, hn2, hn3⟩ := id hn
  unfold opened
  rcases openD_or d with ⟨ho, hR⟩ | ⟨ho, hR, hdn⟩ | ⟨ho, hR, hdn⟩ <;> (simp only [ho] at hpow ⊢)
  · have hasw := hasw S hd 2; rw [asD_no hR] at hasw; rw [if_neg (by decide)]
    refine ACall.enter (args := [.agg #[.int .i64 d.size, .slice pe d.ext.length ce, .slice pw d.waits.length cw, .int .i64 d.fuse, .bool d.down], .slice pn names.length cn]) (rs := [.cell 4 25, .tmp 5]) 41 [(0, .agg #[.int .i64 d.size, .slice pe d.ext.length ce, .slice pw d.waits.length cw, .int .i64 d.fuse, .bool d.down]), (1, .slice pn names.length cn)] Try.func16 rfl rfl (Nat.le_of_ble_eq_true rfl) rfl ⟨rfl, rfl, trivial⟩ ?_
    refine AWP.seq ?_
    refine AWP.region ?_
    refine ARun.boxA (cs := [_, _, _, _, _]) (lit_lt rfl) rfl ?_
    intro b2 f2
    have g2 := f2
    repeat ((with_reducible replace g2 := fresh_set g2); obtain ⟨g2, _⟩ := g2)
    (try simp only [List.length_cons, List.length_nil, Nat.zero_add, Nat.reduceAdd])
    refine ARun.alloc (lit_lt rfl) ty_zero_25 ?_
    intro b4 f4
    have g4 := f4
    repeat ((with_reducible replace g4 := fresh_set g4); obtain ⟨g4, _⟩ := g4)
    (try simp only [List.length_cons, List.length_nil, Nat.zero_add, Nat.reduceAdd])
    refine rC (Calm.assign rfl) ?_
    refine arun_nil ?_
    refine athen_n ?_
    refine AWP.seq ?_
    refine AWP.region ?_
    refine rC (ldA_ (cs := [_, _, _, _, _]) ty_agg_25 ty_size_25 rfl) ?_
    refine ARun.call (lit_lt rfl) go_47 rfl (hpow _ (hd.less less_)) ?_
    rintro _ S1 ⟨rfl, h1⟩
    rw [h1]; clear h1 S1
    refine rC (Calm.assign rfl) ?_
    refine arun_nil ?_
    refine athen_n ?_
    refine AWP.sub [(0, _), (1, _), (2, _), (4, _), (5, _), (6, _)] ⟨rfl, rfl, rfl, rfl, rfl, rfl, trivial⟩ ?_
    refine AWP.seq ?_
    refine AWP.seq ?_
    refine AWP.region ?_
    refine rC (Calm.move rfl) ?_
    refine rC (Calm.bin rfl rfl b_neq) ?_
    refine arun_nil ?_
    refine athen_n ?_
    refine AWP.sub [(0, _), (1, _), (2, _), (4, _), (5, _), (6, _), (13, _)] ⟨rfl, rfl, rfl, rfl, rfl, rfl, rfl, trivial⟩ ?_
    refine AWP.condT rfl (by first | rfl | (simp; done) | (simp; omega)) ?_
    refine AWP.seq ?_
    refine AWP.region ?_
    refine rC (ldA_ (cs := [_, _, _, _, _]) ty_agg_25 ty_size_25 rfl) ?_
    refine rC (Calm.move rfl) ?_
    refine ARun.call (lit_lt rfl) go_48 rfl (((hasw).frame f2).frame f4) ?_
    rintro _ S1 ⟨Sa, ⟨M, ⟨v', rfl, hSM, hdk⟩, fa, hSa⟩, fb, h1⟩
    rw [h1, hSa]; rw [hSa] at fb; clear h1 S1 hSa Sa
    obtain ⟨fbm, nba⟩ := fresh_set fb
    obtain ⟨qe, de, qw, dw, rfl, hE2, hW2⟩ := id hdk
    refine rC (Calm.extract rfl rfl) ?_
    refine rC (Calm.extract rfl rfl) ?_
    first | refine ARun.storeAll rfl rfl ty_size_25 own_ rfl rfl ?_ | refine ARun.store rfl rfl ty_size_25 own_ lens_ rfl ?_
    (try simp only [Mem.set_set, List.set_cons_zero, List.set_cons_succ, Nat.zero_add, Nat.reduceAdd])
    refine rC (Calm.assign rfl) ?_
    refine arun_nil ?_
    refine athen_n ?_
    refine AWP.sub [(0, _), (1, _), (2, _), (4, _), (5, _), (6, _), (13, _)] ⟨rfl, rfl, rfl, rfl, rfl, rfl, rfl, trivial⟩ ?_
    refine AWP.ret ?_
    refine athen_ret ?_
    refine ⟨_, M, ⟨_, _, _, rfl, .inr ⟨ty_agg_25, [_, _, _, _, _], ty_size_25, rds_, rfl⟩, ⟨_, _, rfl, rfl, rfl⟩, rfl⟩, less_, ?_⟩
    exact ⟨_, rfl, hSM, hdk⟩
  · have hasw := hasw S hd 10; rw [asD_ok hR] at hasw; rw [if_neg (by decide)]
    refine ACall.enter (args := [.agg #[.int .i64 d.size, .slice pe d.ext.length ce, .slice pw d.waits.length cw, .int .i64 d.fuse, .bool d.down], .slice pn names.length cn]) (rs := [.cell 4 25, .tmp 5]) 41 [(0, .agg #[.int .i64 d.size, .slice pe d.ext.length ce, .slice pw d.waits.length cw, .int .i64 d.fuse, .bool d.down]), (1, .slice pn names.length cn)] Try.func16 rfl rfl (Nat.le_of_ble_eq_true rfl) rfl ⟨rfl, rfl, trivial⟩ ?_
    refine AWP.seq ?_
    refine AWP.region ?_
    refine ARun.boxA (cs := [_, _, _, _, _]) (lit_lt rfl) rfl ?_
    intro b2 f2
    have g2 := f2
    repeat ((with_reducible replace g2 := fresh_set g2); obtain ⟨g2, _⟩ := g2)
    (try simp only [List.length_cons, List.length_nil, Nat.zero_add, Nat.reduceAdd])
    refine ARun.alloc (lit_lt rfl) ty_zero_25 ?_
    intro b4 f4
    have g4 := f4
    repeat ((with_reducible replace g4 := fresh_set g4); obtain ⟨g4, _⟩ := g4)
    (try simp only [List.length_cons, List.length_nil, Nat.zero_add, Nat.reduceAdd])
    refine rC (Calm.assign rfl) ?_
    refine arun_nil ?_
    refine athen_n ?_
    refine AWP.seq ?_
    refine AWP.region ?_
    refine rC (ldA_ (cs := [_, _, _, _, _]) ty_agg_25 ty_size_25 rfl) ?_
    refine ARun.call (lit_lt rfl) go_47 rfl (hpow _ (hd.less less_)) ?_
    rintro _ S1 ⟨rfl, h1⟩
    rw [h1]; clear h1 S1
    refine rC (Calm.assign rfl) ?_
    refine arun_nil ?_
    refine athen_n ?_
    refine AWP.sub [(0, _), (1, _), (2, _), (4, _), (5, _), (6, _)] ⟨rfl, rfl, rfl, rfl, rfl, rfl, trivial⟩ ?_
    refine AWP.seq ?_
    refine AWP.seq ?_
    refine AWP.region ?_
    refine rC (Calm.move rfl) ?_
    refine rC (Calm.bin rfl rfl b_neq) ?_
    refine arun_nil ?_
    refine athen_n ?_
    refine AWP.sub [(0, _), (1, _), (2, _), (4, _), (5, _), (6, _), (13, _)] ⟨rfl, rfl, rfl, rfl, rfl, rfl, rfl, trivial⟩ ?_
    refine AWP.condT rfl (by first | rfl | (simp; done) | (simp; omega)) ?_
    refine AWP.seq ?_
    refine AWP.region ?_
    refine rC (ldA_ (cs := [_, _, _, _, _]) ty_agg_25 ty_size_25 rfl) ?_
    refine rC (Calm.move rfl) ?_
    refine ARun.call (lit_lt rfl) go_48 rfl (((hasw).frame f2).frame f4) ?_
    rintro _ S1 ⟨Sa, ⟨M, ⟨v', rfl, hSM, hdk⟩, fa, hSa⟩, fb, h1⟩
    rw [h1, hSa]; rw [hSa] at fb; clear h1 S1 hSa Sa
    obtain ⟨fbm, nba⟩ := fresh_set fb
    obtain ⟨qe, de, qw, dw, rfl, hE2, hW2⟩ := id hdk
    refine rC (Calm.extract rfl rfl) ?_
    refine rC (Calm.extract rfl rfl) ?_
    first | refine ARun.storeAll rfl rfl ty_size_25 own_ rfl rfl ?_ | refine ARun.store rfl rfl ty_size_25 own_ lens_ rfl ?_
    (try simp only [Mem.set_set, List.set_cons_zero, List.set_cons_succ, Nat.zero_add, Nat.reduceAdd])
    refine rC (Calm.assign rfl) ?_
    refine arun_nil ?_
    refine athen_n ?_
    refine AWP.sub [(0, _), (1, _), (2, _), (4, _), (5, _), (6, _), (13, _)] ⟨rfl, rfl, rfl, rfl, rfl, rfl, rfl, trivial⟩ ?_
    refine AWP.ret ?_
    refine athen_ret ?_
    refine ⟨_, M, ⟨_, _, _, rfl, .inr ⟨ty_agg_25, [_, _, _, _, _], ty_size_25, rds_, rfl⟩, ⟨_, _, rfl, rfl, rfl⟩, rfl⟩, less_, ?_⟩
    exact ⟨_, rfl, hSM, hdk⟩
  · simp only [asD_ok hR] at hasw
    rw [if_pos trivial]
    refine ACall.enter (args := [.agg #[.int .i64 d.size, .slice pe d.ext.length ce, .slice pw d.waits.length cw, .int .i64 d.fuse, .bool d.down], .slice pn names.length cn]) (rs := [.cell 4 25, .tmp 5]) 41 [(0, .agg #[.int .i64 d.size, .slice pe d.ext.length ce, .slice pw d.waits.length cw, .int .i64 d.fuse, .bool d.down]), (1, .slice pn names.length cn)] Try.func16 rfl rfl (Nat.le_of_ble_eq_true rfl) rfl ⟨rfl, rfl, trivial⟩ ?_
    refine AWP.seq ?_
    refine AWP.region ?_
    refine ARun.boxA (cs := [_, _, _, _, _]) (lit_lt rfl) rfl ?_
    intro b2 f2
    have g2 := f2
    repeat ((with_reducible replace g2 := fresh_set g2); obtain ⟨g2, _⟩ := g2)
    (try simp only [List.length_cons, List.length_nil, Nat.zero_add, Nat.reduceAdd])
    refine ARun.alloc (lit_lt rfl) ty_zero_25 ?_
    intro b4 f4
    have g4 := f4
    repeat ((with_reducible replace g4 := fresh_set g4); obtain ⟨g4, _⟩ := g4)
    (try simp only [List.length_cons, List.length_nil, Nat.zero_add, Nat.reduceAdd])
    refine rC (Calm.assign rfl) ?_
    refine arun_nil ?_
    refine athen_n ?_
    refine AWP.seq ?_
    refine AWP.region ?_
    refine rC (ldA_ (cs := [_, _, _, _, _]) ty_agg_25 ty_size_25 rfl) ?_
    refine ARun.call (lit_lt rfl) go_47 rfl (hpow _ (hd.less less_)) ?_
    rintro _ S1 ⟨rfl, h1⟩
    rw [h1]; clear h1 S1
    refine rC (Calm.assign rfl) ?_
    refine arun_nil ?_
    refine athen_n ?_
    refine AWP.sub [(0, _), (1, _), (2, _), (4, _), (5, _), (6, _)] ⟨rfl, rfl, rfl, rfl, rfl, rfl, trivial⟩ ?_
    refine AWP.seq ?_
    refine AWP.seq ?_
    refine AWP.region ?_
    refine rC (Calm.move rfl) ?_
    refine rC (Calm.bin rfl rfl b_neq) ?_
    refine arun_nil ?_
    refine athen_n ?_
    refine AWP.sub [(0, _), (1, _), (2, _), (4, _), (5, _), (6, _), (13, _)] ⟨rfl, rfl, rfl, rfl, rfl, rfl, rfl, trivial⟩ ?_
    refine AWP.condF rfl (by first | rfl | (simp; done) | (simp; omega)) ?_
    refine AWP.skip ?_
    refine athen_n ?_
    refine AWP.seq ?_
    refine AWP.region ?_
    refine rC (ldA_ (cs := [_, _, _, _, _]) ty_agg_25 ty_size_25 rfl) ?_
    refine ARun.call (lit_lt rfl) go_12 rfl (((hcopy).frame f2).frame f4) ?_
    rintro _ S1 ⟨Sa, ⟨M, ⟨hSM, hdk⟩, fa, hSa⟩, fb, h1⟩
    rw [h1, hSa]; rw [hSa] at fb; clear h1 S1 hSa Sa
    obtain ⟨fbm, nba⟩ := fresh_set fb
    obtain ⟨qe, de, qw, dw, rfl, hE2, hW2⟩ := id hdk
    refine ARun.alloc (lit_lt rfl) ty_zero_25 ?_
    intro b7 f7
    have g7 := f7
    repeat ((with_reducible replace g7 := fresh_set g7); obtain ⟨g7, _⟩ := g7)
    (try simp only [List.length_cons, List.length_nil, Nat.zero_add, Nat.reduceAdd])
    first | refine ARun.storeAll rfl rfl ty_size_25 own_ rfl rfl ?_ | refine ARun.store rfl rfl ty_size_25 own_ lens_ rfl ?_
    (try simp only [Mem.set_set, List.set_cons_zero, List.set_cons_succ, Nat.zero_add, Nat.reduceAdd])
    refine arun_nil ?_
    refine athen_n ?_
    refine AWP.sub [(0, _), (1, _), (2, _), (4, _), (5, _), (6, _), (13, _), (7, _)] ⟨rfl, rfl, rfl, rfl, rfl, rfl, rfl, rfl, trivial⟩ ?_
    refine AWP.seq ?_
    refine AWP.seq ?_
    refine AWP.region ?_
    refine rC (Calm.move rfl) ?_
    refine rC (Calm.lenSl Try.underlying26 rfl) ?_
    refine rC (Calm.move rfl) ?_
    refine arun_nil ?_
    refine athen_n ?_
    refine AWP.block ?_
    refine AWP.loop (X := Nat × D × Mem × Option Addr × Nat × Option Addr × Nat) (fun x => [(2, .pointer (some ⟨b2, 0, none⟩)), (4, .pointer (some ⟨b4, 0, none⟩)), (7, .pointer (some ⟨b7, 0, none⟩)), (21, .slice pn names.length cn), (22, .int .i64 names.length), (23, .int .i64 x.1)]) (fun x => ((x.2.2.1.set b2 (boxD d (.slice pe d.ext.length ce) (.slice pw d.waits.length cw))).set b4 (boxD D0 (.slice none 0 0) (.slice none 0 0))).set b7 (boxD x.2.1 (.slice x.2.2.2.1 x.2.1.ext.length x.2.2.2.2.1) (.slice x.2.2.2.2.2.1 x.2.1.waits.length x.2.2.2.2.2.2))) (fun x => x.1 ≤ names.length ∧ Right x.2.1 ∧ S.Less x.2.2.1 ∧ (Fresh x.2.2.1 b2 ∧ Fresh (x.2.2.1.set b2 (boxD d (.slice pe d.ext.length ce) (.slice pw d.waits.length cw))) b4 ∧ Fresh ((x.2.2.1.set b2 (boxD d (.slice pe d.ext.length ce) (.slice pw d.waits.length cw))).set b4 (boxD D0 (.slice none 0 0) (.slice none 0 0))) b7) ∧ DkR x.2.2.1 (.agg #[.int .i64 x.2.1.size, .slice x.2.2.2.1 x.2.1.ext.length x.2.2.2.2.1, .slice x.2.2.2.2.2.1 x.2.1.waits.length x.2.2.2.2.2.2, .int .i64 x.2.1.fuse, .bool x.2.1.down]) x.2.1 ∧ freesD d d names = freesD d x.2.1 (names.drop x.1)) (fun x => names.length - x.1) ((0, d, M, qe, de, qw, dw)) ⟨rfl, rfl, rfl, rfl, rfl, rfl, trivial⟩ (Mem.Less.refl _) (⟨Nat.zero_le _, hR, hSM, ⟨fa, fb, f7⟩, hdk, by rw [List.drop_zero]⟩) ?_
    rintro ⟨i, dd, Mi, ae, ke, aw, kw⟩ ⟨hi, hRd, hSMi, ⟨fa', fb', fc'⟩, hdk', heq⟩
    (try dsimp only at *)
    clear hdk hE2 hW2 fa fb fbm f7
    obtain ⟨fbm', nba'⟩ := fresh_set fb'
    obtain ⟨fc1', ncb'⟩ := fresh_set fc'
    obtain ⟨fcm', nca'⟩ := fresh_set fc1'
    have hrl := right_len hRd
    have hwl := hRd.wl
    obtain ⟨_, _, _, _, hx, hE', hW'⟩ := id hdk'
    cases hx
    unfold boxD at fb' fc' ⊢
    refine AWP.seq ?_
    refine AWP.region ?_
    refine rC (Calm.bin rfl rfl b_lss) ?_
    refine arun_nil ?_
    refine athen_n ?_
    refine AWP.seq ?_
    refine AWP.condB rfl (fun hc => ?_) (fun hc => ?_)
    · have hc : i < names.length := by have := of_decide_eq_true hc; omega
      obtain ⟨bn, on, rfl, hkn⟩ := hn3.resolve_left (fun e => by rw [e] at hc; simp at hc)
      have hkni := (hkn i hc).less hSMi
      have hdr : names.drop i = names[i] :: names.drop (i + 1) := List.drop_eq_getElem_cons hc
      rw [hdr, frees_cons] at heq
      generalize names[i] = s at *
      unfold strs at hkni
      by_cases q : has dd.ext s = true
      · have hf : fnd dd.ext s = (pos dd.ext s : Nat) := by unfold fnd; rw [if_pos q]
        rw [if_pos q, free_less hRd q] at heq
        refine AWP.skip ?_
        refine athen_n ?_
        refine AWP.seq ?_
        refine AWP.block ?_
        refine AWP.seq ?_
        refine AWP.region ?_
        refine rC (Calm.indexS Try.underlying26 ty_size_9 rfl rfl (by omega) (by omega)) ?_
        refine rC (ld_ ty_plain_9 rfl) ?_
        refine rC (Calm.assign rfl) ?_
        refine arun_nil ?_
        refine athen_n ?_
        refine AWP.sub [(2, _), (4, _), (7, _), (21, _), (22, _), (23, _), (24, _), (9, _)] ⟨rfl, rfl, rfl, rfl, rfl, rfl, rfl, rfl, trivial⟩ ?_
        refine AWP.seq ?_
        refine AWP.seq ?_
        refine AWP.region ?_
        refine rC (Calm.fieldAddr ty_field_25_1 rfl) ?_
        refine rC (ld_ ty_plain_22 rfl) ?_
        refine rC (Calm.move rfl) ?_
        refine ARun.call (lit_lt rfl) go_50 rfl (rd_Find _ dd.ext s _ (hE'.less less_) hRd.ex.asc) ?_
        rintro _ S1 ⟨rfl, h1⟩
        rw [h1, hf]; clear h1 S1
        refine rC (Calm.bin rfl rfl b_lss) ?_
        refine arun_nil ?_
        refine athen_n ?_
        refine AWP.sub [(2, _), (4, _), (7, _), (21, _), (22, _), (23, _), (24, _), (9, _), (31, _)] ⟨rfl, rfl, rfl, rfl, rfl, rfl, rfl, rfl, rfl, trivial⟩ ?_
        refine AWP.condF rfl (by first | rfl | (simp; done) | (simp; omega)) ?_
        refine AWP.skip ?_
        refine athen_n ?_
        refine AWP.region ?_
        refine rC (ldA_ (cs := [_, _, _, _, _]) ty_agg_25 ty_size_25 rfl) ?_
        refine rC (Calm.move rfl) ?_
        refine ARun.call (lit_lt rfl) go_56 rfl ((((rd_without _ dd s Mi hdk' (by omega) (by omega)).frame fa').frame fb').frame fc') ?_
        rintro _ S1 ⟨Sa, ⟨Sb, ⟨M2, ⟨hSM2, hdk2⟩, ga, hSb⟩, gb, hSa⟩, gc, h1⟩
        rw [h1, hSa, hSb]; rw [hSa, hSb] at gc; rw [hSb] at gb; clear h1 S1 hSa Sa hSb Sb
        obtain ⟨gbm, nba⟩ := fresh_set gb
        obtain ⟨gc1, ncb⟩ := fresh_set gc
        obtain ⟨gcm, nca⟩ := fresh_set gc1
        obtain ⟨qe2, de2, qw2, dw2, rfl, hE2, hW2⟩ := id hdk2
        first | refine ARun.storeAll rfl rfl ty_size_25 own_ rfl rfl ?_ | refine ARun.store rfl rfl ty_size_25 own_ lens_ rfl ?_
        (try simp only [Mem.set_set, List.set_cons_zero, List.set_cons_succ, Nat.zero_add, Nat.reduceAdd])
        refine arun_nil ?_
        refine ain_n ?_
        refine athen_n ?_
        refine AWP.sub [(2, _), (4, _), (7, _), (21, _), (22, _), (23, _), (24, _), (9, _), (31, _)] ⟨rfl, rfl, rfl, rfl, rfl, rfl, rfl, rfl, rfl, trivial⟩ ?_
        refine AWP.region ?_
        refine rC (Calm.bin rfl rfl b_add_i64) ?_
        refine rC (Calm.move rfl) ?_
        refine arun_nil ?_
        refine athen_n ?_
        refine ⟨(i + 1, lessD dd s, M2, qe2, de2, qw2, dw2), ?_, ?_, ?_, ?_⟩
        all_goals (try dsimp only)
        · exact ⟨rfl, rfl, rfl, rfl, rfl, rfl, trivial⟩
        · exact Mem.Less.refl _
        · exact ⟨hc, by rw [← free_less hRd q]; exact right_free hRd q, hSMi.trans hSM2, ⟨ga, gb, gc⟩, hdk2, heq⟩
        · omega
      · have hf : fnd dd.ext s = -1 := by unfold fnd; rw [if_neg q]
        rw [if_neg q] at heq
        refine AWP.skip ?_
        refine athen_n ?_
        refine AWP.seq ?_
        refine AWP.block ?_
        refine AWP.seq ?_
        refine AWP.region ?_
        refine rC (Calm.indexS Try.underlying26 ty_size_9 rfl rfl (by omega) (by omega)) ?_
        refine rC (ld_ ty_plain_9 rfl) ?_
        refine rC (Calm.assign rfl) ?_
        refine arun_nil ?_
        refine athen_n ?_
        refine AWP.sub [(2, _), (4, _), (7, _), (21, _), (22, _), (23, _), (24, _), (9, _)] ⟨rfl, rfl, rfl, rfl, rfl, rfl, rfl, rfl, trivial⟩ ?_
        refine AWP.seq ?_
        refine AWP.seq ?_
        refine AWP.region ?_
        refine rC (Calm.fieldAddr ty_field_25_1 rfl) ?_
        refine rC (ld_ ty_plain_22 rfl) ?_
        refine rC (Calm.move rfl) ?_
        refine ARun.call (lit_lt rfl) go_50 rfl (rd_Find _ dd.ext s _ (hE'.less less_) hRd.ex.asc) ?_
        rintro _ S1 ⟨rfl, h1⟩
        rw [h1, hf]; clear h1 S1
        refine rC (Calm.bin rfl rfl b_lss) ?_
        refine arun_nil ?_
        refine athen_n ?_
        refine AWP.sub [(2, _), (4, _), (7, _), (21, _), (22, _), (23, _), (24, _), (9, _), (31, _)] ⟨rfl, rfl, rfl, rfl, rfl, rfl, rfl, rfl, rfl, trivial⟩ ?_
        refine AWP.condT rfl (by first | rfl | (simp; done) | (simp; omega)) ?_
        refine AWP.seq ?_
        refine AWP.region ?_
        refine rC (ldA_ (cs := [_, _, _, _, _]) ty_agg_25 ty_size_25 rfl) ?_
        refine ARun.call (lit_lt rfl) go_48 rfl ((((hasw Mi (hd.less hSMi) 3).frame fa').frame fb').frame fc') ?_
        rintro _ S1 ⟨Sa, ⟨Sb, ⟨M2, ⟨v', rfl, hSM2, hdk2⟩, ga, hSb⟩, gb, hSa⟩, gc, h1⟩
        rw [h1, hSa, hSb]; rw [hSa, hSb] at gc; rw [hSb] at gb; clear h1 S1 hSa Sa hSb Sb
        obtain ⟨gbm, nba⟩ := fresh_set gb
        obtain ⟨gc1, ncb⟩ := fresh_set gc
        obtain ⟨gcm, nca⟩ := fresh_set gc1
        obtain ⟨qe2, de2, qw2, dw2, rfl, hE2, hW2⟩ := id hdk2
        refine rC (Calm.extract rfl rfl) ?_
        refine rC (Calm.extract rfl rfl) ?_
        first | refine ARun.storeAll rfl rfl ty_size_25 own_ rfl rfl ?_ | refine ARun.store rfl rfl ty_size_25 own_ lens_ rfl ?_
        (try simp only [Mem.set_set, List.set_cons_zero, List.set_cons_succ, Nat.zero_add, Nat.reduceAdd])
        refine rC (Calm.assign rfl) ?_
        refine arun_nil ?_
        refine athen_n ?_
        refine AWP.sub [(2, _), (4, _), (7, _), (21, _), (22, _), (23, _), (24, _), (9, _), (31, _), (5, _)] ⟨rfl, rfl, rfl, rfl, rfl, rfl, rfl, rfl, rfl, rfl, trivial⟩ ?_
        refine AWP.ret ?_
        refine athen_ret ?_
        refine ain_ret ?_
        refine athen_ret ?_
        refine athen_ret ?_
        refine ain_ret ?_
        refine athen_ret ?_
        refine ⟨_, M2, ⟨_, _, _, rfl, .inr ⟨ty_agg_25, [_, _, _, _, _], ty_size_25, rds_, rfl⟩, ⟨_, _, rfl, rfl, rfl⟩, rfl⟩, less_, ?_⟩
        exact ⟨_, by rw [heq]; rfl, hSMi.trans hSM2, by rw [heq]; exact hdk2⟩
    · have hc : i = names.length := by have := of_decide_eq_false hc; omega
      subst hc
      rw [List.drop_length] at heq
      refine AWP.exit ?_
      refine athen_exit ?_
      refine athen_exit ?_
      refine ain_same ?_
      refine athen_n ?_
      refine AWP.seq ?_
      refine AWP.region ?_
      refine rC (ldA_ (cs := [_, _, _, _, _]) ty_agg_25 ty_size_25 rfl) ?_
      first | refine ARun.storeAll rfl rfl ty_size_25 own_ rfl rfl ?_ | refine ARun.store rfl rfl ty_size_25 own_ lens_ rfl ?_
      (try simp only [Mem.set_set, List.set_cons_zero, List.set_cons_succ, Nat.zero_add, Nat.reduceAdd])
      refine rC (Calm.assign rfl) ?_
      refine arun_nil ?_
      refine athen_n ?_
      refine AWP.sub [(2, _), (4, _), (7, _), (21, _), (22, _), (23, _), (24, _), (5, _)] ⟨rfl, rfl, rfl, rfl, rfl, rfl, rfl, rfl, trivial⟩ ?_
      refine AWP.ret ?_
      refine ⟨_, Mi, ⟨_, _, _, rfl, .inr ⟨ty_agg_25, [_, _, _, _, _], ty_size_25, rds_, rfl⟩, ⟨_, _, rfl, rfl, rfl⟩, rfl⟩, less_, ?_⟩
      exact ⟨_, by rw [heq]; rfl, hSMi, by rw [heq]; exact hdk'⟩
end Go.Proofs.Ytkeiphkccnfhoaa
