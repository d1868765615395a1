/-
  Disk: Free of a disk.
-/
import Derived.Test.YtkeiphkccnfhoaaDisk13
namespace Go.Proofs.Ytkeiphkccnfhoaa
open Go.RowKit
open Mv Disk
set_option linter.unusedVariables false
set_option linter.unusedSimpArgs false
set_option maxRecDepth 4000
theorem mem_erase {l : List Ext} {s : ByteArray} {x : Ext} (hlt : pos l s < l.length) (he : l[pos l s].1 = s) (hx : x ∈ l) (hne : x.1 ≠ s) : x ∈ l.eraseIdx (pos l s) := by
  rw [List.eraseIdx_eq_take_drop_succ, List.mem_append]
  rw [← List.take_append_drop (pos l s) l, List.mem_append] at hx
  rcases hx with hx | hx
  · exact .inl hx
  · rw [drop_get hlt] at hx
    rcases List.mem_cons.1 hx with rfl | hx
    · exact absurd he hne
    · exact .inr hx
theorem used_erase {l : List Ext} {i : Nat} (h : i < l.length) : used (l.eraseIdx i) + sec l[i] = used l := by
  have e : used l = used (l.take i ++ l.drop i) := by rw [List.take_append_drop]
  rw [e, List.eraseIdx_eq_take_drop_succ, drop_get h, used_append, used_append]
  simp only [used]; omega
theorem right_erase {l : List Ext} {size : Int} {i : Nat} (h : ERight l size) (hi : i < l.length) : ERight (l.eraseIdx i) size :=
  ⟨fun x hx => h.ok x (List.mem_of_mem_eraseIdx hx), h.asc.sublist (List.eraseIdx_sublist l i), by have := used_erase hi; have := h.us; omega⟩
theorem isN_no {s : ByteArray} {w : Wr} : isN s w = false ↔ w.1 ≠ s := by unfold isN; simp
theorem right_free {d : D} {s : ByteArray} (h : Right d) (hh : has d.ext s = true) : Right (forgetD (eraseD d s) s) := by
  obtain ⟨hlt, he⟩ := (has_pos h.ex.asc s).1 hh
  refine ⟨h.s0, h.s1, Nat.le_trans (filt_le _ _) h.wl, h.fu, right_erase h.ex hlt, fun w hw => ?_⟩
  obtain ⟨hw1, hw2⟩ := List.mem_filter.1 hw
  have hne : w.1 ≠ s := isN_no.1 (by simpa using hw2)
  obtain ⟨x, hx, e, hr⟩ := h.wr w hw1
  exact ⟨x, mem_erase hlt he hx (by rw [e]; exact hne), e, hr⟩
theorem freeD_right {d : D} {s : ByteArray} (h : Right d) (h0 : (freeD d s).2 = 0) : Right (freeD d s).1 := by
  unfold freeD at h0 ⊢
  by_cases q : has d.ext s = true
  · rw [if_pos q]; exact right_free h q
  · rw [if_neg q] at h0; cases h0
def freesD (d0 : D) : D → List ByteArray → D × Int
  | d, [] => (d, 0)
  | d, s :: l => if (freeD d s).2 = 0 then freesD d0 (freeD d s).1 l else (d0, (freeD d s).2)
theorem freeD_or (d : D) (s : ByteArray) : (freeD d s).2 = 0 ∨ ((freeD d s).2 = 3 ∧ (freeD d s).1 = d) := by
  unfold freeD; split
  · left; rfl
  · right; exact ⟨rfl, rfl⟩
theorem right_lens {d : D} (h : Right d) : d.ext.length ≤ 9223372036854775807 ∧ d.waits.length ≤ 9223372036854775807 := ⟨Nat.le_trans (right_len h).1 (by decide), Nat.le_trans h.wl (by decide)⟩
set_option maxHeartbeats 2000000 in
theorem disk_Free (v vn : Value) (d : D) (names : List ByteArray) (S : Mem) (hd : DkR S v d) (hz : Dz d) (hn : Sl 1 strs S vn names) :
    ACall Try.prog 15 #[v, vn] S (DkRes (opened d (freesD d d names)) S) := by
  have hopen := disk_Open v d S hd hz
  have hd0 := hd
  obtain ⟨pe, ce, pw, cw, rfl, hE, hW⟩ := id hd
  obtain ⟨an, cn, rfl, hn1, hn2, hn3⟩ := id hn
  unfold opened
  rcases openD_or d with ⟨ho, hR⟩ | ⟨ho, hR, hdn⟩ | ⟨ho, hR, hdn⟩ <;> rw [ho] at hopen ⊢
  · rw [if_neg (show ¬ (2 : Int) = 0 from by decide)]
    refine ACall.enter (args := [.agg #[.int .i64 d.size, .slice pe d.ext.length ce, .slice pw d.waits.length cw, .int .i64 d.fuse, .bool d.down], .slice an names.length cn]) (rs := [.cell 4 25, .tmp 5]) 42 [(0, .agg #[.int .i64 d.size, .slice pe d.ext.length ce, .slice pw d.waits.length cw, .int .i64 d.fuse, .bool d.down]), (1, .slice an names.length cn)] Try.func15 rfl rfl (Nat.le_of_ble_eq_true rfl) rfl ⟨rfl, rfl, trivial⟩ ?_
    refine AWP.seq ?_
    refine AWP.region ?_
    refine ARun.boxA (cs := [_, _, _, _, _]) (lit_lt rfl) rfl ?_
    intro b2 f2
    have g2 := f2
    repeat ((with_reducible replace g2 := fresh_set g2); obtain ⟨g2, _⟩ := g2)
    (try simp only [List.length_cons, List.length_nil, Nat.zero_add, Nat.reduceAdd])
    refine ARun.alloc (lit_lt rfl) ty_zero_25 ?_
    intro b4 f4
    have g4 := f4
    repeat ((with_reducible replace g4 := fresh_set g4); obtain ⟨g4, _⟩ := g4)
    (try simp only [List.length_cons, List.length_nil, Nat.zero_add, Nat.reduceAdd])
    refine rC (Calm.assign rfl) ?_
    refine arun_nil ?_
    refine athen_n ?_
    refine AWP.seq ?_
    refine AWP.region ?_
    refine rC (ldA_ (cs := [_, _, _, _, _]) ty_agg_25 ty_size_25 rfl) ?_
    refine ARun.call (lit_lt rfl) go_44 rfl ((hopen.frame f2).frame f4) ?_
    rintro _ S1 ⟨Sa, ⟨M, ⟨p, oE, oW, hok, rfl, hM⟩, fa, hSa⟩, fb, h1⟩
    rw [h1, hSa]; rw [hSa] at fb; clear h1 S1 hSa Sa
    refine rC (Calm.move rfl) ?_
    refine rC (Calm.extract rfl rfl) ?_
    refine rC (Calm.extract rfl rfl) ?_
    refine rC (Calm.assign rfl) ?_
    refine rC (Calm.assign rfl) ?_
    refine arun_nil ?_
    refine athen_n ?_
    refine AWP.sub [(0, _), (1, _), (2, _), (4, _), (5, _), (6, _), (7, _)] ⟨rfl, rfl, rfl, rfl, rfl, rfl, rfl, trivial⟩ ?_
    refine AWP.seq ?_
    refine AWP.seq ?_
    refine AWP.region ?_
    refine rC (Calm.move rfl) ?_
    refine rC (Calm.bin rfl rfl b_neq) ?_
    refine arun_nil ?_
    refine athen_n ?_
    refine AWP.sub [(0, _), (1, _), (2, _), (4, _), (5, _), (6, _), (7, _), (17, _)] ⟨rfl, rfl, rfl, rfl, rfl, rfl, rfl, rfl, trivial⟩ ?_
    refine AWP.condT rfl (by first | rfl | (simp; done) | (simp; omega)) ?_
    rw [hM] at fa fb ⊢
    refine AWP.seq ?_
    refine AWP.region ?_
    refine rC (Calm.move rfl) ?_
    refine rC (Calm.move rfl) ?_
    refine ARun.call (lit_lt rfl) go_46 rfl (((disk_done p D0 2 S oE oW hok (by decide) (by decide)).frame fa).frame fb) ?_
    rintro _ S1 ⟨Sa, ⟨M2, ⟨v, rfl, hl2, hdk⟩, fc, hSa⟩, fd, h1⟩
    rw [h1, hSa]; rw [hSa] at fd; clear h1 S1 hSa Sa
    obtain ⟨qe, de, qw, dw, rfl, _⟩ := id hdk
    obtain ⟨ge, _⟩ := fresh_set fd
    refine rC (Calm.extract rfl rfl) ?_
    refine rC (Calm.extract rfl rfl) ?_
    first | refine ARun.storeAll rfl rfl ty_size_25 own_ rfl rfl ?_ | refine ARun.store rfl rfl ty_size_25 own_ lens_ rfl ?_
    (try simp only [Mem.set_set, List.set_cons_zero, List.set_cons_succ, Nat.zero_add, Nat.reduceAdd])
    refine rC (Calm.assign rfl) ?_
    refine arun_nil ?_
    refine athen_n ?_
    refine AWP.sub [(0, _), (1, _), (2, _), (4, _), (5, _), (6, _), (7, _), (17, _)] ⟨rfl, rfl, rfl, rfl, rfl, rfl, rfl, rfl, trivial⟩ ?_
    refine AWP.ret ?_
    refine athen_ret ?_
    refine ⟨_, M2, ⟨_, _, _, rfl, .inr ⟨ty_agg_25, [_, _, _, _, _], ty_size_25, rds_, rfl⟩, ⟨_, _, rfl, rfl, rfl⟩, rfl⟩, less_, ?_⟩
    exact ⟨_, rfl, hl2, hdk⟩
  · rw [if_neg (show ¬ (10 : Int) = 0 from by decide)]
    refine ACall.enter (args := [.agg #[.int .i64 d.size, .slice pe d.ext.length ce, .slice pw d.waits.length cw, .int .i64 d.fuse, .bool d.down], .slice an names.length cn]) (rs := [.cell 4 25, .tmp 5]) 42 [(0, .agg #[.int .i64 d.size, .slice pe d.ext.length ce, .slice pw d.waits.length cw, .int .i64 d.fuse, .bool d.down]), (1, .slice an names.length cn)] Try.func15 rfl rfl (Nat.le_of_ble_eq_true rfl) rfl ⟨rfl, rfl, trivial⟩ ?_
    refine AWP.seq ?_
    refine AWP.region ?_
    refine ARun.boxA (cs := [_, _, _, _, _]) (lit_lt rfl) rfl ?_
    intro b2 f2
    have g2 := f2
    repeat ((with_reducible replace g2 := fresh_set g2); obtain ⟨g2, _⟩ := g2)
    (try simp only [List.length_cons, List.length_nil, Nat.zero_add, Nat.reduceAdd])
    refine ARun.alloc (lit_lt rfl) ty_zero_25 ?_
    intro b4 f4
    have g4 := f4
    repeat ((with_reducible replace g4 := fresh_set g4); obtain ⟨g4, _⟩ := g4)
    (try simp only [List.length_cons, List.length_nil, Nat.zero_add, Nat.reduceAdd])
    refine rC (Calm.assign rfl) ?_
    refine arun_nil ?_
    refine athen_n ?_
    refine AWP.seq ?_
    refine AWP.region ?_
    refine rC (ldA_ (cs := [_, _, _, _, _]) ty_agg_25 ty_size_25 rfl) ?_
    refine ARun.call (lit_lt rfl) go_44 rfl ((hopen.frame f2).frame f4) ?_
    rintro _ S1 ⟨Sa, ⟨M, ⟨p, oE, oW, hok, rfl, hM⟩, fa, hSa⟩, fb, h1⟩
    rw [h1, hSa]; rw [hSa] at fb; clear h1 S1 hSa Sa
    refine rC (Calm.move rfl) ?_
    refine rC (Calm.extract rfl rfl) ?_
    refine rC (Calm.extract rfl rfl) ?_
    refine rC (Calm.assign rfl) ?_
    refine rC (Calm.assign rfl) ?_
    refine arun_nil ?_
    refine athen_n ?_
    refine AWP.sub [(0, _), (1, _), (2, _), (4, _), (5, _), (6, _), (7, _)] ⟨rfl, rfl, rfl, rfl, rfl, rfl, rfl, trivial⟩ ?_
    refine AWP.seq ?_
    refine AWP.seq ?_
    refine AWP.region ?_
    refine rC (Calm.move rfl) ?_
    refine rC (Calm.bin rfl rfl b_neq) ?_
    refine arun_nil ?_
    refine athen_n ?_
    refine AWP.sub [(0, _), (1, _), (2, _), (4, _), (5, _), (6, _), (7, _), (17, _)] ⟨rfl, rfl, rfl, rfl, rfl, rfl, rfl, rfl, trivial⟩ ?_
    refine AWP.condT rfl (by first | rfl | (simp; done) | (simp; omega)) ?_
    rw [hM] at fa fb ⊢
    refine AWP.seq ?_
    refine AWP.region ?_
    refine rC (Calm.move rfl) ?_
    refine rC (Calm.move rfl) ?_
    refine ARun.call (lit_lt rfl) go_46 rfl (((disk_done p d 10 S oE oW hok (right_lens hR).1 (right_lens hR).2).frame fa).frame fb) ?_
    rintro _ S1 ⟨Sa, ⟨M2, ⟨v, rfl, hl2, hdk⟩, fc, hSa⟩, fd, h1⟩
    rw [h1, hSa]; rw [hSa] at fd; clear h1 S1 hSa Sa
    obtain ⟨qe, de, qw, dw, rfl, _⟩ := id hdk
    obtain ⟨ge, _⟩ := fresh_set fd
    refine rC (Calm.extract rfl rfl) ?_
    refine rC (Calm.extract rfl rfl) ?_
    first | refine ARun.storeAll rfl rfl ty_size_25 own_ rfl rfl ?_ | refine ARun.store rfl rfl ty_size_25 own_ lens_ rfl ?_
    (try simp only [Mem.set_set, List.set_cons_zero, List.set_cons_succ, Nat.zero_add, Nat.reduceAdd])
    refine rC (Calm.assign rfl) ?_
    refine arun_nil ?_
    refine athen_n ?_
    refine AWP.sub [(0, _), (1, _), (2, _), (4, _), (5, _), (6, _), (7, _), (17, _)] ⟨rfl, rfl, rfl, rfl, rfl, rfl, rfl, rfl, trivial⟩ ?_
    refine AWP.ret ?_
    refine athen_ret ?_
    refine ⟨_, M2, ⟨_, _, _, rfl, .inr ⟨ty_agg_25, [_, _, _, _, _], ty_size_25, rds_, rfl⟩, ⟨_, _, rfl, rfl, rfl⟩, rfl⟩, less_, ?_⟩
    exact ⟨_, rfl, hl2, hdk⟩
  · rw [if_pos rfl]
    refine ACall.enter (args := [.agg #[.int .i64 d.size, .slice pe d.ext.length ce, .slice pw d.waits.length cw, .int .i64 d.fuse, .bool d.down], .slice an names.length cn]) (rs := [.cell 4 25, .tmp 5]) 42 [(0, .agg #[.int .i64 d.size, .slice pe d.ext.length ce, .slice pw d.waits.length cw, .int .i64 d.fuse, .bool d.down]), (1, .slice an names.length cn)] Try.func15 rfl rfl (Nat.le_of_ble_eq_true rfl) rfl ⟨rfl, rfl, trivial⟩ ?_
    refine AWP.seq ?_
    refine AWP.region ?_
    refine ARun.boxA (cs := [_, _, _, _, _]) (lit_lt rfl) rfl ?_
    intro b2 f2
    have g2 := f2
    repeat ((with_reducible replace g2 := fresh_set g2); obtain ⟨g2, _⟩ := g2)
    (try simp only [List.length_cons, List.length_nil, Nat.zero_add, Nat.reduceAdd])
    refine ARun.alloc (lit_lt rfl) ty_zero_25 ?_
    intro b4 f4
    have g4 := f4
    repeat ((with_reducible replace g4 := fresh_set g4); obtain ⟨g4, _⟩ := g4)
    (try simp only [List.length_cons, List.length_nil, Nat.zero_add, Nat.reduceAdd])
    refine rC (Calm.assign rfl) ?_
    refine arun_nil ?_
    refine athen_n ?_
    refine AWP.seq ?_
    refine AWP.region ?_
    refine rC (ldA_ (cs := [_, _, _, _, _]) ty_agg_25 ty_size_25 rfl) ?_
    refine ARun.call (lit_lt rfl) go_44 rfl ((hopen.frame f2).frame f4) ?_
    rintro _ S1 ⟨Sa, ⟨M, ⟨p, oE, oW, hok, rfl, hM⟩, fa, hSa⟩, fb, h1⟩
    rw [h1, hSa]; rw [hSa] at fb; clear h1 S1 hSa Sa
    refine rC (Calm.move rfl) ?_
    refine rC (Calm.extract rfl rfl) ?_
    refine rC (Calm.extract rfl rfl) ?_
    refine rC (Calm.assign rfl) ?_
    refine rC (Calm.assign rfl) ?_
    refine arun_nil ?_
    refine athen_n ?_
    refine AWP.sub [(0, _), (1, _), (2, _), (4, _), (5, _), (6, _), (7, _)] ⟨rfl, rfl, rfl, rfl, rfl, rfl, rfl, trivial⟩ ?_
    refine AWP.seq ?_
    refine AWP.seq ?_
    refine AWP.region ?_
    refine rC (Calm.move rfl) ?_
    refine rC (Calm.bin rfl rfl b_neq) ?_
    refine arun_nil ?_
    refine athen_n ?_
    refine AWP.sub [(0, _), (1, _), (2, _), (4, _), (5, _), (6, _), (7, _), (17, _)] ⟨rfl, rfl, rfl, rfl, rfl, rfl, rfl, rfl, trivial⟩ ?_
    refine AWP.condF rfl (by first | rfl | (simp; done) | (simp; omega)) ?_
    rw [hM] at fa fb ⊢
    refine AWP.skip ?_
    refine athen_n ?_
    refine AWP.seq ?_
    refine AWP.seq ?_
    refine AWP.region ?_
    refine rC (Calm.move rfl) ?_
    refine rC (Calm.lenSl Try.underlying26 rfl) ?_
    refine rC (Calm.move rfl) ?_
    refine arun_nil ?_
    refine athen_n ?_
    refine AWP.block ?_
    refine AWP.loop (X := Nat × D × Option (Nat × Nat) × Option (Nat × Nat)) (fun x => [(2, .pointer (some ⟨b2, 0, none⟩)), (4, .pointer (some ⟨b4, 0, none⟩)), (6, .pointer (some ⟨p, 0, none⟩)), (23, .slice an names.length cn), (24, .int .i64 names.length), (25, .int .i64 x.1)]) (fun x => ((devM S p x.2.1 x.2.2.1 x.2.2.2).set b2 ⟨25, [.int .i64 d.size, .slice pe d.ext.length ce, .slice pw d.waits.length cw, .int .i64 d.fuse, .bool d.down], 5⟩).set b4 ⟨25, [.int .i64 0, .slice none 0 0, .slice none 0 0, .int .i64 0, .bool false], 5⟩) (fun x => x.1 ≤ names.length ∧ Right x.2.1 ∧ OkV S p x.2.1 x.2.2.1 x.2.2.2 ∧ freesD d x.2.1 (names.drop x.1) = freesD d d names ∧ Fresh (devM S p x.2.1 x.2.2.1 x.2.2.2) b2 ∧ Fresh ((devM S p x.2.1 x.2.2.1 x.2.2.2).set b2 ⟨25, [.int .i64 d.size, .slice pe d.ext.length ce, .slice pw d.waits.length cw, .int .i64 d.fuse, .bool d.down], 5⟩) b4) (fun x => names.length - x.1) ((0, d, oE, oW)) ⟨rfl, rfl, rfl, rfl, rfl, rfl, trivial⟩ (Mem.Less.refl _) (⟨Nat.zero_le _, hR, hok, by simp, fa, fb⟩) ?_
    rintro ⟨i, di, oEi, oWi⟩ ⟨hi, hRi, hoki, hfi, fai, fbi⟩
    (try dsimp only at *)
    have hlen := right_lens hRi
    refine AWP.seq ?_
    refine AWP.region ?_
    refine rC (Calm.bin rfl rfl b_lss) ?_
    refine arun_nil ?_
    refine athen_n ?_
    refine AWP.seq ?_
    refine AWP.condB rfl (fun hc => ?_) (fun hc => ?_)
    · have hc : i < names.length := by have := of_decide_eq_true hc; omega
      obtain ⟨b, off, rfl, hk⟩ := hn3.resolve_left (fun e => by subst e; simp at hc)
      obtain ⟨gbi, nb42⟩ := fresh_set fbi
      have nb24 := Ne.symm nb42
      have hSi := hoki.less
      have hki := (hk i hc).less (show S.Less (((devM S p di oEi oWi).set b2 ⟨25, [.int .i64 d.size, .slice pe d.ext.length ce, .slice pw d.waits.length cw, .int .i64 d.fuse, .bool d.down], 5⟩).set b4 ⟨25, [.int .i64 0, .slice none 0 0, .slice none 0 0, .int .i64 0, .bool false], 5⟩) from (hSi.trans (Mem.less_set _ _ _ fai.1)).trans (Mem.less_set _ _ _ fbi.1))
      have hdr := drop_get hc
      rw [hdr] at hfi
      generalize names[i] = s at *
      unfold strs at hki
      refine AWP.skip ?_
      refine athen_n ?_
      refine AWP.seq ?_
      refine AWP.block ?_
      refine AWP.seq ?_
      refine AWP.region ?_
      refine rC (Calm.indexS Try.underlying26 ty_size_9 rfl rfl (by omega) (by omega)) ?_
      refine rC (ld_ ty_plain_9 rfl) ?_
      refine rC (Calm.assign rfl) ?_
      refine arun_nil ?_
      refine athen_n ?_
      refine AWP.sub [(2, _), (4, _), (6, _), (23, _), (24, _), (25, _), (26, _), (9, _)] ⟨rfl, rfl, rfl, rfl, rfl, rfl, rfl, rfl, trivial⟩ ?_
      refine AWP.seq ?_
      refine AWP.region ?_
      refine rC (Calm.move rfl) ?_
      refine rC (Calm.move rfl) ?_
      refine ARun.call (lit_lt rfl) go_54 rfl (((dev_Free p di s S oEi oWi hoki hRi).frame fai).frame fbi) ?_
      rintro _ S1 ⟨Sa, ⟨M3, ⟨oE3, oW3, hok3, rfl, hM3⟩, fa3, hSa⟩, fb3, h1⟩
      rw [h1, hSa]; rw [hSa] at fb3; clear h1 S1 hSa Sa; rw [hM3] at fa3 fb3 ⊢
      have hfr := @freeD_right di s hRi
      rw [show freesD d di (s :: names.drop (i + 1)) = if (freeD di s).2 = 0 then freesD d (freeD di s).1 (names.drop (i + 1)) else (d, (freeD di s).2) from rfl] at hfi
      obtain ⟨g3, _⟩ := fresh_set fb3
      refine rC (Calm.assign rfl) ?_
      refine arun_nil ?_
      refine athen_n ?_
      refine AWP.sub [(2, _), (4, _), (6, _), (23, _), (24, _), (25, _), (26, _), (9, _), (10, _)] ⟨rfl, rfl, rfl, rfl, rfl, rfl, rfl, rfl, rfl, trivial⟩ ?_
      rcases freeD_or di s with hf | ⟨hf, hfd⟩
      · rw [if_pos hf] at hfi
        rw [hf]
        refine AWP.seq ?_
        refine AWP.region ?_
        refine rC (Calm.move rfl) ?_
        refine rC (Calm.bin rfl rfl b_neq) ?_
        refine arun_nil ?_
        refine athen_n ?_
        refine AWP.sub [(2, _), (4, _), (6, _), (23, _), (24, _), (25, _), (26, _), (9, _), (10, _), (33, _)] ⟨rfl, rfl, rfl, rfl, rfl, rfl, rfl, rfl, rfl, rfl, trivial⟩ ?_
        refine AWP.condF rfl (by first | rfl | (simp; done) | (simp; omega)) ?_
        refine AWP.skip ?_
        refine ain_n ?_
        refine athen_n ?_
        refine AWP.region ?_
        refine rC (Calm.bin rfl rfl b_add_i64) ?_
        refine rC (Calm.move rfl) ?_
        refine arun_nil ?_
        refine athen_n ?_
        refine ⟨(i + 1, (freeD di s).1, oE3, oW3), ?_, ?_, ?_, ?_⟩
        all_goals (try dsimp only)
        · exact ⟨rfl, rfl, rfl, rfl, rfl, rfl, trivial⟩
        · exact Mem.Less.refl _
        · exact ⟨hc, hfr hf, hok3, hfi, fa3, fb3⟩
        · omega
      · rw [if_neg (by rw [hf]; decide), hf] at hfi
        rw [hf, hfd]
        rw [hfd] at hok3 fa3 fb3 g3
        refine AWP.seq ?_
        refine AWP.region ?_
        refine rC (Calm.move rfl) ?_
        refine rC (Calm.bin rfl rfl b_neq) ?_
        refine arun_nil ?_
        refine athen_n ?_
        refine AWP.sub [(2, _), (4, _), (6, _), (23, _), (24, _), (25, _), (26, _), (9, _), (10, _), (33, _)] ⟨rfl, rfl, rfl, rfl, rfl, rfl, rfl, rfl, rfl, rfl, trivial⟩ ?_
        refine AWP.condT rfl (by first | rfl | (simp; done) | (simp; omega)) ?_
        rw [← hfi]
        refine AWP.seq ?_
        refine AWP.region ?_
        refine rC (ldA_ (cs := [_, _, _, _, _]) ty_agg_25 ty_size_25 rfl) ?_
        refine ARun.call (lit_lt rfl) go_55 rfl (((disk_Own _ d _ (hd0.less hok3.less) hz.el hz.wl).frame fa3).frame fb3) ?_
        rintro _ S1 ⟨Sa, ⟨M2, ⟨oE4, oW4, hok4, rfl, hM4⟩, fc, hSa⟩, fd, h1⟩
        rw [h1, hSa]; rw [hSa] at fd; clear h1 S1 hSa Sa
        have hdk := hok4.dk (right_lens hR).1 (right_lens hR).2
        obtain ⟨qe, de, hqe⟩ := outV_eq hok4.e
        obtain ⟨qw, dw, hqw⟩ := outV_eq hok4.w
        unfold dkV at hdk ⊢
        rw [hqe, hqw] at hdk ⊢
        obtain ⟨ge, _⟩ := fresh_set fd
        have hSL := hok3.less.trans hok4.less
        rw [← hM4] at hdk hSL
        refine rC (Calm.move rfl) ?_
        first | refine ARun.storeAll rfl rfl ty_size_25 own_ rfl rfl ?_ | refine ARun.store rfl rfl ty_size_25 own_ lens_ rfl ?_
        (try simp only [Mem.set_set, List.set_cons_zero, List.set_cons_succ, Nat.zero_add, Nat.reduceAdd])
        refine rC (Calm.assign rfl) ?_
        refine arun_nil ?_
        refine athen_n ?_
        refine AWP.sub [(2, _), (4, _), (6, _), (23, _), (24, _), (25, _), (26, _), (9, _), (10, _), (33, _), (5, _)] ⟨rfl, rfl, rfl, rfl, rfl, rfl, rfl, rfl, rfl, rfl, rfl, trivial⟩ ?_
        refine AWP.ret ?_
        refine ain_ret ?_
        refine athen_ret ?_
        refine athen_ret ?_
        refine ain_ret ?_
        refine athen_ret ?_
        refine ⟨_, M2, ⟨_, _, _, rfl, .inr ⟨ty_agg_25, [_, _, _, _, _], ty_size_25, rds_, rfl⟩, ⟨_, _, rfl, rfl, rfl⟩, rfl⟩, less_, ?_⟩
        exact ⟨_, rfl, hSL, hdk⟩
    · have hc : i = names.length := by have := of_decide_eq_false hc; omega
      subst hc
      rw [List.drop_length] at hfi
      rw [← hfi]
      refine AWP.exit ?_
      refine athen_exit ?_
      refine athen_exit ?_
      refine ain_same ?_
      refine athen_n ?_
      refine AWP.seq ?_
      refine AWP.region ?_
      refine rC (Calm.move rfl) ?_
      refine ARun.call (lit_lt rfl) go_46 rfl (((disk_done p di 0 S oEi oWi hoki hlen.1 hlen.2).frame fai).frame fbi) ?_
      rintro _ S1 ⟨Sa, ⟨M2, ⟨v, rfl, hl2, hdk⟩, fc, hSa⟩, fd, h1⟩
      rw [h1, hSa]; rw [hSa] at fd; clear h1 S1 hSa Sa
      obtain ⟨qe, de, qw, dw, rfl, _⟩ := id hdk
      obtain ⟨ge, _⟩ := fresh_set fd
      refine rC (Calm.extract rfl rfl) ?_
      refine rC (Calm.extract rfl rfl) ?_
      first | refine ARun.storeAll rfl rfl ty_size_25 own_ rfl rfl ?_ | refine ARun.store rfl rfl ty_size_25 own_ lens_ rfl ?_
      (try simp only [Mem.set_set, List.set_cons_zero, List.set_cons_succ, Nat.zero_add, Nat.reduceAdd])
      refine rC (Calm.assign rfl) ?_
      refine arun_nil ?_
      refine athen_n ?_
      refine AWP.sub [(2, _), (4, _), (6, _), (23, _), (24, _), (25, _), (26, _), (5, _)] ⟨rfl, rfl, rfl, rfl, rfl, rfl, rfl, rfl, trivial⟩ ?_
      refine AWP.ret ?_
      refine ⟨_, M2, ⟨_, _, _, rfl, .inr ⟨ty_agg_25, [_, _, _, _, _], ty_size_25, rds_, rfl⟩, ⟨_, _, rfl, rfl, rfl⟩, rfl⟩, less_, ?_⟩
      exact ⟨_, rfl, hl2, hdk⟩
end Go.Proofs.Ytkeiphkccnfhoaa
