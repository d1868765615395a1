/-
  Skew: samples and triples, by the program and by the document.
-/
import Derived.Test.YtgidjbpgkeemiaaSk1
namespace Go.Proofs.Ytgidjbpgkeemiaa
open Go.RowKit
open Mv Num Loser Skew
set_option linter.unusedVariables false
set_option linter.unusedSimpArgs false
set_option maxRecDepth 4000
namespace Skew
def smpL (l : List Nat) : List Nat := if chkL l = 0 then places l.length else []
def triL (l : List Nat) : List (List Nat) := if chkL l = 0 then (places l.length).map (tri l) else []
theorem places_le (n : Nat) (hn : n ≤ 4096) : (places n).length ≤ 3000 := by have := places_few n; omega
theorem places_lt {n k : Nat} (hk : k < (places n).length) : (places n)[k] ≤ n := by
  have h := (plc_lt n k hk).2.2
  unfold plc at h
  rw [List.getD_eq_getElem?_getD, List.getElem?_eq_getElem hk] at h
  exact h
/-- The document's: of the first so many places. -/
def resP (n : Nat) : Nat → Nat → List Nat
  | 0, _ => []
  | 1, _ => []
  | 2, _ => []
  | _, _ => []
end Skew
theorem sl_nilI (S : Mem) : Sl 1 (fun x => [gI x]) S (.slice none 0 0) ([] : List Nat) := Sl.nil _ _ _
theorem sk_Samples (v : Value) (l : List Nat) (S : Mem) (hl : RowR S v l) :
    ACall Try.prog 15 #[v] S fun r S' => ∃ u, r = .tuple #[u, .int .i64 (chkL l)] ∧ RdL gI (smpL l) S u S' := by
  obtain ⟨a, cap, rfl, h1, h2, h3⟩ := id hl
  by_cases hc : chkL l = 0
  · have hlen := (chk_ok hc).1
    have es : smpL l = places l.length := if_pos hc
    rw [es]
    refine ACall.enter (args := [.slice a l.length cap]) (rs := [.tmp 2, .tmp 3]) 13 [(0, .slice a l.length cap)] Try.func15 rfl rfl (Nat.le_of_ble_eq_true rfl) rfl ⟨rfl, trivial⟩ ?_
    refine AWP.seq ?_
    refine AWP.region ?_
    refine rC (Calm.assign rfl) ?_
    refine rC (Calm.assign rfl) ?_
    refine arun_nil ?_
    refine athen_n ?_
    refine AWP.seq ?_
    refine AWP.seq ?_
    refine AWP.region ?_
    refine rC (Calm.move rfl) ?_
    refine ARun.call (lit_lt rfl) go_24 rfl (sk_Check _ l _ hl) ?_
    rintro _ S1 ⟨rfl, h1⟩
    rw [h1]; clear h1 S1
    rw [hc]
    refine rC (Calm.assign rfl) ?_
    refine arun_nil ?_
    refine athen_n ?_
    refine AWP.sub [(0, _), (2, _), (3, _), (4, _)] ⟨rfl, rfl, rfl, rfl, trivial⟩ ?_
    refine AWP.seq ?_
    refine AWP.region ?_
    refine rC (Calm.move rfl) ?_
    refine rC (Calm.bin rfl rfl b_neq) ?_
    refine arun_nil ?_
    refine athen_n ?_
    refine AWP.sub [(0, _), (2, _), (3, _), (4, _), (8, _)] ⟨rfl, rfl, rfl, rfl, rfl, trivial⟩ ?_
    refine AWP.condF rfl (by first | rfl | (simp; done) | (simp; omega)) ?_
    refine AWP.skip ?_
    refine athen_n ?_
    refine AWP.seq ?_
    refine AWP.region ?_
    refine rC (Calm.move rfl) ?_
    refine rC (Calm.lenSl Try.underlying22 rfl) ?_
    refine ARun.call (lit_lt rfl) go_59 rfl (sk_Places _ l.length rfl (by omega) S) ?_
    rintro u S1 hP
    refine rC (Calm.assign rfl) ?_
    refine rC (Calm.assign rfl) ?_
    refine arun_nil ?_
    refine athen_n ?_
    refine AWP.sub [(0, _), (2, _), (3, _), (4, _), (8, _)] ⟨rfl, rfl, rfl, rfl, rfl, trivial⟩ ?_
    refine AWP.ret ?_
    refine ⟨_, S1, ⟨_, _, rfl, ⟨_, _, rfl, rfl, rfl⟩, rfl⟩, Mem.Less.refl _, ?_⟩
    exact ⟨u, rfl, hP⟩
  · have es : smpL l = [] := if_neg hc
    rw [es]
    have e1 := chk_no hc
    refine ACall.enter (args := [.slice a l.length cap]) (rs := [.tmp 2, .tmp 3]) 13 [(0, .slice a l.length cap)] Try.func15 rfl rfl (Nat.le_of_ble_eq_true rfl) rfl ⟨rfl, trivial⟩ ?_
    refine AWP.seq ?_
    refine AWP.region ?_
    refine rC (Calm.assign rfl) ?_
    refine rC (Calm.assign rfl) ?_
    refine arun_nil ?_
    refine athen_n ?_
    refine AWP.seq ?_
    refine AWP.seq ?_
    refine AWP.region ?_
    refine rC (Calm.move rfl) ?_
    refine ARun.call (lit_lt rfl) go_24 rfl (sk_Check _ l _ hl) ?_
    rintro _ S1 ⟨rfl, h1⟩
    rw [h1]; clear h1 S1
    rw [e1]
    refine rC (Calm.assign rfl) ?_
    refine arun_nil ?_
    refine athen_n ?_
    refine AWP.sub [(0, _), (2, _), (3, _), (4, _)] ⟨rfl, rfl, rfl, rfl, trivial⟩ ?_
    refine AWP.seq ?_
    refine AWP.region ?_
    refine rC (Calm.move rfl) ?_
    refine rC (Calm.bin rfl rfl b_neq) ?_
    refine arun_nil ?_
    refine athen_n ?_
    refine AWP.sub [(0, _), (2, _), (3, _), (4, _), (8, _)] ⟨rfl, rfl, rfl, rfl, rfl, trivial⟩ ?_
    refine AWP.condT rfl (by first | rfl | (simp; done) | (simp; omega)) ?_
    refine AWP.seq ?_
    refine AWP.region ?_
    refine rC (Calm.move rfl) ?_
    refine rC (Calm.assign rfl) ?_
    refine rC (Calm.assign rfl) ?_
    refine arun_nil ?_
    refine athen_n ?_
    refine AWP.sub [(0, _), (2, _), (3, _), (4, _), (8, _)] ⟨rfl, rfl, rfl, rfl, rfl, trivial⟩ ?_
    refine AWP.ret ?_
    refine athen_ret ?_
    refine ⟨_, S, ⟨_, _, rfl, ⟨_, _, rfl, rfl, rfl⟩, rfl⟩, less_, ?_⟩
    exact ⟨_, rfl, Mem.Less.refl _, sl_nilI _⟩
set_option maxHeartbeats 1000000 in
theorem sk_Triples (v : Value) (l : List Nat) (S : Mem) (hl : RowR S v l) :
    ACall Try.prog 17 #[v] S fun r S' => ∃ u, r = .tuple #[u, .int .i64 (chkL l)] ∧ S.Less S' ∧ SlOf RowR S' u (triL l) := by
  by_cases hc : chkL l = 0
  · have hlen := (chk_ok hc).1
    have es : smpL l = places l.length := if_pos hc
    have et : triL l = (places l.length).map (tri l) := if_pos hc
    have hS := sk_Samples v l S hl
    rw [es, hc] at hS
    rw [et, hc]
    have hpl := places_le l.length hlen
    generalize hps : places l.length = ps at *
    refine ACall.enter (args := [v]) (rs := [.tmp 2, .tmp 3]) 37 [(0, v)] Try.func17 rfl rfl (Nat.le_of_ble_eq_true rfl) rfl ⟨rfl, trivial⟩ ?_
    refine AWP.seq ?_
    refine AWP.region ?_
    refine rC (Calm.assign rfl) ?_
    refine rC (Calm.assign rfl) ?_
    refine arun_nil ?_
    refine athen_n ?_
    refine AWP.seq ?_
    refine AWP.region ?_
    refine rC (Calm.move rfl) ?_
    refine ARun.call (lit_lt rfl) go_15 rfl (hS) ?_
    rintro _ S1 ⟨u, rfl, hSS, hu⟩
    obtain ⟨pa, pc, rfl, p1, p2, p3⟩ := id hu
    refine rC (Calm.move rfl) ?_
    refine rC (Calm.extract rfl rfl) ?_
    refine rC (Calm.extract rfl rfl) ?_
    refine rC (Calm.assign rfl) ?_
    refine rC (Calm.assign rfl) ?_
    refine arun_nil ?_
    refine athen_n ?_
    refine AWP.sub [(0, _), (2, _), (3, _), (4, _), (5, _)] ⟨rfl, rfl, rfl, rfl, rfl, trivial⟩ ?_
    refine AWP.seq ?_
    refine AWP.seq ?_
    refine AWP.region ?_
    refine rC (Calm.move rfl) ?_
    refine rC (Calm.bin rfl rfl b_neq) ?_
    refine arun_nil ?_
    refine athen_n ?_
    refine AWP.sub [(0, _), (2, _), (3, _), (4, _), (5, _), (16, _)] ⟨rfl, rfl, rfl, rfl, rfl, rfl, trivial⟩ ?_
    refine AWP.condF rfl (by first | rfl | (simp; done) | (simp; omega)) ?_
    refine AWP.skip ?_
    refine athen_n ?_
    refine AWP.seq ?_
    refine AWP.region ?_
    refine rC (Calm.move rfl) ?_
    refine rC (Calm.lenSl Try.underlying24 rfl) ?_
    refine ARun.makeSlice (lit_lt rfl) ty_sl_28 rfl rfl (by omega) (by omega) (by omega) (by omega) ?_
    intro b20 f20
    have g20 := f20
    repeat ((with_reducible replace g20 := fresh_set g20); obtain ⟨g20, _⟩ := g20)
    refine rC (Calm.assign rfl) ?_
    refine arun_nil ?_
    refine athen_n ?_
    refine AWP.sub [(0, _), (2, _), (3, _), (4, _), (5, _), (16, _), (6, _)] ⟨rfl, rfl, rfl, rfl, rfl, rfl, rfl, trivial⟩ ?_
    simp only [Nat.mul_one, madeL_one, Int.toNat_natCast]
    refine AWP.seq ?_
    refine AWP.seq ?_
    refine AWP.region ?_
    refine rC (Calm.move rfl) ?_
    refine rC (Calm.lenSl Try.underlying24 rfl) ?_
    refine rC (Calm.move rfl) ?_
    refine arun_nil ?_
    refine athen_n ?_
    refine AWP.block ?_
    refine AWP.loop (X := Nat × Mem × List Value) (fun x => [(0, v), (6, .slice (some ⟨b20, 0, none⟩) ps.length ps.length), (21, .slice pa ps.length pc), (22, .int .i64 ps.length), (23, .int .i64 x.1)]) (fun x => x.2.1.set b20 ⟨22, x.2.2 ++ List.replicate (ps.length - x.1) (.slice none 0 0), ps.length⟩) (fun x => x.1 ≤ ps.length ∧ S1.Less x.2.1 ∧ Fresh x.2.1 b20 ∧ x.2.2.length = x.1 ∧ ∀ j (h' : j < x.2.2.length), RowR x.2.1 x.2.2[j] (tri l (ps.getD j 0))) (fun x => ps.length - x.1) ((0, S1, [])) ⟨rfl, rfl, rfl, rfl, rfl, trivial⟩ (Mem.Less.refl _) (⟨Nat.zero_le _, Mem.Less.refl _, f20, rfl, fun j h => absurd h (Nat.not_lt_zero _)⟩) ?_
    rintro ⟨i, M, hs⟩ ⟨q1, q2, q3, q4, q5⟩
    (try dsimp only at *)
    by_cases hi : i < ps.length
    · refine AWP.seq ?_
      refine AWP.region ?_
      refine rC (Calm.bin rfl rfl b_lss) ?_
      refine arun_nil ?_
      refine athen_n ?_
      refine AWP.seq ?_
      refine AWP.condT rfl (by first | rfl | (simp; done) | (simp; omega)) ?_
      obtain ⟨pb, po, rfl, hk⟩ := p3.resolve_left (fun e => by rw [e] at hi; exact absurd hi (Nat.not_lt_zero _))
      have hki : Mem.Knows (M.set b20 ⟨22, hs ++ List.replicate (ps.length - i) (.slice none 0 0), ps.length⟩) ⟨pb, po + i * 1, none⟩ [.int .i64 (ps[i] : Int)] := (hk i hi).less (q2.trans (Mem.less_set _ _ _ q3.1))
      have hpi : ps[i] ≤ l.length := by simp only [← hps]; exact places_lt (by rw [hps]; exact hi)
      refine AWP.skip ?_
      refine athen_n ?_
      refine AWP.seq ?_
      refine AWP.block ?_
      refine AWP.seq ?_
      refine AWP.region ?_
      refine rC (Calm.move rfl) ?_
      refine rC (Calm.indexS Try.underlying24 ty_size_3 rfl rfl (by omega) (by omega)) ?_
      refine rC (ld_ ty_plain_3 rfl) ?_
      refine rC (Calm.assign rfl) ?_
      refine rC (Calm.assign rfl) ?_
      refine arun_nil ?_
      refine athen_n ?_
      refine AWP.sub [(0, _), (6, _), (21, _), (22, _), (23, _), (24, _), (7, _), (8, _)] ⟨rfl, rfl, rfl, rfl, rfl, rfl, rfl, rfl, trivial⟩ ?_
      refine AWP.seq ?_
      refine AWP.region ?_
      refine rC (Calm.move rfl) ?_
      refine rC (Calm.move rfl) ?_
      refine ARun.call (lit_lt rfl) go_61 rfl (sk_triple v l _ ps[i] rfl _ (hl.less (hSS.trans (q2.trans (Mem.less_set _ _ _ q3.1)))) (by omega)) ?_
      rintro _ _ ⟨rfl, rfl⟩
      unfold triV
      refine ARun.alloc (lit_lt rfl) ty_zero_71 ?_
      intro b9 f9
      have g9 := f9
      repeat ((with_reducible replace g9 := fresh_set g9); obtain ⟨g9, _⟩ := g9)
      (try simp only [List.length_cons, List.length_nil, Nat.zero_add, Nat.reduceAdd])
      first | refine ARun.storeAll rfl rfl ty_size_71 own_ rfl rfl ?_ | refine ARun.store rfl rfl ty_size_71 own_ lens_ rfl ?_
      (try simp only [Mem.set_set, List.set_cons_zero, List.set_cons_succ, Nat.zero_add, Nat.reduceAdd])
      refine arun_nil ?_
      refine athen_n ?_
      refine AWP.sub [(0, _), (6, _), (21, _), (22, _), (23, _), (24, _), (7, _), (8, _), (9, _)] ⟨rfl, rfl, rfl, rfl, rfl, rfl, rfl, rfl, rfl, trivial⟩ ?_
      refine AWP.region ?_
      refine rC (Calm.move rfl) ?_
      refine rC (Calm.move rfl) ?_
      refine rC (Calm.sliceArr Try.underlying71 ty_size_41 rfl (bnd_none _ _)) ?_
      refine rC (Calm.indexS Try.underlying28 ty_size_22 rfl rfl (by omega) (by omega)) ?_
      refine ARun.store1 rfl rfl ty_size_22 rfl own_ lens_ rfl ?_
      (try simp only [Mem.set_set, List.set_cons_zero, List.set_cons_succ, Nat.zero_add, Nat.reduceAdd])
      refine arun_nil ?_
      refine ain_n ?_
      refine athen_n ?_
      refine AWP.sub [(0, _), (6, _), (21, _), (22, _), (23, _), (24, _), (7, _), (8, _), (9, _)] ⟨rfl, rfl, rfl, rfl, rfl, rfl, rfl, rfl, rfl, trivial⟩ ?_
      simp only [Nat.zero_add, Nat.mul_one, Int.toNat_natCast, fill_set _ _ _ _ _ q4 hi]
      have epi : ps.getD hs.length 0 = ps[i] := by rw [q4, List.getD_eq_getElem?_getD, List.getElem?_eq_getElem hi]; rfl
      refine AWP.region ?_
      refine rC (Calm.bin rfl rfl b_add_i64) ?_
      refine rC (Calm.move rfl) ?_
      refine arun_nil ?_
      refine athen_n ?_
      refine ⟨(i + 1, M.set b9 ⟨71, (tri l ps[i]).map gU, 3⟩, hs ++ [.slice (some ⟨b9, 0, none⟩) 3 3]), ?_, ?_, ?_, ?_⟩
      all_goals (try dsimp only)
      · exact ⟨rfl, rfl, rfl, rfl, sq_, trivial⟩
      · exact less_
      · exact ⟨hi, q2.trans less_, fresh_more q3 (by first | assumption | (apply Ne.symm; assumption)), by rw [List.length_append, q4]; rfl, heads_step rowR_less q5 less_ (by rw [epi]; exact Sl.own1 (g := gU) (l := tri l ps[i]) (Mem.own_set_same _ _ _) List.prefix_rfl rfl (Nat.le_refl _) (by decide))⟩
      · omega
    · obtain rfl : i = ps.length := by omega
      refine AWP.seq ?_
      refine AWP.region ?_
      refine rC (Calm.bin rfl rfl b_lss) ?_
      refine arun_nil ?_
      refine athen_n ?_
      refine AWP.seq ?_
      refine AWP.condF rfl (by first | rfl | (simp; done) | (simp; omega)) ?_
      refine AWP.exit ?_
      refine athen_exit ?_
      refine athen_exit ?_
      refine ain_same ?_
      refine athen_n ?_
      refine AWP.seq ?_
      refine AWP.region ?_
      refine rC (Calm.move rfl) ?_
      refine rC (Calm.assign rfl) ?_
      refine rC (Calm.assign rfl) ?_
      refine arun_nil ?_
      refine athen_n ?_
      refine AWP.sub [(0, _), (6, _), (21, _), (22, _), (23, _), (24, _), (2, _), (3, _)] ⟨rfl, rfl, rfl, rfl, rfl, rfl, rfl, rfl, trivial⟩ ?_
      refine AWP.ret ?_
      refine ⟨_, _, ⟨_, _, rfl, ⟨_, _, rfl, rfl, rfl⟩, rfl⟩, Mem.Less.refl _, ?_⟩
      exact ⟨_, rfl, hSS.trans (q2.trans (Mem.less_set _ _ _ q3.1)), heads_slOf rowR_less q5 (by rw [List.length_map]; exact q4) (fun j h => by rw [List.length_map] at h; rw [List.getElem_map, List.getD_eq_getElem?_getD, List.getElem?_eq_getElem h]; rfl) (by rw [Nat.sub_self, List.replicate_zero, List.append_nil]; exact Mem.own_set_same _ _ _) (Mem.less_set _ _ _ q3.1) q4 (Nat.le_refl _) (by omega)⟩
  · have es : smpL l = [] := if_neg hc
    have et : triL l = [] := if_neg hc
    have e1 := chk_no hc
    have hS := sk_Samples v l S hl
    rw [es, e1] at hS
    rw [et, e1]
    refine ACall.enter (args := [v]) (rs := [.tmp 2, .tmp 3]) 37 [(0, v)] Try.func17 rfl rfl (Nat.le_of_ble_eq_true rfl) rfl ⟨rfl, trivial⟩ ?_
    refine AWP.seq ?_
    refine AWP.region ?_
    refine rC (Calm.assign rfl) ?_
    refine rC (Calm.assign rfl) ?_
    refine arun_nil ?_
    refine athen_n ?_
    refine AWP.seq ?_
    refine AWP.region ?_
    refine rC (Calm.move rfl) ?_
    refine ARun.call (lit_lt rfl) go_15 rfl (hS) ?_
    rintro _ S1 ⟨u, rfl, hSS, hu⟩
    refine rC (Calm.move rfl) ?_
    refine rC (Calm.extract rfl rfl) ?_
    refine rC (Calm.extract rfl rfl) ?_
    refine rC (Calm.assign rfl) ?_
    refine rC (Calm.assign rfl) ?_
    refine arun_nil ?_
    refine athen_n ?_
    refine AWP.sub [(0, _), (2, _), (3, _), (4, _), (5, _)] ⟨rfl, rfl, rfl, rfl, rfl, trivial⟩ ?_
    refine AWP.seq ?_
    refine AWP.seq ?_
    refine AWP.region ?_
    refine rC (Calm.move rfl) ?_
    refine rC (Calm.bin rfl rfl b_neq) ?_
    refine arun_nil ?_
    refine athen_n ?_
    refine AWP.sub [(0, _), (2, _), (3, _), (4, _), (5, _), (16, _)] ⟨rfl, rfl, rfl, rfl, rfl, rfl, trivial⟩ ?_
    refine AWP.condT rfl (by first | rfl | (simp; done) | (simp; omega)) ?_
    refine AWP.seq ?_
    refine AWP.region ?_
    refine rC (Calm.move rfl) ?_
    refine rC (Calm.assign rfl) ?_
    refine rC (Calm.assign rfl) ?_
    refine arun_nil ?_
    refine athen_n ?_
    refine AWP.sub [(0, _), (2, _), (3, _), (4, _), (5, _), (16, _)] ⟨rfl, rfl, rfl, rfl, rfl, rfl, trivial⟩ ?_
    refine AWP.ret ?_
    refine athen_ret ?_
    refine ⟨_, S, ⟨_, _, rfl, ⟨_, _, rfl, rfl, rfl⟩, rfl⟩, hSS, ?_⟩
    exact ⟨_, rfl, Mem.Less.refl _, SlOf.nil _ _⟩
end Go.Proofs.Ytgidjbpgkeemiaa
