/-
  Loser: the laws LoserLeast, LoserShort walked.
-/
import Derived.Test.YtddabbfjoejalaaVLos9
namespace Go.Proofs.Ytddabbfjoejalaa
open Go.RowKit
open Mv Num Loser
set_option linter.unusedVariables false
set_option linter.unusedSimpArgs false
set_option maxRecDepth 4000
theorem LoV.keyAt {S : Mem} {pa : Option Addr} {n ca : Nat} {ht : Value} {ks : List (List Nat)} {tr : List Int} (h : LoV S (.slice pa n ca) ht ks tr) (j : Nat) (hj : j < ks.length) : ∃ b off g, pa = some ⟨b, off, none⟩ ∧ S.Knows ⟨b, off + j * 1, none⟩ [g] ∧ RowR S g ks[j] := by
  obtain ⟨gs, hgl, ⟨pa', ca', e, a1, a2, a3⟩, hge⟩ := h.1
  cases e
  obtain ⟨b, off, rfl, hkn⟩ := a3.resolve_left (by intro h; rw [h] at hgl; simp at hgl; omega)
  exact ⟨b, off, gs[j]'(by omega), rfl, hkn j (by omega), hge j hj (by omega)⟩
theorem least_plain (ks : List (List Nat)) (j : Nat) (hj : j < ks.length) (hk : key ks (win ks 1) ≠ []) (hx : ks[j] ≠ []) :
    lessB ks[j] (key ks (win ks 1)) = false ∧ (lessB (key ks (win ks 1)) ks[j] = true ∨ (lessB (key ks (win ks 1)) ks[j] = false ∧ win ks 1 ≤ j)) := by
  by_cases e : j = win ks 1
  · rw [← key_get ks j hj, e]
    exact ⟨lessB_irrefl _, .inr ⟨lessB_irrefl _, Nat.le_refl _⟩⟩
  · have hb := win_beats (ks := ks) (n := 1) (by decide) (by omega) hj (under_top hj) e
    unfold beatsP at hb
    rw [← key_get ks j hj] at hx ⊢
    rw [kLess_lessB _ _ hk hx] at hb
    simp only [Bool.or_eq_true, Bool.and_eq_true, decide_eq_true_eq] at hb
    rcases hb with hb | ⟨hb, hb'⟩
    · refine ⟨?_, .inl hb⟩
      cases h : lessB (key ks j) (key ks (win ks 1)) with
      | false => rfl
      | true => have := lessB_trans _ _ _ hb h; rw [lessB_irrefl] at this; cases this
    · rw [hb]; exact ⟨lessB_irrefl _, .inr ⟨lessB_irrefl _, by omega⟩⟩
set_option maxHeartbeats 2000000 in
theorem law_LoserLeast (hk ht : Value) (ks : List (List Nat)) (tr : List Int) (S : Mem) (hlo : LoV S hk ht ks tr) (hkl : ks.length ≤ 5864062014634) (hrow : ∀ y ∈ ks, y.length ≤ 17592186043904) :
    ACall Try.prog 6 #[.agg #[hk, ht]] S fun r S' => r = .bool true := by
  obtain ⟨pa, ca, pt, ct, ehk, eht⟩ := hlo.slices
  subst ehk eht
  rcases topP_put ks tr [] with ⟨hc, htp, _⟩ | ⟨hc, hc1, hc2, rfl, he, htp, _⟩ | ⟨hc, hc1, hc2, rfl, he, htp, _⟩
  · skip
    refine ACall.enter (args := [.agg #[.slice pa ks.length ca, .slice pt tr.length ct]]) (rs := [.tmp 2]) 53 [(0, .agg #[.slice pa ks.length ca, .slice pt tr.length ct])] Try.func6 rfl rfl (Nat.le_of_ble_eq_true rfl) rfl ⟨rfl, trivial⟩ ?_
    refine AWP.seq ?_
    refine AWP.region ?_
    refine ARun.boxA (cs := [_, _]) (lit_lt rfl) rfl ?_
    intro b1 f1
    have g1 := f1
    repeat ((with_reducible replace g1 := fresh_set g1); obtain ⟨g1, _⟩ := g1)
    (try simp only [List.length_cons, List.length_nil, Nat.zero_add, Nat.reduceAdd])
    refine rC (Calm.assign rfl) ?_
    refine arun_nil ?_
    refine athen_n ?_
    refine named (S := S) (b := b1) g1.1 ?_
    intro T1 hT1 kb1
    replace hlo := hlo.less hT1
    refine AWP.seq ?_
    refine AWP.seq ?_
    refine AWP.region ?_
    refine ARun.call (lit_lt rfl) go_15 rfl (losV_lives _) ?_
    rintro _ S1 ⟨rfl, h1⟩
    rw [h1]; clear h1 S1
    refine rC (Calm.un rfl (una_not _)) ?_
    refine arun_nil ?_
    refine athen_n ?_
    refine AWP.sub [(0, _), (1, _), (2, _), (9, _)] ⟨rfl, rfl, rfl, rfl, trivial⟩ ?_
    refine AWP.condF rfl (by first | rfl | (simp; done) | (simp; omega)) ?_
    refine AWP.skip ?_
    refine athen_n ?_
    refine AWP.seq ?_
    refine AWP.region ?_
    refine rC (ldA_ (cs := [_, _]) ty_agg_25 ty_size_25 rfl) ?_
    refine ARun.call (lit_lt rfl) go_18 rfl (losV_Top _ _ ks tr _ hlo hrow) ?_
    rintro _ S2 hr2
    rw [htp] at hr2
    obtain ⟨v8, rfl, hS2, ⟨p8, c8, rfl, _⟩⟩ := hr2
    refine rC (Calm.move rfl) ?_
    refine rC (Calm.extract rfl rfl) ?_
    refine rC (Calm.extract rfl rfl) ?_
    refine rC (Calm.extract rfl rfl) ?_
    refine rC (Calm.assign rfl) ?_
    refine rC (Calm.assign rfl) ?_
    refine rC (Calm.assign rfl) ?_
    refine arun_nil ?_
    refine athen_n ?_
    refine AWP.sub [(0, _), (1, _), (2, _), (9, _), (3, _), (4, _), (5, _)] ⟨rfl, rfl, rfl, rfl, rfl, rfl, rfl, trivial⟩ ?_
    refine AWP.seq ?_
    refine AWP.seq ?_
    refine AWP.region ?_
    refine rC (Calm.move rfl) ?_
    refine rC (Calm.bin rfl rfl b_neq) ?_
    refine arun_nil ?_
    refine athen_n ?_
    refine AWP.sub [(0, _), (1, _), (2, _), (9, _), (3, _), (4, _), (5, _), (17, _)] ⟨rfl, rfl, rfl, rfl, rfl, rfl, rfl, rfl, trivial⟩ ?_
    refine AWP.condT rfl (by first | rfl | (simp; done) | (simp; omega)) ?_
    refine AWP.seq ?_
    refine AWP.region ?_
    refine rC (Calm.move rfl) ?_
    refine rC (Calm.bin rfl rfl b_eql) ?_
    refine rC (Calm.move rfl) ?_
    first | refine rS 20 ?_ | refine rU 20 ?_ | refine rG 20 (Calm.move rfl) ?_
    first | refine rS 20 ?_ | refine rU 20 ?_ | refine rG 20 (Calm.lenSl Try.underlying32 rfl) ?_
    first | refine rS 20 ?_ | refine rU 20 ?_ | refine rG 20 (Calm.bin rfl rfl b_eql) ?_
    refine rC ((by first | exact Calm.pickT rfl rfl | exact Calm.pickF rfl rfl)) ?_
    refine rC (Calm.assign rfl) ?_
    refine arun_nil ?_
    refine athen_n ?_
    refine AWP.sub [(0, _), (1, _), (2, _), (9, _), (3, _), (4, _), (5, _), (17, _)] ⟨rfl, rfl, rfl, rfl, rfl, rfl, rfl, rfl, trivial⟩ ?_
    refine AWP.ret ?_
    refine athen_ret ?_
    refine ⟨_, _, ⟨_, _, rfl, rfl, rfl⟩, less_, ?_⟩
    rfl
  · skip
    refine ACall.enter (args := [.agg #[.slice pa ks.length ca, .slice pt (treeOf ks).length ct]]) (rs := [.tmp 2]) 53 [(0, .agg #[.slice pa ks.length ca, .slice pt (treeOf ks).length ct])] Try.func6 rfl rfl (Nat.le_of_ble_eq_true rfl) rfl ⟨rfl, trivial⟩ ?_
    refine AWP.seq ?_
    refine AWP.region ?_
    refine ARun.boxA (cs := [_, _]) (lit_lt rfl) rfl ?_
    intro b1 f1
    have g1 := f1
    repeat ((with_reducible replace g1 := fresh_set g1); obtain ⟨g1, _⟩ := g1)
    (try simp only [List.length_cons, List.length_nil, Nat.zero_add, Nat.reduceAdd])
    refine rC (Calm.assign rfl) ?_
    refine arun_nil ?_
    refine athen_n ?_
    refine named (S := S) (b := b1) g1.1 ?_
    intro T1 hT1 kb1
    replace hlo := hlo.less hT1
    refine AWP.seq ?_
    refine AWP.seq ?_
    refine AWP.region ?_
    refine ARun.call (lit_lt rfl) go_15 rfl (losV_lives _) ?_
    rintro _ S1 ⟨rfl, h1⟩
    rw [h1]; clear h1 S1
    refine rC (Calm.un rfl (una_not _)) ?_
    refine arun_nil ?_
    refine athen_n ?_
    refine AWP.sub [(0, _), (1, _), (2, _), (9, _)] ⟨rfl, rfl, rfl, rfl, trivial⟩ ?_
    refine AWP.condF rfl (by first | rfl | (simp; done) | (simp; omega)) ?_
    refine AWP.skip ?_
    refine athen_n ?_
    refine AWP.seq ?_
    refine AWP.region ?_
    refine rC (ldA_ (cs := [_, _]) ty_agg_25 ty_size_25 rfl) ?_
    refine ARun.call (lit_lt rfl) go_18 rfl (losV_Top _ _ ks (treeOf ks) _ hlo hrow) ?_
    rintro _ S2 hr2
    rw [htp] at hr2
    obtain ⟨v8, rfl, hS2, ⟨p8, c8, rfl, _⟩⟩ := hr2
    refine rC (Calm.move rfl) ?_
    refine rC (Calm.extract rfl rfl) ?_
    refine rC (Calm.extract rfl rfl) ?_
    refine rC (Calm.extract rfl rfl) ?_
    refine rC (Calm.assign rfl) ?_
    refine rC (Calm.assign rfl) ?_
    refine rC (Calm.assign rfl) ?_
    refine arun_nil ?_
    refine athen_n ?_
    refine AWP.sub [(0, _), (1, _), (2, _), (9, _), (3, _), (4, _), (5, _)] ⟨rfl, rfl, rfl, rfl, rfl, rfl, rfl, trivial⟩ ?_
    refine AWP.seq ?_
    refine AWP.seq ?_
    refine AWP.region ?_
    refine rC (Calm.move rfl) ?_
    refine rC (Calm.bin rfl rfl b_neq) ?_
    refine arun_nil ?_
    refine athen_n ?_
    refine AWP.sub [(0, _), (1, _), (2, _), (9, _), (3, _), (4, _), (5, _), (17, _)] ⟨rfl, rfl, rfl, rfl, rfl, rfl, rfl, rfl, trivial⟩ ?_
    refine AWP.condT rfl (by first | rfl | (simp; done) | (simp; omega)) ?_
    refine AWP.seq ?_
    refine AWP.region ?_
    refine rC (Calm.move rfl) ?_
    refine rC (Calm.bin rfl rfl b_eql) ?_
    refine rC (Calm.move rfl) ?_
    first | refine rS 20 ?_ | refine rU 20 ?_ | refine rG 20 (Calm.move rfl) ?_
    first | refine rS 20 ?_ | refine rU 20 ?_ | refine rG 20 (Calm.lenSl Try.underlying32 rfl) ?_
    first | refine rS 20 ?_ | refine rU 20 ?_ | refine rG 20 (Calm.bin rfl rfl b_eql) ?_
    refine rC ((by first | exact Calm.pickT rfl rfl | exact Calm.pickF rfl rfl)) ?_
    refine rC (Calm.assign rfl) ?_
    refine arun_nil ?_
    refine athen_n ?_
    refine AWP.sub [(0, _), (1, _), (2, _), (9, _), (3, _), (4, _), (5, _), (17, _)] ⟨rfl, rfl, rfl, rfl, rfl, rfl, rfl, rfl, trivial⟩ ?_
    refine AWP.ret ?_
    refine athen_ret ?_
    refine ⟨_, _, ⟨_, _, rfl, rfl, rfl⟩, less_, ?_⟩
    rfl
  · skip
    refine ACall.enter (args := [.agg #[.slice pa ks.length ca, .slice pt (treeOf ks).length ct]]) (rs := [.tmp 2]) 53 [(0, .agg #[.slice pa ks.length ca, .slice pt (treeOf ks).length ct])] Try.func6 rfl rfl (Nat.le_of_ble_eq_true rfl) rfl ⟨rfl, trivial⟩ ?_
    refine AWP.seq ?_
    refine AWP.region ?_
    refine ARun.boxA (cs := [_, _]) (lit_lt rfl) rfl ?_
    intro b1 f1
    have g1 := f1
    repeat ((with_reducible replace g1 := fresh_set g1); obtain ⟨g1, _⟩ := g1)
    (try simp only [List.length_cons, List.length_nil, Nat.zero_add, Nat.reduceAdd])
    refine rC (Calm.assign rfl) ?_
    refine arun_nil ?_
    refine athen_n ?_
    refine named (S := S) (b := b1) g1.1 ?_
    intro T1 hT1 kb1
    replace hlo := hlo.less hT1
    refine AWP.seq ?_
    refine AWP.seq ?_
    refine AWP.region ?_
    refine ARun.call (lit_lt rfl) go_15 rfl (losV_lives _) ?_
    rintro _ S1 ⟨rfl, h1⟩
    rw [h1]; clear h1 S1
    refine rC (Calm.un rfl (una_not _)) ?_
    refine arun_nil ?_
    refine athen_n ?_
    refine AWP.sub [(0, _), (1, _), (2, _), (9, _)] ⟨rfl, rfl, rfl, rfl, trivial⟩ ?_
    refine AWP.condF rfl (by first | rfl | (simp; done) | (simp; omega)) ?_
    refine AWP.skip ?_
    refine athen_n ?_
    refine AWP.seq ?_
    refine AWP.region ?_
    refine rC (ldA_ (cs := [_, _]) ty_agg_25 ty_size_25 rfl) ?_
    refine ARun.call (lit_lt rfl) go_18 rfl (losV_Top _ _ ks (treeOf ks) _ hlo hrow) ?_
    rintro _ S2 hr2
    rw [htp] at hr2
    obtain ⟨v8, rfl, hS2, hv8⟩ := hr2
    obtain ⟨p8, c8, rfl, _⟩ := id hv8
    replace kb1 := hS2.own kb1
    replace hlo := hlo.less hS2
    refine rC (Calm.move rfl) ?_
    refine rC (Calm.extract rfl rfl) ?_
    refine rC (Calm.extract rfl rfl) ?_
    refine rC (Calm.extract rfl rfl) ?_
    refine rC (Calm.assign rfl) ?_
    refine rC (Calm.assign rfl) ?_
    refine rC (Calm.assign rfl) ?_
    refine arun_nil ?_
    refine athen_n ?_
    refine AWP.sub [(0, _), (1, _), (2, _), (9, _), (3, _), (4, _), (5, _)] ⟨rfl, rfl, rfl, rfl, rfl, rfl, rfl, trivial⟩ ?_
    refine AWP.seq ?_
    refine AWP.seq ?_
    refine AWP.region ?_
    refine rC (Calm.move rfl) ?_
    refine rC (Calm.bin rfl rfl b_neq) ?_
    refine arun_nil ?_
    refine athen_n ?_
    refine AWP.sub [(0, _), (1, _), (2, _), (9, _), (3, _), (4, _), (5, _), (17, _)] ⟨rfl, rfl, rfl, rfl, rfl, rfl, rfl, rfl, trivial⟩ ?_
    refine AWP.condF rfl (by first | rfl | (simp; done) | (simp; omega)) ?_
    refine AWP.skip ?_
    refine athen_n ?_
    refine AWP.seq ?_
    refine AWP.seq ?_
    refine AWP.region ?_
    refine rC (Calm.fieldAddr ty_field_25_0 rfl) ?_
    refine rC (ld_ ty_plain_22 rfl) ?_
    refine rC (Calm.lenSl Try.underlying22 rfl) ?_
    refine rC (Calm.move rfl) ?_
    refine arun_nil ?_
    refine athen_n ?_
    refine AWP.sub [(0, _), (1, _), (2, _), (9, _), (3, _), (4, _), (5, _), (17, _), (26, _), (27, _), (28, _)] ⟨rfl, rfl, rfl, rfl, rfl, rfl, rfl, rfl, rfl, rfl, rfl, trivial⟩ ?_
    refine AWP.block ?_
    refine AWP.loop (X := Nat) (fun x => [(1, .pointer (some ⟨b1, 0, none⟩)), (3, .int .i64 (win ks 1 : Nat)), (4, .slice p8 (key ks (win ks 1)).length c8), (26, .slice pa ks.length ca), (27, .int .i64 ks.length), (28, .int .i64 x)]) (fun x => S2) (fun x => x ≤ ks.length) (fun x => ks.length - x) (0) ⟨rfl, rfl, rfl, rfl, rfl, rfl, trivial⟩ (Mem.Less.refl _) (Nat.zero_le _) ?_
    rintro j hj0
    (try dsimp only at *)
    refine AWP.seq ?_
    refine AWP.region ?_
    refine rC (Calm.bin rfl rfl b_lss) ?_
    refine arun_nil ?_
    refine athen_n ?_
    refine AWP.seq ?_
    refine AWP.condB rfl (fun hj => ?_) (fun hj => ?_)
    · have hj : j < ks.length := by have := of_decide_eq_true hj; omega
      obtain ⟨b0, off, g, rfl, hkk, hr⟩ := hlo.keyAt j hj
      have hpl := least_plain ks j hj he
      generalize ks[j] = x at *
      obtain ⟨qx, dx, rfl, x1, x2, _⟩ := id hr
      by_cases hx : x.length = 0
      · refine AWP.skip ?_
        refine athen_n ?_
        refine AWP.seq ?_
        refine AWP.block ?_
        refine AWP.seq ?_
        refine AWP.region ?_
        refine rC (Calm.move rfl) ?_
        refine rC (Calm.indexS Try.underlying22 ty_size_32 rfl rfl (by omega) (by omega)) ?_
        refine rC (ld_ ty_plain_32 rfl) ?_
        refine rC (Calm.assign rfl) ?_
        refine rC (Calm.assign rfl) ?_
        refine arun_nil ?_
        refine athen_n ?_
        refine AWP.sub [(1, _), (3, _), (4, _), (26, _), (27, _), (28, _), (29, _), (6, _), (7, _)] ⟨rfl, rfl, rfl, rfl, rfl, rfl, rfl, rfl, rfl, trivial⟩ ?_
        refine AWP.seq ?_
        refine AWP.region ?_
        refine rC (Calm.move rfl) ?_
        refine rC (Calm.lenSl Try.underlying32 rfl) ?_
        refine rC (Calm.bin rfl rfl b_gtr) ?_
        refine rC (Calm.move rfl) ?_
        first | refine rS 36 ?_ | refine rU 36 ?_ | refine rG 36 (Calm.move rfl) ?_
        first | refine rS 36 ?_ | refine rU 36 ?_ | refine rG 36 (Calm.move rfl) ?_
        first | refine rS 36 ?_ | refine rU 36 ?_
        first | refine rS 36 ?_ | refine rU 36 ?_ | refine rG 36 (Calm.move rfl) ?_
        first | refine rS 40 ?_ | refine rU 40 ?_ | refine rG 40 (Calm.move rfl) ?_
        first | refine rS 40 ?_ | refine rU 40 ?_ | refine rG 40 (Calm.move rfl) ?_
        first | refine rS 40 ?_ | refine rU 40 ?_
        first | refine rS 40 ?_ | refine rU 40 ?_ | refine rG 40 (Calm.un rfl (una_not _)) ?_
        first | refine rS 40 ?_ | refine rU 40 ?_ | refine rG 40 (Calm.move rfl) ?_
        first | refine rS 45 ?_ | refine rU 45 ?_ | refine rG 45 (Calm.move rfl) ?_
        first | refine rS 45 ?_ | refine rU 45 ?_ | refine rG 45 (Calm.move rfl) ?_
        first | refine rS 45 ?_ | refine rU 45 ?_ | refine rG 45 (Calm.bin rfl rfl b_lss) ?_
        first | refine rS 40 ?_ | refine rU 40 ?_ | refine rG 40 ((by first | exact Calm.pickT rfl rfl | exact Calm.pickF rfl rfl)) ?_
        first | refine rS 36 ?_ | refine rU 36 ?_ | refine rG 36 ((by first | exact Calm.pickT rfl rfl | exact Calm.pickF rfl rfl)) ?_
        refine rC ((by first | exact Calm.pickT rfl rfl | exact Calm.pickF rfl rfl)) ?_
        refine arun_nil ?_
        refine athen_n ?_
        refine AWP.sub [(1, _), (3, _), (4, _), (26, _), (27, _), (28, _), (29, _), (6, _), (7, _), (51, _)] ⟨rfl, rfl, rfl, rfl, rfl, rfl, rfl, rfl, rfl, rfl, trivial⟩ ?_
        refine AWP.condF rfl (by first | rfl | (simp; done) | (simp; omega)) ?_
        refine AWP.skip ?_
        refine ain_n ?_
        refine athen_n ?_
        refine AWP.region ?_
        refine rC (Calm.bin rfl rfl b_add_i64) ?_
        refine rC (Calm.move rfl) ?_
        refine arun_nil ?_
        refine athen_n ?_
        refine ⟨j + 1, ?_, ?_, ?_, ?_⟩
        all_goals (try dsimp only)
        · exact ⟨rfl, rfl, rfl, rfl, rfl, rfl, trivial⟩
        · exact Mem.Less.refl _
        · exact hj
        · omega
      · obtain ⟨q1, q2⟩ := hpl (fun e => hx (by rw [e]; rfl))
        rcases q2 with q2 | ⟨q2, q3⟩
        · refine AWP.skip ?_
          refine athen_n ?_
          refine AWP.seq ?_
          refine AWP.block ?_
          refine AWP.seq ?_
          refine AWP.region ?_
          refine rC (Calm.move rfl) ?_
          refine rC (Calm.indexS Try.underlying22 ty_size_32 rfl rfl (by omega) (by omega)) ?_
          refine rC (ld_ ty_plain_32 rfl) ?_
          refine rC (Calm.assign rfl) ?_
          refine rC (Calm.assign rfl) ?_
          refine arun_nil ?_
          refine athen_n ?_
          refine AWP.sub [(1, _), (3, _), (4, _), (26, _), (27, _), (28, _), (29, _), (6, _), (7, _)] ⟨rfl, rfl, rfl, rfl, rfl, rfl, rfl, rfl, rfl, trivial⟩ ?_
          refine AWP.seq ?_
          refine AWP.region ?_
          refine rC (Calm.move rfl) ?_
          refine rC (Calm.lenSl Try.underlying32 rfl) ?_
          refine rC (Calm.bin rfl rfl b_gtr) ?_
          refine rC (Calm.move rfl) ?_
          first | refine rS 36 ?_ | refine rU 36 ?_ | refine rG 36 (Calm.move rfl) ?_
          first | refine rS 36 ?_ | refine rU 36 ?_ | refine rG 36 (Calm.move rfl) ?_
          refine ARun.callG 3 true 36 rfl (lit_lt rfl) rfl (lit_lt rfl) go_28 rfl (numV_Less x _ _ _ _ hr hv8) ?_
          rintro _ S4 ⟨rfl, h1⟩
          rw [h1, q1]; clear h1 S4
          first | refine rS 36 ?_ | refine rU 36 ?_ | refine rG 36 (Calm.move rfl) ?_
          first | refine rS 40 ?_ | refine rU 40 ?_ | refine rG 40 (Calm.move rfl) ?_
          first | refine rS 40 ?_ | refine rU 40 ?_ | refine rG 40 (Calm.move rfl) ?_
          refine ARun.callG 7 false 40 rfl (lit_lt rfl) rfl (lit_lt rfl) go_28 rfl (numV_Less _ x _ _ _ hv8 hr) ?_
          rintro _ S4 ⟨rfl, h1⟩
          rw [h1, q2]; clear h1 S4
          first | refine rS 40 ?_ | refine rU 40 ?_ | refine rG 40 (Calm.un rfl (una_not _)) ?_
          first | refine rS 40 ?_ | refine rU 40 ?_ | refine rG 40 (Calm.move rfl) ?_
          first | refine rS 45 ?_ | refine rU 45 ?_ | refine rG 45 (Calm.move rfl) ?_
          first | refine rS 45 ?_ | refine rU 45 ?_ | refine rG 45 (Calm.move rfl) ?_
          first | refine rS 45 ?_ | refine rU 45 ?_ | refine rG 45 (Calm.bin rfl rfl b_lss) ?_
          first | refine rS 40 ?_ | refine rU 40 ?_ | refine rG 40 ((by first | exact Calm.pickT rfl rfl | exact Calm.pickF rfl rfl)) ?_
          first | refine rS 36 ?_ | refine rU 36 ?_ | refine rG 36 ((by first | exact Calm.pickT rfl rfl | exact Calm.pickF rfl rfl)) ?_
          refine rC ((by first | exact Calm.pickT rfl rfl | exact Calm.pickF rfl rfl)) ?_
          refine arun_nil ?_
          refine athen_n ?_
          refine AWP.sub [(1, _), (3, _), (4, _), (26, _), (27, _), (28, _), (29, _), (6, _), (7, _), (51, _)] ⟨rfl, rfl, rfl, rfl, rfl, rfl, rfl, rfl, rfl, rfl, trivial⟩ ?_
          refine AWP.condF rfl (by first | rfl | (simp; done) | (simp; omega)) ?_
          refine AWP.skip ?_
          refine ain_n ?_
          refine athen_n ?_
          refine AWP.region ?_
          refine rC (Calm.bin rfl rfl b_add_i64) ?_
          refine rC (Calm.move rfl) ?_
          refine arun_nil ?_
          refine athen_n ?_
          refine ⟨j + 1, ?_, ?_, ?_, ?_⟩
          all_goals (try dsimp only)
          · exact ⟨rfl, rfl, rfl, rfl, rfl, rfl, trivial⟩
          · exact Mem.Less.refl _
          · exact hj
          · omega
        · refine AWP.skip ?_
          refine athen_n ?_
          refine AWP.seq ?_
          refine AWP.block ?_
          refine AWP.seq ?_
          refine AWP.region ?_
          refine rC (Calm.move rfl) ?_
          refine rC (Calm.indexS Try.underlying22 ty_size_32 rfl rfl (by omega) (by omega)) ?_
          refine rC (ld_ ty_plain_32 rfl) ?_
          refine rC (Calm.assign rfl) ?_
          refine rC (Calm.assign rfl) ?_
          refine arun_nil ?_
          refine athen_n ?_
          refine AWP.sub [(1, _), (3, _), (4, _), (26, _), (27, _), (28, _), (29, _), (6, _), (7, _)] ⟨rfl, rfl, rfl, rfl, rfl, rfl, rfl, rfl, rfl, trivial⟩ ?_
          refine AWP.seq ?_
          refine AWP.region ?_
          refine rC (Calm.move rfl) ?_
          refine rC (Calm.lenSl Try.underlying32 rfl) ?_
          refine rC (Calm.bin rfl rfl b_gtr) ?_
          refine rC (Calm.move rfl) ?_
          first | refine rS 36 ?_ | refine rU 36 ?_ | refine rG 36 (Calm.move rfl) ?_
          first | refine rS 36 ?_ | refine rU 36 ?_ | refine rG 36 (Calm.move rfl) ?_
          refine ARun.callG 3 true 36 rfl (lit_lt rfl) rfl (lit_lt rfl) go_28 rfl (numV_Less x _ _ _ _ hr hv8) ?_
          rintro _ S4 ⟨rfl, h1⟩
          rw [h1, q1]; clear h1 S4
          first | refine rS 36 ?_ | refine rU 36 ?_ | refine rG 36 (Calm.move rfl) ?_
          first | refine rS 40 ?_ | refine rU 40 ?_ | refine rG 40 (Calm.move rfl) ?_
          first | refine rS 40 ?_ | refine rU 40 ?_ | refine rG 40 (Calm.move rfl) ?_
          refine ARun.callG 7 false 40 rfl (lit_lt rfl) rfl (lit_lt rfl) go_28 rfl (numV_Less _ x _ _ _ hv8 hr) ?_
          rintro _ S4 ⟨rfl, h1⟩
          rw [h1, q2]; clear h1 S4
          first | refine rS 40 ?_ | refine rU 40 ?_ | refine rG 40 (Calm.un rfl (una_not _)) ?_
          first | refine rS 40 ?_ | refine rU 40 ?_ | refine rG 40 (Calm.move rfl) ?_
          first | refine rS 45 ?_ | refine rU 45 ?_ | refine rG 45 (Calm.move rfl) ?_
          first | refine rS 45 ?_ | refine rU 45 ?_ | refine rG 45 (Calm.move rfl) ?_
          first | refine rS 45 ?_ | refine rU 45 ?_ | refine rG 45 (Calm.bin rfl rfl b_lss) ?_
          first | refine rS 40 ?_ | refine rU 40 ?_ | refine rG 40 ((by first | exact Calm.pickT rfl rfl | exact Calm.pickF rfl rfl)) ?_
          first | refine rS 36 ?_ | refine rU 36 ?_ | refine rG 36 ((by first | exact Calm.pickT rfl rfl | exact Calm.pickF rfl rfl)) ?_
          refine rC ((by first | exact Calm.pickT rfl rfl | exact Calm.pickF rfl rfl)) ?_
          refine arun_nil ?_
          refine athen_n ?_
          refine AWP.sub [(1, _), (3, _), (4, _), (26, _), (27, _), (28, _), (29, _), (6, _), (7, _), (51, _)] ⟨rfl, rfl, rfl, rfl, rfl, rfl, rfl, rfl, rfl, rfl, trivial⟩ ?_
          refine AWP.condF rfl (by first | rfl | (simp; done) | (simp; omega)) ?_
          refine AWP.skip ?_
          refine ain_n ?_
          refine athen_n ?_
          refine AWP.region ?_
          refine rC (Calm.bin rfl rfl b_add_i64) ?_
          refine rC (Calm.move rfl) ?_
          refine arun_nil ?_
          refine athen_n ?_
          refine ⟨j + 1, ?_, ?_, ?_, ?_⟩
          all_goals (try dsimp only)
          · exact ⟨rfl, rfl, rfl, rfl, rfl, rfl, trivial⟩
          · exact Mem.Less.refl _
          · exact hj
          · omega
    · refine AWP.exit ?_
      refine athen_exit ?_
      refine athen_exit ?_
      refine ain_same ?_
      refine athen_n ?_
      refine AWP.seq ?_
      refine AWP.region ?_
      refine rC (Calm.assign rfl) ?_
      refine arun_nil ?_
      refine athen_n ?_
      refine AWP.ret ?_
      refine ⟨_, _, ⟨_, _, rfl, rfl, rfl⟩, less_, ?_⟩
      rfl
theorem pathF_get (f : Nat) : ∀ (n i : Nat) (h : i < (pathF f n).length), (pathF f n)[i] = ((n / 2 ^ i : Nat) : Int) ∧ 1 ≤ n / 2 ^ i := by
  induction f with
  | zero => intro n i h; simp [pathF] at h
  | succ f ih =>
    intro n i h
    by_cases hn : n < 1
    · simp [pathF, hn] at h
    · have e : pathF (f + 1) n = (n : Int) :: pathF f (n / 2) := by rw [pathF, if_neg hn]
      simp only [e] at h ⊢
      cases i with
      | zero => simp; omega
      | succ i =>
        have := ih (n / 2) i (by simpa using h)
        rw [Nat.pow_succ, Nat.mul_comm, ← Nat.div_div_eq_div_mul]
        simpa using this
theorem pathF_end (f : Nat) : ∀ n, n < 2 ^ f → n / 2 ^ (pathF f n).length = 0 := by
  induction f with
  | zero => intro n h; simp [pathF]; simpa using h
  | succ f ih =>
    intro n h
    by_cases hn : n < 1
    · simp [pathF, hn]; omega
    · rw [pathF, if_neg hn, List.length_cons, Nat.pow_succ, Nat.mul_comm, ← Nat.div_div_eq_div_mul]
      exact ih _ (by rw [Nat.pow_succ] at h; omega)
theorem pathF_le (f m n : Nat) (h : n < 2 ^ m) : (pathF f n).length ≤ m := by
  rcases Nat.lt_or_ge m (pathF f n).length with hl | hl
  · have := (pathF_get f n m hl).2
    rw [Nat.div_eq_of_lt h] at this; omega
  · exact hl
theorem pathF_nil (f n : Nat) (h : (pathF (f + 1) n).length = 0) : n = 0 := by
  by_cases hn : n < 1
  · omega
  · rw [pathF, if_neg hn] at h; simp at h
theorem half_step (k i : Nat) : k / 2 ^ (i + 1) = k / 2 ^ i / 2 := div_pow_succ k i
theorem half_end {k i : Nat} (h : ¬ 1 < k / 2 ^ i) : k < 2 ^ (i + 1) := by
  have := (Nat.div_lt_iff_lt_mul (Nat.pow_pos (n := i) (by decide : 0 < 2)) (x := k) (y := 2)).1 (by omega)
  rw [Nat.pow_succ]; omega
theorem half_lt {k i : Nat} (h : 1 < k / 2 ^ i) : i < k := by
  rcases Nat.lt_or_ge i k with h' | h'
  · exact h'
  · have := Nat.lt_two_pow_self (n := i)
    rw [Nat.div_eq_of_lt (by omega)] at h; omega
set_option maxHeartbeats 2000000 in
theorem law_LoserShort (hk ht : Value) (ks : List (List Nat)) (tr : List Int) (leaf : Int) (S : Mem) (hlo : LoV S hk ht ks tr) (hb0 : -9223372036854775808 ≤ leaf) (hb1 : leaf ≤ 9223372036854775807) :
    ACall Try.prog 7 #[.agg #[hk, ht], .int .i64 leaf] S fun r S' => r = .bool true := by
  obtain ⟨pa, ca, pt, ct, ehk, eht⟩ := hlo.slices
  subst ehk eht
  have hpth : (pathP ks tr leaf = ([], 2) ∨ pathP ks tr leaf = ([], 1)) ∨ (tr = treeOf ks ∧ 1 ≤ ks.length ∧ ks.length ≤ 256 ∧ 0 ≤ leaf ∧ leaf < ks.length ∧ pathP ks tr leaf = (pathF 10 ((ks.length + leaf.toNat) / 2), 0)) := by
    unfold pathP
    rcases chk_or ks tr with ⟨hc, hc1, hc2, rfl⟩ | hc
    · by_cases hl : leaf < 0 ∨ (ks.length : Int) ≤ leaf
      · left; right; rw [hc]; simp [hl]
      · right; exact ⟨rfl, hc1, hc2, by omega, by omega, by rw [if_neg (by rw [hc]; simp), if_neg hl]⟩
    · left; left; rw [hc]; simp
  rcases hpth with hp | ⟨rfl, hk1, hk2, hl0, hl1, hp⟩
  · obtain ⟨e, hp, hee⟩ : ∃ e : Int, pathP ks tr leaf = ([], e) ∧ e ≠ 0 := by
      rcases hp with hp | hp
      · exact ⟨2, hp, by decide⟩
      · exact ⟨1, hp, by decide⟩
    refine ACall.enter (args := [.agg #[.slice pa ks.length ca, .slice pt tr.length ct], .int .i64 leaf]) (rs := [.tmp 4]) 92 [(0, .agg #[.slice pa ks.length ca, .slice pt tr.length ct]), (1, .int .i64 leaf)] Try.func7 rfl rfl (Nat.le_of_ble_eq_true rfl) rfl ⟨rfl, rfl, trivial⟩ ?_
    refine AWP.seq ?_
    refine AWP.region ?_
    refine ARun.boxA (cs := [_, _]) (lit_lt rfl) rfl ?_
    intro b2 f2
    have g2 := f2
    repeat ((with_reducible replace g2 := fresh_set g2); obtain ⟨g2, _⟩ := g2)
    (try simp only [List.length_cons, List.length_nil, Nat.zero_add, Nat.reduceAdd])
    refine rC (Calm.assign rfl) ?_
    refine arun_nil ?_
    refine athen_n ?_
    refine named (S := S) (b := b2) g2.1 ?_
    intro T1 hT1 kb2
    replace hlo := hlo.less hT1
    refine AWP.seq ?_
    refine AWP.seq ?_
    refine AWP.region ?_
    refine ARun.call (lit_lt rfl) go_15 rfl (losV_lives _) ?_
    rintro _ S1 ⟨rfl, h1⟩
    rw [h1]; clear h1 S1
    refine rC (Calm.un rfl (una_not _)) ?_
    refine arun_nil ?_
    refine athen_n ?_
    refine AWP.sub [(0, _), (1, _), (2, _), (4, _), (12, _)] ⟨rfl, rfl, rfl, rfl, rfl, trivial⟩ ?_
    refine AWP.condF rfl (by first | rfl | (simp; done) | (simp; omega)) ?_
    refine AWP.skip ?_
    refine athen_n ?_
    refine AWP.seq ?_
    refine AWP.region ?_
    refine rC (ldA_ (cs := [_, _]) ty_agg_25 ty_size_25 rfl) ?_
    refine rC (Calm.move rfl) ?_
    refine ARun.call (lit_lt rfl) go_22 rfl (losV_Path _ _ ks tr leaf _ hlo hb0 hb1) ?_
    rintro _ S2 hr2
    rw [hp] at hr2
    obtain ⟨v13, rfl, hS2, ⟨p8, c8, rfl, _⟩⟩ := hr2
    refine rC (Calm.move rfl) ?_
    refine rC (Calm.extract rfl rfl) ?_
    refine rC (Calm.extract rfl rfl) ?_
    refine rC (Calm.assign rfl) ?_
    refine rC (Calm.assign rfl) ?_
    refine arun_nil ?_
    refine athen_n ?_
    refine AWP.sub [(0, _), (1, _), (2, _), (4, _), (12, _), (5, _), (6, _)] ⟨rfl, rfl, rfl, rfl, rfl, rfl, rfl, trivial⟩ ?_
    refine AWP.seq ?_
    refine AWP.seq ?_
    refine AWP.region ?_
    refine rC (Calm.move rfl) ?_
    refine rC (Calm.bin rfl rfl b_neq) ?_
    refine arun_nil ?_
    refine athen_n ?_
    refine AWP.sub [(0, _), (1, _), (2, _), (4, _), (12, _), (5, _), (6, _), (20, _)] ⟨rfl, rfl, rfl, rfl, rfl, rfl, rfl, rfl, trivial⟩ ?_
    refine AWP.condT rfl (by first | rfl | (simp; done) | (simp; omega)) ?_
    refine AWP.seq ?_
    refine AWP.region ?_
    refine rC (Calm.move rfl) ?_
    refine rC (Calm.lenSl Try.underlying23 rfl) ?_
    refine rC (Calm.bin rfl rfl b_eql) ?_
    refine rC (Calm.assign rfl) ?_
    refine arun_nil ?_
    refine athen_n ?_
    refine AWP.sub [(0, _), (1, _), (2, _), (4, _), (12, _), (5, _), (6, _), (20, _)] ⟨rfl, rfl, rfl, rfl, rfl, rfl, rfl, rfl, trivial⟩ ?_
    refine AWP.ret ?_
    refine athen_ret ?_
    refine ⟨_, _, ⟨_, _, rfl, rfl, rfl⟩, less_, ?_⟩
    rfl
  · obtain ⟨lf, rfl⟩ : ∃ lf : Nat, leaf = lf := ⟨leaf.toNat, by omega⟩
    rw [Int.toNat_natCast] at hp
    obtain ⟨n0, hn0⟩ : ∃ n0, n0 = (ks.length + lf) / 2 := ⟨_, rfl⟩
    rw [← hn0] at hp
    have hpl := pathF_len 10 n0
    have hpe := pathF_end 10 n0 (by omega)
    have hpg := pathF_get 10 n0
    have hpz := pathF_nil 9 n0
    have hpm := fun m => pathF_le 10 m n0
    generalize pathF 10 n0 = p at *
    refine ACall.enter (args := [.agg #[.slice pa ks.length ca, .slice pt (treeOf ks).length ct], .int .i64 (lf : Int)]) (rs := [.tmp 4]) 92 [(0, .agg #[.slice pa ks.length ca, .slice pt (treeOf ks).length ct]), (1, .int .i64 (lf : Int))] Try.func7 rfl rfl (Nat.le_of_ble_eq_true rfl) rfl ⟨rfl, rfl, trivial⟩ ?_
    refine AWP.seq ?_
    refine AWP.region ?_
    refine ARun.boxA (cs := [_, _]) (lit_lt rfl) rfl ?_
    intro b2 f2
    have g2 := f2
    repeat ((with_reducible replace g2 := fresh_set g2); obtain ⟨g2, _⟩ := g2)
    (try simp only [List.length_cons, List.length_nil, Nat.zero_add, Nat.reduceAdd])
    refine rC (Calm.assign rfl) ?_
    refine arun_nil ?_
    refine athen_n ?_
    refine named (S := S) (b := b2) g2.1 ?_
    intro T1 hT1 kb2
    replace hlo := hlo.less hT1
    refine AWP.seq ?_
    refine AWP.seq ?_
    refine AWP.region ?_
    refine ARun.call (lit_lt rfl) go_15 rfl (losV_lives _) ?_
    rintro _ S1 ⟨rfl, h1⟩
    rw [h1]; clear h1 S1
    refine rC (Calm.un rfl (una_not _)) ?_
    refine arun_nil ?_
    refine athen_n ?_
    refine AWP.sub [(0, _), (1, _), (2, _), (4, _), (12, _)] ⟨rfl, rfl, rfl, rfl, rfl, trivial⟩ ?_
    refine AWP.condF rfl (by first | rfl | (simp; done) | (simp; omega)) ?_
    refine AWP.skip ?_
    refine athen_n ?_
    refine AWP.seq ?_
    refine AWP.region ?_
    refine rC (ldA_ (cs := [_, _]) ty_agg_25 ty_size_25 rfl) ?_
    refine rC (Calm.move rfl) ?_
    refine ARun.call (lit_lt rfl) go_22 rfl (losV_Path _ _ ks (treeOf ks) (lf : Int) _ hlo hb0 hb1) ?_
    rintro _ S2 hr2
    rw [hp] at hr2
    obtain ⟨v13, rfl, hS2, hv13⟩ := hr2
    obtain ⟨p8, c8, rfl, _, _, hpk⟩ := id hv13
    replace kb2 := hS2.own kb2
    refine rC (Calm.move rfl) ?_
    refine rC (Calm.extract rfl rfl) ?_
    refine rC (Calm.extract rfl rfl) ?_
    refine rC (Calm.assign rfl) ?_
    refine rC (Calm.assign rfl) ?_
    refine arun_nil ?_
    refine athen_n ?_
    refine AWP.sub [(0, _), (1, _), (2, _), (4, _), (12, _), (5, _), (6, _)] ⟨rfl, rfl, rfl, rfl, rfl, rfl, rfl, trivial⟩ ?_
    refine AWP.seq ?_
    refine AWP.seq ?_
    refine AWP.region ?_
    refine rC (Calm.move rfl) ?_
    refine rC (Calm.bin rfl rfl b_neq) ?_
    refine arun_nil ?_
    refine athen_n ?_
    refine AWP.sub [(0, _), (1, _), (2, _), (4, _), (12, _), (5, _), (6, _), (20, _)] ⟨rfl, rfl, rfl, rfl, rfl, rfl, rfl, rfl, trivial⟩ ?_
    refine AWP.condF rfl (by first | rfl | (simp; done) | (simp; omega)) ?_
    refine AWP.skip ?_
    refine athen_n ?_
    refine AWP.seq ?_
    refine AWP.region ?_
    refine rC (Calm.assign rfl) ?_
    refine arun_nil ?_
    refine athen_n ?_
    refine AWP.seq ?_
    refine AWP.seq ?_
    refine AWP.region ?_
    refine rC (Calm.fieldAddr ty_field_25_0 rfl) ?_
    refine rC (ld_ ty_plain_22 rfl) ?_
    refine rC (Calm.lenSl Try.underlying22 rfl) ?_
    refine rC (Calm.assign rfl) ?_
    refine arun_nil ?_
    refine athen_n ?_
    refine AWP.sub [(0, _), (1, _), (2, _), (4, _), (12, _), (5, _), (6, _), (20, _), (7, _), (8, _)] ⟨rfl, rfl, rfl, rfl, rfl, rfl, rfl, rfl, rfl, rfl, trivial⟩ ?_
    refine AWP.block ?_
    refine AWP.loop (X := Nat × Nat) (fun x => [(2, .pointer (some ⟨b2, 0, none⟩)), (5, .slice p8 p.length c8), (7, .int .i64 (1 + (x.1 : Int))), (8, .int .i64 x.2)]) (fun x => S2) (fun x => x.1 ≤ ks.length ∧ x.2 = ks.length / 2 ^ x.1) (fun x => x.2) ((0, ks.length)) ⟨rfl, rfl, rfl, rfl, trivial⟩ (Mem.Less.refl _) (⟨Nat.zero_le _, by simp⟩) ?_
    rintro ⟨i, u⟩ ⟨hi0, hqe⟩
    (try dsimp only at *)
    have hqk : u ≤ ks.length := by rw [hqe]; exact Nat.div_le_self _ _
    by_cases hq : 1 < u
    · refine AWP.seq ?_
      refine AWP.seq ?_
      refine AWP.region ?_
      refine rC (Calm.move rfl) ?_
      refine rC (Calm.bin rfl rfl b_gtr) ?_
      refine arun_nil ?_
      refine athen_n ?_
      refine AWP.sub [(2, _), (5, _), (7, _), (8, _), (28, _)] ⟨rfl, rfl, rfl, rfl, rfl, trivial⟩ ?_
      refine AWP.condT rfl (by first | rfl | (simp; done) | (simp; omega)) ?_
      have hi1 := half_lt (hqe ▸ hq)
      refine AWP.skip ?_
      refine athen_n ?_
      refine AWP.seq ?_
      refine AWP.block ?_
      refine AWP.region ?_
      refine rC (Calm.move rfl) ?_
      refine rC (Calm.bin rfl rfl b_add_i64) ?_
      refine rC (Calm.assign rfl) ?_
      refine arun_nil ?_
      refine ain_n ?_
      refine athen_n ?_
      refine AWP.sub [(2, _), (5, _), (7, _), (8, _), (28, _)] ⟨rfl, rfl, rfl, rfl, rfl, trivial⟩ ?_
      refine AWP.region ?_
      refine rC (Calm.move rfl) ?_
      refine rC (Calm.bin rfl rfl b_quo_i64) ?_
      refine rC (Calm.assign rfl) ?_
      refine arun_nil ?_
      refine athen_n ?_
      refine ⟨(i + 1, u / 2), ?_, ?_, ?_, ?_⟩
      all_goals (try dsimp only)
      · exact ⟨rfl, rfl, some_int (by omega), some_int (by omega), trivial⟩
      · exact Mem.Less.refl _
      · exact ⟨hi1, by rw [half_step, hqe]⟩
      · omega
    · refine AWP.seq ?_
      refine AWP.seq ?_
      refine AWP.region ?_
      refine rC (Calm.move rfl) ?_
      refine rC (Calm.bin rfl rfl b_gtr) ?_
      refine arun_nil ?_
      refine athen_n ?_
      refine AWP.sub [(2, _), (5, _), (7, _), (8, _), (28, _)] ⟨rfl, rfl, rfl, rfl, rfl, trivial⟩ ?_
      refine AWP.condF rfl (by first | rfl | (simp; done) | (simp; omega)) ?_
      have hlen : p.length ≤ i + 1 := hpm (i + 1) (by have := half_end (k := ks.length) (i := i) (by rw [← hqe]; exact hq); omega)
      refine AWP.exit ?_
      refine athen_exit ?_
      refine athen_exit ?_
      refine ain_same ?_
      refine athen_n ?_
      refine AWP.seq ?_
      refine AWP.seq ?_
      refine AWP.region ?_
      refine rC (Calm.move rfl) ?_
      refine rC (Calm.lenSl Try.underlying23 rfl) ?_
      refine rC (Calm.move rfl) ?_
      refine arun_nil ?_
      refine athen_n ?_
      refine AWP.block ?_
      refine AWP.loop (X := Nat) (fun x => [(2, .pointer (some ⟨b2, 0, none⟩)), (5, .slice p8 p.length c8), (7, .int .i64 (1 + (i : Int))), (33, .slice p8 p.length c8), (34, .int .i64 p.length), (35, .int .i64 x)]) (fun x => S2) (fun x => x ≤ p.length) (fun x => p.length - x) (0) ⟨rfl, rfl, rfl, rfl, rfl, rfl, trivial⟩ (Mem.Less.refl _) (Nat.zero_le _) ?_
      rintro j hj0
      (try dsimp only at *)
      refine AWP.seq ?_
      refine AWP.region ?_
      refine rC (Calm.bin rfl rfl b_lss) ?_
      refine arun_nil ?_
      refine athen_n ?_
      refine AWP.seq ?_
      refine AWP.condB rfl (fun hj => ?_) (fun hj => ?_)
      · have hj : j < p.length := by have := of_decide_eq_true hj; omega
        obtain ⟨b0, off, rfl, hkn⟩ := hpk.resolve_left (by intro h; rw [h] at hj; exact absurd hj (Nat.not_lt_zero _))
        have k1 := hkn j hj
        obtain ⟨e1, e2⟩ := hpg j hj
        have e3 : n0 / 2 ^ j ≤ n0 := Nat.div_le_self _ _
        rw [e1] at k1; unfold i64s at k1
        rcases j with _ | j
        · refine AWP.skip ?_
          refine athen_n ?_
          refine AWP.seq ?_
          refine AWP.block ?_
          refine AWP.seq ?_
          refine AWP.region ?_
          refine rC (Calm.move rfl) ?_
          refine rC (Calm.indexS Try.underlying23 ty_size_3 rfl rfl (by omega) (by omega)) ?_
          refine rC (ld_ ty_plain_3 rfl) ?_
          refine rC (Calm.assign rfl) ?_
          refine rC (Calm.assign rfl) ?_
          refine arun_nil ?_
          refine athen_n ?_
          refine AWP.sub [(2, _), (5, _), (7, _), (33, _), (34, _), (35, _), (36, _), (9, _), (10, _)] ⟨rfl, rfl, rfl, rfl, rfl, rfl, rfl, rfl, rfl, trivial⟩ ?_
          refine AWP.seq ?_
          refine AWP.region ?_
          refine rC (Calm.move rfl) ?_
          refine rC (Calm.bin rfl rfl b_lss) ?_
          refine rC (Calm.move rfl) ?_
          first | refine rS 42 ?_ | refine rU 42 ?_ | refine rG 42 (Calm.move rfl) ?_
          first | refine rS 42 ?_ | refine rU 42 ?_ | refine rG 42 (Calm.fieldAddr ty_field_25_0 rfl) ?_
          first | refine rS 42 ?_ | refine rU 42 ?_ | refine rG 42 (ld_ ty_plain_22 rfl) ?_
          first | refine rS 42 ?_ | refine rU 42 ?_ | refine rG 42 (Calm.lenSl Try.underlying22 rfl) ?_
          first | refine rS 42 ?_ | refine rU 42 ?_ | refine rG 42 (Calm.bin rfl rfl b_geq) ?_
          refine rC ((by first | exact Calm.pickT rfl rfl | exact Calm.pickF rfl rfl)) ?_
          refine rC (Calm.move rfl) ?_
          first | refine rS 49 ?_ | refine rU 49 ?_ | refine rG 49 (Calm.move rfl) ?_
          first | refine rS 49 ?_ | refine rU 49 ?_ | refine rG 49 (Calm.bin rfl rfl b_gtr) ?_
          first | refine rS 49 ?_ | refine rU 49 ?_ | refine rG 49 (Calm.move rfl) ?_
          first | refine rS 52 ?_ | refine rU 52 ?_ | refine rG 52 (Calm.move rfl) ?_
          first | refine rS 52 ?_ | refine rU 52 ?_ | refine rG 52 (Calm.move rfl) ?_
          first | refine rS 52 ?_ | refine rU 52 ?_ | refine rG 52 (Calm.move rfl) ?_
          first | refine rS 52 ?_ | refine rU 52 ?_ | refine rG 52 (Calm.bin rfl rfl b_sub_i64) ?_
          first | refine rS 52 ?_ | refine rU 52 ?_ | refine rG 52 (Calm.indexS Try.underlying23 ty_size_3 rfl rfl (by omega) (by omega)) ?_
          first | refine rS 52 ?_ | refine rU 52 ?_ | refine rG 52 (ld_ ty_plain_3 rfl) ?_
          first | refine rS 52 ?_ | refine rU 52 ?_ | refine rG 52 (Calm.bin rfl rfl b_quo_i64) ?_
          first | refine rS 52 ?_ | refine rU 52 ?_ | refine rG 52 (Calm.bin rfl rfl b_neq) ?_
          first | refine rS 49 ?_ | refine rU 49 ?_ | refine rG 49 ((by first | exact Calm.pickT rfl rfl | exact Calm.pickF rfl rfl)) ?_
          refine rC ((by first | exact Calm.pickT rfl rfl | exact Calm.pickF rfl rfl)) ?_
          refine arun_nil ?_
          refine athen_n ?_
          refine AWP.sub [(2, _), (5, _), (7, _), (33, _), (34, _), (35, _), (36, _), (9, _), (10, _), (62, _)] ⟨rfl, rfl, rfl, rfl, rfl, rfl, rfl, rfl, rfl, rfl, trivial⟩ ?_
          refine AWP.condF rfl (by first | rfl | (simp; done) | (simp; omega)) ?_
          refine AWP.skip ?_
          refine ain_n ?_
          refine athen_n ?_
          refine AWP.region ?_
          refine rC (Calm.bin rfl rfl b_add_i64) ?_
          refine rC (Calm.move rfl) ?_
          refine arun_nil ?_
          refine athen_n ?_
          refine ⟨1, ?_, ?_, ?_, ?_⟩
          all_goals (try dsimp only)
          · exact ⟨rfl, rfl, rfl, rfl, rfl, rfl, trivial⟩
          · exact Mem.Less.refl _
          · exact hj
          · omega
        · have k2 := hkn j (by omega)
          obtain ⟨e4, e5⟩ := hpg j (by omega)
          rw [e4] at k2; unfold i64s at k2
          have k3 : S2.Knows ⟨b0, off + (((j + 1 : Nat) : Int) - 1).toNat * 1, none⟩ [.int .i64 (n0 / 2 ^ j : Nat)] := by rw [show (((j + 1 : Nat) : Int) - 1).toNat = j from by omega]; exact k2
          have e6 := half_step n0 j
          refine AWP.skip ?_
          refine athen_n ?_
          refine AWP.seq ?_
          refine AWP.block ?_
          refine AWP.seq ?_
          refine AWP.region ?_
          refine rC (Calm.move rfl) ?_
          refine rC (Calm.indexS Try.underlying23 ty_size_3 rfl rfl (by omega) (by omega)) ?_
          refine rC (ld_ ty_plain_3 rfl) ?_
          refine rC (Calm.assign rfl) ?_
          refine rC (Calm.assign rfl) ?_
          refine arun_nil ?_
          refine athen_n ?_
          refine AWP.sub [(2, _), (5, _), (7, _), (33, _), (34, _), (35, _), (36, _), (9, _), (10, _)] ⟨rfl, rfl, rfl, rfl, rfl, rfl, rfl, rfl, rfl, trivial⟩ ?_
          refine AWP.seq ?_
          refine AWP.region ?_
          refine rC (Calm.move rfl) ?_
          refine rC (Calm.bin rfl rfl b_lss) ?_
          refine rC (Calm.move rfl) ?_
          first | refine rS 42 ?_ | refine rU 42 ?_ | refine rG 42 (Calm.move rfl) ?_
          first | refine rS 42 ?_ | refine rU 42 ?_ | refine rG 42 (Calm.fieldAddr ty_field_25_0 rfl) ?_
          first | refine rS 42 ?_ | refine rU 42 ?_ | refine rG 42 (ld_ ty_plain_22 rfl) ?_
          first | refine rS 42 ?_ | refine rU 42 ?_ | refine rG 42 (Calm.lenSl Try.underlying22 rfl) ?_
          first | refine rS 42 ?_ | refine rU 42 ?_ | refine rG 42 (Calm.bin rfl rfl b_geq) ?_
          refine rC ((by first | exact Calm.pickT rfl rfl | exact Calm.pickF rfl rfl)) ?_
          refine rC (Calm.move rfl) ?_
          first | refine rS 49 ?_ | refine rU 49 ?_ | refine rG 49 (Calm.move rfl) ?_
          first | refine rS 49 ?_ | refine rU 49 ?_ | refine rG 49 (Calm.bin rfl rfl b_gtr) ?_
          first | refine rS 49 ?_ | refine rU 49 ?_ | refine rG 49 (Calm.move rfl) ?_
          first | refine rS 52 ?_ | refine rU 52 ?_ | refine rG 52 (Calm.move rfl) ?_
          first | refine rS 52 ?_ | refine rU 52 ?_ | refine rG 52 (Calm.move rfl) ?_
          first | refine rS 52 ?_ | refine rU 52 ?_ | refine rG 52 (Calm.move rfl) ?_
          first | refine rS 52 ?_ | refine rU 52 ?_ | refine rG 52 (Calm.bin rfl rfl b_sub_i64) ?_
          first | refine rS 52 ?_ | refine rU 52 ?_ | refine rG 52 (Calm.indexS Try.underlying23 ty_size_3 rfl rfl (by omega) (by omega)) ?_
          first | refine rS 52 ?_ | refine rU 52 ?_ | refine rG 52 (ld_ ty_plain_3 rfl) ?_
          first | refine rS 52 ?_ | refine rU 52 ?_ | refine rG 52 (Calm.bin rfl rfl b_quo_i64) ?_
          first | refine rS 52 ?_ | refine rU 52 ?_ | refine rG 52 (Calm.bin rfl rfl b_neq) ?_
          first | refine rS 49 ?_ | refine rU 49 ?_ | refine rG 49 ((by first | exact Calm.pickT rfl rfl | exact Calm.pickF rfl rfl)) ?_
          refine rC ((by first | exact Calm.pickT rfl rfl | exact Calm.pickF rfl rfl)) ?_
          refine arun_nil ?_
          refine athen_n ?_
          refine AWP.sub [(2, _), (5, _), (7, _), (33, _), (34, _), (35, _), (36, _), (9, _), (10, _), (62, _)] ⟨rfl, rfl, rfl, rfl, rfl, rfl, rfl, rfl, rfl, rfl, trivial⟩ ?_
          refine AWP.condF rfl (by first | rfl | (simp; done) | (simp; omega)) ?_
          refine AWP.skip ?_
          refine ain_n ?_
          refine athen_n ?_
          refine AWP.region ?_
          refine rC (Calm.bin rfl rfl b_add_i64) ?_
          refine rC (Calm.move rfl) ?_
          refine arun_nil ?_
          refine athen_n ?_
          refine ⟨j + 2, ?_, ?_, ?_, ?_⟩
          all_goals (try dsimp only)
          · exact ⟨rfl, rfl, rfl, rfl, rfl, rfl, trivial⟩
          · exact Mem.Less.refl _
          · exact hj
          · omega
      · by_cases hz : p.length = 0
        · have := hpz hz
          refine AWP.exit ?_
          refine athen_exit ?_
          refine athen_exit ?_
          refine ain_same ?_
          refine athen_n ?_
          refine AWP.seq ?_
          refine AWP.region ?_
          refine rC (Calm.move rfl) ?_
          refine rC (Calm.lenSl Try.underlying23 rfl) ?_
          refine rC (Calm.move rfl) ?_
          refine rC (Calm.bin rfl rfl b_leq) ?_
          refine rC (Calm.move rfl) ?_
          first | refine rS 68 ?_ | refine rU 68 ?_ | refine rG 68 (Calm.move rfl) ?_
          first | refine rS 68 ?_ | refine rU 68 ?_ | refine rG 68 (Calm.lenSl Try.underlying23 rfl) ?_
          first | refine rS 68 ?_ | refine rU 68 ?_ | refine rG 68 (Calm.bin rfl rfl b_eql) ?_
          first | refine rS 68 ?_ | refine rU 68 ?_ | refine rG 68 (Calm.fieldAddr ty_field_25_0 rfl) ?_
          first | refine rS 68 ?_ | refine rU 68 ?_ | refine rG 68 (ld_ ty_plain_22 rfl) ?_
          first | refine rS 68 ?_ | refine rU 68 ?_ | refine rG 68 (Calm.lenSl Try.underlying22 rfl) ?_
          first | refine rS 68 ?_ | refine rU 68 ?_ | refine rG 68 (Calm.bin rfl rfl b_eql) ?_
          first | refine rS 68 ?_ | refine rU 68 ?_ | refine rG 68 (Calm.bin rfl rfl (bin_bool (bin_bool_eql _ _ Try.underlying4) (beq_self_eq_true _))) ?_
          refine rC ((by first | exact Calm.pickT rfl rfl | exact Calm.pickF rfl rfl)) ?_
          refine rC (Calm.move rfl) ?_
          first | refine rS 78 ?_ | refine rU 78 ?_ | refine rG 78 (Calm.move rfl) ?_
          first | refine rS 78 ?_ | refine rU 78 ?_ | refine rG 78 (Calm.lenSl Try.underlying23 rfl) ?_
          first | refine rS 78 ?_ | refine rU 78 ?_ | refine rG 78 (Calm.bin rfl rfl b_eql) ?_
          first | refine rS 78 ?_ | refine rU 78 ?_ | refine rG 78 (Calm.move rfl) ?_
          first | refine rS 82 ?_ | refine rU 82 ?_ | refine rG 82 (Calm.move rfl) ?_
          first | refine rS 82 ?_ | refine rU 82 ?_ | refine rG 82 (Calm.move rfl) ?_
          first | refine rS 82 ?_ | refine rU 82 ?_ | refine rG 82 (Calm.lenSl Try.underlying23 rfl) ?_
          first | refine rS 82 ?_ | refine rU 82 ?_ | refine rG 82 (Calm.bin rfl rfl b_sub_i64) ?_
          first | refine rS 82 ?_ | refine rU 82 ?_ | refine rG 82 (Calm.indexS Try.underlying23 ty_size_3 rfl rfl (by omega) (by omega)) ?_
          first | refine rS 82 ?_ | refine rU 82 ?_ | refine rG 82 (ld_ ty_plain_3 rfl) ?_
          first | refine rS 82 ?_ | refine rU 82 ?_ | refine rG 82 (Calm.bin rfl rfl b_eql) ?_
          first | refine rS 78 ?_ | refine rU 78 ?_ | refine rG 78 ((by first | exact Calm.pickT rfl rfl | exact Calm.pickF rfl rfl)) ?_
          refine rC ((by first | exact Calm.pickT rfl rfl | exact Calm.pickF rfl rfl)) ?_
          refine rC (Calm.assign rfl) ?_
          refine arun_nil ?_
          refine athen_n ?_
          refine AWP.sub [(2, _), (5, _), (7, _), (33, _), (34, _), (35, _), (36, _), (4, _)] ⟨rfl, rfl, rfl, rfl, rfl, rfl, rfl, rfl, trivial⟩ ?_
          refine AWP.ret ?_
          refine ⟨_, _, ⟨_, _, rfl, rfl, rfl⟩, less_, ?_⟩
          rfl
        · have hn1 : ks.length ≠ 1 := fun e => by have e0 : n0 = 0 := (by omega); have := hpg 0 (by omega); rw [e0] at this; simp at this
          obtain ⟨b0, off, rfl, hkn⟩ := hpk.resolve_left (by intro h; rw [h] at hz; exact hz rfl)
          obtain ⟨q, hql⟩ : ∃ q, p.length = q + 1 := ⟨p.length - 1, by omega⟩
          have k1 := hkn q (by omega)
          obtain ⟨e1, e2⟩ := hpg q (by omega)
          have e3 := half_step n0 q
          rw [← hql, hpe] at e3
          have e4 : n0 / 2 ^ q = 1 := (by omega)
          rw [e1, e4] at k1; unfold i64s at k1
          have k3 : S2.Knows ⟨b0, off + ((p.length : Int) - 1).toNat * 1, none⟩ [.int .i64 (1 : Nat)] := by rw [show ((p.length : Int) - 1).toNat = q from by omega]; exact k1
          refine AWP.exit ?_
          refine athen_exit ?_
          refine athen_exit ?_
          refine ain_same ?_
          refine athen_n ?_
          refine AWP.seq ?_
          refine AWP.region ?_
          refine rC (Calm.move rfl) ?_
          refine rC (Calm.lenSl Try.underlying23 rfl) ?_
          refine rC (Calm.move rfl) ?_
          refine rC (Calm.bin rfl rfl b_leq) ?_
          refine rC (Calm.move rfl) ?_
          first | refine rS 68 ?_ | refine rU 68 ?_ | refine rG 68 (Calm.move rfl) ?_
          first | refine rS 68 ?_ | refine rU 68 ?_ | refine rG 68 (Calm.lenSl Try.underlying23 rfl) ?_
          first | refine rS 68 ?_ | refine rU 68 ?_ | refine rG 68 (Calm.bin rfl rfl b_eql) ?_
          first | refine rS 68 ?_ | refine rU 68 ?_ | refine rG 68 (Calm.fieldAddr ty_field_25_0 rfl) ?_
          first | refine rS 68 ?_ | refine rU 68 ?_ | refine rG 68 (ld_ ty_plain_22 rfl) ?_
          first | refine rS 68 ?_ | refine rU 68 ?_ | refine rG 68 (Calm.lenSl Try.underlying22 rfl) ?_
          first | refine rS 68 ?_ | refine rU 68 ?_ | refine rG 68 (Calm.bin rfl rfl b_eql) ?_
          first | refine rS 68 ?_ | refine rU 68 ?_ | refine rG 68 (Calm.bin rfl rfl (bin_bool (bin_bool_eql _ _ Try.underlying4) (beq_self_eq_true _))) ?_
          refine rC ((by first | exact Calm.pickT rfl rfl | exact Calm.pickF rfl rfl)) ?_
          refine rC (Calm.move rfl) ?_
          first | refine rS 78 ?_ | refine rU 78 ?_ | refine rG 78 (Calm.move rfl) ?_
          first | refine rS 78 ?_ | refine rU 78 ?_ | refine rG 78 (Calm.lenSl Try.underlying23 rfl) ?_
          first | refine rS 78 ?_ | refine rU 78 ?_ | refine rG 78 (Calm.bin rfl rfl b_eql) ?_
          first | refine rS 78 ?_ | refine rU 78 ?_ | refine rG 78 (Calm.move rfl) ?_
          first | refine rS 82 ?_ | refine rU 82 ?_ | refine rG 82 (Calm.move rfl) ?_
          first | refine rS 82 ?_ | refine rU 82 ?_ | refine rG 82 (Calm.move rfl) ?_
          first | refine rS 82 ?_ | refine rU 82 ?_ | refine rG 82 (Calm.lenSl Try.underlying23 rfl) ?_
          first | refine rS 82 ?_ | refine rU 82 ?_ | refine rG 82 (Calm.bin rfl rfl b_sub_i64) ?_
          first | refine rS 82 ?_ | refine rU 82 ?_ | refine rG 82 (Calm.indexS Try.underlying23 ty_size_3 rfl rfl (by omega) (by omega)) ?_
          first | refine rS 82 ?_ | refine rU 82 ?_ | refine rG 82 (ld_ ty_plain_3 rfl) ?_
          first | refine rS 82 ?_ | refine rU 82 ?_ | refine rG 82 (Calm.bin rfl rfl b_eql) ?_
          first | refine rS 78 ?_ | refine rU 78 ?_ | refine rG 78 ((by first | exact Calm.pickT rfl rfl | exact Calm.pickF rfl rfl)) ?_
          refine rC ((by first | exact Calm.pickT rfl rfl | exact Calm.pickF rfl rfl)) ?_
          refine rC (Calm.assign rfl) ?_
          refine arun_nil ?_
          refine athen_n ?_
          refine AWP.sub [(2, _), (5, _), (7, _), (33, _), (34, _), (35, _), (36, _), (4, _)] ⟨rfl, rfl, rfl, rfl, rfl, rfl, rfl, rfl, trivial⟩ ?_
          refine AWP.ret ?_
          refine ⟨_, _, ⟨_, _, rfl, rfl, rfl⟩, less_, ?_⟩
          rfl
theorem walk_LoserLeast (pa : Option Addr) (la qa : Nat) (ks : List (List Nat)) (pb : Option Addr) (lb qb : Nat) (tr : List Int) (w : World)
    (hks : SlOf RowR (roM w) (.slice pa la qa) ks) (hl : ks.length ≤ 5864062014634) (hr : ∀ x ∈ ks, x.length ≤ 17592186043904) (ht : Sl 1 (fun x : Int => [.int .i64 x]) (roM w) (.slice pb lb qb) tr) (htl : tr.length ≤ 17592186043904) :
    Calls Try.prog 6 #[.agg #[.slice pa la qa, .slice pb lb qb]] w fun e w' => e = .returned (.bool true) ∧ Below w.heap.size w w' :=
  ACall.callsW (law_LoserLeast _ _ ks tr _ ⟨hks, ht⟩ hl hr)
theorem walk_LoserShort (pa : Option Addr) (la qa : Nat) (ks : List (List Nat)) (pb : Option Addr) (lb qb : Nat) (tr : List Int) (leaf : Int) (w : World)
    (hks : SlOf RowR (roM w) (.slice pa la qa) ks) (hl : ks.length ≤ 5864062014634) (hr : ∀ x ∈ ks, x.length ≤ 17592186043904) (ht : Sl 1 (fun x : Int => [.int .i64 x]) (roM w) (.slice pb lb qb) tr) (htl : tr.length ≤ 17592186043904) (hf : (Lit.int .i64 leaf).wf = true) :
    Calls Try.prog 7 #[.agg #[.slice pa la qa, .slice pb lb qb], .int .i64 leaf] w fun e w' => e = .returned (.bool true) ∧ Below w.heap.size w w' :=
  ACall.callsW (law_LoserShort _ _ ks tr leaf _ ⟨hks, ht⟩ (wf64 hf).1 (wf64 hf).2)
end Go.Proofs.Ytddabbfjoejalaa
