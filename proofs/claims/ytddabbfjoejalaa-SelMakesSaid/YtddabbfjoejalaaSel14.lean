/-
  Sel: the law SelMakes walked.
-/
import Derived.Test.YtddabbfjoejalaaSel13
import Derived.Test.YtddabbfjoejalaaMem
namespace Go.Proofs.Ytddabbfjoejalaa
open Go.RowKit
open Mv Bits Sel
set_option linter.unusedVariables false
set_option linter.unusedSimpArgs false
set_option maxRecDepth 20000
theorem and_same {p q : Prop} [Decidable p] [Decidable q] (hp : p) (hq : q) : (decide p && decide q) = true := by simp [hp, hq]
set_option maxHeartbeats 8000000 in
theorem law_SelMakes (s : ByteArray) (N : Int) (v : Value) (L : List Bool) (s' : ByteArray) (N' : Int) (hc : Value) (cs : List Int) (S : Mem) (z : s.size ≤ 281474976710656) (hN : -9223372036854775808 ≤ N ∧ N ≤ 9223372036854775807) (hL : Sl 1 bools S v L) (z' : s'.size ≤ 281474976710656) (hv : Sl 1 i64s S hc cs) :
    ACall Try.prog 8 #[.agg #[.string s, .int .i64 N], v, .agg #[.string s', .int .i64 N', hc]] S fun r S' => r = .bool true := by
  obtain ⟨pc, cc, rfl, _⟩ := id hv
  obtain ⟨pl, cl, rfl, hl1, hl2, _⟩ := id hL
  refine ACall.enter (args := [.agg #[.string s, .int .i64 N], .slice pl L.length cl, .agg #[.string s', .int .i64 N', .slice pc cs.length cc]]) (rs := [.tmp 6]) 82 [(0, .agg #[.string s, .int .i64 N]), (1, .slice pl L.length cl), (2, .agg #[.string s', .int .i64 N', .slice pc cs.length cc])] Try.func8 rfl rfl (Nat.le_of_ble_eq_true rfl) rfl ⟨rfl, rfl, rfl, trivial⟩ ?_
  refine AWP.seq ?_
  refine AWP.region ?_
  refine ARun.boxA (cs := [_, _]) (lit_lt rfl) rfl ?_
  intro b3 f3
  have g3 := f3
  repeat ((with_reducible replace g3 := fresh_set g3); obtain ⟨g3, _⟩ := g3)
  (try simp only [List.length_cons, List.length_nil, Nat.zero_add, Nat.reduceAdd])
  refine ARun.boxA (cs := [_, _, _]) (lit_lt rfl) rfl ?_
  intro b5 f5
  have g5 := f5
  repeat ((with_reducible replace g5 := fresh_set g5); obtain ⟨g5, _⟩ := g5)
  (try simp only [List.length_cons, List.length_nil, Nat.zero_add, Nat.reduceAdd])
  refine rC (Calm.assign rfl) ?_
  refine arun_nil ?_
  refine athen_n ?_
  refine named2 (S := S) (b := b3) (b' := b5) f3.1 f5.1 ?_
  intro T5 hT5 kb3 kb5
  replace hv := hv.less hT5
  replace hL := hL.less hT5
  by_cases h1 : 3000 < L.length
  · by_cases h2 : L.length ≤ 65536
    · refine AWP.seq ?_
      refine AWP.seq ?_
      refine AWP.region ?_
      refine rC (Calm.move rfl) ?_
      refine rC (Calm.lenSl Try.underlying43 rfl) ?_
      refine rC (Calm.bin rfl rfl b_gtr) ?_
      refine rC (Calm.move rfl) ?_
      first | refine rS 18 ?_ | refine rU 18 ?_ | refine rG 18 (Calm.move rfl) ?_
      first | refine rS 18 ?_ | refine rU 18 ?_ | refine rG 18 (Calm.lenSl Try.underlying43 rfl) ?_
      first | refine rS 18 ?_ | refine rU 18 ?_ | refine rG 18 (Calm.bin rfl rfl b_leq) ?_
      refine rC ((by first | exact Calm.pickT rfl rfl | exact Calm.pickF rfl rfl)) ?_
      refine rC (Calm.move rfl) ?_
      first | refine rS 23 ?_ | refine rU 23 ?_ | refine rG 23 (Calm.fieldAddr ty_field_47_1 rfl) ?_
      first | refine rS 23 ?_ | refine rU 23 ?_ | refine rG 23 (ld_ ty_plain_3 rfl) ?_
      first | refine rS 23 ?_ | refine rU 23 ?_ | refine rG 23 (Calm.bin rfl rfl b_gtr) ?_
      first | refine rS 23 ?_ | refine rU 23 ?_ | refine rG 23 (Calm.move rfl) ?_
      first | refine rS 27 ?_ | refine rU 27 ?_ | refine rG 27 (Calm.fieldAddr ty_field_47_1 rfl) ?_
      first | refine rS 27 ?_ | refine rU 27 ?_ | refine rG 27 (ld_ ty_plain_3 rfl) ?_
      first | refine rS 27 ?_ | refine rU 27 ?_ | refine rG 27 (Calm.bin rfl rfl b_leq) ?_
      first | refine rS 23 ?_ | refine rU 23 ?_ | refine rG 23 ((by first | exact Calm.pickT rfl rfl | exact Calm.pickF rfl rfl)) ?_
      refine rC ((by first | exact Calm.pickT rfl rfl | exact Calm.pickF rfl rfl)) ?_
      refine arun_nil ?_
      refine athen_n ?_
      refine AWP.sub [(0, _), (1, _), (2, _), (3, _), (5, _), (6, _), (32, _)] ⟨rfl, rfl, rfl, rfl, rfl, rfl, rfl, trivial⟩ ?_
      refine AWP.condT rfl (by first | rfl | (simp; done) | (simp; omega)) ?_
      refine AWP.seq ?_
      refine AWP.region ?_
      refine ARun.call (lit_lt rfl) go_29 rfl (selV_lives _) ?_
      rintro _ S2 ⟨rfl, h1⟩
      rw [h1]; clear h1 S2
      refine rC (Calm.assign rfl) ?_
      refine arun_nil ?_
      refine athen_n ?_
      refine AWP.sub [(0, _), (1, _), (2, _), (3, _), (5, _), (6, _), (32, _)] ⟨rfl, rfl, rfl, rfl, rfl, rfl, rfl, trivial⟩ ?_
      refine AWP.ret ?_
      refine athen_ret ?_
      refine ⟨_, _, ⟨_, _, rfl, rfl, rfl⟩, less_, ?_⟩
      rfl
    · by_cases h3 : 3000 < N
      · by_cases h4 : N ≤ 1048576
        · refine AWP.seq ?_
          refine AWP.seq ?_
          refine AWP.region ?_
          refine rC (Calm.move rfl) ?_
          refine rC (Calm.lenSl Try.underlying43 rfl) ?_
          refine rC (Calm.bin rfl rfl b_gtr) ?_
          refine rC (Calm.move rfl) ?_
          first | refine rS 18 ?_ | refine rU 18 ?_ | refine rG 18 (Calm.move rfl) ?_
          first | refine rS 18 ?_ | refine rU 18 ?_ | refine rG 18 (Calm.lenSl Try.underlying43 rfl) ?_
          first | refine rS 18 ?_ | refine rU 18 ?_ | refine rG 18 (Calm.bin rfl rfl b_leq) ?_
          refine rC ((by first | exact Calm.pickT rfl rfl | exact Calm.pickF rfl rfl)) ?_
          refine rC (Calm.move rfl) ?_
          first | refine rS 23 ?_ | refine rU 23 ?_ | refine rG 23 (Calm.fieldAddr ty_field_47_1 rfl) ?_
          first | refine rS 23 ?_ | refine rU 23 ?_ | refine rG 23 (ld_ ty_plain_3 rfl) ?_
          first | refine rS 23 ?_ | refine rU 23 ?_ | refine rG 23 (Calm.bin rfl rfl b_gtr) ?_
          first | refine rS 23 ?_ | refine rU 23 ?_ | refine rG 23 (Calm.move rfl) ?_
          first | refine rS 27 ?_ | refine rU 27 ?_ | refine rG 27 (Calm.fieldAddr ty_field_47_1 rfl) ?_
          first | refine rS 27 ?_ | refine rU 27 ?_ | refine rG 27 (ld_ ty_plain_3 rfl) ?_
          first | refine rS 27 ?_ | refine rU 27 ?_ | refine rG 27 (Calm.bin rfl rfl b_leq) ?_
          first | refine rS 23 ?_ | refine rU 23 ?_ | refine rG 23 ((by first | exact Calm.pickT rfl rfl | exact Calm.pickF rfl rfl)) ?_
          refine rC ((by first | exact Calm.pickT rfl rfl | exact Calm.pickF rfl rfl)) ?_
          refine arun_nil ?_
          refine athen_n ?_
          refine AWP.sub [(0, _), (1, _), (2, _), (3, _), (5, _), (6, _), (32, _)] ⟨rfl, rfl, rfl, rfl, rfl, rfl, rfl, trivial⟩ ?_
          refine AWP.condT rfl (by first | rfl | (simp; done) | (simp; omega)) ?_
          refine AWP.seq ?_
          refine AWP.region ?_
          refine ARun.call (lit_lt rfl) go_29 rfl (selV_lives _) ?_
          rintro _ S2 ⟨rfl, h1⟩
          rw [h1]; clear h1 S2
          refine rC (Calm.assign rfl) ?_
          refine arun_nil ?_
          refine athen_n ?_
          refine AWP.sub [(0, _), (1, _), (2, _), (3, _), (5, _), (6, _), (32, _)] ⟨rfl, rfl, rfl, rfl, rfl, rfl, rfl, trivial⟩ ?_
          refine AWP.ret ?_
          refine athen_ret ?_
          refine ⟨_, _, ⟨_, _, rfl, rfl, rfl⟩, less_, ?_⟩
          rfl
        · refine AWP.seq ?_
          refine AWP.seq ?_
          refine AWP.region ?_
          refine rC (Calm.move rfl) ?_
          refine rC (Calm.lenSl Try.underlying43 rfl) ?_
          refine rC (Calm.bin rfl rfl b_gtr) ?_
          refine rC (Calm.move rfl) ?_
          first | refine rS 18 ?_ | refine rU 18 ?_ | refine rG 18 (Calm.move rfl) ?_
          first | refine rS 18 ?_ | refine rU 18 ?_ | refine rG 18 (Calm.lenSl Try.underlying43 rfl) ?_
          first | refine rS 18 ?_ | refine rU 18 ?_ | refine rG 18 (Calm.bin rfl rfl b_leq) ?_
          refine rC ((by first | exact Calm.pickT rfl rfl | exact Calm.pickF rfl rfl)) ?_
          refine rC (Calm.move rfl) ?_
          first | refine rS 23 ?_ | refine rU 23 ?_ | refine rG 23 (Calm.fieldAddr ty_field_47_1 rfl) ?_
          first | refine rS 23 ?_ | refine rU 23 ?_ | refine rG 23 (ld_ ty_plain_3 rfl) ?_
          first | refine rS 23 ?_ | refine rU 23 ?_ | refine rG 23 (Calm.bin rfl rfl b_gtr) ?_
          first | refine rS 23 ?_ | refine rU 23 ?_ | refine rG 23 (Calm.move rfl) ?_
          first | refine rS 27 ?_ | refine rU 27 ?_ | refine rG 27 (Calm.fieldAddr ty_field_47_1 rfl) ?_
          first | refine rS 27 ?_ | refine rU 27 ?_ | refine rG 27 (ld_ ty_plain_3 rfl) ?_
          first | refine rS 27 ?_ | refine rU 27 ?_ | refine rG 27 (Calm.bin rfl rfl b_leq) ?_
          first | refine rS 23 ?_ | refine rU 23 ?_ | refine rG 23 ((by first | exact Calm.pickT rfl rfl | exact Calm.pickF rfl rfl)) ?_
          refine rC ((by first | exact Calm.pickT rfl rfl | exact Calm.pickF rfl rfl)) ?_
          refine arun_nil ?_
          refine athen_n ?_
          refine AWP.sub [(0, _), (1, _), (2, _), (3, _), (5, _), (6, _), (32, _)] ⟨rfl, rfl, rfl, rfl, rfl, rfl, rfl, trivial⟩ ?_
          refine AWP.condF rfl (by first | rfl | (simp; done) | (simp; omega)) ?_
          refine AWP.skip ?_
          refine athen_n ?_
          refine AWP.seq ?_
          refine AWP.region ?_
          refine rC (ldA_ (cs := [_, _]) ty_agg_47 ty_size_47 rfl) ?_
          refine ARun.call (lit_lt rfl) go_30 rfl (selV_Make s N _ z) ?_
          rintro _ S2 hr2
          obtain ⟨pa2, ca2, rfl, hS2, hv2⟩ := hr2.slices
          replace hv := hv.less hS2
          replace hL := hL.less hS2
          replace kb3 := hS2.own kb3
          replace kb5 := hS2.own kb5
          refine rC (Calm.move rfl) ?_
          refine rC (Calm.extract rfl rfl) ?_
          refine rC (Calm.extract rfl rfl) ?_
          refine ARun.alloc (lit_lt rfl) ty_zero_49 ?_
          intro b7 f7
          have g7 := f7
          repeat ((with_reducible replace g7 := fresh_set g7); obtain ⟨g7, _⟩ := g7)
          (try simp only [List.length_cons, List.length_nil, Nat.zero_add, Nat.reduceAdd])
          first | refine ARun.storeAll rfl rfl ty_size_49 own_ rfl rfl ?_ | refine ARun.store rfl rfl ty_size_49 own_ lens_ rfl ?_
          (try simp only [Mem.set_set, List.set_cons_zero, List.set_cons_succ, Nat.zero_add, Nat.reduceAdd])
          refine rC (Calm.assign rfl) ?_
          refine arun_nil ?_
          refine athen_n ?_
          refine AWP.sub [(0, _), (1, _), (2, _), (3, _), (5, _), (6, _), (32, _), (7, _), (8, _)] ⟨rfl, rfl, rfl, rfl, rfl, rfl, rfl, rfl, rfl, trivial⟩ ?_
          refine named (S := S2) (b := b7) g7.1 ?_
          intro T7 hT7 kb7
          replace hv := hv.less hT7
          replace hL := hL.less hT7
          replace kb3 := hT7.own kb3
          replace kb5 := hT7.own kb5
          replace hv2 := hv2.less hT7
          refine AWP.seq ?_
          refine AWP.region ?_
          refine rC (ldA_ (cs := [_, _]) ty_agg_47 ty_size_47 rfl) ?_
          refine ARun.call (lit_lt rfl) go_31 rfl (rselV_Make s N _ z) ?_
          rintro _ S3 hr3
          obtain ⟨pa3, ca3, rfl, hS3, hv3⟩ := hr3.slices
          replace hv := hv.less hS3
          replace hL := hL.less hS3
          replace kb3 := hS3.own kb3
          replace kb5 := hS3.own kb5
          replace hv2 := hv2.less hS3
          replace kb7 := hS3.own kb7
          refine rC (Calm.move rfl) ?_
          refine rC (Calm.extract rfl rfl) ?_
          refine rC (Calm.extract rfl rfl) ?_
          refine ARun.alloc (lit_lt rfl) ty_zero_49 ?_
          intro b9 f9
          have g9 := f9
          repeat ((with_reducible replace g9 := fresh_set g9); obtain ⟨g9, _⟩ := g9)
          (try simp only [List.length_cons, List.length_nil, Nat.zero_add, Nat.reduceAdd])
          first | refine ARun.storeAll rfl rfl ty_size_49 own_ rfl rfl ?_ | refine ARun.store rfl rfl ty_size_49 own_ lens_ rfl ?_
          (try simp only [Mem.set_set, List.set_cons_zero, List.set_cons_succ, Nat.zero_add, Nat.reduceAdd])
          refine rC (Calm.assign rfl) ?_
          refine arun_nil ?_
          refine athen_n ?_
          refine AWP.sub [(0, _), (1, _), (2, _), (3, _), (5, _), (6, _), (32, _), (7, _), (8, _), (9, _), (10, _)] ⟨rfl, rfl, rfl, rfl, rfl, rfl, rfl, rfl, rfl, rfl, rfl, trivial⟩ ?_
          refine named (S := S3) (b := b9) g9.1 ?_
          intro T9 hT9 kb9
          replace hv := hv.less hT9
          replace hL := hL.less hT9
          replace kb3 := hT9.own kb3
          replace kb5 := hT9.own kb5
          replace hv2 := hv2.less hT9
          replace kb7 := hT9.own kb7
          replace hv3 := hv3.less hT9
          refine AWP.seq ?_
          refine AWP.region ?_
          refine rC (Calm.move rfl) ?_
          refine ARun.call (lit_lt rfl) go_32 rfl (selV_OfS _ L _ hL) ?_
          rintro _ S4 hr4
          obtain ⟨pa4, ca4, rfl, hS4, hv4⟩ := hr4.slices
          replace hv := hv.less hS4
          replace hL := hL.less hS4
          replace kb3 := hS4.own kb3
          replace kb5 := hS4.own kb5
          replace hv2 := hv2.less hS4
          replace kb7 := hS4.own kb7
          replace hv3 := hv3.less hS4
          replace kb9 := hS4.own kb9
          refine rC (Calm.move rfl) ?_
          refine rC (Calm.extract rfl rfl) ?_
          refine rC (Calm.extract rfl rfl) ?_
          refine ARun.alloc (lit_lt rfl) ty_zero_49 ?_
          intro b11 f11
          have g11 := f11
          repeat ((with_reducible replace g11 := fresh_set g11); obtain ⟨g11, _⟩ := g11)
          (try simp only [List.length_cons, List.length_nil, Nat.zero_add, Nat.reduceAdd])
          first | refine ARun.storeAll rfl rfl ty_size_49 own_ rfl rfl ?_ | refine ARun.store rfl rfl ty_size_49 own_ lens_ rfl ?_
          (try simp only [Mem.set_set, List.set_cons_zero, List.set_cons_succ, Nat.zero_add, Nat.reduceAdd])
          refine rC (Calm.assign rfl) ?_
          refine arun_nil ?_
          refine athen_n ?_
          refine AWP.sub [(0, _), (1, _), (2, _), (3, _), (5, _), (6, _), (32, _), (7, _), (8, _), (9, _), (10, _), (11, _), (12, _)] ⟨rfl, rfl, rfl, rfl, rfl, rfl, rfl, rfl, rfl, rfl, rfl, rfl, rfl, trivial⟩ ?_
          refine named (S := S4) (b := b11) g11.1 ?_
          intro T11 hT11 kb11
          replace hv := hv.less hT11
          replace hL := hL.less hT11
          replace kb3 := hT11.own kb3
          replace kb5 := hT11.own kb5
          replace hv2 := hv2.less hT11
          replace kb7 := hT11.own kb7
          replace hv3 := hv3.less hT11
          replace kb9 := hT11.own kb9
          replace hv4 := hv4.less hT11
          refine AWP.seq ?_
          refine AWP.region ?_
          refine rC (Calm.move rfl) ?_
          refine ARun.call (lit_lt rfl) go_33 rfl (rselV_OfS _ L _ hL) ?_
          rintro _ S5 hr5
          obtain ⟨pa5, ca5, rfl, hS5, hv5⟩ := hr5.slices
          replace hv := hv.less hS5
          replace hL := hL.less hS5
          replace kb3 := hS5.own kb3
          replace kb5 := hS5.own kb5
          replace hv2 := hv2.less hS5
          replace kb7 := hS5.own kb7
          replace hv3 := hv3.less hS5
          replace kb9 := hS5.own kb9
          replace hv4 := hv4.less hS5
          replace kb11 := hS5.own kb11
          refine rC (Calm.move rfl) ?_
          refine rC (Calm.extract rfl rfl) ?_
          refine rC (Calm.extract rfl rfl) ?_
          refine ARun.alloc (lit_lt rfl) ty_zero_49 ?_
          intro b13 f13
          have g13 := f13
          repeat ((with_reducible replace g13 := fresh_set g13); obtain ⟨g13, _⟩ := g13)
          (try simp only [List.length_cons, List.length_nil, Nat.zero_add, Nat.reduceAdd])
          first | refine ARun.storeAll rfl rfl ty_size_49 own_ rfl rfl ?_ | refine ARun.store rfl rfl ty_size_49 own_ lens_ rfl ?_
          (try simp only [Mem.set_set, List.set_cons_zero, List.set_cons_succ, Nat.zero_add, Nat.reduceAdd])
          refine rC (Calm.assign rfl) ?_
          refine arun_nil ?_
          refine athen_n ?_
          refine AWP.sub [(0, _), (1, _), (2, _), (3, _), (5, _), (6, _), (32, _), (7, _), (8, _), (9, _), (10, _), (11, _), (12, _), (13, _), (14, _)] ⟨rfl, rfl, rfl, rfl, rfl, rfl, rfl, rfl, rfl, rfl, rfl, rfl, rfl, rfl, rfl, trivial⟩ ?_
          refine named (S := S5) (b := b13) g13.1 ?_
          intro T13 hT13 kb13
          replace hv := hv.less hT13
          replace hL := hL.less hT13
          replace kb3 := hT13.own kb3
          replace kb5 := hT13.own kb5
          replace hv2 := hv2.less hT13
          replace kb7 := hT13.own kb7
          replace hv3 := hv3.less hT13
          replace kb9 := hT13.own kb9
          replace hv4 := hv4.less hT13
          replace kb11 := hT13.own kb11
          replace hv5 := hv5.less hT13
          refine AWP.seq ?_
          refine AWP.draw [(0, false), (1, true), (2, true), (3, true), (4, false), (5, true), (6, true), (7, true), (8, true), (9, true), (10, true), (11, true), (12, true), (13, true), (14, false), (15, true), (16, true), (17, true), (18, true), (19, true), (20, true), (21, true), (22, true), (24, true), (23, false), (25, false), (26, true), (27, true), (28, true)] [] mixed (by kernel_rfl) ?_
          refine draw_only rfl ?_
          refine ARun.call (lit_lt rfl) go_29 rfl (selV_lives _) ?_
          rintro _ S6 ⟨rfl, h1⟩
          rw [h1]; clear h1 S6
          refine arun_nil ⟨fun _ => less_, ?_⟩
          refine draw_pure rfl rfl rfl rfl (lit_lt rfl) (fun _ => Calm.move rfl) ?_
          first | refine draw_skipG 1 true _ 55 rfl rfl rfl (lit_lt rfl) rfl rfl rfl (lit_lt rfl) less_ ?_ | refine draw_skipU 1 true 55 rfl rfl rfl (lit_lt rfl) rfl rfl (lit_lt rfl) less_ ?_ | refine draw_calmG 1 true 55 rfl rfl rfl (lit_lt rfl) rfl rfl (lit_lt rfl) less_ (fun S' hS' => by obtain rfl := hS'.resolve_left (by decide); exact ldA_ (cs := [_, _, _]) ty_agg_49 ty_size_49 rfl) ?_
          first | refine draw_skipG 1 true _ 55 rfl rfl rfl (lit_lt rfl) rfl rfl rfl (lit_lt rfl) less_ ?_ | refine draw_skipU 1 true 55 rfl rfl rfl (lit_lt rfl) rfl rfl (lit_lt rfl) less_ ?_ | refine draw_calmG 1 true 55 rfl rfl rfl (lit_lt rfl) rfl rfl (lit_lt rfl) less_ (fun S' hS' => by obtain rfl := hS'.resolve_left (by decide); exact ldA_ (cs := [_, _, _]) ty_agg_49 ty_size_49 rfl) ?_
          refine draw_only rfl ?_
          refine ARun.callG 1 true 55 rfl (lit_lt rfl) rfl (lit_lt rfl) go_34 rfl (rselV_Same _ _ _ _ _ _ _ _ _ hv2 hv3) ?_
          rintro _ S6 ⟨rfl, h1⟩
          rw [h1, and_same ⟨rfl, rfl⟩ rfl]; clear h1 S6
          refine arun_nil ⟨fun _ => less_, ?_⟩
          refine draw_pure rfl rfl rfl rfl (lit_lt rfl) (fun _ => (by first | exact Calm.pickT rfl rfl | exact Calm.pickF rfl rfl)) ?_
          refine draw_pure rfl rfl rfl rfl (lit_lt rfl) (fun _ => Calm.move rfl) ?_
          first | refine draw_skipG 6 true _ 60 rfl rfl rfl (lit_lt rfl) rfl rfl rfl (lit_lt rfl) less_ ?_ | refine draw_skipU 6 true 60 rfl rfl rfl (lit_lt rfl) rfl rfl (lit_lt rfl) less_ ?_ | refine draw_calmG 6 true 60 rfl rfl rfl (lit_lt rfl) rfl rfl (lit_lt rfl) less_ (fun S' hS' => Calm.move rfl) ?_
          first | refine draw_skipG 6 true _ 60 rfl rfl rfl (lit_lt rfl) rfl rfl rfl (lit_lt rfl) less_ ?_ | refine draw_skipU 6 true 60 rfl rfl rfl (lit_lt rfl) rfl rfl (lit_lt rfl) less_ ?_ | refine draw_calmG 6 true 60 rfl rfl rfl (lit_lt rfl) rfl rfl (lit_lt rfl) less_ (fun S' hS' => Calm.move rfl) ?_
          first | refine draw_skipG 6 true _ 60 rfl rfl rfl (lit_lt rfl) rfl rfl rfl (lit_lt rfl) less_ ?_ | refine draw_skipU 6 true 60 rfl rfl rfl (lit_lt rfl) rfl rfl (lit_lt rfl) less_ ?_ | refine draw_calmG 6 true 60 rfl rfl rfl (lit_lt rfl) rfl rfl (lit_lt rfl) less_ (fun S' hS' => Calm.bin rfl rfl (bin_bool b_eql (decide_eq_true rfl))) ?_
          refine draw_pure rfl rfl rfl rfl (lit_lt rfl) (fun _ => (by first | exact Calm.pickT rfl rfl | exact Calm.pickF rfl rfl)) ?_
          refine draw_pure rfl rfl rfl rfl (lit_lt rfl) (fun _ => Calm.move rfl) ?_
          first | refine draw_skipG 11 true _ 65 rfl rfl rfl (lit_lt rfl) rfl rfl rfl (lit_lt rfl) less_ ?_ | refine draw_skipU 11 true 65 rfl rfl rfl (lit_lt rfl) rfl rfl (lit_lt rfl) less_ ?_ | refine draw_calmG 11 true 65 rfl rfl rfl (lit_lt rfl) rfl rfl (lit_lt rfl) less_ (fun S' hS' => by obtain rfl := hS'.resolve_left (by decide); exact ldA_ (cs := [_, _, _]) ty_agg_49 ty_size_49 rfl) ?_
          first | refine draw_skipG 11 true _ 65 rfl rfl rfl (lit_lt rfl) rfl rfl rfl (lit_lt rfl) less_ ?_ | refine draw_skipU 11 true 65 rfl rfl rfl (lit_lt rfl) rfl rfl (lit_lt rfl) less_ ?_ | refine draw_calmG 11 true 65 rfl rfl rfl (lit_lt rfl) rfl rfl (lit_lt rfl) less_ (fun S' hS' => by obtain rfl := hS'.resolve_left (by decide); exact ldA_ (cs := [_, _, _]) ty_agg_49 ty_size_49 rfl) ?_
          refine draw_only rfl ?_
          refine ARun.callG 11 true 65 rfl (lit_lt rfl) rfl (lit_lt rfl) go_34 rfl (rselV_Same _ _ _ _ _ _ _ _ _ hv4 hv5) ?_
          rintro _ S6 ⟨rfl, h1⟩
          rw [h1, and_same ⟨rfl, rfl⟩ rfl]; clear h1 S6
          refine arun_nil ⟨fun _ => less_, ?_⟩
          refine draw_pure rfl rfl rfl rfl (lit_lt rfl) (fun _ => (by first | exact Calm.pickT rfl rfl | exact Calm.pickF rfl rfl)) ?_
          refine draw_pure rfl rfl rfl rfl (lit_lt rfl) (fun _ => Calm.move rfl) ?_
          first | refine draw_skipG 16 true _ 70 rfl rfl rfl (lit_lt rfl) rfl rfl rfl (lit_lt rfl) less_ ?_ | refine draw_skipU 16 true 70 rfl rfl rfl (lit_lt rfl) rfl rfl (lit_lt rfl) less_ ?_ | refine draw_calmG 16 true 70 rfl rfl rfl (lit_lt rfl) rfl rfl (lit_lt rfl) less_ (fun S' hS' => Calm.move rfl) ?_
          first | refine draw_skipG 16 true _ 70 rfl rfl rfl (lit_lt rfl) rfl rfl rfl (lit_lt rfl) less_ ?_ | refine draw_skipU 16 true 70 rfl rfl rfl (lit_lt rfl) rfl rfl (lit_lt rfl) less_ ?_ | refine draw_calmG 16 true 70 rfl rfl rfl (lit_lt rfl) rfl rfl (lit_lt rfl) less_ (fun S' hS' => Calm.move rfl) ?_
          first | refine draw_skipG 16 true _ 70 rfl rfl rfl (lit_lt rfl) rfl rfl rfl (lit_lt rfl) less_ ?_ | refine draw_skipU 16 true 70 rfl rfl rfl (lit_lt rfl) rfl rfl (lit_lt rfl) less_ ?_ | refine draw_calmG 16 true 70 rfl rfl rfl (lit_lt rfl) rfl rfl (lit_lt rfl) less_ (fun S' hS' => Calm.bin rfl rfl (bin_bool b_eql (decide_eq_true rfl))) ?_
          refine draw_pure rfl rfl rfl rfl (lit_lt rfl) (fun _ => (by first | exact Calm.pickT rfl rfl | exact Calm.pickF rfl rfl)) ?_
          refine draw_pure rfl rfl rfl rfl (lit_lt rfl) (fun _ => Calm.move rfl) ?_
          first | refine draw_skipG 21 true _ 75 rfl rfl rfl (lit_lt rfl) rfl rfl rfl (lit_lt rfl) less_ ?_ | refine draw_skipU 21 true 75 rfl rfl rfl (lit_lt rfl) rfl rfl (lit_lt rfl) less_ ?_ | refine draw_calmG 21 true 75 rfl rfl rfl (lit_lt rfl) rfl rfl (lit_lt rfl) less_ (fun S' hS' => by obtain rfl := hS'.resolve_left (by decide); exact ldA_ (cs := [_, _, _]) ty_agg_49 ty_size_49 rfl) ?_
          first | refine draw_skipG 21 true _ 75 rfl rfl rfl (lit_lt rfl) rfl rfl rfl (lit_lt rfl) less_ ?_ | refine draw_skipU 21 true 75 rfl rfl rfl (lit_lt rfl) rfl rfl (lit_lt rfl) less_ ?_ | refine draw_calmG 21 true 75 rfl rfl rfl (lit_lt rfl) rfl rfl (lit_lt rfl) less_ (fun S' hS' => by obtain rfl := hS'.resolve_left (by decide); exact ldA_ (cs := [_, _, _]) ty_agg_49 ty_size_49 rfl) ?_
          refine draw_only rfl ?_
          refine ARun.callG 21 true 75 rfl (lit_lt rfl) rfl (lit_lt rfl) go_35 rfl (selV_Check _ _ _ _ _ z' hv) ?_
          rintro _ S6 ⟨rfl, h1⟩
          rw [h1]; clear h1 S6
          refine arun_nil ⟨fun _ => less_, ?_⟩
          refine draw_only rfl ?_
          refine ARun.callG 21 true 75 rfl (lit_lt rfl) rfl (lit_lt rfl) go_36 rfl (rselV_Check _ _ _ _ _ z' hv) ?_
          rintro _ S6 ⟨rfl, h1⟩
          rw [h1]; clear h1 S6
          refine arun_nil ⟨fun _ => less_, ?_⟩
          first | refine draw_skipG 21 true _ 75 rfl rfl rfl (lit_lt rfl) rfl rfl rfl (lit_lt rfl) less_ ?_ | refine draw_skipU 21 true 75 rfl rfl rfl (lit_lt rfl) rfl rfl (lit_lt rfl) less_ ?_ | refine draw_calmG 21 true 75 rfl rfl rfl (lit_lt rfl) rfl rfl (lit_lt rfl) less_ (fun S' hS' => Calm.bin rfl rfl (bin_bool b_eql (decide_eq_true rfl))) ?_
          refine draw_pure rfl rfl rfl rfl (lit_lt rfl) (fun _ => (by first | exact Calm.pickT rfl rfl | exact Calm.pickF rfl rfl)) ?_
          refine draw_pure rfl rfl rfl rfl (lit_lt rfl) (fun _ => Calm.assign rfl) ?_
          refine draw_nil ?_
          refine athen_n ?_
          refine AWP.sub [(0, _), (1, _), (2, _), (3, _), (5, _), (6, _), (32, _), (7, _), (8, _), (9, _), (10, _), (11, _), (12, _), (13, _), (14, _)] ⟨rfl, rfl, rfl, rfl, rfl, rfl, rfl, rfl, rfl, rfl, rfl, rfl, rfl, rfl, rfl, trivial⟩ ?_
          refine AWP.ret ?_
          refine ⟨_, _, ⟨_, _, rfl, rfl, rfl⟩, less_, ?_⟩
          rfl
      · refine AWP.seq ?_
        refine AWP.seq ?_
        refine AWP.region ?_
        refine rC (Calm.move rfl) ?_
        refine rC (Calm.lenSl Try.underlying43 rfl) ?_
        refine rC (Calm.bin rfl rfl b_gtr) ?_
        refine rC (Calm.move rfl) ?_
        first | refine rS 18 ?_ | refine rU 18 ?_ | refine rG 18 (Calm.move rfl) ?_
        first | refine rS 18 ?_ | refine rU 18 ?_ | refine rG 18 (Calm.lenSl Try.underlying43 rfl) ?_
        first | refine rS 18 ?_ | refine rU 18 ?_ | refine rG 18 (Calm.bin rfl rfl b_leq) ?_
        refine rC ((by first | exact Calm.pickT rfl rfl | exact Calm.pickF rfl rfl)) ?_
        refine rC (Calm.move rfl) ?_
        first | refine rS 23 ?_ | refine rU 23 ?_ | refine rG 23 (Calm.fieldAddr ty_field_47_1 rfl) ?_
        first | refine rS 23 ?_ | refine rU 23 ?_ | refine rG 23 (ld_ ty_plain_3 rfl) ?_
        first | refine rS 23 ?_ | refine rU 23 ?_ | refine rG 23 (Calm.bin rfl rfl b_gtr) ?_
        first | refine rS 23 ?_ | refine rU 23 ?_ | refine rG 23 (Calm.move rfl) ?_
        first | refine rS 27 ?_ | refine rU 27 ?_ | refine rG 27 (Calm.fieldAddr ty_field_47_1 rfl) ?_
        first | refine rS 27 ?_ | refine rU 27 ?_ | refine rG 27 (ld_ ty_plain_3 rfl) ?_
        first | refine rS 27 ?_ | refine rU 27 ?_ | refine rG 27 (Calm.bin rfl rfl b_leq) ?_
        first | refine rS 23 ?_ | refine rU 23 ?_ | refine rG 23 ((by first | exact Calm.pickT rfl rfl | exact Calm.pickF rfl rfl)) ?_
        refine rC ((by first | exact Calm.pickT rfl rfl | exact Calm.pickF rfl rfl)) ?_
        refine arun_nil ?_
        refine athen_n ?_
        refine AWP.sub [(0, _), (1, _), (2, _), (3, _), (5, _), (6, _), (32, _)] ⟨rfl, rfl, rfl, rfl, rfl, rfl, rfl, trivial⟩ ?_
        refine AWP.condF rfl (by first | rfl | (simp; done) | (simp; omega)) ?_
        refine AWP.skip ?_
        refine athen_n ?_
        refine AWP.seq ?_
        refine AWP.region ?_
        refine rC (ldA_ (cs := [_, _]) ty_agg_47 ty_size_47 rfl) ?_
        refine ARun.call (lit_lt rfl) go_30 rfl (selV_Make s N _ z) ?_
        rintro _ S2 hr2
        obtain ⟨pa2, ca2, rfl, hS2, hv2⟩ := hr2.slices
        replace hv := hv.less hS2
        replace hL := hL.less hS2
        replace kb3 := hS2.own kb3
        replace kb5 := hS2.own kb5
        refine rC (Calm.move rfl) ?_
        refine rC (Calm.extract rfl rfl) ?_
        refine rC (Calm.extract rfl rfl) ?_
        refine ARun.alloc (lit_lt rfl) ty_zero_49 ?_
        intro b7 f7
        have g7 := f7
        repeat ((with_reducible replace g7 := fresh_set g7); obtain ⟨g7, _⟩ := g7)
        (try simp only [List.length_cons, List.length_nil, Nat.zero_add, Nat.reduceAdd])
        first | refine ARun.storeAll rfl rfl ty_size_49 own_ rfl rfl ?_ | refine ARun.store rfl rfl ty_size_49 own_ lens_ rfl ?_
        (try simp only [Mem.set_set, List.set_cons_zero, List.set_cons_succ, Nat.zero_add, Nat.reduceAdd])
        refine rC (Calm.assign rfl) ?_
        refine arun_nil ?_
        refine athen_n ?_
        refine AWP.sub [(0, _), (1, _), (2, _), (3, _), (5, _), (6, _), (32, _), (7, _), (8, _)] ⟨rfl, rfl, rfl, rfl, rfl, rfl, rfl, rfl, rfl, trivial⟩ ?_
        refine named (S := S2) (b := b7) g7.1 ?_
        intro T7 hT7 kb7
        replace hv := hv.less hT7
        replace hL := hL.less hT7
        replace kb3 := hT7.own kb3
        replace kb5 := hT7.own kb5
        replace hv2 := hv2.less hT7
        refine AWP.seq ?_
        refine AWP.region ?_
        refine rC (ldA_ (cs := [_, _]) ty_agg_47 ty_size_47 rfl) ?_
        refine ARun.call (lit_lt rfl) go_31 rfl (rselV_Make s N _ z) ?_
        rintro _ S3 hr3
        obtain ⟨pa3, ca3, rfl, hS3, hv3⟩ := hr3.slices
        replace hv := hv.less hS3
        replace hL := hL.less hS3
        replace kb3 := hS3.own kb3
        replace kb5 := hS3.own kb5
        replace hv2 := hv2.less hS3
        replace kb7 := hS3.own kb7
        refine rC (Calm.move rfl) ?_
        refine rC (Calm.extract rfl rfl) ?_
        refine rC (Calm.extract rfl rfl) ?_
        refine ARun.alloc (lit_lt rfl) ty_zero_49 ?_
        intro b9 f9
        have g9 := f9
        repeat ((with_reducible replace g9 := fresh_set g9); obtain ⟨g9, _⟩ := g9)
        (try simp only [List.length_cons, List.length_nil, Nat.zero_add, Nat.reduceAdd])
        first | refine ARun.storeAll rfl rfl ty_size_49 own_ rfl rfl ?_ | refine ARun.store rfl rfl ty_size_49 own_ lens_ rfl ?_
        (try simp only [Mem.set_set, List.set_cons_zero, List.set_cons_succ, Nat.zero_add, Nat.reduceAdd])
        refine rC (Calm.assign rfl) ?_
        refine arun_nil ?_
        refine athen_n ?_
        refine AWP.sub [(0, _), (1, _), (2, _), (3, _), (5, _), (6, _), (32, _), (7, _), (8, _), (9, _), (10, _)] ⟨rfl, rfl, rfl, rfl, rfl, rfl, rfl, rfl, rfl, rfl, rfl, trivial⟩ ?_
        refine named (S := S3) (b := b9) g9.1 ?_
        intro T9 hT9 kb9
        replace hv := hv.less hT9
        replace hL := hL.less hT9
        replace kb3 := hT9.own kb3
        replace kb5 := hT9.own kb5
        replace hv2 := hv2.less hT9
        replace kb7 := hT9.own kb7
        replace hv3 := hv3.less hT9
        refine AWP.seq ?_
        refine AWP.region ?_
        refine rC (Calm.move rfl) ?_
        refine ARun.call (lit_lt rfl) go_32 rfl (selV_OfS _ L _ hL) ?_
        rintro _ S4 hr4
        obtain ⟨pa4, ca4, rfl, hS4, hv4⟩ := hr4.slices
        replace hv := hv.less hS4
        replace hL := hL.less hS4
        replace kb3 := hS4.own kb3
        replace kb5 := hS4.own kb5
        replace hv2 := hv2.less hS4
        replace kb7 := hS4.own kb7
        replace hv3 := hv3.less hS4
        replace kb9 := hS4.own kb9
        refine rC (Calm.move rfl) ?_
        refine rC (Calm.extract rfl rfl) ?_
        refine rC (Calm.extract rfl rfl) ?_
        refine ARun.alloc (lit_lt rfl) ty_zero_49 ?_
        intro b11 f11
        have g11 := f11
        repeat ((with_reducible replace g11 := fresh_set g11); obtain ⟨g11, _⟩ := g11)
        (try simp only [List.length_cons, List.length_nil, Nat.zero_add, Nat.reduceAdd])
        first | refine ARun.storeAll rfl rfl ty_size_49 own_ rfl rfl ?_ | refine ARun.store rfl rfl ty_size_49 own_ lens_ rfl ?_
        (try simp only [Mem.set_set, List.set_cons_zero, List.set_cons_succ, Nat.zero_add, Nat.reduceAdd])
        refine rC (Calm.assign rfl) ?_
        refine arun_nil ?_
        refine athen_n ?_
        refine AWP.sub [(0, _), (1, _), (2, _), (3, _), (5, _), (6, _), (32, _), (7, _), (8, _), (9, _), (10, _), (11, _), (12, _)] ⟨rfl, rfl, rfl, rfl, rfl, rfl, rfl, rfl, rfl, rfl, rfl, rfl, rfl, trivial⟩ ?_
        refine named (S := S4) (b := b11) g11.1 ?_
        intro T11 hT11 kb11
        replace hv := hv.less hT11
        replace hL := hL.less hT11
        replace kb3 := hT11.own kb3
        replace kb5 := hT11.own kb5
        replace hv2 := hv2.less hT11
        replace kb7 := hT11.own kb7
        replace hv3 := hv3.less hT11
        replace kb9 := hT11.own kb9
        replace hv4 := hv4.less hT11
        refine AWP.seq ?_
        refine AWP.region ?_
        refine rC (Calm.move rfl) ?_
        refine ARun.call (lit_lt rfl) go_33 rfl (rselV_OfS _ L _ hL) ?_
        rintro _ S5 hr5
        obtain ⟨pa5, ca5, rfl, hS5, hv5⟩ := hr5.slices
        replace hv := hv.less hS5
        replace hL := hL.less hS5
        replace kb3 := hS5.own kb3
        replace kb5 := hS5.own kb5
        replace hv2 := hv2.less hS5
        replace kb7 := hS5.own kb7
        replace hv3 := hv3.less hS5
        replace kb9 := hS5.own kb9
        replace hv4 := hv4.less hS5
        replace kb11 := hS5.own kb11
        refine rC (Calm.move rfl) ?_
        refine rC (Calm.extract rfl rfl) ?_
        refine rC (Calm.extract rfl rfl) ?_
        refine ARun.alloc (lit_lt rfl) ty_zero_49 ?_
        intro b13 f13
        have g13 := f13
        repeat ((with_reducible replace g13 := fresh_set g13); obtain ⟨g13, _⟩ := g13)
        (try simp only [List.length_cons, List.length_nil, Nat.zero_add, Nat.reduceAdd])
        first | refine ARun.storeAll rfl rfl ty_size_49 own_ rfl rfl ?_ | refine ARun.store rfl rfl ty_size_49 own_ lens_ rfl ?_
        (try simp only [Mem.set_set, List.set_cons_zero, List.set_cons_succ, Nat.zero_add, Nat.reduceAdd])
        refine rC (Calm.assign rfl) ?_
        refine arun_nil ?_
        refine athen_n ?_
        refine AWP.sub [(0, _), (1, _), (2, _), (3, _), (5, _), (6, _), (32, _), (7, _), (8, _), (9, _), (10, _), (11, _), (12, _), (13, _), (14, _)] ⟨rfl, rfl, rfl, rfl, rfl, rfl, rfl, rfl, rfl, rfl, rfl, rfl, rfl, rfl, rfl, trivial⟩ ?_
        refine named (S := S5) (b := b13) g13.1 ?_
        intro T13 hT13 kb13
        replace hv := hv.less hT13
        replace hL := hL.less hT13
        replace kb3 := hT13.own kb3
        replace kb5 := hT13.own kb5
        replace hv2 := hv2.less hT13
        replace kb7 := hT13.own kb7
        replace hv3 := hv3.less hT13
        replace kb9 := hT13.own kb9
        replace hv4 := hv4.less hT13
        replace kb11 := hT13.own kb11
        replace hv5 := hv5.less hT13
        refine AWP.seq ?_
        refine AWP.draw [(0, false), (1, true), (2, true), (3, true), (4, false), (5, true), (6, true), (7, true), (8, true), (9, true), (10, true), (11, true), (12, true), (13, true), (14, false), (15, true), (16, true), (17, true), (18, true), (19, true), (20, true), (21, true), (22, true), (24, true), (23, false), (25, false), (26, true), (27, true), (28, true)] [] mixed (by kernel_rfl) ?_
        refine draw_only rfl ?_
        refine ARun.call (lit_lt rfl) go_29 rfl (selV_lives _) ?_
        rintro _ S6 ⟨rfl, h1⟩
        rw [h1]; clear h1 S6
        refine arun_nil ⟨fun _ => less_, ?_⟩
        refine draw_pure rfl rfl rfl rfl (lit_lt rfl) (fun _ => Calm.move rfl) ?_
        first | refine draw_skipG 1 true _ 55 rfl rfl rfl (lit_lt rfl) rfl rfl rfl (lit_lt rfl) less_ ?_ | refine draw_skipU 1 true 55 rfl rfl rfl (lit_lt rfl) rfl rfl (lit_lt rfl) less_ ?_ | refine draw_calmG 1 true 55 rfl rfl rfl (lit_lt rfl) rfl rfl (lit_lt rfl) less_ (fun S' hS' => by obtain rfl := hS'.resolve_left (by decide); exact ldA_ (cs := [_, _, _]) ty_agg_49 ty_size_49 rfl) ?_
        first | refine draw_skipG 1 true _ 55 rfl rfl rfl (lit_lt rfl) rfl rfl rfl (lit_lt rfl) less_ ?_ | refine draw_skipU 1 true 55 rfl rfl rfl (lit_lt rfl) rfl rfl (lit_lt rfl) less_ ?_ | refine draw_calmG 1 true 55 rfl rfl rfl (lit_lt rfl) rfl rfl (lit_lt rfl) less_ (fun S' hS' => by obtain rfl := hS'.resolve_left (by decide); exact ldA_ (cs := [_, _, _]) ty_agg_49 ty_size_49 rfl) ?_
        refine draw_only rfl ?_
        refine ARun.callG 1 true 55 rfl (lit_lt rfl) rfl (lit_lt rfl) go_34 rfl (rselV_Same _ _ _ _ _ _ _ _ _ hv2 hv3) ?_
        rintro _ S6 ⟨rfl, h1⟩
        rw [h1, and_same ⟨rfl, rfl⟩ rfl]; clear h1 S6
        refine arun_nil ⟨fun _ => less_, ?_⟩
        refine draw_pure rfl rfl rfl rfl (lit_lt rfl) (fun _ => (by first | exact Calm.pickT rfl rfl | exact Calm.pickF rfl rfl)) ?_
        refine draw_pure rfl rfl rfl rfl (lit_lt rfl) (fun _ => Calm.move rfl) ?_
        first | refine draw_skipG 6 true _ 60 rfl rfl rfl (lit_lt rfl) rfl rfl rfl (lit_lt rfl) less_ ?_ | refine draw_skipU 6 true 60 rfl rfl rfl (lit_lt rfl) rfl rfl (lit_lt rfl) less_ ?_ | refine draw_calmG 6 true 60 rfl rfl rfl (lit_lt rfl) rfl rfl (lit_lt rfl) less_ (fun S' hS' => Calm.move rfl) ?_
        first | refine draw_skipG 6 true _ 60 rfl rfl rfl (lit_lt rfl) rfl rfl rfl (lit_lt rfl) less_ ?_ | refine draw_skipU 6 true 60 rfl rfl rfl (lit_lt rfl) rfl rfl (lit_lt rfl) less_ ?_ | refine draw_calmG 6 true 60 rfl rfl rfl (lit_lt rfl) rfl rfl (lit_lt rfl) less_ (fun S' hS' => Calm.move rfl) ?_
        first | refine draw_skipG 6 true _ 60 rfl rfl rfl (lit_lt rfl) rfl rfl rfl (lit_lt rfl) less_ ?_ | refine draw_skipU 6 true 60 rfl rfl rfl (lit_lt rfl) rfl rfl (lit_lt rfl) less_ ?_ | refine draw_calmG 6 true 60 rfl rfl rfl (lit_lt rfl) rfl rfl (lit_lt rfl) less_ (fun S' hS' => Calm.bin rfl rfl (bin_bool b_eql (decide_eq_true rfl))) ?_
        refine draw_pure rfl rfl rfl rfl (lit_lt rfl) (fun _ => (by first | exact Calm.pickT rfl rfl | exact Calm.pickF rfl rfl)) ?_
        refine draw_pure rfl rfl rfl rfl (lit_lt rfl) (fun _ => Calm.move rfl) ?_
        first | refine draw_skipG 11 true _ 65 rfl rfl rfl (lit_lt rfl) rfl rfl rfl (lit_lt rfl) less_ ?_ | refine draw_skipU 11 true 65 rfl rfl rfl (lit_lt rfl) rfl rfl (lit_lt rfl) less_ ?_ | refine draw_calmG 11 true 65 rfl rfl rfl (lit_lt rfl) rfl rfl (lit_lt rfl) less_ (fun S' hS' => by obtain rfl := hS'.resolve_left (by decide); exact ldA_ (cs := [_, _, _]) ty_agg_49 ty_size_49 rfl) ?_
        first | refine draw_skipG 11 true _ 65 rfl rfl rfl (lit_lt rfl) rfl rfl rfl (lit_lt rfl) less_ ?_ | refine draw_skipU 11 true 65 rfl rfl rfl (lit_lt rfl) rfl rfl (lit_lt rfl) less_ ?_ | refine draw_calmG 11 true 65 rfl rfl rfl (lit_lt rfl) rfl rfl (lit_lt rfl) less_ (fun S' hS' => by obtain rfl := hS'.resolve_left (by decide); exact ldA_ (cs := [_, _, _]) ty_agg_49 ty_size_49 rfl) ?_
        refine draw_only rfl ?_
        refine ARun.callG 11 true 65 rfl (lit_lt rfl) rfl (lit_lt rfl) go_34 rfl (rselV_Same _ _ _ _ _ _ _ _ _ hv4 hv5) ?_
        rintro _ S6 ⟨rfl, h1⟩
        rw [h1, and_same ⟨rfl, rfl⟩ rfl]; clear h1 S6
        refine arun_nil ⟨fun _ => less_, ?_⟩
        refine draw_pure rfl rfl rfl rfl (lit_lt rfl) (fun _ => (by first | exact Calm.pickT rfl rfl | exact Calm.pickF rfl rfl)) ?_
        refine draw_pure rfl rfl rfl rfl (lit_lt rfl) (fun _ => Calm.move rfl) ?_
        first | refine draw_skipG 16 true _ 70 rfl rfl rfl (lit_lt rfl) rfl rfl rfl (lit_lt rfl) less_ ?_ | refine draw_skipU 16 true 70 rfl rfl rfl (lit_lt rfl) rfl rfl (lit_lt rfl) less_ ?_ | refine draw_calmG 16 true 70 rfl rfl rfl (lit_lt rfl) rfl rfl (lit_lt rfl) less_ (fun S' hS' => Calm.move rfl) ?_
        first | refine draw_skipG 16 true _ 70 rfl rfl rfl (lit_lt rfl) rfl rfl rfl (lit_lt rfl) less_ ?_ | refine draw_skipU 16 true 70 rfl rfl rfl (lit_lt rfl) rfl rfl (lit_lt rfl) less_ ?_ | refine draw_calmG 16 true 70 rfl rfl rfl (lit_lt rfl) rfl rfl (lit_lt rfl) less_ (fun S' hS' => Calm.move rfl) ?_
        first | refine draw_skipG 16 true _ 70 rfl rfl rfl (lit_lt rfl) rfl rfl rfl (lit_lt rfl) less_ ?_ | refine draw_skipU 16 true 70 rfl rfl rfl (lit_lt rfl) rfl rfl (lit_lt rfl) less_ ?_ | refine draw_calmG 16 true 70 rfl rfl rfl (lit_lt rfl) rfl rfl (lit_lt rfl) less_ (fun S' hS' => Calm.bin rfl rfl (bin_bool b_eql (decide_eq_true rfl))) ?_
        refine draw_pure rfl rfl rfl rfl (lit_lt rfl) (fun _ => (by first | exact Calm.pickT rfl rfl | exact Calm.pickF rfl rfl)) ?_
        refine draw_pure rfl rfl rfl rfl (lit_lt rfl) (fun _ => Calm.move rfl) ?_
        first | refine draw_skipG 21 true _ 75 rfl rfl rfl (lit_lt rfl) rfl rfl rfl (lit_lt rfl) less_ ?_ | refine draw_skipU 21 true 75 rfl rfl rfl (lit_lt rfl) rfl rfl (lit_lt rfl) less_ ?_ | refine draw_calmG 21 true 75 rfl rfl rfl (lit_lt rfl) rfl rfl (lit_lt rfl) less_ (fun S' hS' => by obtain rfl := hS'.resolve_left (by decide); exact ldA_ (cs := [_, _, _]) ty_agg_49 ty_size_49 rfl) ?_
        first | refine draw_skipG 21 true _ 75 rfl rfl rfl (lit_lt rfl) rfl rfl rfl (lit_lt rfl) less_ ?_ | refine draw_skipU 21 true 75 rfl rfl rfl (lit_lt rfl) rfl rfl (lit_lt rfl) less_ ?_ | refine draw_calmG 21 true 75 rfl rfl rfl (lit_lt rfl) rfl rfl (lit_lt rfl) less_ (fun S' hS' => by obtain rfl := hS'.resolve_left (by decide); exact ldA_ (cs := [_, _, _]) ty_agg_49 ty_size_49 rfl) ?_
        refine draw_only rfl ?_
        refine ARun.callG 21 true 75 rfl (lit_lt rfl) rfl (lit_lt rfl) go_35 rfl (selV_Check _ _ _ _ _ z' hv) ?_
        rintro _ S6 ⟨rfl, h1⟩
        rw [h1]; clear h1 S6
        refine arun_nil ⟨fun _ => less_, ?_⟩
        refine draw_only rfl ?_
        refine ARun.callG 21 true 75 rfl (lit_lt rfl) rfl (lit_lt rfl) go_36 rfl (rselV_Check _ _ _ _ _ z' hv) ?_
        rintro _ S6 ⟨rfl, h1⟩
        rw [h1]; clear h1 S6
        refine arun_nil ⟨fun _ => less_, ?_⟩
        first | refine draw_skipG 21 true _ 75 rfl rfl rfl (lit_lt rfl) rfl rfl rfl (lit_lt rfl) less_ ?_ | refine draw_skipU 21 true 75 rfl rfl rfl (lit_lt rfl) rfl rfl (lit_lt rfl) less_ ?_ | refine draw_calmG 21 true 75 rfl rfl rfl (lit_lt rfl) rfl rfl (lit_lt rfl) less_ (fun S' hS' => Calm.bin rfl rfl (bin_bool b_eql (decide_eq_true rfl))) ?_
        refine draw_pure rfl rfl rfl rfl (lit_lt rfl) (fun _ => (by first | exact Calm.pickT rfl rfl | exact Calm.pickF rfl rfl)) ?_
        refine draw_pure rfl rfl rfl rfl (lit_lt rfl) (fun _ => Calm.assign rfl) ?_
        refine draw_nil ?_
        refine athen_n ?_
        refine AWP.sub [(0, _), (1, _), (2, _), (3, _), (5, _), (6, _), (32, _), (7, _), (8, _), (9, _), (10, _), (11, _), (12, _), (13, _), (14, _)] ⟨rfl, rfl, rfl, rfl, rfl, rfl, rfl, rfl, rfl, rfl, rfl, rfl, rfl, rfl, rfl, trivial⟩ ?_
        refine AWP.ret ?_
        refine ⟨_, _, ⟨_, _, rfl, rfl, rfl⟩, less_, ?_⟩
        rfl
  · by_cases h3 : 3000 < N
    · by_cases h4 : N ≤ 1048576
      · refine AWP.seq ?_
        refine AWP.seq ?_
        refine AWP.region ?_
        refine rC (Calm.move rfl) ?_
        refine rC (Calm.lenSl Try.underlying43 rfl) ?_
        refine rC (Calm.bin rfl rfl b_gtr) ?_
        refine rC (Calm.move rfl) ?_
        first | refine rS 18 ?_ | refine rU 18 ?_ | refine rG 18 (Calm.move rfl) ?_
        first | refine rS 18 ?_ | refine rU 18 ?_ | refine rG 18 (Calm.lenSl Try.underlying43 rfl) ?_
        first | refine rS 18 ?_ | refine rU 18 ?_ | refine rG 18 (Calm.bin rfl rfl b_leq) ?_
        refine rC ((by first | exact Calm.pickT rfl rfl | exact Calm.pickF rfl rfl)) ?_
        refine rC (Calm.move rfl) ?_
        first | refine rS 23 ?_ | refine rU 23 ?_ | refine rG 23 (Calm.fieldAddr ty_field_47_1 rfl) ?_
        first | refine rS 23 ?_ | refine rU 23 ?_ | refine rG 23 (ld_ ty_plain_3 rfl) ?_
        first | refine rS 23 ?_ | refine rU 23 ?_ | refine rG 23 (Calm.bin rfl rfl b_gtr) ?_
        first | refine rS 23 ?_ | refine rU 23 ?_ | refine rG 23 (Calm.move rfl) ?_
        first | refine rS 27 ?_ | refine rU 27 ?_ | refine rG 27 (Calm.fieldAddr ty_field_47_1 rfl) ?_
        first | refine rS 27 ?_ | refine rU 27 ?_ | refine rG 27 (ld_ ty_plain_3 rfl) ?_
        first | refine rS 27 ?_ | refine rU 27 ?_ | refine rG 27 (Calm.bin rfl rfl b_leq) ?_
        first | refine rS 23 ?_ | refine rU 23 ?_ | refine rG 23 ((by first | exact Calm.pickT rfl rfl | exact Calm.pickF rfl rfl)) ?_
        refine rC ((by first | exact Calm.pickT rfl rfl | exact Calm.pickF rfl rfl)) ?_
        refine arun_nil ?_
        refine athen_n ?_
        refine AWP.sub [(0, _), (1, _), (2, _), (3, _), (5, _), (6, _), (32, _)] ⟨rfl, rfl, rfl, rfl, rfl, rfl, rfl, trivial⟩ ?_
        refine AWP.condT rfl (by first | rfl | (simp; done) | (simp; omega)) ?_
        refine AWP.seq ?_
        refine AWP.region ?_
        refine ARun.call (lit_lt rfl) go_29 rfl (selV_lives _) ?_
        rintro _ S2 ⟨rfl, h1⟩
        rw [h1]; clear h1 S2
        refine rC (Calm.assign rfl) ?_
        refine arun_nil ?_
        refine athen_n ?_
        refine AWP.sub [(0, _), (1, _), (2, _), (3, _), (5, _), (6, _), (32, _)] ⟨rfl, rfl, rfl, rfl, rfl, rfl, rfl, trivial⟩ ?_
        refine AWP.ret ?_
        refine athen_ret ?_
        refine ⟨_, _, ⟨_, _, rfl, rfl, rfl⟩, less_, ?_⟩
        rfl
      · refine AWP.seq ?_
        refine AWP.seq ?_
        refine AWP.region ?_
        refine rC (Calm.move rfl) ?_
        refine rC (Calm.lenSl Try.underlying43 rfl) ?_
        refine rC (Calm.bin rfl rfl b_gtr) ?_
        refine rC (Calm.move rfl) ?_
        first | refine rS 18 ?_ | refine rU 18 ?_ | refine rG 18 (Calm.move rfl) ?_
        first | refine rS 18 ?_ | refine rU 18 ?_ | refine rG 18 (Calm.lenSl Try.underlying43 rfl) ?_
        first | refine rS 18 ?_ | refine rU 18 ?_ | refine rG 18 (Calm.bin rfl rfl b_leq) ?_
        refine rC ((by first | exact Calm.pickT rfl rfl | exact Calm.pickF rfl rfl)) ?_
        refine rC (Calm.move rfl) ?_
        first | refine rS 23 ?_ | refine rU 23 ?_ | refine rG 23 (Calm.fieldAddr ty_field_47_1 rfl) ?_
        first | refine rS 23 ?_ | refine rU 23 ?_ | refine rG 23 (ld_ ty_plain_3 rfl) ?_
        first | refine rS 23 ?_ | refine rU 23 ?_ | refine rG 23 (Calm.bin rfl rfl b_gtr) ?_
        first | refine rS 23 ?_ | refine rU 23 ?_ | refine rG 23 (Calm.move rfl) ?_
        first | refine rS 27 ?_ | refine rU 27 ?_ | refine rG 27 (Calm.fieldAddr ty_field_47_1 rfl) ?_
        first | refine rS 27 ?_ | refine rU 27 ?_ | refine rG 27 (ld_ ty_plain_3 rfl) ?_
        first | refine rS 27 ?_ | refine rU 27 ?_ | refine rG 27 (Calm.bin rfl rfl b_leq) ?_
        first | refine rS 23 ?_ | refine rU 23 ?_ | refine rG 23 ((by first | exact Calm.pickT rfl rfl | exact Calm.pickF rfl rfl)) ?_
        refine rC ((by first | exact Calm.pickT rfl rfl | exact Calm.pickF rfl rfl)) ?_
        refine arun_nil ?_
        refine athen_n ?_
        refine AWP.sub [(0, _), (1, _), (2, _), (3, _), (5, _), (6, _), (32, _)] ⟨rfl, rfl, rfl, rfl, rfl, rfl, rfl, trivial⟩ ?_
        refine AWP.condF rfl (by first | rfl | (simp; done) | (simp; omega)) ?_
        refine AWP.skip ?_
        refine athen_n ?_
        refine AWP.seq ?_
        refine AWP.region ?_
        refine rC (ldA_ (cs := [_, _]) ty_agg_47 ty_size_47 rfl) ?_
        refine ARun.call (lit_lt rfl) go_30 rfl (selV_Make s N _ z) ?_
        rintro _ S2 hr2
        obtain ⟨pa2, ca2, rfl, hS2, hv2⟩ := hr2.slices
        replace hv := hv.less hS2
        replace hL := hL.less hS2
        replace kb3 := hS2.own kb3
        replace kb5 := hS2.own kb5
        refine rC (Calm.move rfl) ?_
        refine rC (Calm.extract rfl rfl) ?_
        refine rC (Calm.extract rfl rfl) ?_
        refine ARun.alloc (lit_lt rfl) ty_zero_49 ?_
        intro b7 f7
        have g7 := f7
        repeat ((with_reducible replace g7 := fresh_set g7); obtain ⟨g7, _⟩ := g7)
        (try simp only [List.length_cons, List.length_nil, Nat.zero_add, Nat.reduceAdd])
        first | refine ARun.storeAll rfl rfl ty_size_49 own_ rfl rfl ?_ | refine ARun.store rfl rfl ty_size_49 own_ lens_ rfl ?_
        (try simp only [Mem.set_set, List.set_cons_zero, List.set_cons_succ, Nat.zero_add, Nat.reduceAdd])
        refine rC (Calm.assign rfl) ?_
        refine arun_nil ?_
        refine athen_n ?_
        refine AWP.sub [(0, _), (1, _), (2, _), (3, _), (5, _), (6, _), (32, _), (7, _), (8, _)] ⟨rfl, rfl, rfl, rfl, rfl, rfl, rfl, rfl, rfl, trivial⟩ ?_
        refine named (S := S2) (b := b7) g7.1 ?_
        intro T7 hT7 kb7
        replace hv := hv.less hT7
        replace hL := hL.less hT7
        replace kb3 := hT7.own kb3
        replace kb5 := hT7.own kb5
        replace hv2 := hv2.less hT7
        refine AWP.seq ?_
        refine AWP.region ?_
        refine rC (ldA_ (cs := [_, _]) ty_agg_47 ty_size_47 rfl) ?_
        refine ARun.call (lit_lt rfl) go_31 rfl (rselV_Make s N _ z) ?_
        rintro _ S3 hr3
        obtain ⟨pa3, ca3, rfl, hS3, hv3⟩ := hr3.slices
        replace hv := hv.less hS3
        replace hL := hL.less hS3
        replace kb3 := hS3.own kb3
        replace kb5 := hS3.own kb5
        replace hv2 := hv2.less hS3
        replace kb7 := hS3.own kb7
        refine rC (Calm.move rfl) ?_
        refine rC (Calm.extract rfl rfl) ?_
        refine rC (Calm.extract rfl rfl) ?_
        refine ARun.alloc (lit_lt rfl) ty_zero_49 ?_
        intro b9 f9
        have g9 := f9
        repeat ((with_reducible replace g9 := fresh_set g9); obtain ⟨g9, _⟩ := g9)
        (try simp only [List.length_cons, List.length_nil, Nat.zero_add, Nat.reduceAdd])
        first | refine ARun.storeAll rfl rfl ty_size_49 own_ rfl rfl ?_ | refine ARun.store rfl rfl ty_size_49 own_ lens_ rfl ?_
        (try simp only [Mem.set_set, List.set_cons_zero, List.set_cons_succ, Nat.zero_add, Nat.reduceAdd])
        refine rC (Calm.assign rfl) ?_
        refine arun_nil ?_
        refine athen_n ?_
        refine AWP.sub [(0, _), (1, _), (2, _), (3, _), (5, _), (6, _), (32, _), (7, _), (8, _), (9, _), (10, _)] ⟨rfl, rfl, rfl, rfl, rfl, rfl, rfl, rfl, rfl, rfl, rfl, trivial⟩ ?_
        refine named (S := S3) (b := b9) g9.1 ?_
        intro T9 hT9 kb9
        replace hv := hv.less hT9
        replace hL := hL.less hT9
        replace kb3 := hT9.own kb3
        replace kb5 := hT9.own kb5
        replace hv2 := hv2.less hT9
        replace kb7 := hT9.own kb7
        replace hv3 := hv3.less hT9
        refine AWP.seq ?_
        refine AWP.region ?_
        refine rC (Calm.move rfl) ?_
        refine ARun.call (lit_lt rfl) go_32 rfl (selV_OfS _ L _ hL) ?_
        rintro _ S4 hr4
        obtain ⟨pa4, ca4, rfl, hS4, hv4⟩ := hr4.slices
        replace hv := hv.less hS4
        replace hL := hL.less hS4
        replace kb3 := hS4.own kb3
        replace kb5 := hS4.own kb5
        replace hv2 := hv2.less hS4
        replace kb7 := hS4.own kb7
        replace hv3 := hv3.less hS4
        replace kb9 := hS4.own kb9
        refine rC (Calm.move rfl) ?_
        refine rC (Calm.extract rfl rfl) ?_
        refine rC (Calm.extract rfl rfl) ?_
        refine ARun.alloc (lit_lt rfl) ty_zero_49 ?_
        intro b11 f11
        have g11 := f11
        repeat ((with_reducible replace g11 := fresh_set g11); obtain ⟨g11, _⟩ := g11)
        (try simp only [List.length_cons, List.length_nil, Nat.zero_add, Nat.reduceAdd])
        first | refine ARun.storeAll rfl rfl ty_size_49 own_ rfl rfl ?_ | refine ARun.store rfl rfl ty_size_49 own_ lens_ rfl ?_
        (try simp only [Mem.set_set, List.set_cons_zero, List.set_cons_succ, Nat.zero_add, Nat.reduceAdd])
        refine rC (Calm.assign rfl) ?_
        refine arun_nil ?_
        refine athen_n ?_
        refine AWP.sub [(0, _), (1, _), (2, _), (3, _), (5, _), (6, _), (32, _), (7, _), (8, _), (9, _), (10, _), (11, _), (12, _)] ⟨rfl, rfl, rfl, rfl, rfl, rfl, rfl, rfl, rfl, rfl, rfl, rfl, rfl, trivial⟩ ?_
        refine named (S := S4) (b := b11) g11.1 ?_
        intro T11 hT11 kb11
        replace hv := hv.less hT11
        replace hL := hL.less hT11
        replace kb3 := hT11.own kb3
        replace kb5 := hT11.own kb5
        replace hv2 := hv2.less hT11
        replace kb7 := hT11.own kb7
        replace hv3 := hv3.less hT11
        replace kb9 := hT11.own kb9
        replace hv4 := hv4.less hT11
        refine AWP.seq ?_
        refine AWP.region ?_
        refine rC (Calm.move rfl) ?_
        refine ARun.call (lit_lt rfl) go_33 rfl (rselV_OfS _ L _ hL) ?_
        rintro _ S5 hr5
        obtain ⟨pa5, ca5, rfl, hS5, hv5⟩ := hr5.slices
        replace hv := hv.less hS5
        replace hL := hL.less hS5
        replace kb3 := hS5.own kb3
        replace kb5 := hS5.own kb5
        replace hv2 := hv2.less hS5
        replace kb7 := hS5.own kb7
        replace hv3 := hv3.less hS5
        replace kb9 := hS5.own kb9
        replace hv4 := hv4.less hS5
        replace kb11 := hS5.own kb11
        refine rC (Calm.move rfl) ?_
        refine rC (Calm.extract rfl rfl) ?_
        refine rC (Calm.extract rfl rfl) ?_
        refine ARun.alloc (lit_lt rfl) ty_zero_49 ?_
        intro b13 f13
        have g13 := f13
        repeat ((with_reducible replace g13 := fresh_set g13); obtain ⟨g13, _⟩ := g13)
        (try simp only [List.length_cons, List.length_nil, Nat.zero_add, Nat.reduceAdd])
        first | refine ARun.storeAll rfl rfl ty_size_49 own_ rfl rfl ?_ | refine ARun.store rfl rfl ty_size_49 own_ lens_ rfl ?_
        (try simp only [Mem.set_set, List.set_cons_zero, List.set_cons_succ, Nat.zero_add, Nat.reduceAdd])
        refine rC (Calm.assign rfl) ?_
        refine arun_nil ?_
        refine athen_n ?_
        refine AWP.sub [(0, _), (1, _), (2, _), (3, _), (5, _), (6, _), (32, _), (7, _), (8, _), (9, _), (10, _), (11, _), (12, _), (13, _), (14, _)] ⟨rfl, rfl, rfl, rfl, rfl, rfl, rfl, rfl, rfl, rfl, rfl, rfl, rfl, rfl, rfl, trivial⟩ ?_
        refine named (S := S5) (b := b13) g13.1 ?_
        intro T13 hT13 kb13
        replace hv := hv.less hT13
        replace hL := hL.less hT13
        replace kb3 := hT13.own kb3
        replace kb5 := hT13.own kb5
        replace hv2 := hv2.less hT13
        replace kb7 := hT13.own kb7
        replace hv3 := hv3.less hT13
        replace kb9 := hT13.own kb9
        replace hv4 := hv4.less hT13
        replace kb11 := hT13.own kb11
        replace hv5 := hv5.less hT13
        refine AWP.seq ?_
        refine AWP.draw [(0, false), (1, true), (2, true), (3, true), (4, false), (5, true), (6, true), (7, true), (8, true), (9, true), (10, true), (11, true), (12, true), (13, true), (14, false), (15, true), (16, true), (17, true), (18, true), (19, true), (20, true), (21, true), (22, true), (24, true), (23, false), (25, false), (26, true), (27, true), (28, true)] [] mixed (by kernel_rfl) ?_
        refine draw_only rfl ?_
        refine ARun.call (lit_lt rfl) go_29 rfl (selV_lives _) ?_
        rintro _ S6 ⟨rfl, h1⟩
        rw [h1]; clear h1 S6
        refine arun_nil ⟨fun _ => less_, ?_⟩
        refine draw_pure rfl rfl rfl rfl (lit_lt rfl) (fun _ => Calm.move rfl) ?_
        first | refine draw_skipG 1 true _ 55 rfl rfl rfl (lit_lt rfl) rfl rfl rfl (lit_lt rfl) less_ ?_ | refine draw_skipU 1 true 55 rfl rfl rfl (lit_lt rfl) rfl rfl (lit_lt rfl) less_ ?_ | refine draw_calmG 1 true 55 rfl rfl rfl (lit_lt rfl) rfl rfl (lit_lt rfl) less_ (fun S' hS' => by obtain rfl := hS'.resolve_left (by decide); exact ldA_ (cs := [_, _, _]) ty_agg_49 ty_size_49 rfl) ?_
        first | refine draw_skipG 1 true _ 55 rfl rfl rfl (lit_lt rfl) rfl rfl rfl (lit_lt rfl) less_ ?_ | refine draw_skipU 1 true 55 rfl rfl rfl (lit_lt rfl) rfl rfl (lit_lt rfl) less_ ?_ | refine draw_calmG 1 true 55 rfl rfl rfl (lit_lt rfl) rfl rfl (lit_lt rfl) less_ (fun S' hS' => by obtain rfl := hS'.resolve_left (by decide); exact ldA_ (cs := [_, _, _]) ty_agg_49 ty_size_49 rfl) ?_
        refine draw_only rfl ?_
        refine ARun.callG 1 true 55 rfl (lit_lt rfl) rfl (lit_lt rfl) go_34 rfl (rselV_Same _ _ _ _ _ _ _ _ _ hv2 hv3) ?_
        rintro _ S6 ⟨rfl, h1⟩
        rw [h1, and_same ⟨rfl, rfl⟩ rfl]; clear h1 S6
        refine arun_nil ⟨fun _ => less_, ?_⟩
        refine draw_pure rfl rfl rfl rfl (lit_lt rfl) (fun _ => (by first | exact Calm.pickT rfl rfl | exact Calm.pickF rfl rfl)) ?_
        refine draw_pure rfl rfl rfl rfl (lit_lt rfl) (fun _ => Calm.move rfl) ?_
        first | refine draw_skipG 6 true _ 60 rfl rfl rfl (lit_lt rfl) rfl rfl rfl (lit_lt rfl) less_ ?_ | refine draw_skipU 6 true 60 rfl rfl rfl (lit_lt rfl) rfl rfl (lit_lt rfl) less_ ?_ | refine draw_calmG 6 true 60 rfl rfl rfl (lit_lt rfl) rfl rfl (lit_lt rfl) less_ (fun S' hS' => Calm.move rfl) ?_
        first | refine draw_skipG 6 true _ 60 rfl rfl rfl (lit_lt rfl) rfl rfl rfl (lit_lt rfl) less_ ?_ | refine draw_skipU 6 true 60 rfl rfl rfl (lit_lt rfl) rfl rfl (lit_lt rfl) less_ ?_ | refine draw_calmG 6 true 60 rfl rfl rfl (lit_lt rfl) rfl rfl (lit_lt rfl) less_ (fun S' hS' => Calm.move rfl) ?_
        first | refine draw_skipG 6 true _ 60 rfl rfl rfl (lit_lt rfl) rfl rfl rfl (lit_lt rfl) less_ ?_ | refine draw_skipU 6 true 60 rfl rfl rfl (lit_lt rfl) rfl rfl (lit_lt rfl) less_ ?_ | refine draw_calmG 6 true 60 rfl rfl rfl (lit_lt rfl) rfl rfl (lit_lt rfl) less_ (fun S' hS' => Calm.bin rfl rfl (bin_bool b_eql (decide_eq_true rfl))) ?_
        refine draw_pure rfl rfl rfl rfl (lit_lt rfl) (fun _ => (by first | exact Calm.pickT rfl rfl | exact Calm.pickF rfl rfl)) ?_
        refine draw_pure rfl rfl rfl rfl (lit_lt rfl) (fun _ => Calm.move rfl) ?_
        first | refine draw_skipG 11 true _ 65 rfl rfl rfl (lit_lt rfl) rfl rfl rfl (lit_lt rfl) less_ ?_ | refine draw_skipU 11 true 65 rfl rfl rfl (lit_lt rfl) rfl rfl (lit_lt rfl) less_ ?_ | refine draw_calmG 11 true 65 rfl rfl rfl (lit_lt rfl) rfl rfl (lit_lt rfl) less_ (fun S' hS' => by obtain rfl := hS'.resolve_left (by decide); exact ldA_ (cs := [_, _, _]) ty_agg_49 ty_size_49 rfl) ?_
        first | refine draw_skipG 11 true _ 65 rfl rfl rfl (lit_lt rfl) rfl rfl rfl (lit_lt rfl) less_ ?_ | refine draw_skipU 11 true 65 rfl rfl rfl (lit_lt rfl) rfl rfl (lit_lt rfl) less_ ?_ | refine draw_calmG 11 true 65 rfl rfl rfl (lit_lt rfl) rfl rfl (lit_lt rfl) less_ (fun S' hS' => by obtain rfl := hS'.resolve_left (by decide); exact ldA_ (cs := [_, _, _]) ty_agg_49 ty_size_49 rfl) ?_
        refine draw_only rfl ?_
        refine ARun.callG 11 true 65 rfl (lit_lt rfl) rfl (lit_lt rfl) go_34 rfl (rselV_Same _ _ _ _ _ _ _ _ _ hv4 hv5) ?_
        rintro _ S6 ⟨rfl, h1⟩
        rw [h1, and_same ⟨rfl, rfl⟩ rfl]; clear h1 S6
        refine arun_nil ⟨fun _ => less_, ?_⟩
        refine draw_pure rfl rfl rfl rfl (lit_lt rfl) (fun _ => (by first | exact Calm.pickT rfl rfl | exact Calm.pickF rfl rfl)) ?_
        refine draw_pure rfl rfl rfl rfl (lit_lt rfl) (fun _ => Calm.move rfl) ?_
        first | refine draw_skipG 16 true _ 70 rfl rfl rfl (lit_lt rfl) rfl rfl rfl (lit_lt rfl) less_ ?_ | refine draw_skipU 16 true 70 rfl rfl rfl (lit_lt rfl) rfl rfl (lit_lt rfl) less_ ?_ | refine draw_calmG 16 true 70 rfl rfl rfl (lit_lt rfl) rfl rfl (lit_lt rfl) less_ (fun S' hS' => Calm.move rfl) ?_
        first | refine draw_skipG 16 true _ 70 rfl rfl rfl (lit_lt rfl) rfl rfl rfl (lit_lt rfl) less_ ?_ | refine draw_skipU 16 true 70 rfl rfl rfl (lit_lt rfl) rfl rfl (lit_lt rfl) less_ ?_ | refine draw_calmG 16 true 70 rfl rfl rfl (lit_lt rfl) rfl rfl (lit_lt rfl) less_ (fun S' hS' => Calm.move rfl) ?_
        first | refine draw_skipG 16 true _ 70 rfl rfl rfl (lit_lt rfl) rfl rfl rfl (lit_lt rfl) less_ ?_ | refine draw_skipU 16 true 70 rfl rfl rfl (lit_lt rfl) rfl rfl (lit_lt rfl) less_ ?_ | refine draw_calmG 16 true 70 rfl rfl rfl (lit_lt rfl) rfl rfl (lit_lt rfl) less_ (fun S' hS' => Calm.bin rfl rfl (bin_bool b_eql (decide_eq_true rfl))) ?_
        refine draw_pure rfl rfl rfl rfl (lit_lt rfl) (fun _ => (by first | exact Calm.pickT rfl rfl | exact Calm.pickF rfl rfl)) ?_
        refine draw_pure rfl rfl rfl rfl (lit_lt rfl) (fun _ => Calm.move rfl) ?_
        first | refine draw_skipG 21 true _ 75 rfl rfl rfl (lit_lt rfl) rfl rfl rfl (lit_lt rfl) less_ ?_ | refine draw_skipU 21 true 75 rfl rfl rfl (lit_lt rfl) rfl rfl (lit_lt rfl) less_ ?_ | refine draw_calmG 21 true 75 rfl rfl rfl (lit_lt rfl) rfl rfl (lit_lt rfl) less_ (fun S' hS' => by obtain rfl := hS'.resolve_left (by decide); exact ldA_ (cs := [_, _, _]) ty_agg_49 ty_size_49 rfl) ?_
        first | refine draw_skipG 21 true _ 75 rfl rfl rfl (lit_lt rfl) rfl rfl rfl (lit_lt rfl) less_ ?_ | refine draw_skipU 21 true 75 rfl rfl rfl (lit_lt rfl) rfl rfl (lit_lt rfl) less_ ?_ | refine draw_calmG 21 true 75 rfl rfl rfl (lit_lt rfl) rfl rfl (lit_lt rfl) less_ (fun S' hS' => by obtain rfl := hS'.resolve_left (by decide); exact ldA_ (cs := [_, _, _]) ty_agg_49 ty_size_49 rfl) ?_
        refine draw_only rfl ?_
        refine ARun.callG 21 true 75 rfl (lit_lt rfl) rfl (lit_lt rfl) go_35 rfl (selV_Check _ _ _ _ _ z' hv) ?_
        rintro _ S6 ⟨rfl, h1⟩
        rw [h1]; clear h1 S6
        refine arun_nil ⟨fun _ => less_, ?_⟩
        refine draw_only rfl ?_
        refine ARun.callG 21 true 75 rfl (lit_lt rfl) rfl (lit_lt rfl) go_36 rfl (rselV_Check _ _ _ _ _ z' hv) ?_
        rintro _ S6 ⟨rfl, h1⟩
        rw [h1]; clear h1 S6
        refine arun_nil ⟨fun _ => less_, ?_⟩
        first | refine draw_skipG 21 true _ 75 rfl rfl rfl (lit_lt rfl) rfl rfl rfl (lit_lt rfl) less_ ?_ | refine draw_skipU 21 true 75 rfl rfl rfl (lit_lt rfl) rfl rfl (lit_lt rfl) less_ ?_ | refine draw_calmG 21 true 75 rfl rfl rfl (lit_lt rfl) rfl rfl (lit_lt rfl) less_ (fun S' hS' => Calm.bin rfl rfl (bin_bool b_eql (decide_eq_true rfl))) ?_
        refine draw_pure rfl rfl rfl rfl (lit_lt rfl) (fun _ => (by first | exact Calm.pickT rfl rfl | exact Calm.pickF rfl rfl)) ?_
        refine draw_pure rfl rfl rfl rfl (lit_lt rfl) (fun _ => Calm.assign rfl) ?_
        refine draw_nil ?_
        refine athen_n ?_
        refine AWP.sub [(0, _), (1, _), (2, _), (3, _), (5, _), (6, _), (32, _), (7, _), (8, _), (9, _), (10, _), (11, _), (12, _), (13, _), (14, _)] ⟨rfl, rfl, rfl, rfl, rfl, rfl, rfl, rfl, rfl, rfl, rfl, rfl, rfl, rfl, rfl, trivial⟩ ?_
        refine AWP.ret ?_
        refine ⟨_, _, ⟨_, _, rfl, rfl, rfl⟩, less_, ?_⟩
        rfl
    · refine AWP.seq ?_
      refine AWP.seq ?_
      refine AWP.region ?_
      refine rC (Calm.move rfl) ?_
      refine rC (Calm.lenSl Try.underlying43 rfl) ?_
      refine rC (Calm.bin rfl rfl b_gtr) ?_
      refine rC (Calm.move rfl) ?_
      first | refine rS 18 ?_ | refine rU 18 ?_ | refine rG 18 (Calm.move rfl) ?_
      first | refine rS 18 ?_ | refine rU 18 ?_ | refine rG 18 (Calm.lenSl Try.underlying43 rfl) ?_
      first | refine rS 18 ?_ | refine rU 18 ?_ | refine rG 18 (Calm.bin rfl rfl b_leq) ?_
      refine rC ((by first | exact Calm.pickT rfl rfl | exact Calm.pickF rfl rfl)) ?_
      refine rC (Calm.move rfl) ?_
      first | refine rS 23 ?_ | refine rU 23 ?_ | refine rG 23 (Calm.fieldAddr ty_field_47_1 rfl) ?_
      first | refine rS 23 ?_ | refine rU 23 ?_ | refine rG 23 (ld_ ty_plain_3 rfl) ?_
      first | refine rS 23 ?_ | refine rU 23 ?_ | refine rG 23 (Calm.bin rfl rfl b_gtr) ?_
      first | refine rS 23 ?_ | refine rU 23 ?_ | refine rG 23 (Calm.move rfl) ?_
      first | refine rS 27 ?_ | refine rU 27 ?_ | refine rG 27 (Calm.fieldAddr ty_field_47_1 rfl) ?_
      first | refine rS 27 ?_ | refine rU 27 ?_ | refine rG 27 (ld_ ty_plain_3 rfl) ?_
      first | refine rS 27 ?_ | refine rU 27 ?_ | refine rG 27 (Calm.bin rfl rfl b_leq) ?_
      first | refine rS 23 ?_ | refine rU 23 ?_ | refine rG 23 ((by first | exact Calm.pickT rfl rfl | exact Calm.pickF rfl rfl)) ?_
      refine rC ((by first | exact Calm.pickT rfl rfl | exact Calm.pickF rfl rfl)) ?_
      refine arun_nil ?_
      refine athen_n ?_
      refine AWP.sub [(0, _), (1, _), (2, _), (3, _), (5, _), (6, _), (32, _)] ⟨rfl, rfl, rfl, rfl, rfl, rfl, rfl, trivial⟩ ?_
      refine AWP.condF rfl (by first | rfl | (simp; done) | (simp; omega)) ?_
      refine AWP.skip ?_
      refine athen_n ?_
      refine AWP.seq ?_
      refine AWP.region ?_
      refine rC (ldA_ (cs := [_, _]) ty_agg_47 ty_size_47 rfl) ?_
      refine ARun.call (lit_lt rfl) go_30 rfl (selV_Make s N _ z) ?_
      rintro _ S2 hr2
      obtain ⟨pa2, ca2, rfl, hS2, hv2⟩ := hr2.slices
      replace hv := hv.less hS2
      replace hL := hL.less hS2
      replace kb3 := hS2.own kb3
      replace kb5 := hS2.own kb5
      refine rC (Calm.move rfl) ?_
      refine rC (Calm.extract rfl rfl) ?_
      refine rC (Calm.extract rfl rfl) ?_
      refine ARun.alloc (lit_lt rfl) ty_zero_49 ?_
      intro b7 f7
      have g7 := f7
      repeat ((with_reducible replace g7 := fresh_set g7); obtain ⟨g7, _⟩ := g7)
      (try simp only [List.length_cons, List.length_nil, Nat.zero_add, Nat.reduceAdd])
      first | refine ARun.storeAll rfl rfl ty_size_49 own_ rfl rfl ?_ | refine ARun.store rfl rfl ty_size_49 own_ lens_ rfl ?_
      (try simp only [Mem.set_set, List.set_cons_zero, List.set_cons_succ, Nat.zero_add, Nat.reduceAdd])
      refine rC (Calm.assign rfl) ?_
      refine arun_nil ?_
      refine athen_n ?_
      refine AWP.sub [(0, _), (1, _), (2, _), (3, _), (5, _), (6, _), (32, _), (7, _), (8, _)] ⟨rfl, rfl, rfl, rfl, rfl, rfl, rfl, rfl, rfl, trivial⟩ ?_
      refine named (S := S2) (b := b7) g7.1 ?_
      intro T7 hT7 kb7
      replace hv := hv.less hT7
      replace hL := hL.less hT7
      replace kb3 := hT7.own kb3
      replace kb5 := hT7.own kb5
      replace hv2 := hv2.less hT7
      refine AWP.seq ?_
      refine AWP.region ?_
      refine rC (ldA_ (cs := [_, _]) ty_agg_47 ty_size_47 rfl) ?_
      refine ARun.call (lit_lt rfl) go_31 rfl (rselV_Make s N _ z) ?_
      rintro _ S3 hr3
      obtain ⟨pa3, ca3, rfl, hS3, hv3⟩ := hr3.slices
      replace hv := hv.less hS3
      replace hL := hL.less hS3
      replace kb3 := hS3.own kb3
      replace kb5 := hS3.own kb5
      replace hv2 := hv2.less hS3
      replace kb7 := hS3.own kb7
      refine rC (Calm.move rfl) ?_
      refine rC (Calm.extract rfl rfl) ?_
      refine rC (Calm.extract rfl rfl) ?_
      refine ARun.alloc (lit_lt rfl) ty_zero_49 ?_
      intro b9 f9
      have g9 := f9
      repeat ((with_reducible replace g9 := fresh_set g9); obtain ⟨g9, _⟩ := g9)
      (try simp only [List.length_cons, List.length_nil, Nat.zero_add, Nat.reduceAdd])
      first | refine ARun.storeAll rfl rfl ty_size_49 own_ rfl rfl ?_ | refine ARun.store rfl rfl ty_size_49 own_ lens_ rfl ?_
      (try simp only [Mem.set_set, List.set_cons_zero, List.set_cons_succ, Nat.zero_add, Nat.reduceAdd])
      refine rC (Calm.assign rfl) ?_
      refine arun_nil ?_
      refine athen_n ?_
      refine AWP.sub [(0, _), (1, _), (2, _), (3, _), (5, _), (6, _), (32, _), (7, _), (8, _), (9, _), (10, _)] ⟨rfl, rfl, rfl, rfl, rfl, rfl, rfl, rfl, rfl, rfl, rfl, trivial⟩ ?_
      refine named (S := S3) (b := b9) g9.1 ?_
      intro T9 hT9 kb9
      replace hv := hv.less hT9
      replace hL := hL.less hT9
      replace kb3 := hT9.own kb3
      replace kb5 := hT9.own kb5
      replace hv2 := hv2.less hT9
      replace kb7 := hT9.own kb7
      replace hv3 := hv3.less hT9
      refine AWP.seq ?_
      refine AWP.region ?_
      refine rC (Calm.move rfl) ?_
      refine ARun.call (lit_lt rfl) go_32 rfl (selV_OfS _ L _ hL) ?_
      rintro _ S4 hr4
      obtain ⟨pa4, ca4, rfl, hS4, hv4⟩ := hr4.slices
      replace hv := hv.less hS4
      replace hL := hL.less hS4
      replace kb3 := hS4.own kb3
      replace kb5 := hS4.own kb5
      replace hv2 := hv2.less hS4
      replace kb7 := hS4.own kb7
      replace hv3 := hv3.less hS4
      replace kb9 := hS4.own kb9
      refine rC (Calm.move rfl) ?_
      refine rC (Calm.extract rfl rfl) ?_
      refine rC (Calm.extract rfl rfl) ?_
      refine ARun.alloc (lit_lt rfl) ty_zero_49 ?_
      intro b11 f11
      have g11 := f11
      repeat ((with_reducible replace g11 := fresh_set g11); obtain ⟨g11, _⟩ := g11)
      (try simp only [List.length_cons, List.length_nil, Nat.zero_add, Nat.reduceAdd])
      first | refine ARun.storeAll rfl rfl ty_size_49 own_ rfl rfl ?_ | refine ARun.store rfl rfl ty_size_49 own_ lens_ rfl ?_
      (try simp only [Mem.set_set, List.set_cons_zero, List.set_cons_succ, Nat.zero_add, Nat.reduceAdd])
      refine rC (Calm.assign rfl) ?_
      refine arun_nil ?_
      refine athen_n ?_
      refine AWP.sub [(0, _), (1, _), (2, _), (3, _), (5, _), (6, _), (32, _), (7, _), (8, _), (9, _), (10, _), (11, _), (12, _)] ⟨rfl, rfl, rfl, rfl, rfl, rfl, rfl, rfl, rfl, rfl, rfl, rfl, rfl, trivial⟩ ?_
      refine named (S := S4) (b := b11) g11.1 ?_
      intro T11 hT11 kb11
      replace hv := hv.less hT11
      replace hL := hL.less hT11
      replace kb3 := hT11.own kb3
      replace kb5 := hT11.own kb5
      replace hv2 := hv2.less hT11
      replace kb7 := hT11.own kb7
      replace hv3 := hv3.less hT11
      replace kb9 := hT11.own kb9
      replace hv4 := hv4.less hT11
      refine AWP.seq ?_
      refine AWP.region ?_
      refine rC (Calm.move rfl) ?_
      refine ARun.call (lit_lt rfl) go_33 rfl (rselV_OfS _ L _ hL) ?_
      rintro _ S5 hr5
      obtain ⟨pa5, ca5, rfl, hS5, hv5⟩ := hr5.slices
      replace hv := hv.less hS5
      replace hL := hL.less hS5
      replace kb3 := hS5.own kb3
      replace kb5 := hS5.own kb5
      replace hv2 := hv2.less hS5
      replace kb7 := hS5.own kb7
      replace hv3 := hv3.less hS5
      replace kb9 := hS5.own kb9
      replace hv4 := hv4.less hS5
      replace kb11 := hS5.own kb11
      refine rC (Calm.move rfl) ?_
      refine rC (Calm.extract rfl rfl) ?_
      refine rC (Calm.extract rfl rfl) ?_
      refine ARun.alloc (lit_lt rfl) ty_zero_49 ?_
      intro b13 f13
      have g13 := f13
      repeat ((with_reducible replace g13 := fresh_set g13); obtain ⟨g13, _⟩ := g13)
      (try simp only [List.length_cons, List.length_nil, Nat.zero_add, Nat.reduceAdd])
      first | refine ARun.storeAll rfl rfl ty_size_49 own_ rfl rfl ?_ | refine ARun.store rfl rfl ty_size_49 own_ lens_ rfl ?_
      (try simp only [Mem.set_set, List.set_cons_zero, List.set_cons_succ, Nat.zero_add, Nat.reduceAdd])
      refine rC (Calm.assign rfl) ?_
      refine arun_nil ?_
      refine athen_n ?_
      refine AWP.sub [(0, _), (1, _), (2, _), (3, _), (5, _), (6, _), (32, _), (7, _), (8, _), (9, _), (10, _), (11, _), (12, _), (13, _), (14, _)] ⟨rfl, rfl, rfl, rfl, rfl, rfl, rfl, rfl, rfl, rfl, rfl, rfl, rfl, rfl, rfl, trivial⟩ ?_
      refine named (S := S5) (b := b13) g13.1 ?_
      intro T13 hT13 kb13
      replace hv := hv.less hT13
      replace hL := hL.less hT13
      replace kb3 := hT13.own kb3
      replace kb5 := hT13.own kb5
      replace hv2 := hv2.less hT13
      replace kb7 := hT13.own kb7
      replace hv3 := hv3.less hT13
      replace kb9 := hT13.own kb9
      replace hv4 := hv4.less hT13
      replace kb11 := hT13.own kb11
      replace hv5 := hv5.less hT13
      refine AWP.seq ?_
      refine AWP.draw [(0, false), (1, true), (2, true), (3, true), (4, false), (5, true), (6, true), (7, true), (8, true), (9, true), (10, true), (11, true), (12, true), (13, true), (14, false), (15, true), (16, true), (17, true), (18, true), (19, true), (20, true), (21, true), (22, true), (24, true), (23, false), (25, false), (26, true), (27, true), (28, true)] [] mixed (by kernel_rfl) ?_
      refine draw_only rfl ?_
      refine ARun.call (lit_lt rfl) go_29 rfl (selV_lives _) ?_
      rintro _ S6 ⟨rfl, h1⟩
      rw [h1]; clear h1 S6
      refine arun_nil ⟨fun _ => less_, ?_⟩
      refine draw_pure rfl rfl rfl rfl (lit_lt rfl) (fun _ => Calm.move rfl) ?_
      first | refine draw_skipG 1 true _ 55 rfl rfl rfl (lit_lt rfl) rfl rfl rfl (lit_lt rfl) less_ ?_ | refine draw_skipU 1 true 55 rfl rfl rfl (lit_lt rfl) rfl rfl (lit_lt rfl) less_ ?_ | refine draw_calmG 1 true 55 rfl rfl rfl (lit_lt rfl) rfl rfl (lit_lt rfl) less_ (fun S' hS' => by obtain rfl := hS'.resolve_left (by decide); exact ldA_ (cs := [_, _, _]) ty_agg_49 ty_size_49 rfl) ?_
      first | refine draw_skipG 1 true _ 55 rfl rfl rfl (lit_lt rfl) rfl rfl rfl (lit_lt rfl) less_ ?_ | refine draw_skipU 1 true 55 rfl rfl rfl (lit_lt rfl) rfl rfl (lit_lt rfl) less_ ?_ | refine draw_calmG 1 true 55 rfl rfl rfl (lit_lt rfl) rfl rfl (lit_lt rfl) less_ (fun S' hS' => by obtain rfl := hS'.resolve_left (by decide); exact ldA_ (cs := [_, _, _]) ty_agg_49 ty_size_49 rfl) ?_
      refine draw_only rfl ?_
      refine ARun.callG 1 true 55 rfl (lit_lt rfl) rfl (lit_lt rfl) go_34 rfl (rselV_Same _ _ _ _ _ _ _ _ _ hv2 hv3) ?_
      rintro _ S6 ⟨rfl, h1⟩
      rw [h1, and_same ⟨rfl, rfl⟩ rfl]; clear h1 S6
      refine arun_nil ⟨fun _ => less_, ?_⟩
      refine draw_pure rfl rfl rfl rfl (lit_lt rfl) (fun _ => (by first | exact Calm.pickT rfl rfl | exact Calm.pickF rfl rfl)) ?_
      refine draw_pure rfl rfl rfl rfl (lit_lt rfl) (fun _ => Calm.move rfl) ?_
      first | refine draw_skipG 6 true _ 60 rfl rfl rfl (lit_lt rfl) rfl rfl rfl (lit_lt rfl) less_ ?_ | refine draw_skipU 6 true 60 rfl rfl rfl (lit_lt rfl) rfl rfl (lit_lt rfl) less_ ?_ | refine draw_calmG 6 true 60 rfl rfl rfl (lit_lt rfl) rfl rfl (lit_lt rfl) less_ (fun S' hS' => Calm.move rfl) ?_
      first | refine draw_skipG 6 true _ 60 rfl rfl rfl (lit_lt rfl) rfl rfl rfl (lit_lt rfl) less_ ?_ | refine draw_skipU 6 true 60 rfl rfl rfl (lit_lt rfl) rfl rfl (lit_lt rfl) less_ ?_ | refine draw_calmG 6 true 60 rfl rfl rfl (lit_lt rfl) rfl rfl (lit_lt rfl) less_ (fun S' hS' => Calm.move rfl) ?_
      first | refine draw_skipG 6 true _ 60 rfl rfl rfl (lit_lt rfl) rfl rfl rfl (lit_lt rfl) less_ ?_ | refine draw_skipU 6 true 60 rfl rfl rfl (lit_lt rfl) rfl rfl (lit_lt rfl) less_ ?_ | refine draw_calmG 6 true 60 rfl rfl rfl (lit_lt rfl) rfl rfl (lit_lt rfl) less_ (fun S' hS' => Calm.bin rfl rfl (bin_bool b_eql (decide_eq_true rfl))) ?_
      refine draw_pure rfl rfl rfl rfl (lit_lt rfl) (fun _ => (by first | exact Calm.pickT rfl rfl | exact Calm.pickF rfl rfl)) ?_
      refine draw_pure rfl rfl rfl rfl (lit_lt rfl) (fun _ => Calm.move rfl) ?_
      first | refine draw_skipG 11 true _ 65 rfl rfl rfl (lit_lt rfl) rfl rfl rfl (lit_lt rfl) less_ ?_ | refine draw_skipU 11 true 65 rfl rfl rfl (lit_lt rfl) rfl rfl (lit_lt rfl) less_ ?_ | refine draw_calmG 11 true 65 rfl rfl rfl (lit_lt rfl) rfl rfl (lit_lt rfl) less_ (fun S' hS' => by obtain rfl := hS'.resolve_left (by decide); exact ldA_ (cs := [_, _, _]) ty_agg_49 ty_size_49 rfl) ?_
      first | refine draw_skipG 11 true _ 65 rfl rfl rfl (lit_lt rfl) rfl rfl rfl (lit_lt rfl) less_ ?_ | refine draw_skipU 11 true 65 rfl rfl rfl (lit_lt rfl) rfl rfl (lit_lt rfl) less_ ?_ | refine draw_calmG 11 true 65 rfl rfl rfl (lit_lt rfl) rfl rfl (lit_lt rfl) less_ (fun S' hS' => by obtain rfl := hS'.resolve_left (by decide); exact ldA_ (cs := [_, _, _]) ty_agg_49 ty_size_49 rfl) ?_
      refine draw_only rfl ?_
      refine ARun.callG 11 true 65 rfl (lit_lt rfl) rfl (lit_lt rfl) go_34 rfl (rselV_Same _ _ _ _ _ _ _ _ _ hv4 hv5) ?_
      rintro _ S6 ⟨rfl, h1⟩
      rw [h1, and_same ⟨rfl, rfl⟩ rfl]; clear h1 S6
      refine arun_nil ⟨fun _ => less_, ?_⟩
      refine draw_pure rfl rfl rfl rfl (lit_lt rfl) (fun _ => (by first | exact Calm.pickT rfl rfl | exact Calm.pickF rfl rfl)) ?_
      refine draw_pure rfl rfl rfl rfl (lit_lt rfl) (fun _ => Calm.move rfl) ?_
      first | refine draw_skipG 16 true _ 70 rfl rfl rfl (lit_lt rfl) rfl rfl rfl (lit_lt rfl) less_ ?_ | refine draw_skipU 16 true 70 rfl rfl rfl (lit_lt rfl) rfl rfl (lit_lt rfl) less_ ?_ | refine draw_calmG 16 true 70 rfl rfl rfl (lit_lt rfl) rfl rfl (lit_lt rfl) less_ (fun S' hS' => Calm.move rfl) ?_
      first | refine draw_skipG 16 true _ 70 rfl rfl rfl (lit_lt rfl) rfl rfl rfl (lit_lt rfl) less_ ?_ | refine draw_skipU 16 true 70 rfl rfl rfl (lit_lt rfl) rfl rfl (lit_lt rfl) less_ ?_ | refine draw_calmG 16 true 70 rfl rfl rfl (lit_lt rfl) rfl rfl (lit_lt rfl) less_ (fun S' hS' => Calm.move rfl) ?_
      first | refine draw_skipG 16 true _ 70 rfl rfl rfl (lit_lt rfl) rfl rfl rfl (lit_lt rfl) less_ ?_ | refine draw_skipU 16 true 70 rfl rfl rfl (lit_lt rfl) rfl rfl (lit_lt rfl) less_ ?_ | refine draw_calmG 16 true 70 rfl rfl rfl (lit_lt rfl) rfl rfl (lit_lt rfl) less_ (fun S' hS' => Calm.bin rfl rfl (bin_bool b_eql (decide_eq_true rfl))) ?_
      refine draw_pure rfl rfl rfl rfl (lit_lt rfl) (fun _ => (by first | exact Calm.pickT rfl rfl | exact Calm.pickF rfl rfl)) ?_
      refine draw_pure rfl rfl rfl rfl (lit_lt rfl) (fun _ => Calm.move rfl) ?_
      first | refine draw_skipG 21 true _ 75 rfl rfl rfl (lit_lt rfl) rfl rfl rfl (lit_lt rfl) less_ ?_ | refine draw_skipU 21 true 75 rfl rfl rfl (lit_lt rfl) rfl rfl (lit_lt rfl) less_ ?_ | refine draw_calmG 21 true 75 rfl rfl rfl (lit_lt rfl) rfl rfl (lit_lt rfl) less_ (fun S' hS' => by obtain rfl := hS'.resolve_left (by decide); exact ldA_ (cs := [_, _, _]) ty_agg_49 ty_size_49 rfl) ?_
      first | refine draw_skipG 21 true _ 75 rfl rfl rfl (lit_lt rfl) rfl rfl rfl (lit_lt rfl) less_ ?_ | refine draw_skipU 21 true 75 rfl rfl rfl (lit_lt rfl) rfl rfl (lit_lt rfl) less_ ?_ | refine draw_calmG 21 true 75 rfl rfl rfl (lit_lt rfl) rfl rfl (lit_lt rfl) less_ (fun S' hS' => by obtain rfl := hS'.resolve_left (by decide); exact ldA_ (cs := [_, _, _]) ty_agg_49 ty_size_49 rfl) ?_
      refine draw_only rfl ?_
      refine ARun.callG 21 true 75 rfl (lit_lt rfl) rfl (lit_lt rfl) go_35 rfl (selV_Check _ _ _ _ _ z' hv) ?_
      rintro _ S6 ⟨rfl, h1⟩
      rw [h1]; clear h1 S6
      refine arun_nil ⟨fun _ => less_, ?_⟩
      refine draw_only rfl ?_
      refine ARun.callG 21 true 75 rfl (lit_lt rfl) rfl (lit_lt rfl) go_36 rfl (rselV_Check _ _ _ _ _ z' hv) ?_
      rintro _ S6 ⟨rfl, h1⟩
      rw [h1]; clear h1 S6
      refine arun_nil ⟨fun _ => less_, ?_⟩
      first | refine draw_skipG 21 true _ 75 rfl rfl rfl (lit_lt rfl) rfl rfl rfl (lit_lt rfl) less_ ?_ | refine draw_skipU 21 true 75 rfl rfl rfl (lit_lt rfl) rfl rfl (lit_lt rfl) less_ ?_ | refine draw_calmG 21 true 75 rfl rfl rfl (lit_lt rfl) rfl rfl (lit_lt rfl) less_ (fun S' hS' => Calm.bin rfl rfl (bin_bool b_eql (decide_eq_true rfl))) ?_
      refine draw_pure rfl rfl rfl rfl (lit_lt rfl) (fun _ => (by first | exact Calm.pickT rfl rfl | exact Calm.pickF rfl rfl)) ?_
      refine draw_pure rfl rfl rfl rfl (lit_lt rfl) (fun _ => Calm.assign rfl) ?_
      refine draw_nil ?_
      refine athen_n ?_
      refine AWP.sub [(0, _), (1, _), (2, _), (3, _), (5, _), (6, _), (32, _), (7, _), (8, _), (9, _), (10, _), (11, _), (12, _), (13, _), (14, _)] ⟨rfl, rfl, rfl, rfl, rfl, rfl, rfl, rfl, rfl, rfl, rfl, rfl, rfl, rfl, rfl, trivial⟩ ?_
      refine AWP.ret ?_
      refine ⟨_, _, ⟨_, _, rfl, rfl, rfl⟩, less_, ?_⟩
      rfl
theorem walk_SelMakes (bs0 : List Value) (b : ByteArray × Int) (v : Value) (L : List Bool) (cs : List Value) (y : ByteArray × Int × List Int) (W : World) (w0 : BitstrV (roM W) bs0 b) (w1 : BoolsV (roM W) [v] L) (w2 : RowsV (roM W) cs y) :
    Calls Try.prog 8 #[.agg bs0.toArray, v, .agg cs.toArray] W fun e w' => e = .returned (.bool true) ∧ Below W.heap.size W w' := by
  obtain ⟨rfl, z, wn⟩ := w0
  obtain ⟨v', e, hL, _⟩ := w1
  obtain ⟨hc, rfl, hv, z', _⟩ := w2
  cases e
  exact ACall.callsW (law_SelMakes b.1 b.2 v L y.1 y.2.1 hc y.2.2 _ (by omega) (wf64 wn) hL (by omega) hv)
theorem walk_SelAsks (cs : List Value) (y : ByteArray × Int × List Int) (a : Int) (W : World) (w0 : RowsV (roM W) cs y) (w1 : (Lit.int .i64 a).wf = true) :
    Calls Try.prog 9 #[.agg cs.toArray, .int .i64 a] W fun e w' => e = .returned (.bool true) ∧ Below W.heap.size W w' := by
  obtain ⟨hc, rfl, hv, z, _⟩ := w0
  exact ACall.callsW (law_SelAsks y.1 y.2.1 hc y.2.2 a _ (by omega) hv (wf64 w1).2)
end Go.Proofs.Ytddabbfjoejalaa
