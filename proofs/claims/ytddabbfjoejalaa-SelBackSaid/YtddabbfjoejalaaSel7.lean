/-
  Sel: the search in sorted numbers.
-/
import Derived.Test.YtddabbfjoejalaaSel6
namespace Go.Proofs.Ytddabbfjoejalaa
open Go.RowKit
open Mv Bits Sel
set_option linter.unusedVariables false
set_option linter.unusedSimpArgs false
set_option maxRecDepth 20000
theorem selV_geq (i : Nat) (p q : Nat) (l : List Int) (x : Int) (hv : Value) (S : Mem) (kp : S.Knows ⟨p, 0, none⟩ [hv]) (kq : S.Knows ⟨q, 0, none⟩ [.int .i64 x]) (hl : Sl 1 i64s S hv l) (hi : i < l.length) :
    ACall Try.prog 87 #[.int .i64 i, .pointer (some ⟨p, 0, none⟩), .pointer (some ⟨q, 0, none⟩)] S fun r S' => r = .bool (decide (x ≤ l[i])) ∧ S' = S := by
  obtain ⟨a, c, rfl, a1, a2, a3⟩ := hl
  obtain ⟨b, off, rfl, hkn⟩ := a3.resolve_left (by intro h; rw [h] at hi; exact absurd hi (Nat.not_lt_zero _))
  have k1 := hkn i hi
  unfold i64s at k1
  generalize l[i] = y at *
  by_cases hxy : x ≤ y
  · have hxy0 := hxy
    refine ACall.enter (args := [.int .i64 (i : Int), .pointer (some ⟨p, 0, none⟩), .pointer (some ⟨q, 0, none⟩)]) (rs := [.tmp 4]) 11 [(0, .int .i64 (i : Int)), (1, .pointer (some ⟨p, 0, none⟩)), (2, .pointer (some ⟨q, 0, none⟩))] Try.func87 rfl rfl (Nat.le_of_ble_eq_true rfl) rfl ⟨rfl, rfl, rfl, trivial⟩ ?_
    refine AWP.seq ?_
    refine AWP.region ?_
    refine rC (Calm.assign rfl) ?_
    refine arun_nil ?_
    refine athen_n ?_
    refine AWP.seq ?_
    refine AWP.draw [(0, true), (1, true), (2, true), (3, true), (4, true), (5, true), (6, true)] [] mixed (by kernel_rfl) ?_
    refine draw_calm rfl rfl rfl (lit_lt rfl) less_ (fun S' hS' => by obtain rfl := hS'.resolve_left (by decide); exact ld_ ty_plain_23 rfl) ?_
    refine draw_pure rfl rfl rfl rfl (lit_lt rfl) (fun _ => Calm.move rfl) ?_
    refine draw_pure rfl rfl rfl rfl (lit_lt rfl) (fun _ => Calm.indexS Try.underlying23 ty_size_3 rfl rfl (by omega) (by omega)) ?_
    refine draw_calm rfl rfl rfl (lit_lt rfl) less_ (fun S' hS' => by obtain rfl := hS'.resolve_left (by decide); exact ld_ ty_plain_3 rfl) ?_
    refine draw_calm rfl rfl rfl (lit_lt rfl) less_ (fun S' hS' => by obtain rfl := hS'.resolve_left (by decide); exact ld_ ty_plain_3 rfl) ?_
    refine draw_pure rfl rfl rfl rfl (lit_lt rfl) (fun _ => Calm.bin rfl rfl b_geq) ?_
    refine draw_pure rfl rfl rfl rfl (lit_lt rfl) (fun _ => Calm.assign rfl) ?_
    refine draw_nil ?_
    refine athen_n ?_
    refine AWP.sub [(0, _), (1, _), (2, _), (4, _)] ⟨rfl, rfl, rfl, rfl, trivial⟩ ?_
    refine AWP.ret ?_
    refine ⟨_, S, ⟨_, _, rfl, rfl, rfl⟩, less_, ?_⟩
    exact ⟨by rw [decide_eq_true hxy]; rfl, rfl⟩
  · have hxy0 := hxy
    refine ACall.enter (args := [.int .i64 (i : Int), .pointer (some ⟨p, 0, none⟩), .pointer (some ⟨q, 0, none⟩)]) (rs := [.tmp 4]) 11 [(0, .int .i64 (i : Int)), (1, .pointer (some ⟨p, 0, none⟩)), (2, .pointer (some ⟨q, 0, none⟩))] Try.func87 rfl rfl (Nat.le_of_ble_eq_true rfl) rfl ⟨rfl, rfl, rfl, trivial⟩ ?_
    refine AWP.seq ?_
    refine AWP.region ?_
    refine rC (Calm.assign rfl) ?_
    refine arun_nil ?_
    refine athen_n ?_
    refine AWP.seq ?_
    refine AWP.draw [(0, true), (1, true), (2, true), (3, true), (4, true), (5, true), (6, true)] [] mixed (by kernel_rfl) ?_
    refine draw_calm rfl rfl rfl (lit_lt rfl) less_ (fun S' hS' => by obtain rfl := hS'.resolve_left (by decide); exact ld_ ty_plain_23 rfl) ?_
    refine draw_pure rfl rfl rfl rfl (lit_lt rfl) (fun _ => Calm.move rfl) ?_
    refine draw_pure rfl rfl rfl rfl (lit_lt rfl) (fun _ => Calm.indexS Try.underlying23 ty_size_3 rfl rfl (by omega) (by omega)) ?_
    refine draw_calm rfl rfl rfl (lit_lt rfl) less_ (fun S' hS' => by obtain rfl := hS'.resolve_left (by decide); exact ld_ ty_plain_3 rfl) ?_
    refine draw_calm rfl rfl rfl (lit_lt rfl) less_ (fun S' hS' => by obtain rfl := hS'.resolve_left (by decide); exact ld_ ty_plain_3 rfl) ?_
    refine draw_pure rfl rfl rfl rfl (lit_lt rfl) (fun _ => Calm.bin rfl rfl b_geq) ?_
    refine draw_pure rfl rfl rfl rfl (lit_lt rfl) (fun _ => Calm.assign rfl) ?_
    refine draw_nil ?_
    refine athen_n ?_
    refine AWP.sub [(0, _), (1, _), (2, _), (4, _)] ⟨rfl, rfl, rfl, rfl, trivial⟩ ?_
    refine AWP.ret ?_
    refine ⟨_, S, ⟨_, _, rfl, rfl, rfl⟩, less_, ?_⟩
    exact ⟨by rw [decide_eq_false hxy]; rfl, rfl⟩
theorem selV_geqI (y : Int) (i : Nat) (hy : y = i) (p q : Nat) (l : List Int) (x : Int) (hv : Value) (S : Mem) (kp : S.Knows ⟨p, 0, none⟩ [hv]) (kq : S.Knows ⟨q, 0, none⟩ [.int .i64 x]) (hl : Sl 1 i64s S hv l) (hi : i < l.length) :
    ACall Try.prog 87 #[.int .i64 y, .pointer (some ⟨p, 0, none⟩), .pointer (some ⟨q, 0, none⟩)] S fun r S' => r = .bool (decide (x ≤ l[i])) ∧ S' = S := by
  subst hy; exact selV_geq i p q l x hv S kp kq hl hi
/-- The first place from which on all are at least x. -/
def First (l : List Int) (x : Int) (k : Nat) : Prop := k ≤ l.length ∧ (∀ i (h : i < l.length), i < k → l[i] < x) ∧ ∀ i (h : i < l.length), k ≤ i → x ≤ l[i]
set_option maxHeartbeats 1000000 in
theorem selV_Search (p q : Nat) (l : List Int) (x : Int) (hv : Value) (S : Mem) (kp : S.Knows ⟨p, 0, none⟩ [hv]) (kq : S.Knows ⟨q, 0, none⟩ [.int .i64 x]) (hl : Sl 1 i64s S hv l) (hm : ∀ i j (h : i < l.length) (h' : j < l.length), i ≤ j → l[i] ≤ l[j]) (hll : l.length ≤ 1048576) :
    ACall Try.prog 86 #[.int .i64 l.length, .func (.func 87) #[] #[.pointer (some ⟨p, 0, none⟩), .pointer (some ⟨q, 0, none⟩)]] S fun r S' => (∃ k, r = .int .i64 (k : Nat) ∧ First l x k) ∧ S' = S := by
  refine ACall.enter (args := [.int .i64 (l.length : Int), .func (.func 87) #[] #[.pointer (some ⟨p, 0, none⟩), .pointer (some ⟨q, 0, none⟩)]]) (rs := [.tmp 4]) 26 [(0, .int .i64 (l.length : Int)), (1, .func (.func 87) #[] #[.pointer (some ⟨p, 0, none⟩), .pointer (some ⟨q, 0, none⟩)])] Try.func86 rfl rfl (Nat.le_of_ble_eq_true rfl) rfl ⟨rfl, rfl, trivial⟩ ?_
  refine AWP.seq ?_
  refine AWP.region ?_
  refine rC (Calm.assign rfl) ?_
  refine arun_nil ?_
  refine athen_n ?_
  refine AWP.seq ?_
  refine AWP.region ?_
  refine rC (Calm.move rfl) ?_
  refine rC (Calm.assign rfl) ?_
  refine rC (Calm.assign rfl) ?_
  refine arun_nil ?_
  refine athen_n ?_
  refine AWP.sub [(0, _), (1, _), (4, _), (5, _), (6, _)] ⟨rfl, rfl, rfl, rfl, rfl, trivial⟩ ?_
  refine AWP.seq ?_
  refine AWP.block ?_
  refine AWP.loop (X := Nat × Nat) (fun y => [(1, .func (.func 87) #[] #[.pointer (some ⟨p, 0, none⟩), .pointer (some ⟨q, 0, none⟩)]), (5, .int .i64 y.1), (6, .int .i64 y.2)]) (fun y => S) (fun y => y.1 ≤ y.2 ∧ y.2 ≤ l.length ∧ (∀ i (h : i < l.length), i < y.1 → l[i] < x) ∧ ∀ i (h : i < l.length), y.2 ≤ i → x ≤ l[i]) (fun y => y.2 - y.1) ((0, l.length)) ⟨rfl, rfl, rfl, trivial⟩ (Mem.Less.refl _) (⟨Nat.zero_le _, Nat.le_refl _, fun i h h' => absurd h' (Nat.not_lt_zero _), fun i h h' => by omega⟩) ?_
  rintro ⟨lo, hi⟩ ⟨h1, h2, h3, h4⟩
  (try dsimp only at *)
  by_cases hlt : lo < hi
  · have e2 : (2 : Int) ^ Int.toNat 1 = 2 := by decide
    have ew : IntKind.i64.wrap (((lo : Int) + (hi : Int)) / 2 ^ Int.toNat 1) = ((lo + hi) / 2 : Nat) := by rw [e2, IntWalk.i64_in _ (by omega)]; omega
    refine AWP.seq ?_
    refine AWP.seq ?_
    refine AWP.region ?_
    refine rC (Calm.move rfl) ?_
    refine rC (Calm.move rfl) ?_
    refine rC (Calm.bin rfl rfl b_lss) ?_
    refine arun_nil ?_
    refine athen_n ?_
    refine AWP.sub [(1, _), (5, _), (6, _), (11, _)] ⟨rfl, rfl, rfl, rfl, trivial⟩ ?_
    refine AWP.condT rfl (by first | rfl | (simp; done) | (simp; omega)) ?_
    refine AWP.skip ?_
    refine athen_n ?_
    refine AWP.block ?_
    refine AWP.seq ?_
    refine AWP.region ?_
    refine rC (Calm.move rfl) ?_
    refine rC (Calm.move rfl) ?_
    refine rC (Calm.bin rfl rfl b_add_i64) ?_
    refine rC (Calm.conv rfl (by first | exact conv_intW Try.underlying3 Try.underlying105 (IntWalk.u64_in _ (by omega)) | exact conv_int Try.underlying3 Try.underlying105)) ?_
    refine rC (Calm.bin rfl rfl b_shr) ?_
    refine rC (Calm.conv rfl (by first | exact conv_intW Try.underlying105 Try.underlying3 (IntWalk.i64_in _ (by omega)) | exact conv_int Try.underlying105 Try.underlying3)) ?_
    refine rC (Calm.assign rfl) ?_
    refine arun_nil ?_
    refine athen_n ?_
    refine AWP.sub [(1, _), (5, _), (6, _), (11, _), (7, _)] ⟨rfl, rfl, rfl, rfl, rfl, trivial⟩ ?_
    rw [ew]
    refine AWP.seq ?_
    refine AWP.region ?_
    refine rC (Calm.move rfl) ?_
    refine rC (Calm.move rfl) ?_
    refine ARun.callV (lit_lt rfl) go_87 rfl rfl (selV_geqI _ ((lo + hi) / 2) (by omega) p q l x hv S kp kq hl (by omega)) ?_
    rintro _ S1 ⟨rfl, h1⟩
    rw [h1]; clear h1 S1
    refine rC (Calm.un rfl (una_not _)) ?_
    refine arun_nil ?_
    refine athen_n ?_
    refine AWP.sub [(1, _), (5, _), (6, _), (11, _), (7, _), (21, _)] ⟨rfl, rfl, rfl, rfl, rfl, rfl, trivial⟩ ?_
    by_cases hx : x ≤ l[(lo + hi) / 2]'(by omega)
    · refine AWP.condF rfl ((by rw [decide_eq_true hx]; rfl)) ?_
      refine AWP.region ?_
      refine rC (Calm.move rfl) ?_
      refine rC (Calm.assign rfl) ?_
      refine arun_nil ?_
      refine ain_n ?_
      refine athen_n ?_
      refine ⟨(lo, (lo + hi) / 2), ?_, ?_, ?_, ?_⟩
      all_goals (try dsimp only)
      · exact ⟨rfl, rfl, some_int (by omega), trivial⟩
      · exact Mem.Less.refl _
      · exact ⟨by omega, by omega, h3, fun i h h' => Int.le_trans hx (hm _ _ _ h h')⟩
      · omega
    · refine AWP.condT rfl ((by rw [decide_eq_false hx]; rfl)) ?_
      refine AWP.region ?_
      refine rC (Calm.move rfl) ?_
      refine rC (Calm.bin rfl rfl b_add_i64) ?_
      refine rC (Calm.assign rfl) ?_
      refine arun_nil ?_
      refine ain_n ?_
      refine athen_n ?_
      refine ⟨((lo + hi) / 2 + 1, hi), ?_, ?_, ?_, ?_⟩
      all_goals (try dsimp only)
      · exact ⟨rfl, some_int (by omega), rfl, trivial⟩
      · exact Mem.Less.refl _
      · exact ⟨by omega, h2, fun i h h' => Int.lt_of_le_of_lt (hm i ((lo + hi) / 2) h (by omega) (by omega)) (by omega), h4⟩
      · omega
  · refine AWP.seq ?_
    refine AWP.seq ?_
    refine AWP.region ?_
    refine rC (Calm.move rfl) ?_
    refine rC (Calm.move rfl) ?_
    refine rC (Calm.bin rfl rfl b_lss) ?_
    refine arun_nil ?_
    refine athen_n ?_
    refine AWP.sub [(1, _), (5, _), (6, _), (11, _)] ⟨rfl, rfl, rfl, rfl, trivial⟩ ?_
    refine AWP.condF rfl (by first | rfl | (simp; done) | (simp; omega)) ?_
    obtain rfl : lo = hi := by omega
    refine AWP.exit ?_
    refine athen_exit ?_
    refine athen_exit ?_
    refine ain_same ?_
    refine athen_n ?_
    refine AWP.seq ?_
    refine AWP.region ?_
    refine rC (Calm.move rfl) ?_
    refine rC (Calm.assign rfl) ?_
    refine arun_nil ?_
    refine athen_n ?_
    refine AWP.sub [(1, _), (5, _), (6, _), (11, _), (4, _)] ⟨rfl, rfl, rfl, rfl, rfl, trivial⟩ ?_
    refine AWP.ret ?_
    refine ⟨_, S, ⟨_, _, rfl, rfl, rfl⟩, less_, ?_⟩
    exact ⟨⟨lo, rfl, h2, h3, h4⟩, rfl⟩
theorem knows1 {S : Mem} {b e m : Nat} {v : Value} (h : S.own b = some ⟨e, [v], m⟩) : S.Knows ⟨b, 0, none⟩ [v] := Mem.own_knows h _ _ (fun j u hj => by rw [Nat.zero_add]; exact hj)
theorem selV_SearchInts (l : List Int) (x : Int) (hv : Value) (S : Mem) (hl : Sl 1 i64s S hv l) (hm : ∀ i j (h : i < l.length) (h' : j < l.length), i ≤ j → l[i] ≤ l[j]) (hll : l.length ≤ 1048576) :
    ACall Try.prog 84 #[hv, .int .i64 x] S fun r S' => (∃ k, r = .int .i64 (k : Nat) ∧ First l x k) ∧ S' = S := by
  obtain ⟨a, c, rfl, a1, a2, a3⟩ := id hl
  refine ACall.enter (args := [.slice a l.length c, .int .i64 x]) (rs := [.tmp 4]) 9 [(0, .slice a l.length c), (1, .int .i64 x)] Try.func84 rfl rfl (Nat.le_of_ble_eq_true rfl) rfl ⟨rfl, rfl, trivial⟩ ?_
  refine AWP.seq ?_
  refine AWP.region ?_
  refine ARun.box1 (lit_lt rfl) rfl rfl ?_
  intro b2 f2
  have g2 := f2
  repeat ((with_reducible replace g2 := fresh_set g2); obtain ⟨g2, _⟩ := g2)
  (try simp only [List.length_cons, List.length_nil, Nat.zero_add, Nat.reduceAdd])
  refine ARun.box1 (lit_lt rfl) rfl rfl ?_
  intro b3 f3
  have g3 := f3
  repeat ((with_reducible replace g3 := fresh_set g3); obtain ⟨g3, _⟩ := g3)
  (try simp only [List.length_cons, List.length_nil, Nat.zero_add, Nat.reduceAdd])
  refine rC (Calm.assign rfl) ?_
  refine arun_nil ?_
  refine athen_n ?_
  refine AWP.seq ?_
  refine AWP.region ?_
  refine rC (ld_ ty_plain_23 rfl) ?_
  refine rC (Calm.lenSl Try.underlying23 rfl) ?_
  refine rC (Calm.makeFunc rfl rfl) ?_
  refine ARun.call (lit_lt rfl) go_86 rfl (selV_Search b2 b3 l x (.slice a l.length c) _ (knows1 own_) (knows1 own_) (hl.less less_) hm hll) ?_
  rintro _ S1 ⟨⟨k, rfl, hk⟩, h1⟩
  rw [h1]; clear h1 S1
  refine rC (Calm.assign rfl) ?_
  refine arun_nil ?_
  refine athen_n ?_
  refine AWP.sub [(0, _), (1, _), (2, _), (3, _), (4, _)] ⟨rfl, rfl, rfl, rfl, rfl, trivial⟩ ?_
  refine AWP.ret ?_
  refine ⟨_, S, ⟨_, _, rfl, rfl, rfl⟩, less_, ?_⟩
  exact ⟨⟨k, rfl, hk⟩, rfl⟩
theorem selV_Is (p : Nat) (s : ByteArray) (N : Int) (i : Nat) (hc : Value) (S : Mem) (hs : s.size ≤ 200000) (hp : S.own p = some (sheetB s N hc)) (hi : i < 8 * s.size) :
    ACall Try.prog 85 #[.pointer (some ⟨p, 0, none⟩), .int .i64 i] S fun r S' => r = .bool (isBit s.data.toList i) ∧ S' = S := by
  unfold sheetB at hp
  have hb : num (slc s.data.toList i 1) = if isBit s.data.toList i = true then 1 else 0 := by
    have : slc s.data.toList i 1 = [isBit s.data.toList i] := by simp [slc, List.range_succ]
    rw [this]; cases isBit s.data.toList i <;> rfl
  have hat := fun w => bits_At s hs N i 1 w (by omega) (by omega) (by omega) (by omega)
  rw [Int.toNat_natCast, show (1 : Int).toNat = 1 from rfl, hb] at hat
  cases hbt : isBit s.data.toList i with
  | true =>
    rw [hbt, if_pos rfl] at hat
    refine ACall.enter (args := [.pointer (some ⟨p, 0, none⟩), .int .i64 (i : Int)]) (rs := [.tmp 4]) 13 [(0, .pointer (some ⟨p, 0, none⟩)), (1, .int .i64 (i : Int))] Try.func85 rfl rfl (Nat.le_of_ble_eq_true rfl) rfl ⟨rfl, rfl, trivial⟩ ?_
    refine AWP.seq ?_
    refine AWP.region ?_
    refine rC (Calm.assign rfl) ?_
    refine arun_nil ?_
    refine athen_n ?_
    refine AWP.seq ?_
    refine AWP.region ?_
    refine rC (Calm.move rfl) ?_
    refine rC (Calm.nilCheck rfl) ?_
    refine rC (Calm.fieldAddr ty_field_92_0 rfl) ?_
    refine rC (Calm.fieldAddr ty_field_49_0 rfl) ?_
    refine rC (ldA_ (cs := [_, _]) ty_agg_47 ty_size_47 rfl) ?_
    refine rC (Calm.move rfl) ?_
    refine ARun.call (lit_lt rfl) go_70 rfl (ACall.of_calls hat) ?_
    rintro _ S1 ⟨rfl, h1⟩
    rw [h1]; clear h1 S1
    refine rC (Calm.bin rfl rfl b_eql) ?_
    refine rC (Calm.assign rfl) ?_
    refine arun_nil ?_
    refine athen_n ?_
    refine AWP.sub [(0, _), (1, _), (4, _)] ⟨rfl, rfl, rfl, trivial⟩ ?_
    refine AWP.ret ?_
    refine ⟨_, S, ⟨_, _, rfl, rfl, rfl⟩, less_, ?_⟩
    exact ⟨rfl, rfl⟩
  | false =>
    rw [hbt, if_neg (by decide)] at hat
    refine ACall.enter (args := [.pointer (some ⟨p, 0, none⟩), .int .i64 (i : Int)]) (rs := [.tmp 4]) 13 [(0, .pointer (some ⟨p, 0, none⟩)), (1, .int .i64 (i : Int))] Try.func85 rfl rfl (Nat.le_of_ble_eq_true rfl) rfl ⟨rfl, rfl, trivial⟩ ?_
    refine AWP.seq ?_
    refine AWP.region ?_
    refine rC (Calm.assign rfl) ?_
    refine arun_nil ?_
    refine athen_n ?_
    refine AWP.seq ?_
    refine AWP.region ?_
    refine rC (Calm.move rfl) ?_
    refine rC (Calm.nilCheck rfl) ?_
    refine rC (Calm.fieldAddr ty_field_92_0 rfl) ?_
    refine rC (Calm.fieldAddr ty_field_49_0 rfl) ?_
    refine rC (ldA_ (cs := [_, _]) ty_agg_47 ty_size_47 rfl) ?_
    refine rC (Calm.move rfl) ?_
    refine ARun.call (lit_lt rfl) go_70 rfl (ACall.of_calls hat) ?_
    rintro _ S1 ⟨rfl, h1⟩
    rw [h1]; clear h1 S1
    refine rC (Calm.bin rfl rfl b_eql) ?_
    refine rC (Calm.assign rfl) ?_
    refine arun_nil ?_
    refine athen_n ?_
    refine AWP.sub [(0, _), (1, _), (4, _)] ⟨rfl, rfl, rfl, trivial⟩ ?_
    refine AWP.ret ?_
    refine ⟨_, S, ⟨_, _, rfl, rfl, rfl⟩, less_, ?_⟩
    exact ⟨rfl, rfl⟩
end Go.Proofs.Ytddabbfjoejalaa
