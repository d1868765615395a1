/-
  Slices of ints: held against each other; what is the first that is not 0; places.
-/
import Derived.Test.YtgidjbpgkeemiaaVNum5
namespace Go.Proofs.Ytgidjbpgkeemiaa
open Go.RowKit
open Mv Num
set_option linter.unusedVariables false
set_option linter.unusedSimpArgs false
set_option maxRecDepth 4000
/-- Numbers from 0 on, as ints. -/
def i64n (k : Nat) : List Value := [.int .i64 (k : Int)]
abbrev IdxR (S : Mem) (v : Value) (l : List Nat) : Prop := Sl 1 i64n S v l
theorem idxR_less (S S' : Mem) (v : Value) (l : List Nat) (h : IdxR S v l) (hl : S.Less S') : IdxR S' v l := h.less hl
theorem idx_ints {S : Mem} {v : Value} {l : List Nat} (h : IdxR S v l) : Sl 1 i64s S v (l.map (fun k : Nat => (k : Int))) := by
  obtain ⟨a, cap, rfl, h1, h2, h3⟩ := h
  refine ⟨a, cap, by rw [List.length_map], by rw [List.length_map]; exact h1, by rw [List.length_map]; exact h2, ?_⟩
  rcases h3 with h | ⟨b, off, e, hk⟩
  · exact .inl (by rw [h]; rfl)
  · refine .inr ⟨b, off, e, fun i hi => ?_⟩
    rw [List.getElem_map]; exact hk i (by rw [List.length_map] at hi; exact hi)
theorem ints_idx {S : Mem} {v : Value} {l : List Nat} (h : Sl 1 i64s S v (l.map (fun k : Nat => (k : Int)))) : IdxR S v l := Sl.map (fun k : Nat => (k : Int)) (fun _ => rfl) h
theorem numV_cmp2 (x y : Nat) (S : Mem) : ACall Try.prog 94 #[.int .u64 x, .int .u64 y] S fun r S' => r = .int .i64 (if x < y then -1 else if y < x then 1 else 0) ∧ S' = S := numV_cmp x y S
theorem si_nan (x : Int) (S : Mem) : ACall Try.prog 131 #[.int .i64 x] S fun r S' => r = .bool false ∧ S' = S := by
  refine ACall.enter (args := [.int .i64 x]) (rs := [.tmp 2]) 6 [(0, .int .i64 x)] Try.func131 rfl rfl (Nat.le_of_ble_eq_true rfl) rfl ⟨rfl, trivial⟩ ?_
  refine AWP.seq ?_
  refine AWP.region ?_
  refine rC (Calm.assign rfl) ?_
  refine arun_nil ?_
  refine athen_n ?_
  refine AWP.seq ?_
  refine AWP.region ?_
  refine rC (Calm.move rfl) ?_
  refine rC (Calm.move rfl) ?_
  refine rC (Calm.bin rfl rfl b_neq) ?_
  refine rC (Calm.assign rfl) ?_
  refine arun_nil ?_
  refine athen_n ?_
  refine AWP.sub [(0, _), (2, _)] ⟨rfl, rfl, trivial⟩ ?_
  refine AWP.ret ?_
  refine ⟨_, S, ⟨_, _, rfl, rfl, rfl⟩, less_, ?_⟩
  exact ⟨rfl, rfl⟩
def cmpZ (x y : Int) : Int := if x < y then -1 else if y < x then 1 else 0
theorem cmpZ_neg (x y : Int) : cmpZ x y < 0 ↔ x < y := by unfold cmpZ; split <;> (try split) <;> omega
theorem cmpZ_zero (x y : Int) : cmpZ x y = 0 ↔ x = y := by unfold cmpZ; split <;> (try split) <;> omega
theorem si_cmp (x y : Int) (S : Mem) : ACall Try.prog 95 #[.int .i64 x, .int .i64 y] S fun r S' => r = .int .i64 (cmpZ x y) ∧ S' = S := by
  unfold cmpZ
  refine ACall.enter (args := [.int .i64 x, .int .i64 y]) (rs := [.tmp 4]) 20 [(0, .int .i64 x), (1, .int .i64 y)] Try.func95 rfl rfl (Nat.le_of_ble_eq_true rfl) rfl ⟨rfl, rfl, trivial⟩ ?_
  refine AWP.seq ?_
  refine AWP.region ?_
  refine rC (Calm.assign rfl) ?_
  refine arun_nil ?_
  refine athen_n ?_
  refine AWP.seq ?_
  refine AWP.region ?_
  refine rC (Calm.move rfl) ?_
  refine ARun.call (lit_lt rfl) go_131 rfl (si_nan x S) ?_
  rintro _ S1 ⟨rfl, h1⟩
  rw [h1]; clear h1 S1
  refine rC (Calm.assign rfl) ?_
  refine arun_nil ?_
  refine athen_n ?_
  refine AWP.sub [(0, _), (1, _), (4, _), (5, _)] ⟨rfl, rfl, rfl, rfl, trivial⟩ ?_
  refine AWP.seq ?_
  refine AWP.region ?_
  refine rC (Calm.move rfl) ?_
  refine ARun.call (lit_lt rfl) go_131 rfl (si_nan y S) ?_
  rintro _ S1 ⟨rfl, h1⟩
  rw [h1]; clear h1 S1
  refine rC (Calm.assign rfl) ?_
  refine arun_nil ?_
  refine athen_n ?_
  refine AWP.sub [(0, _), (1, _), (4, _), (5, _), (6, _)] ⟨rfl, rfl, rfl, rfl, rfl, trivial⟩ ?_
  refine AWP.seq ?_
  refine AWP.seq ?_
  refine AWP.region ?_
  refine rC (Calm.move rfl) ?_
  refine arun_nil ?_
  refine athen_n ?_
  refine AWP.condF rfl (by first | rfl | (simp; done) | (simp; omega)) ?_
  refine AWP.skip ?_
  refine athen_n ?_
  refine AWP.seq ?_
  refine AWP.seq ?_
  refine AWP.region ?_
  refine rC (Calm.move rfl) ?_
  refine arun_nil ?_
  refine athen_n ?_
  refine AWP.condF rfl (by first | rfl | (simp; done) | (simp; omega)) ?_
  by_cases c1 : x < y
  · refine AWP.skip ?_
    refine athen_n ?_
    refine AWP.seq ?_
    refine AWP.seq ?_
    refine AWP.region ?_
    refine rC (Calm.move rfl) ?_
    refine rC (Calm.move rfl) ?_
    refine rC (Calm.bin rfl rfl b_lss) ?_
    refine arun_nil ?_
    refine athen_n ?_
    refine AWP.sub [(0, _), (1, _), (4, _), (5, _), (6, _), (11, _), (13, _), (16, _)] ⟨rfl, rfl, rfl, rfl, rfl, rfl, rfl, rfl, trivial⟩ ?_
    refine AWP.condT rfl (by first | rfl | (simp; done) | (simp; omega)) ?_
    refine AWP.seq ?_
    refine AWP.region ?_
    refine rC (Calm.assign rfl) ?_
    refine arun_nil ?_
    refine athen_n ?_
    refine AWP.ret ?_
    refine athen_ret ?_
    refine ⟨_, S, ⟨_, _, rfl, rfl, rfl⟩, less_, ?_⟩
    exact ⟨by rw [if_pos c1]; rfl, rfl⟩
  · refine AWP.skip ?_
    refine athen_n ?_
    refine AWP.seq ?_
    refine AWP.seq ?_
    refine AWP.region ?_
    refine rC (Calm.move rfl) ?_
    refine rC (Calm.move rfl) ?_
    refine rC (Calm.bin rfl rfl b_lss) ?_
    refine arun_nil ?_
    refine athen_n ?_
    refine AWP.sub [(0, _), (1, _), (4, _), (5, _), (6, _), (11, _), (13, _), (16, _)] ⟨rfl, rfl, rfl, rfl, rfl, rfl, rfl, rfl, trivial⟩ ?_
    refine AWP.condF rfl (by first | rfl | (simp; done) | (simp; omega)) ?_
    by_cases c2 : y < x
    · refine AWP.skip ?_
      refine athen_n ?_
      refine AWP.seq ?_
      refine AWP.seq ?_
      refine AWP.region ?_
      refine rC (Calm.move rfl) ?_
      refine rC (Calm.move rfl) ?_
      refine rC (Calm.bin rfl rfl b_gtr) ?_
      refine arun_nil ?_
      refine athen_n ?_
      refine AWP.sub [(0, _), (1, _), (4, _), (5, _), (6, _), (11, _), (13, _), (16, _), (19, _)] ⟨rfl, rfl, rfl, rfl, rfl, rfl, rfl, rfl, rfl, trivial⟩ ?_
      refine AWP.condT rfl (by first | rfl | (simp; done) | (simp; omega)) ?_
      refine AWP.seq ?_
      refine AWP.region ?_
      refine rC (Calm.assign rfl) ?_
      refine arun_nil ?_
      refine athen_n ?_
      refine AWP.ret ?_
      refine athen_ret ?_
      refine ⟨_, S, ⟨_, _, rfl, rfl, rfl⟩, less_, ?_⟩
      exact ⟨by rw [if_neg c1, if_pos c2]; rfl, rfl⟩
    · refine AWP.skip ?_
      refine athen_n ?_
      refine AWP.seq ?_
      refine AWP.seq ?_
      refine AWP.region ?_
      refine rC (Calm.move rfl) ?_
      refine rC (Calm.move rfl) ?_
      refine rC (Calm.bin rfl rfl b_gtr) ?_
      refine arun_nil ?_
      refine athen_n ?_
      refine AWP.sub [(0, _), (1, _), (4, _), (5, _), (6, _), (11, _), (13, _), (16, _), (19, _)] ⟨rfl, rfl, rfl, rfl, rfl, rfl, rfl, rfl, rfl, trivial⟩ ?_
      refine AWP.condF rfl (by first | rfl | (simp; done) | (simp; omega)) ?_
      refine AWP.skip ?_
      refine athen_n ?_
      refine AWP.seq ?_
      refine AWP.region ?_
      refine rC (Calm.assign rfl) ?_
      refine arun_nil ?_
      refine athen_n ?_
      refine AWP.ret ?_
      refine ⟨_, S, ⟨_, _, rfl, rfl, rfl⟩, less_, ?_⟩
      exact ⟨by rw [if_neg c1, if_neg c2]; rfl, rfl⟩
def orL : List Int → Int
  | [] => 0
  | x :: l => if x = 0 then orL l else x
theorem si_Or (v : Value) (l : List Int) (S : Mem) (h : Sl 1 i64s S v l) : ACall Try.prog 93 #[v] S fun r S' => r = .int .i64 (orL l) ∧ S' = S := by
  obtain ⟨a, cap, rfl, h1, h2, h3⟩ := id h
  refine ACall.enter (args := [.slice a l.length cap]) (rs := [.tmp 2]) 18 [(0, .slice a l.length cap)] Try.func93 rfl rfl (Nat.le_of_ble_eq_true rfl) rfl ⟨rfl, trivial⟩ ?_
  refine AWP.seq ?_
  refine AWP.region ?_
  refine rC (Calm.assign rfl) ?_
  refine arun_nil ?_
  refine athen_n ?_
  refine AWP.seq ?_
  refine AWP.region ?_
  refine rC (Calm.assign rfl) ?_
  refine arun_nil ?_
  refine athen_n ?_
  refine AWP.seq ?_
  refine AWP.seq ?_
  refine AWP.region ?_
  refine rC (Calm.move rfl) ?_
  refine rC (Calm.lenSl Try.underlying24 rfl) ?_
  refine rC (Calm.move rfl) ?_
  refine arun_nil ?_
  refine athen_n ?_
  refine AWP.block ?_
  refine AWP.loop (X := Nat) (fun x => [(0, .slice a l.length cap), (3, .int .i64 0), (6, .slice a l.length cap), (7, .int .i64 l.length), (8, .int .i64 x)]) (fun x => S) (fun x => x ≤ l.length ∧ orL (l.drop x) = orL l) (fun x => l.length - x) (0) ⟨rfl, rfl, rfl, rfl, rfl, trivial⟩ (Mem.Less.refl _) (⟨Nat.zero_le _, rfl⟩) ?_
  rintro i ⟨hi, hq⟩
  (try dsimp only at *)
  refine AWP.seq ?_
  refine AWP.region ?_
  refine rC (Calm.bin rfl rfl b_lss) ?_
  refine arun_nil ?_
  refine athen_n ?_
  refine AWP.seq ?_
  refine AWP.condB rfl (fun hc => ?_) (fun hc => ?_)
  · have hc : i < l.length := by have := of_decide_eq_true hc; omega
    obtain ⟨b, off, rfl, hk⟩ := h3.resolve_left (fun e => by subst e; simp at hc)
    have hki := hk i hc
    rw [List.drop_eq_getElem_cons hc, orL] at hq
    by_cases c1 : l[i] = 0
    · refine AWP.skip ?_
      refine athen_n ?_
      refine AWP.seq ?_
      refine AWP.block ?_
      refine AWP.seq ?_
      refine AWP.region ?_
      refine rC (Calm.indexS Try.underlying24 ty_size_3 rfl rfl (by omega) (by omega)) ?_
      refine rC (ld_ ty_plain_3 rfl) ?_
      refine rC (Calm.assign rfl) ?_
      refine arun_nil ?_
      refine athen_n ?_
      refine AWP.sub [(0, _), (3, _), (6, _), (7, _), (8, _), (9, _), (5, _)] ⟨rfl, rfl, rfl, rfl, rfl, rfl, rfl, trivial⟩ ?_
      refine AWP.seq ?_
      refine AWP.region ?_
      refine rC (Calm.move rfl) ?_
      refine rC (Calm.move rfl) ?_
      refine rC (Calm.bin rfl rfl b_neq) ?_
      refine arun_nil ?_
      refine athen_n ?_
      refine AWP.sub [(0, _), (3, _), (6, _), (7, _), (8, _), (9, _), (5, _), (14, _)] ⟨rfl, rfl, rfl, rfl, rfl, rfl, rfl, rfl, trivial⟩ ?_
      refine AWP.condF rfl (by first | rfl | (simp; done) | (simp; omega)) ?_
      refine AWP.skip ?_
      refine ain_n ?_
      refine athen_n ?_
      refine AWP.region ?_
      refine rC (Calm.bin rfl rfl b_add_i64) ?_
      refine rC (Calm.move rfl) ?_
      refine arun_nil ?_
      refine athen_n ?_
      refine ⟨i + 1, ?_, ?_, ?_, ?_⟩
      all_goals (try dsimp only)
      · exact ⟨rfl, rfl, rfl, rfl, rfl, trivial⟩
      · exact less_
      · exact ⟨hc, by rw [if_pos c1] at hq; exact hq⟩
      · omega
    · refine AWP.skip ?_
      refine athen_n ?_
      refine AWP.seq ?_
      refine AWP.block ?_
      refine AWP.seq ?_
      refine AWP.region ?_
      refine rC (Calm.indexS Try.underlying24 ty_size_3 rfl rfl (by omega) (by omega)) ?_
      refine rC (ld_ ty_plain_3 rfl) ?_
      refine rC (Calm.assign rfl) ?_
      refine arun_nil ?_
      refine athen_n ?_
      refine AWP.sub [(0, _), (3, _), (6, _), (7, _), (8, _), (9, _), (5, _)] ⟨rfl, rfl, rfl, rfl, rfl, rfl, rfl, trivial⟩ ?_
      refine AWP.seq ?_
      refine AWP.region ?_
      refine rC (Calm.move rfl) ?_
      refine rC (Calm.move rfl) ?_
      refine rC (Calm.bin rfl rfl b_neq) ?_
      refine arun_nil ?_
      refine athen_n ?_
      refine AWP.sub [(0, _), (3, _), (6, _), (7, _), (8, _), (9, _), (5, _), (14, _)] ⟨rfl, rfl, rfl, rfl, rfl, rfl, rfl, rfl, trivial⟩ ?_
      refine AWP.condT rfl (by first | rfl | (simp; done) | (simp; omega)) ?_
      refine AWP.seq ?_
      refine AWP.region ?_
      refine rC (Calm.move rfl) ?_
      refine rC (Calm.assign rfl) ?_
      refine arun_nil ?_
      refine athen_n ?_
      refine AWP.sub [(0, _), (3, _), (6, _), (7, _), (8, _), (9, _), (5, _), (14, _), (2, _)] ⟨rfl, rfl, rfl, rfl, rfl, rfl, rfl, rfl, rfl, trivial⟩ ?_
      refine AWP.ret ?_
      refine ain_ret ?_
      refine athen_ret ?_
      refine athen_ret ?_
      refine ain_ret ?_
      refine athen_ret ?_
      refine ⟨_, S, ⟨_, _, rfl, rfl, rfl⟩, less_, ?_⟩
      exact ⟨by rw [← hq, if_neg c1]; rfl, rfl⟩
  · have hc : i = l.length := by have := of_decide_eq_false hc; omega
    refine AWP.exit ?_
    refine athen_exit ?_
    refine athen_exit ?_
    refine ain_same ?_
    refine athen_n ?_
    refine AWP.seq ?_
    refine AWP.region ?_
    refine rC (Calm.move rfl) ?_
    refine rC (Calm.assign rfl) ?_
    refine arun_nil ?_
    refine athen_n ?_
    refine AWP.sub [(0, _), (3, _), (6, _), (7, _), (8, _), (9, _), (2, _)] ⟨rfl, rfl, rfl, rfl, rfl, rfl, rfl, trivial⟩ ?_
    refine AWP.ret ?_
    refine ⟨_, S, ⟨_, _, rfl, rfl, rfl⟩, less_, ?_⟩
    exact ⟨by rw [← hq, List.drop_eq_nil_of_le (by omega)]; rfl, rfl⟩
theorem si_SameNumbers (a b : List Int) (va vb : Value) (S : Mem) (ha : Sl 1 i64s S va a) (hb : Sl 1 i64s S vb b) :
    ACall Try.prog 21 #[va, vb] S fun r S' => r = .bool (decide (a = b)) ∧ S' = S := by
  obtain ⟨pa, ca, rfl, ha1, ha2, ha3⟩ := ha
  obtain ⟨pb, cb, rfl, hb1, hb2, hb3⟩ := hb
  by_cases hlen : a.length = b.length
  · have hlen0 := hlen
    refine ACall.enter (args := [.slice pa a.length ca, .slice pb b.length cb]) (rs := [.tmp 4]) 26 [(0, .slice pa a.length ca), (1, .slice pb b.length cb)] Try.func21 rfl rfl (Nat.le_of_ble_eq_true rfl) rfl ⟨rfl, rfl, trivial⟩ ?_
    refine AWP.seq ?_
    refine AWP.region ?_
    refine rC (Calm.assign rfl) ?_
    refine arun_nil ?_
    refine athen_n ?_
    refine AWP.seq ?_
    refine AWP.seq ?_
    refine AWP.region ?_
    refine rC (Calm.move rfl) ?_
    refine rC (Calm.lenSl Try.underlying24 rfl) ?_
    refine rC (Calm.move rfl) ?_
    refine rC (Calm.lenSl Try.underlying24 rfl) ?_
    refine rC (Calm.bin rfl rfl b_neq) ?_
    refine arun_nil ?_
    refine athen_n ?_
    refine AWP.sub [(0, _), (1, _), (4, _), (10, _)] ⟨rfl, rfl, rfl, rfl, trivial⟩ ?_
    refine AWP.condF rfl (by first | rfl | (simp; done) | (simp; omega)) ?_
    refine AWP.skip ?_
    refine athen_n ?_
    refine AWP.seq ?_
    refine AWP.seq ?_
    refine AWP.region ?_
    refine rC (Calm.move rfl) ?_
    refine rC (Calm.lenSl Try.underlying24 rfl) ?_
    refine rC (Calm.move rfl) ?_
    refine arun_nil ?_
    refine athen_n ?_
    refine AWP.sub [(0, _), (1, _), (4, _), (10, _), (12, _), (13, _)] ⟨rfl, rfl, rfl, rfl, rfl, rfl, trivial⟩ ?_
    refine AWP.block ?_
    refine AWP.loop (X := Nat) (fun x => [(0, .slice pa a.length ca), (1, .slice pb b.length cb), (12, .int .i64 a.length), (13, .int .i64 x)]) (fun x => S) (fun x => x ≤ a.length ∧ ∀ j (hj : j < a.length) (hj2 : j < b.length), j < x → a[j] = b[j]) (fun x => a.length - x) (0) ⟨rfl, rfl, rfl, rfl, trivial⟩ (Mem.Less.refl _) (⟨Nat.zero_le _, fun _ _ _ h => absurd h (Nat.not_lt_zero _)⟩) ?_
    rintro i ⟨hi1, hq⟩
    (try dsimp only at *)
    refine AWP.seq ?_
    refine AWP.region ?_
    refine rC (Calm.bin rfl rfl b_lss) ?_
    refine arun_nil ?_
    refine athen_n ?_
    refine AWP.seq ?_
    refine AWP.condB rfl (fun hl => ?_) (fun hl => ?_)
    · have hl : i < a.length := by have := of_decide_eq_true hl; omega
      have hlb : i < b.length := by omega
      obtain ⟨b0, off, rfl, hkn⟩ := ha3.resolve_left (by intro h; rw [h] at hl; exact absurd hl (Nat.not_lt_zero _))
      obtain ⟨b1, off1, rfl, hkn1⟩ := hb3.resolve_left (by intro h; rw [h] at hlb; exact absurd hlb (Nat.not_lt_zero _))
      have hkk := hkn i hl
      have hkk1 := hkn1 i hlb
      by_cases c1 : a[i] = b[i]
      · refine AWP.skip ?_
        refine athen_n ?_
        refine AWP.seq ?_
        refine AWP.block ?_
        refine AWP.seq ?_
        refine AWP.region ?_
        refine rC (Calm.move rfl) ?_
        refine rC (Calm.assign rfl) ?_
        refine arun_nil ?_
        refine athen_n ?_
        refine AWP.sub [(0, _), (1, _), (12, _), (13, _), (14, _), (5, _)] ⟨rfl, rfl, rfl, rfl, rfl, rfl, trivial⟩ ?_
        refine AWP.seq ?_
        refine AWP.draw [(0, true), (1, true), (2, true), (3, true), (4, true), (5, true), (6, true), (7, true), (8, true)] [] mixed (by kernel_rfl) ?_
        refine dP (hc := fun _ => Calm.move rfl) (h := ?_)
        refine dP (hc := fun _ => Calm.move rfl) (h := ?_)
        refine dP (hc := fun _ => Calm.indexS Try.underlying24 ty_size_3 rfl rfl (by omega) (by omega)) (h := ?_)
        refine dC (hc := ld_ ty_plain_3 rfl) (h := ?_)
        refine dP (hc := fun _ => Calm.move rfl) (h := ?_)
        refine dP (hc := fun _ => Calm.move rfl) (h := ?_)
        refine dP (hc := fun _ => Calm.indexS Try.underlying24 ty_size_3 rfl rfl (by omega) (by omega)) (h := ?_)
        refine dC (hc := ld_ ty_plain_3 rfl) (h := ?_)
        refine dP (hc := fun _ => Calm.bin rfl rfl b_neq) (h := ?_)
        refine draw_nil ?_
        refine athen_n ?_
        refine AWP.sub [(0, _), (1, _), (12, _), (13, _), (14, _), (5, _), (24, _)] ⟨rfl, rfl, rfl, rfl, rfl, rfl, rfl, trivial⟩ ?_
        refine AWP.condF rfl (by first | rfl | (simp; done) | (simp; omega)) ?_
        refine AWP.skip ?_
        refine ain_n ?_
        refine athen_n ?_
        refine AWP.region ?_
        refine rC (Calm.bin rfl rfl b_add_i64) ?_
        refine rC (Calm.move rfl) ?_
        refine arun_nil ?_
        refine athen_n ?_
        refine ⟨i + 1, ?_, ?_, ?_, ?_⟩
        all_goals (try dsimp only)
        · exact ⟨rfl, rfl, rfl, rfl, trivial⟩
        · exact Mem.Less.refl _
        · exact ⟨hl, fun j hj hj2 hji => by rcases Nat.lt_or_ge j i with h | h; exact hq j hj hj2 h; obtain rfl : j = i := (by omega); exact c1⟩
        · omega
      · refine AWP.skip ?_
        refine athen_n ?_
        refine AWP.seq ?_
        refine AWP.block ?_
        refine AWP.seq ?_
        refine AWP.region ?_
        refine rC (Calm.move rfl) ?_
        refine rC (Calm.assign rfl) ?_
        refine arun_nil ?_
        refine athen_n ?_
        refine AWP.sub [(0, _), (1, _), (12, _), (13, _), (14, _), (5, _)] ⟨rfl, rfl, rfl, rfl, rfl, rfl, trivial⟩ ?_
        refine AWP.seq ?_
        refine AWP.draw [(0, true), (1, true), (2, true), (3, true), (4, true), (5, true), (6, true), (7, true), (8, true)] [] mixed (by kernel_rfl) ?_
        refine dP (hc := fun _ => Calm.move rfl) (h := ?_)
        refine dP (hc := fun _ => Calm.move rfl) (h := ?_)
        refine dP (hc := fun _ => Calm.indexS Try.underlying24 ty_size_3 rfl rfl (by omega) (by omega)) (h := ?_)
        refine dC (hc := ld_ ty_plain_3 rfl) (h := ?_)
        refine dP (hc := fun _ => Calm.move rfl) (h := ?_)
        refine dP (hc := fun _ => Calm.move rfl) (h := ?_)
        refine dP (hc := fun _ => Calm.indexS Try.underlying24 ty_size_3 rfl rfl (by omega) (by omega)) (h := ?_)
        refine dC (hc := ld_ ty_plain_3 rfl) (h := ?_)
        refine dP (hc := fun _ => Calm.bin rfl rfl b_neq) (h := ?_)
        refine draw_nil ?_
        refine athen_n ?_
        refine AWP.sub [(0, _), (1, _), (12, _), (13, _), (14, _), (5, _), (24, _)] ⟨rfl, rfl, rfl, rfl, rfl, rfl, rfl, trivial⟩ ?_
        refine AWP.condT rfl (by first | rfl | (simp; done) | (simp; omega)) ?_
        refine AWP.seq ?_
        refine AWP.region ?_
        refine rC (Calm.assign rfl) ?_
        refine arun_nil ?_
        refine athen_n ?_
        refine AWP.ret ?_
        refine ain_ret ?_
        refine athen_ret ?_
        refine athen_ret ?_
        refine ain_ret ?_
        refine athen_ret ?_
        refine ⟨_, S, ⟨_, _, rfl, rfl, rfl⟩, less_, ?_⟩
        exact ⟨by rw [decide_eq_false (fun e => c1 (by subst e; rfl))]; rfl, rfl⟩
    · have hl : i = a.length := by have := of_decide_eq_false hl; omega
      refine AWP.exit ?_
      refine athen_exit ?_
      refine athen_exit ?_
      refine ain_same ?_
      refine athen_n ?_
      refine AWP.seq ?_
      refine AWP.region ?_
      refine rC (Calm.assign rfl) ?_
      refine arun_nil ?_
      refine athen_n ?_
      refine AWP.ret ?_
      refine ⟨_, S, ⟨_, _, rfl, rfl, rfl⟩, less_, ?_⟩
      exact ⟨by rw [decide_eq_true (List.ext_getElem hlen fun j h1 h2 => hq j h1 h2 (by omega))]; rfl, rfl⟩
  · have hlen0 := hlen
    refine ACall.enter (args := [.slice pa a.length ca, .slice pb b.length cb]) (rs := [.tmp 4]) 26 [(0, .slice pa a.length ca), (1, .slice pb b.length cb)] Try.func21 rfl rfl (Nat.le_of_ble_eq_true rfl) rfl ⟨rfl, rfl, trivial⟩ ?_
    refine AWP.seq ?_
    refine AWP.region ?_
    refine rC (Calm.assign rfl) ?_
    refine arun_nil ?_
    refine athen_n ?_
    refine AWP.seq ?_
    refine AWP.seq ?_
    refine AWP.region ?_
    refine rC (Calm.move rfl) ?_
    refine rC (Calm.lenSl Try.underlying24 rfl) ?_
    refine rC (Calm.move rfl) ?_
    refine rC (Calm.lenSl Try.underlying24 rfl) ?_
    refine rC (Calm.bin rfl rfl b_neq) ?_
    refine arun_nil ?_
    refine athen_n ?_
    refine AWP.sub [(0, _), (1, _), (4, _), (10, _)] ⟨rfl, rfl, rfl, rfl, trivial⟩ ?_
    refine AWP.condT rfl (by first | rfl | (simp; done) | (simp; omega)) ?_
    refine AWP.seq ?_
    refine AWP.region ?_
    refine rC (Calm.assign rfl) ?_
    refine arun_nil ?_
    refine athen_n ?_
    refine AWP.ret ?_
    refine athen_ret ?_
    refine ⟨_, S, ⟨_, _, rfl, rfl, rfl⟩, less_, ?_⟩
    exact ⟨by rw [decide_eq_false (fun e => hlen (by rw [e]))]; rfl, rfl⟩
end Go.Proofs.Ytgidjbpgkeemiaa
