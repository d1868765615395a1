/-
  Num: five bytes and records, of the program and of the document.
-/
import Derived.Test.YtpeljbmbgjeomaaTypes
import Derived.Test.YtpeljbmbgjeomaaNumMath
import Derived.Laws.BitsLemmas
namespace Go.Proofs.Ytpeljbmbgjeomaa
open Go.RowKit
open Mv Num
set_option linter.unusedVariables false
set_option linter.unusedSimpArgs false
theorem wf64 {n : Int} (h : (Lit.int .i64 n).wf = true) : -9223372036854775808 ≤ n ∧ n ≤ 9223372036854775807 := by
  simp [Lit.wf, IntKind.min, IntKind.max, IntKind.signed, IntKind.bits] at h; omega
theorem wfu64 {n : Int} (h : (Lit.int .u64 n).wf = true) : 0 ≤ n ∧ n ≤ 18446744073709551615 := by
  simp [Lit.wf, IntKind.min, IntKind.max, IntKind.signed, IntKind.bits] at h; omega
namespace Num
theorem byte_shr (n k : Nat) : IntKind.u8.wrap ((n : Int) / 2 ^ k) = nb (UInt8.ofNat (n / 2 ^ k)) := by
  rw [← u8_nat]; congr 1
theorem of_or (a : Nat) (c : UInt8) (h : a < 4294967296) : bits .or .u64 (IntKind.u64.wrap ((a : Int) * 2 ^ (8 : Int).toNat)) (nb c) = ((256 * a + c.toNat : Nat) : Int) := by
  have hc := c.toNat_lt
  have e : (a : Int) * 2 ^ (8 : Int).toNat = ((a * 2 ^ 8 : Nat) : Int) := by rw [show (8 : Int).toNat = 8 from rfl]; omega
  rw [e, IntWalk.u64_in _ (by omega), nb_byte, or_nat64 _ _ (by omega) (by omega), Nat.or_comm, or_join_nat _ _ _ (by omega)]
  omega
def u64s (n : Nat) : List Value := [.int .u64 (n : Int)]
end Num
theorem numV_Five (n : Nat) (S : Mem) (hn : n < 18446744073709551616) :
    ACall Try.prog 64 #[.int .u64 n] S fun r S' => r = .agg (cellsB (five n)).toArray ∧ S' = S := by
  have e0 := byte_shr n 32; have e1 := byte_shr n 24; have e2 := byte_shr n 16; have e3 := byte_shr n 8
  have e4 := u8_nat n
  refine ACall.enter (args := [.int .u64 n]) (rs := [.cell 2 81]) 18 [(0, .int .u64 n)] Try.func64 rfl rfl (Nat.le_of_ble_eq_true rfl) rfl ⟨rfl, trivial⟩ ?_
  refine AWP.seq ?_
  refine AWP.region ?_
  refine ARun.alloc (lit_lt rfl) ty_zero_81 ?_
  intro b2 f2
  have g2 := f2
  repeat ((with_reducible replace g2 := fresh_set g2); obtain ⟨g2, _⟩ := g2)
  (try simp only [List.length_cons, List.length_nil, Nat.zero_add, Nat.reduceAdd])
  refine arun_nil ?_
  refine athen_n ?_
  refine AWP.seq ?_
  refine AWP.region ?_
  refine rC (Calm.move rfl) ?_
  refine rC (Calm.bin rfl rfl b_shr) ?_
  refine rC (Calm.conv rfl (conv_intW Try.underlying24 Try.underlying5 e0)) ?_
  refine rC (Calm.move rfl) ?_
  refine rC (Calm.bin rfl rfl b_shr) ?_
  refine rC (Calm.conv rfl (conv_intW Try.underlying24 Try.underlying5 e1)) ?_
  refine rC (Calm.move rfl) ?_
  refine rC (Calm.bin rfl rfl b_shr) ?_
  refine rC (Calm.conv rfl (conv_intW Try.underlying24 Try.underlying5 e2)) ?_
  refine rC (Calm.move rfl) ?_
  refine rC (Calm.bin rfl rfl b_shr) ?_
  refine rC (Calm.conv rfl (conv_intW Try.underlying24 Try.underlying5 e3)) ?_
  refine rC (Calm.move rfl) ?_
  refine rC (Calm.conv rfl (conv_intW Try.underlying24 Try.underlying5 e4)) ?_
  refine rC (Calm.buildArr (cs := [_, _, _, _, _]) ty_arr_81 rfl rfl) ?_
  first | refine ARun.storeAll rfl rfl ty_size_81 own_ rfl rfl ?_ | refine ARun.store rfl rfl ty_size_81 own_ lens_ rfl ?_
  (try simp only [Mem.set_set, List.set_cons_zero, List.set_cons_succ, Nat.zero_add, Nat.reduceAdd])
  refine arun_nil ?_
  refine athen_n ?_
  refine AWP.sub [(0, _), (2, _)] ⟨rfl, rfl, trivial⟩ ?_
  refine AWP.ret ?_
  refine ⟨_, S, ⟨_, _, _, rfl, .inr ⟨ty_agg_81, [_, _, _, _, _], ty_size_81, rds_, rfl⟩, rfl, rfl⟩, less_, ?_⟩
  exact ⟨rfl, rfl⟩
theorem numV_beyond (n : Nat) (S : Mem) :
    ACall Try.prog 63 #[.int .u64 n] S fun r S' => r = .bool (decide (top ≤ n)) ∧ S' = S := by
  have e : decide ((1099511627776 : Int) ≤ (n : Int)) = decide (top ≤ n) := by rw [Bool.eq_iff_iff]; simp [top]; omega
  refine ACall.enter (args := [.int .u64 n]) (rs := [.tmp 2]) 5 [(0, .int .u64 n)] Try.func63 rfl rfl (Nat.le_of_ble_eq_true rfl) rfl ⟨rfl, trivial⟩ ?_
  refine AWP.seq ?_
  refine AWP.region ?_
  refine rC (Calm.assign rfl) ?_
  refine arun_nil ?_
  refine athen_n ?_
  refine AWP.seq ?_
  refine AWP.region ?_
  refine rC (Calm.move rfl) ?_
  refine rC (Calm.bin rfl rfl (bin_bool (bin_geq _ _) e)) ?_
  refine rC (Calm.assign rfl) ?_
  refine arun_nil ?_
  refine athen_n ?_
  refine AWP.sub [(0, _), (2, _)] ⟨rfl, rfl, trivial⟩ ?_
  refine AWP.ret ?_
  refine ⟨_, S, ⟨_, _, rfl, rfl, rfl⟩, less_, ?_⟩
  exact ⟨rfl, rfl⟩
/-- The place of the first element that a test takes; -1: there is none. -/
def idx {α : Type} (p : α → Bool) (l : List α) : Int := match l.findIdx? p with
  | some i => (i : Nat)
  | none => -1
theorem idx_at {α : Type} (p : α → Bool) (l : List α) (i : Nat) (h : i < l.length) (hb : ∀ j (hj : j < i), p l[j] = false) (hi : p l[i] = true) : idx p l = (i : Nat) := by
  have : l.findIdx? p = some i := List.findIdx?_eq_some_iff_getElem.2 ⟨h, hi, fun j hj => by simpa using hb j hj⟩
  simp [idx, this]
theorem idx_none {α : Type} (p : α → Bool) (l : List α) (hb : ∀ j (hj : j < l.length), p l[j] = false) : idx p l = -1 := by
  have : l.findIdx? p = none := List.findIdx?_eq_none_iff.2 fun x hx => by
    obtain ⟨j, hj, rfl⟩ := List.getElem_of_mem hx
    exact hb j hj
  simp [idx, this]
theorem idx_any {α : Type} (p : α → Bool) (l : List α) : decide (0 ≤ idx p l) = l.any p := by
  by_cases h : l.any p = true
  · rw [h]
    have h2 : (l.findIdx? p).isSome = true := by rw [List.findIdx?_isSome]; exact h
    obtain ⟨i, hi⟩ := Option.isSome_iff_exists.1 h2
    simp [idx, hi]
  · have h' : l.any p = false := by simpa using h
    rw [h']
    have h2 : (l.findIdx? p).isSome = false := by rw [List.findIdx?_isSome]; exact h'
    have : l.findIdx? p = none := by simpa using h2
    simp [idx, this]
theorem numV_IndexFunc (l : List Nat) (v : Value) (S : Mem) (hv : Sl 1 u64s S v l) :
    ACall Try.prog 69 #[v, .func (.func 63) #[] #[]] S fun r S' => r = .int .i64 (idx (fun n => decide (top ≤ n)) l) ∧ S' = S := by
  obtain ⟨a, cap, rfl, hlc, hcap, hk⟩ := hv
  refine ACall.enter (args := [.slice a l.length cap, .func (.func 63) #[] #[]]) (rs := [.tmp 4]) 19 [(0, .slice a l.length cap), (1, .func (.func 63) #[] #[])] Try.func69 rfl rfl (Nat.le_of_ble_eq_true rfl) rfl ⟨rfl, rfl, trivial⟩ ?_
  refine AWP.seq ?_
  refine AWP.region ?_
  refine rC (Calm.assign rfl) ?_
  refine arun_nil ?_
  refine athen_n ?_
  refine AWP.seq ?_
  refine AWP.seq ?_
  refine AWP.region ?_
  refine rC (Calm.move rfl) ?_
  refine rC (Calm.lenSl Try.underlying49 rfl) ?_
  refine rC (Calm.move rfl) ?_
  refine arun_nil ?_
  refine athen_n ?_
  refine AWP.sub [(0, _), (1, _), (4, _), (7, _), (8, _)] ⟨rfl, rfl, rfl, rfl, rfl, trivial⟩ ?_
  refine AWP.block ?_
  refine AWP.loop (X := Nat) (fun x => [(0, .slice a l.length cap), (1, .func (.func 63) #[] #[]), (7, .int .i64 l.length), (8, .int .i64 x)]) (fun x => S) (fun x => x ≤ l.length ∧ ∀ j (hj : j < l.length), j < x → decide (top ≤ l[j]) = false) (fun x => l.length - x) (0) ⟨rfl, rfl, rfl, rfl, trivial⟩ (Mem.Less.refl _) (⟨Nat.zero_le _, fun j _ h => absurd h (Nat.not_lt_zero _)⟩) ?_
  rintro k ⟨hk1, hk2⟩
  (try dsimp only at *)
  refine AWP.seq ?_
  refine AWP.region ?_
  refine rC (Calm.bin rfl rfl b_lss) ?_
  refine arun_nil ?_
  refine athen_n ?_
  refine AWP.seq ?_
  refine AWP.condB rfl (fun hl => ?_) (fun hl => ?_)
  · have hl : k < l.length := by have := of_decide_eq_true hl; omega
    obtain ⟨b, off, rfl, hkn⟩ := hk.resolve_left (by intro h; rw [h] at hl; exact absurd hl (Nat.not_lt_zero _))
    have hkk := hkn k hl
    refine AWP.skip ?_
    refine athen_n ?_
    refine AWP.seq ?_
    refine AWP.block ?_
    refine AWP.seq ?_
    refine AWP.region ?_
    refine rC (Calm.move rfl) ?_
    refine rC (Calm.assign rfl) ?_
    refine arun_nil ?_
    refine athen_n ?_
    refine AWP.sub [(0, _), (1, _), (7, _), (8, _), (9, _), (5, _)] ⟨rfl, rfl, rfl, rfl, rfl, rfl, trivial⟩ ?_
    refine AWP.seq ?_
    refine AWP.region ?_
    refine rC (Calm.move rfl) ?_
    refine rC (Calm.move rfl) ?_
    refine rC (Calm.move rfl) ?_
    refine rC (Calm.indexS Try.underlying49 ty_size_24 rfl rfl (by omega) (by omega)) ?_
    refine rC (ld_ ty_plain_24 rfl) ?_
    refine ARun.callV (lit_lt rfl) go_63 rfl rfl (numV_beyond l[k] S) ?_
    rintro _ S1 ⟨rfl, h1⟩
    rw [h1]; clear h1 S1
    refine arun_nil ?_
    refine athen_n ?_
    refine AWP.sub [(0, _), (1, _), (7, _), (8, _), (9, _), (5, _), (16, _)] ⟨rfl, rfl, rfl, rfl, rfl, rfl, rfl, trivial⟩ ?_
    refine AWP.condB rfl (fun hb => ?_) (fun hb => ?_)
    · refine AWP.seq ?_
      refine AWP.region ?_
      refine rC (Calm.move rfl) ?_
      refine rC (Calm.assign rfl) ?_
      refine arun_nil ?_
      refine athen_n ?_
      refine AWP.sub [(0, _), (1, _), (7, _), (8, _), (9, _), (5, _), (16, _), (4, _)] ⟨rfl, rfl, rfl, rfl, rfl, rfl, rfl, rfl, trivial⟩ ?_
      refine AWP.ret ?_
      refine ain_ret ?_
      refine athen_ret ?_
      refine athen_ret ?_
      refine ain_ret ?_
      refine athen_ret ?_
      refine ⟨_, S, ⟨_, _, rfl, rfl, rfl⟩, less_, ?_⟩
      exact ⟨by rw [idx_at _ _ k hl (fun j hj => hk2 j (by omega) hj) hb]; rfl, rfl⟩
    · refine AWP.skip ?_
      refine ain_n ?_
      refine athen_n ?_
      refine AWP.region ?_
      refine rC (Calm.bin rfl rfl b_add_i64) ?_
      refine rC (Calm.move rfl) ?_
      refine arun_nil ?_
      refine athen_n ?_
      refine ⟨k + 1, ?_, ?_, ?_, ?_⟩
      all_goals (try dsimp only)
      · exact ⟨rfl, rfl, rfl, rfl, trivial⟩
      · exact Mem.Less.refl _
      · exact ⟨hl, fun j hj hj2 => by rcases Nat.lt_or_ge j k with h | h; exact hk2 j hj h; obtain rfl : j = k := (by omega); exact hb⟩
      · omega
  · have hl : k = l.length := by have := of_decide_eq_false hl; omega
    refine AWP.exit ?_
    refine athen_exit ?_
    refine athen_exit ?_
    refine ain_same ?_
    refine athen_n ?_
    refine AWP.seq ?_
    refine AWP.region ?_
    refine rC (Calm.assign rfl) ?_
    refine arun_nil ?_
    refine athen_n ?_
    refine AWP.ret ?_
    refine ⟨_, S, ⟨_, _, rfl, rfl, rfl⟩, less_, ?_⟩
    exact ⟨by rw [idx_none _ _ (fun j hj => hk2 j hj (by omega))]; rfl, rfl⟩
theorem numV_ContainsFunc (l : List Nat) (v : Value) (S : Mem) (hv : Sl 1 u64s S v l) :
    ACall Try.prog 62 #[v, .func (.func 63) #[] #[]] S fun r S' => r = .bool (l.any fun n => decide (top ≤ n)) ∧ S' = S := by
  have hq := idx_any (fun n => decide (top ≤ n)) l
  obtain ⟨a, cap, rfl, _⟩ := id hv
  refine ACall.enter (args := [.slice a l.length cap, .func (.func 63) #[] #[]]) (rs := [.tmp 4]) 9 [(0, .slice a l.length cap), (1, .func (.func 63) #[] #[])] Try.func62 rfl rfl (Nat.le_of_ble_eq_true rfl) rfl ⟨rfl, rfl, trivial⟩ ?_
  refine AWP.seq ?_
  refine AWP.region ?_
  refine rC (Calm.assign rfl) ?_
  refine arun_nil ?_
  refine athen_n ?_
  refine AWP.seq ?_
  refine AWP.region ?_
  refine rC (Calm.move rfl) ?_
  refine rC (Calm.move rfl) ?_
  refine ARun.call (lit_lt rfl) go_69 rfl (numV_IndexFunc l _ S hv) ?_
  rintro _ S1 ⟨rfl, h1⟩
  rw [h1]; clear h1 S1
  refine rC (Calm.bin rfl rfl (bin_bool (bin_geq _ _) hq)) ?_
  refine rC (Calm.assign rfl) ?_
  refine arun_nil ?_
  refine athen_n ?_
  refine AWP.sub [(0, _), (1, _), (4, _)] ⟨rfl, rfl, rfl, trivial⟩ ?_
  refine AWP.ret ?_
  refine ⟨_, S, ⟨_, _, rfl, rfl, rfl⟩, less_, ?_⟩
  exact ⟨rfl, rfl⟩
theorem recOK_spec (l : List Nat) : recOK l = (!(decide (l.length < 1) || (decide (8 < l.length) || l.any fun n => decide (top ≤ n)))) := by
  unfold recOK
  rw [Bool.eq_iff_iff]
  simp only [Bool.and_eq_true, decide_eq_true_eq, List.all_eq_true, Bool.not_eq_true', Bool.or_eq_false_iff, decide_eq_false_iff_not, List.any_eq_false]
  constructor
  · rintro ⟨⟨h1, h2⟩, h3⟩; exact ⟨by omega, by omega, fun x hx => by have := h3 x hx; omega⟩
  · rintro ⟨h1, h2, h3⟩; exact ⟨⟨by omega, by omega⟩, fun x hx => by have := h3 x hx; omega⟩
theorem cellsB_append (l m : List UInt8) : cellsB (l ++ m) = cellsB l ++ cellsB m := by simp [cellsB]
theorem cellsB_one (l : List UInt8) : ∀ v ∈ cellsB l, v.oneCell' = true := fun v hv => by obtain ⟨c, _, rfl⟩ := List.mem_map.1 hv; rfl
set_option maxHeartbeats 1000000 in
theorem numV_Record (l : List Nat) (v : Value) (S : Mem) (hv : Sl 1 u64s S v l) (hb : ∀ x ∈ l, x < 18446744073709551616) :
    ACall Try.prog 40 #[v] S fun r S' => r = pairV (recP l) ∧ S' = S := by
  have hq := recOK_spec l
  unfold recP
  obtain ⟨a, cap, rfl, hlc, hcap, hk⟩ := id hv
  by_cases c1 : l.length < 1
  · rw [if_neg (by rw [hq]; simp [c1])]
    refine ACall.enter (args := [.slice a l.length cap]) (rs := [.tmp 2, .tmp 3]) 38 [(0, .slice a l.length cap)] Try.func40 rfl rfl (Nat.le_of_ble_eq_true rfl) rfl ⟨rfl, trivial⟩ ?_
    refine AWP.seq ?_
    refine AWP.region ?_
    refine rC (Calm.assign rfl) ?_
    refine rC (Calm.assign rfl) ?_
    refine arun_nil ?_
    refine athen_n ?_
    refine AWP.seq ?_
    refine AWP.seq ?_
    refine AWP.region ?_
    refine rC (Calm.move rfl) ?_
    refine rC (Calm.lenSl Try.underlying49 rfl) ?_
    refine rC (Calm.bin rfl rfl b_lss) ?_
    refine rC (Calm.move rfl) ?_
    first | refine rS 11 ?_ | refine rU 11 ?_ | refine rG 11 (Calm.move rfl) ?_
    first | refine rS 11 ?_ | refine rU 11 ?_ | refine rG 11 (Calm.lenSl Try.underlying49 rfl) ?_
    first | refine rS 11 ?_ | refine rU 11 ?_ | refine rG 11 (Calm.bin rfl rfl b_gtr) ?_
    refine rC ((by first | exact Calm.pickT rfl rfl | exact Calm.pickF rfl rfl)) ?_
    refine rC (Calm.move rfl) ?_
    first | refine rS 16 ?_ | refine rU 16 ?_ | refine rG 16 (Calm.move rfl) ?_
    first | refine rS 16 ?_ | refine rU 16 ?_
    refine rC ((by first | exact Calm.pickT rfl rfl | exact Calm.pickF rfl rfl)) ?_
    refine arun_nil ?_
    refine athen_n ?_
    refine AWP.sub [(0, _), (2, _), (3, _), (19, _)] ⟨rfl, rfl, rfl, rfl, trivial⟩ ?_
    refine AWP.condT rfl (by first | rfl | (simp; done) | (simp; omega)) ?_
    refine AWP.seq ?_
    refine AWP.region ?_
    refine rC (Calm.assign rfl) ?_
    refine rC (Calm.assign rfl) ?_
    refine arun_nil ?_
    refine athen_n ?_
    refine AWP.ret ?_
    refine athen_ret ?_
    refine ⟨_, S, ⟨_, _, rfl, ⟨_, _, rfl, rfl, rfl⟩, rfl⟩, less_, ?_⟩
    exact ⟨rfl, rfl⟩
  by_cases c2 : 8 < l.length
  · rw [if_neg (by rw [hq]; simp [c2])]
    refine ACall.enter (args := [.slice a l.length cap]) (rs := [.tmp 2, .tmp 3]) 38 [(0, .slice a l.length cap)] Try.func40 rfl rfl (Nat.le_of_ble_eq_true rfl) rfl ⟨rfl, trivial⟩ ?_
    refine AWP.seq ?_
    refine AWP.region ?_
    refine rC (Calm.assign rfl) ?_
    refine rC (Calm.assign rfl) ?_
    refine arun_nil ?_
    refine athen_n ?_
    refine AWP.seq ?_
    refine AWP.seq ?_
    refine AWP.region ?_
    refine rC (Calm.move rfl) ?_
    refine rC (Calm.lenSl Try.underlying49 rfl) ?_
    refine rC (Calm.bin rfl rfl b_lss) ?_
    refine rC (Calm.move rfl) ?_
    first | refine rS 11 ?_ | refine rU 11 ?_ | refine rG 11 (Calm.move rfl) ?_
    first | refine rS 11 ?_ | refine rU 11 ?_ | refine rG 11 (Calm.lenSl Try.underlying49 rfl) ?_
    first | refine rS 11 ?_ | refine rU 11 ?_ | refine rG 11 (Calm.bin rfl rfl b_gtr) ?_
    refine rC ((by first | exact Calm.pickT rfl rfl | exact Calm.pickF rfl rfl)) ?_
    refine rC (Calm.move rfl) ?_
    first | refine rS 16 ?_ | refine rU 16 ?_ | refine rG 16 (Calm.move rfl) ?_
    first | refine rS 16 ?_ | refine rU 16 ?_
    refine rC ((by first | exact Calm.pickT rfl rfl | exact Calm.pickF rfl rfl)) ?_
    refine arun_nil ?_
    refine athen_n ?_
    refine AWP.sub [(0, _), (2, _), (3, _), (19, _)] ⟨rfl, rfl, rfl, rfl, trivial⟩ ?_
    refine AWP.condT rfl (by first | rfl | (simp; done) | (simp; omega)) ?_
    refine AWP.seq ?_
    refine AWP.region ?_
    refine rC (Calm.assign rfl) ?_
    refine rC (Calm.assign rfl) ?_
    refine arun_nil ?_
    refine athen_n ?_
    refine AWP.ret ?_
    refine athen_ret ?_
    refine ⟨_, S, ⟨_, _, rfl, ⟨_, _, rfl, rfl, rfl⟩, rfl⟩, less_, ?_⟩
    exact ⟨rfl, rfl⟩
  cases c3 : l.any fun n => decide (top ≤ n) with
  | true =>
    rw [if_neg (by rw [hq, c3]; simp)]
    refine ACall.enter (args := [.slice a l.length cap]) (rs := [.tmp 2, .tmp 3]) 38 [(0, .slice a l.length cap)] Try.func40 rfl rfl (Nat.le_of_ble_eq_true rfl) rfl ⟨rfl, trivial⟩ ?_
    refine AWP.seq ?_
    refine AWP.region ?_
    refine rC (Calm.assign rfl) ?_
    refine rC (Calm.assign rfl) ?_
    refine arun_nil ?_
    refine athen_n ?_
    refine AWP.seq ?_
    refine AWP.seq ?_
    refine AWP.region ?_
    refine rC (Calm.move rfl) ?_
    refine rC (Calm.lenSl Try.underlying49 rfl) ?_
    refine rC (Calm.bin rfl rfl b_lss) ?_
    refine rC (Calm.move rfl) ?_
    first | refine rS 11 ?_ | refine rU 11 ?_ | refine rG 11 (Calm.move rfl) ?_
    first | refine rS 11 ?_ | refine rU 11 ?_ | refine rG 11 (Calm.lenSl Try.underlying49 rfl) ?_
    first | refine rS 11 ?_ | refine rU 11 ?_ | refine rG 11 (Calm.bin rfl rfl b_gtr) ?_
    refine rC ((by first | exact Calm.pickT rfl rfl | exact Calm.pickF rfl rfl)) ?_
    refine rC (Calm.move rfl) ?_
    first | refine rS 16 ?_ | refine rU 16 ?_ | refine rG 16 (Calm.move rfl) ?_
    refine ARun.callG 8 false 16 rfl (lit_lt rfl) rfl (lit_lt rfl) go_62 rfl (numV_ContainsFunc l _ S hv) ?_
    rintro _ S1 ⟨rfl, h1⟩
    rw [h1, c3]; clear h1 S1
    refine rC ((by first | exact Calm.pickT rfl rfl | exact Calm.pickF rfl rfl)) ?_
    refine arun_nil ?_
    refine athen_n ?_
    refine AWP.sub [(0, _), (2, _), (3, _), (19, _)] ⟨rfl, rfl, rfl, rfl, trivial⟩ ?_
    refine AWP.condT rfl (by first | rfl | (simp; done) | (simp; omega)) ?_
    refine AWP.seq ?_
    refine AWP.region ?_
    refine rC (Calm.assign rfl) ?_
    refine rC (Calm.assign rfl) ?_
    refine arun_nil ?_
    refine athen_n ?_
    refine AWP.ret ?_
    refine athen_ret ?_
    refine ⟨_, S, ⟨_, _, rfl, ⟨_, _, rfl, rfl, rfl⟩, rfl⟩, less_, ?_⟩
    exact ⟨rfl, rfl⟩
  | false =>
    rw [if_pos (by rw [hq, c3]; simp only [c1, c2, decide_false]; rfl)]
    have c3' := List.any_eq_false.1 c3
    obtain ⟨b0, off, rfl, hkn⟩ := hk.resolve_left (by intro h; rw [h] at c1; simp at c1)
    refine ACall.enter (args := [.slice (some ⟨b0, off, none⟩) l.length cap]) (rs := [.tmp 2, .tmp 3]) 38 [(0, .slice (some ⟨b0, off, none⟩) l.length cap)] Try.func40 rfl rfl (Nat.le_of_ble_eq_true rfl) rfl ⟨rfl, trivial⟩ ?_
    refine AWP.seq ?_
    refine AWP.region ?_
    refine rC (Calm.assign rfl) ?_
    refine rC (Calm.assign rfl) ?_
    refine arun_nil ?_
    refine athen_n ?_
    refine AWP.seq ?_
    refine AWP.seq ?_
    refine AWP.region ?_
    refine rC (Calm.move rfl) ?_
    refine rC (Calm.lenSl Try.underlying49 rfl) ?_
    refine rC (Calm.bin rfl rfl b_lss) ?_
    refine rC (Calm.move rfl) ?_
    first | refine rS 11 ?_ | refine rU 11 ?_ | refine rG 11 (Calm.move rfl) ?_
    first | refine rS 11 ?_ | refine rU 11 ?_ | refine rG 11 (Calm.lenSl Try.underlying49 rfl) ?_
    first | refine rS 11 ?_ | refine rU 11 ?_ | refine rG 11 (Calm.bin rfl rfl b_gtr) ?_
    refine rC ((by first | exact Calm.pickT rfl rfl | exact Calm.pickF rfl rfl)) ?_
    refine rC (Calm.move rfl) ?_
    first | refine rS 16 ?_ | refine rU 16 ?_ | refine rG 16 (Calm.move rfl) ?_
    refine ARun.callG 8 false 16 rfl (lit_lt rfl) rfl (lit_lt rfl) go_62 rfl (numV_ContainsFunc l _ S hv) ?_
    rintro _ S1 ⟨rfl, h1⟩
    rw [h1, c3]; clear h1 S1
    refine rC ((by first | exact Calm.pickT rfl rfl | exact Calm.pickF rfl rfl)) ?_
    refine arun_nil ?_
    refine athen_n ?_
    refine AWP.sub [(0, _), (2, _), (3, _), (19, _)] ⟨rfl, rfl, rfl, rfl, trivial⟩ ?_
    refine AWP.condF rfl (by first | rfl | (simp; done) | (simp; omega)) ?_
    refine AWP.skip ?_
    refine athen_n ?_
    refine AWP.seq ?_
    refine AWP.region ?_
    refine rC (Calm.move rfl) ?_
    refine rC (Calm.lenSl Try.underlying49 rfl) ?_
    refine rC (Calm.bin rfl rfl b_mul_i64) ?_
    refine ARun.makeSliceP (lit_lt rfl) ty_sl_63 rfl rfl (by omega) (by omega) (by omega) (by omega) ?_
    intro b23 f23
    have g23 := f23
    repeat ((with_reducible replace g23 := fresh_set g23); obtain ⟨g23, _⟩ := g23)
    refine rC (Calm.assign rfl) ?_
    refine arun_nil ?_
    refine athen_n ?_
    refine AWP.sub [(0, _), (2, _), (3, _), (19, _), (4, _)] ⟨rfl, rfl, rfl, rfl, rfl, trivial⟩ ?_
    have em : (5 * (l.length : Int)).toNat = 5 * l.length := by omega
    simp only [em, Nat.mul_one, madeL_one, Int.toNat_zero, List.replicate_zero]
    refine AWP.seq ?_
    refine AWP.seq ?_
    refine AWP.region ?_
    refine rC (Calm.move rfl) ?_
    refine rC (Calm.lenSl Try.underlying49 rfl) ?_
    refine rC (Calm.move rfl) ?_
    refine arun_nil ?_
    refine athen_n ?_
    refine AWP.block ?_
    refine AWP.loop (X := Nat × Option (Nat × Nat)) (fun x => [(4, outV x.2 (5 * x.1)), (24, .slice (some ⟨b0, off, none⟩) l.length cap), (25, .int .i64 l.length), (26, .int .i64 x.1)]) (fun x => outM S x.2 5 (cellsB (recB (l.take x.1)))) (fun x => x.1 ≤ l.length ∧ OkO S x.2 (5 * x.1)) (fun x => l.length - x.1) ((0, some (b23, 5 * l.length))) ⟨rfl, rfl, rfl, rfl, trivial⟩ (Mem.Less.refl _) (⟨Nat.zero_le _, okO_own g23 (Nat.zero_le _)⟩) ?_
    rintro ⟨k, o⟩ ⟨hk1, ho⟩
    (try dsimp only at *)
    refine AWP.seq ?_
    refine AWP.region ?_
    refine rC (Calm.bin rfl rfl b_lss) ?_
    refine arun_nil ?_
    refine athen_n ?_
    refine AWP.seq ?_
    refine AWP.condB rfl (fun hl => ?_) (fun hl => ?_)
    · have hl : k < l.length := by have := of_decide_eq_true hl; omega
      have hkk := (hkn k hl).less (outM_over (e := 5) (cs := cellsB (recB (l.take k))) ho)
      have hlen : (cellsB (recB (l.take k))).length = 5 * k := by rw [cellsB_length, recB_length, List.length_take]; omega
      have hx5 := five_length l[k]
      refine AWP.skip ?_
      refine athen_n ?_
      refine AWP.seq ?_
      refine AWP.block ?_
      refine AWP.seq ?_
      refine AWP.region ?_
      refine rC (Calm.indexS Try.underlying49 ty_size_24 rfl rfl (by omega) (by omega)) ?_
      refine rC (ld_ ty_plain_24 rfl) ?_
      refine rC (Calm.assign rfl) ?_
      refine arun_nil ?_
      refine athen_n ?_
      refine AWP.sub [(4, _), (24, _), (25, _), (26, _), (27, _), (6, _)] ⟨rfl, rfl, rfl, rfl, rfl, rfl, trivial⟩ ?_
      refine AWP.seq ?_
      refine AWP.region ?_
      refine rC (Calm.move rfl) ?_
      refine ARun.call (lit_lt rfl) go_64 rfl (numV_Five l[k] _ (hb _ (List.getElem_mem _))) ?_
      rintro _ S1 ⟨rfl, h1⟩
      rw [h1]; clear h1 S1
      refine ARun.alloc (lit_lt rfl) ty_zero_81 ?_
      intro b7 f7
      have g7 := f7
      repeat ((with_reducible replace g7 := fresh_set g7); obtain ⟨g7, _⟩ := g7)
      (try simp only [List.length_cons, List.length_nil, Nat.zero_add, Nat.reduceAdd])
      first | refine ARun.storeAll rfl rfl ty_size_81 own_ rfl rfl ?_ | refine ARun.store rfl rfl ty_size_81 own_ lens_ rfl ?_
      (try simp only [Mem.set_set, List.set_cons_zero, List.set_cons_succ, Nat.zero_add, Nat.reduceAdd])
      refine arun_nil ?_
      refine athen_n ?_
      refine AWP.sub [(4, _), (24, _), (25, _), (26, _), (27, _), (6, _), (7, _)] ⟨rfl, rfl, rfl, rfl, rfl, rfl, rfl, trivial⟩ ?_
      refine AWP.region ?_
      refine rC (Calm.move rfl) ?_
      refine rC (Calm.sliceArr Try.underlying81 ty_size_5 rfl (bnd_none _ _)) ?_
      refine ARun.appendO (lit_lt rfl) ty_sl_63 rfl hlen (appO_of ho hlen g7) rfl (news := cellsB (five l[k])) rds_ rfl (by omega) (cellsB_one _) (by omega) (by omega) ?_
      intro b34 c34 ho2
      rw [← cellsB_append, ← recB_snoc, ← List.take_succ_eq_append_getElem hl]
      refine rC (Calm.assign rfl) ?_
      refine arun_nil ?_
      refine ain_n ?_
      refine athen_n ?_
      refine AWP.sub [(4, _), (24, _), (25, _), (26, _), (27, _), (6, _), (7, _)] ⟨rfl, rfl, rfl, rfl, rfl, rfl, rfl, trivial⟩ ?_
      refine AWP.region ?_
      refine rC (Calm.bin rfl rfl b_add_i64) ?_
      refine rC (Calm.move rfl) ?_
      refine arun_nil ?_
      refine athen_n ?_
      refine ⟨(k + 1, some (b34, c34)), ?_, ?_, ?_, ?_⟩
      all_goals (try dsimp only)
      · exact ⟨rfl, rfl, rfl, some_int (by omega), trivial⟩
      · exact Mem.Less.refl _
      · exact ⟨hl, ho2⟩
      · omega
    · have hl : k = l.length := by have := of_decide_eq_false hl; omega
      subst hl
      rw [List.take_length]
      obtain ⟨bo, co, rfl⟩ := ho.some (by omega)
      refine AWP.exit ?_
      refine athen_exit ?_
      refine athen_exit ?_
      refine ain_same ?_
      refine athen_n ?_
      refine AWP.seq ?_
      refine AWP.region ?_
      refine rC (Calm.move rfl) ?_
      refine rC (Calm.toStr ty_bytes_63 ty_str_9 rfl (recB_length l) (rds_outM _ _ _ _ _)) ?_
      refine rC (Calm.assign rfl) ?_
      refine rC (Calm.assign rfl) ?_
      refine arun_nil ?_
      refine athen_n ?_
      refine AWP.sub [(4, _), (24, _), (25, _), (26, _), (27, _), (2, _), (3, _)] ⟨rfl, rfl, rfl, rfl, rfl, rfl, rfl, trivial⟩ ?_
      refine AWP.ret ?_
      refine ⟨_, S, ⟨_, _, rfl, ⟨_, _, rfl, rfl, rfl⟩, rfl⟩, outM_over ho, ?_⟩
      exact ⟨rfl, rfl⟩
end Go.Proofs.Ytpeljbmbgjeomaa
