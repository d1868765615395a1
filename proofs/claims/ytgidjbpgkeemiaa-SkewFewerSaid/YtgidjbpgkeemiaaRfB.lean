/-
  The iterator slices.Backward over a level's pointers, by the kit's contract of an iterator.
-/
import Derived.Test.YtgidjbpgkeemiaaRf
namespace Go.Proofs.Ytgidjbpgkeemiaa
open Go.RowKit Go.Shelf
open Mv
set_option linter.unusedVariables false
set_option linter.unusedSimpArgs false
attribute [local go_sem] Oper.semAt_some
def pV (p : Nat) : Value := .pointer (some ⟨p, 0, none⟩)
set_option maxRecDepth 100000 in
set_option maxHeartbeats 2000000 in
theorem back_it (l Bs b off cap n : Nat) (ix : Nat → Nat) (hreach : n ≤ 16384) (J : Nat → World → Prop) (W : World)
    (hK : ∀ k W, J k W → W.cell? ⟨Bs, 0, none⟩ = some (.slice (some ⟨b, off, none⟩) n cap) ∧ ∀ j, j < n → W.cell? ⟨b, off + j, none⟩ = some (pV (ix j)))
    (hY : ∀ k W, k < n → J k W → YieldAt Fence.wide 4 Try.prog l #[.int .i64 ((n - 1 - k : Nat) : Int), pV (ix (n - 1 - k))] W fun e W' => e = .returned (.bool true) ∧ J (k + 1) W') (h0 : J 0 W) :
    CallsIn Fence.wide 5 Try.prog 137 #[.func (.yield l) #[] #[], .pointer (some ⟨Bs, 0, none⟩)] W fun e W' => (∃ v, e = .returned v) ∧ J n W' := by
  refine callsIn_of_wp Try.func137 rfl trivial ?_ rfl
  simp only [Try.ntmps137, List.size_toArray, List.length_cons, List.length_nil, Nat.reduceAdd, Nat.reduceSub, Array.replicate_succ, Array.replicate_zero, List.push_toArray, List.append_toArray, List.nil_append, List.cons_append]
  have hBs := (hK 0 W h0).1
  gi_wp2
  gi_loopw [3] (fun i wr => ∃ k : Nat, k ≤ n ∧ i = .int .i64 ((n : Int) - 1 - k) ∧ J k wr)
    (fun i _ => (intOf i + 1).toNat)
  case atStart => exact ⟨0, Nat.zero_le _, by simp, h0⟩
  case round =>
    obtain ⟨k, hk, rfl, hJs⟩ := hrel
    by_cases hlt : k < n
    · obtain ⟨m, hm⟩ : ∃ m, n - 1 - k = m := ⟨_, rfl⟩
      have hm' : (n : Int) - 1 - k = m := by omega
      have hml : m < n := by omega
      obtain ⟨fn, tmps, assign, body, hy, hR⟩ := hY k wr hlt hJs
      rw [hm] at hy
      dsimp only [pV] at hy
      rw [hm']
      have hc0 : wr.cell? ⟨b, off + m, none⟩ = some (.pointer (some ⟨ix m, 0, none⟩)) := (hK k wr hJs).2 m hml
      have hBs' := (hK k wr hJs).1
      gi_wp2
      refine hR.mono ?_
      rintro e W3 ⟨rfl, hJ3⟩
      gi_wp2
      go_roundw
      case rel => exact ⟨k + 1, by omega, by simp; omega, hJ3⟩
      case measure => simp [intOf]
    · obtain rfl : k = n := by omega
      have e1 : (k : Int) - 1 - k = -1 := by omega
      rw [e1]
      gi_wp2
      go_end0
      exact ⟨⟨_, rfl⟩, hJs⟩
set_option maxHeartbeats 1000000 in
theorem sk_Backward (a : Option Addr) (n c : Nat) (S : Mem) : ACall Try.prog 104 #[.slice a n c] S fun r S' => ∃ b, Fresh S b ∧ r = .func (.func 137) #[] #[.pointer (some ⟨b, 0, none⟩)] ∧ S' = S.set b ⟨121, [.slice a n c], 1⟩ := by
  refine ACall.enter (args := [.slice a n c]) (rs := [.tmp 2]) 4 [(0, .slice a n c)] Try.func104 rfl rfl (Nat.le_of_ble_eq_true rfl) rfl ⟨rfl, trivial⟩ ?_
  refine AWP.seq ?_
  refine AWP.region ?_
  refine ARun.box1 (lit_lt rfl) rfl rfl ?_
  intro b1 f1
  have g1 := f1
  repeat ((with_reducible replace g1 := fresh_set g1); obtain ⟨g1, _⟩ := g1)
  (try simp only [List.length_cons, List.length_nil, Nat.zero_add, Nat.reduceAdd])
  refine rC (Calm.assign rfl) ?_
  refine arun_nil ?_
  refine athen_n ?_
  refine AWP.seq ?_
  refine AWP.region ?_
  refine rC (Calm.makeFunc rfl rfl) ?_
  refine rC (Calm.assign rfl) ?_
  refine arun_nil ?_
  refine athen_n ?_
  refine AWP.sub [(0, _), (1, _), (2, _)] ⟨rfl, rfl, rfl, trivial⟩ ?_
  refine AWP.ret ?_
  refine ⟨_, _, ⟨_, _, rfl, rfl, rfl⟩, Mem.Less.refl _, ?_⟩
  exact ⟨b1, f1, rfl, rfl⟩
/-- The slots of skew.Of, one by one. -/
theorem tmps56 (t : Array Value) (h : t.size = 56) : ∃ (x0 : Value) (x1 : Value) (x2 : Value) (x3 : Value) (x4 : Value) (x5 : Value) (x6 : Value) (x7 : Value) (x8 : Value) (x9 : Value) (x10 : Value) (x11 : Value) (x12 : Value) (x13 : Value) (x14 : Value) (x15 : Value) (x16 : Value) (x17 : Value) (x18 : Value) (x19 : Value) (x20 : Value) (x21 : Value) (x22 : Value) (x23 : Value) (x24 : Value) (x25 : Value) (x26 : Value) (x27 : Value) (x28 : Value) (x29 : Value) (x30 : Value) (x31 : Value) (x32 : Value) (x33 : Value) (x34 : Value) (x35 : Value) (x36 : Value) (x37 : Value) (x38 : Value) (x39 : Value) (x40 : Value) (x41 : Value) (x42 : Value) (x43 : Value) (x44 : Value) (x45 : Value) (x46 : Value) (x47 : Value) (x48 : Value) (x49 : Value) (x50 : Value) (x51 : Value) (x52 : Value) (x53 : Value) (x54 : Value) (x55 : Value), t = #[x0, x1, x2, x3, x4, x5, x6, x7, x8, x9, x10, x11, x12, x13, x14, x15, x16, x17, x18, x19, x20, x21, x22, x23, x24, x25, x26, x27, x28, x29, x30, x31, x32, x33, x34, x35, x36, x37, x38, x39, x40, x41, x42, x43, x44, x45, x46, x47, x48, x49, x50, x51, x52, x53, x54, x55] := by
  have := tmps_lit t 56 h
  simp only [List.range, List.range.loop, List.map_cons, List.map_nil] at this
  exact ⟨_, _, _, _, _, _, _, _, _, _, _, _, _, _, _, _, _, _, _, _, _, _, _, _, _, _, _, _, _, _, _, _, _, _, _, _, _, _, _, _, _, _, _, _, _, _, _, _, _, _, _, _, _, _, _, _, this⟩
end Go.Proofs.Ytgidjbpgkeemiaa
