/-
  Order: where each number is by the document; what is right, by both.
-/
import Derived.Test.YtgidjbpgkeemiaaOrd1
import Derived.Test.YtgidjbpgkeemiaaDraw
namespace Go.Proofs.Ytgidjbpgkeemiaa
open Go.RowKit
open Mv Num
set_option linter.unusedVariables false
set_option linter.unusedSimpArgs false
set_option maxRecDepth 4000
def gB (b : Bool) : Value := .bool b
set_option maxHeartbeats 1000000 in
theorem rr_Inverse (v : Value) (l : List Int) (S : Mem) (hv : Sl 1 i64s S v l) (hl : l.length ≤ 17592186043904) :
    ACall Try.prog 50 #[v] S (InvR l S) := by
  obtain ⟨a, cap, rfl, h1, h2, h3⟩ := id hv
  refine ACall.enter (args := [.slice a l.length cap]) (rs := [.tmp 2, .tmp 3]) 44 [(0, .slice a l.length cap)] Try.func50 rfl rfl (Nat.le_of_ble_eq_true rfl) rfl ⟨rfl, trivial⟩ ?_
  refine AWP.seq ?_
  refine AWP.region ?_
  refine rC (Calm.assign rfl) ?_
  refine rC (Calm.assign rfl) ?_
  refine arun_nil ?_
  refine athen_n ?_
  refine AWP.seq ?_
  refine AWP.region ?_
  refine rC (Calm.move rfl) ?_
  refine rC (Calm.lenSl Try.underlying24 rfl) ?_
  refine ARun.makeSlice (lit_lt rfl) ty_sl_24 rfl rfl (by omega) (by omega) (by omega) (by omega) ?_
  intro b10 f10
  have g10 := f10
  repeat ((with_reducible replace g10 := fresh_set g10); obtain ⟨g10, _⟩ := g10)
  refine rC (Calm.assign rfl) ?_
  refine arun_nil ?_
  refine athen_n ?_
  refine AWP.sub [(0, _), (2, _), (3, _), (4, _)] ⟨rfl, rfl, rfl, rfl, trivial⟩ ?_
  refine AWP.seq ?_
  refine AWP.region ?_
  refine rC (Calm.move rfl) ?_
  refine rC (Calm.lenSl Try.underlying24 rfl) ?_
  refine ARun.makeSlice (lit_lt rfl) ty_sl_40 rfl rfl (by omega) (by omega) (by omega) (by omega) ?_
  intro b13 f13
  have g13 := f13
  repeat ((with_reducible replace g13 := fresh_set g13); obtain ⟨g13, _⟩ := g13)
  refine rC (Calm.assign rfl) ?_
  refine arun_nil ?_
  refine athen_n ?_
  refine AWP.sub [(0, _), (2, _), (3, _), (4, _), (5, _)] ⟨rfl, rfl, rfl, rfl, rfl, trivial⟩ ?_
  have z1 : madeL [Value.int .i64 0] ((l.length : Int).toNat * 1) = (List.replicate l.length (0 : Int)).map gZ := by rw [Int.toNat_natCast, Nat.mul_one, madeL_one, List.map_replicate]; rfl
  have z2 : madeL [Value.bool false] ((l.length : Int).toNat * 1) = (List.replicate l.length false).map gB := by rw [Int.toNat_natCast, Nat.mul_one, madeL_one, List.map_replicate]; rfl
  rw [z1, z2, Int.toNat_natCast, Nat.mul_one]
  refine AWP.seq ?_
  refine AWP.seq ?_
  refine AWP.region ?_
  refine rC (Calm.move rfl) ?_
  refine rC (Calm.lenSl Try.underlying24 rfl) ?_
  refine rC (Calm.move rfl) ?_
  refine arun_nil ?_
  refine athen_n ?_
  refine AWP.block ?_
  refine AWP.loop (X := Nat × List Int × List Bool) (fun x => [(0, .slice a l.length cap), (4, .slice (some ⟨b10, 0, none⟩) l.length l.length), (5, .slice (some ⟨b13, 0, none⟩) l.length l.length), (14, .slice a l.length cap), (15, .int .i64 l.length), (16, .int .i64 x.1)]) (fun x => (S.set b10 ⟨3, x.2.1.map gZ, l.length⟩).set b13 ⟨4, x.2.2.map gB, l.length⟩) (fun x => x.1 ≤ l.length ∧ InvD l x.1 x.2.1 x.2.2) (fun x => l.length - x.1) ((0, List.replicate l.length 0, List.replicate l.length false)) ⟨rfl, rfl, rfl, rfl, rfl, rfl, trivial⟩ (Mem.Less.refl _) (⟨Nat.zero_le _, invD_start l⟩) ?_
  rintro ⟨i, x, y⟩ ⟨hi, hI⟩
  (try dsimp only at *)
  have hxl := hI.1.len
  have hyl := hI.2.1
  have hSS : S.Less ((S.set b10 ⟨3, x.map gZ, l.length⟩).set b13 ⟨4, y.map gB, l.length⟩) := less_
  by_cases hc : i < l.length
  · refine AWP.seq ?_
    refine AWP.region ?_
    refine rC (Calm.bin rfl rfl b_lss) ?_
    refine arun_nil ?_
    refine athen_n ?_
    refine AWP.seq ?_
    refine AWP.condT rfl (by first | rfl | (simp; done) | (simp; omega)) ?_
    obtain ⟨b, off, rfl, hk⟩ := h3.resolve_left (fun h => by rw [h] at hc; exact absurd hc (Nat.not_lt_zero _))
    have hki : Mem.Knows ((S.set b10 ⟨3, x.map gZ, l.length⟩).set b13 ⟨4, y.map gB, l.length⟩) ⟨b, off + i * 1, none⟩ [.int .i64 l[i]] := (hk i hc).less hSS
    by_cases c0 : l[i] < 0
    · refine AWP.skip ?_
      refine athen_n ?_
      refine AWP.seq ?_
      refine AWP.block ?_
      refine AWP.seq ?_
      refine AWP.region ?_
      refine rC (Calm.move rfl) ?_
      refine rC (Calm.indexS Try.underlying24 ty_size_3 rfl rfl (by omega) (by omega)) ?_
      refine rC (ld_ ty_plain_3 rfl) ?_
      refine rC (Calm.assign rfl) ?_
      refine rC (Calm.assign rfl) ?_
      refine arun_nil ?_
      refine athen_n ?_
      refine AWP.sub [(0, _), (4, _), (5, _), (14, _), (15, _), (16, _), (17, _), (6, _), (7, _)] ⟨rfl, rfl, rfl, rfl, rfl, rfl, rfl, rfl, rfl, trivial⟩ ?_
      refine AWP.seq ?_
      refine AWP.seq ?_
      refine AWP.region ?_
      refine rC (Calm.move rfl) ?_
      refine rC (Calm.bin rfl rfl b_lss) ?_
      refine rC (Calm.move rfl) ?_
      first | refine rS 23 ?_ | refine rU 23 ?_ | refine rG 23 (Calm.move rfl) ?_
      first | refine rS 23 ?_ | refine rU 23 ?_ | refine rG 23 (Calm.move rfl) ?_
      first | refine rS 23 ?_ | refine rU 23 ?_ | refine rG 23 (Calm.lenSl Try.underlying24 rfl) ?_
      first | refine rS 23 ?_ | refine rU 23 ?_ | refine rG 23 (Calm.bin rfl rfl b_geq) ?_
      refine rC ((by first | exact Calm.pickT rfl rfl | exact Calm.pickF rfl rfl)) ?_
      refine rC (Calm.move rfl) ?_
      first | refine rS 29 ?_ | refine rU 29 ?_ | refine rG 29 (Calm.move rfl) ?_
      first | refine rS 29 ?_ | refine rU 29 ?_ | refine rG 29 (Calm.move rfl) ?_
      first | refine rS 29 ?_ | refine rU 29 ?_ | refine rG 29 (Calm.indexS Try.underlying40 ty_size_4 rfl rfl (by omega) (by omega)) ?_
      first | refine rS 29 ?_ | refine rU 29 ?_ | refine rG 29 (ld_ ty_plain_4 rfl) ?_
      refine rC ((by first | exact Calm.pickT rfl rfl | exact Calm.pickF rfl rfl)) ?_
      refine arun_nil ?_
      refine athen_n ?_
      refine AWP.sub [(0, _), (4, _), (5, _), (14, _), (15, _), (16, _), (17, _), (6, _), (7, _), (34, _)] ⟨rfl, rfl, rfl, rfl, rfl, rfl, rfl, rfl, rfl, rfl, trivial⟩ ?_
      refine AWP.condT rfl (by first | rfl | (simp; done) | (simp; omega)) ?_
      refine AWP.seq ?_
      refine AWP.region ?_
      refine rC (Calm.assign rfl) ?_
      refine rC (Calm.assign rfl) ?_
      refine arun_nil ?_
      refine athen_n ?_
      refine AWP.ret ?_
      refine athen_ret ?_
      refine ain_ret ?_
      refine athen_ret ?_
      refine athen_ret ?_
      refine ain_ret ?_
      refine athen_ret ?_
      refine ⟨_, S, ⟨_, _, rfl, ⟨_, _, rfl, rfl, rfl⟩, rfl⟩, less_, ?_⟩
      exact .inr ⟨fun hg => by have := good_rng hg i hc; omega, rfl, rfl⟩
    · by_cases c1 : (l.length : Int) ≤ l[i]
      · refine AWP.skip ?_
        refine athen_n ?_
        refine AWP.seq ?_
        refine AWP.block ?_
        refine AWP.seq ?_
        refine AWP.region ?_
        refine rC (Calm.move rfl) ?_
        refine rC (Calm.indexS Try.underlying24 ty_size_3 rfl rfl (by omega) (by omega)) ?_
        refine rC (ld_ ty_plain_3 rfl) ?_
        refine rC (Calm.assign rfl) ?_
        refine rC (Calm.assign rfl) ?_
        refine arun_nil ?_
        refine athen_n ?_
        refine AWP.sub [(0, _), (4, _), (5, _), (14, _), (15, _), (16, _), (17, _), (6, _), (7, _)] ⟨rfl, rfl, rfl, rfl, rfl, rfl, rfl, rfl, rfl, trivial⟩ ?_
        refine AWP.seq ?_
        refine AWP.seq ?_
        refine AWP.region ?_
        refine rC (Calm.move rfl) ?_
        refine rC (Calm.bin rfl rfl b_lss) ?_
        refine rC (Calm.move rfl) ?_
        first | refine rS 23 ?_ | refine rU 23 ?_ | refine rG 23 (Calm.move rfl) ?_
        first | refine rS 23 ?_ | refine rU 23 ?_ | refine rG 23 (Calm.move rfl) ?_
        first | refine rS 23 ?_ | refine rU 23 ?_ | refine rG 23 (Calm.lenSl Try.underlying24 rfl) ?_
        first | refine rS 23 ?_ | refine rU 23 ?_ | refine rG 23 (Calm.bin rfl rfl b_geq) ?_
        refine rC ((by first | exact Calm.pickT rfl rfl | exact Calm.pickF rfl rfl)) ?_
        refine rC (Calm.move rfl) ?_
        first | refine rS 29 ?_ | refine rU 29 ?_ | refine rG 29 (Calm.move rfl) ?_
        first | refine rS 29 ?_ | refine rU 29 ?_ | refine rG 29 (Calm.move rfl) ?_
        first | refine rS 29 ?_ | refine rU 29 ?_ | refine rG 29 (Calm.indexS Try.underlying40 ty_size_4 rfl rfl (by omega) (by omega)) ?_
        first | refine rS 29 ?_ | refine rU 29 ?_ | refine rG 29 (ld_ ty_plain_4 rfl) ?_
        refine rC ((by first | exact Calm.pickT rfl rfl | exact Calm.pickF rfl rfl)) ?_
        refine arun_nil ?_
        refine athen_n ?_
        refine AWP.sub [(0, _), (4, _), (5, _), (14, _), (15, _), (16, _), (17, _), (6, _), (7, _), (34, _)] ⟨rfl, rfl, rfl, rfl, rfl, rfl, rfl, rfl, rfl, rfl, trivial⟩ ?_
        refine AWP.condT rfl (by first | rfl | (simp; done) | (simp; omega)) ?_
        refine AWP.seq ?_
        refine AWP.region ?_
        refine rC (Calm.assign rfl) ?_
        refine rC (Calm.assign rfl) ?_
        refine arun_nil ?_
        refine athen_n ?_
        refine AWP.ret ?_
        refine athen_ret ?_
        refine ain_ret ?_
        refine athen_ret ?_
        refine athen_ret ?_
        refine ain_ret ?_
        refine athen_ret ?_
        refine ⟨_, S, ⟨_, _, rfl, ⟨_, _, rfl, rfl, rfl⟩, rfl⟩, less_, ?_⟩
        exact .inr ⟨fun hg => by have := good_rng hg i hc; omega, rfl, rfl⟩
      · obtain ⟨k, hk2⟩ : ∃ k, k = (l[i]).toNat := ⟨_, rfl⟩
        have hky : y.getD (l[i]).toNat false = y[k]'(by omega) := by rw [← hk2]; exact getD_get _ _ _ (by omega)
        refine AWP.skip ?_
        refine athen_n ?_
        refine AWP.seq ?_
        refine AWP.block ?_
        refine AWP.seq ?_
        refine AWP.region ?_
        refine rC (Calm.move rfl) ?_
        refine rC (Calm.indexS Try.underlying24 ty_size_3 rfl rfl (by omega) (by omega)) ?_
        refine rC (ld_ ty_plain_3 rfl) ?_
        refine rC (Calm.assign rfl) ?_
        refine rC (Calm.assign rfl) ?_
        refine arun_nil ?_
        refine athen_n ?_
        refine AWP.sub [(0, _), (4, _), (5, _), (14, _), (15, _), (16, _), (17, _), (6, _), (7, _)] ⟨rfl, rfl, rfl, rfl, rfl, rfl, rfl, rfl, rfl, trivial⟩ ?_
        refine AWP.seq ?_
        refine AWP.seq ?_
        refine AWP.region ?_
        refine rC (Calm.move rfl) ?_
        refine rC (Calm.bin rfl rfl b_lss) ?_
        refine rC (Calm.move rfl) ?_
        first | refine rS 23 ?_ | refine rU 23 ?_ | refine rG 23 (Calm.move rfl) ?_
        first | refine rS 23 ?_ | refine rU 23 ?_ | refine rG 23 (Calm.move rfl) ?_
        first | refine rS 23 ?_ | refine rU 23 ?_ | refine rG 23 (Calm.lenSl Try.underlying24 rfl) ?_
        first | refine rS 23 ?_ | refine rU 23 ?_ | refine rG 23 (Calm.bin rfl rfl b_geq) ?_
        refine rC ((by first | exact Calm.pickT rfl rfl | exact Calm.pickF rfl rfl)) ?_
        refine rC (Calm.move rfl) ?_
        first | refine rS 29 ?_ | refine rU 29 ?_ | refine rG 29 (Calm.move rfl) ?_
        first | refine rS 29 ?_ | refine rU 29 ?_ | refine rG 29 (Calm.move rfl) ?_
        first | refine rS 29 ?_ | refine rU 29 ?_ | refine rG 29 (Calm.indexS Try.underlying40 ty_size_4 rfl rfl (by omega) (by omega)) ?_
        first | refine rS 29 ?_ | refine rU 29 ?_ | refine rG 29 (Calm.as (show gB (y[k]'(by omega)) = .bool (y[k]'(by omega)) from rfl) (Calm.load ty_plain_4 rfl (rd_list (g := gB) k (by omega) own_ (by omega)))) ?_
        refine rC ((by first | exact Calm.pickT rfl rfl | exact Calm.pickF rfl rfl)) ?_
        refine arun_nil ?_
        refine athen_n ?_
        refine AWP.sub [(0, _), (4, _), (5, _), (14, _), (15, _), (16, _), (17, _), (6, _), (7, _), (34, _)] ⟨rfl, rfl, rfl, rfl, rfl, rfl, rfl, rfl, rfl, rfl, trivial⟩ ?_
        refine AWP.condB rfl (fun c2 => ?_) (fun c2 => ?_)
        · refine AWP.seq ?_
          refine AWP.region ?_
          refine rC (Calm.assign rfl) ?_
          refine rC (Calm.assign rfl) ?_
          refine arun_nil ?_
          refine athen_n ?_
          refine AWP.ret ?_
          refine athen_ret ?_
          refine ain_ret ?_
          refine athen_ret ?_
          refine athen_ret ?_
          refine ain_ret ?_
          refine athen_ret ?_
          refine ⟨_, S, ⟨_, _, rfl, ⟨_, _, rfl, rfl, rfl⟩, rfl⟩, less_, ?_⟩
          exact .inr ⟨invD_bad hI hc (by omega) (by omega) (by rw [hky]; exact c2), rfl, rfl⟩
        · refine AWP.skip ?_
          refine athen_n ?_
          refine AWP.seq ?_
          refine AWP.region ?_
          refine rC (Calm.move rfl) ?_
          refine rC (Calm.move rfl) ?_
          refine rC (Calm.indexS Try.underlying40 ty_size_4 rfl rfl (by omega) (by omega)) ?_
          refine ARun.store1 rfl rfl ty_size_4 rfl own_ (by rw [List.length_map]; omega) rfl ?_
          (try simp only [Mem.set_set, List.set_cons_zero, List.set_cons_succ, Nat.zero_add, Nat.reduceAdd])
          refine arun_nil ?_
          refine athen_n ?_
          refine AWP.sub [(0, _), (4, _), (5, _), (14, _), (15, _), (16, _), (17, _), (6, _), (7, _), (34, _)] ⟨rfl, rfl, rfl, rfl, rfl, rfl, rfl, rfl, rfl, rfl, trivial⟩ ?_
          refine AWP.region ?_
          refine rC (Calm.move rfl) ?_
          refine rC (Calm.move rfl) ?_
          refine rC (Calm.move rfl) ?_
          refine rC (Calm.indexS Try.underlying24 ty_size_3 rfl rfl (by omega) (by omega)) ?_
          refine ARun.store1 rfl rfl ty_size_3 rfl own_ (by rw [List.length_map]; omega) rfl ?_
          (try simp only [Mem.set_set, List.set_cons_zero, List.set_cons_succ, Nat.zero_add, Nat.reduceAdd])
          refine arun_nil ?_
          refine ain_n ?_
          refine athen_n ?_
          refine AWP.sub [(0, _), (4, _), (5, _), (14, _), (15, _), (16, _), (17, _), (6, _), (7, _), (34, _)] ⟨rfl, rfl, rfl, rfl, rfl, rfl, rfl, rfl, rfl, rfl, trivial⟩ ?_
          simp only [Nat.zero_add, Nat.mul_one]
          refine AWP.region ?_
          refine rC (Calm.bin rfl rfl b_add_i64) ?_
          refine rC (Calm.move rfl) ?_
          refine arun_nil ?_
          refine athen_n ?_
          refine ⟨(i + 1, x.set (l[i]).toNat (i : Int), y.set (l[i]).toNat true), ?_, ?_, ?_, ?_⟩
          all_goals (try dsimp only)
          · exact ⟨sq_, sq_, sq_, sq_, sq_, sq_, trivial⟩
          · rw [List.map_set, List.map_set]; exact less_
          · exact ⟨hc, invD_step hI hc (by omega) (by omega) (by rw [hky]; exact c2)⟩
          · omega
  · obtain rfl : i = l.length := by omega
    refine AWP.seq ?_
    refine AWP.region ?_
    refine rC (Calm.bin rfl rfl b_lss) ?_
    refine arun_nil ?_
    refine athen_n ?_
    refine AWP.seq ?_
    refine AWP.condF rfl (by first | rfl | (simp; done) | (simp; omega)) ?_
    obtain ⟨hg, hx⟩ := inv_good hI.1
    refine AWP.exit ?_
    refine athen_exit ?_
    refine athen_exit ?_
    refine ain_same ?_
    refine athen_n ?_
    refine AWP.seq ?_
    refine AWP.region ?_
    refine rC (Calm.move rfl) ?_
    refine rC (Calm.assign rfl) ?_
    refine rC (Calm.assign rfl) ?_
    refine arun_nil ?_
    refine athen_n ?_
    refine AWP.sub [(0, _), (4, _), (5, _), (14, _), (15, _), (16, _), (17, _), (2, _), (3, _)] ⟨rfl, rfl, rfl, rfl, rfl, rfl, rfl, rfl, rfl, trivial⟩ ?_
    refine AWP.ret ?_
    refine ⟨_, S.set b10 ⟨3, x.map gZ, l.length⟩, ⟨_, _, rfl, ⟨_, _, rfl, rfl, rfl⟩, rfl⟩, less_, ?_⟩
    exact .inl ⟨hg, _, x, hx, rfl, some (b10, l.length), okO_own f10 (by omega), by rw [hxl]; rfl, rfl⟩
/-- Ends that are in order. -/
def RightE (l : List Nat) (ends : List Int) : Prop := ∃ e : List Nat, ends = e.map (fun k : Nat => (k : Int)) ∧ Ord.SortedE l e
theorem right_good {l : List Nat} {ends : List Int} (h : RightE l ends) : GoodE ends ∧ ends.length = l.length := by
  obtain ⟨e, rfl, h⟩ := h
  have hl := h.len
  exact ⟨⟨e, rfl, by rw [List.length_map, hl]; exact h.1⟩, by rw [List.length_map, hl]⟩
/-- What is behind a place, or -1. -/
def behZ (n : Nat) (x : List Int) (a : Nat) : Int := if a + 1 < n then x.getD (a + 1) 0 else -1
def cfR (l : List Nat) (x : List Int) (a b : Nat) : Int := orL [cmpU (l.getD a 0) (l.getD b 0), cmpZ (behZ l.length x a) (behZ l.length x b)]
theorem inv_nat {e : List Nat} {x : List Int} (hp : e.Perm (List.range e.length)) (hx : InvOf (e.map (fun k : Nat => (k : Int))) x) (q : Nat) (hq : q < e.length) : ∃ k, ∃ h : k < e.length, e[k] = q ∧ x.getD q 0 = (k : Int) := by
  obtain ⟨j, hj, ej⟩ := List.getElem_of_mem (hp.mem_iff.2 (List.mem_range.2 hq))
  have := hx.2 j (by rw [List.length_map]; exact hj)
  rw [List.getElem_map, Int.toNat_natCast, ej] at this
  exact ⟨j, hj, ej, this⟩
theorem cfR_neg {l e : List Nat} {x : List Int} (hp : e.Perm (List.range e.length)) (hx : InvOf (e.map (fun k : Nat => (k : Int))) x) (hl : e.length = l.length) (a b : Nat) : cfR l x a b < 0 ↔ Ord.stepR l (fun q => (x.getD q 0).toNat) a b := by
  unfold cfR orL orL orL Ord.stepR
  have h1 := cmpU_neg (l.getD a 0) (l.getD b 0)
  have h2 := cmpU_zero (l.getD a 0) (l.getD b 0)
  have h3 := cmpZ_neg (behZ l.length x a) (behZ l.length x b)
  have hb : ∀ a, behZ l.length x a = ((Ord.behind l.length (fun q => (x.getD q 0).toNat) a : Nat) : Int) - 1 := fun a => by
    unfold behZ Ord.behind
    split
    · obtain ⟨k, hk, _, e1⟩ := inv_nat hp hx (a + 1) (by omega)
      dsimp only; rw [e1]; omega
    · rfl
  have ha := hb a
  have hb' := hb b
  split
  · split <;> omega
  · omega
theorem right_iff {l e : List Nat} {x : List Int} (hp : e.Perm (List.range e.length)) (hx : InvOf (e.map (fun k : Nat => (k : Int))) x) (hl : e.length = l.length) :
    RightE l (e.map (fun k : Nat => (k : Int))) ↔ ∀ k (hk : k + 1 < e.length), cfR l x (e[k]'(by omega)) e[k + 1] < 0 := by
  have hat : ∀ k (hk : k < e.length), (x.getD e[k] 0).toNat = k := fun k hk => by
    have := hx.2 k (by rw [List.length_map]; exact hk)
    rw [List.getElem_map, Int.toNat_natCast] at this
    rw [this]; omega
  constructor
  · rintro ⟨e', h1, h2⟩ k hk
    have he : e = e' := by
      have := congrArg (List.map Int.toNat) h1
      simpa [List.map_map, Function.comp_def] using this
    subst he
    rw [cfR_neg hp hx hl]
    exact Ord.sorted_right l e _ h2 hat k hk
  · intro h
    exact ⟨e, rfl, Ord.right_sorted l e _ (by rw [hl] at hp; exact hp) hat fun k hk => (cfR_neg hp hx hl _ _).1 (h k hk)⟩
theorem or_beh (ii : Int) (i c2 c5 : Nat) (v u : Value) (l : List Nat) (x : List Int) (ei : ii = i) (S : Mem) (k2 : S.Knows ⟨c2, 0, none⟩ [v]) (k5 : S.Knows ⟨c5, 0, none⟩ [u]) (hv : RowR S v l) (hu : Sl 1 i64s S u x) (hx : x.length = l.length) (hi : i < l.length) :
    ACall Try.prog 92 #[.int .i64 ii, .pointer (some ⟨c2, 0, none⟩), .pointer (some ⟨c5, 0, none⟩)] S fun r S' => r = .int .i64 (behZ l.length x i) ∧ S' = S := by
  subst ei
  obtain ⟨va, vc, rfl, v1, v2, v3⟩ := id hv
  obtain ⟨ua, uc, rfl, u1, u2, u3⟩ := id hu
  unfold behZ
  by_cases hc : i + 1 < l.length
  · rw [if_pos hc]
    obtain ⟨ub, uo, rfl, hku⟩ := u3.resolve_left (fun h => by rw [h] at hx; simp at hx; omega)
    have kk : S.Knows ⟨ub, uo + (i + 1) * 1, none⟩ [.int .i64 (x.getD (i + 1) 0)] := by rw [getD_get x (i + 1) 0 (by omega)]; exact hku (i + 1) (by omega)
    refine ACall.enter (args := [.int .i64 (i : Int), .pointer (some ⟨c2, 0, none⟩), .pointer (some ⟨c5, 0, none⟩)]) (rs := [.tmp 4]) 15 [(0, .int .i64 (i : Int)), (1, .pointer (some ⟨c2, 0, none⟩)), (2, .pointer (some ⟨c5, 0, none⟩))] Try.func92 rfl rfl (Nat.le_of_ble_eq_true rfl) rfl ⟨rfl, rfl, rfl, trivial⟩ ?_
    refine AWP.seq ?_
    refine AWP.region ?_
    refine rC (Calm.assign rfl) ?_
    refine arun_nil ?_
    refine athen_n ?_
    refine AWP.seq ?_
    refine AWP.seq ?_
    refine AWP.region ?_
    refine rC (Calm.move rfl) ?_
    refine rC (Calm.bin rfl rfl b_add_i64) ?_
    refine rC (ld_ ty_plain_22 rfl) ?_
    refine rC (Calm.lenSl Try.underlying22 rfl) ?_
    refine rC (Calm.bin rfl rfl b_lss) ?_
    refine arun_nil ?_
    refine athen_n ?_
    refine AWP.sub [(0, _), (1, _), (2, _), (4, _), (9, _)] ⟨rfl, rfl, rfl, rfl, rfl, trivial⟩ ?_
    refine AWP.condT rfl (by first | rfl | (simp; done) | (simp; omega)) ?_
    refine AWP.seq ?_
    refine AWP.region ?_
    refine rC (ld_ ty_plain_24 rfl) ?_
    refine rC (Calm.move rfl) ?_
    refine rC (Calm.bin rfl rfl b_add_i64) ?_
    refine rC (Calm.indexS Try.underlying24 ty_size_3 rfl rfl (by omega) (by omega)) ?_
    refine rC (ld_ ty_plain_3 rfl) ?_
    refine rC (Calm.assign rfl) ?_
    refine arun_nil ?_
    refine athen_n ?_
    refine AWP.sub [(0, _), (1, _), (2, _), (4, _), (9, _)] ⟨rfl, rfl, rfl, rfl, rfl, trivial⟩ ?_
    refine AWP.ret ?_
    refine athen_ret ?_
    refine ⟨_, S, ⟨_, _, rfl, rfl, rfl⟩, less_, ?_⟩
    exact ⟨rfl, rfl⟩
  · rw [if_neg hc]
    refine ACall.enter (args := [.int .i64 (i : Int), .pointer (some ⟨c2, 0, none⟩), .pointer (some ⟨c5, 0, none⟩)]) (rs := [.tmp 4]) 15 [(0, .int .i64 (i : Int)), (1, .pointer (some ⟨c2, 0, none⟩)), (2, .pointer (some ⟨c5, 0, none⟩))] Try.func92 rfl rfl (Nat.le_of_ble_eq_true rfl) rfl ⟨rfl, rfl, rfl, trivial⟩ ?_
    refine AWP.seq ?_
    refine AWP.region ?_
    refine rC (Calm.assign rfl) ?_
    refine arun_nil ?_
    refine athen_n ?_
    refine AWP.seq ?_
    refine AWP.seq ?_
    refine AWP.region ?_
    refine rC (Calm.move rfl) ?_
    refine rC (Calm.bin rfl rfl b_add_i64) ?_
    refine rC (ld_ ty_plain_22 rfl) ?_
    refine rC (Calm.lenSl Try.underlying22 rfl) ?_
    refine rC (Calm.bin rfl rfl b_lss) ?_
    refine arun_nil ?_
    refine athen_n ?_
    refine AWP.sub [(0, _), (1, _), (2, _), (4, _), (9, _)] ⟨rfl, rfl, rfl, rfl, rfl, trivial⟩ ?_
    refine AWP.condF rfl (by first | rfl | (simp; done) | (simp; omega)) ?_
    refine AWP.skip ?_
    refine athen_n ?_
    refine AWP.seq ?_
    refine AWP.region ?_
    refine rC (Calm.assign rfl) ?_
    refine arun_nil ?_
    refine athen_n ?_
    refine AWP.ret ?_
    refine ⟨_, S, ⟨_, _, rfl, rfl, rfl⟩, less_, ?_⟩
    exact ⟨rfl, rfl⟩
set_option maxHeartbeats 2000000 in
theorem or_Right (v ve : Value) (l : List Nat) (ends : List Int) (S : Mem) (hv : RowR S v l) (hve : Sl 1 i64s S ve ends) (hl : ends.length ≤ 17592186043904) :
    ACall Try.prog 53 #[v, ve] S fun r S' => (∃ t, r = .bool t ∧ (t = true ↔ RightE l ends)) ∧ S' = S := by
  obtain ⟨va, vc, rfl, v1, v2, v3⟩ := id hv
  obtain ⟨ea, ec, rfl, e1, e2, e3⟩ := id hve
  by_cases hg : GoodE ends
  · by_cases hlen : ends.length = l.length
    · obtain ⟨e, rfl, hp⟩ := hg
      rw [List.length_map] at hp hlen
      have hlm : (e.map (fun k : Nat => (k : Int))).length = e.length := List.length_map ..
      rw [hlm] at e1 e2 hl hve
      have hke : ∀ i (h : i < e.length), ∃ b off, ea = some ⟨b, off, none⟩ ∧ S.Knows ⟨b, off + i * 1, none⟩ [.int .i64 (e[i] : Int)] := fun i h => by
        obtain ⟨b, off, rfl, hk⟩ := e3.resolve_left (fun h' => by rw [List.map_eq_nil_iff] at h'; subst h'; exact absurd h (Nat.not_lt_zero _))
        have := hk i (by rw [hlm]; exact h)
        rw [List.getElem_map] at this
        exact ⟨b, off, rfl, this⟩
      rw [hlm]
      have hInv := or_Inverse _ _ S hve (by rw [hlm]; exact hl)
      refine ACall.enter (args := [.slice va l.length vc, .slice ea e.length ec]) (rs := [.tmp 4]) 62 [(0, .slice va l.length vc), (1, .slice ea e.length ec)] Try.func53 rfl rfl (Nat.le_of_ble_eq_true rfl) rfl ⟨rfl, rfl, trivial⟩ ?_
      refine AWP.seq ?_
      refine AWP.region ?_
      refine ARun.box1 (lit_lt rfl) rfl rfl ?_
      intro b2 f2
      have g2 := f2
      repeat ((with_reducible replace g2 := fresh_set g2); obtain ⟨g2, _⟩ := g2)
      (try simp only [List.length_cons, List.length_nil, Nat.zero_add, Nat.reduceAdd])
      refine rC (Calm.assign rfl) ?_
      refine arun_nil ?_
      refine athen_n ?_
      refine AWP.seq ?_
      refine AWP.region ?_
      refine rC (Calm.move rfl) ?_
      refine ARun.call (lit_lt rfl) go_49 rfl ((hInv.frame f2)) ?_
      rintro _ _ ⟨S1, hR, f2', rfl⟩
      obtain ⟨_, u, x, hx, rfl, hNew⟩ := hR.resolve_right (fun h => h.1 ⟨e, rfl, by rw [hlm]; exact hp⟩)
      have hxl : x.length = e.length := by rw [hx.1, hlm]
      obtain ⟨hS1, hu⟩ := hNew.rd (by omega)
      clear hNew
      obtain ⟨ua, uc, rfl, _⟩ := id hu
      have hiff := right_iff hp hx hlen
      refine rC (Calm.move rfl) ?_
      refine rC (Calm.extract rfl rfl) ?_
      refine rC (Calm.extract rfl rfl) ?_
      refine ARun.alloc (lit_lt rfl) ty_zero_24 ?_
      intro b5 f5
      have g5 := f5
      repeat ((with_reducible replace g5 := fresh_set g5); obtain ⟨g5, _⟩ := g5)
      (try simp only [List.length_cons, List.length_nil, Nat.zero_add, Nat.reduceAdd])
      refine ARun.store1 rfl rfl ty_size_24 rfl own_ lens_ rfl ?_
      (try simp only [Mem.set_set, List.set_cons_zero, List.set_cons_succ, Nat.zero_add, Nat.reduceAdd])
      refine rC (Calm.assign rfl) ?_
      refine arun_nil ?_
      refine athen_n ?_
      refine AWP.sub [(0, _), (1, _), (2, _), (4, _), (5, _), (6, _)] ⟨rfl, rfl, rfl, rfl, rfl, rfl, trivial⟩ ?_
      refine AWP.seq ?_
      refine AWP.seq ?_
      refine AWP.region ?_
      refine rC (Calm.move rfl) ?_
      refine rC (Calm.bin rfl rfl b_neq) ?_
      refine rC (Calm.move rfl) ?_
      first | refine rS 19 ?_ | refine rU 19 ?_ | refine rG 19 (Calm.move rfl) ?_
      first | refine rS 19 ?_ | refine rU 19 ?_ | refine rG 19 (Calm.lenSl Try.underlying24 rfl) ?_
      first | refine rS 19 ?_ | refine rU 19 ?_ | refine rG 19 (ld_ ty_plain_22 rfl) ?_
      first | refine rS 19 ?_ | refine rU 19 ?_ | refine rG 19 (Calm.lenSl Try.underlying22 rfl) ?_
      first | refine rS 19 ?_ | refine rU 19 ?_ | refine rG 19 (Calm.bin rfl rfl b_neq) ?_
      refine rC ((by first | exact Calm.pickT rfl rfl | exact Calm.pickF rfl rfl)) ?_
      refine arun_nil ?_
      refine athen_n ?_
      refine AWP.sub [(0, _), (1, _), (2, _), (4, _), (5, _), (6, _), (25, _)] ⟨rfl, rfl, rfl, rfl, rfl, rfl, rfl, trivial⟩ ?_
      refine AWP.condF rfl (by first | rfl | (simp; done) | (simp; omega)) ?_
      obtain ⟨B, hB⟩ : ∃ B, B = (S1.set b2 ⟨22, [.slice va l.length vc], 1⟩).set b5 ⟨24, [.slice ua x.length uc], 1⟩ := ⟨_, rfl⟩
      have hSB : S1.Less B := by rw [hB]; exact less_
      have o2 : B.own b2 = some ⟨22, [.slice va l.length vc], 1⟩ := by rw [hB]; exact own_
      have o5 : B.own b5 = some ⟨24, [.slice ua x.length uc], 1⟩ := by rw [hB]; exact own_
      have hSS : S.Less B := hS1.trans hSB
      have k2 : B.Knows ⟨b2, 0, none⟩ [.slice va l.length vc] := Mem.own_knows o2 0 _ (fun j v hj => by rw [Nat.zero_add]; exact hj)
      have k5 : B.Knows ⟨b5, 0, none⟩ [.slice ua x.length uc] := Mem.own_knows o5 0 _ (fun j v hj => by rw [Nat.zero_add]; exact hj)
      replace hu := hu.less hSB
      refine AWP.less B (by rw [hB]; exact Mem.Less.refl _) ?_
      clear hB f5 g5 f2' hSB
      refine AWP.skip ?_
      refine athen_n ?_
      refine AWP.seq ?_
      refine AWP.region ?_
      refine rC (Calm.makeFunc rfl rfl) ?_
      refine rC (Calm.assign rfl) ?_
      refine arun_nil ?_
      refine athen_n ?_
      refine AWP.sub [(0, _), (1, _), (2, _), (4, _), (5, _), (6, _), (25, _), (7, _)] ⟨rfl, rfl, rfl, rfl, rfl, rfl, rfl, rfl, trivial⟩ ?_
      refine AWP.seq ?_
      refine AWP.seq ?_
      refine AWP.region ?_
      refine rC (Calm.assign rfl) ?_
      refine arun_nil ?_
      refine athen_n ?_
      refine AWP.block ?_
      refine AWP.loop (X := Nat) (fun i => [(1, .slice ea e.length ec), (2, .pointer (some ⟨b2, 0, none⟩)), (7, .func (.func 92) #[] #[.pointer (some ⟨b2, 0, none⟩), .pointer (some ⟨b5, 0, none⟩)]), (8, .int .i64 i)]) (fun _ => B) (fun i => 1 ≤ i ∧ (i ≤ e.length ∨ i = 1) ∧ ∀ k (hk : k + 1 < e.length), k + 1 < i → cfR l x (e[k]'(by omega)) e[k + 1] < 0) (fun i => e.length - i) (1) ⟨rfl, rfl, rfl, rfl, trivial⟩ (Mem.Less.refl _) (⟨Nat.le_refl _, .inr rfl, fun k hk h => by omega⟩) ?_
      rintro i ⟨q1, q2, q3⟩
      (try dsimp only at *)
      by_cases hi : i < e.length
      · obtain ⟨i, rfl⟩ : ∃ q, i = q + 1 := ⟨i - 1, by omega⟩
        refine AWP.seq ?_
        refine AWP.seq ?_
        refine AWP.region ?_
        refine rC (Calm.move rfl) ?_
        refine rC (Calm.move rfl) ?_
        refine rC (Calm.lenSl Try.underlying24 rfl) ?_
        refine rC (Calm.bin rfl rfl b_lss) ?_
        refine arun_nil ?_
        refine athen_n ?_
        refine AWP.sub [(1, _), (2, _), (7, _), (8, _), (30, _)] ⟨rfl, rfl, rfl, rfl, rfl, trivial⟩ ?_
        refine AWP.condT rfl (by first | rfl | (simp; done) | (simp; omega)) ?_
        obtain ⟨eb, eo, rfl, ke1⟩ := hke (i + 1) hi
        obtain ⟨eb', eo', ee, ke0⟩ := hke i (by omega)
        cases ee
        obtain ⟨a, ha⟩ : ∃ a, a = e[i]'(by omega) := ⟨_, rfl⟩
        obtain ⟨b, hb⟩ : ∃ b, b = e[i + 1] := ⟨_, rfl⟩
        have ha1 : a < l.length := by rw [ha, ← hlen]; exact List.mem_range.1 (hp.mem_iff.1 (List.getElem_mem _))
        have hb1 : b < l.length := by rw [hb, ← hlen]; exact List.mem_range.1 (hp.mem_iff.1 (List.getElem_mem _))
        rw [← ha] at ke0
        rw [← hb] at ke1
        replace ke0 : B.Knows ⟨eb, eo + (((i + 1 : Nat) : Int) - 1).toNat * 1, none⟩ [.int .i64 (a : Int)] := by rw [show (((i + 1 : Nat) : Int) - 1).toNat = i by omega]; exact ke0.less hSS
        replace ke1 := ke1.less hSS
        obtain ⟨vb, vo, rfl, hkv⟩ := v3.resolve_left (fun h => by rw [h] at ha1; exact absurd ha1 (Nat.not_lt_zero _))
        have kv1 : B.Knows ⟨vb, vo + a * 1, none⟩ [.int .u64 (l.getD a 0 : Int)] := by rw [getD_get l a 0 ha1]; exact (hkv a ha1).less hSS
        have kv2 : B.Knows ⟨vb, vo + b * 1, none⟩ [.int .u64 (l.getD b 0 : Int)] := by rw [getD_get l b 0 hb1]; exact (hkv b hb1).less hSS
        refine AWP.skip ?_
        refine athen_n ?_
        refine AWP.seq ?_
        refine AWP.block ?_
        refine AWP.seq ?_
        refine AWP.draw [(0, true), (1, true), (2, true), (3, true), (4, true), (5, true), (6, true), (7, true), (8, true), (9, true), (10, true)] [] mixed (by kernel_rfl) ?_
        refine dP (hc := fun _ => Calm.move rfl) (h := ?_)
        refine dP (hc := fun _ => Calm.move rfl) (h := ?_)
        refine dP (hc := fun _ => Calm.bin rfl rfl b_sub_i64) (h := ?_)
        refine dP (hc := fun _ => Calm.indexS Try.underlying24 ty_size_3 rfl rfl (by omega) (by omega)) (h := ?_)
        refine dC (hc := ld_ ty_plain_3 rfl) (h := ?_)
        refine dP (hc := fun _ => Calm.move rfl) (h := ?_)
        refine dP (hc := fun _ => Calm.move rfl) (h := ?_)
        refine dP (hc := fun _ => Calm.indexS Try.underlying24 ty_size_3 rfl rfl (by omega) (by omega)) (h := ?_)
        refine dC (hc := ld_ ty_plain_3 rfl) (h := ?_)
        refine dP (hc := fun _ => Calm.assign rfl) (h := ?_)
        refine dP (hc := fun _ => Calm.assign rfl) (h := ?_)
        refine draw_nil ?_
        refine athen_n ?_
        refine AWP.sub [(1, _), (2, _), (7, _), (8, _), (30, _), (9, _), (10, _)] ⟨rfl, rfl, rfl, rfl, rfl, rfl, rfl, trivial⟩ ?_
        refine AWP.seq ?_
        refine AWP.draw [(0, true), (1, true), (2, true), (3, true), (4, true), (5, true), (6, true), (7, true), (9, true), (10, true), (12, true), (13, true), (8, false), (11, false), (14, false), (15, false), (16, false), (17, false), (18, true)] [] mixed (by kernel_rfl) ?_
        refine dC (hc := ld_ ty_plain_22 rfl) (h := ?_)
        refine dP (hc := fun _ => Calm.move rfl) (h := ?_)
        refine dP (hc := fun _ => Calm.indexS Try.underlying22 ty_size_41 rfl rfl (by omega) (by omega)) (h := ?_)
        refine dC (hc := ld_ ty_plain_41 rfl) (h := ?_)
        refine dC (hc := ld_ ty_plain_22 rfl) (h := ?_)
        refine dP (hc := fun _ => Calm.move rfl) (h := ?_)
        refine dP (hc := fun _ => Calm.indexS Try.underlying22 ty_size_41 rfl rfl (by omega) (by omega)) (h := ?_)
        refine dC (hc := ld_ ty_plain_41 rfl) (h := ?_)
        refine dP (hc := fun _ => Calm.move rfl) (h := ?_)
        refine dP (hc := fun _ => Calm.move rfl) (h := ?_)
        refine dP (hc := fun _ => Calm.move rfl) (h := ?_)
        refine dP (hc := fun _ => Calm.move rfl) (h := ?_)
        refine draw_only rfl ?_
        refine ARun.call (lit_lt rfl) go_94 rfl (numV_cmp2 (l.getD a 0) (l.getD b 0) _) ?_
        rintro _ S9 ⟨rfl, h9⟩
        rw [h9]; clear h9 S9
        refine arun_nil ⟨fun _ => less_, ?_⟩
        refine draw_only rfl ?_
        refine ARun.callV (lit_lt rfl) go_92 rfl rfl (or_beh _ a b2 b5 _ _ l x rfl _ k2 k5 (hv.less hSS) hu (by omega) ha1) ?_
        rintro _ S9 ⟨rfl, h9⟩
        rw [h9]; clear h9 S9
        refine arun_nil ⟨fun _ => less_, ?_⟩
        refine draw_only rfl ?_
        refine ARun.callV (lit_lt rfl) go_92 rfl rfl (or_beh _ b b2 b5 _ _ l x rfl _ k2 k5 (hv.less hSS) hu (by omega) hb1) ?_
        rintro _ S9 ⟨rfl, h9⟩
        rw [h9]; clear h9 S9
        refine arun_nil ⟨fun _ => less_, ?_⟩
        refine draw_only rfl ?_
        refine ARun.call (lit_lt rfl) go_95 rfl (si_cmp (behZ l.length x a) (behZ l.length x b) _) ?_
        rintro _ S9 ⟨rfl, h9⟩
        rw [h9]; clear h9 S9
        refine arun_nil ⟨fun _ => less_, ?_⟩
        refine draw_only rfl ?_
        refine ARun.buildN (cs := [_, _]) (lit_lt rfl) ty_sl_24 rfl rfl rfl rfl ?_
        intro b58 f58
        have g58 := f58
        repeat ((with_reducible replace g58 := fresh_set g58); obtain ⟨g58, _⟩ := g58)
        refine arun_nil ⟨fun _ => less_, ?_⟩
        refine draw_only rfl ?_
        refine ARun.call (lit_lt rfl) go_93 rfl (si_Or _ _ _ (sl_own2 own_)) ?_
        rintro _ _ ⟨rfl, rfl⟩
        have hcf : cfR l x a b = orL [if l.getD a 0 < l.getD b 0 then -1 else if l.getD b 0 < l.getD a 0 then 1 else 0, cmpZ (behZ l.length x a) (behZ l.length x b)] := rfl
        rw [← hcf]
        refine arun_nil ⟨fun _ => less_, ?_⟩
        refine dP (hc := fun _ => Calm.assign rfl) (h := ?_)
        refine draw_nil ?_
        refine athen_n ?_
        refine AWP.sub [(1, _), (2, _), (7, _), (8, _), (30, _), (9, _), (10, _), (11, _)] ⟨rfl, rfl, rfl, rfl, rfl, rfl, rfl, rfl, trivial⟩ ?_
        by_cases hneg : cfR l x a b < 0
        · refine AWP.seq ?_
          refine AWP.region ?_
          refine rC (Calm.move rfl) ?_
          refine rC (Calm.bin rfl rfl b_geq) ?_
          refine arun_nil ?_
          refine athen_n ?_
          refine AWP.sub [(1, _), (2, _), (7, _), (8, _), (30, _), (9, _), (10, _), (11, _), (61, _)] ⟨rfl, rfl, rfl, rfl, rfl, rfl, rfl, rfl, rfl, trivial⟩ ?_
          refine AWP.condF rfl (by first | rfl | (simp; done) | (simp; omega)) ?_
          refine AWP.skip ?_
          refine ain_n ?_
          refine athen_n ?_
          refine AWP.region ?_
          refine rC (Calm.move rfl) ?_
          refine rC (Calm.bin rfl rfl b_add_i64) ?_
          refine rC (Calm.assign rfl) ?_
          refine arun_nil ?_
          refine athen_n ?_
          refine ⟨i + 1 + 1, ?_, ?_, ?_, ?_⟩
          all_goals (try dsimp only)
          · exact ⟨sq_, sq_, sq_, sq_, trivial⟩
          · exact less_
          · exact ⟨by omega, by omega, fun k hk h => by rcases Nat.lt_or_ge (k + 1) (i + 1) with h' | h'; exact q3 k hk h'; obtain rfl : k = i := (by omega); rw [← ha, ← hb]; exact hneg⟩
          · omega
        · refine AWP.seq ?_
          refine AWP.region ?_
          refine rC (Calm.move rfl) ?_
          refine rC (Calm.bin rfl rfl b_geq) ?_
          refine arun_nil ?_
          refine athen_n ?_
          refine AWP.sub [(1, _), (2, _), (7, _), (8, _), (30, _), (9, _), (10, _), (11, _), (61, _)] ⟨rfl, rfl, rfl, rfl, rfl, rfl, rfl, rfl, rfl, trivial⟩ ?_
          refine AWP.condT rfl (by first | rfl | (simp; done) | (simp; omega)) ?_
          refine AWP.seq ?_
          refine AWP.region ?_
          refine rC (Calm.assign rfl) ?_
          refine arun_nil ?_
          refine athen_n ?_
          refine AWP.ret ?_
          refine ain_ret ?_
          refine athen_ret ?_
          refine athen_ret ?_
          refine ain_ret ?_
          refine athen_ret ?_
          refine ⟨_, S, ⟨_, _, rfl, rfl, rfl⟩, hSS.trans less_, ?_⟩
          exact ⟨⟨false, rfl, by constructor; (intro h; cases h); (intro h; have := (hiff.1 h) i hi; rw [← ha, ← hb] at this; exact absurd this hneg)⟩, rfl⟩
      · refine AWP.seq ?_
        refine AWP.seq ?_
        refine AWP.region ?_
        refine rC (Calm.move rfl) ?_
        refine rC (Calm.move rfl) ?_
        refine rC (Calm.lenSl Try.underlying24 rfl) ?_
        refine rC (Calm.bin rfl rfl b_lss) ?_
        refine arun_nil ?_
        refine athen_n ?_
        refine AWP.sub [(1, _), (2, _), (7, _), (8, _), (30, _)] ⟨rfl, rfl, rfl, rfl, rfl, trivial⟩ ?_
        refine AWP.condF rfl (by first | rfl | (simp; done) | (simp; omega)) ?_
        refine AWP.exit ?_
        refine athen_exit ?_
        refine athen_exit ?_
        refine ain_same ?_
        refine athen_n ?_
        refine AWP.seq ?_
        refine AWP.region ?_
        refine rC (Calm.assign rfl) ?_
        refine arun_nil ?_
        refine athen_n ?_
        refine AWP.ret ?_
        refine ⟨_, S, ⟨_, _, rfl, rfl, rfl⟩, hSS, ?_⟩
        exact ⟨⟨true, rfl, by constructor; (intro _; exact hiff.2 fun k hk => q3 k hk (by omega)); (intro _; rfl)⟩, rfl⟩
    · have hInv := or_Inverse _ _ S hve hl
      refine ACall.enter (args := [.slice va l.length vc, .slice ea ends.length ec]) (rs := [.tmp 4]) 62 [(0, .slice va l.length vc), (1, .slice ea ends.length ec)] Try.func53 rfl rfl (Nat.le_of_ble_eq_true rfl) rfl ⟨rfl, rfl, trivial⟩ ?_
      refine AWP.seq ?_
      refine AWP.region ?_
      refine ARun.box1 (lit_lt rfl) rfl rfl ?_
      intro b2 f2
      have g2 := f2
      repeat ((with_reducible replace g2 := fresh_set g2); obtain ⟨g2, _⟩ := g2)
      (try simp only [List.length_cons, List.length_nil, Nat.zero_add, Nat.reduceAdd])
      refine rC (Calm.assign rfl) ?_
      refine arun_nil ?_
      refine athen_n ?_
      refine AWP.seq ?_
      refine AWP.region ?_
      refine rC (Calm.move rfl) ?_
      refine ARun.call (lit_lt rfl) go_49 rfl ((hInv.frame f2)) ?_
      rintro _ _ ⟨S1, hR, f2', rfl⟩
      obtain ⟨_, u, x, hx, rfl, hNew⟩ := hR.resolve_right (fun h => h.1 hg)
      obtain ⟨hS1, hu⟩ := hNew.rd (by have := hx.1; omega)
      obtain ⟨ua, uc, rfl, _⟩ := id hu
      refine rC (Calm.move rfl) ?_
      refine rC (Calm.extract rfl rfl) ?_
      refine rC (Calm.extract rfl rfl) ?_
      refine ARun.alloc (lit_lt rfl) ty_zero_24 ?_
      intro b5 f5
      have g5 := f5
      repeat ((with_reducible replace g5 := fresh_set g5); obtain ⟨g5, _⟩ := g5)
      (try simp only [List.length_cons, List.length_nil, Nat.zero_add, Nat.reduceAdd])
      refine ARun.store1 rfl rfl ty_size_24 rfl own_ lens_ rfl ?_
      (try simp only [Mem.set_set, List.set_cons_zero, List.set_cons_succ, Nat.zero_add, Nat.reduceAdd])
      refine rC (Calm.assign rfl) ?_
      refine arun_nil ?_
      refine athen_n ?_
      refine AWP.sub [(0, _), (1, _), (2, _), (4, _), (5, _), (6, _)] ⟨rfl, rfl, rfl, rfl, rfl, rfl, trivial⟩ ?_
      refine AWP.seq ?_
      refine AWP.seq ?_
      refine AWP.region ?_
      refine rC (Calm.move rfl) ?_
      refine rC (Calm.bin rfl rfl b_neq) ?_
      refine rC (Calm.move rfl) ?_
      first | refine rS 19 ?_ | refine rU 19 ?_ | refine rG 19 (Calm.move rfl) ?_
      first | refine rS 19 ?_ | refine rU 19 ?_ | refine rG 19 (Calm.lenSl Try.underlying24 rfl) ?_
      first | refine rS 19 ?_ | refine rU 19 ?_ | refine rG 19 (ld_ ty_plain_22 rfl) ?_
      first | refine rS 19 ?_ | refine rU 19 ?_ | refine rG 19 (Calm.lenSl Try.underlying22 rfl) ?_
      first | refine rS 19 ?_ | refine rU 19 ?_ | refine rG 19 (Calm.bin rfl rfl b_neq) ?_
      refine rC ((by first | exact Calm.pickT rfl rfl | exact Calm.pickF rfl rfl)) ?_
      refine arun_nil ?_
      refine athen_n ?_
      refine AWP.sub [(0, _), (1, _), (2, _), (4, _), (5, _), (6, _), (25, _)] ⟨rfl, rfl, rfl, rfl, rfl, rfl, rfl, trivial⟩ ?_
      refine AWP.condT rfl (by first | rfl | (simp; done) | (simp; omega)) ?_
      refine AWP.seq ?_
      refine AWP.region ?_
      refine rC (Calm.assign rfl) ?_
      refine arun_nil ?_
      refine athen_n ?_
      refine AWP.ret ?_
      refine athen_ret ?_
      refine ⟨_, S, ⟨_, _, rfl, rfl, rfl⟩, hS1.trans less_, ?_⟩
      exact ⟨⟨false, rfl, by constructor; (intro h; cases h); (intro h; exact absurd (right_good h).2 hlen)⟩, rfl⟩
  · have hInv := or_Inverse _ _ S hve hl
    refine ACall.enter (args := [.slice va l.length vc, .slice ea ends.length ec]) (rs := [.tmp 4]) 62 [(0, .slice va l.length vc), (1, .slice ea ends.length ec)] Try.func53 rfl rfl (Nat.le_of_ble_eq_true rfl) rfl ⟨rfl, rfl, trivial⟩ ?_
    refine AWP.seq ?_
    refine AWP.region ?_
    refine ARun.box1 (lit_lt rfl) rfl rfl ?_
    intro b2 f2
    have g2 := f2
    repeat ((with_reducible replace g2 := fresh_set g2); obtain ⟨g2, _⟩ := g2)
    (try simp only [List.length_cons, List.length_nil, Nat.zero_add, Nat.reduceAdd])
    refine rC (Calm.assign rfl) ?_
    refine arun_nil ?_
    refine athen_n ?_
    refine AWP.seq ?_
    refine AWP.region ?_
    refine rC (Calm.move rfl) ?_
    refine ARun.call (lit_lt rfl) go_49 rfl ((hInv.frame f2)) ?_
    rintro _ _ ⟨S1, hR, f2', rfl⟩
    obtain ⟨_, rfl, hS1⟩ := hR.resolve_left (fun h => hg h.1)
    subst hS1
    refine rC (Calm.move rfl) ?_
    refine rC (Calm.extract rfl rfl) ?_
    refine rC (Calm.extract rfl rfl) ?_
    refine ARun.alloc (lit_lt rfl) ty_zero_24 ?_
    intro b5 f5
    have g5 := f5
    repeat ((with_reducible replace g5 := fresh_set g5); obtain ⟨g5, _⟩ := g5)
    (try simp only [List.length_cons, List.length_nil, Nat.zero_add, Nat.reduceAdd])
    refine ARun.store1 rfl rfl ty_size_24 rfl own_ lens_ rfl ?_
    (try simp only [Mem.set_set, List.set_cons_zero, List.set_cons_succ, Nat.zero_add, Nat.reduceAdd])
    refine rC (Calm.assign rfl) ?_
    refine arun_nil ?_
    refine athen_n ?_
    refine AWP.sub [(0, _), (1, _), (2, _), (4, _), (5, _), (6, _)] ⟨rfl, rfl, rfl, rfl, rfl, rfl, trivial⟩ ?_
    refine AWP.seq ?_
    refine AWP.seq ?_
    refine AWP.region ?_
    refine rC (Calm.move rfl) ?_
    refine rC (Calm.bin rfl rfl b_neq) ?_
    refine rC (Calm.move rfl) ?_
    first | refine rS 19 ?_ | refine rU 19 ?_ | refine rG 19 (Calm.move rfl) ?_
    first | refine rS 19 ?_ | refine rU 19 ?_ | refine rG 19 (Calm.lenSl Try.underlying24 rfl) ?_
    first | refine rS 19 ?_ | refine rU 19 ?_ | refine rG 19 (ld_ ty_plain_22 rfl) ?_
    first | refine rS 19 ?_ | refine rU 19 ?_ | refine rG 19 (Calm.lenSl Try.underlying22 rfl) ?_
    first | refine rS 19 ?_ | refine rU 19 ?_ | refine rG 19 (Calm.bin rfl rfl b_neq) ?_
    refine rC ((by first | exact Calm.pickT rfl rfl | exact Calm.pickF rfl rfl)) ?_
    refine arun_nil ?_
    refine athen_n ?_
    refine AWP.sub [(0, _), (1, _), (2, _), (4, _), (5, _), (6, _), (25, _)] ⟨rfl, rfl, rfl, rfl, rfl, rfl, rfl, trivial⟩ ?_
    refine AWP.condT rfl (by first | rfl | (simp; done) | (simp; omega)) ?_
    refine AWP.seq ?_
    refine AWP.region ?_
    refine rC (Calm.assign rfl) ?_
    refine arun_nil ?_
    refine athen_n ?_
    refine AWP.ret ?_
    refine athen_ret ?_
    refine ⟨_, S1, ⟨_, _, rfl, rfl, rfl⟩, less_, ?_⟩
    exact ⟨⟨false, rfl, by constructor; (intro h; cases h); (intro h; exact absurd (right_good h).1 hg)⟩, rfl⟩
/-- A slice from a place on. -/
theorem Sl.drop1 {α : Type} {f : α → List Value} {S : Mem} {b o n cap : Nat} {l : List α} (h : Sl 1 f S (.slice (some ⟨b, o, none⟩) n cap) l) (k : Nat) (hk : k ≤ n) : Sl 1 f S (.slice (some ⟨b, if cap = k then o else o + k * 1, none⟩) (n - k) (cap - k)) (l.drop k) := by
  obtain ⟨a, c, e, h1, h2, h3⟩ := h
  cases e
  refine ⟨_, cap - k, by rw [List.length_drop], by rw [List.length_drop]; omega, by rw [List.length_drop]; omega, ?_⟩
  by_cases hl : k < l.length
  · obtain ⟨b', o', e', hkn⟩ := h3.resolve_left (fun h => by rw [h] at hl; exact absurd hl (Nat.not_lt_zero _))
    cases e'
    refine .inr ⟨b, _, rfl, fun i hi => ?_⟩
    have hne : ¬ cap = k := by omega
    rw [if_neg hne, List.getElem_drop]
    rw [List.length_drop] at hi
    have := hkn (k + i) (by omega)
    rw [show o + k * 1 + i * 1 = o + (k + i) * 1 by omega]
    exact this
  · exact .inl (List.drop_eq_nil_of_le (by omega))
theorem right_iff2 {l e : List Nat} (hp : e.Perm (List.range e.length)) (hl : e.length = l.length) :
    RightE l (e.map (fun k : Nat => (k : Int))) ↔ ∀ k (hk : k + 1 < e.length), lessB (l.drop (e[k]'(by omega))) (l.drop e[k + 1]) = true := by
  constructor
  · rintro ⟨e', h1, h2⟩ k hk
    have he : e = e' := by
      have := congrArg (List.map Int.toNat) h1
      simpa [List.map_map, Function.comp_def] using this
    subst he
    exact List.pairwise_iff_getElem.1 h2.2 k (k + 1) (by omega) hk (by omega)
  · intro h
    refine ⟨e, rfl, by rw [hl] at hp; exact hp, List.pairwise_iff_getElem.2 fun i j hi hj hij => ?_⟩
    exact Ord.chain_lt (R := fun a b => Ord.sl l a b = true) (fun a b c => Ord.sl_trans l a b c) e h i j hj hij
set_option maxHeartbeats 2000000 in
theorem rr_Right (v ve : Value) (l : List Nat) (ends : List Int) (S : Mem) (hv : RowR S v l) (hve : Sl 1 i64s S ve ends) (hl : ends.length ≤ 17592186043904) :
    ACall Try.prog 54 #[v, ve] S fun r S' => (∃ t, r = .bool t ∧ (t = true ↔ RightE l ends)) ∧ S' = S := by
  obtain ⟨va, vc, rfl, v1, v2, v3⟩ := id hv
  obtain ⟨ea, ec, rfl, e1, e2, e3⟩ := id hve
  have hInv := rr_Inverse _ _ S hve hl
  by_cases hg : GoodE ends
  · by_cases hlen : ends.length = l.length
    · obtain ⟨e, rfl, hp⟩ := hg
      rw [List.length_map] at hp hlen
      have hlm : (e.map (fun k : Nat => (k : Int))).length = e.length := List.length_map ..
      rw [hlm] at e1 e2 hl hve hInv
      have hke : ∀ i (h : i < e.length), ∃ b off, ea = some ⟨b, off, none⟩ ∧ S.Knows ⟨b, off + i * 1, none⟩ [.int .i64 (e[i] : Int)] := fun i h => by
        obtain ⟨b, off, rfl, hk⟩ := e3.resolve_left (fun h' => by rw [List.map_eq_nil_iff] at h'; subst h'; exact absurd h (Nat.not_lt_zero _))
        have := hk i (by rw [hlm]; exact h)
        rw [List.getElem_map] at this
        exact ⟨b, off, rfl, this⟩
      rw [hlm]
      have hiff := right_iff2 hp hlen
      refine ACall.enter (args := [.slice va l.length vc, .slice ea e.length ec]) (rs := [.tmp 4]) 47 [(0, .slice va l.length vc), (1, .slice ea e.length ec)] Try.func54 rfl rfl (Nat.le_of_ble_eq_true rfl) rfl ⟨rfl, rfl, trivial⟩ ?_
      refine AWP.seq ?_
      refine AWP.region ?_
      refine rC (Calm.assign rfl) ?_
      refine arun_nil ?_
      refine athen_n ?_
      refine AWP.seq ?_
      refine AWP.region ?_
      refine rC (Calm.move rfl) ?_
      refine ARun.call (lit_lt rfl) go_50 rfl (hInv) ?_
      rintro _ S1 hR
      obtain ⟨_, u, x, hx, rfl, hNew⟩ := hR.resolve_right (fun h => h.1 ⟨e, rfl, by rw [hlm]; exact hp⟩)
      obtain ⟨hSS, hu⟩ := hNew.rd (by have := hx.1; omega)
      refine rC (Calm.move rfl) ?_
      refine rC (Calm.extract rfl rfl) ?_
      refine rC (Calm.extract rfl rfl) ?_
      refine rC (Calm.assign rfl) ?_
      refine rC (Calm.assign rfl) ?_
      refine arun_nil ?_
      refine athen_n ?_
      refine AWP.sub [(0, _), (1, _), (4, _), (6, _)] ⟨rfl, rfl, rfl, rfl, trivial⟩ ?_
      refine AWP.seq ?_
      refine AWP.seq ?_
      refine AWP.region ?_
      refine rC (Calm.move rfl) ?_
      refine rC (Calm.bin rfl rfl b_neq) ?_
      refine rC (Calm.move rfl) ?_
      first | refine rS 15 ?_ | refine rU 15 ?_ | refine rG 15 (Calm.move rfl) ?_
      first | refine rS 15 ?_ | refine rU 15 ?_ | refine rG 15 (Calm.lenSl Try.underlying24 rfl) ?_
      first | refine rS 15 ?_ | refine rU 15 ?_ | refine rG 15 (Calm.move rfl) ?_
      first | refine rS 15 ?_ | refine rU 15 ?_ | refine rG 15 (Calm.lenSl Try.underlying22 rfl) ?_
      first | refine rS 15 ?_ | refine rU 15 ?_ | refine rG 15 (Calm.bin rfl rfl b_neq) ?_
      refine rC ((by first | exact Calm.pickT rfl rfl | exact Calm.pickF rfl rfl)) ?_
      refine arun_nil ?_
      refine athen_n ?_
      refine AWP.sub [(0, _), (1, _), (4, _), (6, _), (21, _)] ⟨rfl, rfl, rfl, rfl, rfl, trivial⟩ ?_
      refine AWP.condF rfl (by first | rfl | (simp; done) | (simp; omega)) ?_
      refine AWP.skip ?_
      refine athen_n ?_
      refine AWP.seq ?_
      refine AWP.seq ?_
      refine AWP.region ?_
      refine rC (Calm.move rfl) ?_
      refine rC (Calm.lenSl Try.underlying24 rfl) ?_
      refine rC (Calm.move rfl) ?_
      refine arun_nil ?_
      refine athen_n ?_
      refine AWP.sub [(0, _), (1, _), (4, _), (6, _), (21, _), (23, _), (24, _)] ⟨rfl, rfl, rfl, rfl, rfl, rfl, rfl, trivial⟩ ?_
      refine AWP.block ?_
      refine AWP.loop (X := Nat) (fun i => [(0, .slice va l.length vc), (1, .slice ea e.length ec), (23, .int .i64 e.length), (24, .int .i64 i)]) (fun _ => S1) (fun i => i ≤ e.length ∧ ∀ k (hk : k + 1 < e.length), k + 1 < i → lessB (l.drop (e[k]'(by omega))) (l.drop e[k + 1]) = true) (fun i => e.length - i) (0) ⟨rfl, rfl, rfl, rfl, trivial⟩ (Mem.Less.refl _) (⟨Nat.zero_le _, fun k hk h => absurd h (Nat.not_lt_zero _)⟩) ?_
      rintro i ⟨q2, q3⟩
      (try dsimp only at *)
      by_cases hi : i < e.length
      · refine AWP.seq ?_
        refine AWP.region ?_
        refine rC (Calm.bin rfl rfl b_lss) ?_
        refine arun_nil ?_
        refine athen_n ?_
        refine AWP.seq ?_
        refine AWP.condT rfl (by first | rfl | (simp; done) | (simp; omega)) ?_
        by_cases h0 : i = 0
        · subst h0
          refine AWP.skip ?_
          refine athen_n ?_
          refine AWP.seq ?_
          refine AWP.block ?_
          refine AWP.seq ?_
          refine AWP.region ?_
          refine rC (Calm.move rfl) ?_
          refine rC (Calm.assign rfl) ?_
          refine arun_nil ?_
          refine athen_n ?_
          refine AWP.sub [(0, _), (1, _), (23, _), (24, _), (25, _), (7, _)] ⟨rfl, rfl, rfl, rfl, rfl, rfl, trivial⟩ ?_
          refine AWP.seq ?_
          refine AWP.draw [(0, true), (1, true), (2, true), (3, true), (4, true), (5, true), (6, true), (7, true), (8, true), (9, true), (10, true), (11, true), (12, true), (13, true), (14, true), (15, true), (16, false), (17, true), (18, true)] [] mixed (by kernel_rfl) ?_
          refine dP (hc := fun _ => Calm.move rfl) (h := ?_)
          refine dP (hc := fun _ => Calm.bin rfl rfl b_gtr) (h := ?_)
          refine dP (hc := fun _ => Calm.move rfl) (h := ?_)
          first | refine dS ?_ | refine dU ?_ | refine dG (hc := fun _ => Calm.move rfl) (h := ?_)
          first | refine dS ?_ | refine dU ?_ | refine dG (hc := fun _ => Calm.move rfl) (h := ?_)
          first | refine dS ?_ | refine dU ?_ | refine dG (hc := fun _ => Calm.move rfl) (h := ?_)
          first | refine dS ?_ | refine dU ?_ | refine dG (hc := fun _ => Calm.bin rfl rfl b_sub_i64) (h := ?_)
          first | refine dS ?_ | refine dU ?_ | refine dG (hc := fun _ => Calm.indexS Try.underlying24 ty_size_3 rfl rfl (by omega) (by omega)) (h := ?_)
          first | refine dS ?_ | refine dU ?_ | refine dL (hc := ld_ ty_plain_3 rfl) (h := ?_)
          first | refine dS ?_ | refine dU ?_ | refine dG (hc := fun _ => (by first | exact Calm.sliceSl Try.underlying22 ty_size_41 rfl (bnd_none _ _) (by simp) (bnd_none _ _) (bnd_some _ _ rfl (by omega) (by omega)) | exact Calm.sliceNil Try.underlying22 ty_size_41 rfl (bnd_none _ _) (by simp) (bnd_none _ _) (bnd_zero _ _ rfl))) (h := ?_)
          first | refine dS ?_ | refine dU ?_ | refine dG (hc := fun _ => Calm.move rfl) (h := ?_)
          first | refine dS ?_ | refine dU ?_ | refine dG (hc := fun _ => Calm.move rfl) (h := ?_)
          first | refine dS ?_ | refine dU ?_ | refine dG (hc := fun _ => Calm.move rfl) (h := ?_)
          first | refine dS ?_ | refine dU ?_ | refine dG (hc := fun _ => Calm.indexS Try.underlying24 ty_size_3 rfl rfl (by omega) (by omega)) (h := ?_)
          first | refine dS ?_ | refine dU ?_ | refine dL (hc := ld_ ty_plain_3 rfl) (h := ?_)
          first | refine dS ?_ | refine dU ?_ | refine dG (hc := fun _ => (by first | exact Calm.sliceSl Try.underlying22 ty_size_41 rfl (bnd_none _ _) (by simp) (bnd_none _ _) (bnd_some _ _ rfl (by omega) (by omega)) | exact Calm.sliceNil Try.underlying22 ty_size_41 rfl (bnd_none _ _) (by simp) (bnd_none _ _) (bnd_zero _ _ rfl))) (h := ?_)
          refine draw_only rfl ?_
          first | refine rS 29 ?_ | refine rU 29 ?_
          refine arun_nil ⟨fun _ => less_, ?_⟩
          first | refine dS ?_ | refine dU ?_ | refine dG (hc := fun _ => Calm.un rfl (una_not _)) (h := ?_)
          refine dP (hc := fun _ => (by first | exact Calm.pickT rfl rfl | exact Calm.pickF rfl rfl)) (h := ?_)
          refine draw_nil ?_
          refine athen_n ?_
          refine AWP.sub [(0, _), (1, _), (23, _), (24, _), (25, _), (7, _), (45, _)] ⟨rfl, rfl, rfl, rfl, rfl, rfl, rfl, trivial⟩ ?_
          refine AWP.condF rfl (by first | rfl | (simp; done) | (simp; omega)) ?_
          refine AWP.skip ?_
          refine ain_n ?_
          refine athen_n ?_
          refine AWP.region ?_
          refine rC (Calm.bin rfl rfl b_add_i64) ?_
          refine rC (Calm.move rfl) ?_
          refine arun_nil ?_
          refine athen_n ?_
          refine ⟨1, ?_, ?_, ?_, ?_⟩
          all_goals (try dsimp only)
          · exact ⟨sq_, sq_, sq_, sq_, trivial⟩
          · exact Mem.Less.refl _
          · exact ⟨by omega, fun k hk h => by omega⟩
          · omega
        · obtain ⟨i, rfl⟩ : ∃ q, i = q + 1 := ⟨i - 1, by omega⟩
          obtain ⟨eb, eo, rfl, ke1⟩ := hke (i + 1) hi
          obtain ⟨eb', eo', ee, ke0⟩ := hke i (by omega)
          cases ee
          obtain ⟨a, ha⟩ : ∃ a, a = e[i]'(by omega) := ⟨_, rfl⟩
          obtain ⟨b, hb⟩ : ∃ b, b = e[i + 1] := ⟨_, rfl⟩
          have ha1 : a < l.length := by rw [ha, ← hlen]; exact List.mem_range.1 (hp.mem_iff.1 (List.getElem_mem _))
          have hb1 : b < l.length := by rw [hb, ← hlen]; exact List.mem_range.1 (hp.mem_iff.1 (List.getElem_mem _))
          rw [← ha] at ke0
          rw [← hb] at ke1
          replace ke0 : S1.Knows ⟨eb, eo + (((i + 1 : Nat) : Int) - 1).toNat * 1, none⟩ [.int .i64 (a : Int)] := by rw [show (((i + 1 : Nat) : Int) - 1).toNat = i by omega]; exact ke0.less hSS
          replace ke1 := ke1.less hSS
          obtain ⟨vb, vo, rfl, hkv⟩ := v3.resolve_left (fun h => by rw [h] at ha1; exact absurd ha1 (Nat.not_lt_zero _))
          refine AWP.skip ?_
          refine athen_n ?_
          refine AWP.seq ?_
          refine AWP.block ?_
          refine AWP.seq ?_
          refine AWP.region ?_
          refine rC (Calm.move rfl) ?_
          refine rC (Calm.assign rfl) ?_
          refine arun_nil ?_
          refine athen_n ?_
          refine AWP.sub [(0, _), (1, _), (23, _), (24, _), (25, _), (7, _)] ⟨rfl, rfl, rfl, rfl, rfl, rfl, trivial⟩ ?_
          refine AWP.seq ?_
          refine AWP.draw [(0, true), (1, true), (2, true), (3, true), (4, true), (5, true), (6, true), (7, true), (8, true), (9, true), (10, true), (11, true), (12, true), (13, true), (14, true), (15, true), (16, false), (17, true), (18, true)] [] mixed (by kernel_rfl) ?_
          refine dP (hc := fun _ => Calm.move rfl) (h := ?_)
          refine dP (hc := fun _ => Calm.bin rfl rfl b_gtr) (h := ?_)
          refine dP (hc := fun _ => Calm.move rfl) (h := ?_)
          first | refine dS ?_ | refine dU ?_ | refine dG (hc := fun _ => Calm.move rfl) (h := ?_)
          first | refine dS ?_ | refine dU ?_ | refine dG (hc := fun _ => Calm.move rfl) (h := ?_)
          first | refine dS ?_ | refine dU ?_ | refine dG (hc := fun _ => Calm.move rfl) (h := ?_)
          first | refine dS ?_ | refine dU ?_ | refine dG (hc := fun _ => Calm.bin rfl rfl b_sub_i64) (h := ?_)
          first | refine dS ?_ | refine dU ?_ | refine dG (hc := fun _ => Calm.indexS Try.underlying24 ty_size_3 rfl rfl (by omega) (by omega)) (h := ?_)
          first | refine dS ?_ | refine dU ?_ | refine dL (hc := ld_ ty_plain_3 rfl) (h := ?_)
          first | refine dS ?_ | refine dU ?_ | refine dG (hc := fun _ => (by first | exact Calm.sliceSl Try.underlying22 ty_size_41 rfl (bnd_none _ _) (by simp) (bnd_none _ _) (bnd_some _ _ rfl (by omega) (by omega)) | exact Calm.sliceNil Try.underlying22 ty_size_41 rfl (bnd_none _ _) (by simp) (bnd_none _ _) (bnd_zero _ _ rfl))) (h := ?_)
          first | refine dS ?_ | refine dU ?_ | refine dG (hc := fun _ => Calm.move rfl) (h := ?_)
          first | refine dS ?_ | refine dU ?_ | refine dG (hc := fun _ => Calm.move rfl) (h := ?_)
          first | refine dS ?_ | refine dU ?_ | refine dG (hc := fun _ => Calm.move rfl) (h := ?_)
          first | refine dS ?_ | refine dU ?_ | refine dG (hc := fun _ => Calm.indexS Try.underlying24 ty_size_3 rfl rfl (by omega) (by omega)) (h := ?_)
          first | refine dS ?_ | refine dU ?_ | refine dL (hc := ld_ ty_plain_3 rfl) (h := ?_)
          first | refine dS ?_ | refine dU ?_ | refine dG (hc := fun _ => (by first | exact Calm.sliceSl Try.underlying22 ty_size_41 rfl (bnd_none _ _) (by simp) (bnd_none _ _) (bnd_some _ _ rfl (by omega) (by omega)) | exact Calm.sliceNil Try.underlying22 ty_size_41 rfl (bnd_none _ _) (by simp) (bnd_none _ _) (bnd_zero _ _ rfl))) (h := ?_)
          refine draw_only rfl ?_
          refine ARun.callG 2 true 29 rfl (lit_lt rfl) rfl (lit_lt rfl) go_64 rfl (rnumV_Less (l.drop a) (l.drop b) _ _ _ (Sl.drop1 (hv.less hSS) a (by omega)) (Sl.drop1 (hv.less hSS) b (by omega))) ?_
          rintro _ S9 ⟨rfl, h9⟩
          rw [h9]; clear h9 S9
          refine arun_nil ⟨fun _ => less_, ?_⟩
          first | refine dS ?_ | refine dU ?_ | refine dG (hc := fun _ => Calm.un rfl (una_not _)) (h := ?_)
          refine dP (hc := fun _ => (by first | exact Calm.pickT rfl rfl | exact Calm.pickF rfl rfl)) (h := ?_)
          refine draw_nil ?_
          refine athen_n ?_
          refine AWP.sub [(0, _), (1, _), (23, _), (24, _), (25, _), (7, _), (45, _)] ⟨rfl, rfl, rfl, rfl, rfl, rfl, rfl, trivial⟩ ?_
          rcases Bool.eq_false_or_eq_true (lessB (l.drop a) (l.drop b)) with hls | hls
          · rw [hls]
            refine AWP.condF rfl (by first | rfl | (simp; done) | (simp; omega)) ?_
            refine AWP.skip ?_
            refine ain_n ?_
            refine athen_n ?_
            refine AWP.region ?_
            refine rC (Calm.bin rfl rfl b_add_i64) ?_
            refine rC (Calm.move rfl) ?_
            refine arun_nil ?_
            refine athen_n ?_
            refine ⟨i + 1 + 1, ?_, ?_, ?_, ?_⟩
            all_goals (try dsimp only)
            · exact ⟨sq_, sq_, sq_, sq_, trivial⟩
            · exact Mem.Less.refl _
            · exact ⟨by omega, fun k hk h => by rcases Nat.lt_or_ge (k + 1) (i + 1) with h' | h'; exact q3 k hk h'; obtain rfl : k = i := (by omega); rw [← ha, ← hb]; exact hls⟩
            · omega
          · rw [hls]
            refine AWP.condT rfl (by first | rfl | (simp; done) | (simp; omega)) ?_
            refine AWP.seq ?_
            refine AWP.region ?_
            refine rC (Calm.assign rfl) ?_
            refine arun_nil ?_
            refine athen_n ?_
            refine AWP.ret ?_
            refine ain_ret ?_
            refine athen_ret ?_
            refine athen_ret ?_
            refine ain_ret ?_
            refine athen_ret ?_
            refine ⟨_, S, ⟨_, _, rfl, rfl, rfl⟩, hSS, ?_⟩
            exact ⟨⟨false, rfl, by constructor; (intro h; cases h); (intro h; have := (hiff.1 h) i hi; rw [← ha, ← hb, hls] at this; cases this)⟩, rfl⟩
      · refine AWP.seq ?_
        refine AWP.region ?_
        refine rC (Calm.bin rfl rfl b_lss) ?_
        refine arun_nil ?_
        refine athen_n ?_
        refine AWP.seq ?_
        refine AWP.condF rfl (by first | rfl | (simp; done) | (simp; omega)) ?_
        refine AWP.exit ?_
        refine athen_exit ?_
        refine athen_exit ?_
        refine ain_same ?_
        refine athen_n ?_
        refine AWP.seq ?_
        refine AWP.region ?_
        refine rC (Calm.assign rfl) ?_
        refine arun_nil ?_
        refine athen_n ?_
        refine AWP.ret ?_
        refine ⟨_, S, ⟨_, _, rfl, rfl, rfl⟩, hSS, ?_⟩
        exact ⟨⟨true, rfl, by constructor; (intro _; exact hiff.2 fun k hk => q3 k hk (by omega)); (intro _; rfl)⟩, rfl⟩
    · skip
      refine ACall.enter (args := [.slice va l.length vc, .slice ea ends.length ec]) (rs := [.tmp 4]) 47 [(0, .slice va l.length vc), (1, .slice ea ends.length ec)] Try.func54 rfl rfl (Nat.le_of_ble_eq_true rfl) rfl ⟨rfl, rfl, trivial⟩ ?_
      refine AWP.seq ?_
      refine AWP.region ?_
      refine rC (Calm.assign rfl) ?_
      refine arun_nil ?_
      refine athen_n ?_
      refine AWP.seq ?_
      refine AWP.region ?_
      refine rC (Calm.move rfl) ?_
      refine ARun.call (lit_lt rfl) go_50 rfl (hInv) ?_
      rintro _ S1 hR
      obtain ⟨_, u, x, hx, rfl, hNew⟩ := hR.resolve_right (fun h => h.1 hg)
      obtain ⟨hS1, hu⟩ := hNew.rd (by have := hx.1; omega)
      refine rC (Calm.move rfl) ?_
      refine rC (Calm.extract rfl rfl) ?_
      refine rC (Calm.extract rfl rfl) ?_
      refine rC (Calm.assign rfl) ?_
      refine rC (Calm.assign rfl) ?_
      refine arun_nil ?_
      refine athen_n ?_
      refine AWP.sub [(0, _), (1, _), (4, _), (6, _)] ⟨rfl, rfl, rfl, rfl, trivial⟩ ?_
      refine AWP.seq ?_
      refine AWP.seq ?_
      refine AWP.region ?_
      refine rC (Calm.move rfl) ?_
      refine rC (Calm.bin rfl rfl b_neq) ?_
      refine rC (Calm.move rfl) ?_
      first | refine rS 15 ?_ | refine rU 15 ?_ | refine rG 15 (Calm.move rfl) ?_
      first | refine rS 15 ?_ | refine rU 15 ?_ | refine rG 15 (Calm.lenSl Try.underlying24 rfl) ?_
      first | refine rS 15 ?_ | refine rU 15 ?_ | refine rG 15 (Calm.move rfl) ?_
      first | refine rS 15 ?_ | refine rU 15 ?_ | refine rG 15 (Calm.lenSl Try.underlying22 rfl) ?_
      first | refine rS 15 ?_ | refine rU 15 ?_ | refine rG 15 (Calm.bin rfl rfl b_neq) ?_
      refine rC ((by first | exact Calm.pickT rfl rfl | exact Calm.pickF rfl rfl)) ?_
      refine arun_nil ?_
      refine athen_n ?_
      refine AWP.sub [(0, _), (1, _), (4, _), (6, _), (21, _)] ⟨rfl, rfl, rfl, rfl, rfl, trivial⟩ ?_
      refine AWP.condT rfl (by first | rfl | (simp; done) | (simp; omega)) ?_
      refine AWP.seq ?_
      refine AWP.region ?_
      refine rC (Calm.assign rfl) ?_
      refine arun_nil ?_
      refine athen_n ?_
      refine AWP.ret ?_
      refine athen_ret ?_
      refine ⟨_, S, ⟨_, _, rfl, rfl, rfl⟩, hS1, ?_⟩
      exact ⟨⟨false, rfl, by constructor; (intro h; cases h); (intro h; exact absurd (right_good h).2 hlen)⟩, rfl⟩
  · skip
    refine ACall.enter (args := [.slice va l.length vc, .slice ea ends.length ec]) (rs := [.tmp 4]) 47 [(0, .slice va l.length vc), (1, .slice ea ends.length ec)] Try.func54 rfl rfl (Nat.le_of_ble_eq_true rfl) rfl ⟨rfl, rfl, trivial⟩ ?_
    refine AWP.seq ?_
    refine AWP.region ?_
    refine rC (Calm.assign rfl) ?_
    refine arun_nil ?_
    refine athen_n ?_
    refine AWP.seq ?_
    refine AWP.region ?_
    refine rC (Calm.move rfl) ?_
    refine ARun.call (lit_lt rfl) go_50 rfl (hInv) ?_
    rintro _ S1 hR
    obtain ⟨_, rfl, hS1⟩ := hR.resolve_left (fun h => hg h.1)
    subst hS1
    refine rC (Calm.move rfl) ?_
    refine rC (Calm.extract rfl rfl) ?_
    refine rC (Calm.extract rfl rfl) ?_
    refine rC (Calm.assign rfl) ?_
    refine rC (Calm.assign rfl) ?_
    refine arun_nil ?_
    refine athen_n ?_
    refine AWP.sub [(0, _), (1, _), (4, _), (6, _)] ⟨rfl, rfl, rfl, rfl, trivial⟩ ?_
    refine AWP.seq ?_
    refine AWP.seq ?_
    refine AWP.region ?_
    refine rC (Calm.move rfl) ?_
    refine rC (Calm.bin rfl rfl b_neq) ?_
    refine rC (Calm.move rfl) ?_
    first | refine rS 15 ?_ | refine rU 15 ?_ | refine rG 15 (Calm.move rfl) ?_
    first | refine rS 15 ?_ | refine rU 15 ?_ | refine rG 15 (Calm.lenSl Try.underlying24 rfl) ?_
    first | refine rS 15 ?_ | refine rU 15 ?_ | refine rG 15 (Calm.move rfl) ?_
    first | refine rS 15 ?_ | refine rU 15 ?_ | refine rG 15 (Calm.lenSl Try.underlying22 rfl) ?_
    first | refine rS 15 ?_ | refine rU 15 ?_ | refine rG 15 (Calm.bin rfl rfl b_neq) ?_
    refine rC ((by first | exact Calm.pickT rfl rfl | exact Calm.pickF rfl rfl)) ?_
    refine arun_nil ?_
    refine athen_n ?_
    refine AWP.sub [(0, _), (1, _), (4, _), (6, _), (21, _)] ⟨rfl, rfl, rfl, rfl, rfl, trivial⟩ ?_
    refine AWP.condT rfl (by first | rfl | (simp; done) | (simp; omega)) ?_
    refine AWP.seq ?_
    refine AWP.region ?_
    refine rC (Calm.assign rfl) ?_
    refine arun_nil ?_
    refine athen_n ?_
    refine AWP.ret ?_
    refine athen_ret ?_
    refine ⟨_, S1, ⟨_, _, rfl, rfl, rfl⟩, less_, ?_⟩
    exact ⟨⟨false, rfl, by constructor; (intro h; cases h); (intro h; exact absurd (right_good h).1 hg)⟩, rfl⟩
end Go.Proofs.Ytgidjbpgkeemiaa
