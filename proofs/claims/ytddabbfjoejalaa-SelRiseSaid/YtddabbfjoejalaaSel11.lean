/-
  Sel: rows of a list of bits, by the program.
-/
import Derived.Test.YtddabbfjoejalaaSel10
namespace Go.Proofs.Ytddabbfjoejalaa
open Go.RowKit
open Mv Bits Sel
set_option linter.unusedVariables false
set_option linter.unusedSimpArgs false
set_option maxRecDepth 20000
theorem numB_bit (b : Bool) : numB (if b = true then 1 else 0) 1 = [b] := by cases b <;> rfl
theorem take_bit (L : List Bool) (i : Nat) (h : i < L.length) : L.take i ++ [L.getD i false] = L.take (i + 1) := by
  rw [List.take_add_one, List.getElem?_eq_getElem h]; simp [List.getD, List.getElem?_eq_getElem h]
theorem wrM_over {S : Mem} {p : Nat} {o : Option (Nat × Nat)} {L : List Bool} (h : OkW S p o L) : S.Less (wrM S p o L) := by
  unfold wrM
  cases o with
  | none => exact Mem.less_set _ _ _ h.fp.1
  | some qc =>
    obtain ⟨q, c⟩ := qc
    obtain ⟨h1, h2, h3⟩ := h.own q c rfl
    refine (Mem.less_set S q ⟨5, bytesV L, c⟩ h1.1).trans (Mem.less_set _ _ _ ?_)
    rw [Mem.own_set_other _ _ (Ne.symm h2)]; exact h.fp.1
set_option maxHeartbeats 2000000 in
theorem selV_Of (a : Option Addr) (n cap : Nat) (L : List Bool) (S : Mem) (hL : IsBl S a n L) (hn : n ≤ 65536) :
    ACall Try.prog 32 #[.slice a n cap] S (RwR (ofP L) S) := by
  obtain ⟨hl1, hl2, hl3⟩ := hL
  have hps : (bs (pack L)).size ≤ 281474976710656 := by rw [bs_size, pack_length]; omega
  have hmk := selV_Make (bs (pack L)) (L.length : Nat)
  unfold ofP
  rw [if_neg (by omega)]
  refine ACall.enter (args := [.slice a n cap]) (rs := [.cell 2 49, .tmp 3]) 30 [(0, .slice a n cap)] Try.func32 rfl rfl (Nat.le_of_ble_eq_true rfl) rfl ⟨rfl, trivial⟩ ?_
  refine AWP.seq ?_
  refine AWP.region ?_
  refine ARun.alloc (lit_lt rfl) ty_zero_49 ?_
  intro b2 f2
  have g2 := f2
  repeat ((with_reducible replace g2 := fresh_set g2); obtain ⟨g2, _⟩ := g2)
  (try simp only [List.length_cons, List.length_nil, Nat.zero_add, Nat.reduceAdd])
  refine rC (Calm.assign rfl) ?_
  refine arun_nil ?_
  refine athen_n ?_
  refine AWP.seq ?_
  refine AWP.seq ?_
  refine AWP.region ?_
  refine rC (Calm.move rfl) ?_
  refine rC (Calm.lenSl Try.underlying43 rfl) ?_
  refine rC (Calm.bin rfl rfl b_gtr) ?_
  refine arun_nil ?_
  refine athen_n ?_
  refine AWP.sub [(0, _), (2, _), (3, _), (10, _)] ⟨rfl, rfl, rfl, rfl, trivial⟩ ?_
  refine AWP.condF rfl (by first | rfl | (simp; done) | (simp; omega)) ?_
  refine AWP.skip ?_
  refine athen_n ?_
  refine AWP.seq ?_
  refine AWP.region ?_
  refine rC (Calm.build (cs := [_, _, _]) ty_bld_81 rfl rfl) ?_
  refine ARun.boxA (cs := [_, _, _]) (lit_lt rfl) rfl ?_
  intro b13 f13
  have g13 := f13
  repeat ((with_reducible replace g13 := fresh_set g13); obtain ⟨g13, _⟩ := g13)
  (try simp only [List.length_cons, List.length_nil, Nat.zero_add, Nat.reduceAdd])
  refine rC (Calm.assign rfl) ?_
  refine arun_nil ?_
  refine athen_n ?_
  refine AWP.sub [(0, _), (2, _), (3, _), (10, _), (4, _)] ⟨rfl, rfl, rfl, rfl, rfl, trivial⟩ ?_
  rw [← wrM_nil]
  have g13' := g13.2
  refine AWP.seq ?_
  refine AWP.seq ?_
  refine AWP.region ?_
  refine rC (Calm.move rfl) ?_
  refine rC (Calm.lenSl Try.underlying43 rfl) ?_
  refine rC (Calm.move rfl) ?_
  refine arun_nil ?_
  refine athen_n ?_
  refine AWP.block ?_
  refine AWP.loop (X := Nat × Option (Nat × Nat)) (fun x => [(2, .pointer (some ⟨b2, 0, none⟩)), (4, .pointer (some ⟨b13, 0, none⟩)), (14, .slice a n cap), (15, .int .i64 n), (16, .int .i64 x.1)]) (fun x => wrM (S.set b2 ⟨49, [.string ByteArray.empty, .int .i64 0, .slice none 0 0], 3⟩) b13 x.2 (L.take x.1)) (fun x => x.1 ≤ L.length ∧ OkW (S.set b2 ⟨49, [.string ByteArray.empty, .int .i64 0, .slice none 0 0], 3⟩) b13 x.2 (L.take x.1)) (fun x => L.length - x.1) ((0, none)) ⟨rfl, rfl, rfl, rfl, rfl, trivial⟩ (Mem.Less.refl _) (⟨Nat.zero_le _, okW_nil f13⟩) ?_
  rintro ⟨i, o⟩ ⟨hi, hok⟩
  (try dsimp only at *)
  have hb2 : (wrM (S.set b2 ⟨49, [.string ByteArray.empty, .int .i64 0, .slice none 0 0], 3⟩) b13 o (L.take i)).own b2 = some _ := own_wrM_ok hok (Mem.own_set_same _ _ _)
  refine AWP.seq ?_
  refine AWP.region ?_
  refine rC (Calm.bin rfl rfl b_lss) ?_
  refine arun_nil ?_
  refine athen_n ?_
  refine AWP.seq ?_
  refine AWP.condB rfl (fun hl => ?_) (fun hl => ?_)
  · have hl : i < L.length := by have := of_decide_eq_true hl; omega
    obtain ⟨b, off, rfl, hrow⟩ := hl3.resolve_left (by omega)
    have hki := (hrow i (by omega)).less ((Mem.less_set S b2 ⟨49, [.string ByteArray.empty, .int .i64 0, .slice none 0 0], 3⟩ f2.1).trans (wrM_over hok))
    refine AWP.skip ?_
    refine athen_n ?_
    refine AWP.seq ?_
    refine AWP.block ?_
    refine AWP.seq ?_
    refine AWP.region ?_
    refine rC (Calm.indexS Try.underlying43 ty_size_4 rfl rfl (by omega) (by omega)) ?_
    refine rC (Calm.loadK ty_plain_4 rfl (by show Mem.Knows _ ⟨b, off + ((i : Int)).toNat * 1, none⟩ _; rw [Int.toNat_natCast, Nat.mul_one]; exact hki)) ?_
    refine rC (Calm.assign rfl) ?_
    refine arun_nil ?_
    refine athen_n ?_
    refine AWP.sub [(2, _), (4, _), (14, _), (15, _), (16, _), (17, _), (6, _)] ⟨rfl, rfl, rfl, rfl, rfl, rfl, rfl, trivial⟩ ?_
    by_cases hx : L.getD i false = true
    · rw [hx]
      refine AWP.seq ?_
      refine AWP.region ?_
      refine rC (Calm.assign rfl) ?_
      refine arun_nil ?_
      refine athen_n ?_
      refine AWP.seq ?_
      refine AWP.seq ?_
      refine AWP.region ?_
      refine rC (Calm.move rfl) ?_
      refine arun_nil ?_
      refine athen_n ?_
      refine AWP.condT rfl (by first | rfl | (simp; done) | (simp; omega)) ?_
      refine AWP.region ?_
      refine rC (Calm.assign rfl) ?_
      refine arun_nil ?_
      refine athen_n ?_
      refine AWP.region ?_
      refine rC (Calm.move rfl) ?_
      refine rC (Calm.move rfl) ?_
      refine ARun.call (lit_lt rfl) go_60 rfl (bitsV_AddI b13 1 1 (L.take i) o _ (by omega) (by omega) (by omega) (by omega) (by rw [List.length_take]; omega) hok) ?_
      rintro _ S1 ⟨rfl, o', hok', h1⟩
      rw [h1]; clear h1 S1
      have e : L.take i ++ numB (1 : Int).toNat (1 : Int).toNat = L.take (i + 1) := by rw [← take_bit L i hl, hx]; rfl
      rw [e] at hok' ⊢
      refine arun_nil ?_
      refine ain_n ?_
      refine athen_n ?_
      refine AWP.sub [(2, _), (4, _), (14, _), (15, _), (16, _), (17, _), (6, _), (7, _), (20, _)] ⟨rfl, rfl, rfl, rfl, rfl, rfl, rfl, rfl, rfl, trivial⟩ ?_
      refine AWP.region ?_
      refine rC (Calm.bin rfl rfl b_add_i64) ?_
      refine rC (Calm.move rfl) ?_
      refine arun_nil ?_
      refine athen_n ?_
      refine ⟨(i + 1, o'), ?_, ?_, ?_, ?_⟩
      all_goals (try dsimp only)
      · exact ⟨rfl, rfl, rfl, rfl, some_int (by simp), trivial⟩
      · exact Mem.Less.refl _
      · exact ⟨hl, hok'⟩
      · omega
    · rw [Bool.eq_false_iff.2 hx]
      refine AWP.seq ?_
      refine AWP.region ?_
      refine rC (Calm.assign rfl) ?_
      refine arun_nil ?_
      refine athen_n ?_
      refine AWP.seq ?_
      refine AWP.seq ?_
      refine AWP.region ?_
      refine rC (Calm.move rfl) ?_
      refine arun_nil ?_
      refine athen_n ?_
      refine AWP.condF rfl (by first | rfl | (simp; done) | (simp; omega)) ?_
      refine AWP.skip ?_
      refine athen_n ?_
      refine AWP.region ?_
      refine rC (Calm.move rfl) ?_
      refine rC (Calm.move rfl) ?_
      refine ARun.call (lit_lt rfl) go_60 rfl (bitsV_AddI b13 0 1 (L.take i) o _ (by omega) (by omega) (by omega) (by omega) (by rw [List.length_take]; omega) hok) ?_
      rintro _ S1 ⟨rfl, o', hok', h1⟩
      rw [h1]; clear h1 S1
      have e : L.take i ++ numB (0 : Int).toNat (1 : Int).toNat = L.take (i + 1) := by rw [← take_bit L i hl, Bool.eq_false_iff.2 hx]; rfl
      rw [e] at hok' ⊢
      refine arun_nil ?_
      refine ain_n ?_
      refine athen_n ?_
      refine AWP.sub [(2, _), (4, _), (14, _), (15, _), (16, _), (17, _), (6, _), (7, _), (20, _)] ⟨rfl, rfl, rfl, rfl, rfl, rfl, rfl, rfl, rfl, trivial⟩ ?_
      refine AWP.region ?_
      refine rC (Calm.bin rfl rfl b_add_i64) ?_
      refine rC (Calm.move rfl) ?_
      refine arun_nil ?_
      refine athen_n ?_
      refine ⟨(i + 1, o'), ?_, ?_, ?_, ?_⟩
      all_goals (try dsimp only)
      · exact ⟨rfl, rfl, rfl, rfl, some_int (by simp), trivial⟩
      · exact Mem.Less.refl _
      · exact ⟨hl, hok'⟩
      · omega
  · have hl : i = L.length := by have := of_decide_eq_false hl; omega
    subst hl
    rw [List.take_length] at hok ⊢
    refine AWP.exit ?_
    refine athen_exit ?_
    refine athen_exit ?_
    refine ain_same ?_
    refine athen_n ?_
    refine AWP.seq ?_
    refine AWP.region ?_
    refine rC (Calm.move rfl) ?_
    refine ARun.call (lit_lt rfl) go_61 rfl (bitsV_Bits b13 L o _ (by omega) hok) ?_
    rintro _ S1 ⟨rfl, h1⟩
    rw [h1]; clear h1 S1
    refine ARun.call (lit_lt rfl) go_30 rfl ((hmk S hps).frame f2) ?_
    rintro _ S1 ⟨M, ⟨hc, rfl, hM, hvv⟩, f2', h1⟩
    rw [h1]; clear h1 S1
    obtain ⟨pm, cm, rfl, _⟩ := id hvv
    refine rC (Calm.extract rfl rfl) ?_
    refine rC (Calm.extract rfl rfl) ?_
    first | refine ARun.storeAll rfl rfl ty_size_49 own_ rfl rfl ?_ | refine ARun.store rfl rfl ty_size_49 own_ lens_ rfl ?_
    (try simp only [Mem.set_set, List.set_cons_zero, List.set_cons_succ, Nat.zero_add, Nat.reduceAdd])
    refine rC (Calm.assign rfl) ?_
    refine arun_nil ?_
    refine athen_n ?_
    refine AWP.sub [(2, _), (4, _), (14, _), (15, _), (16, _), (17, _), (3, _)] ⟨rfl, rfl, rfl, rfl, rfl, rfl, rfl, trivial⟩ ?_
    refine AWP.ret ?_
    refine ⟨_, M, ⟨_, _, _, rfl, .inr ⟨ty_agg_49, [_, _, _], ty_size_49, rds_, rfl⟩, ⟨_, _, rfl, rfl, rfl⟩, rfl⟩, less_, ?_⟩
    exact ⟨_, rfl, hM, hvv⟩
end Go.Proofs.Ytddabbfjoejalaa
