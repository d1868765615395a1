/-
  The walks of the document's answer, second part: Of, Put, Get, Cut, Turn, Ones, Cat.
-/
import Derived.Test.YtpeljbmbgjeomaaVBitsR1
namespace Go.Proofs.Ytpeljbmbgjeomaa
open Go.RowKit
open Bits Mv
set_option linter.unusedVariables false
set_option linter.unusedSimpArgs false
namespace Bits
/-- A slice of bools that is known. -/
def IsBl (S : Mem) (a : Option Addr) (n : Nat) (L : List Bool) : Prop :=
  L.length = n ∧ n ≤ 1048640 ∧ (n = 0 ∨ ∃ b off, a = some ⟨b, off, none⟩ ∧ ∀ i, i < n → S.Knows ⟨b, off + i, none⟩ [.bool (L.getD i false)])
theorem IsBl.less {S S' : Mem} {a : Option Addr} {n : Nat} {L : List Bool} (h : IsBl S' a n L) (hl : S'.Less S) : IsBl S a n L :=
  ⟨h.1, h.2.1, h.2.2.imp id fun ⟨b, off, e, hr⟩ => ⟨b, off, e, fun i hi => (hr i hi).less hl⟩⟩
theorem knows_own {S : Mem} {b j : Nat} {r : Blk} {v : Value} (h : S.own b = some r) (hj : r.cells[j]? = some v) : S.Knows ⟨b, j, none⟩ [v] := (rds_cons (rd_own' h hj) (rds_nil _ _)).knows
theorem bl_get (L : List Bool) (i : Nat) (h : i < L.length) : (bl L)[i]? = some (.bool (L.getD i false)) := by
  simp [bl, List.getElem?_map, List.getElem?_eq_getElem h, List.getD]
/-- A part of a block of bools. -/
theorem isBl_own {S : Mem} {b c : Nat} {e : TypeId} {L : List Bool} (f n : Nat) (h : S.own b = some ⟨e, bl L, c⟩) (hf : f + n ≤ L.length) (hn : n ≤ 1048640) : IsBl S (some ⟨b, f, none⟩) n ((L.drop f).take n) := by
  refine ⟨by simp; omega, hn, .inr ⟨b, f, rfl, fun i hi => knows_own h ?_⟩⟩
  have e1 : ((L.drop f).take n).getD i false = L.getD (f + i) false := by
    simp only [List.getD]
    rw [List.getElem?_take_of_lt hi, List.getElem?_drop]
  rw [e1]
  exact bl_get L (f + i) (by omega)
theorem isBl_out {S : Mem} {o : Option (Nat × Nat)} {e : TypeId} {L : List Bool} (h : OkO S o L.length) (hn : L.length ≤ 1048640) : ∃ a c, outV o L.length = .slice a L.length c ∧ IsBl (outM S o e (bl L)) a L.length L := by
  cases o with
  | none =>
    have := h.nil rfl
    exact ⟨none, 0, by rw [this]; rfl, rfl, hn, .inl this⟩
  | some bc =>
    obtain ⟨b, c⟩ := bc
    refine ⟨some ⟨b, 0, none⟩, c, rfl, ?_⟩
    have := isBl_own (S := outM S (some (b, c)) e (bl L)) 0 L.length (Mem.own_set_same _ _ _) (by omega) hn
    simpa using this
/-- A piece of a slice that grows. -/
def subV (o : Option (Nat × Nat)) (l h : Nat) : Value := match o with
  | none => .slice none 0 0
  | some (b, c) => .slice (some ⟨b, if c = l then 0 else 0 + l * 1, none⟩) (h - l) (c - l)
theorem sliceOut {P : Program} {N : Nat} {E : Env} {S S0 : Mem} {dst : Option Nat} {ty : TypeId} {pos : String} {aft : Array Edge} {gd : Option (Nat × Bool)} {T e : TypeId} {x xl xh : Operand} {o : Option (Nat × Nat)} {n : Nat} {k1 k2 : IntKind} {l h : Int} (hT : P.underlying T = some (.slice e)) (he : sizeT P e = some 1) (hx : ev E x = some (outV o n)) (ho : OkO S0 o n)
    (hl : ev E xl = some (.int k1 l)) (hh : ev E xh = some (.int k2 h)) (h0 : 0 ≤ l) (h1 : l ≤ h) (h2 : h ≤ n) :
    ACalm P N ⟨dst, .slice T x (some xl) (some xh) none, ty, pos, aft, gd⟩ E S (subV o l.toNat h.toNat) := by
  cases o with
  | none =>
    have hn := ho.nil rfl
    obtain rfl : h = 0 := by omega
    obtain rfl : l = 0 := by omega
    exact Calm.sliceNil hT he hx (bnd_none _ _) (by simp) (bnd_zero _ _ hh) (bnd_zero _ _ hl)
  | some bc =>
    obtain ⟨b, c⟩ := bc
    have hc := (ho.own b c rfl).2
    exact Calm.sliceSl hT he hx (bnd_none _ _) (by simp) (bnd_some _ _ hh (by omega) (by omega)) (bnd_some _ _ hl h0 (by omega))
theorem sliceOutE {P : Program} {N : Nat} {E : Env} {S S0 : Mem} {dst : Option Nat} {ty : TypeId} {pos : String} {aft : Array Edge} {gd : Option (Nat × Bool)} {T e : TypeId} {x xl xh : Operand} {o : Option (Nat × Nat)} {n : Nat} {k1 k2 : IntKind} {l h : Int} {v : Value} (hT : P.underlying T = some (.slice e)) (he : sizeT P e = some 1) (hx : ev E x = some (outV o n)) (ho : OkO S0 o n)
    (hl : ev E xl = some (.int k1 l)) (hh : ev E xh = some (.int k2 h)) (h0 : 0 ≤ l) (h1 : l ≤ h) (h2 : h ≤ n) (hv : subV o l.toNat h.toNat = v) :
    ACalm P N ⟨dst, .slice T x (some xl) (some xh) none, ty, pos, aft, gd⟩ E S v := hv ▸ sliceOut hT he hx ho hl hh h0 h1 h2
theorem isBl_sub {S : Mem} {o : Option (Nat × Nat)} {e : TypeId} {L : List Bool} (ho : OkO S o L.length) (l h : Nat) (h1 : l ≤ h) (h2 : h ≤ L.length) (hn : L.length ≤ 1048640) : ∃ a c, subV o l h = .slice a (h - l) c ∧ IsBl (outM S o e (bl L)) a (h - l) ((L.drop l).take (h - l)) := by
  cases o with
  | none =>
    have := ho.nil rfl
    exact ⟨none, 0, by rw [show h - l = 0 from by omega]; rfl, by simp; omega, by omega, .inl (by omega)⟩
  | some bc =>
    obtain ⟨b, c⟩ := bc
    have hc := (ho.own b c rfl).2
    refine ⟨_, _, rfl, ?_⟩
    by_cases e0 : c = l
    · exact ⟨by simp; omega, by omega, .inl (by omega)⟩
    · rw [if_neg e0, Nat.zero_add, Nat.mul_one]
      exact isBl_own l (h - l) (Mem.own_set_same _ _ _) (by omega) (by omega)
theorem num_snoc (B : List UInt8) (f k : Nat) : num (slc B f (k + 1)) = 2 * num (slc B f k) + (if isBit B (f + k) = true then 1 else 0) := by
  rw [slc_add, num_append, slc_length]
  have : num (slc B (f + k) 1) = bit (isBit B (f + k)) := by simp [slc, num, List.range, List.range.loop]
  rw [this]; unfold bit; split <;> omega
theorem cellsB_zero (n : Nat) : cellsB (List.replicate n 0) = List.replicate n (.int .u8 0) := by simp [cellsB, nb]
end Bits
set_option maxHeartbeats 1000000 in
theorem refV_Of (a : Option Addr) (n cap : Nat) (L : List Bool) (S : Mem) (hL : IsBl S a n L) :
    ACall Try.prog 53 #[.slice a n cap] S fun r S' => r = bv (bs (pack L)) n ∧ S' = S := by
  obtain ⟨hl1, hl2, hl3⟩ := hL
  refine ACall.enter (args := [.slice a n cap]) (rs := [.cell 2 23]) 37 [(0, .slice a n cap)] Try.func53 rfl rfl (Nat.le_of_ble_eq_true rfl) rfl ⟨rfl, trivial⟩ ?_
  refine AWP.seq ?_
  refine AWP.region ?_
  refine ARun.alloc (lit_lt rfl) ty_zero_23 ?_
  intro b2 f2
  have g2 := f2
  repeat ((with_reducible replace g2 := fresh_set g2); obtain ⟨g2, _⟩ := g2)
  (try simp only [List.length_cons, List.length_nil, Nat.zero_add, Nat.reduceAdd])
  refine arun_nil ?_
  refine athen_n ?_
  refine AWP.seq ?_
  refine AWP.region ?_
  refine ARun.calm rfl rfl (lit_lt rfl) (Calm.move rfl) ?_
  refine ARun.calm rfl rfl (lit_lt rfl) (Calm.lenSl Try.underlying69 rfl) ?_
  refine ARun.calm rfl rfl (lit_lt rfl) (Calm.bin rfl rfl (by first | exact bin_addW (IntWalk.i64_in _ (by omega)) | exact bin_add _ _)) ?_
  refine ARun.calm rfl rfl (lit_lt rfl) (Calm.bin rfl rfl (by first | exact bin_quoN (by omega) (IntWalk.i64_quo _ _ (by omega)) | exact bin_quo (by omega))) ?_
  refine ARun.makeSlice (lit_lt rfl) ty_sl_63 rfl rfl (by omega) (by omega) (by omega) (by omega) ?_
  intro b10 f10
  have g10 := f10
  repeat ((with_reducible replace g10 := fresh_set g10); obtain ⟨g10, _⟩ := g10)
  refine ARun.calm rfl rfl (lit_lt rfl) (Calm.assign rfl) ?_
  refine arun_nil ?_
  refine athen_n ?_
  refine AWP.sub [(0, _), (2, _), (3, _)] ⟨rfl, rfl, rfl, trivial⟩ ?_
  simp only [Nat.mul_one, madeL_one, show (((n : Int) + 7) / 8).toNat = (n + 7) / 8 from by omega]
  rw [← cellsB_zero, ← hl1, ← pack_zero L]
  refine AWP.seq ?_
  refine AWP.seq ?_
  refine AWP.region ?_
  refine ARun.calm rfl rfl (lit_lt rfl) (Calm.move rfl) ?_
  refine ARun.calm rfl rfl (lit_lt rfl) (Calm.lenSl Try.underlying69 rfl) ?_
  refine ARun.calm rfl rfl (lit_lt rfl) (Calm.move rfl) ?_
  refine arun_nil ?_
  refine athen_n ?_
  refine AWP.block ?_
  refine AWP.loop (X := Nat) (fun x => [(0, .slice a L.length cap), (2, .pointer (some ⟨b2, 0, none⟩)), (3, .slice (some ⟨b10, 0, none⟩) ((L.length + 7) / 8) ((L.length + 7) / 8)), (11, .slice a L.length cap), (12, .int .i64 L.length), (13, .int .i64 x)]) (fun x => (S.set b2 ⟨23, [.string ByteArray.empty, .int .i64 0], 2⟩).set b10 ⟨5, cellsB (pack (msk L x)), (L.length + 7) / 8⟩) (fun x => x ≤ L.length) (fun x => L.length - x) (0) ⟨rfl, rfl, rfl, rfl, rfl, rfl, trivial⟩ (Mem.Less.refl _) (Nat.zero_le _) ?_
  rintro i hi
  (try dsimp only at *)
  refine AWP.seq ?_
  refine AWP.region ?_
  refine ARun.calm rfl rfl (lit_lt rfl) (Calm.bin rfl rfl (by first | exact bin_bool (bin_lss _ _) (decide_eq_true (by omega)) | exact bin_bool (bin_lss _ _) (decide_eq_false (by omega)) | exact bin_lss _ _)) ?_
  refine arun_nil ?_
  refine athen_n ?_
  refine AWP.seq ?_
  refine AWP.condB rfl (fun hl => ?_) (fun hl => ?_)
  · have hl : i < L.length := by have := of_decide_eq_true hl; omega
    obtain ⟨b, off, rfl, hrow⟩ := hl3.resolve_left (by omega)
    have hki := (hrow i (by omega)).less (show S.Less ((S.set b2 ⟨23, [.string ByteArray.empty, .int .i64 0], 2⟩).set b10 ⟨5, cellsB (pack (msk L i)), (L.length + 7) / 8⟩) from (by first | with_reducible exact Mem.Less.refl _ | ((with_reducible refine Mem.less_set _ _ _ (Fresh.own ?_)); with_reducible assumption) | (refine less_of ?_; (repeat first | with_reducible exact LessB.refl _ _ | ((with_reducible refine LessB.set ?_ ?_); ((repeat first | ((with_reducible refine (Mem.own_set_other _ _ ?_).trans ?_); (first | assumption | (apply Ne.symm; assumption))) | ((with_reducible refine (Mem.own_del_other _ ?_).trans ?_); (first | assumption | (apply Ne.symm; assumption)))); (first | with_reducible exact Mem.own_set_same _ _ _ | with_reducible assumption | exact Mem.own_set_same _ _ _))) | (with_reducible refine LessB.delL ?_)); (repeat first | with_reducible exact LessB.refl _ _ | ((with_reducible refine LessB.of ?_); with_reducible assumption) | ((with_reducible refine LessB.skip ?_ ?_); (first | ((refine .inl ?_); simp; done) | ((refine .inr (Fresh.own ?_)); with_reducible assumption) | ((refine .inr ?_); with_reducible assumption))) | ((with_reducible refine LessB.skipDel ?_ ?_); (first | ((refine .inl ?_); simp; done) | ((refine .inr (Fresh.own ?_)); with_reducible assumption) | ((refine .inr ?_); with_reducible assumption)))))))
    refine AWP.skip ?_
    refine athen_n ?_
    refine AWP.seq ?_
    refine AWP.block ?_
    refine AWP.seq ?_
    refine AWP.region ?_
    refine ARun.calm rfl rfl (lit_lt rfl) (Calm.move rfl) ?_
    refine ARun.calm rfl rfl (lit_lt rfl) (Calm.indexS Try.underlying69 ty_size_4 rfl rfl (by omega) (by omega)) ?_
    refine ARun.calm rfl rfl (lit_lt rfl) (Calm.loadK ty_plain_4 rfl (by show Mem.Knows _ ⟨b, off + ((i : Int)).toNat * 1, none⟩ _; rw [Int.toNat_natCast, Nat.mul_one]; exact hki)) ?_
    refine ARun.calm rfl rfl (lit_lt rfl) (Calm.assign rfl) ?_
    refine ARun.calm rfl rfl (lit_lt rfl) (Calm.assign rfl) ?_
    refine arun_nil ?_
    refine athen_n ?_
    refine AWP.sub [(0, _), (2, _), (3, _), (11, _), (12, _), (13, _), (14, _), (4, _), (5, _)] ⟨rfl, rfl, rfl, rfl, rfl, rfl, rfl, rfl, rfl, trivial⟩ ?_
    refine AWP.seq ?_
    refine AWP.region ?_
    refine ARun.calm rfl rfl (lit_lt rfl) (Calm.move rfl) ?_
    refine arun_nil ?_
    refine athen_n ?_
    refine AWP.condB rfl (fun hx => ?_) (fun hx => ?_)
    · obtain ⟨q1, q2⟩ := of_step L i hl hx
      have em := mask_int (7 - (i : Int) % 8) (by omega) (by omega)
      have e1 : ((i : Int) / 8).toNat = i / 8 := by omega
      have e2 : (7 - (i : Int) % 8).toNat = 7 - i % 8 := by omega
      have hpl : (pack (msk L i)).length = (L.length + 7) / 8 := by rw [pack_length, msk_length _ _ (by omega)]
      have q3 : IntKind.u8.wrap (nb (at8 (pack (msk L i)) (i / 8)) + IntKind.u8.wrap (1 * 2 ^ (7 - (i : Int) % 8).toNat)) = nb (at8 (pack (msk L i)) (i / 8) ^^^ mask (7 - i % 8)) := by rw [em, e2]; exact q1
      refine AWP.region ?_
      refine ARun.calm rfl rfl (lit_lt rfl) (Calm.move rfl) ?_
      refine ARun.calm rfl rfl (lit_lt rfl) (Calm.move rfl) ?_
      refine ARun.calm rfl rfl (lit_lt rfl) (Calm.bin rfl rfl (by first | exact bin_quoN (by omega) (IntWalk.i64_quo _ _ (by omega)) | exact bin_quo (by omega))) ?_
      refine ARun.calm rfl rfl (lit_lt rfl) (Calm.indexS Try.underlying63 ty_size_5 rfl rfl (by omega) (by omega)) ?_
      refine ARun.calm rfl rfl (lit_lt rfl) (Calm.load ty_plain_5 rfl ((rd_set_same _ _ _ _).trans (by show (cellsB (pack (msk L i)))[0 + ((i : Int) / 8).toNat * 1]? = _; rw [e1, Nat.zero_add, Nat.mul_one]; exact cellsB_get _ _ (by omega)))) ?_
      refine ARun.calm rfl rfl (lit_lt rfl) (Calm.move rfl) ?_
      refine ARun.calm rfl rfl (lit_lt rfl) (Calm.bin rfl rfl (by first | exact bin_remN (by omega) (by omega) | exact bin_rem (by omega))) ?_
      refine ARun.calm rfl rfl (lit_lt rfl) (Calm.bin rfl rfl (by first | exact bin_subW (IntWalk.i64_in _ (by omega)) | exact bin_sub _ _)) ?_
      refine ARun.calm rfl rfl (lit_lt rfl) (Calm.conv rfl (by first | exact conv_intW Try.underlying3 Try.underlying34 (IntWalk.u64_in _ (by omega)) | exact conv_int Try.underlying3 Try.underlying34)) ?_
      refine ARun.calm rfl rfl (lit_lt rfl) (Calm.bin rfl rfl (bin_shl (by omega) (by simp only [IntKind.bits]; omega))) ?_
      refine ARun.calm rfl rfl (lit_lt rfl) (Calm.bin rfl rfl (bin_addW q3)) ?_
      refine ARun.calm rfl rfl (lit_lt rfl) (Calm.indexS Try.underlying63 ty_size_5 rfl rfl (by omega) (by omega)) ?_
      refine ARun.store1 rfl rfl ty_size_5 rfl ((by (repeat first | ((with_reducible refine (Mem.own_set_other _ _ ?_).trans ?_); (first | assumption | (apply Ne.symm; assumption))) | ((with_reducible refine (Mem.own_del_other _ ?_).trans ?_); (first | assumption | (apply Ne.symm; assumption)))); (first | with_reducible exact Mem.own_set_same _ _ _ | with_reducible assumption | exact Mem.own_set_same _ _ _))) (by simp only [cellsB_length]; omega) rfl ?_
      (try simp only [Mem.set_set, List.set_cons_zero, List.set_cons_succ, Nat.zero_add, Nat.reduceAdd])
      refine arun_nil ?_
      refine ain_n ?_
      refine athen_n ?_
      refine AWP.sub [(0, _), (2, _), (3, _), (11, _), (12, _), (13, _), (14, _), (4, _), (5, _), (18, _)] ⟨rfl, rfl, rfl, rfl, rfl, rfl, rfl, rfl, rfl, rfl, trivial⟩ ?_
      simp only [e1, Nat.zero_add, Nat.mul_one, cellsB_set, q2]
      refine AWP.region ?_
      refine ARun.calm rfl rfl (lit_lt rfl) (Calm.bin rfl rfl (by first | exact bin_addW (IntWalk.i64_in _ (by omega)) | exact bin_add _ _)) ?_
      refine ARun.calm rfl rfl (lit_lt rfl) (Calm.move rfl) ?_
      refine arun_nil ?_
      refine athen_n ?_
      refine ⟨i + 1, ?_, ?_, ?_, ?_⟩
      all_goals (try dsimp only)
      · exact ⟨rfl, rfl, rfl, rfl, rfl, some_int (by omega), trivial⟩
      · exact Mem.Less.refl _
      · exact hl
      · omega
    · rw [← msk_skip L i hl hx]
      refine AWP.skip ?_
      refine ain_n ?_
      refine athen_n ?_
      refine AWP.region ?_
      refine ARun.calm rfl rfl (lit_lt rfl) (Calm.bin rfl rfl (by first | exact bin_addW (IntWalk.i64_in _ (by omega)) | exact bin_add _ _)) ?_
      refine ARun.calm rfl rfl (lit_lt rfl) (Calm.move rfl) ?_
      refine arun_nil ?_
      refine athen_n ?_
      refine ⟨i + 1, ?_, ?_, ?_, ?_⟩
      all_goals (try dsimp only)
      · exact ⟨rfl, rfl, rfl, rfl, rfl, some_int (by omega), trivial⟩
      · exact Mem.Less.refl _
      · exact hl
      · omega
  · have hl : i = L.length := by have := of_decide_eq_false hl; omega
    subst hl
    rw [msk_all]
    refine AWP.exit ?_
    refine athen_exit ?_
    refine athen_exit ?_
    refine ain_same ?_
    refine athen_n ?_
    refine AWP.seq ?_
    refine AWP.region ?_
    refine ARun.calm rfl rfl (lit_lt rfl) (Calm.move rfl) ?_
    refine ARun.calm rfl rfl (lit_lt rfl) (Calm.toStr ty_bytes_63 ty_str_9 rfl (l := pack L) (pack_length L) (rds_own' ((by (repeat first | ((with_reducible refine (Mem.own_set_other _ _ ?_).trans ?_); (first | assumption | (apply Ne.symm; assumption))) | ((with_reducible refine (Mem.own_del_other _ ?_).trans ?_); (first | assumption | (apply Ne.symm; assumption)))); (first | with_reducible exact Mem.own_set_same _ _ _ | with_reducible assumption | exact Mem.own_set_same _ _ _))) rfl)) ?_
    refine ARun.calm rfl rfl (lit_lt rfl) (Calm.move rfl) ?_
    refine ARun.calm rfl rfl (lit_lt rfl) (Calm.lenSl Try.underlying69 rfl) ?_
    refine ARun.calm rfl rfl (lit_lt rfl) (Calm.build (cs := [_, _]) ty_bld_23 rfl rfl) ?_
    first | refine ARun.storeAll rfl rfl ty_size_23 ((by (repeat first | ((with_reducible refine (Mem.own_set_other _ _ ?_).trans ?_); (first | assumption | (apply Ne.symm; assumption))) | ((with_reducible refine (Mem.own_del_other _ ?_).trans ?_); (first | assumption | (apply Ne.symm; assumption)))); (first | with_reducible exact Mem.own_set_same _ _ _ | with_reducible assumption | exact Mem.own_set_same _ _ _))) rfl rfl ?_ | refine ARun.store rfl rfl ty_size_23 ((by (repeat first | ((with_reducible refine (Mem.own_set_other _ _ ?_).trans ?_); (first | assumption | (apply Ne.symm; assumption))) | ((with_reducible refine (Mem.own_del_other _ ?_).trans ?_); (first | assumption | (apply Ne.symm; assumption)))); (first | with_reducible exact Mem.own_set_same _ _ _ | with_reducible assumption | exact Mem.own_set_same _ _ _))) ((by first | decide | (simp; done) | (simp; omega) | omega)) rfl ?_
    (try simp only [Mem.set_set, List.set_cons_zero, List.set_cons_succ, Nat.zero_add, Nat.reduceAdd])
    refine arun_nil ?_
    refine athen_n ?_
    refine AWP.sub [(0, _), (2, _), (3, _), (11, _), (12, _), (13, _), (14, _)] ⟨rfl, rfl, rfl, rfl, rfl, rfl, rfl, trivial⟩ ?_
    refine AWP.ret ?_
    refine ⟨_, S, ⟨_, _, _, rfl, .inr ⟨ty_agg_23, [_, _], ty_size_23, (by first | with_reducible assumption | ((repeat (apply rds_cons; ((repeat ((with_reducible refine (rd_set_ne _ _ ?_).trans ?_); (first | assumption | (apply Ne.symm; assumption)))); (first | ((with_reducible refine (rd_set_same _ _ _ _).trans ?_); rfl) | ((with_reducible apply rd_own'); (with_reducible assumption); rfl) | with_reducible assumption)))); exact rds_nil _ _)), rfl⟩, rfl, rfl⟩, (by first | with_reducible exact Mem.Less.refl _ | ((with_reducible refine Mem.less_set _ _ _ (Fresh.own ?_)); with_reducible assumption) | (refine less_of ?_; (repeat first | with_reducible exact LessB.refl _ _ | ((with_reducible refine LessB.set ?_ ?_); ((repeat first | ((with_reducible refine (Mem.own_set_other _ _ ?_).trans ?_); (first | assumption | (apply Ne.symm; assumption))) | ((with_reducible refine (Mem.own_del_other _ ?_).trans ?_); (first | assumption | (apply Ne.symm; assumption)))); (first | with_reducible exact Mem.own_set_same _ _ _ | with_reducible assumption | exact Mem.own_set_same _ _ _))) | (with_reducible refine LessB.delL ?_)); (repeat first | with_reducible exact LessB.refl _ _ | ((with_reducible refine LessB.of ?_); with_reducible assumption) | ((with_reducible refine LessB.skip ?_ ?_); (first | ((refine .inl ?_); simp; done) | ((refine .inr (Fresh.own ?_)); with_reducible assumption) | ((refine .inr ?_); with_reducible assumption))) | ((with_reducible refine LessB.skipDel ?_ ?_); (first | ((refine .inl ?_); simp; done) | ((refine .inr (Fresh.own ?_)); with_reducible assumption) | ((refine .inr ?_); with_reducible assumption)))))), ?_⟩
    exact ⟨rfl, rfl⟩
set_option maxHeartbeats 2000000 in
theorem refV_Get (s : ByteArray) (N at_ wd : Int) (S : Mem) (hs : s.size ≤ 9223372036854775807) (hw0 : -9223372036854775808 ≤ wd) (hw1 : wd ≤ 9223372036854775807) :
    ACall Try.prog 18 #[.agg #[.string s, .int .i64 N], .int .i64 at_, .int .i64 wd] S fun r S' => r = getP s N at_ wd ∧ S' = S := by
  unfold getP
  refine ACall.enter (args := [.agg #[.string s, .int .i64 N], .int .i64 at_, .int .i64 wd]) (rs := [.tmp 6, .tmp 7]) 51 [(0, .agg #[.string s, .int .i64 N]), (1, .int .i64 at_), (2, .int .i64 wd)] Try.func18 rfl rfl (Nat.le_of_ble_eq_true rfl) rfl ⟨rfl, rfl, rfl, trivial⟩ ?_
  refine AWP.seq ?_
  refine AWP.region ?_
  refine ARun.boxA (cs := [_, _]) (lit_lt rfl) rfl ?_
  intro b3 f3
  have g3 := f3
  repeat ((with_reducible replace g3 := fresh_set g3); obtain ⟨g3, _⟩ := g3)
  (try simp only [List.length_cons, List.length_nil, Nat.zero_add, Nat.reduceAdd])
  refine ARun.calm rfl rfl (lit_lt rfl) (Calm.assign rfl) ?_
  refine ARun.calm rfl rfl (lit_lt rfl) (Calm.assign rfl) ?_
  refine arun_nil ?_
  refine athen_n ?_
  refine AWP.seq ?_
  refine AWP.seq ?_
  refine AWP.region ?_
  refine ARun.calm rfl rfl (lit_lt rfl) (Calm.loadA ty_agg_23 (cs := [_, _]) ty_size_23 rfl ((by first | with_reducible assumption | ((repeat (apply rds_cons; ((repeat ((with_reducible refine (rd_set_ne _ _ ?_).trans ?_); (first | assumption | (apply Ne.symm; assumption)))); (first | ((with_reducible refine (rd_set_same _ _ _ _).trans ?_); rfl) | ((with_reducible apply rd_own'); (with_reducible assumption); rfl) | with_reducible assumption)))); exact rds_nil _ _)))) ?_
  refine ARun.call (lit_lt rfl) go_21 rfl (refV_Check s N _ hs) ?_
  rintro _ _ ⟨rfl, rfl⟩
  refine ARun.calm rfl rfl (lit_lt rfl) (Calm.bin rfl rfl (by first | exact bin_bool (bin_neq _ _) (bnot_dec_true (by omega)) | exact bin_bool (bin_neq _ _) (bnot_dec_false (by omega)) | exact bin_neq _ _)) ?_
  refine arun_nil ?_
  refine athen_n ?_
  refine AWP.sub [(0, _), (1, _), (2, _), (3, _), (6, _), (7, _), (12, _)] ⟨rfl, rfl, rfl, rfl, rfl, rfl, rfl, trivial⟩ ?_
  refine AWP.condB rfl (fun hc => ?_) (fun hc => ?_)
  · have hc := bnot_t hc
    refine AWP.seq ?_
    refine AWP.region ?_
    refine ARun.calm rfl rfl (lit_lt rfl) (Calm.assign rfl) ?_
    refine ARun.calm rfl rfl (lit_lt rfl) (Calm.assign rfl) ?_
    refine arun_nil ?_
    refine athen_n ?_
    refine AWP.ret ?_
    refine athen_ret ?_
    refine ⟨_, S, ⟨_, _, rfl, ⟨_, _, rfl, rfl, rfl⟩, rfl⟩, (by first | with_reducible exact Mem.Less.refl _ | ((with_reducible refine Mem.less_set _ _ _ (Fresh.own ?_)); with_reducible assumption) | (refine less_of ?_; (repeat first | with_reducible exact LessB.refl _ _ | ((with_reducible refine LessB.set ?_ ?_); ((repeat first | ((with_reducible refine (Mem.own_set_other _ _ ?_).trans ?_); (first | assumption | (apply Ne.symm; assumption))) | ((with_reducible refine (Mem.own_del_other _ ?_).trans ?_); (first | assumption | (apply Ne.symm; assumption)))); (first | with_reducible exact Mem.own_set_same _ _ _ | with_reducible assumption | exact Mem.own_set_same _ _ _))) | (with_reducible refine LessB.delL ?_)); (repeat first | with_reducible exact LessB.refl _ _ | ((with_reducible refine LessB.of ?_); with_reducible assumption) | ((with_reducible refine LessB.skip ?_ ?_); (first | ((refine .inl ?_); simp; done) | ((refine .inr (Fresh.own ?_)); with_reducible assumption) | ((refine .inr ?_); with_reducible assumption))) | ((with_reducible refine LessB.skipDel ?_ ?_); (first | ((refine .inl ?_); simp; done) | ((refine .inr (Fresh.own ?_)); with_reducible assumption) | ((refine .inr ?_); with_reducible assumption)))))), ?_⟩
    exact ⟨by rw [if_pos hc]; rfl, rfl⟩
  · have hc := bnot_f hc
    rw [if_neg (fun h => h hc)]
    obtain ⟨hN0, hN1, hR⟩ := chk_right hc
    by_cases w0 : wd < 0
    · refine AWP.skip ?_
      refine athen_n ?_
      refine AWP.seq ?_
      refine AWP.seq ?_
      refine AWP.region ?_
      refine ARun.calm rfl rfl (lit_lt rfl) (Calm.move rfl) ?_
      refine ARun.calm rfl rfl (lit_lt rfl) (Calm.bin rfl rfl (by first | exact bin_bool (bin_lss _ _) (decide_eq_true (by omega)) | exact bin_bool (bin_lss _ _) (decide_eq_false (by omega)) | exact bin_lss _ _)) ?_
      refine ARun.calm rfl rfl (lit_lt rfl) (Calm.move rfl) ?_
      first | refine ARun.skipG 2 false _ 15 rfl rfl (lit_lt rfl) rfl rfl rfl (lit_lt rfl) ?_ | refine ARun.skipU 2 false 15 rfl rfl (lit_lt rfl) rfl rfl (lit_lt rfl) ?_ | refine ARun.calmG 2 false 15 rfl rfl (lit_lt rfl) rfl rfl (lit_lt rfl) (Calm.move rfl) ?_
      first | refine ARun.skipG 2 false _ 15 rfl rfl (lit_lt rfl) rfl rfl rfl (lit_lt rfl) ?_ | refine ARun.skipU 2 false 15 rfl rfl (lit_lt rfl) rfl rfl (lit_lt rfl) ?_ | refine ARun.calmG 2 false 15 rfl rfl (lit_lt rfl) rfl rfl (lit_lt rfl) (Calm.bin rfl rfl (by first | exact bin_bool (bin_gtr _ _) (decide_eq_true (by omega)) | exact bin_bool (bin_gtr _ _) (decide_eq_false (by omega)) | exact bin_gtr _ _)) ?_
      refine ARun.calm rfl rfl (lit_lt rfl) ((by first | exact Calm.pickT rfl rfl | exact Calm.pickF rfl rfl)) ?_
      refine ARun.calm rfl rfl (lit_lt rfl) (Calm.move rfl) ?_
      first | refine ARun.skipG 6 false _ 19 rfl rfl (lit_lt rfl) rfl rfl rfl (lit_lt rfl) ?_ | refine ARun.skipU 6 false 19 rfl rfl (lit_lt rfl) rfl rfl (lit_lt rfl) ?_ | refine ARun.calmG 6 false 19 rfl rfl (lit_lt rfl) rfl rfl (lit_lt rfl) (Calm.move rfl) ?_
      first | refine ARun.skipG 6 false _ 19 rfl rfl (lit_lt rfl) rfl rfl rfl (lit_lt rfl) ?_ | refine ARun.skipU 6 false 19 rfl rfl (lit_lt rfl) rfl rfl (lit_lt rfl) ?_ | refine ARun.calmG 6 false 19 rfl rfl (lit_lt rfl) rfl rfl (lit_lt rfl) (Calm.bin rfl rfl (by first | exact bin_bool (bin_lss _ _) (decide_eq_true (by omega)) | exact bin_bool (bin_lss _ _) (decide_eq_false (by omega)) | exact bin_lss _ _)) ?_
      refine ARun.calm rfl rfl (lit_lt rfl) ((by first | exact Calm.pickT rfl rfl | exact Calm.pickF rfl rfl)) ?_
      refine ARun.calm rfl rfl (lit_lt rfl) (Calm.move rfl) ?_
      first | refine ARun.skipG 10 false _ 23 rfl rfl (lit_lt rfl) rfl rfl rfl (lit_lt rfl) ?_ | refine ARun.skipU 10 false 23 rfl rfl (lit_lt rfl) rfl rfl (lit_lt rfl) ?_ | refine ARun.calmG 10 false 23 rfl rfl (lit_lt rfl) rfl rfl (lit_lt rfl) (Calm.move rfl) ?_
      first | refine ARun.skipG 10 false _ 23 rfl rfl (lit_lt rfl) rfl rfl rfl (lit_lt rfl) ?_ | refine ARun.skipU 10 false 23 rfl rfl (lit_lt rfl) rfl rfl (lit_lt rfl) ?_ | refine ARun.calmG 10 false 23 rfl rfl (lit_lt rfl) rfl rfl (lit_lt rfl) (Calm.fieldAddr ty_field_23_1 rfl) ?_
      first | refine ARun.skipG 10 false _ 23 rfl rfl (lit_lt rfl) rfl rfl rfl (lit_lt rfl) ?_ | refine ARun.skipU 10 false 23 rfl rfl (lit_lt rfl) rfl rfl (lit_lt rfl) ?_ | refine ARun.calmG 10 false 23 rfl rfl (lit_lt rfl) rfl rfl (lit_lt rfl) (Calm.load ty_plain_3 rfl ((by (repeat ((with_reducible refine (rd_set_ne _ _ ?_).trans ?_); (first | assumption | (apply Ne.symm; assumption)))); (first | ((with_reducible refine (rd_set_same _ _ _ _).trans ?_); rfl) | ((with_reducible apply rd_own'); (with_reducible assumption); rfl) | with_reducible assumption)))) ?_
      first | refine ARun.skipG 10 false _ 23 rfl rfl (lit_lt rfl) rfl rfl rfl (lit_lt rfl) ?_ | refine ARun.skipU 10 false 23 rfl rfl (lit_lt rfl) rfl rfl (lit_lt rfl) ?_ | refine ARun.calmG 10 false 23 rfl rfl (lit_lt rfl) rfl rfl (lit_lt rfl) (Calm.bin rfl rfl (by first | exact bin_bool (bin_gtr _ _) (decide_eq_true (by omega)) | exact bin_bool (bin_gtr _ _) (decide_eq_false (by omega)) | exact bin_gtr _ _)) ?_
      refine ARun.calm rfl rfl (lit_lt rfl) ((by first | exact Calm.pickT rfl rfl | exact Calm.pickF rfl rfl)) ?_
      refine arun_nil ?_
      refine athen_n ?_
      refine AWP.sub [(0, _), (1, _), (2, _), (3, _), (6, _), (7, _), (12, _), (28, _)] ⟨rfl, rfl, rfl, rfl, rfl, rfl, rfl, rfl, trivial⟩ ?_
      refine AWP.condT rfl (by first | rfl | (simp; done) | (simp; omega)) ?_
      refine AWP.seq ?_
      refine AWP.region ?_
      refine ARun.calm rfl rfl (lit_lt rfl) (Calm.assign rfl) ?_
      refine ARun.calm rfl rfl (lit_lt rfl) (Calm.assign rfl) ?_
      refine arun_nil ?_
      refine athen_n ?_
      refine AWP.ret ?_
      refine athen_ret ?_
      refine ⟨_, S, ⟨_, _, rfl, ⟨_, _, rfl, rfl, rfl⟩, rfl⟩, (by first | with_reducible exact Mem.Less.refl _ | ((with_reducible refine Mem.less_set _ _ _ (Fresh.own ?_)); with_reducible assumption) | (refine less_of ?_; (repeat first | with_reducible exact LessB.refl _ _ | ((with_reducible refine LessB.set ?_ ?_); ((repeat first | ((with_reducible refine (Mem.own_set_other _ _ ?_).trans ?_); (first | assumption | (apply Ne.symm; assumption))) | ((with_reducible refine (Mem.own_del_other _ ?_).trans ?_); (first | assumption | (apply Ne.symm; assumption)))); (first | with_reducible exact Mem.own_set_same _ _ _ | with_reducible assumption | exact Mem.own_set_same _ _ _))) | (with_reducible refine LessB.delL ?_)); (repeat first | with_reducible exact LessB.refl _ _ | ((with_reducible refine LessB.of ?_); with_reducible assumption) | ((with_reducible refine LessB.skip ?_ ?_); (first | ((refine .inl ?_); simp; done) | ((refine .inr (Fresh.own ?_)); with_reducible assumption) | ((refine .inr ?_); with_reducible assumption))) | ((with_reducible refine LessB.skipDel ?_ ?_); (first | ((refine .inl ?_); simp; done) | ((refine .inr (Fresh.own ?_)); with_reducible assumption) | ((refine .inr ?_); with_reducible assumption)))))), ?_⟩
      exact ⟨by rw [if_pos (.inl (by omega))]; rfl, rfl⟩
    · by_cases w1 : 64 < wd
      · refine AWP.skip ?_
        refine athen_n ?_
        refine AWP.seq ?_
        refine AWP.seq ?_
        refine AWP.region ?_
        refine ARun.calm rfl rfl (lit_lt rfl) (Calm.move rfl) ?_
        refine ARun.calm rfl rfl (lit_lt rfl) (Calm.bin rfl rfl (by first | exact bin_bool (bin_lss _ _) (decide_eq_true (by omega)) | exact bin_bool (bin_lss _ _) (decide_eq_false (by omega)) | exact bin_lss _ _)) ?_
        refine ARun.calm rfl rfl (lit_lt rfl) (Calm.move rfl) ?_
        first | refine ARun.skipG 2 false _ 15 rfl rfl (lit_lt rfl) rfl rfl rfl (lit_lt rfl) ?_ | refine ARun.skipU 2 false 15 rfl rfl (lit_lt rfl) rfl rfl (lit_lt rfl) ?_ | refine ARun.calmG 2 false 15 rfl rfl (lit_lt rfl) rfl rfl (lit_lt rfl) (Calm.move rfl) ?_
        first | refine ARun.skipG 2 false _ 15 rfl rfl (lit_lt rfl) rfl rfl rfl (lit_lt rfl) ?_ | refine ARun.skipU 2 false 15 rfl rfl (lit_lt rfl) rfl rfl (lit_lt rfl) ?_ | refine ARun.calmG 2 false 15 rfl rfl (lit_lt rfl) rfl rfl (lit_lt rfl) (Calm.bin rfl rfl (by first | exact bin_bool (bin_gtr _ _) (decide_eq_true (by omega)) | exact bin_bool (bin_gtr _ _) (decide_eq_false (by omega)) | exact bin_gtr _ _)) ?_
        refine ARun.calm rfl rfl (lit_lt rfl) ((by first | exact Calm.pickT rfl rfl | exact Calm.pickF rfl rfl)) ?_
        refine ARun.calm rfl rfl (lit_lt rfl) (Calm.move rfl) ?_
        first | refine ARun.skipG 6 false _ 19 rfl rfl (lit_lt rfl) rfl rfl rfl (lit_lt rfl) ?_ | refine ARun.skipU 6 false 19 rfl rfl (lit_lt rfl) rfl rfl (lit_lt rfl) ?_ | refine ARun.calmG 6 false 19 rfl rfl (lit_lt rfl) rfl rfl (lit_lt rfl) (Calm.move rfl) ?_
        first | refine ARun.skipG 6 false _ 19 rfl rfl (lit_lt rfl) rfl rfl rfl (lit_lt rfl) ?_ | refine ARun.skipU 6 false 19 rfl rfl (lit_lt rfl) rfl rfl (lit_lt rfl) ?_ | refine ARun.calmG 6 false 19 rfl rfl (lit_lt rfl) rfl rfl (lit_lt rfl) (Calm.bin rfl rfl (by first | exact bin_bool (bin_lss _ _) (decide_eq_true (by omega)) | exact bin_bool (bin_lss _ _) (decide_eq_false (by omega)) | exact bin_lss _ _)) ?_
        refine ARun.calm rfl rfl (lit_lt rfl) ((by first | exact Calm.pickT rfl rfl | exact Calm.pickF rfl rfl)) ?_
        refine ARun.calm rfl rfl (lit_lt rfl) (Calm.move rfl) ?_
        first | refine ARun.skipG 10 false _ 23 rfl rfl (lit_lt rfl) rfl rfl rfl (lit_lt rfl) ?_ | refine ARun.skipU 10 false 23 rfl rfl (lit_lt rfl) rfl rfl (lit_lt rfl) ?_ | refine ARun.calmG 10 false 23 rfl rfl (lit_lt rfl) rfl rfl (lit_lt rfl) (Calm.move rfl) ?_
        first | refine ARun.skipG 10 false _ 23 rfl rfl (lit_lt rfl) rfl rfl rfl (lit_lt rfl) ?_ | refine ARun.skipU 10 false 23 rfl rfl (lit_lt rfl) rfl rfl (lit_lt rfl) ?_ | refine ARun.calmG 10 false 23 rfl rfl (lit_lt rfl) rfl rfl (lit_lt rfl) (Calm.fieldAddr ty_field_23_1 rfl) ?_
        first | refine ARun.skipG 10 false _ 23 rfl rfl (lit_lt rfl) rfl rfl rfl (lit_lt rfl) ?_ | refine ARun.skipU 10 false 23 rfl rfl (lit_lt rfl) rfl rfl (lit_lt rfl) ?_ | refine ARun.calmG 10 false 23 rfl rfl (lit_lt rfl) rfl rfl (lit_lt rfl) (Calm.load ty_plain_3 rfl ((by (repeat ((with_reducible refine (rd_set_ne _ _ ?_).trans ?_); (first | assumption | (apply Ne.symm; assumption)))); (first | ((with_reducible refine (rd_set_same _ _ _ _).trans ?_); rfl) | ((with_reducible apply rd_own'); (with_reducible assumption); rfl) | with_reducible assumption)))) ?_
        first | refine ARun.skipG 10 false _ 23 rfl rfl (lit_lt rfl) rfl rfl rfl (lit_lt rfl) ?_ | refine ARun.skipU 10 false 23 rfl rfl (lit_lt rfl) rfl rfl (lit_lt rfl) ?_ | refine ARun.calmG 10 false 23 rfl rfl (lit_lt rfl) rfl rfl (lit_lt rfl) (Calm.bin rfl rfl (by first | exact bin_bool (bin_gtr _ _) (decide_eq_true (by omega)) | exact bin_bool (bin_gtr _ _) (decide_eq_false (by omega)) | exact bin_gtr _ _)) ?_
        refine ARun.calm rfl rfl (lit_lt rfl) ((by first | exact Calm.pickT rfl rfl | exact Calm.pickF rfl rfl)) ?_
        refine arun_nil ?_
        refine athen_n ?_
        refine AWP.sub [(0, _), (1, _), (2, _), (3, _), (6, _), (7, _), (12, _), (28, _)] ⟨rfl, rfl, rfl, rfl, rfl, rfl, rfl, rfl, trivial⟩ ?_
        refine AWP.condT rfl (by first | rfl | (simp; done) | (simp; omega)) ?_
        refine AWP.seq ?_
        refine AWP.region ?_
        refine ARun.calm rfl rfl (lit_lt rfl) (Calm.assign rfl) ?_
        refine ARun.calm rfl rfl (lit_lt rfl) (Calm.assign rfl) ?_
        refine arun_nil ?_
        refine athen_n ?_
        refine AWP.ret ?_
        refine athen_ret ?_
        refine ⟨_, S, ⟨_, _, rfl, ⟨_, _, rfl, rfl, rfl⟩, rfl⟩, (by first | with_reducible exact Mem.Less.refl _ | ((with_reducible refine Mem.less_set _ _ _ (Fresh.own ?_)); with_reducible assumption) | (refine less_of ?_; (repeat first | with_reducible exact LessB.refl _ _ | ((with_reducible refine LessB.set ?_ ?_); ((repeat first | ((with_reducible refine (Mem.own_set_other _ _ ?_).trans ?_); (first | assumption | (apply Ne.symm; assumption))) | ((with_reducible refine (Mem.own_del_other _ ?_).trans ?_); (first | assumption | (apply Ne.symm; assumption)))); (first | with_reducible exact Mem.own_set_same _ _ _ | with_reducible assumption | exact Mem.own_set_same _ _ _))) | (with_reducible refine LessB.delL ?_)); (repeat first | with_reducible exact LessB.refl _ _ | ((with_reducible refine LessB.of ?_); with_reducible assumption) | ((with_reducible refine LessB.skip ?_ ?_); (first | ((refine .inl ?_); simp; done) | ((refine .inr (Fresh.own ?_)); with_reducible assumption) | ((refine .inr ?_); with_reducible assumption))) | ((with_reducible refine LessB.skipDel ?_ ?_); (first | ((refine .inl ?_); simp; done) | ((refine .inr (Fresh.own ?_)); with_reducible assumption) | ((refine .inr ?_); with_reducible assumption)))))), ?_⟩
        exact ⟨by rw [if_pos (.inl (by omega))]; rfl, rfl⟩
      · by_cases ha : at_ < 0
        · refine AWP.skip ?_
          refine athen_n ?_
          refine AWP.seq ?_
          refine AWP.seq ?_
          refine AWP.region ?_
          refine ARun.calm rfl rfl (lit_lt rfl) (Calm.move rfl) ?_
          refine ARun.calm rfl rfl (lit_lt rfl) (Calm.bin rfl rfl (by first | exact bin_bool (bin_lss _ _) (decide_eq_true (by omega)) | exact bin_bool (bin_lss _ _) (decide_eq_false (by omega)) | exact bin_lss _ _)) ?_
          refine ARun.calm rfl rfl (lit_lt rfl) (Calm.move rfl) ?_
          first | refine ARun.skipG 2 false _ 15 rfl rfl (lit_lt rfl) rfl rfl rfl (lit_lt rfl) ?_ | refine ARun.skipU 2 false 15 rfl rfl (lit_lt rfl) rfl rfl (lit_lt rfl) ?_ | refine ARun.calmG 2 false 15 rfl rfl (lit_lt rfl) rfl rfl (lit_lt rfl) (Calm.move rfl) ?_
          first | refine ARun.skipG 2 false _ 15 rfl rfl (lit_lt rfl) rfl rfl rfl (lit_lt rfl) ?_ | refine ARun.skipU 2 false 15 rfl rfl (lit_lt rfl) rfl rfl (lit_lt rfl) ?_ | refine ARun.calmG 2 false 15 rfl rfl (lit_lt rfl) rfl rfl (lit_lt rfl) (Calm.bin rfl rfl (by first | exact bin_bool (bin_gtr _ _) (decide_eq_true (by omega)) | exact bin_bool (bin_gtr _ _) (decide_eq_false (by omega)) | exact bin_gtr _ _)) ?_
          refine ARun.calm rfl rfl (lit_lt rfl) ((by first | exact Calm.pickT rfl rfl | exact Calm.pickF rfl rfl)) ?_
          refine ARun.calm rfl rfl (lit_lt rfl) (Calm.move rfl) ?_
          first | refine ARun.skipG 6 false _ 19 rfl rfl (lit_lt rfl) rfl rfl rfl (lit_lt rfl) ?_ | refine ARun.skipU 6 false 19 rfl rfl (lit_lt rfl) rfl rfl (lit_lt rfl) ?_ | refine ARun.calmG 6 false 19 rfl rfl (lit_lt rfl) rfl rfl (lit_lt rfl) (Calm.move rfl) ?_
          first | refine ARun.skipG 6 false _ 19 rfl rfl (lit_lt rfl) rfl rfl rfl (lit_lt rfl) ?_ | refine ARun.skipU 6 false 19 rfl rfl (lit_lt rfl) rfl rfl (lit_lt rfl) ?_ | refine ARun.calmG 6 false 19 rfl rfl (lit_lt rfl) rfl rfl (lit_lt rfl) (Calm.bin rfl rfl (by first | exact bin_bool (bin_lss _ _) (decide_eq_true (by omega)) | exact bin_bool (bin_lss _ _) (decide_eq_false (by omega)) | exact bin_lss _ _)) ?_
          refine ARun.calm rfl rfl (lit_lt rfl) ((by first | exact Calm.pickT rfl rfl | exact Calm.pickF rfl rfl)) ?_
          refine ARun.calm rfl rfl (lit_lt rfl) (Calm.move rfl) ?_
          first | refine ARun.skipG 10 false _ 23 rfl rfl (lit_lt rfl) rfl rfl rfl (lit_lt rfl) ?_ | refine ARun.skipU 10 false 23 rfl rfl (lit_lt rfl) rfl rfl (lit_lt rfl) ?_ | refine ARun.calmG 10 false 23 rfl rfl (lit_lt rfl) rfl rfl (lit_lt rfl) (Calm.move rfl) ?_
          first | refine ARun.skipG 10 false _ 23 rfl rfl (lit_lt rfl) rfl rfl rfl (lit_lt rfl) ?_ | refine ARun.skipU 10 false 23 rfl rfl (lit_lt rfl) rfl rfl (lit_lt rfl) ?_ | refine ARun.calmG 10 false 23 rfl rfl (lit_lt rfl) rfl rfl (lit_lt rfl) (Calm.fieldAddr ty_field_23_1 rfl) ?_
          first | refine ARun.skipG 10 false _ 23 rfl rfl (lit_lt rfl) rfl rfl rfl (lit_lt rfl) ?_ | refine ARun.skipU 10 false 23 rfl rfl (lit_lt rfl) rfl rfl (lit_lt rfl) ?_ | refine ARun.calmG 10 false 23 rfl rfl (lit_lt rfl) rfl rfl (lit_lt rfl) (Calm.load ty_plain_3 rfl ((by (repeat ((with_reducible refine (rd_set_ne _ _ ?_).trans ?_); (first | assumption | (apply Ne.symm; assumption)))); (first | ((with_reducible refine (rd_set_same _ _ _ _).trans ?_); rfl) | ((with_reducible apply rd_own'); (with_reducible assumption); rfl) | with_reducible assumption)))) ?_
          first | refine ARun.skipG 10 false _ 23 rfl rfl (lit_lt rfl) rfl rfl rfl (lit_lt rfl) ?_ | refine ARun.skipU 10 false 23 rfl rfl (lit_lt rfl) rfl rfl (lit_lt rfl) ?_ | refine ARun.calmG 10 false 23 rfl rfl (lit_lt rfl) rfl rfl (lit_lt rfl) (Calm.bin rfl rfl (by first | exact bin_bool (bin_gtr _ _) (decide_eq_true (by omega)) | exact bin_bool (bin_gtr _ _) (decide_eq_false (by omega)) | exact bin_gtr _ _)) ?_
          refine ARun.calm rfl rfl (lit_lt rfl) ((by first | exact Calm.pickT rfl rfl | exact Calm.pickF rfl rfl)) ?_
          refine arun_nil ?_
          refine athen_n ?_
          refine AWP.sub [(0, _), (1, _), (2, _), (3, _), (6, _), (7, _), (12, _), (28, _)] ⟨rfl, rfl, rfl, rfl, rfl, rfl, rfl, rfl, trivial⟩ ?_
          refine AWP.condT rfl (by first | rfl | (simp; done) | (simp; omega)) ?_
          refine AWP.seq ?_
          refine AWP.region ?_
          refine ARun.calm rfl rfl (lit_lt rfl) (Calm.assign rfl) ?_
          refine ARun.calm rfl rfl (lit_lt rfl) (Calm.assign rfl) ?_
          refine arun_nil ?_
          refine athen_n ?_
          refine AWP.ret ?_
          refine athen_ret ?_
          refine ⟨_, S, ⟨_, _, rfl, ⟨_, _, rfl, rfl, rfl⟩, rfl⟩, (by first | with_reducible exact Mem.Less.refl _ | ((with_reducible refine Mem.less_set _ _ _ (Fresh.own ?_)); with_reducible assumption) | (refine less_of ?_; (repeat first | with_reducible exact LessB.refl _ _ | ((with_reducible refine LessB.set ?_ ?_); ((repeat first | ((with_reducible refine (Mem.own_set_other _ _ ?_).trans ?_); (first | assumption | (apply Ne.symm; assumption))) | ((with_reducible refine (Mem.own_del_other _ ?_).trans ?_); (first | assumption | (apply Ne.symm; assumption)))); (first | with_reducible exact Mem.own_set_same _ _ _ | with_reducible assumption | exact Mem.own_set_same _ _ _))) | (with_reducible refine LessB.delL ?_)); (repeat first | with_reducible exact LessB.refl _ _ | ((with_reducible refine LessB.of ?_); with_reducible assumption) | ((with_reducible refine LessB.skip ?_ ?_); (first | ((refine .inl ?_); simp; done) | ((refine .inr (Fresh.own ?_)); with_reducible assumption) | ((refine .inr ?_); with_reducible assumption))) | ((with_reducible refine LessB.skipDel ?_ ?_); (first | ((refine .inl ?_); simp; done) | ((refine .inr (Fresh.own ?_)); with_reducible assumption) | ((refine .inr ?_); with_reducible assumption)))))), ?_⟩
          exact ⟨by rw [if_pos (.inr (.inl ha))]; rfl, rfl⟩
        · by_cases hb : N < at_
          · refine AWP.skip ?_
            refine athen_n ?_
            refine AWP.seq ?_
            refine AWP.seq ?_
            refine AWP.region ?_
            refine ARun.calm rfl rfl (lit_lt rfl) (Calm.move rfl) ?_
            refine ARun.calm rfl rfl (lit_lt rfl) (Calm.bin rfl rfl (by first | exact bin_bool (bin_lss _ _) (decide_eq_true (by omega)) | exact bin_bool (bin_lss _ _) (decide_eq_false (by omega)) | exact bin_lss _ _)) ?_
            refine ARun.calm rfl rfl (lit_lt rfl) (Calm.move rfl) ?_
            first | refine ARun.skipG 2 false _ 15 rfl rfl (lit_lt rfl) rfl rfl rfl (lit_lt rfl) ?_ | refine ARun.skipU 2 false 15 rfl rfl (lit_lt rfl) rfl rfl (lit_lt rfl) ?_ | refine ARun.calmG 2 false 15 rfl rfl (lit_lt rfl) rfl rfl (lit_lt rfl) (Calm.move rfl) ?_
            first | refine ARun.skipG 2 false _ 15 rfl rfl (lit_lt rfl) rfl rfl rfl (lit_lt rfl) ?_ | refine ARun.skipU 2 false 15 rfl rfl (lit_lt rfl) rfl rfl (lit_lt rfl) ?_ | refine ARun.calmG 2 false 15 rfl rfl (lit_lt rfl) rfl rfl (lit_lt rfl) (Calm.bin rfl rfl (by first | exact bin_bool (bin_gtr _ _) (decide_eq_true (by omega)) | exact bin_bool (bin_gtr _ _) (decide_eq_false (by omega)) | exact bin_gtr _ _)) ?_
            refine ARun.calm rfl rfl (lit_lt rfl) ((by first | exact Calm.pickT rfl rfl | exact Calm.pickF rfl rfl)) ?_
            refine ARun.calm rfl rfl (lit_lt rfl) (Calm.move rfl) ?_
            first | refine ARun.skipG 6 false _ 19 rfl rfl (lit_lt rfl) rfl rfl rfl (lit_lt rfl) ?_ | refine ARun.skipU 6 false 19 rfl rfl (lit_lt rfl) rfl rfl (lit_lt rfl) ?_ | refine ARun.calmG 6 false 19 rfl rfl (lit_lt rfl) rfl rfl (lit_lt rfl) (Calm.move rfl) ?_
            first | refine ARun.skipG 6 false _ 19 rfl rfl (lit_lt rfl) rfl rfl rfl (lit_lt rfl) ?_ | refine ARun.skipU 6 false 19 rfl rfl (lit_lt rfl) rfl rfl (lit_lt rfl) ?_ | refine ARun.calmG 6 false 19 rfl rfl (lit_lt rfl) rfl rfl (lit_lt rfl) (Calm.bin rfl rfl (by first | exact bin_bool (bin_lss _ _) (decide_eq_true (by omega)) | exact bin_bool (bin_lss _ _) (decide_eq_false (by omega)) | exact bin_lss _ _)) ?_
            refine ARun.calm rfl rfl (lit_lt rfl) ((by first | exact Calm.pickT rfl rfl | exact Calm.pickF rfl rfl)) ?_
            refine ARun.calm rfl rfl (lit_lt rfl) (Calm.move rfl) ?_
            first | refine ARun.skipG 10 false _ 23 rfl rfl (lit_lt rfl) rfl rfl rfl (lit_lt rfl) ?_ | refine ARun.skipU 10 false 23 rfl rfl (lit_lt rfl) rfl rfl (lit_lt rfl) ?_ | refine ARun.calmG 10 false 23 rfl rfl (lit_lt rfl) rfl rfl (lit_lt rfl) (Calm.move rfl) ?_
            first | refine ARun.skipG 10 false _ 23 rfl rfl (lit_lt rfl) rfl rfl rfl (lit_lt rfl) ?_ | refine ARun.skipU 10 false 23 rfl rfl (lit_lt rfl) rfl rfl (lit_lt rfl) ?_ | refine ARun.calmG 10 false 23 rfl rfl (lit_lt rfl) rfl rfl (lit_lt rfl) (Calm.fieldAddr ty_field_23_1 rfl) ?_
            first | refine ARun.skipG 10 false _ 23 rfl rfl (lit_lt rfl) rfl rfl rfl (lit_lt rfl) ?_ | refine ARun.skipU 10 false 23 rfl rfl (lit_lt rfl) rfl rfl (lit_lt rfl) ?_ | refine ARun.calmG 10 false 23 rfl rfl (lit_lt rfl) rfl rfl (lit_lt rfl) (Calm.load ty_plain_3 rfl ((by (repeat ((with_reducible refine (rd_set_ne _ _ ?_).trans ?_); (first | assumption | (apply Ne.symm; assumption)))); (first | ((with_reducible refine (rd_set_same _ _ _ _).trans ?_); rfl) | ((with_reducible apply rd_own'); (with_reducible assumption); rfl) | with_reducible assumption)))) ?_
            first | refine ARun.skipG 10 false _ 23 rfl rfl (lit_lt rfl) rfl rfl rfl (lit_lt rfl) ?_ | refine ARun.skipU 10 false 23 rfl rfl (lit_lt rfl) rfl rfl (lit_lt rfl) ?_ | refine ARun.calmG 10 false 23 rfl rfl (lit_lt rfl) rfl rfl (lit_lt rfl) (Calm.bin rfl rfl (by first | exact bin_bool (bin_gtr _ _) (decide_eq_true (by omega)) | exact bin_bool (bin_gtr _ _) (decide_eq_false (by omega)) | exact bin_gtr _ _)) ?_
            refine ARun.calm rfl rfl (lit_lt rfl) ((by first | exact Calm.pickT rfl rfl | exact Calm.pickF rfl rfl)) ?_
            refine arun_nil ?_
            refine athen_n ?_
            refine AWP.sub [(0, _), (1, _), (2, _), (3, _), (6, _), (7, _), (12, _), (28, _)] ⟨rfl, rfl, rfl, rfl, rfl, rfl, rfl, rfl, trivial⟩ ?_
            refine AWP.condT rfl (by first | rfl | (simp; done) | (simp; omega)) ?_
            refine AWP.seq ?_
            refine AWP.region ?_
            refine ARun.calm rfl rfl (lit_lt rfl) (Calm.assign rfl) ?_
            refine ARun.calm rfl rfl (lit_lt rfl) (Calm.assign rfl) ?_
            refine arun_nil ?_
            refine athen_n ?_
            refine AWP.ret ?_
            refine athen_ret ?_
            refine ⟨_, S, ⟨_, _, rfl, ⟨_, _, rfl, rfl, rfl⟩, rfl⟩, (by first | with_reducible exact Mem.Less.refl _ | ((with_reducible refine Mem.less_set _ _ _ (Fresh.own ?_)); with_reducible assumption) | (refine less_of ?_; (repeat first | with_reducible exact LessB.refl _ _ | ((with_reducible refine LessB.set ?_ ?_); ((repeat first | ((with_reducible refine (Mem.own_set_other _ _ ?_).trans ?_); (first | assumption | (apply Ne.symm; assumption))) | ((with_reducible refine (Mem.own_del_other _ ?_).trans ?_); (first | assumption | (apply Ne.symm; assumption)))); (first | with_reducible exact Mem.own_set_same _ _ _ | with_reducible assumption | exact Mem.own_set_same _ _ _))) | (with_reducible refine LessB.delL ?_)); (repeat first | with_reducible exact LessB.refl _ _ | ((with_reducible refine LessB.of ?_); with_reducible assumption) | ((with_reducible refine LessB.skip ?_ ?_); (first | ((refine .inl ?_); simp; done) | ((refine .inr (Fresh.own ?_)); with_reducible assumption) | ((refine .inr ?_); with_reducible assumption))) | ((with_reducible refine LessB.skipDel ?_ ?_); (first | ((refine .inl ?_); simp; done) | ((refine .inr (Fresh.own ?_)); with_reducible assumption) | ((refine .inr ?_); with_reducible assumption)))))), ?_⟩
            exact ⟨by rw [if_pos (.inr (.inr hb))]; rfl, rfl⟩
          · rw [if_neg (fun h => by rcases h with h | h | h; exact h ⟨by omega, by omega⟩; exact ha h; exact hb h)]
            refine AWP.skip ?_
            refine athen_n ?_
            refine AWP.seq ?_
            refine AWP.seq ?_
            refine AWP.region ?_
            refine ARun.calm rfl rfl (lit_lt rfl) (Calm.move rfl) ?_
            refine ARun.calm rfl rfl (lit_lt rfl) (Calm.bin rfl rfl (by first | exact bin_bool (bin_lss _ _) (decide_eq_true (by omega)) | exact bin_bool (bin_lss _ _) (decide_eq_false (by omega)) | exact bin_lss _ _)) ?_
            refine ARun.calm rfl rfl (lit_lt rfl) (Calm.move rfl) ?_
            first | refine ARun.skipG 2 false _ 15 rfl rfl (lit_lt rfl) rfl rfl rfl (lit_lt rfl) ?_ | refine ARun.skipU 2 false 15 rfl rfl (lit_lt rfl) rfl rfl (lit_lt rfl) ?_ | refine ARun.calmG 2 false 15 rfl rfl (lit_lt rfl) rfl rfl (lit_lt rfl) (Calm.move rfl) ?_
            first | refine ARun.skipG 2 false _ 15 rfl rfl (lit_lt rfl) rfl rfl rfl (lit_lt rfl) ?_ | refine ARun.skipU 2 false 15 rfl rfl (lit_lt rfl) rfl rfl (lit_lt rfl) ?_ | refine ARun.calmG 2 false 15 rfl rfl (lit_lt rfl) rfl rfl (lit_lt rfl) (Calm.bin rfl rfl (by first | exact bin_bool (bin_gtr _ _) (decide_eq_true (by omega)) | exact bin_bool (bin_gtr _ _) (decide_eq_false (by omega)) | exact bin_gtr _ _)) ?_
            refine ARun.calm rfl rfl (lit_lt rfl) ((by first | exact Calm.pickT rfl rfl | exact Calm.pickF rfl rfl)) ?_
            refine ARun.calm rfl rfl (lit_lt rfl) (Calm.move rfl) ?_
            first | refine ARun.skipG 6 false _ 19 rfl rfl (lit_lt rfl) rfl rfl rfl (lit_lt rfl) ?_ | refine ARun.skipU 6 false 19 rfl rfl (lit_lt rfl) rfl rfl (lit_lt rfl) ?_ | refine ARun.calmG 6 false 19 rfl rfl (lit_lt rfl) rfl rfl (lit_lt rfl) (Calm.move rfl) ?_
            first | refine ARun.skipG 6 false _ 19 rfl rfl (lit_lt rfl) rfl rfl rfl (lit_lt rfl) ?_ | refine ARun.skipU 6 false 19 rfl rfl (lit_lt rfl) rfl rfl (lit_lt rfl) ?_ | refine ARun.calmG 6 false 19 rfl rfl (lit_lt rfl) rfl rfl (lit_lt rfl) (Calm.bin rfl rfl (by first | exact bin_bool (bin_lss _ _) (decide_eq_true (by omega)) | exact bin_bool (bin_lss _ _) (decide_eq_false (by omega)) | exact bin_lss _ _)) ?_
            refine ARun.calm rfl rfl (lit_lt rfl) ((by first | exact Calm.pickT rfl rfl | exact Calm.pickF rfl rfl)) ?_
            refine ARun.calm rfl rfl (lit_lt rfl) (Calm.move rfl) ?_
            first | refine ARun.skipG 10 false _ 23 rfl rfl (lit_lt rfl) rfl rfl rfl (lit_lt rfl) ?_ | refine ARun.skipU 10 false 23 rfl rfl (lit_lt rfl) rfl rfl (lit_lt rfl) ?_ | refine ARun.calmG 10 false 23 rfl rfl (lit_lt rfl) rfl rfl (lit_lt rfl) (Calm.move rfl) ?_
            first | refine ARun.skipG 10 false _ 23 rfl rfl (lit_lt rfl) rfl rfl rfl (lit_lt rfl) ?_ | refine ARun.skipU 10 false 23 rfl rfl (lit_lt rfl) rfl rfl (lit_lt rfl) ?_ | refine ARun.calmG 10 false 23 rfl rfl (lit_lt rfl) rfl rfl (lit_lt rfl) (Calm.fieldAddr ty_field_23_1 rfl) ?_
            first | refine ARun.skipG 10 false _ 23 rfl rfl (lit_lt rfl) rfl rfl rfl (lit_lt rfl) ?_ | refine ARun.skipU 10 false 23 rfl rfl (lit_lt rfl) rfl rfl (lit_lt rfl) ?_ | refine ARun.calmG 10 false 23 rfl rfl (lit_lt rfl) rfl rfl (lit_lt rfl) (Calm.load ty_plain_3 rfl ((by (repeat ((with_reducible refine (rd_set_ne _ _ ?_).trans ?_); (first | assumption | (apply Ne.symm; assumption)))); (first | ((with_reducible refine (rd_set_same _ _ _ _).trans ?_); rfl) | ((with_reducible apply rd_own'); (with_reducible assumption); rfl) | with_reducible assumption)))) ?_
            first | refine ARun.skipG 10 false _ 23 rfl rfl (lit_lt rfl) rfl rfl rfl (lit_lt rfl) ?_ | refine ARun.skipU 10 false 23 rfl rfl (lit_lt rfl) rfl rfl (lit_lt rfl) ?_ | refine ARun.calmG 10 false 23 rfl rfl (lit_lt rfl) rfl rfl (lit_lt rfl) (Calm.bin rfl rfl (by first | exact bin_bool (bin_gtr _ _) (decide_eq_true (by omega)) | exact bin_bool (bin_gtr _ _) (decide_eq_false (by omega)) | exact bin_gtr _ _)) ?_
            refine ARun.calm rfl rfl (lit_lt rfl) ((by first | exact Calm.pickT rfl rfl | exact Calm.pickF rfl rfl)) ?_
            refine arun_nil ?_
            refine athen_n ?_
            refine AWP.sub [(0, _), (1, _), (2, _), (3, _), (6, _), (7, _), (12, _), (28, _)] ⟨rfl, rfl, rfl, rfl, rfl, rfl, rfl, rfl, trivial⟩ ?_
            refine AWP.condF rfl (by first | rfl | (simp; done) | (simp; omega)) ?_
            refine AWP.skip ?_
            refine athen_n ?_
            refine AWP.seq ?_
            refine AWP.seq ?_
            refine AWP.region ?_
            refine ARun.calm rfl rfl (lit_lt rfl) (Calm.move rfl) ?_
            refine ARun.calm rfl rfl (lit_lt rfl) (Calm.fieldAddr ty_field_23_1 rfl) ?_
            refine ARun.calm rfl rfl (lit_lt rfl) (Calm.load ty_plain_3 rfl ((by (repeat ((with_reducible refine (rd_set_ne _ _ ?_).trans ?_); (first | assumption | (apply Ne.symm; assumption)))); (first | ((with_reducible refine (rd_set_same _ _ _ _).trans ?_); rfl) | ((with_reducible apply rd_own'); (with_reducible assumption); rfl) | with_reducible assumption)))) ?_
            refine ARun.calm rfl rfl (lit_lt rfl) (Calm.move rfl) ?_
            refine ARun.calm rfl rfl (lit_lt rfl) (Calm.bin rfl rfl (by first | exact bin_subW (IntWalk.i64_in _ (by omega)) | exact bin_sub _ _)) ?_
            refine ARun.calm rfl rfl (lit_lt rfl) (Calm.bin rfl rfl (by first | exact bin_bool (bin_gtr _ _) (decide_eq_true (by omega)) | exact bin_bool (bin_gtr _ _) (decide_eq_false (by omega)) | exact bin_gtr _ _)) ?_
            refine arun_nil ?_
            refine athen_n ?_
            refine AWP.sub [(0, _), (1, _), (2, _), (3, _), (6, _), (7, _), (12, _), (28, _), (34, _)] ⟨rfl, rfl, rfl, rfl, rfl, rfl, rfl, rfl, rfl, trivial⟩ ?_
            refine AWP.condB rfl (fun hf => ?_) (fun hf => ?_)
            · have hf := of_decide_eq_true hf
              refine AWP.seq ?_
              refine AWP.region ?_
              refine ARun.calm rfl rfl (lit_lt rfl) (Calm.assign rfl) ?_
              refine ARun.calm rfl rfl (lit_lt rfl) (Calm.assign rfl) ?_
              refine arun_nil ?_
              refine athen_n ?_
              refine AWP.ret ?_
              refine athen_ret ?_
              refine ⟨_, S, ⟨_, _, rfl, ⟨_, _, rfl, rfl, rfl⟩, rfl⟩, (by first | with_reducible exact Mem.Less.refl _ | ((with_reducible refine Mem.less_set _ _ _ (Fresh.own ?_)); with_reducible assumption) | (refine less_of ?_; (repeat first | with_reducible exact LessB.refl _ _ | ((with_reducible refine LessB.set ?_ ?_); ((repeat first | ((with_reducible refine (Mem.own_set_other _ _ ?_).trans ?_); (first | assumption | (apply Ne.symm; assumption))) | ((with_reducible refine (Mem.own_del_other _ ?_).trans ?_); (first | assumption | (apply Ne.symm; assumption)))); (first | with_reducible exact Mem.own_set_same _ _ _ | with_reducible assumption | exact Mem.own_set_same _ _ _))) | (with_reducible refine LessB.delL ?_)); (repeat first | with_reducible exact LessB.refl _ _ | ((with_reducible refine LessB.of ?_); with_reducible assumption) | ((with_reducible refine LessB.skip ?_ ?_); (first | ((refine .inl ?_); simp; done) | ((refine .inr (Fresh.own ?_)); with_reducible assumption) | ((refine .inr ?_); with_reducible assumption))) | ((with_reducible refine LessB.skipDel ?_ ?_); (first | ((refine .inl ?_); simp; done) | ((refine .inr (Fresh.own ?_)); with_reducible assumption) | ((refine .inr ?_); with_reducible assumption)))))), ?_⟩
              exact ⟨by rw [if_pos hf]; rfl, rfl⟩
            · have hf := of_decide_eq_false hf
              rw [if_neg hf]
              have hs1 : s.size = (N.toNat + 7) / 8 := by rw [← hR.1]; exact size_list s
              obtain ⟨f, rfl⟩ : ∃ f : Nat, at_ = f := ⟨at_.toNat, by omega⟩
              obtain ⟨m, rfl⟩ : ∃ m : Nat, wd = m := ⟨wd.toNat, by omega⟩
              refine AWP.skip ?_
              refine athen_n ?_
              refine AWP.seq ?_
              refine AWP.region ?_
              refine ARun.calm rfl rfl (lit_lt rfl) (Calm.assign rfl) ?_
              refine arun_nil ?_
              refine athen_n ?_
              refine AWP.seq ?_
              refine AWP.seq ?_
              refine AWP.region ?_
              refine ARun.calm rfl rfl (lit_lt rfl) (Calm.move rfl) ?_
              refine ARun.calm rfl rfl (lit_lt rfl) (Calm.assign rfl) ?_
              refine arun_nil ?_
              refine athen_n ?_
              refine AWP.sub [(0, _), (1, _), (2, _), (3, _), (6, _), (7, _), (12, _), (28, _), (34, _), (8, _), (9, _)] ⟨rfl, rfl, rfl, rfl, rfl, rfl, rfl, rfl, rfl, rfl, rfl, trivial⟩ ?_
              refine AWP.block ?_
              refine AWP.loop (X := Nat) (fun x => [(1, .int .i64 f), (2, .int .i64 m), (3, .pointer (some ⟨b3, 0, none⟩)), (8, .int .u64 (num (slc s.data.toList f x) : Nat)), (9, .int .i64 ((f + x : Nat) : Int))]) (fun x => S.set b3 ⟨23, [.string s, .int .i64 N], 2⟩) (fun x => x ≤ m) (fun x => m - x) (0) ⟨rfl, rfl, rfl, rfl, rfl, trivial⟩ ((by first | with_reducible exact Mem.Less.refl _ | ((with_reducible refine Mem.less_set _ _ _ (Fresh.own ?_)); with_reducible assumption) | (refine less_of ?_; (repeat first | with_reducible exact LessB.refl _ _ | ((with_reducible refine LessB.set ?_ ?_); ((repeat first | ((with_reducible refine (Mem.own_set_other _ _ ?_).trans ?_); (first | assumption | (apply Ne.symm; assumption))) | ((with_reducible refine (Mem.own_del_other _ ?_).trans ?_); (first | assumption | (apply Ne.symm; assumption)))); (first | with_reducible exact Mem.own_set_same _ _ _ | with_reducible assumption | exact Mem.own_set_same _ _ _))) | (with_reducible refine LessB.delL ?_)); (repeat first | with_reducible exact LessB.refl _ _ | ((with_reducible refine LessB.of ?_); with_reducible assumption) | ((with_reducible refine LessB.skip ?_ ?_); (first | ((refine .inl ?_); simp; done) | ((refine .inr (Fresh.own ?_)); with_reducible assumption) | ((refine .inr ?_); with_reducible assumption))) | ((with_reducible refine LessB.skipDel ?_ ?_); (first | ((refine .inl ?_); simp; done) | ((refine .inr (Fresh.own ?_)); with_reducible assumption) | ((refine .inr ?_); with_reducible assumption))))))) (Nat.zero_le _) ?_
              rintro k hk
              (try dsimp only at *)
              refine AWP.seq ?_
              refine AWP.seq ?_
              refine AWP.region ?_
              refine ARun.calm rfl rfl (lit_lt rfl) (Calm.move rfl) ?_
              refine ARun.calm rfl rfl (lit_lt rfl) (Calm.move rfl) ?_
              refine ARun.calm rfl rfl (lit_lt rfl) (Calm.move rfl) ?_
              refine ARun.calm rfl rfl (lit_lt rfl) (Calm.bin rfl rfl (by first | exact bin_addW (IntWalk.i64_in _ (by omega)) | exact bin_add _ _)) ?_
              refine ARun.calm rfl rfl (lit_lt rfl) (Calm.bin rfl rfl (by first | exact bin_bool (bin_lss _ _) (decide_eq_true (by omega)) | exact bin_bool (bin_lss _ _) (decide_eq_false (by omega)) | exact bin_lss _ _)) ?_
              refine arun_nil ?_
              refine athen_n ?_
              refine AWP.sub [(1, _), (2, _), (3, _), (8, _), (9, _), (40, _)] ⟨rfl, rfl, rfl, rfl, rfl, rfl, trivial⟩ ?_
              refine AWP.condB rfl (fun hl => ?_) (fun hl => ?_)
              · have hl : k < m := by have := of_decide_eq_true hl; omega
                have hfit := num_slc_fits s.data.toList f k 1 (by omega)
                have hsn := num_snoc s.data.toList f k
                refine AWP.skip ?_
                refine athen_n ?_
                refine AWP.seq ?_
                refine AWP.block ?_
                refine AWP.seq ?_
                refine AWP.region ?_
                refine ARun.calm rfl rfl (lit_lt rfl) (Calm.move rfl) ?_
                refine ARun.calm rfl rfl (lit_lt rfl) (Calm.bin rfl rfl (by first | exact bin_mulW (IntWalk.u64_in _ (by omega)) | exact bin_mul _ _)) ?_
                refine ARun.calm rfl rfl (lit_lt rfl) (Calm.assign rfl) ?_
                refine arun_nil ?_
                refine athen_n ?_
                refine AWP.sub [(1, _), (2, _), (3, _), (8, _), (9, _), (40, _)] ⟨rfl, rfl, rfl, rfl, rfl, rfl, trivial⟩ ?_
                refine AWP.seq ?_
                refine AWP.region ?_
                refine ARun.calm rfl rfl (lit_lt rfl) (Calm.loadA ty_agg_23 (cs := [_, _]) ty_size_23 rfl ((by first | with_reducible assumption | ((repeat (apply rds_cons; ((repeat ((with_reducible refine (rd_set_ne _ _ ?_).trans ?_); (first | assumption | (apply Ne.symm; assumption)))); (first | ((with_reducible refine (rd_set_same _ _ _ _).trans ?_); rfl) | ((with_reducible apply rd_own'); (with_reducible assumption); rfl) | with_reducible assumption)))); exact rds_nil _ _)))) ?_
                refine ARun.calm rfl rfl (lit_lt rfl) (Calm.move rfl) ?_
                refine ARun.call (lit_lt rfl) go_55 rfl (refV_Is s N _ _ (by omega) (by omega) (by omega)) ?_
                rintro _ _ ⟨rfl, rfl⟩
                simp only [Int.toNat_natCast]
                refine arun_nil ?_
                refine athen_n ?_
                refine AWP.sub [(1, _), (2, _), (3, _), (8, _), (9, _), (40, _), (47, _)] ⟨rfl, rfl, rfl, rfl, rfl, rfl, rfl, trivial⟩ ?_
                refine AWP.condB rfl (fun hx => ?_) (fun hx => ?_)
                · rw [hx, if_pos rfl] at hsn
                  refine AWP.region ?_
                  refine ARun.calm rfl rfl (lit_lt rfl) (Calm.move rfl) ?_
                  refine ARun.calm rfl rfl (lit_lt rfl) (Calm.bin rfl rfl (by first | exact bin_addW (IntWalk.u64_in _ (by omega)) | exact bin_add _ _)) ?_
                  refine ARun.calm rfl rfl (lit_lt rfl) (Calm.assign rfl) ?_
                  refine arun_nil ?_
                  refine ain_n ?_
                  refine athen_n ?_
                  refine AWP.sub [(1, _), (2, _), (3, _), (8, _), (9, _), (40, _), (47, _)] ⟨rfl, rfl, rfl, rfl, rfl, rfl, rfl, trivial⟩ ?_
                  refine AWP.region ?_
                  refine ARun.calm rfl rfl (lit_lt rfl) (Calm.move rfl) ?_
                  refine ARun.calm rfl rfl (lit_lt rfl) (Calm.bin rfl rfl (by first | exact bin_addW (IntWalk.i64_in _ (by omega)) | exact bin_add _ _)) ?_
                  refine ARun.calm rfl rfl (lit_lt rfl) (Calm.assign rfl) ?_
                  refine arun_nil ?_
                  refine athen_n ?_
                  refine ⟨k + 1, ?_, ?_, ?_, ?_⟩
                  all_goals (try dsimp only)
                  · exact ⟨rfl, rfl, rfl, some_int (by omega), some_int (by omega), trivial⟩
                  · exact Mem.Less.refl _
                  · exact hl
                  · omega
                · rw [hx, if_neg (by simp)] at hsn
                  refine AWP.skip ?_
                  refine ain_n ?_
                  refine athen_n ?_
                  refine AWP.region ?_
                  refine ARun.calm rfl rfl (lit_lt rfl) (Calm.move rfl) ?_
                  refine ARun.calm rfl rfl (lit_lt rfl) (Calm.bin rfl rfl (by first | exact bin_addW (IntWalk.i64_in _ (by omega)) | exact bin_add _ _)) ?_
                  refine ARun.calm rfl rfl (lit_lt rfl) (Calm.assign rfl) ?_
                  refine arun_nil ?_
                  refine athen_n ?_
                  refine ⟨k + 1, ?_, ?_, ?_, ?_⟩
                  all_goals (try dsimp only)
                  · exact ⟨rfl, rfl, rfl, some_int (by omega), some_int (by omega), trivial⟩
                  · exact Mem.Less.refl _
                  · exact hl
                  · omega
              · have hl : k = m := by have := of_decide_eq_false hl; omega
                subst hl
                refine AWP.exit ?_
                refine athen_exit ?_
                refine athen_exit ?_
                refine ain_same ?_
                refine athen_n ?_
                refine AWP.seq ?_
                refine AWP.region ?_
                refine ARun.calm rfl rfl (lit_lt rfl) (Calm.move rfl) ?_
                refine ARun.calm rfl rfl (lit_lt rfl) (Calm.assign rfl) ?_
                refine ARun.calm rfl rfl (lit_lt rfl) (Calm.assign rfl) ?_
                refine arun_nil ?_
                refine athen_n ?_
                refine AWP.sub [(1, _), (2, _), (3, _), (8, _), (9, _), (40, _), (6, _), (7, _)] ⟨rfl, rfl, rfl, rfl, rfl, rfl, rfl, rfl, trivial⟩ ?_
                refine AWP.ret ?_
                refine ⟨_, S, ⟨_, _, rfl, ⟨_, _, rfl, rfl, rfl⟩, rfl⟩, (by first | with_reducible exact Mem.Less.refl _ | ((with_reducible refine Mem.less_set _ _ _ (Fresh.own ?_)); with_reducible assumption) | (refine less_of ?_; (repeat first | with_reducible exact LessB.refl _ _ | ((with_reducible refine LessB.set ?_ ?_); ((repeat first | ((with_reducible refine (Mem.own_set_other _ _ ?_).trans ?_); (first | assumption | (apply Ne.symm; assumption))) | ((with_reducible refine (Mem.own_del_other _ ?_).trans ?_); (first | assumption | (apply Ne.symm; assumption)))); (first | with_reducible exact Mem.own_set_same _ _ _ | with_reducible assumption | exact Mem.own_set_same _ _ _))) | (with_reducible refine LessB.delL ?_)); (repeat first | with_reducible exact LessB.refl _ _ | ((with_reducible refine LessB.of ?_); with_reducible assumption) | ((with_reducible refine LessB.skip ?_ ?_); (first | ((refine .inl ?_); simp; done) | ((refine .inr (Fresh.own ?_)); with_reducible assumption) | ((refine .inr ?_); with_reducible assumption))) | ((with_reducible refine LessB.skipDel ?_ ?_); (first | ((refine .inl ?_); simp; done) | ((refine .inr (Fresh.own ?_)); with_reducible assumption) | ((refine .inr ?_); with_reducible assumption)))))), ?_⟩
                exact ⟨by simp only [Int.toNat_natCast]; rfl, rfl⟩
set_option maxHeartbeats 2000000 in
theorem refV_Cut (s : ByteArray) (N fr n : Int) (S : Mem) (hs : s.size ≤ 9223372036854775807) (hw0 : -9223372036854775808 ≤ fr) (hw1 : n ≤ 9223372036854775807) (hn0 : -9223372036854775808 ≤ n) :
    ACall Try.prog 25 #[.agg #[.string s, .int .i64 N], .int .i64 fr, .int .i64 n] S fun r S' => r = cutP s N fr n ∧ S' = S := by
  unfold cutP
  refine ACall.enter (args := [.agg #[.string s, .int .i64 N], .int .i64 fr, .int .i64 n]) (rs := [.cell 6 23, .tmp 7]) 40 [(0, .agg #[.string s, .int .i64 N]), (1, .int .i64 fr), (2, .int .i64 n)] Try.func25 rfl rfl (Nat.le_of_ble_eq_true rfl) rfl ⟨rfl, rfl, rfl, trivial⟩ ?_
  refine AWP.seq ?_
  refine AWP.region ?_
  refine ARun.boxA (cs := [_, _]) (lit_lt rfl) rfl ?_
  intro b3 f3
  have g3 := f3
  repeat ((with_reducible replace g3 := fresh_set g3); obtain ⟨g3, _⟩ := g3)
  (try simp only [List.length_cons, List.length_nil, Nat.zero_add, Nat.reduceAdd])
  refine ARun.alloc (lit_lt rfl) ty_zero_23 ?_
  intro b6 f6
  have g6 := f6
  repeat ((with_reducible replace g6 := fresh_set g6); obtain ⟨g6, _⟩ := g6)
  (try simp only [List.length_cons, List.length_nil, Nat.zero_add, Nat.reduceAdd])
  refine ARun.calm rfl rfl (lit_lt rfl) (Calm.assign rfl) ?_
  refine arun_nil ?_
  refine athen_n ?_
  refine AWP.seq ?_
  refine AWP.seq ?_
  refine AWP.region ?_
  refine ARun.calm rfl rfl (lit_lt rfl) (Calm.loadA ty_agg_23 (cs := [_, _]) ty_size_23 rfl ((by first | with_reducible assumption | ((repeat (apply rds_cons; ((repeat ((with_reducible refine (rd_set_ne _ _ ?_).trans ?_); (first | assumption | (apply Ne.symm; assumption)))); (first | ((with_reducible refine (rd_set_same _ _ _ _).trans ?_); rfl) | ((with_reducible apply rd_own'); (with_reducible assumption); rfl) | with_reducible assumption)))); exact rds_nil _ _)))) ?_
  refine ARun.call (lit_lt rfl) go_21 rfl (refV_Check s N _ hs) ?_
  rintro _ _ ⟨rfl, rfl⟩
  refine ARun.calm rfl rfl (lit_lt rfl) (Calm.bin rfl rfl (by first | exact bin_bool (bin_neq _ _) (bnot_dec_true (by omega)) | exact bin_bool (bin_neq _ _) (bnot_dec_false (by omega)) | exact bin_neq _ _)) ?_
  refine arun_nil ?_
  refine athen_n ?_
  refine AWP.sub [(0, _), (1, _), (2, _), (3, _), (6, _), (7, _), (10, _)] ⟨rfl, rfl, rfl, rfl, rfl, rfl, rfl, trivial⟩ ?_
  refine AWP.condB rfl (fun hc => ?_) (fun hc => ?_)
  · have hc := bnot_t hc
    refine AWP.seq ?_
    refine AWP.region ?_
    refine ARun.calm rfl rfl (lit_lt rfl) (Calm.build (cs := [_, _]) ty_bld_23 rfl rfl) ?_
    first | refine ARun.storeAll rfl rfl ty_size_23 ((by (repeat first | ((with_reducible refine (Mem.own_set_other _ _ ?_).trans ?_); (first | assumption | (apply Ne.symm; assumption))) | ((with_reducible refine (Mem.own_del_other _ ?_).trans ?_); (first | assumption | (apply Ne.symm; assumption)))); (first | with_reducible exact Mem.own_set_same _ _ _ | with_reducible assumption | exact Mem.own_set_same _ _ _))) rfl rfl ?_ | refine ARun.store rfl rfl ty_size_23 ((by (repeat first | ((with_reducible refine (Mem.own_set_other _ _ ?_).trans ?_); (first | assumption | (apply Ne.symm; assumption))) | ((with_reducible refine (Mem.own_del_other _ ?_).trans ?_); (first | assumption | (apply Ne.symm; assumption)))); (first | with_reducible exact Mem.own_set_same _ _ _ | with_reducible assumption | exact Mem.own_set_same _ _ _))) ((by first | decide | (simp; done) | (simp; omega) | omega)) rfl ?_
    (try simp only [Mem.set_set, List.set_cons_zero, List.set_cons_succ, Nat.zero_add, Nat.reduceAdd])
    refine ARun.calm rfl rfl (lit_lt rfl) (Calm.assign rfl) ?_
    refine arun_nil ?_
    refine athen_n ?_
    refine AWP.sub [(0, _), (1, _), (2, _), (3, _), (6, _), (7, _), (10, _)] ⟨rfl, rfl, rfl, rfl, rfl, rfl, rfl, trivial⟩ ?_
    refine AWP.ret ?_
    refine athen_ret ?_
    refine ⟨_, S, ⟨_, _, _, rfl, .inr ⟨ty_agg_23, [_, _], ty_size_23, (by first | with_reducible assumption | ((repeat (apply rds_cons; ((repeat ((with_reducible refine (rd_set_ne _ _ ?_).trans ?_); (first | assumption | (apply Ne.symm; assumption)))); (first | ((with_reducible refine (rd_set_same _ _ _ _).trans ?_); rfl) | ((with_reducible apply rd_own'); (with_reducible assumption); rfl) | with_reducible assumption)))); exact rds_nil _ _)), rfl⟩, ⟨_, _, rfl, rfl, rfl⟩, rfl⟩, (by first | with_reducible exact Mem.Less.refl _ | ((with_reducible refine Mem.less_set _ _ _ (Fresh.own ?_)); with_reducible assumption) | (refine less_of ?_; (repeat first | with_reducible exact LessB.refl _ _ | ((with_reducible refine LessB.set ?_ ?_); ((repeat first | ((with_reducible refine (Mem.own_set_other _ _ ?_).trans ?_); (first | assumption | (apply Ne.symm; assumption))) | ((with_reducible refine (Mem.own_del_other _ ?_).trans ?_); (first | assumption | (apply Ne.symm; assumption)))); (first | with_reducible exact Mem.own_set_same _ _ _ | with_reducible assumption | exact Mem.own_set_same _ _ _))) | (with_reducible refine LessB.delL ?_)); (repeat first | with_reducible exact LessB.refl _ _ | ((with_reducible refine LessB.of ?_); with_reducible assumption) | ((with_reducible refine LessB.skip ?_ ?_); (first | ((refine .inl ?_); simp; done) | ((refine .inr (Fresh.own ?_)); with_reducible assumption) | ((refine .inr ?_); with_reducible assumption))) | ((with_reducible refine LessB.skipDel ?_ ?_); (first | ((refine .inl ?_); simp; done) | ((refine .inr (Fresh.own ?_)); with_reducible assumption) | ((refine .inr ?_); with_reducible assumption)))))), ?_⟩
    exact ⟨by rw [if_pos hc]; rfl, rfl⟩
  · have hc := bnot_f hc
    rw [if_neg (fun h => h hc)]
    obtain ⟨hN0, hN1, hR⟩ := chk_right hc
    by_cases ha : fr < 0
    · refine AWP.skip ?_
      refine athen_n ?_
      refine AWP.seq ?_
      refine AWP.seq ?_
      refine AWP.region ?_
      refine ARun.calm rfl rfl (lit_lt rfl) (Calm.move rfl) ?_
      refine ARun.calm rfl rfl (lit_lt rfl) (Calm.bin rfl rfl (by first | exact bin_bool (bin_lss _ _) (decide_eq_true (by omega)) | exact bin_bool (bin_lss _ _) (decide_eq_false (by omega)) | exact bin_lss _ _)) ?_
      refine ARun.calm rfl rfl (lit_lt rfl) (Calm.move rfl) ?_
      first | refine ARun.skipG 2 false _ 14 rfl rfl (lit_lt rfl) rfl rfl rfl (lit_lt rfl) ?_ | refine ARun.skipU 2 false 14 rfl rfl (lit_lt rfl) rfl rfl (lit_lt rfl) ?_ | refine ARun.calmG 2 false 14 rfl rfl (lit_lt rfl) rfl rfl (lit_lt rfl) (Calm.move rfl) ?_
      first | refine ARun.skipG 2 false _ 14 rfl rfl (lit_lt rfl) rfl rfl rfl (lit_lt rfl) ?_ | refine ARun.skipU 2 false 14 rfl rfl (lit_lt rfl) rfl rfl (lit_lt rfl) ?_ | refine ARun.calmG 2 false 14 rfl rfl (lit_lt rfl) rfl rfl (lit_lt rfl) (Calm.bin rfl rfl (by first | exact bin_bool (bin_lss _ _) (decide_eq_true (by omega)) | exact bin_bool (bin_lss _ _) (decide_eq_false (by omega)) | exact bin_lss _ _)) ?_
      refine ARun.calm rfl rfl (lit_lt rfl) ((by first | exact Calm.pickT rfl rfl | exact Calm.pickF rfl rfl)) ?_
      refine ARun.calm rfl rfl (lit_lt rfl) (Calm.move rfl) ?_
      first | refine ARun.skipG 6 false _ 18 rfl rfl (lit_lt rfl) rfl rfl rfl (lit_lt rfl) ?_ | refine ARun.skipU 6 false 18 rfl rfl (lit_lt rfl) rfl rfl (lit_lt rfl) ?_ | refine ARun.calmG 6 false 18 rfl rfl (lit_lt rfl) rfl rfl (lit_lt rfl) (Calm.move rfl) ?_
      first | refine ARun.skipG 6 false _ 18 rfl rfl (lit_lt rfl) rfl rfl rfl (lit_lt rfl) ?_ | refine ARun.skipU 6 false 18 rfl rfl (lit_lt rfl) rfl rfl (lit_lt rfl) ?_ | refine ARun.calmG 6 false 18 rfl rfl (lit_lt rfl) rfl rfl (lit_lt rfl) (Calm.fieldAddr ty_field_23_1 rfl) ?_
      first | refine ARun.skipG 6 false _ 18 rfl rfl (lit_lt rfl) rfl rfl rfl (lit_lt rfl) ?_ | refine ARun.skipU 6 false 18 rfl rfl (lit_lt rfl) rfl rfl (lit_lt rfl) ?_ | refine ARun.calmG 6 false 18 rfl rfl (lit_lt rfl) rfl rfl (lit_lt rfl) (Calm.load ty_plain_3 rfl ((by (repeat ((with_reducible refine (rd_set_ne _ _ ?_).trans ?_); (first | assumption | (apply Ne.symm; assumption)))); (first | ((with_reducible refine (rd_set_same _ _ _ _).trans ?_); rfl) | ((with_reducible apply rd_own'); (with_reducible assumption); rfl) | with_reducible assumption)))) ?_
      first | refine ARun.skipG 6 false _ 18 rfl rfl (lit_lt rfl) rfl rfl rfl (lit_lt rfl) ?_ | refine ARun.skipU 6 false 18 rfl rfl (lit_lt rfl) rfl rfl (lit_lt rfl) ?_ | refine ARun.calmG 6 false 18 rfl rfl (lit_lt rfl) rfl rfl (lit_lt rfl) (Calm.bin rfl rfl (by first | exact bin_bool (bin_gtr _ _) (decide_eq_true (by omega)) | exact bin_bool (bin_gtr _ _) (decide_eq_false (by omega)) | exact bin_gtr _ _)) ?_
      refine ARun.calm rfl rfl (lit_lt rfl) ((by first | exact Calm.pickT rfl rfl | exact Calm.pickF rfl rfl)) ?_
      refine arun_nil ?_
      refine athen_n ?_
      refine AWP.sub [(0, _), (1, _), (2, _), (3, _), (6, _), (7, _), (10, _), (23, _)] ⟨rfl, rfl, rfl, rfl, rfl, rfl, rfl, rfl, trivial⟩ ?_
      refine AWP.condT rfl (by first | rfl | (simp; done) | (simp; omega)) ?_
      refine AWP.seq ?_
      refine AWP.region ?_
      refine ARun.calm rfl rfl (lit_lt rfl) (Calm.build (cs := [_, _]) ty_bld_23 rfl rfl) ?_
      first | refine ARun.storeAll rfl rfl ty_size_23 ((by (repeat first | ((with_reducible refine (Mem.own_set_other _ _ ?_).trans ?_); (first | assumption | (apply Ne.symm; assumption))) | ((with_reducible refine (Mem.own_del_other _ ?_).trans ?_); (first | assumption | (apply Ne.symm; assumption)))); (first | with_reducible exact Mem.own_set_same _ _ _ | with_reducible assumption | exact Mem.own_set_same _ _ _))) rfl rfl ?_ | refine ARun.store rfl rfl ty_size_23 ((by (repeat first | ((with_reducible refine (Mem.own_set_other _ _ ?_).trans ?_); (first | assumption | (apply Ne.symm; assumption))) | ((with_reducible refine (Mem.own_del_other _ ?_).trans ?_); (first | assumption | (apply Ne.symm; assumption)))); (first | with_reducible exact Mem.own_set_same _ _ _ | with_reducible assumption | exact Mem.own_set_same _ _ _))) ((by first | decide | (simp; done) | (simp; omega) | omega)) rfl ?_
      (try simp only [Mem.set_set, List.set_cons_zero, List.set_cons_succ, Nat.zero_add, Nat.reduceAdd])
      refine ARun.calm rfl rfl (lit_lt rfl) (Calm.assign rfl) ?_
      refine arun_nil ?_
      refine athen_n ?_
      refine AWP.sub [(0, _), (1, _), (2, _), (3, _), (6, _), (7, _), (10, _), (23, _)] ⟨rfl, rfl, rfl, rfl, rfl, rfl, rfl, rfl, trivial⟩ ?_
      refine AWP.ret ?_
      refine athen_ret ?_
      refine ⟨_, S, ⟨_, _, _, rfl, .inr ⟨ty_agg_23, [_, _], ty_size_23, (by first | with_reducible assumption | ((repeat (apply rds_cons; ((repeat ((with_reducible refine (rd_set_ne _ _ ?_).trans ?_); (first | assumption | (apply Ne.symm; assumption)))); (first | ((with_reducible refine (rd_set_same _ _ _ _).trans ?_); rfl) | ((with_reducible apply rd_own'); (with_reducible assumption); rfl) | with_reducible assumption)))); exact rds_nil _ _)), rfl⟩, ⟨_, _, rfl, rfl, rfl⟩, rfl⟩, (by first | with_reducible exact Mem.Less.refl _ | ((with_reducible refine Mem.less_set _ _ _ (Fresh.own ?_)); with_reducible assumption) | (refine less_of ?_; (repeat first | with_reducible exact LessB.refl _ _ | ((with_reducible refine LessB.set ?_ ?_); ((repeat first | ((with_reducible refine (Mem.own_set_other _ _ ?_).trans ?_); (first | assumption | (apply Ne.symm; assumption))) | ((with_reducible refine (Mem.own_del_other _ ?_).trans ?_); (first | assumption | (apply Ne.symm; assumption)))); (first | with_reducible exact Mem.own_set_same _ _ _ | with_reducible assumption | exact Mem.own_set_same _ _ _))) | (with_reducible refine LessB.delL ?_)); (repeat first | with_reducible exact LessB.refl _ _ | ((with_reducible refine LessB.of ?_); with_reducible assumption) | ((with_reducible refine LessB.skip ?_ ?_); (first | ((refine .inl ?_); simp; done) | ((refine .inr (Fresh.own ?_)); with_reducible assumption) | ((refine .inr ?_); with_reducible assumption))) | ((with_reducible refine LessB.skipDel ?_ ?_); (first | ((refine .inl ?_); simp; done) | ((refine .inr (Fresh.own ?_)); with_reducible assumption) | ((refine .inr ?_); with_reducible assumption)))))), ?_⟩
      exact ⟨by rw [if_pos (.inl ha)]; rfl, rfl⟩
    · by_cases hb : n < 0
      · refine AWP.skip ?_
        refine athen_n ?_
        refine AWP.seq ?_
        refine AWP.seq ?_
        refine AWP.region ?_
        refine ARun.calm rfl rfl (lit_lt rfl) (Calm.move rfl) ?_
        refine ARun.calm rfl rfl (lit_lt rfl) (Calm.bin rfl rfl (by first | exact bin_bool (bin_lss _ _) (decide_eq_true (by omega)) | exact bin_bool (bin_lss _ _) (decide_eq_false (by omega)) | exact bin_lss _ _)) ?_
        refine ARun.calm rfl rfl (lit_lt rfl) (Calm.move rfl) ?_
        first | refine ARun.skipG 2 false _ 14 rfl rfl (lit_lt rfl) rfl rfl rfl (lit_lt rfl) ?_ | refine ARun.skipU 2 false 14 rfl rfl (lit_lt rfl) rfl rfl (lit_lt rfl) ?_ | refine ARun.calmG 2 false 14 rfl rfl (lit_lt rfl) rfl rfl (lit_lt rfl) (Calm.move rfl) ?_
        first | refine ARun.skipG 2 false _ 14 rfl rfl (lit_lt rfl) rfl rfl rfl (lit_lt rfl) ?_ | refine ARun.skipU 2 false 14 rfl rfl (lit_lt rfl) rfl rfl (lit_lt rfl) ?_ | refine ARun.calmG 2 false 14 rfl rfl (lit_lt rfl) rfl rfl (lit_lt rfl) (Calm.bin rfl rfl (by first | exact bin_bool (bin_lss _ _) (decide_eq_true (by omega)) | exact bin_bool (bin_lss _ _) (decide_eq_false (by omega)) | exact bin_lss _ _)) ?_
        refine ARun.calm rfl rfl (lit_lt rfl) ((by first | exact Calm.pickT rfl rfl | exact Calm.pickF rfl rfl)) ?_
        refine ARun.calm rfl rfl (lit_lt rfl) (Calm.move rfl) ?_
        first | refine ARun.skipG 6 false _ 18 rfl rfl (lit_lt rfl) rfl rfl rfl (lit_lt rfl) ?_ | refine ARun.skipU 6 false 18 rfl rfl (lit_lt rfl) rfl rfl (lit_lt rfl) ?_ | refine ARun.calmG 6 false 18 rfl rfl (lit_lt rfl) rfl rfl (lit_lt rfl) (Calm.move rfl) ?_
        first | refine ARun.skipG 6 false _ 18 rfl rfl (lit_lt rfl) rfl rfl rfl (lit_lt rfl) ?_ | refine ARun.skipU 6 false 18 rfl rfl (lit_lt rfl) rfl rfl (lit_lt rfl) ?_ | refine ARun.calmG 6 false 18 rfl rfl (lit_lt rfl) rfl rfl (lit_lt rfl) (Calm.fieldAddr ty_field_23_1 rfl) ?_
        first | refine ARun.skipG 6 false _ 18 rfl rfl (lit_lt rfl) rfl rfl rfl (lit_lt rfl) ?_ | refine ARun.skipU 6 false 18 rfl rfl (lit_lt rfl) rfl rfl (lit_lt rfl) ?_ | refine ARun.calmG 6 false 18 rfl rfl (lit_lt rfl) rfl rfl (lit_lt rfl) (Calm.load ty_plain_3 rfl ((by (repeat ((with_reducible refine (rd_set_ne _ _ ?_).trans ?_); (first | assumption | (apply Ne.symm; assumption)))); (first | ((with_reducible refine (rd_set_same _ _ _ _).trans ?_); rfl) | ((with_reducible apply rd_own'); (with_reducible assumption); rfl) | with_reducible assumption)))) ?_
        first | refine ARun.skipG 6 false _ 18 rfl rfl (lit_lt rfl) rfl rfl rfl (lit_lt rfl) ?_ | refine ARun.skipU 6 false 18 rfl rfl (lit_lt rfl) rfl rfl (lit_lt rfl) ?_ | refine ARun.calmG 6 false 18 rfl rfl (lit_lt rfl) rfl rfl (lit_lt rfl) (Calm.bin rfl rfl (by first | exact bin_bool (bin_gtr _ _) (decide_eq_true (by omega)) | exact bin_bool (bin_gtr _ _) (decide_eq_false (by omega)) | exact bin_gtr _ _)) ?_
        refine ARun.calm rfl rfl (lit_lt rfl) ((by first | exact Calm.pickT rfl rfl | exact Calm.pickF rfl rfl)) ?_
        refine arun_nil ?_
        refine athen_n ?_
        refine AWP.sub [(0, _), (1, _), (2, _), (3, _), (6, _), (7, _), (10, _), (23, _)] ⟨rfl, rfl, rfl, rfl, rfl, rfl, rfl, rfl, trivial⟩ ?_
        refine AWP.condT rfl (by first | rfl | (simp; done) | (simp; omega)) ?_
        refine AWP.seq ?_
        refine AWP.region ?_
        refine ARun.calm rfl rfl (lit_lt rfl) (Calm.build (cs := [_, _]) ty_bld_23 rfl rfl) ?_
        first | refine ARun.storeAll rfl rfl ty_size_23 ((by (repeat first | ((with_reducible refine (Mem.own_set_other _ _ ?_).trans ?_); (first | assumption | (apply Ne.symm; assumption))) | ((with_reducible refine (Mem.own_del_other _ ?_).trans ?_); (first | assumption | (apply Ne.symm; assumption)))); (first | with_reducible exact Mem.own_set_same _ _ _ | with_reducible assumption | exact Mem.own_set_same _ _ _))) rfl rfl ?_ | refine ARun.store rfl rfl ty_size_23 ((by (repeat first | ((with_reducible refine (Mem.own_set_other _ _ ?_).trans ?_); (first | assumption | (apply Ne.symm; assumption))) | ((with_reducible refine (Mem.own_del_other _ ?_).trans ?_); (first | assumption | (apply Ne.symm; assumption)))); (first | with_reducible exact Mem.own_set_same _ _ _ | with_reducible assumption | exact Mem.own_set_same _ _ _))) ((by first | decide | (simp; done) | (simp; omega) | omega)) rfl ?_
        (try simp only [Mem.set_set, List.set_cons_zero, List.set_cons_succ, Nat.zero_add, Nat.reduceAdd])
        refine ARun.calm rfl rfl (lit_lt rfl) (Calm.assign rfl) ?_
        refine arun_nil ?_
        refine athen_n ?_
        refine AWP.sub [(0, _), (1, _), (2, _), (3, _), (6, _), (7, _), (10, _), (23, _)] ⟨rfl, rfl, rfl, rfl, rfl, rfl, rfl, rfl, trivial⟩ ?_
        refine AWP.ret ?_
        refine athen_ret ?_
        refine ⟨_, S, ⟨_, _, _, rfl, .inr ⟨ty_agg_23, [_, _], ty_size_23, (by first | with_reducible assumption | ((repeat (apply rds_cons; ((repeat ((with_reducible refine (rd_set_ne _ _ ?_).trans ?_); (first | assumption | (apply Ne.symm; assumption)))); (first | ((with_reducible refine (rd_set_same _ _ _ _).trans ?_); rfl) | ((with_reducible apply rd_own'); (with_reducible assumption); rfl) | with_reducible assumption)))); exact rds_nil _ _)), rfl⟩, ⟨_, _, rfl, rfl, rfl⟩, rfl⟩, (by first | with_reducible exact Mem.Less.refl _ | ((with_reducible refine Mem.less_set _ _ _ (Fresh.own ?_)); with_reducible assumption) | (refine less_of ?_; (repeat first | with_reducible exact LessB.refl _ _ | ((with_reducible refine LessB.set ?_ ?_); ((repeat first | ((with_reducible refine (Mem.own_set_other _ _ ?_).trans ?_); (first | assumption | (apply Ne.symm; assumption))) | ((with_reducible refine (Mem.own_del_other _ ?_).trans ?_); (first | assumption | (apply Ne.symm; assumption)))); (first | with_reducible exact Mem.own_set_same _ _ _ | with_reducible assumption | exact Mem.own_set_same _ _ _))) | (with_reducible refine LessB.delL ?_)); (repeat first | with_reducible exact LessB.refl _ _ | ((with_reducible refine LessB.of ?_); with_reducible assumption) | ((with_reducible refine LessB.skip ?_ ?_); (first | ((refine .inl ?_); simp; done) | ((refine .inr (Fresh.own ?_)); with_reducible assumption) | ((refine .inr ?_); with_reducible assumption))) | ((with_reducible refine LessB.skipDel ?_ ?_); (first | ((refine .inl ?_); simp; done) | ((refine .inr (Fresh.own ?_)); with_reducible assumption) | ((refine .inr ?_); with_reducible assumption)))))), ?_⟩
        exact ⟨by rw [if_pos (.inr (.inl hb))]; rfl, rfl⟩
      · by_cases hd : N < fr
        · refine AWP.skip ?_
          refine athen_n ?_
          refine AWP.seq ?_
          refine AWP.seq ?_
          refine AWP.region ?_
          refine ARun.calm rfl rfl (lit_lt rfl) (Calm.move rfl) ?_
          refine ARun.calm rfl rfl (lit_lt rfl) (Calm.bin rfl rfl (by first | exact bin_bool (bin_lss _ _) (decide_eq_true (by omega)) | exact bin_bool (bin_lss _ _) (decide_eq_false (by omega)) | exact bin_lss _ _)) ?_
          refine ARun.calm rfl rfl (lit_lt rfl) (Calm.move rfl) ?_
          first | refine ARun.skipG 2 false _ 14 rfl rfl (lit_lt rfl) rfl rfl rfl (lit_lt rfl) ?_ | refine ARun.skipU 2 false 14 rfl rfl (lit_lt rfl) rfl rfl (lit_lt rfl) ?_ | refine ARun.calmG 2 false 14 rfl rfl (lit_lt rfl) rfl rfl (lit_lt rfl) (Calm.move rfl) ?_
          first | refine ARun.skipG 2 false _ 14 rfl rfl (lit_lt rfl) rfl rfl rfl (lit_lt rfl) ?_ | refine ARun.skipU 2 false 14 rfl rfl (lit_lt rfl) rfl rfl (lit_lt rfl) ?_ | refine ARun.calmG 2 false 14 rfl rfl (lit_lt rfl) rfl rfl (lit_lt rfl) (Calm.bin rfl rfl (by first | exact bin_bool (bin_lss _ _) (decide_eq_true (by omega)) | exact bin_bool (bin_lss _ _) (decide_eq_false (by omega)) | exact bin_lss _ _)) ?_
          refine ARun.calm rfl rfl (lit_lt rfl) ((by first | exact Calm.pickT rfl rfl | exact Calm.pickF rfl rfl)) ?_
          refine ARun.calm rfl rfl (lit_lt rfl) (Calm.move rfl) ?_
          first | refine ARun.skipG 6 false _ 18 rfl rfl (lit_lt rfl) rfl rfl rfl (lit_lt rfl) ?_ | refine ARun.skipU 6 false 18 rfl rfl (lit_lt rfl) rfl rfl (lit_lt rfl) ?_ | refine ARun.calmG 6 false 18 rfl rfl (lit_lt rfl) rfl rfl (lit_lt rfl) (Calm.move rfl) ?_
          first | refine ARun.skipG 6 false _ 18 rfl rfl (lit_lt rfl) rfl rfl rfl (lit_lt rfl) ?_ | refine ARun.skipU 6 false 18 rfl rfl (lit_lt rfl) rfl rfl (lit_lt rfl) ?_ | refine ARun.calmG 6 false 18 rfl rfl (lit_lt rfl) rfl rfl (lit_lt rfl) (Calm.fieldAddr ty_field_23_1 rfl) ?_
          first | refine ARun.skipG 6 false _ 18 rfl rfl (lit_lt rfl) rfl rfl rfl (lit_lt rfl) ?_ | refine ARun.skipU 6 false 18 rfl rfl (lit_lt rfl) rfl rfl (lit_lt rfl) ?_ | refine ARun.calmG 6 false 18 rfl rfl (lit_lt rfl) rfl rfl (lit_lt rfl) (Calm.load ty_plain_3 rfl ((by (repeat ((with_reducible refine (rd_set_ne _ _ ?_).trans ?_); (first | assumption | (apply Ne.symm; assumption)))); (first | ((with_reducible refine (rd_set_same _ _ _ _).trans ?_); rfl) | ((with_reducible apply rd_own'); (with_reducible assumption); rfl) | with_reducible assumption)))) ?_
          first | refine ARun.skipG 6 false _ 18 rfl rfl (lit_lt rfl) rfl rfl rfl (lit_lt rfl) ?_ | refine ARun.skipU 6 false 18 rfl rfl (lit_lt rfl) rfl rfl (lit_lt rfl) ?_ | refine ARun.calmG 6 false 18 rfl rfl (lit_lt rfl) rfl rfl (lit_lt rfl) (Calm.bin rfl rfl (by first | exact bin_bool (bin_gtr _ _) (decide_eq_true (by omega)) | exact bin_bool (bin_gtr _ _) (decide_eq_false (by omega)) | exact bin_gtr _ _)) ?_
          refine ARun.calm rfl rfl (lit_lt rfl) ((by first | exact Calm.pickT rfl rfl | exact Calm.pickF rfl rfl)) ?_
          refine arun_nil ?_
          refine athen_n ?_
          refine AWP.sub [(0, _), (1, _), (2, _), (3, _), (6, _), (7, _), (10, _), (23, _)] ⟨rfl, rfl, rfl, rfl, rfl, rfl, rfl, rfl, trivial⟩ ?_
          refine AWP.condT rfl (by first | rfl | (simp; done) | (simp; omega)) ?_
          refine AWP.seq ?_
          refine AWP.region ?_
          refine ARun.calm rfl rfl (lit_lt rfl) (Calm.build (cs := [_, _]) ty_bld_23 rfl rfl) ?_
          first | refine ARun.storeAll rfl rfl ty_size_23 ((by (repeat first | ((with_reducible refine (Mem.own_set_other _ _ ?_).trans ?_); (first | assumption | (apply Ne.symm; assumption))) | ((with_reducible refine (Mem.own_del_other _ ?_).trans ?_); (first | assumption | (apply Ne.symm; assumption)))); (first | with_reducible exact Mem.own_set_same _ _ _ | with_reducible assumption | exact Mem.own_set_same _ _ _))) rfl rfl ?_ | refine ARun.store rfl rfl ty_size_23 ((by (repeat first | ((with_reducible refine (Mem.own_set_other _ _ ?_).trans ?_); (first | assumption | (apply Ne.symm; assumption))) | ((with_reducible refine (Mem.own_del_other _ ?_).trans ?_); (first | assumption | (apply Ne.symm; assumption)))); (first | with_reducible exact Mem.own_set_same _ _ _ | with_reducible assumption | exact Mem.own_set_same _ _ _))) ((by first | decide | (simp; done) | (simp; omega) | omega)) rfl ?_
          (try simp only [Mem.set_set, List.set_cons_zero, List.set_cons_succ, Nat.zero_add, Nat.reduceAdd])
          refine ARun.calm rfl rfl (lit_lt rfl) (Calm.assign rfl) ?_
          refine arun_nil ?_
          refine athen_n ?_
          refine AWP.sub [(0, _), (1, _), (2, _), (3, _), (6, _), (7, _), (10, _), (23, _)] ⟨rfl, rfl, rfl, rfl, rfl, rfl, rfl, rfl, trivial⟩ ?_
          refine AWP.ret ?_
          refine athen_ret ?_
          refine ⟨_, S, ⟨_, _, _, rfl, .inr ⟨ty_agg_23, [_, _], ty_size_23, (by first | with_reducible assumption | ((repeat (apply rds_cons; ((repeat ((with_reducible refine (rd_set_ne _ _ ?_).trans ?_); (first | assumption | (apply Ne.symm; assumption)))); (first | ((with_reducible refine (rd_set_same _ _ _ _).trans ?_); rfl) | ((with_reducible apply rd_own'); (with_reducible assumption); rfl) | with_reducible assumption)))); exact rds_nil _ _)), rfl⟩, ⟨_, _, rfl, rfl, rfl⟩, rfl⟩, (by first | with_reducible exact Mem.Less.refl _ | ((with_reducible refine Mem.less_set _ _ _ (Fresh.own ?_)); with_reducible assumption) | (refine less_of ?_; (repeat first | with_reducible exact LessB.refl _ _ | ((with_reducible refine LessB.set ?_ ?_); ((repeat first | ((with_reducible refine (Mem.own_set_other _ _ ?_).trans ?_); (first | assumption | (apply Ne.symm; assumption))) | ((with_reducible refine (Mem.own_del_other _ ?_).trans ?_); (first | assumption | (apply Ne.symm; assumption)))); (first | with_reducible exact Mem.own_set_same _ _ _ | with_reducible assumption | exact Mem.own_set_same _ _ _))) | (with_reducible refine LessB.delL ?_)); (repeat first | with_reducible exact LessB.refl _ _ | ((with_reducible refine LessB.of ?_); with_reducible assumption) | ((with_reducible refine LessB.skip ?_ ?_); (first | ((refine .inl ?_); simp; done) | ((refine .inr (Fresh.own ?_)); with_reducible assumption) | ((refine .inr ?_); with_reducible assumption))) | ((with_reducible refine LessB.skipDel ?_ ?_); (first | ((refine .inl ?_); simp; done) | ((refine .inr (Fresh.own ?_)); with_reducible assumption) | ((refine .inr ?_); with_reducible assumption)))))), ?_⟩
          exact ⟨by rw [if_pos (.inr (.inr hd))]; rfl, rfl⟩
        · rw [if_neg (fun h => by rcases h with h | h | h; exact ha h; exact hb h; exact hd h)]
          refine AWP.skip ?_
          refine athen_n ?_
          refine AWP.seq ?_
          refine AWP.seq ?_
          refine AWP.region ?_
          refine ARun.calm rfl rfl (lit_lt rfl) (Calm.move rfl) ?_
          refine ARun.calm rfl rfl (lit_lt rfl) (Calm.bin rfl rfl (by first | exact bin_bool (bin_lss _ _) (decide_eq_true (by omega)) | exact bin_bool (bin_lss _ _) (decide_eq_false (by omega)) | exact bin_lss _ _)) ?_
          refine ARun.calm rfl rfl (lit_lt rfl) (Calm.move rfl) ?_
          first | refine ARun.skipG 2 false _ 14 rfl rfl (lit_lt rfl) rfl rfl rfl (lit_lt rfl) ?_ | refine ARun.skipU 2 false 14 rfl rfl (lit_lt rfl) rfl rfl (lit_lt rfl) ?_ | refine ARun.calmG 2 false 14 rfl rfl (lit_lt rfl) rfl rfl (lit_lt rfl) (Calm.move rfl) ?_
          first | refine ARun.skipG 2 false _ 14 rfl rfl (lit_lt rfl) rfl rfl rfl (lit_lt rfl) ?_ | refine ARun.skipU 2 false 14 rfl rfl (lit_lt rfl) rfl rfl (lit_lt rfl) ?_ | refine ARun.calmG 2 false 14 rfl rfl (lit_lt rfl) rfl rfl (lit_lt rfl) (Calm.bin rfl rfl (by first | exact bin_bool (bin_lss _ _) (decide_eq_true (by omega)) | exact bin_bool (bin_lss _ _) (decide_eq_false (by omega)) | exact bin_lss _ _)) ?_
          refine ARun.calm rfl rfl (lit_lt rfl) ((by first | exact Calm.pickT rfl rfl | exact Calm.pickF rfl rfl)) ?_
          refine ARun.calm rfl rfl (lit_lt rfl) (Calm.move rfl) ?_
          first | refine ARun.skipG 6 false _ 18 rfl rfl (lit_lt rfl) rfl rfl rfl (lit_lt rfl) ?_ | refine ARun.skipU 6 false 18 rfl rfl (lit_lt rfl) rfl rfl (lit_lt rfl) ?_ | refine ARun.calmG 6 false 18 rfl rfl (lit_lt rfl) rfl rfl (lit_lt rfl) (Calm.move rfl) ?_
          first | refine ARun.skipG 6 false _ 18 rfl rfl (lit_lt rfl) rfl rfl rfl (lit_lt rfl) ?_ | refine ARun.skipU 6 false 18 rfl rfl (lit_lt rfl) rfl rfl (lit_lt rfl) ?_ | refine ARun.calmG 6 false 18 rfl rfl (lit_lt rfl) rfl rfl (lit_lt rfl) (Calm.fieldAddr ty_field_23_1 rfl) ?_
          first | refine ARun.skipG 6 false _ 18 rfl rfl (lit_lt rfl) rfl rfl rfl (lit_lt rfl) ?_ | refine ARun.skipU 6 false 18 rfl rfl (lit_lt rfl) rfl rfl (lit_lt rfl) ?_ | refine ARun.calmG 6 false 18 rfl rfl (lit_lt rfl) rfl rfl (lit_lt rfl) (Calm.load ty_plain_3 rfl ((by (repeat ((with_reducible refine (rd_set_ne _ _ ?_).trans ?_); (first | assumption | (apply Ne.symm; assumption)))); (first | ((with_reducible refine (rd_set_same _ _ _ _).trans ?_); rfl) | ((with_reducible apply rd_own'); (with_reducible assumption); rfl) | with_reducible assumption)))) ?_
          first | refine ARun.skipG 6 false _ 18 rfl rfl (lit_lt rfl) rfl rfl rfl (lit_lt rfl) ?_ | refine ARun.skipU 6 false 18 rfl rfl (lit_lt rfl) rfl rfl (lit_lt rfl) ?_ | refine ARun.calmG 6 false 18 rfl rfl (lit_lt rfl) rfl rfl (lit_lt rfl) (Calm.bin rfl rfl (by first | exact bin_bool (bin_gtr _ _) (decide_eq_true (by omega)) | exact bin_bool (bin_gtr _ _) (decide_eq_false (by omega)) | exact bin_gtr _ _)) ?_
          refine ARun.calm rfl rfl (lit_lt rfl) ((by first | exact Calm.pickT rfl rfl | exact Calm.pickF rfl rfl)) ?_
          refine arun_nil ?_
          refine athen_n ?_
          refine AWP.sub [(0, _), (1, _), (2, _), (3, _), (6, _), (7, _), (10, _), (23, _)] ⟨rfl, rfl, rfl, rfl, rfl, rfl, rfl, rfl, trivial⟩ ?_
          refine AWP.condF rfl (by first | rfl | (simp; done) | (simp; omega)) ?_
          refine AWP.skip ?_
          refine athen_n ?_
          refine AWP.seq ?_
          refine AWP.seq ?_
          refine AWP.region ?_
          refine ARun.calm rfl rfl (lit_lt rfl) (Calm.move rfl) ?_
          refine ARun.calm rfl rfl (lit_lt rfl) (Calm.fieldAddr ty_field_23_1 rfl) ?_
          refine ARun.calm rfl rfl (lit_lt rfl) (Calm.load ty_plain_3 rfl ((by (repeat ((with_reducible refine (rd_set_ne _ _ ?_).trans ?_); (first | assumption | (apply Ne.symm; assumption)))); (first | ((with_reducible refine (rd_set_same _ _ _ _).trans ?_); rfl) | ((with_reducible apply rd_own'); (with_reducible assumption); rfl) | with_reducible assumption)))) ?_
          refine ARun.calm rfl rfl (lit_lt rfl) (Calm.move rfl) ?_
          refine ARun.calm rfl rfl (lit_lt rfl) (Calm.bin rfl rfl (by first | exact bin_subW (IntWalk.i64_in _ (by omega)) | exact bin_sub _ _)) ?_
          refine ARun.calm rfl rfl (lit_lt rfl) (Calm.bin rfl rfl (by first | exact bin_bool (bin_gtr _ _) (decide_eq_true (by omega)) | exact bin_bool (bin_gtr _ _) (decide_eq_false (by omega)) | exact bin_gtr _ _)) ?_
          refine arun_nil ?_
          refine athen_n ?_
          refine AWP.sub [(0, _), (1, _), (2, _), (3, _), (6, _), (7, _), (10, _), (23, _), (30, _)] ⟨rfl, rfl, rfl, rfl, rfl, rfl, rfl, rfl, rfl, trivial⟩ ?_
          refine AWP.condB rfl (fun hf => ?_) (fun hf => ?_)
          · have hf := of_decide_eq_true hf
            refine AWP.seq ?_
            refine AWP.region ?_
            refine ARun.calm rfl rfl (lit_lt rfl) (Calm.build (cs := [_, _]) ty_bld_23 rfl rfl) ?_
            first | refine ARun.storeAll rfl rfl ty_size_23 ((by (repeat first | ((with_reducible refine (Mem.own_set_other _ _ ?_).trans ?_); (first | assumption | (apply Ne.symm; assumption))) | ((with_reducible refine (Mem.own_del_other _ ?_).trans ?_); (first | assumption | (apply Ne.symm; assumption)))); (first | with_reducible exact Mem.own_set_same _ _ _ | with_reducible assumption | exact Mem.own_set_same _ _ _))) rfl rfl ?_ | refine ARun.store rfl rfl ty_size_23 ((by (repeat first | ((with_reducible refine (Mem.own_set_other _ _ ?_).trans ?_); (first | assumption | (apply Ne.symm; assumption))) | ((with_reducible refine (Mem.own_del_other _ ?_).trans ?_); (first | assumption | (apply Ne.symm; assumption)))); (first | with_reducible exact Mem.own_set_same _ _ _ | with_reducible assumption | exact Mem.own_set_same _ _ _))) ((by first | decide | (simp; done) | (simp; omega) | omega)) rfl ?_
            (try simp only [Mem.set_set, List.set_cons_zero, List.set_cons_succ, Nat.zero_add, Nat.reduceAdd])
            refine ARun.calm rfl rfl (lit_lt rfl) (Calm.assign rfl) ?_
            refine arun_nil ?_
            refine athen_n ?_
            refine AWP.sub [(0, _), (1, _), (2, _), (3, _), (6, _), (7, _), (10, _), (23, _), (30, _)] ⟨rfl, rfl, rfl, rfl, rfl, rfl, rfl, rfl, rfl, trivial⟩ ?_
            refine AWP.ret ?_
            refine athen_ret ?_
            refine ⟨_, S, ⟨_, _, _, rfl, .inr ⟨ty_agg_23, [_, _], ty_size_23, (by first | with_reducible assumption | ((repeat (apply rds_cons; ((repeat ((with_reducible refine (rd_set_ne _ _ ?_).trans ?_); (first | assumption | (apply Ne.symm; assumption)))); (first | ((with_reducible refine (rd_set_same _ _ _ _).trans ?_); rfl) | ((with_reducible apply rd_own'); (with_reducible assumption); rfl) | with_reducible assumption)))); exact rds_nil _ _)), rfl⟩, ⟨_, _, rfl, rfl, rfl⟩, rfl⟩, (by first | with_reducible exact Mem.Less.refl _ | ((with_reducible refine Mem.less_set _ _ _ (Fresh.own ?_)); with_reducible assumption) | (refine less_of ?_; (repeat first | with_reducible exact LessB.refl _ _ | ((with_reducible refine LessB.set ?_ ?_); ((repeat first | ((with_reducible refine (Mem.own_set_other _ _ ?_).trans ?_); (first | assumption | (apply Ne.symm; assumption))) | ((with_reducible refine (Mem.own_del_other _ ?_).trans ?_); (first | assumption | (apply Ne.symm; assumption)))); (first | with_reducible exact Mem.own_set_same _ _ _ | with_reducible assumption | exact Mem.own_set_same _ _ _))) | (with_reducible refine LessB.delL ?_)); (repeat first | with_reducible exact LessB.refl _ _ | ((with_reducible refine LessB.of ?_); with_reducible assumption) | ((with_reducible refine LessB.skip ?_ ?_); (first | ((refine .inl ?_); simp; done) | ((refine .inr (Fresh.own ?_)); with_reducible assumption) | ((refine .inr ?_); with_reducible assumption))) | ((with_reducible refine LessB.skipDel ?_ ?_); (first | ((refine .inl ?_); simp; done) | ((refine .inr (Fresh.own ?_)); with_reducible assumption) | ((refine .inr ?_); with_reducible assumption)))))), ?_⟩
            exact ⟨by rw [if_pos hf]; rfl, rfl⟩
          · have hf := of_decide_eq_false hf
            rw [if_neg hf]
            have hs1 : s.size = (N.toNat + 7) / 8 := by rw [← hR.1]; exact size_list s
            obtain ⟨f, rfl⟩ : ∃ f : Nat, fr = f := ⟨fr.toNat, by omega⟩
            obtain ⟨m, rfl⟩ : ∃ m : Nat, n = m := ⟨n.toNat, by omega⟩
            obtain ⟨K, rfl⟩ : ∃ K : Nat, N = K := ⟨N.toNat, by omega⟩
            refine AWP.skip ?_
            refine athen_n ?_
            refine AWP.seq ?_
            refine AWP.region ?_
            refine ARun.calm rfl rfl (lit_lt rfl) (Calm.loadA ty_agg_23 (cs := [_, _]) ty_size_23 rfl ((by first | with_reducible assumption | ((repeat (apply rds_cons; ((repeat ((with_reducible refine (rd_set_ne _ _ ?_).trans ?_); (first | assumption | (apply Ne.symm; assumption)))); (first | ((with_reducible refine (rd_set_same _ _ _ _).trans ?_); rfl) | ((with_reducible apply rd_own'); (with_reducible assumption); rfl) | with_reducible assumption)))); exact rds_nil _ _)))) ?_
            refine ARun.call (lit_lt rfl) go_52 rfl (refV_All s K _ (by omega) (by omega) (by omega)) ?_
            rintro _ _ ⟨o, ho, rfl, rfl⟩
            have hW0 := outM_over (e := 4) (cs := bl (upto s.data.toList K)) ho
            have hW : S.Less _ := Mem.Less.trans ((by first | with_reducible exact Mem.Less.refl _ | ((with_reducible refine Mem.less_set _ _ _ (Fresh.own ?_)); with_reducible assumption) | (refine less_of ?_; (repeat first | with_reducible exact LessB.refl _ _ | ((with_reducible refine LessB.set ?_ ?_); ((repeat first | ((with_reducible refine (Mem.own_set_other _ _ ?_).trans ?_); (first | assumption | (apply Ne.symm; assumption))) | ((with_reducible refine (Mem.own_del_other _ ?_).trans ?_); (first | assumption | (apply Ne.symm; assumption)))); (first | with_reducible exact Mem.own_set_same _ _ _ | with_reducible assumption | exact Mem.own_set_same _ _ _))) | (with_reducible refine LessB.delL ?_)); (repeat first | with_reducible exact LessB.refl _ _ | ((with_reducible refine LessB.of ?_); with_reducible assumption) | ((with_reducible refine LessB.skip ?_ ?_); (first | ((refine .inl ?_); simp; done) | ((refine .inr (Fresh.own ?_)); with_reducible assumption) | ((refine .inr ?_); with_reducible assumption))) | ((with_reducible refine LessB.skipDel ?_ ?_); (first | ((refine .inl ?_); simp; done) | ((refine .inr (Fresh.own ?_)); with_reducible assumption) | ((refine .inr ?_); with_reducible assumption))))))) hW0
            have hm6 := own_outM (e := 4) (cs := bl (upto s.data.toList K)) ho (r := ⟨23, [.string ByteArray.empty, .int .i64 0], 2⟩) (b := b6) ((by (repeat first | ((with_reducible refine (Mem.own_set_other _ _ ?_).trans ?_); (first | assumption | (apply Ne.symm; assumption))) | ((with_reducible refine (Mem.own_del_other _ ?_).trans ?_); (first | assumption | (apply Ne.symm; assumption)))); (first | with_reducible exact Mem.own_set_same _ _ _ | with_reducible assumption | exact Mem.own_set_same _ _ _)))
            obtain ⟨a, c, hav, hab⟩ := isBl_sub (e := 4) (L := upto s.data.toList K) (by rw [upto_length]; exact ho) f (f + m) (by omega) (by rw [upto_length]; omega) (by rw [upto_length]; omega)
            rw [slc_get s.data.toList K f (f + m - f) (by omega)] at hab
            have hfm : f + m - f = m := by omega
            rw [hfm] at hav hab
            have hav2 : subV o ((f : Int)).toNat ((f : Int) + m).toNat = .slice a m c := by rw [← hav]; congr 1
            rw [Int.toNat_natCast]
            refine ARun.calm rfl rfl (lit_lt rfl) (Calm.move rfl) ?_
            refine ARun.calm rfl rfl (lit_lt rfl) (Calm.move rfl) ?_
            refine ARun.calm rfl rfl (lit_lt rfl) (Calm.move rfl) ?_
            refine ARun.calm rfl rfl (lit_lt rfl) (Calm.bin rfl rfl (by first | exact bin_addW (IntWalk.i64_in _ (by omega)) | exact bin_add _ _)) ?_
            refine ARun.calm rfl rfl (lit_lt rfl) (sliceOutE Try.underlying69 ty_size_4 rfl ho rfl rfl (by omega) (by omega) (by omega) hav2) ?_
            refine ARun.call (lit_lt rfl) go_53 rfl (refV_Of a m c _ _ hab) ?_
            rintro _ _ ⟨rfl, rfl⟩
            first | refine ARun.storeAll rfl rfl ty_size_23 ((by (repeat first | ((with_reducible refine (Mem.own_set_other _ _ ?_).trans ?_); (first | assumption | (apply Ne.symm; assumption))) | ((with_reducible refine (Mem.own_del_other _ ?_).trans ?_); (first | assumption | (apply Ne.symm; assumption)))); (first | with_reducible exact Mem.own_set_same _ _ _ | with_reducible assumption | exact Mem.own_set_same _ _ _))) rfl rfl ?_ | refine ARun.store rfl rfl ty_size_23 ((by (repeat first | ((with_reducible refine (Mem.own_set_other _ _ ?_).trans ?_); (first | assumption | (apply Ne.symm; assumption))) | ((with_reducible refine (Mem.own_del_other _ ?_).trans ?_); (first | assumption | (apply Ne.symm; assumption)))); (first | with_reducible exact Mem.own_set_same _ _ _ | with_reducible assumption | exact Mem.own_set_same _ _ _))) ((by first | decide | (simp; done) | (simp; omega) | omega)) rfl ?_
            (try simp only [Mem.set_set, List.set_cons_zero, List.set_cons_succ, Nat.zero_add, Nat.reduceAdd])
            refine ARun.calm rfl rfl (lit_lt rfl) (Calm.assign rfl) ?_
            refine arun_nil ?_
            refine athen_n ?_
            refine AWP.sub [(0, _), (1, _), (2, _), (3, _), (6, _), (7, _), (10, _), (23, _), (30, _)] ⟨rfl, rfl, rfl, rfl, rfl, rfl, rfl, rfl, rfl, trivial⟩ ?_
            refine AWP.ret ?_
            refine ⟨_, S, ⟨_, _, _, rfl, .inr ⟨ty_agg_23, [_, _], ty_size_23, (by first | with_reducible assumption | ((repeat (apply rds_cons; ((repeat ((with_reducible refine (rd_set_ne _ _ ?_).trans ?_); (first | assumption | (apply Ne.symm; assumption)))); (first | ((with_reducible refine (rd_set_same _ _ _ _).trans ?_); rfl) | ((with_reducible apply rd_own'); (with_reducible assumption); rfl) | with_reducible assumption)))); exact rds_nil _ _)), rfl⟩, ⟨_, _, rfl, rfl, rfl⟩, rfl⟩, (by first | with_reducible exact Mem.Less.refl _ | ((with_reducible refine Mem.less_set _ _ _ (Fresh.own ?_)); with_reducible assumption) | (refine less_of ?_; (repeat first | with_reducible exact LessB.refl _ _ | ((with_reducible refine LessB.set ?_ ?_); ((repeat first | ((with_reducible refine (Mem.own_set_other _ _ ?_).trans ?_); (first | assumption | (apply Ne.symm; assumption))) | ((with_reducible refine (Mem.own_del_other _ ?_).trans ?_); (first | assumption | (apply Ne.symm; assumption)))); (first | with_reducible exact Mem.own_set_same _ _ _ | with_reducible assumption | exact Mem.own_set_same _ _ _))) | (with_reducible refine LessB.delL ?_)); (repeat first | with_reducible exact LessB.refl _ _ | ((with_reducible refine LessB.of ?_); with_reducible assumption) | ((with_reducible refine LessB.skip ?_ ?_); (first | ((refine .inl ?_); simp; done) | ((refine .inr (Fresh.own ?_)); with_reducible assumption) | ((refine .inr ?_); with_reducible assumption))) | ((with_reducible refine LessB.skipDel ?_ ?_); (first | ((refine .inl ?_); simp; done) | ((refine .inr (Fresh.own ?_)); with_reducible assumption) | ((refine .inr ?_); with_reducible assumption)))))), ?_⟩
            exact ⟨by simp only [Int.toNat_natCast]; rfl, rfl⟩
end Go.Proofs.Ytpeljbmbgjeomaa
