/-
  The walks of the document's answer, second part: Of, Put, Get, Cut, Turn, Ones, Cat.
-/
import Derived.Test.YtddabbfjoejalaaSBR1
namespace Go.Proofs.Ytddabbfjoejalaa
open Go.RowKit
open Bits Mv
set_option maxRecDepth 20000
set_option linter.unusedVariables false
set_option linter.unusedSimpArgs false
namespace Bits
/-- A slice of bools that is known. -/
def IsBl (S : Mem) (a : Option Addr) (n : Nat) (L : List Bool) : Prop :=
  L.length = n ∧ n ≤ 1048640 ∧ (n = 0 ∨ ∃ b off, a = some ⟨b, off, none⟩ ∧ ∀ i, i < n → S.Knows ⟨b, off + i, none⟩ [.bool (L.getD i false)])
theorem IsBl.less {S S' : Mem} {a : Option Addr} {n : Nat} {L : List Bool} (h : IsBl S' a n L) (hl : S'.Less S) : IsBl S a n L :=
  ⟨h.1, h.2.1, h.2.2.imp id fun ⟨b, off, e, hr⟩ => ⟨b, off, e, fun i hi => (hr i hi).less hl⟩⟩
theorem knows_own {S : Mem} {b j : Nat} {r : Blk} {v : Value} (h : S.own b = some r) (hj : r.cells[j]? = some v) : S.Knows ⟨b, j, none⟩ [v] := (rds_cons (rd_own' h hj) (rds_nil _ _)).knows
theorem bl_get (L : List Bool) (i : Nat) (h : i < L.length) : (bl L)[i]? = some (.bool (L.getD i false)) := by
  simp [bl, List.getElem?_map, List.getElem?_eq_getElem h, List.getD]
/-- A part of a block of bools. -/
theorem isBl_own {S : Mem} {b c : Nat} {e : TypeId} {L : List Bool} (f n : Nat) (h : S.own b = some ⟨e, bl L, c⟩) (hf : f + n ≤ L.length) (hn : n ≤ 1048640) : IsBl S (some ⟨b, f, none⟩) n ((L.drop f).take n) := by
  refine ⟨by simp; omega, hn, .inr ⟨b, f, rfl, fun i hi => knows_own h ?_⟩⟩
  have e1 : ((L.drop f).take n).getD i false = L.getD (f + i) false := by
    simp only [List.getD]
    rw [List.getElem?_take_of_lt hi, List.getElem?_drop]
  rw [e1]
  exact bl_get L (f + i) (by omega)
theorem isBl_out {S : Mem} {o : Option (Nat × Nat)} {e : TypeId} {L : List Bool} (h : OkO S o L.length) (hn : L.length ≤ 1048640) : ∃ a c, outV o L.length = .slice a L.length c ∧ IsBl (outM S o e (bl L)) a L.length L := by
  cases o with
  | none =>
    have := h.nil rfl
    exact ⟨none, 0, by rw [this]; rfl, rfl, hn, .inl this⟩
  | some bc =>
    obtain ⟨b, c⟩ := bc
    refine ⟨some ⟨b, 0, none⟩, c, rfl, ?_⟩
    have := isBl_own (S := outM S (some (b, c)) e (bl L)) 0 L.length (Mem.own_set_same _ _ _) (by omega) hn
    simpa using this
/-- A piece of a slice that grows. -/
def subV (o : Option (Nat × Nat)) (l h : Nat) : Value := match o with
  | none => .slice none 0 0
  | some (b, c) => .slice (some ⟨b, if c = l then 0 else 0 + l * 1, none⟩) (h - l) (c - l)
theorem sliceOut {P : Program} {N : Nat} {E : Env} {S S0 : Mem} {dst : Option Nat} {ty : TypeId} {pos : String} {aft : Array Edge} {gd : Option (Nat × Bool)} {T e : TypeId} {x xl xh : Operand} {o : Option (Nat × Nat)} {n : Nat} {k1 k2 : IntKind} {l h : Int} (hT : P.underlying T = some (.slice e)) (he : sizeT P e = some 1) (hx : ev E x = some (outV o n)) (ho : OkO S0 o n)
    (hl : ev E xl = some (.int k1 l)) (hh : ev E xh = some (.int k2 h)) (h0 : 0 ≤ l) (h1 : l ≤ h) (h2 : h ≤ n) :
    ACalm P N ⟨dst, .slice T x (some xl) (some xh) none, ty, pos, aft, gd⟩ E S (subV o l.toNat h.toNat) := by
  cases o with
  | none =>
    have hn := ho.nil rfl
    obtain rfl : h = 0 := by omega
    obtain rfl : l = 0 := by omega
    exact Calm.sliceNil hT he hx (bnd_none _ _) (by simp) (bnd_zero _ _ hh) (bnd_zero _ _ hl)
  | some bc =>
    obtain ⟨b, c⟩ := bc
    have hc := (ho.own b c rfl).2
    exact Calm.sliceSl hT he hx (bnd_none _ _) (by simp) (bnd_some _ _ hh (by omega) (by omega)) (bnd_some _ _ hl h0 (by omega))
theorem sliceOutE {P : Program} {N : Nat} {E : Env} {S S0 : Mem} {dst : Option Nat} {ty : TypeId} {pos : String} {aft : Array Edge} {gd : Option (Nat × Bool)} {T e : TypeId} {x xl xh : Operand} {o : Option (Nat × Nat)} {n : Nat} {k1 k2 : IntKind} {l h : Int} {v : Value} (hT : P.underlying T = some (.slice e)) (he : sizeT P e = some 1) (hx : ev E x = some (outV o n)) (ho : OkO S0 o n)
    (hl : ev E xl = some (.int k1 l)) (hh : ev E xh = some (.int k2 h)) (h0 : 0 ≤ l) (h1 : l ≤ h) (h2 : h ≤ n) (hv : subV o l.toNat h.toNat = v) :
    ACalm P N ⟨dst, .slice T x (some xl) (some xh) none, ty, pos, aft, gd⟩ E S v := hv ▸ sliceOut hT he hx ho hl hh h0 h1 h2
theorem isBl_sub {S : Mem} {o : Option (Nat × Nat)} {e : TypeId} {L : List Bool} (ho : OkO S o L.length) (l h : Nat) (h1 : l ≤ h) (h2 : h ≤ L.length) (hn : L.length ≤ 1048640) : ∃ a c, subV o l h = .slice a (h - l) c ∧ IsBl (outM S o e (bl L)) a (h - l) ((L.drop l).take (h - l)) := by
  cases o with
  | none =>
    have := ho.nil rfl
    exact ⟨none, 0, by rw [show h - l = 0 from by omega]; rfl, by simp; omega, by omega, .inl (by omega)⟩
  | some bc =>
    obtain ⟨b, c⟩ := bc
    have hc := (ho.own b c rfl).2
    refine ⟨_, _, rfl, ?_⟩
    by_cases e0 : c = l
    · exact ⟨by simp; omega, by omega, .inl (by omega)⟩
    · rw [if_neg e0, Nat.zero_add, Nat.mul_one]
      exact isBl_own l (h - l) (Mem.own_set_same _ _ _) (by omega) (by omega)
theorem num_snoc (B : List UInt8) (f k : Nat) : num (slc B f (k + 1)) = 2 * num (slc B f k) + (if isBit B (f + k) = true then 1 else 0) := by
  rw [slc_add, num_append, slc_length]
  have : num (slc B (f + k) 1) = bit (isBit B (f + k)) := by simp [slc, num, List.range, List.range.loop]
  rw [this]; unfold bit; split <;> omega
theorem cellsB_zero (n : Nat) : cellsB (List.replicate n 0) = List.replicate n (.int .u8 0) := by simp [cellsB, nb]
end Bits
set_option maxHeartbeats 1000000 in
theorem refV_Of (a : Option Addr) (n cap : Nat) (L : List Bool) (S : Mem) (hL : IsBl S a n L) :
    ACall Try.prog 62 #[.slice a n cap] S fun r S' => r = bv (bs (pack L)) n ∧ S' = S := by
  obtain ⟨hl1, hl2, hl3⟩ := hL
  refine ACall.enter (args := [.slice a n cap]) (rs := [.cell 2 47]) 37 [(0, .slice a n cap)] Try.func62 rfl rfl (Nat.le_of_ble_eq_true rfl) rfl ⟨rfl, trivial⟩ ?_
  refine AWP.seq ?_
  refine AWP.region ?_
  refine ARun.alloc (lit_lt rfl) ty_zero_47 ?_
  intro b2 f2
  have g2 := f2
  repeat ((with_reducible replace g2 := fresh_set g2); obtain ⟨g2, _⟩ := g2)
  (try simp only [List.length_cons, List.length_nil, Nat.zero_add, Nat.reduceAdd])
  refine arun_nil ?_
  refine athen_n ?_
  refine AWP.seq ?_
  refine AWP.region ?_
  refine rC (Calm.move rfl) ?_
  refine rC (Calm.lenSl Try.underlying43 rfl) ?_
  refine rC (Calm.bin rfl rfl b_add_i64) ?_
  refine rC (Calm.bin rfl rfl b_quo_i64) ?_
  refine ARun.makeSlice (lit_lt rfl) ty_sl_79 rfl rfl (by omega) (by omega) (by omega) (by omega) ?_
  intro b10 f10
  have g10 := f10
  repeat ((with_reducible replace g10 := fresh_set g10); obtain ⟨g10, _⟩ := g10)
  refine rC (Calm.assign rfl) ?_
  refine arun_nil ?_
  refine athen_n ?_
  refine AWP.sub [(0, _), (2, _), (3, _)] ⟨rfl, rfl, rfl, trivial⟩ ?_
  simp only [Nat.mul_one, madeL_one, show (((n : Int) + 7) / 8).toNat = (n + 7) / 8 from by omega]
  rw [← cellsB_zero, ← hl1, ← pack_zero L]
  refine AWP.seq ?_
  refine AWP.seq ?_
  refine AWP.region ?_
  refine rC (Calm.move rfl) ?_
  refine rC (Calm.lenSl Try.underlying43 rfl) ?_
  refine rC (Calm.move rfl) ?_
  refine arun_nil ?_
  refine athen_n ?_
  refine AWP.block ?_
  refine AWP.loop (X := Nat) (fun x => [(0, .slice a L.length cap), (2, .pointer (some ⟨b2, 0, none⟩)), (3, .slice (some ⟨b10, 0, none⟩) ((L.length + 7) / 8) ((L.length + 7) / 8)), (11, .slice a L.length cap), (12, .int .i64 L.length), (13, .int .i64 x)]) (fun x => (S.set b2 ⟨47, [.string ByteArray.empty, .int .i64 0], 2⟩).set b10 ⟨5, cellsB (pack (msk L x)), (L.length + 7) / 8⟩) (fun x => x ≤ L.length) (fun x => L.length - x) (0) ⟨rfl, rfl, rfl, rfl, rfl, rfl, trivial⟩ (Mem.Less.refl _) (Nat.zero_le _) ?_
  rintro i hi
  (try dsimp only at *)
  refine AWP.seq ?_
  refine AWP.region ?_
  refine rC (Calm.bin rfl rfl b_lss) ?_
  refine arun_nil ?_
  refine athen_n ?_
  refine AWP.seq ?_
  refine AWP.condB rfl (fun hl => ?_) (fun hl => ?_)
  · have hl : i < L.length := by have := of_decide_eq_true hl; omega
    obtain ⟨b, off, rfl, hrow⟩ := hl3.resolve_left (by omega)
    have hki := (hrow i (by omega)).less (show S.Less ((S.set b2 ⟨47, [.string ByteArray.empty, .int .i64 0], 2⟩).set b10 ⟨5, cellsB (pack (msk L i)), (L.length + 7) / 8⟩) from less_)
    refine AWP.skip ?_
    refine athen_n ?_
    refine AWP.seq ?_
    refine AWP.block ?_
    refine AWP.seq ?_
    refine AWP.region ?_
    refine rC (Calm.move rfl) ?_
    refine rC (Calm.indexS Try.underlying43 ty_size_4 rfl rfl (by omega) (by omega)) ?_
    refine rC (Calm.loadK ty_plain_4 rfl (by show Mem.Knows _ ⟨b, off + ((i : Int)).toNat * 1, none⟩ _; rw [Int.toNat_natCast, Nat.mul_one]; exact hki)) ?_
    refine rC (Calm.assign rfl) ?_
    refine rC (Calm.assign rfl) ?_
    refine arun_nil ?_
    refine athen_n ?_
    refine AWP.sub [(0, _), (2, _), (3, _), (11, _), (12, _), (13, _), (14, _), (4, _), (5, _)] ⟨rfl, rfl, rfl, rfl, rfl, rfl, rfl, rfl, rfl, trivial⟩ ?_
    refine AWP.seq ?_
    refine AWP.region ?_
    refine rC (Calm.move rfl) ?_
    refine arun_nil ?_
    refine athen_n ?_
    refine AWP.condB rfl (fun hx => ?_) (fun hx => ?_)
    · obtain ⟨q1, q2⟩ := of_step L i hl hx
      have em := mask_int (7 - (i : Int) % 8) (by omega) (by omega)
      have e1 : ((i : Int) / 8).toNat = i / 8 := by omega
      have e2 : (7 - (i : Int) % 8).toNat = 7 - i % 8 := by omega
      have hpl : (pack (msk L i)).length = (L.length + 7) / 8 := by rw [pack_length, msk_length _ _ (by omega)]
      have q3 : IntKind.u8.wrap (nb (at8 (pack (msk L i)) (i / 8)) + IntKind.u8.wrap (1 * 2 ^ (7 - (i : Int) % 8).toNat)) = nb (at8 (pack (msk L i)) (i / 8) ^^^ mask (7 - i % 8)) := by rw [em, e2]; exact q1
      refine AWP.region ?_
      refine rC (Calm.move rfl) ?_
      refine rC (Calm.move rfl) ?_
      refine rC (Calm.bin rfl rfl b_quo_i64) ?_
      refine rC (Calm.indexS Try.underlying79 ty_size_5 rfl rfl (by omega) (by omega)) ?_
      refine rC (Calm.load ty_plain_5 rfl ((rd_set_same _ _ _ _).trans (by show (cellsB (pack (msk L i)))[0 + ((i : Int) / 8).toNat * 1]? = _; rw [e1, Nat.zero_add, Nat.mul_one]; exact cellsB_get _ _ (by omega)))) ?_
      refine rC (Calm.move rfl) ?_
      refine rC (Calm.bin rfl rfl b_rem) ?_
      refine rC (Calm.bin rfl rfl b_sub_i64) ?_
      refine rC (Calm.conv rfl (by first | exact conv_intW Try.underlying3 Try.underlying105 (IntWalk.u64_in _ (by omega)) | exact conv_int Try.underlying3 Try.underlying105)) ?_
      refine rC (Calm.bin rfl rfl b_shl) ?_
      refine rC (Calm.bin rfl rfl (bin_addW q3)) ?_
      refine rC (Calm.indexS Try.underlying79 ty_size_5 rfl rfl (by omega) (by omega)) ?_
      refine ARun.store1 rfl rfl ty_size_5 rfl own_ (by simp only [cellsB_length]; omega) rfl ?_
      (try simp only [Mem.set_set, List.set_cons_zero, List.set_cons_succ, Nat.zero_add, Nat.reduceAdd])
      refine arun_nil ?_
      refine ain_n ?_
      refine athen_n ?_
      refine AWP.sub [(0, _), (2, _), (3, _), (11, _), (12, _), (13, _), (14, _), (4, _), (5, _), (18, _)] ⟨rfl, rfl, rfl, rfl, rfl, rfl, rfl, rfl, rfl, rfl, trivial⟩ ?_
      simp only [e1, Nat.zero_add, Nat.mul_one, cellsB_set, q2]
      refine AWP.region ?_
      refine rC (Calm.bin rfl rfl b_add_i64) ?_
      refine rC (Calm.move rfl) ?_
      refine arun_nil ?_
      refine athen_n ?_
      refine ⟨i + 1, ?_, ?_, ?_, ?_⟩
      all_goals (try dsimp only)
      · exact ⟨rfl, rfl, rfl, rfl, rfl, some_int (by omega), trivial⟩
      · exact Mem.Less.refl _
      · exact hl
      · omega
    · rw [← msk_skip L i hl hx]
      refine AWP.skip ?_
      refine ain_n ?_
      refine athen_n ?_
      refine AWP.region ?_
      refine rC (Calm.bin rfl rfl b_add_i64) ?_
      refine rC (Calm.move rfl) ?_
      refine arun_nil ?_
      refine athen_n ?_
      refine ⟨i + 1, ?_, ?_, ?_, ?_⟩
      all_goals (try dsimp only)
      · exact ⟨rfl, rfl, rfl, rfl, rfl, some_int (by omega), trivial⟩
      · exact Mem.Less.refl _
      · exact hl
      · omega
  · have hl : i = L.length := by have := of_decide_eq_false hl; omega
    subst hl
    rw [msk_all]
    refine AWP.exit ?_
    refine athen_exit ?_
    refine athen_exit ?_
    refine ain_same ?_
    refine athen_n ?_
    refine AWP.seq ?_
    refine AWP.region ?_
    refine rC (Calm.move rfl) ?_
    refine rC (Calm.toStr ty_bytes_79 ty_str_9 rfl (l := pack L) (pack_length L) (rds_own' own_ rfl)) ?_
    refine rC (Calm.move rfl) ?_
    refine rC (Calm.lenSl Try.underlying43 rfl) ?_
    refine rC (Calm.build (cs := [_, _]) ty_bld_47 rfl rfl) ?_
    first | refine ARun.storeAll rfl rfl ty_size_47 own_ rfl rfl ?_ | refine ARun.store rfl rfl ty_size_47 own_ lens_ rfl ?_
    (try simp only [Mem.set_set, List.set_cons_zero, List.set_cons_succ, Nat.zero_add, Nat.reduceAdd])
    refine arun_nil ?_
    refine athen_n ?_
    refine AWP.sub [(0, _), (2, _), (3, _), (11, _), (12, _), (13, _), (14, _)] ⟨rfl, rfl, rfl, rfl, rfl, rfl, rfl, trivial⟩ ?_
    refine AWP.ret ?_
    refine ⟨_, S, ⟨_, _, _, rfl, .inr ⟨ty_agg_47, [_, _], ty_size_47, rds_, rfl⟩, rfl, rfl⟩, less_, ?_⟩
    exact ⟨rfl, rfl⟩
end Go.Proofs.Ytddabbfjoejalaa
