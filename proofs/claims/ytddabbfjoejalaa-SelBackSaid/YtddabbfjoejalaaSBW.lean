/-
  The walks of Len, Copy and Bits over the view of memory.
-/
import Derived.Test.YtddabbfjoejalaaVBitsAdd
import Derived.Test.YtddabbfjoejalaaBitsCheck
namespace Go.Proofs.Ytddabbfjoejalaa
open Go.RowKit
open Bits Mv
set_option maxRecDepth 20000
set_option linter.unusedVariables false
set_option linter.unusedSimpArgs false
namespace Bits
theorem fresh_wrM {S : Mem} {p : Nat} {o : Option (Nat × Nat)} {L : List Bool} {b : Nat} (h : Fresh (wrM S p o L) b) : Fresh S b ∧ b ≠ p ∧ ∀ q c, o = some (q, c) → b ≠ q := by
  unfold wrM at h
  obtain ⟨h1, h2⟩ := fresh_set h
  cases o with
  | none => exact ⟨h1, h2, fun q c e => by cases e⟩
  | some qc =>
    obtain ⟨q, c⟩ := qc
    obtain ⟨h3, h4⟩ := fresh_set h1
    exact ⟨h3, h2, fun q' c' e => by cases e; exact h4⟩
/-- The same over more memory. -/
theorem wrM_more (S S' : Mem) (p : Nat) (o : Option (Nat × Nat)) (L : List Bool) (h : S.Less S') : (wrM S p o L).Less (wrM S' p o L) := by
  unfold wrM
  refine Less.set ?_ _ _
  cases o with
  | none => exact h
  | some qc => exact Less.set h _ _
theorem wrM_set (S : Mem) (p b : Nat) (o : Option (Nat × Nat)) (L : List Bool) (r : Blk) (hp : b ≠ p) (ho : ∀ q c, o = some (q, c) → b ≠ q) : (wrM S p o L).set b r = wrM (S.set b r) p o L := by
  unfold wrM
  rw [Mem.set_comm _ _ _ (Ne.symm hp)]
  congr 1
  cases o with
  | none => rfl
  | some qc => exact Mem.set_comm _ _ _ (Ne.symm (ho _ _ rfl))
theorem OkW.set {S : Mem} {p b : Nat} {o : Option (Nat × Nat)} {L : List Bool} {r : Blk} (h : OkW S p o L) (hp : b ≠ p) (ho : ∀ q c, o = some (q, c) → b ≠ q) : OkW (S.set b r) p o L := by
  have fs : ∀ q, Fresh S q → q ≠ b → Fresh (S.set b r) q := fun q hq hne => ⟨by rw [Mem.own_set_other _ _ hne]; exact hq.1, hq.2⟩
  exact ⟨fs p h.fp (Ne.symm hp), h.nil, fun q c e => ⟨fs q (h.own q c e).1 (Ne.symm (ho q c e)), (h.own q c e).2⟩⟩
theorem OkW.unset {S : Mem} {p b : Nat} {o : Option (Nat × Nat)} {L : List Bool} {r : Blk} (h : OkW (S.set b r) p o L) : OkW S p o L :=
  ⟨(fresh_set h.fp).1, h.nil, fun q c e => ⟨(fresh_set (h.own q c e).1).1, (h.own q c e).2⟩⟩
theorem own_wrM (S : Mem) (p : Nat) (o : Option (Nat × Nat)) (L : List Bool) (b : Nat) (r : Blk) (hp : b ≠ p) (ho : ∀ q c, o = some (q, c) → b ≠ q) (h : S.own b = some r) : (wrM S p o L).own b = some r := by
  unfold wrM
  rw [Mem.own_set_other _ _ hp]
  cases o with
  | none => exact h
  | some qc =>
    obtain ⟨q, c⟩ := qc
    exact (Mem.own_set_other _ _ (ho q c rfl)).trans h
def lastB (L : List Bool) : UInt8 := UInt8.ofNat (num (rest L) * 2 ^ (8 - L.length % 8))
theorem lastI (L : List Bool) : IntKind.u8.wrap (IntKind.u64.wrap (((num (rest L) : Nat) : Int) * 2 ^ ((8 : Int) - (L.length % 8 : Nat)).toNat)) = nb (lastB L) := by
  obtain ⟨R, h1, h2, h3⟩ := last_byte L
  rw [show ((8 : Int) - (L.length % 8 : Nat)).toNat = 8 - L.length % 8 from by omega, h1, h2, h3]; rfl
theorem pack_one (L : List Bool) (h : L.length < 8) (hn : L.length % 8 ≠ 0) : pack L = [lastB L] := by
  rw [pack_last L hn]
  have : whole L = [] := by unfold whole; rw [show L.length / 8 = 0 from by omega]; rfl
  rw [this]; rfl
theorem rds_own' {S : Mem} {b : Nat} {r : Blk} {cs : List Value} (h : S.own b = some r) (e : r.cells = cs) : S.rds ⟨b, 0, none⟩ cs := by rw [← e]; exact rds_own h
end Bits
theorem bitsV_AddI (p : Nat) (v width : Int) (L : List Bool) (o : Option (Nat × Nat)) (S : Mem) (h0 : 0 ≤ width) (h3 : width ≤ 64) (h4 : 0 ≤ v) (h5 : v ≤ 18446744073709551615) (hlen : L.length ≤ 1048576 + 64) (hok : OkW S p o L) :
    ACall Try.prog 60 #[.pointer (some ⟨p, 0, none⟩), .int .u64 v, .int .i64 width] (wrM S p o L) fun r S' => r = .tuple #[] ∧ ∃ o', OkW S p o' (L ++ numB v.toNat width.toNat) ∧ S' = wrM S p o' (L ++ numB v.toNat width.toNat) := by
  have := bitsV_Add p v.toNat width.toNat L o S (by omega) (by omega) hlen hok
  rwa [Int.toNat_of_nonneg h4, Int.toNat_of_nonneg h0] at this
set_option maxHeartbeats 400000 in
theorem bitsV_Len (p : Nat) (L : List Bool) (o : Option (Nat × Nat)) (S : Mem) (hlen : L.length ≤ 2000000) (hok : OkW S p o L) :
    ACall Try.prog 78 #[.pointer (some ⟨p, 0, none⟩)] (wrM S p o L) fun r S' => r = .int .i64 (L.length : Nat) ∧ S' = wrM S p o L := by
  refine ACall.enter (args := [.pointer (some ⟨p, 0, none⟩)]) (rs := [.tmp 2]) 14 [(0, .pointer (some ⟨p, 0, none⟩))] Try.func78 rfl rfl (Nat.le_of_ble_eq_true rfl) rfl ⟨rfl, trivial⟩ ?_
  rcases o with _ | ⟨b, c⟩
  · unfold wrM outM outV
    refine AWP.seq ?_
    refine AWP.region ?_
    refine rC (Calm.assign rfl) ?_
    refine arun_nil ?_
    refine athen_n ?_
    refine AWP.seq ?_
    refine AWP.draw [(0, true), (1, true), (2, true), (3, true), (4, true), (5, true), (6, true), (7, true), (8, true), (9, true), (10, true), (11, true)] [] mixed (by kernel_rfl) ?_
    refine draw_pure rfl rfl rfl rfl (lit_lt rfl) (fun _ => Calm.move rfl) ?_
    refine draw_pure rfl rfl rfl rfl (lit_lt rfl) (fun _ => Calm.nilCheck rfl) ?_
    refine draw_pure rfl rfl rfl rfl (lit_lt rfl) (fun _ => Calm.fieldAddr ty_field_81_0 rfl) ?_
    refine draw_calm rfl rfl rfl (lit_lt rfl) less_ (fun S' hS' => by obtain rfl := hS'.resolve_left (by decide); exact ld_ ty_plain_79 rfl) ?_
    refine draw_calm rfl rfl rfl (lit_lt rfl) less_ (fun S' hS' => by obtain rfl := hS'.resolve_left (by decide); exact Calm.lenSl Try.underlying79 rfl) ?_
    refine draw_pure rfl rfl rfl rfl (lit_lt rfl) (fun _ => Calm.bin rfl rfl b_mul_i64) ?_
    refine draw_pure rfl rfl rfl rfl (lit_lt rfl) (fun _ => Calm.move rfl) ?_
    refine draw_pure rfl rfl rfl rfl (lit_lt rfl) (fun _ => Calm.nilCheck rfl) ?_
    refine draw_pure rfl rfl rfl rfl (lit_lt rfl) (fun _ => Calm.fieldAddr ty_field_81_2 rfl) ?_
    refine draw_calm rfl rfl rfl (lit_lt rfl) less_ (fun S' hS' => by obtain rfl := hS'.resolve_left (by decide); exact ld_ ty_plain_3 rfl) ?_
    refine draw_pure rfl rfl rfl rfl (lit_lt rfl) (fun _ => Calm.bin rfl rfl b_add_i64) ?_
    refine draw_pure rfl rfl rfl rfl (lit_lt rfl) (fun _ => Calm.assign rfl) ?_
    refine draw_nil ?_
    refine athen_n ?_
    refine AWP.sub [(0, _), (2, _)] ⟨rfl, rfl, trivial⟩ ?_
    refine AWP.ret ?_
    refine ⟨_, _, ⟨_, _, rfl, rfl, rfl⟩, less_, ?_⟩
    exact ⟨val_int (by have := hok.nil rfl; omega), rfl⟩
  · unfold wrM outM outV
    refine AWP.seq ?_
    refine AWP.region ?_
    refine rC (Calm.assign rfl) ?_
    refine arun_nil ?_
    refine athen_n ?_
    refine AWP.seq ?_
    refine AWP.draw [(0, true), (1, true), (2, true), (3, true), (4, true), (5, true), (6, true), (7, true), (8, true), (9, true), (10, true), (11, true)] [] mixed (by kernel_rfl) ?_
    refine draw_pure rfl rfl rfl rfl (lit_lt rfl) (fun _ => Calm.move rfl) ?_
    refine draw_pure rfl rfl rfl rfl (lit_lt rfl) (fun _ => Calm.nilCheck rfl) ?_
    refine draw_pure rfl rfl rfl rfl (lit_lt rfl) (fun _ => Calm.fieldAddr ty_field_81_0 rfl) ?_
    refine draw_calm rfl rfl rfl (lit_lt rfl) less_ (fun S' hS' => by obtain rfl := hS'.resolve_left (by decide); exact ld_ ty_plain_79 rfl) ?_
    refine draw_calm rfl rfl rfl (lit_lt rfl) less_ (fun S' hS' => by obtain rfl := hS'.resolve_left (by decide); exact Calm.lenSl Try.underlying79 rfl) ?_
    refine draw_pure rfl rfl rfl rfl (lit_lt rfl) (fun _ => Calm.bin rfl rfl b_mul_i64) ?_
    refine draw_pure rfl rfl rfl rfl (lit_lt rfl) (fun _ => Calm.move rfl) ?_
    refine draw_pure rfl rfl rfl rfl (lit_lt rfl) (fun _ => Calm.nilCheck rfl) ?_
    refine draw_pure rfl rfl rfl rfl (lit_lt rfl) (fun _ => Calm.fieldAddr ty_field_81_2 rfl) ?_
    refine draw_calm rfl rfl rfl (lit_lt rfl) less_ (fun S' hS' => by obtain rfl := hS'.resolve_left (by decide); exact ld_ ty_plain_3 rfl) ?_
    refine draw_pure rfl rfl rfl rfl (lit_lt rfl) (fun _ => Calm.bin rfl rfl b_add_i64) ?_
    refine draw_pure rfl rfl rfl rfl (lit_lt rfl) (fun _ => Calm.assign rfl) ?_
    refine draw_nil ?_
    refine athen_n ?_
    refine AWP.sub [(0, _), (2, _)] ⟨rfl, rfl, trivial⟩ ?_
    refine AWP.ret ?_
    refine ⟨_, _, ⟨_, _, rfl, rfl, rfl⟩, less_, ?_⟩
    exact ⟨val_int (by omega), rfl⟩
set_option maxHeartbeats 1000000 in
theorem bitsV_Bits (p : Nat) (L : List Bool) (o : Option (Nat × Nat)) (S : Mem) (hlen : L.length ≤ 1048576) (hok : OkW S p o L) :
    ACall Try.prog 61 #[.pointer (some ⟨p, 0, none⟩)] (wrM S p o L) fun r S' => r = .agg #[.string (bs (pack L)), .int .i64 (L.length : Nat)] ∧ S' = S := by
  refine ACall.enter (args := [.pointer (some ⟨p, 0, none⟩)]) (rs := [.cell 2 47]) 37 [(0, .pointer (some ⟨p, 0, none⟩))] Try.func61 rfl rfl (Nat.le_of_ble_eq_true rfl) rfl ⟨rfl, trivial⟩ ?_
  have hfp := hok.fp
  have hLen := bitsV_Len p L o S (by omega) hok
  have hq8 : L.length / 8 ≤ 200000 := by omega
  have hlb := lastI L
  refine AWP.seq ?_
  refine AWP.region ?_
  refine ARun.alloc (lit_lt rfl) ty_zero_47 ?_
  intro b2 f2
  have g2 := f2
  repeat ((with_reducible replace g2 := fresh_set g2); obtain ⟨g2, _⟩ := g2)
  (try simp only [List.length_cons, List.length_nil, Nat.zero_add, Nat.reduceAdd])
  refine arun_nil ?_
  refine athen_n ?_
  obtain ⟨q1, q2, q3⟩ := fresh_wrM g2
  have q2' := Ne.symm q2
  rcases o with _ | ⟨b, c⟩
  · have hM8 := hok.nil rfl
    simp only [wrM, outM, outV] at hLen ⊢
    refine AWP.seq ?_
    refine AWP.region ?_
    refine rC (Calm.move rfl) ?_
    refine rC (Calm.nilCheck rfl) ?_
    refine rC (Calm.fieldAddr ty_field_81_0 rfl) ?_
    refine rC (ld_ ty_plain_79 rfl) ?_
    refine rC (Calm.assign rfl) ?_
    refine arun_nil ?_
    refine athen_n ?_
    refine AWP.sub [(0, _), (2, _), (3, _)] ⟨rfl, rfl, rfl, trivial⟩ ?_
    refine AWP.seq ?_
    refine AWP.seq ?_
    refine AWP.region ?_
    refine rC (Calm.move rfl) ?_
    refine rC (Calm.nilCheck rfl) ?_
    refine rC (Calm.fieldAddr ty_field_81_2 rfl) ?_
    refine rC (ld_ ty_plain_3 rfl) ?_
    refine rC (Calm.bin rfl rfl b_gtr) ?_
    refine arun_nil ?_
    refine athen_n ?_
    refine AWP.sub [(0, _), (2, _), (3, _), (12, _)] ⟨rfl, rfl, rfl, rfl, trivial⟩ ?_
    refine AWP.condB rfl (fun hc => ?_) (fun hc => ?_)
    · have hn : L.length % 8 ≠ 0 := by have := of_decide_eq_true hc; omega
      refine AWP.draw [(0, true), (1, true), (2, true), (3, true), (4, true), (5, true), (6, true), (7, true), (8, true), (9, true), (10, true), (11, true), (12, true), (13, true), (14, true), (15, true), (16, true), (17, false), (18, false), (19, true)] [18] mixed (by kernel_rfl) ?_
      refine draw_pure rfl rfl rfl rfl (lit_lt rfl) (fun _ => Calm.move rfl) ?_
      refine draw_pure rfl rfl rfl rfl (lit_lt rfl) (fun _ => Calm.move rfl) ?_
      refine draw_calm rfl rfl rfl (lit_lt rfl) less_ (fun S' hS' => by obtain rfl := hS'.resolve_left (by decide); exact Calm.lenSl Try.underlying79 rfl) ?_
      refine draw_pure rfl rfl rfl rfl (lit_lt rfl) (fun _ => Calm.move rfl) ?_
      refine draw_calm rfl rfl rfl (lit_lt rfl) less_ (fun S' hS' => by obtain rfl := hS'.resolve_left (by decide); exact Calm.lenSl Try.underlying79 rfl) ?_
      refine draw_pure rfl rfl rfl rfl (lit_lt rfl) (fun _ => (by first | exact Calm.sliceHead Try.underlying79 ty_size_5 rfl (bnd_some _ _ rfl (by omega) (by omega)) (fun _ => rfl) (bnd_some _ _ rfl (by omega) (by omega)) | exact Calm.sliceNil Try.underlying79 ty_size_5 rfl (bnd_zero _ _ rfl) (by simp) (bnd_zero _ _ rfl) (bnd_none _ _))) ?_
      refine draw_pure rfl rfl rfl rfl (lit_lt rfl) (fun _ => Calm.move rfl) ?_
      refine draw_pure rfl rfl rfl rfl (lit_lt rfl) (fun _ => Calm.nilCheck rfl) ?_
      refine draw_pure rfl rfl rfl rfl (lit_lt rfl) (fun _ => Calm.fieldAddr ty_field_81_1 rfl) ?_
      refine draw_calm rfl rfl rfl (lit_lt rfl) less_ (fun S' hS' => by obtain rfl := hS'.resolve_left (by decide); exact ld_ ty_plain_59 rfl) ?_
      refine draw_pure rfl rfl rfl rfl (lit_lt rfl) (fun _ => Calm.move rfl) ?_
      refine draw_pure rfl rfl rfl rfl (lit_lt rfl) (fun _ => Calm.nilCheck rfl) ?_
      refine draw_pure rfl rfl rfl rfl (lit_lt rfl) (fun _ => Calm.fieldAddr ty_field_81_2 rfl) ?_
      refine draw_calm rfl rfl rfl (lit_lt rfl) less_ (fun S' hS' => by obtain rfl := hS'.resolve_left (by decide); exact ld_ ty_plain_3 rfl) ?_
      refine draw_pure rfl rfl rfl rfl (lit_lt rfl) (fun _ => Calm.bin rfl rfl b_sub_i64) ?_
      refine draw_pure rfl rfl rfl rfl (lit_lt rfl) (fun _ => Calm.bin rfl rfl b_shl) ?_
      refine draw_calm rfl rfl rfl (lit_lt rfl) less_ (fun S' hS' => by obtain rfl := hS'.resolve_left (by decide); exact Calm.conv rfl (conv_intW Try.underlying59 Try.underlying5 hlb)) ?_
      refine draw_only rfl ?_
      refine ARun.build1s (lit_lt rfl) ty_sl_79 rfl rfl ?_
      intro b30 f30
      have g30 := f30
      repeat ((with_reducible replace g30 := fresh_set g30); obtain ⟨g30, _⟩ := g30)
      refine arun_nil ⟨fun _ => less_, ?_⟩
      refine draw_only rfl ?_
      refine ARun.appendNil1 (lit_lt rfl) ty_sl_79 rfl rfl (news := [_]) rds_ rfl (by omega) (by omega) (by omega) ?_
      intro bn cn fbn hcn
      have gbn := fbn
      repeat ((with_reducible replace gbn := fresh_set gbn); obtain ⟨gbn, _⟩ := gbn)
      refine arun_nil ⟨fun h => absurd h (by decide), ?_⟩
      refine draw_pure rfl rfl rfl rfl (lit_lt rfl) (fun _ => Calm.assign rfl) ?_
      refine draw_nil ?_
      refine athen_n ?_
      refine AWP.sub [(0, _), (2, _), (3, _), (12, _)] ⟨rfl, rfl, rfl, rfl, trivial⟩ ?_
      have hbs : pack L = [lastB L] := pack_one L hM8 hn
      refine AWP.seq ?_
      refine AWP.draw [(0, true), (1, true), (2, true), (3, false), (4, true), (5, false)] [5] mixed (by kernel_rfl) ?_
      refine draw_pure rfl rfl rfl rfl (lit_lt rfl) (fun _ => Calm.move rfl) ?_
      refine draw_calm rfl rfl rfl (lit_lt rfl) less_ (fun S' hS' => by obtain rfl := hS'.resolve_left (by decide); exact Calm.toStr ty_bytes_79 ty_str_9 rfl (l := [lastB L]) rfl rds_) ?_
      refine draw_pure rfl rfl rfl rfl (lit_lt rfl) (fun _ => Calm.move rfl) ?_
      refine draw_only rfl ?_
      refine ARun.call (lit_lt rfl) go_78 rfl (ACall.pure_more less_ hLen) ?_
      rintro _ _ ⟨rfl, rfl⟩
      refine arun_nil ⟨fun _ => less_, ?_⟩
      refine draw_pure rfl rfl rfl rfl (lit_lt rfl) (fun _ => Calm.build (cs := [_, _]) ty_bld_47 rfl rfl) ?_
      refine draw_only rfl ?_
      first | refine ARun.storeAll rfl rfl ty_size_47 own_ rfl rfl ?_ | refine ARun.store rfl rfl ty_size_47 own_ lens_ rfl ?_
      (try simp only [Mem.set_set, List.set_cons_zero, List.set_cons_succ, Nat.zero_add, Nat.reduceAdd])
      refine arun_nil ⟨fun h => absurd h (by decide), ?_⟩
      refine draw_nil ?_
      refine athen_n ?_
      refine AWP.sub [(0, _), (2, _), (3, _), (12, _)] ⟨rfl, rfl, rfl, rfl, trivial⟩ ?_
      refine AWP.ret ?_
      refine ⟨_, S, ⟨_, _, _, rfl, .inr ⟨ty_agg_47, [_, _], ty_size_47, rds_, rfl⟩, rfl, rfl⟩, less_, ?_⟩
      exact ⟨by rw [hbs]; rfl, rfl⟩
    · have hn : L = [] := List.eq_nil_of_length_eq_zero (by have := of_decide_eq_false hc; omega)
      refine AWP.skip ?_
      refine athen_n ?_
      refine AWP.seq ?_
      refine AWP.draw [(0, true), (1, true), (2, true), (3, false), (4, true), (5, false)] [5] mixed (by kernel_rfl) ?_
      refine draw_pure rfl rfl rfl rfl (lit_lt rfl) (fun _ => Calm.move rfl) ?_
      refine draw_calm rfl rfl rfl (lit_lt rfl) less_ (fun S' hS' => by obtain rfl := hS'.resolve_left (by decide); exact (by first | exact Calm.toStr ty_bytes_79 ty_str_9 rfl lens_ rds_ | exact Calm.toStrNil ty_bytes_79 ty_str_9 rfl)) ?_
      refine draw_pure rfl rfl rfl rfl (lit_lt rfl) (fun _ => Calm.move rfl) ?_
      refine draw_only rfl ?_
      refine ARun.call (lit_lt rfl) go_78 rfl (ACall.pure_more less_ hLen) ?_
      rintro _ _ ⟨rfl, rfl⟩
      refine arun_nil ⟨fun _ => less_, ?_⟩
      refine draw_pure rfl rfl rfl rfl (lit_lt rfl) (fun _ => Calm.build (cs := [_, _]) ty_bld_47 rfl rfl) ?_
      refine draw_only rfl ?_
      first | refine ARun.storeAll rfl rfl ty_size_47 own_ rfl rfl ?_ | refine ARun.store rfl rfl ty_size_47 own_ lens_ rfl ?_
      (try simp only [Mem.set_set, List.set_cons_zero, List.set_cons_succ, Nat.zero_add, Nat.reduceAdd])
      refine arun_nil ⟨fun h => absurd h (by decide), ?_⟩
      refine draw_nil ?_
      refine athen_n ?_
      refine AWP.sub [(0, _), (2, _), (3, _), (12, _)] ⟨rfl, rfl, rfl, rfl, trivial⟩ ?_
      refine AWP.ret ?_
      refine ⟨_, S, ⟨_, _, _, rfl, .inr ⟨ty_agg_47, [_, _], ty_size_47, rds_, rfl⟩, rfl, rfl⟩, less_, ?_⟩
      exact ⟨by rw [hn]; rfl, rfl⟩
  · simp only [wrM, outM, outV] at hLen ⊢
    obtain ⟨ho1, ho2, ho3⟩ := hok.own b c rfl
    have hb2 := q3 b c rfl
    refine AWP.seq ?_
    refine AWP.region ?_
    refine rC (Calm.move rfl) ?_
    refine rC (Calm.nilCheck rfl) ?_
    refine rC (Calm.fieldAddr ty_field_81_0 rfl) ?_
    refine rC (ld_ ty_plain_79 rfl) ?_
    refine rC (Calm.assign rfl) ?_
    refine arun_nil ?_
    refine athen_n ?_
    refine AWP.sub [(0, _), (2, _), (3, _)] ⟨rfl, rfl, rfl, trivial⟩ ?_
    refine AWP.seq ?_
    refine AWP.seq ?_
    refine AWP.region ?_
    refine rC (Calm.move rfl) ?_
    refine rC (Calm.nilCheck rfl) ?_
    refine rC (Calm.fieldAddr ty_field_81_2 rfl) ?_
    refine rC (ld_ ty_plain_3 rfl) ?_
    refine rC (Calm.bin rfl rfl b_gtr) ?_
    refine arun_nil ?_
    refine athen_n ?_
    refine AWP.sub [(0, _), (2, _), (3, _), (12, _)] ⟨rfl, rfl, rfl, rfl, trivial⟩ ?_
    refine AWP.condB rfl (fun hc => ?_) (fun hc => ?_)
    · have hn : L.length % 8 ≠ 0 := by have := of_decide_eq_true hc; omega
      refine AWP.draw [(0, true), (1, true), (2, true), (3, true), (4, true), (5, true), (6, true), (7, true), (8, true), (9, true), (10, true), (11, true), (12, true), (13, true), (14, true), (15, true), (16, true), (17, false), (18, false), (19, true)] [18] mixed (by kernel_rfl) ?_
      refine draw_pure rfl rfl rfl rfl (lit_lt rfl) (fun _ => Calm.move rfl) ?_
      refine draw_pure rfl rfl rfl rfl (lit_lt rfl) (fun _ => Calm.move rfl) ?_
      refine draw_calm rfl rfl rfl (lit_lt rfl) less_ (fun S' hS' => by obtain rfl := hS'.resolve_left (by decide); exact Calm.lenSl Try.underlying79 rfl) ?_
      refine draw_pure rfl rfl rfl rfl (lit_lt rfl) (fun _ => Calm.move rfl) ?_
      refine draw_calm rfl rfl rfl (lit_lt rfl) less_ (fun S' hS' => by obtain rfl := hS'.resolve_left (by decide); exact Calm.lenSl Try.underlying79 rfl) ?_
      refine draw_pure rfl rfl rfl rfl (lit_lt rfl) (fun _ => (by first | exact Calm.sliceHead Try.underlying79 ty_size_5 rfl (bnd_some _ _ rfl (by omega) (by omega)) (fun _ => rfl) (bnd_some _ _ rfl (by omega) (by omega)) | exact Calm.sliceNil Try.underlying79 ty_size_5 rfl (bnd_zero _ _ rfl) (by simp) (bnd_zero _ _ rfl) (bnd_none _ _))) ?_
      refine draw_pure rfl rfl rfl rfl (lit_lt rfl) (fun _ => Calm.move rfl) ?_
      refine draw_pure rfl rfl rfl rfl (lit_lt rfl) (fun _ => Calm.nilCheck rfl) ?_
      refine draw_pure rfl rfl rfl rfl (lit_lt rfl) (fun _ => Calm.fieldAddr ty_field_81_1 rfl) ?_
      refine draw_calm rfl rfl rfl (lit_lt rfl) less_ (fun S' hS' => by obtain rfl := hS'.resolve_left (by decide); exact ld_ ty_plain_59 rfl) ?_
      refine draw_pure rfl rfl rfl rfl (lit_lt rfl) (fun _ => Calm.move rfl) ?_
      refine draw_pure rfl rfl rfl rfl (lit_lt rfl) (fun _ => Calm.nilCheck rfl) ?_
      refine draw_pure rfl rfl rfl rfl (lit_lt rfl) (fun _ => Calm.fieldAddr ty_field_81_2 rfl) ?_
      refine draw_calm rfl rfl rfl (lit_lt rfl) less_ (fun S' hS' => by obtain rfl := hS'.resolve_left (by decide); exact ld_ ty_plain_3 rfl) ?_
      refine draw_pure rfl rfl rfl rfl (lit_lt rfl) (fun _ => Calm.bin rfl rfl b_sub_i64) ?_
      refine draw_pure rfl rfl rfl rfl (lit_lt rfl) (fun _ => Calm.bin rfl rfl b_shl) ?_
      refine draw_calm rfl rfl rfl (lit_lt rfl) less_ (fun S' hS' => by obtain rfl := hS'.resolve_left (by decide); exact Calm.conv rfl (conv_intW Try.underlying59 Try.underlying5 hlb)) ?_
      refine draw_only rfl ?_
      refine ARun.build1s (lit_lt rfl) ty_sl_79 rfl rfl ?_
      intro b30 f30
      have g30 := f30
      repeat ((with_reducible replace g30 := fresh_set g30); obtain ⟨g30, _⟩ := g30)
      refine arun_nil ⟨fun _ => less_, ?_⟩
      refine draw_only rfl ?_
      refine ARun.appendCopy1 (lit_lt rfl) ty_sl_79 rfl (xs := bytesV L) (rds_own' own_ rfl) (bytesV_length L) rfl (news := [_]) rds_ rfl (by omega) (by omega) (by omega) ?_
      intro bn cn fbn hcn
      have gbn := fbn
      repeat ((with_reducible replace gbn := fresh_set gbn); obtain ⟨gbn, _⟩ := gbn)
      refine arun_nil ⟨fun h => absurd h (by decide), ?_⟩
      refine draw_pure rfl rfl rfl rfl (lit_lt rfl) (fun _ => Calm.assign rfl) ?_
      refine draw_nil ?_
      refine athen_n ?_
      refine AWP.sub [(0, _), (2, _), (3, _), (12, _)] ⟨rfl, rfl, rfl, rfl, trivial⟩ ?_
      have hbs : cellsB (pack L) = bytesV L ++ [.int .u8 (nb (lastB L))] := by rw [pack_last L hn]; simp [cellsB, bytesV, lastB]
      refine AWP.seq ?_
      refine AWP.draw [(0, true), (1, true), (2, true), (3, false), (4, true), (5, false)] [5] mixed (by kernel_rfl) ?_
      refine draw_pure rfl rfl rfl rfl (lit_lt rfl) (fun _ => Calm.move rfl) ?_
      refine draw_calm rfl rfl rfl (lit_lt rfl) less_ (fun S' hS' => by obtain rfl := hS'.resolve_left (by decide); exact Calm.toStr ty_bytes_79 ty_str_9 rfl (l := pack L) (by rw [pack_length]; omega) (by rw [hbs]; exact rds_own' own_ rfl)) ?_
      refine draw_pure rfl rfl rfl rfl (lit_lt rfl) (fun _ => Calm.move rfl) ?_
      refine draw_only rfl ?_
      refine ARun.call (lit_lt rfl) go_78 rfl (ACall.pure_more less_ hLen) ?_
      rintro _ _ ⟨rfl, rfl⟩
      refine arun_nil ⟨fun _ => less_, ?_⟩
      refine draw_pure rfl rfl rfl rfl (lit_lt rfl) (fun _ => Calm.build (cs := [_, _]) ty_bld_47 rfl rfl) ?_
      refine draw_only rfl ?_
      first | refine ARun.storeAll rfl rfl ty_size_47 own_ rfl rfl ?_ | refine ARun.store rfl rfl ty_size_47 own_ lens_ rfl ?_
      (try simp only [Mem.set_set, List.set_cons_zero, List.set_cons_succ, Nat.zero_add, Nat.reduceAdd])
      refine arun_nil ⟨fun h => absurd h (by decide), ?_⟩
      refine draw_nil ?_
      refine athen_n ?_
      refine AWP.sub [(0, _), (2, _), (3, _), (12, _)] ⟨rfl, rfl, rfl, rfl, trivial⟩ ?_
      refine AWP.ret ?_
      refine ⟨_, S, ⟨_, _, _, rfl, .inr ⟨ty_agg_47, [_, _], ty_size_47, rds_, rfl⟩, rfl, rfl⟩, less_, ?_⟩
      exact ⟨rfl, rfl⟩
    · have hn : L.length % 8 = 0 := by have := of_decide_eq_false hc; omega
      have hbs : cellsB (pack L) = bytesV L := by unfold bytesV; rw [pack_whole L hn]; rfl
      refine AWP.skip ?_
      refine athen_n ?_
      refine AWP.seq ?_
      refine AWP.draw [(0, true), (1, true), (2, true), (3, false), (4, true), (5, false)] [5] mixed (by kernel_rfl) ?_
      refine draw_pure rfl rfl rfl rfl (lit_lt rfl) (fun _ => Calm.move rfl) ?_
      refine draw_calm rfl rfl rfl (lit_lt rfl) less_ (fun S' hS' => by obtain rfl := hS'.resolve_left (by decide); exact Calm.toStr ty_bytes_79 ty_str_9 rfl (l := pack L) (by rw [pack_length]; omega) (by rw [hbs]; exact rds_own' own_ rfl)) ?_
      refine draw_pure rfl rfl rfl rfl (lit_lt rfl) (fun _ => Calm.move rfl) ?_
      refine draw_only rfl ?_
      refine ARun.call (lit_lt rfl) go_78 rfl (ACall.pure_more less_ hLen) ?_
      rintro _ _ ⟨rfl, rfl⟩
      refine arun_nil ⟨fun _ => less_, ?_⟩
      refine draw_pure rfl rfl rfl rfl (lit_lt rfl) (fun _ => Calm.build (cs := [_, _]) ty_bld_47 rfl rfl) ?_
      refine draw_only rfl ?_
      first | refine ARun.storeAll rfl rfl ty_size_47 own_ rfl rfl ?_ | refine ARun.store rfl rfl ty_size_47 own_ lens_ rfl ?_
      (try simp only [Mem.set_set, List.set_cons_zero, List.set_cons_succ, Nat.zero_add, Nat.reduceAdd])
      refine arun_nil ⟨fun h => absurd h (by decide), ?_⟩
      refine draw_nil ?_
      refine athen_n ?_
      refine AWP.sub [(0, _), (2, _), (3, _), (12, _)] ⟨rfl, rfl, rfl, rfl, trivial⟩ ?_
      refine AWP.ret ?_
      refine ⟨_, S, ⟨_, _, _, rfl, .inr ⟨ty_agg_47, [_, _], ty_size_47, rds_, rfl⟩, rfl, rfl⟩, less_, ?_⟩
      exact ⟨rfl, rfl⟩
end Go.Proofs.Ytddabbfjoejalaa
