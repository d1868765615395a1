/-
  The walks of Len, Copy and Bits over the view of memory.
-/
import Derived.Test.YtpeljbmbgjeomaaVBitsAdd
import Derived.Test.YtpeljbmbgjeomaaBitsCopy
import Derived.Test.YtpeljbmbgjeomaaBitsCheck
namespace Go.Proofs.Ytpeljbmbgjeomaa
open Go.RowKit
open Bits Mv
set_option linter.unusedVariables false
set_option linter.unusedSimpArgs false
namespace Bits
theorem fresh_wrM {S : Mem} {p : Nat} {o : Option (Nat × Nat)} {L : List Bool} {b : Nat} (h : Fresh (wrM S p o L) b) : Fresh S b ∧ b ≠ p ∧ ∀ q c, o = some (q, c) → b ≠ q := by
  unfold wrM at h
  obtain ⟨h1, h2⟩ := fresh_set h
  cases o with
  | none => exact ⟨h1, h2, fun q c e => by cases e⟩
  | some qc =>
    obtain ⟨q, c⟩ := qc
    obtain ⟨h3, h4⟩ := fresh_set h1
    exact ⟨h3, h2, fun q' c' e => by cases e; exact h4⟩
/-- The same over more memory. -/
theorem wrM_more (S S' : Mem) (p : Nat) (o : Option (Nat × Nat)) (L : List Bool) (h : S.Less S') : (wrM S p o L).Less (wrM S' p o L) := by
  unfold wrM
  refine Less.set ?_ _ _
  cases o with
  | none => exact h
  | some qc => exact Less.set h _ _
theorem wrM_set (S : Mem) (p b : Nat) (o : Option (Nat × Nat)) (L : List Bool) (r : Blk) (hp : b ≠ p) (ho : ∀ q c, o = some (q, c) → b ≠ q) : (wrM S p o L).set b r = wrM (S.set b r) p o L := by
  unfold wrM
  rw [Mem.set_comm _ _ _ (Ne.symm hp)]
  congr 1
  cases o with
  | none => rfl
  | some qc => exact Mem.set_comm _ _ _ (Ne.symm (ho _ _ rfl))
theorem OkW.set {S : Mem} {p b : Nat} {o : Option (Nat × Nat)} {L : List Bool} {r : Blk} (h : OkW S p o L) (hp : b ≠ p) (ho : ∀ q c, o = some (q, c) → b ≠ q) : OkW (S.set b r) p o L := by
  have fs : ∀ q, Fresh S q → q ≠ b → Fresh (S.set b r) q := fun q hq hne => ⟨by rw [Mem.own_set_other _ _ hne]; exact hq.1, hq.2⟩
  exact ⟨fs p h.fp (Ne.symm hp), h.nil, fun q c e => ⟨fs q (h.own q c e).1 (Ne.symm (ho q c e)), (h.own q c e).2⟩⟩
theorem OkW.unset {S : Mem} {p b : Nat} {o : Option (Nat × Nat)} {L : List Bool} {r : Blk} (h : OkW (S.set b r) p o L) : OkW S p o L :=
  ⟨(fresh_set h.fp).1, h.nil, fun q c e => ⟨(fresh_set (h.own q c e).1).1, (h.own q c e).2⟩⟩
theorem own_wrM (S : Mem) (p : Nat) (o : Option (Nat × Nat)) (L : List Bool) (b : Nat) (r : Blk) (hp : b ≠ p) (ho : ∀ q c, o = some (q, c) → b ≠ q) (h : S.own b = some r) : (wrM S p o L).own b = some r := by
  unfold wrM
  rw [Mem.own_set_other _ _ hp]
  cases o with
  | none => exact h
  | some qc =>
    obtain ⟨q, c⟩ := qc
    exact (Mem.own_set_other _ _ (ho q c rfl)).trans h
def lastB (L : List Bool) : UInt8 := UInt8.ofNat (num (rest L) * 2 ^ (8 - L.length % 8))
theorem lastI (L : List Bool) : IntKind.u8.wrap (IntKind.u64.wrap (((num (rest L) : Nat) : Int) * 2 ^ ((8 : Int) - (L.length % 8 : Nat)).toNat)) = nb (lastB L) := by
  obtain ⟨R, h1, h2, h3⟩ := last_byte L
  rw [show ((8 : Int) - (L.length % 8 : Nat)).toNat = 8 - L.length % 8 from by omega, h1, h2, h3]; rfl
theorem pack_one (L : List Bool) (h : L.length < 8) (hn : L.length % 8 ≠ 0) : pack L = [lastB L] := by
  rw [pack_last L hn]
  have : whole L = [] := by unfold whole; rw [show L.length / 8 = 0 from by omega]; rfl
  rw [this]; rfl
theorem rds_own' {S : Mem} {b : Nat} {r : Blk} {cs : List Value} (h : S.own b = some r) (e : r.cells = cs) : S.rds ⟨b, 0, none⟩ cs := by rw [← e]; exact rds_own h
end Bits
theorem bitsV_AddI (p : Nat) (v width : Int) (L : List Bool) (o : Option (Nat × Nat)) (S : Mem) (h0 : 0 ≤ width) (h3 : width ≤ 64) (h4 : 0 ≤ v) (h5 : v ≤ 18446744073709551615) (hlen : L.length ≤ 1048576 + 64) (hok : OkW S p o L) :
    ACall Try.prog 50 #[.pointer (some ⟨p, 0, none⟩), .int .u64 v, .int .i64 width] (wrM S p o L) fun r S' => r = .tuple #[] ∧ ∃ o', OkW S p o' (L ++ numB v.toNat width.toNat) ∧ S' = wrM S p o' (L ++ numB v.toNat width.toNat) := by
  have := bitsV_Add p v.toNat width.toNat L o S (by omega) (by omega) hlen hok
  rwa [Int.toNat_of_nonneg h4, Int.toNat_of_nonneg h0] at this
set_option maxHeartbeats 400000 in
theorem bitsV_Len (p : Nat) (L : List Bool) (o : Option (Nat × Nat)) (S : Mem) (hlen : L.length ≤ 2000000) (hok : OkW S p o L) :
    ACall Try.prog 56 #[.pointer (some ⟨p, 0, none⟩)] (wrM S p o L) fun r S' => r = .int .i64 (L.length : Nat) ∧ S' = wrM S p o L := by
  refine ACall.enter (args := [.pointer (some ⟨p, 0, none⟩)]) (rs := [.tmp 2]) 14 [(0, .pointer (some ⟨p, 0, none⟩))] Try.func56 rfl rfl (Nat.le_of_ble_eq_true rfl) rfl ⟨rfl, trivial⟩ ?_
  rcases o with _ | ⟨b, c⟩
  · unfold wrM outM outV
    refine AWP.seq ?_
    refine AWP.region ?_
    refine ARun.calm rfl rfl (lit_lt rfl) (Calm.assign rfl) ?_
    refine arun_nil ?_
    refine athen_n ?_
    refine AWP.seq ?_
    refine AWP.draw [(0, true), (1, true), (2, true), (3, true), (4, true), (5, true), (6, true), (7, true), (8, true), (9, true), (10, true), (11, true)] [] mixed (by kernel_rfl) ?_
    refine draw_pure rfl rfl rfl rfl (lit_lt rfl) (fun _ => Calm.move rfl) ?_
    refine draw_pure rfl rfl rfl rfl (lit_lt rfl) (fun _ => Calm.nilCheck rfl) ?_
    refine draw_pure rfl rfl rfl rfl (lit_lt rfl) (fun _ => Calm.fieldAddr ty_field_65_0 rfl) ?_
    refine draw_calm rfl rfl rfl (lit_lt rfl) ((by first | with_reducible exact Mem.Less.refl _ | ((with_reducible refine Mem.less_set _ _ _ (Fresh.own ?_)); with_reducible assumption) | (refine less_of ?_; (repeat first | with_reducible exact LessB.refl _ _ | ((with_reducible refine LessB.set ?_ ?_); ((repeat first | ((with_reducible refine (Mem.own_set_other _ _ ?_).trans ?_); (first | assumption | (apply Ne.symm; assumption))) | ((with_reducible refine (Mem.own_del_other _ ?_).trans ?_); (first | assumption | (apply Ne.symm; assumption)))); (first | with_reducible exact Mem.own_set_same _ _ _ | with_reducible assumption | exact Mem.own_set_same _ _ _))) | (with_reducible refine LessB.delL ?_)); (repeat first | with_reducible exact LessB.refl _ _ | ((with_reducible refine LessB.of ?_); with_reducible assumption) | ((with_reducible refine LessB.skip ?_ ?_); (first | ((refine .inl ?_); simp; done) | ((refine .inr (Fresh.own ?_)); with_reducible assumption) | ((refine .inr ?_); with_reducible assumption))) | ((with_reducible refine LessB.skipDel ?_ ?_); (first | ((refine .inl ?_); simp; done) | ((refine .inr (Fresh.own ?_)); with_reducible assumption) | ((refine .inr ?_); with_reducible assumption))))))) (fun S' hS' => by obtain rfl := hS'.resolve_left (by decide); exact Calm.load ty_plain_63 rfl ((by (repeat ((with_reducible refine (rd_set_ne _ _ ?_).trans ?_); (first | assumption | (apply Ne.symm; assumption)))); (first | ((with_reducible refine (rd_set_same _ _ _ _).trans ?_); rfl) | ((with_reducible apply rd_own'); (with_reducible assumption); rfl) | with_reducible assumption)))) ?_
    refine draw_calm rfl rfl rfl (lit_lt rfl) ((by first | with_reducible exact Mem.Less.refl _ | ((with_reducible refine Mem.less_set _ _ _ (Fresh.own ?_)); with_reducible assumption) | (refine less_of ?_; (repeat first | with_reducible exact LessB.refl _ _ | ((with_reducible refine LessB.set ?_ ?_); ((repeat first | ((with_reducible refine (Mem.own_set_other _ _ ?_).trans ?_); (first | assumption | (apply Ne.symm; assumption))) | ((with_reducible refine (Mem.own_del_other _ ?_).trans ?_); (first | assumption | (apply Ne.symm; assumption)))); (first | with_reducible exact Mem.own_set_same _ _ _ | with_reducible assumption | exact Mem.own_set_same _ _ _))) | (with_reducible refine LessB.delL ?_)); (repeat first | with_reducible exact LessB.refl _ _ | ((with_reducible refine LessB.of ?_); with_reducible assumption) | ((with_reducible refine LessB.skip ?_ ?_); (first | ((refine .inl ?_); simp; done) | ((refine .inr (Fresh.own ?_)); with_reducible assumption) | ((refine .inr ?_); with_reducible assumption))) | ((with_reducible refine LessB.skipDel ?_ ?_); (first | ((refine .inl ?_); simp; done) | ((refine .inr (Fresh.own ?_)); with_reducible assumption) | ((refine .inr ?_); with_reducible assumption))))))) (fun S' hS' => by obtain rfl := hS'.resolve_left (by decide); exact Calm.lenSl Try.underlying63 rfl) ?_
    refine draw_pure rfl rfl rfl rfl (lit_lt rfl) (fun _ => Calm.bin rfl rfl (by first | exact bin_mulW (IntWalk.i64_in _ (by omega)) | exact bin_mul _ _)) ?_
    refine draw_pure rfl rfl rfl rfl (lit_lt rfl) (fun _ => Calm.move rfl) ?_
    refine draw_pure rfl rfl rfl rfl (lit_lt rfl) (fun _ => Calm.nilCheck rfl) ?_
    refine draw_pure rfl rfl rfl rfl (lit_lt rfl) (fun _ => Calm.fieldAddr ty_field_65_2 rfl) ?_
    refine draw_calm rfl rfl rfl (lit_lt rfl) ((by first | with_reducible exact Mem.Less.refl _ | ((with_reducible refine Mem.less_set _ _ _ (Fresh.own ?_)); with_reducible assumption) | (refine less_of ?_; (repeat first | with_reducible exact LessB.refl _ _ | ((with_reducible refine LessB.set ?_ ?_); ((repeat first | ((with_reducible refine (Mem.own_set_other _ _ ?_).trans ?_); (first | assumption | (apply Ne.symm; assumption))) | ((with_reducible refine (Mem.own_del_other _ ?_).trans ?_); (first | assumption | (apply Ne.symm; assumption)))); (first | with_reducible exact Mem.own_set_same _ _ _ | with_reducible assumption | exact Mem.own_set_same _ _ _))) | (with_reducible refine LessB.delL ?_)); (repeat first | with_reducible exact LessB.refl _ _ | ((with_reducible refine LessB.of ?_); with_reducible assumption) | ((with_reducible refine LessB.skip ?_ ?_); (first | ((refine .inl ?_); simp; done) | ((refine .inr (Fresh.own ?_)); with_reducible assumption) | ((refine .inr ?_); with_reducible assumption))) | ((with_reducible refine LessB.skipDel ?_ ?_); (first | ((refine .inl ?_); simp; done) | ((refine .inr (Fresh.own ?_)); with_reducible assumption) | ((refine .inr ?_); with_reducible assumption))))))) (fun S' hS' => by obtain rfl := hS'.resolve_left (by decide); exact Calm.load ty_plain_3 rfl ((by (repeat ((with_reducible refine (rd_set_ne _ _ ?_).trans ?_); (first | assumption | (apply Ne.symm; assumption)))); (first | ((with_reducible refine (rd_set_same _ _ _ _).trans ?_); rfl) | ((with_reducible apply rd_own'); (with_reducible assumption); rfl) | with_reducible assumption)))) ?_
    refine draw_pure rfl rfl rfl rfl (lit_lt rfl) (fun _ => Calm.bin rfl rfl (by first | exact bin_addW (IntWalk.i64_in _ (by omega)) | exact bin_add _ _)) ?_
    refine draw_pure rfl rfl rfl rfl (lit_lt rfl) (fun _ => Calm.assign rfl) ?_
    refine draw_nil ?_
    refine athen_n ?_
    refine AWP.sub [(0, _), (2, _)] ⟨rfl, rfl, trivial⟩ ?_
    refine AWP.ret ?_
    refine ⟨_, _, ⟨_, _, rfl, rfl, rfl⟩, (by first | with_reducible exact Mem.Less.refl _ | ((with_reducible refine Mem.less_set _ _ _ (Fresh.own ?_)); with_reducible assumption) | (refine less_of ?_; (repeat first | with_reducible exact LessB.refl _ _ | ((with_reducible refine LessB.set ?_ ?_); ((repeat first | ((with_reducible refine (Mem.own_set_other _ _ ?_).trans ?_); (first | assumption | (apply Ne.symm; assumption))) | ((with_reducible refine (Mem.own_del_other _ ?_).trans ?_); (first | assumption | (apply Ne.symm; assumption)))); (first | with_reducible exact Mem.own_set_same _ _ _ | with_reducible assumption | exact Mem.own_set_same _ _ _))) | (with_reducible refine LessB.delL ?_)); (repeat first | with_reducible exact LessB.refl _ _ | ((with_reducible refine LessB.of ?_); with_reducible assumption) | ((with_reducible refine LessB.skip ?_ ?_); (first | ((refine .inl ?_); simp; done) | ((refine .inr (Fresh.own ?_)); with_reducible assumption) | ((refine .inr ?_); with_reducible assumption))) | ((with_reducible refine LessB.skipDel ?_ ?_); (first | ((refine .inl ?_); simp; done) | ((refine .inr (Fresh.own ?_)); with_reducible assumption) | ((refine .inr ?_); with_reducible assumption)))))), ?_⟩
    exact ⟨val_int (by have := hok.nil rfl; omega), rfl⟩
  · unfold wrM outM outV
    refine AWP.seq ?_
    refine AWP.region ?_
    refine ARun.calm rfl rfl (lit_lt rfl) (Calm.assign rfl) ?_
    refine arun_nil ?_
    refine athen_n ?_
    refine AWP.seq ?_
    refine AWP.draw [(0, true), (1, true), (2, true), (3, true), (4, true), (5, true), (6, true), (7, true), (8, true), (9, true), (10, true), (11, true)] [] mixed (by kernel_rfl) ?_
    refine draw_pure rfl rfl rfl rfl (lit_lt rfl) (fun _ => Calm.move rfl) ?_
    refine draw_pure rfl rfl rfl rfl (lit_lt rfl) (fun _ => Calm.nilCheck rfl) ?_
    refine draw_pure rfl rfl rfl rfl (lit_lt rfl) (fun _ => Calm.fieldAddr ty_field_65_0 rfl) ?_
    refine draw_calm rfl rfl rfl (lit_lt rfl) ((by first | with_reducible exact Mem.Less.refl _ | ((with_reducible refine Mem.less_set _ _ _ (Fresh.own ?_)); with_reducible assumption) | (refine less_of ?_; (repeat first | with_reducible exact LessB.refl _ _ | ((with_reducible refine LessB.set ?_ ?_); ((repeat first | ((with_reducible refine (Mem.own_set_other _ _ ?_).trans ?_); (first | assumption | (apply Ne.symm; assumption))) | ((with_reducible refine (Mem.own_del_other _ ?_).trans ?_); (first | assumption | (apply Ne.symm; assumption)))); (first | with_reducible exact Mem.own_set_same _ _ _ | with_reducible assumption | exact Mem.own_set_same _ _ _))) | (with_reducible refine LessB.delL ?_)); (repeat first | with_reducible exact LessB.refl _ _ | ((with_reducible refine LessB.of ?_); with_reducible assumption) | ((with_reducible refine LessB.skip ?_ ?_); (first | ((refine .inl ?_); simp; done) | ((refine .inr (Fresh.own ?_)); with_reducible assumption) | ((refine .inr ?_); with_reducible assumption))) | ((with_reducible refine LessB.skipDel ?_ ?_); (first | ((refine .inl ?_); simp; done) | ((refine .inr (Fresh.own ?_)); with_reducible assumption) | ((refine .inr ?_); with_reducible assumption))))))) (fun S' hS' => by obtain rfl := hS'.resolve_left (by decide); exact Calm.load ty_plain_63 rfl ((by (repeat ((with_reducible refine (rd_set_ne _ _ ?_).trans ?_); (first | assumption | (apply Ne.symm; assumption)))); (first | ((with_reducible refine (rd_set_same _ _ _ _).trans ?_); rfl) | ((with_reducible apply rd_own'); (with_reducible assumption); rfl) | with_reducible assumption)))) ?_
    refine draw_calm rfl rfl rfl (lit_lt rfl) ((by first | with_reducible exact Mem.Less.refl _ | ((with_reducible refine Mem.less_set _ _ _ (Fresh.own ?_)); with_reducible assumption) | (refine less_of ?_; (repeat first | with_reducible exact LessB.refl _ _ | ((with_reducible refine LessB.set ?_ ?_); ((repeat first | ((with_reducible refine (Mem.own_set_other _ _ ?_).trans ?_); (first | assumption | (apply Ne.symm; assumption))) | ((with_reducible refine (Mem.own_del_other _ ?_).trans ?_); (first | assumption | (apply Ne.symm; assumption)))); (first | with_reducible exact Mem.own_set_same _ _ _ | with_reducible assumption | exact Mem.own_set_same _ _ _))) | (with_reducible refine LessB.delL ?_)); (repeat first | with_reducible exact LessB.refl _ _ | ((with_reducible refine LessB.of ?_); with_reducible assumption) | ((with_reducible refine LessB.skip ?_ ?_); (first | ((refine .inl ?_); simp; done) | ((refine .inr (Fresh.own ?_)); with_reducible assumption) | ((refine .inr ?_); with_reducible assumption))) | ((with_reducible refine LessB.skipDel ?_ ?_); (first | ((refine .inl ?_); simp; done) | ((refine .inr (Fresh.own ?_)); with_reducible assumption) | ((refine .inr ?_); with_reducible assumption))))))) (fun S' hS' => by obtain rfl := hS'.resolve_left (by decide); exact Calm.lenSl Try.underlying63 rfl) ?_
    refine draw_pure rfl rfl rfl rfl (lit_lt rfl) (fun _ => Calm.bin rfl rfl (by first | exact bin_mulW (IntWalk.i64_in _ (by omega)) | exact bin_mul _ _)) ?_
    refine draw_pure rfl rfl rfl rfl (lit_lt rfl) (fun _ => Calm.move rfl) ?_
    refine draw_pure rfl rfl rfl rfl (lit_lt rfl) (fun _ => Calm.nilCheck rfl) ?_
    refine draw_pure rfl rfl rfl rfl (lit_lt rfl) (fun _ => Calm.fieldAddr ty_field_65_2 rfl) ?_
    refine draw_calm rfl rfl rfl (lit_lt rfl) ((by first | with_reducible exact Mem.Less.refl _ | ((with_reducible refine Mem.less_set _ _ _ (Fresh.own ?_)); with_reducible assumption) | (refine less_of ?_; (repeat first | with_reducible exact LessB.refl _ _ | ((with_reducible refine LessB.set ?_ ?_); ((repeat first | ((with_reducible refine (Mem.own_set_other _ _ ?_).trans ?_); (first | assumption | (apply Ne.symm; assumption))) | ((with_reducible refine (Mem.own_del_other _ ?_).trans ?_); (first | assumption | (apply Ne.symm; assumption)))); (first | with_reducible exact Mem.own_set_same _ _ _ | with_reducible assumption | exact Mem.own_set_same _ _ _))) | (with_reducible refine LessB.delL ?_)); (repeat first | with_reducible exact LessB.refl _ _ | ((with_reducible refine LessB.of ?_); with_reducible assumption) | ((with_reducible refine LessB.skip ?_ ?_); (first | ((refine .inl ?_); simp; done) | ((refine .inr (Fresh.own ?_)); with_reducible assumption) | ((refine .inr ?_); with_reducible assumption))) | ((with_reducible refine LessB.skipDel ?_ ?_); (first | ((refine .inl ?_); simp; done) | ((refine .inr (Fresh.own ?_)); with_reducible assumption) | ((refine .inr ?_); with_reducible assumption))))))) (fun S' hS' => by obtain rfl := hS'.resolve_left (by decide); exact Calm.load ty_plain_3 rfl ((by (repeat ((with_reducible refine (rd_set_ne _ _ ?_).trans ?_); (first | assumption | (apply Ne.symm; assumption)))); (first | ((with_reducible refine (rd_set_same _ _ _ _).trans ?_); rfl) | ((with_reducible apply rd_own'); (with_reducible assumption); rfl) | with_reducible assumption)))) ?_
    refine draw_pure rfl rfl rfl rfl (lit_lt rfl) (fun _ => Calm.bin rfl rfl (by first | exact bin_addW (IntWalk.i64_in _ (by omega)) | exact bin_add _ _)) ?_
    refine draw_pure rfl rfl rfl rfl (lit_lt rfl) (fun _ => Calm.assign rfl) ?_
    refine draw_nil ?_
    refine athen_n ?_
    refine AWP.sub [(0, _), (2, _)] ⟨rfl, rfl, trivial⟩ ?_
    refine AWP.ret ?_
    refine ⟨_, _, ⟨_, _, rfl, rfl, rfl⟩, (by first | with_reducible exact Mem.Less.refl _ | ((with_reducible refine Mem.less_set _ _ _ (Fresh.own ?_)); with_reducible assumption) | (refine less_of ?_; (repeat first | with_reducible exact LessB.refl _ _ | ((with_reducible refine LessB.set ?_ ?_); ((repeat first | ((with_reducible refine (Mem.own_set_other _ _ ?_).trans ?_); (first | assumption | (apply Ne.symm; assumption))) | ((with_reducible refine (Mem.own_del_other _ ?_).trans ?_); (first | assumption | (apply Ne.symm; assumption)))); (first | with_reducible exact Mem.own_set_same _ _ _ | with_reducible assumption | exact Mem.own_set_same _ _ _))) | (with_reducible refine LessB.delL ?_)); (repeat first | with_reducible exact LessB.refl _ _ | ((with_reducible refine LessB.of ?_); with_reducible assumption) | ((with_reducible refine LessB.skip ?_ ?_); (first | ((refine .inl ?_); simp; done) | ((refine .inr (Fresh.own ?_)); with_reducible assumption) | ((refine .inr ?_); with_reducible assumption))) | ((with_reducible refine LessB.skipDel ?_ ?_); (first | ((refine .inl ?_); simp; done) | ((refine .inr (Fresh.own ?_)); with_reducible assumption) | ((refine .inr ?_); with_reducible assumption)))))), ?_⟩
    exact ⟨val_int (by omega), rfl⟩
set_option maxHeartbeats 1000000 in
theorem bitsV_Copy (p : Nat) (s : ByteArray) (N : Nat) (L : List Bool) (o : Option (Nat × Nat)) (S : Mem) (hs : s.size = (N + 7) / 8) (hN : N ≤ 1048576) (hlen : L.length + N ≤ 1048576) (hok : OkW S p o L) :
    ACall Try.prog 49 #[.pointer (some ⟨p, 0, none⟩), .agg #[.string s, .int .i64 N]] (wrM S p o L) fun r S' => r = .tuple #[] ∧ ∃ o', OkW S p o' (L ++ upto s.data.toList N) ∧ S' = wrM S p o' (L ++ upto s.data.toList N) := by
  refine ACall.enter (args := [.pointer (some ⟨p, 0, none⟩), .agg #[.string s, .int .i64 N]]) (rs := []) 27 [(0, .pointer (some ⟨p, 0, none⟩)), (1, .agg #[.string s, .int .i64 N])] Try.func49 rfl rfl (Nat.le_of_ble_eq_true rfl) rfl ⟨rfl, rfl, trivial⟩ ?_
  refine AWP.seq ?_
  refine AWP.region ?_
  refine ARun.boxA (cs := [_, _]) (lit_lt rfl) rfl ?_
  intro b3 f3
  have g3 := f3
  repeat ((with_reducible replace g3 := fresh_set g3); obtain ⟨g3, _⟩ := g3)
  (try simp only [List.length_cons, List.length_nil, Nat.zero_add, Nat.reduceAdd])
  refine arun_nil ?_
  refine athen_n ?_
  obtain ⟨q1, q2, q3⟩ := fresh_wrM g3
  refine AWP.seq ?_
  refine AWP.region ?_
  refine ARun.calm rfl rfl (lit_lt rfl) (Calm.loadA ty_agg_23 (cs := [_, _]) ty_size_23 rfl ((by first | with_reducible assumption | ((repeat (apply rds_cons; ((repeat ((with_reducible refine (rd_set_ne _ _ ?_).trans ?_); (first | assumption | (apply Ne.symm; assumption)))); (first | ((with_reducible refine (rd_set_same _ _ _ _).trans ?_); rfl) | ((with_reducible apply rd_own'); (with_reducible assumption); rfl) | with_reducible assumption)))); exact rds_nil _ _)))) ?_
  refine ARun.calm rfl rfl (lit_lt rfl) (Calm.build (cs := [_, _]) ty_bld_85 rfl rfl) ?_
  refine ARun.alloc (lit_lt rfl) ty_zero_85 ?_
  intro b4 f4
  have g4 := f4
  repeat ((with_reducible replace g4 := fresh_set g4); obtain ⟨g4, _⟩ := g4)
  (try simp only [List.length_cons, List.length_nil, Nat.zero_add, Nat.reduceAdd])
  first | refine ARun.storeAll rfl rfl ty_size_85 ((by (repeat first | ((with_reducible refine (Mem.own_set_other _ _ ?_).trans ?_); (first | assumption | (apply Ne.symm; assumption))) | ((with_reducible refine (Mem.own_del_other _ ?_).trans ?_); (first | assumption | (apply Ne.symm; assumption)))); (first | with_reducible exact Mem.own_set_same _ _ _ | with_reducible assumption | exact Mem.own_set_same _ _ _))) rfl rfl ?_ | refine ARun.store rfl rfl ty_size_85 ((by (repeat first | ((with_reducible refine (Mem.own_set_other _ _ ?_).trans ?_); (first | assumption | (apply Ne.symm; assumption))) | ((with_reducible refine (Mem.own_del_other _ ?_).trans ?_); (first | assumption | (apply Ne.symm; assumption)))); (first | with_reducible exact Mem.own_set_same _ _ _ | with_reducible assumption | exact Mem.own_set_same _ _ _))) ((by first | decide | (simp; done) | (simp; omega) | omega)) rfl ?_
  (try simp only [Mem.set_set, List.set_cons_zero, List.set_cons_succ, Nat.zero_add, Nat.reduceAdd])
  refine arun_nil ?_
  refine athen_n ?_
  refine AWP.sub [(0, _), (1, _), (3, _), (4, _)] ⟨rfl, rfl, rfl, rfl, trivial⟩ ?_
  obtain ⟨r1, r2, r3⟩ := fresh_wrM g4
  refine AWP.seq ?_
  refine AWP.region ?_
  refine ARun.calm rfl rfl (lit_lt rfl) (Calm.assign rfl) ?_
  refine arun_nil ?_
  refine athen_n ?_
  have hne : b4 ≠ b3 := by assumption
  refine AWP.block ?_
  refine AWP.loop (X := Nat × Option (Nat × Nat)) (fun x => [(0, .pointer (some ⟨p, 0, none⟩)), (3, .pointer (some ⟨b3, 0, none⟩)), (4, .pointer (some ⟨b4, 0, none⟩)), (5, .int .i64 x.1)]) (fun x => wrM ((S.set b3 ⟨23, [.string s, .int .i64 N], 2⟩).set b4 ⟨85, [.string s, .int .i64 N], 2⟩) p x.2 (L ++ slc s.data.toList 0 (min x.1 N))) (fun x => x.1 ≤ N + 7 ∧ x.1 % 8 = 0 ∧ OkW ((S.set b3 ⟨23, [.string s, .int .i64 N], 2⟩).set b4 ⟨85, [.string s, .int .i64 N], 2⟩) p x.2 (L ++ slc s.data.toList 0 (min x.1 N))) (fun x => N + 8 - x.1) ((0, o)) ⟨rfl, rfl, rfl, rfl, trivial⟩ (by show (wrM _ p o (L ++ slc s.data.toList 0 (min 0 N))).Less _; rw [Nat.zero_min, slc_zero, List.append_nil, wrM_set _ _ _ _ _ _ q2 q3, wrM_set _ _ _ _ _ _ r2 r3]; exact Mem.Less.refl _) (⟨by omega, rfl, by rw [Nat.zero_min, slc_zero, List.append_nil]; exact (hok.set q2 q3).set r2 r3⟩) ?_
  rintro ⟨q, ov⟩ ⟨hq, hq8, hok2⟩
  (try dsimp only at *)
  have hfp := hok2.fp
  have n3 : p ≠ b3 := (fresh_set (fresh_set hfp).1).2
  have n4 : p ≠ b4 := (fresh_set hfp).2
  have hm3 : (wrM ((S.set b3 ⟨23, [.string s, .int .i64 N], 2⟩).set b4 ⟨85, [.string s, .int .i64 N], 2⟩) p ov (L ++ slc s.data.toList 0 (min q N))).own b3 = some ⟨23, [.string s, .int .i64 N], 2⟩ := own_wrM _ _ _ _ _ _ (Ne.symm n3) (fun q c e x => by subst x; have := (hok2.own _ _ e).1; exact (fresh_set (fresh_set this).1).2 rfl) (by rw [Mem.own_set_other _ _ (Ne.symm hne)]; exact Mem.own_set_same _ _ _)
  have hm4 : (wrM ((S.set b3 ⟨23, [.string s, .int .i64 N], 2⟩).set b4 ⟨85, [.string s, .int .i64 N], 2⟩) p ov (L ++ slc s.data.toList 0 (min q N))).own b4 = some ⟨85, [.string s, .int .i64 N], 2⟩ := own_wrM _ _ _ _ _ _ (Ne.symm n4) (fun q c e x => by subst x; have := (hok2.own _ _ e).1; exact (fresh_set this).2 rfl) (Mem.own_set_same _ _ _)
  refine AWP.seq ?_
  refine AWP.seq ?_
  refine AWP.region ?_
  refine ARun.calm rfl rfl (lit_lt rfl) (Calm.move rfl) ?_
  refine ARun.calm rfl rfl (lit_lt rfl) (Calm.fieldAddr ty_field_23_1 rfl) ?_
  refine ARun.calm rfl rfl (lit_lt rfl) (Calm.load ty_plain_3 rfl ((by (repeat ((with_reducible refine (rd_set_ne _ _ ?_).trans ?_); (first | assumption | (apply Ne.symm; assumption)))); (first | ((with_reducible refine (rd_set_same _ _ _ _).trans ?_); rfl) | ((with_reducible apply rd_own'); (with_reducible assumption); rfl) | with_reducible assumption)))) ?_
  refine ARun.calm rfl rfl (lit_lt rfl) (Calm.bin rfl rfl (by first | exact bin_bool (bin_lss _ _) (decide_eq_true (by omega)) | exact bin_bool (bin_lss _ _) (decide_eq_false (by omega)) | exact bin_lss _ _)) ?_
  refine arun_nil ?_
  refine athen_n ?_
  refine AWP.sub [(0, _), (3, _), (4, _), (5, _), (12, _)] ⟨rfl, rfl, rfl, rfl, rfl, trivial⟩ ?_
  refine AWP.condB rfl (fun hc => ?_) (fun hc => ?_)
  · have hlt : q < N := by have := of_decide_eq_true hc; omega
    obtain ⟨k, hk⟩ : ∃ k : Nat, (k : Int) = min 8 ((N : Int) - q) := ⟨(min 8 ((N : Int) - q)).toNat, by omega⟩
    have hsz : s.size ≤ 200000 := by omega
    have hsz8 : q + k ≤ 8 * s.size := by omega
    refine AWP.skip ?_
    refine athen_n ?_
    refine AWP.seq ?_
    refine AWP.block ?_
    refine AWP.seq ?_
    refine AWP.region ?_
    refine ARun.calm rfl rfl (lit_lt rfl) (Calm.fieldAddr ty_field_23_1 rfl) ?_
    refine ARun.calm rfl rfl (lit_lt rfl) (Calm.load ty_plain_3 rfl ((by (repeat ((with_reducible refine (rd_set_ne _ _ ?_).trans ?_); (first | assumption | (apply Ne.symm; assumption)))); (first | ((with_reducible refine (rd_set_same _ _ _ _).trans ?_); rfl) | ((with_reducible apply rd_own'); (with_reducible assumption); rfl) | with_reducible assumption)))) ?_
    refine ARun.calm rfl rfl (lit_lt rfl) (Calm.move rfl) ?_
    refine ARun.calm rfl rfl (lit_lt rfl) (Calm.bin rfl rfl (by first | exact bin_subW (IntWalk.i64_in _ (by omega)) | exact bin_sub _ _)) ?_
    refine ARun.calm rfl rfl (lit_lt rfl) (Calm.minE hk rfl rfl) ?_
    refine ARun.calm rfl rfl (lit_lt rfl) (Calm.assign rfl) ?_
    refine arun_nil ?_
    refine athen_n ?_
    refine AWP.sub [(0, _), (3, _), (4, _), (5, _), (12, _), (6, _)] ⟨rfl, rfl, rfl, rfl, rfl, rfl, trivial⟩ ?_
    refine AWP.region ?_
    refine ARun.calm rfl rfl (lit_lt rfl) (Calm.move rfl) ?_
    refine ARun.calm rfl rfl (lit_lt rfl) (Calm.loadA ty_agg_85 (cs := [_, _]) ty_size_85 rfl ((by first | with_reducible assumption | ((repeat (apply rds_cons; ((repeat ((with_reducible refine (rd_set_ne _ _ ?_).trans ?_); (first | assumption | (apply Ne.symm; assumption)))); (first | ((with_reducible refine (rd_set_same _ _ _ _).trans ?_); rfl) | ((with_reducible apply rd_own'); (with_reducible assumption); rfl) | with_reducible assumption)))); exact rds_nil _ _)))) ?_
    refine ARun.calm rfl rfl (lit_lt rfl) (Calm.move rfl) ?_
    refine ARun.calm rfl rfl (lit_lt rfl) (Calm.move rfl) ?_
    refine ARun.call (lit_lt rfl) go_67 rfl (ACall.of_calls fun w => bits_getI s hsz N q k w (by omega) (by omega) (by omega) (by omega)) ?_
    rintro _ _ ⟨rfl, rfl⟩
    refine ARun.calm rfl rfl (lit_lt rfl) (Calm.move rfl) ?_
    refine ARun.call (lit_lt rfl) go_50 rfl (bitsV_AddI p _ _ _ ov _ (by omega) (by omega) (by omega) (by have := num_u64 s.data.toList (q : Int).toNat (k : Int).toNat (by omega); omega) (by rw [List.length_append, slc_length]; omega) hok2) ?_
    rintro _ _ ⟨rfl, on, hokn, rfl⟩
    have e9 : L ++ slc s.data.toList 0 (min q N) ++ numB (num (slc s.data.toList (q : Int).toNat (k : Int).toNat) : Int).toNat (k : Int).toNat = L ++ slc s.data.toList 0 (min (q + 8) N) := by
      simp only [Int.toNat_natCast]; exact copy_step L s.data.toList q k N _ hlt (by omega) rfl
    rw [e9] at hokn ⊢
    refine arun_nil ?_
    refine ain_n ?_
    refine athen_n ?_
    refine AWP.sub [(0, _), (3, _), (4, _), (5, _), (12, _), (6, _)] ⟨rfl, rfl, rfl, rfl, rfl, rfl, trivial⟩ ?_
    refine AWP.region ?_
    refine ARun.calm rfl rfl (lit_lt rfl) (Calm.move rfl) ?_
    refine ARun.calm rfl rfl (lit_lt rfl) (Calm.bin rfl rfl (by first | exact bin_addW (IntWalk.i64_in _ (by omega)) | exact bin_add _ _)) ?_
    refine ARun.calm rfl rfl (lit_lt rfl) (Calm.assign rfl) ?_
    refine arun_nil ?_
    refine athen_n ?_
    refine ⟨(q + 8, on), ?_, ?_, ?_, ?_⟩
    all_goals (try dsimp only)
    · exact ⟨rfl, rfl, rfl, some_int (by omega), trivial⟩
    · exact Mem.Less.refl _
    · exact ⟨by omega, by omega, hokn⟩
    · omega
  · have hge : N ≤ q := by have := of_decide_eq_false hc; omega
    rw [Nat.min_eq_right hge, slc_upto] at hok2 ⊢
    refine AWP.exit ?_
    refine athen_exit ?_
    refine athen_exit ?_
    refine ain_same ?_
    refine ⟨_, wrM S p ov (L ++ upto s.data.toList N), rfl, wrM_more _ _ _ _ _ ((Mem.less_set _ _ _ q1.1).trans (Mem.less_set _ _ _ (by rw [Mem.own_set_other _ _ hne]; exact r1.1))), ?_⟩
    exact ⟨rfl, ov, hok2.unset.unset, rfl⟩
set_option maxHeartbeats 1000000 in
theorem bitsV_Bits (p : Nat) (L : List Bool) (o : Option (Nat × Nat)) (S : Mem) (hlen : L.length ≤ 1048576) (hok : OkW S p o L) :
    ACall Try.prog 51 #[.pointer (some ⟨p, 0, none⟩)] (wrM S p o L) fun r S' => r = .agg #[.string (bs (pack L)), .int .i64 (L.length : Nat)] ∧ S' = S := by
  refine ACall.enter (args := [.pointer (some ⟨p, 0, none⟩)]) (rs := [.cell 2 23]) 37 [(0, .pointer (some ⟨p, 0, none⟩))] Try.func51 rfl rfl (Nat.le_of_ble_eq_true rfl) rfl ⟨rfl, trivial⟩ ?_
  have hfp := hok.fp
  have hLen := bitsV_Len p L o S (by omega) hok
  have hq8 : L.length / 8 ≤ 200000 := by omega
  have hlb := lastI L
  refine AWP.seq ?_
  refine AWP.region ?_
  refine ARun.alloc (lit_lt rfl) ty_zero_23 ?_
  intro b2 f2
  have g2 := f2
  repeat ((with_reducible replace g2 := fresh_set g2); obtain ⟨g2, _⟩ := g2)
  (try simp only [List.length_cons, List.length_nil, Nat.zero_add, Nat.reduceAdd])
  refine arun_nil ?_
  refine athen_n ?_
  obtain ⟨q1, q2, q3⟩ := fresh_wrM g2
  have q2' := Ne.symm q2
  rcases o with _ | ⟨b, c⟩
  · have hM8 := hok.nil rfl
    simp only [wrM, outM, outV] at hLen ⊢
    refine AWP.seq ?_
    refine AWP.region ?_
    refine ARun.calm rfl rfl (lit_lt rfl) (Calm.move rfl) ?_
    refine ARun.calm rfl rfl (lit_lt rfl) (Calm.nilCheck rfl) ?_
    refine ARun.calm rfl rfl (lit_lt rfl) (Calm.fieldAddr ty_field_65_0 rfl) ?_
    refine ARun.calm rfl rfl (lit_lt rfl) (Calm.load ty_plain_63 rfl ((by (repeat ((with_reducible refine (rd_set_ne _ _ ?_).trans ?_); (first | assumption | (apply Ne.symm; assumption)))); (first | ((with_reducible refine (rd_set_same _ _ _ _).trans ?_); rfl) | ((with_reducible apply rd_own'); (with_reducible assumption); rfl) | with_reducible assumption)))) ?_
    refine ARun.calm rfl rfl (lit_lt rfl) (Calm.assign rfl) ?_
    refine arun_nil ?_
    refine athen_n ?_
    refine AWP.sub [(0, _), (2, _), (3, _)] ⟨rfl, rfl, rfl, trivial⟩ ?_
    refine AWP.seq ?_
    refine AWP.seq ?_
    refine AWP.region ?_
    refine ARun.calm rfl rfl (lit_lt rfl) (Calm.move rfl) ?_
    refine ARun.calm rfl rfl (lit_lt rfl) (Calm.nilCheck rfl) ?_
    refine ARun.calm rfl rfl (lit_lt rfl) (Calm.fieldAddr ty_field_65_2 rfl) ?_
    refine ARun.calm rfl rfl (lit_lt rfl) (Calm.load ty_plain_3 rfl ((by (repeat ((with_reducible refine (rd_set_ne _ _ ?_).trans ?_); (first | assumption | (apply Ne.symm; assumption)))); (first | ((with_reducible refine (rd_set_same _ _ _ _).trans ?_); rfl) | ((with_reducible apply rd_own'); (with_reducible assumption); rfl) | with_reducible assumption)))) ?_
    refine ARun.calm rfl rfl (lit_lt rfl) (Calm.bin rfl rfl (by first | exact bin_bool (bin_gtr _ _) (decide_eq_true (by omega)) | exact bin_bool (bin_gtr _ _) (decide_eq_false (by omega)) | exact bin_gtr _ _)) ?_
    refine arun_nil ?_
    refine athen_n ?_
    refine AWP.sub [(0, _), (2, _), (3, _), (12, _)] ⟨rfl, rfl, rfl, rfl, trivial⟩ ?_
    refine AWP.condB rfl (fun hc => ?_) (fun hc => ?_)
    · have hn : L.length % 8 ≠ 0 := by have := of_decide_eq_true hc; omega
      refine AWP.draw [(0, true), (1, true), (2, true), (3, true), (4, true), (5, true), (6, true), (7, true), (8, true), (9, true), (10, true), (11, true), (12, true), (13, true), (14, true), (15, true), (16, true), (17, false), (18, false), (19, true)] [18] mixed (by kernel_rfl) ?_
      refine draw_pure rfl rfl rfl rfl (lit_lt rfl) (fun _ => Calm.move rfl) ?_
      refine draw_pure rfl rfl rfl rfl (lit_lt rfl) (fun _ => Calm.move rfl) ?_
      refine draw_calm rfl rfl rfl (lit_lt rfl) ((by first | with_reducible exact Mem.Less.refl _ | ((with_reducible refine Mem.less_set _ _ _ (Fresh.own ?_)); with_reducible assumption) | (refine less_of ?_; (repeat first | with_reducible exact LessB.refl _ _ | ((with_reducible refine LessB.set ?_ ?_); ((repeat first | ((with_reducible refine (Mem.own_set_other _ _ ?_).trans ?_); (first | assumption | (apply Ne.symm; assumption))) | ((with_reducible refine (Mem.own_del_other _ ?_).trans ?_); (first | assumption | (apply Ne.symm; assumption)))); (first | with_reducible exact Mem.own_set_same _ _ _ | with_reducible assumption | exact Mem.own_set_same _ _ _))) | (with_reducible refine LessB.delL ?_)); (repeat first | with_reducible exact LessB.refl _ _ | ((with_reducible refine LessB.of ?_); with_reducible assumption) | ((with_reducible refine LessB.skip ?_ ?_); (first | ((refine .inl ?_); simp; done) | ((refine .inr (Fresh.own ?_)); with_reducible assumption) | ((refine .inr ?_); with_reducible assumption))) | ((with_reducible refine LessB.skipDel ?_ ?_); (first | ((refine .inl ?_); simp; done) | ((refine .inr (Fresh.own ?_)); with_reducible assumption) | ((refine .inr ?_); with_reducible assumption))))))) (fun S' hS' => by obtain rfl := hS'.resolve_left (by decide); exact Calm.lenSl Try.underlying63 rfl) ?_
      refine draw_pure rfl rfl rfl rfl (lit_lt rfl) (fun _ => Calm.move rfl) ?_
      refine draw_calm rfl rfl rfl (lit_lt rfl) ((by first | with_reducible exact Mem.Less.refl _ | ((with_reducible refine Mem.less_set _ _ _ (Fresh.own ?_)); with_reducible assumption) | (refine less_of ?_; (repeat first | with_reducible exact LessB.refl _ _ | ((with_reducible refine LessB.set ?_ ?_); ((repeat first | ((with_reducible refine (Mem.own_set_other _ _ ?_).trans ?_); (first | assumption | (apply Ne.symm; assumption))) | ((with_reducible refine (Mem.own_del_other _ ?_).trans ?_); (first | assumption | (apply Ne.symm; assumption)))); (first | with_reducible exact Mem.own_set_same _ _ _ | with_reducible assumption | exact Mem.own_set_same _ _ _))) | (with_reducible refine LessB.delL ?_)); (repeat first | with_reducible exact LessB.refl _ _ | ((with_reducible refine LessB.of ?_); with_reducible assumption) | ((with_reducible refine LessB.skip ?_ ?_); (first | ((refine .inl ?_); simp; done) | ((refine .inr (Fresh.own ?_)); with_reducible assumption) | ((refine .inr ?_); with_reducible assumption))) | ((with_reducible refine LessB.skipDel ?_ ?_); (first | ((refine .inl ?_); simp; done) | ((refine .inr (Fresh.own ?_)); with_reducible assumption) | ((refine .inr ?_); with_reducible assumption))))))) (fun S' hS' => by obtain rfl := hS'.resolve_left (by decide); exact Calm.lenSl Try.underlying63 rfl) ?_
      refine draw_pure rfl rfl rfl rfl (lit_lt rfl) (fun _ => (by first | exact Calm.sliceHead Try.underlying63 ty_size_5 rfl (bnd_some _ _ rfl (by omega) (by omega)) (fun _ => rfl) (bnd_some _ _ rfl (by omega) (by omega)) | exact Calm.sliceNil Try.underlying63 ty_size_5 rfl (bnd_zero _ _ rfl) (by simp) (bnd_zero _ _ rfl) (bnd_none _ _))) ?_
      refine draw_pure rfl rfl rfl rfl (lit_lt rfl) (fun _ => Calm.move rfl) ?_
      refine draw_pure rfl rfl rfl rfl (lit_lt rfl) (fun _ => Calm.nilCheck rfl) ?_
      refine draw_pure rfl rfl rfl rfl (lit_lt rfl) (fun _ => Calm.fieldAddr ty_field_65_1 rfl) ?_
      refine draw_calm rfl rfl rfl (lit_lt rfl) ((by first | with_reducible exact Mem.Less.refl _ | ((with_reducible refine Mem.less_set _ _ _ (Fresh.own ?_)); with_reducible assumption) | (refine less_of ?_; (repeat first | with_reducible exact LessB.refl _ _ | ((with_reducible refine LessB.set ?_ ?_); ((repeat first | ((with_reducible refine (Mem.own_set_other _ _ ?_).trans ?_); (first | assumption | (apply Ne.symm; assumption))) | ((with_reducible refine (Mem.own_del_other _ ?_).trans ?_); (first | assumption | (apply Ne.symm; assumption)))); (first | with_reducible exact Mem.own_set_same _ _ _ | with_reducible assumption | exact Mem.own_set_same _ _ _))) | (with_reducible refine LessB.delL ?_)); (repeat first | with_reducible exact LessB.refl _ _ | ((with_reducible refine LessB.of ?_); with_reducible assumption) | ((with_reducible refine LessB.skip ?_ ?_); (first | ((refine .inl ?_); simp; done) | ((refine .inr (Fresh.own ?_)); with_reducible assumption) | ((refine .inr ?_); with_reducible assumption))) | ((with_reducible refine LessB.skipDel ?_ ?_); (first | ((refine .inl ?_); simp; done) | ((refine .inr (Fresh.own ?_)); with_reducible assumption) | ((refine .inr ?_); with_reducible assumption))))))) (fun S' hS' => by obtain rfl := hS'.resolve_left (by decide); exact Calm.load ty_plain_24 rfl ((by (repeat ((with_reducible refine (rd_set_ne _ _ ?_).trans ?_); (first | assumption | (apply Ne.symm; assumption)))); (first | ((with_reducible refine (rd_set_same _ _ _ _).trans ?_); rfl) | ((with_reducible apply rd_own'); (with_reducible assumption); rfl) | with_reducible assumption)))) ?_
      refine draw_pure rfl rfl rfl rfl (lit_lt rfl) (fun _ => Calm.move rfl) ?_
      refine draw_pure rfl rfl rfl rfl (lit_lt rfl) (fun _ => Calm.nilCheck rfl) ?_
      refine draw_pure rfl rfl rfl rfl (lit_lt rfl) (fun _ => Calm.fieldAddr ty_field_65_2 rfl) ?_
      refine draw_calm rfl rfl rfl (lit_lt rfl) ((by first | with_reducible exact Mem.Less.refl _ | ((with_reducible refine Mem.less_set _ _ _ (Fresh.own ?_)); with_reducible assumption) | (refine less_of ?_; (repeat first | with_reducible exact LessB.refl _ _ | ((with_reducible refine LessB.set ?_ ?_); ((repeat first | ((with_reducible refine (Mem.own_set_other _ _ ?_).trans ?_); (first | assumption | (apply Ne.symm; assumption))) | ((with_reducible refine (Mem.own_del_other _ ?_).trans ?_); (first | assumption | (apply Ne.symm; assumption)))); (first | with_reducible exact Mem.own_set_same _ _ _ | with_reducible assumption | exact Mem.own_set_same _ _ _))) | (with_reducible refine LessB.delL ?_)); (repeat first | with_reducible exact LessB.refl _ _ | ((with_reducible refine LessB.of ?_); with_reducible assumption) | ((with_reducible refine LessB.skip ?_ ?_); (first | ((refine .inl ?_); simp; done) | ((refine .inr (Fresh.own ?_)); with_reducible assumption) | ((refine .inr ?_); with_reducible assumption))) | ((with_reducible refine LessB.skipDel ?_ ?_); (first | ((refine .inl ?_); simp; done) | ((refine .inr (Fresh.own ?_)); with_reducible assumption) | ((refine .inr ?_); with_reducible assumption))))))) (fun S' hS' => by obtain rfl := hS'.resolve_left (by decide); exact Calm.load ty_plain_3 rfl ((by (repeat ((with_reducible refine (rd_set_ne _ _ ?_).trans ?_); (first | assumption | (apply Ne.symm; assumption)))); (first | ((with_reducible refine (rd_set_same _ _ _ _).trans ?_); rfl) | ((with_reducible apply rd_own'); (with_reducible assumption); rfl) | with_reducible assumption)))) ?_
      refine draw_pure rfl rfl rfl rfl (lit_lt rfl) (fun _ => Calm.bin rfl rfl (by first | exact bin_subW (IntWalk.i64_in _ (by omega)) | exact bin_sub _ _)) ?_
      refine draw_pure rfl rfl rfl rfl (lit_lt rfl) (fun _ => Calm.bin rfl rfl (bin_shl (by omega) (by simp only [IntKind.bits]; omega))) ?_
      refine draw_calm rfl rfl rfl (lit_lt rfl) ((by first | with_reducible exact Mem.Less.refl _ | ((with_reducible refine Mem.less_set _ _ _ (Fresh.own ?_)); with_reducible assumption) | (refine less_of ?_; (repeat first | with_reducible exact LessB.refl _ _ | ((with_reducible refine LessB.set ?_ ?_); ((repeat first | ((with_reducible refine (Mem.own_set_other _ _ ?_).trans ?_); (first | assumption | (apply Ne.symm; assumption))) | ((with_reducible refine (Mem.own_del_other _ ?_).trans ?_); (first | assumption | (apply Ne.symm; assumption)))); (first | with_reducible exact Mem.own_set_same _ _ _ | with_reducible assumption | exact Mem.own_set_same _ _ _))) | (with_reducible refine LessB.delL ?_)); (repeat first | with_reducible exact LessB.refl _ _ | ((with_reducible refine LessB.of ?_); with_reducible assumption) | ((with_reducible refine LessB.skip ?_ ?_); (first | ((refine .inl ?_); simp; done) | ((refine .inr (Fresh.own ?_)); with_reducible assumption) | ((refine .inr ?_); with_reducible assumption))) | ((with_reducible refine LessB.skipDel ?_ ?_); (first | ((refine .inl ?_); simp; done) | ((refine .inr (Fresh.own ?_)); with_reducible assumption) | ((refine .inr ?_); with_reducible assumption))))))) (fun S' hS' => by obtain rfl := hS'.resolve_left (by decide); exact Calm.conv rfl (conv_intW Try.underlying24 Try.underlying5 hlb)) ?_
      refine draw_only rfl ?_
      refine ARun.build1s (lit_lt rfl) ty_sl_63 rfl rfl ?_
      intro b30 f30
      have g30 := f30
      repeat ((with_reducible replace g30 := fresh_set g30); obtain ⟨g30, _⟩ := g30)
      refine arun_nil ⟨fun _ => (by first | with_reducible exact Mem.Less.refl _ | ((with_reducible refine Mem.less_set _ _ _ (Fresh.own ?_)); with_reducible assumption) | (refine less_of ?_; (repeat first | with_reducible exact LessB.refl _ _ | ((with_reducible refine LessB.set ?_ ?_); ((repeat first | ((with_reducible refine (Mem.own_set_other _ _ ?_).trans ?_); (first | assumption | (apply Ne.symm; assumption))) | ((with_reducible refine (Mem.own_del_other _ ?_).trans ?_); (first | assumption | (apply Ne.symm; assumption)))); (first | with_reducible exact Mem.own_set_same _ _ _ | with_reducible assumption | exact Mem.own_set_same _ _ _))) | (with_reducible refine LessB.delL ?_)); (repeat first | with_reducible exact LessB.refl _ _ | ((with_reducible refine LessB.of ?_); with_reducible assumption) | ((with_reducible refine LessB.skip ?_ ?_); (first | ((refine .inl ?_); simp; done) | ((refine .inr (Fresh.own ?_)); with_reducible assumption) | ((refine .inr ?_); with_reducible assumption))) | ((with_reducible refine LessB.skipDel ?_ ?_); (first | ((refine .inl ?_); simp; done) | ((refine .inr (Fresh.own ?_)); with_reducible assumption) | ((refine .inr ?_); with_reducible assumption)))))), ?_⟩
      refine draw_only rfl ?_
      refine ARun.appendNil1 (lit_lt rfl) ty_sl_63 rfl rfl (news := [_]) ((by first | with_reducible assumption | ((repeat (apply rds_cons; ((repeat ((with_reducible refine (rd_set_ne _ _ ?_).trans ?_); (first | assumption | (apply Ne.symm; assumption)))); (first | ((with_reducible refine (rd_set_same _ _ _ _).trans ?_); rfl) | ((with_reducible apply rd_own'); (with_reducible assumption); rfl) | with_reducible assumption)))); exact rds_nil _ _))) rfl (by omega) (by omega) (by omega) ?_
      intro bn cn fbn hcn
      have gbn := fbn
      repeat ((with_reducible replace gbn := fresh_set gbn); obtain ⟨gbn, _⟩ := gbn)
      refine arun_nil ⟨fun h => absurd h (by decide), ?_⟩
      refine draw_pure rfl rfl rfl rfl (lit_lt rfl) (fun _ => Calm.assign rfl) ?_
      refine draw_nil ?_
      refine athen_n ?_
      refine AWP.sub [(0, _), (2, _), (3, _), (12, _)] ⟨rfl, rfl, rfl, rfl, trivial⟩ ?_
      have hbs : pack L = [lastB L] := pack_one L hM8 hn
      refine AWP.seq ?_
      refine AWP.draw [(0, true), (1, true), (2, true), (3, false), (4, true), (5, false)] [5] mixed (by kernel_rfl) ?_
      refine draw_pure rfl rfl rfl rfl (lit_lt rfl) (fun _ => Calm.move rfl) ?_
      refine draw_calm rfl rfl rfl (lit_lt rfl) ((by first | with_reducible exact Mem.Less.refl _ | ((with_reducible refine Mem.less_set _ _ _ (Fresh.own ?_)); with_reducible assumption) | (refine less_of ?_; (repeat first | with_reducible exact LessB.refl _ _ | ((with_reducible refine LessB.set ?_ ?_); ((repeat first | ((with_reducible refine (Mem.own_set_other _ _ ?_).trans ?_); (first | assumption | (apply Ne.symm; assumption))) | ((with_reducible refine (Mem.own_del_other _ ?_).trans ?_); (first | assumption | (apply Ne.symm; assumption)))); (first | with_reducible exact Mem.own_set_same _ _ _ | with_reducible assumption | exact Mem.own_set_same _ _ _))) | (with_reducible refine LessB.delL ?_)); (repeat first | with_reducible exact LessB.refl _ _ | ((with_reducible refine LessB.of ?_); with_reducible assumption) | ((with_reducible refine LessB.skip ?_ ?_); (first | ((refine .inl ?_); simp; done) | ((refine .inr (Fresh.own ?_)); with_reducible assumption) | ((refine .inr ?_); with_reducible assumption))) | ((with_reducible refine LessB.skipDel ?_ ?_); (first | ((refine .inl ?_); simp; done) | ((refine .inr (Fresh.own ?_)); with_reducible assumption) | ((refine .inr ?_); with_reducible assumption))))))) (fun S' hS' => by obtain rfl := hS'.resolve_left (by decide); exact Calm.toStr ty_bytes_63 ty_str_9 rfl (l := [lastB L]) rfl ((by first | with_reducible assumption | ((repeat (apply rds_cons; ((repeat ((with_reducible refine (rd_set_ne _ _ ?_).trans ?_); (first | assumption | (apply Ne.symm; assumption)))); (first | ((with_reducible refine (rd_set_same _ _ _ _).trans ?_); rfl) | ((with_reducible apply rd_own'); (with_reducible assumption); rfl) | with_reducible assumption)))); exact rds_nil _ _)))) ?_
      refine draw_pure rfl rfl rfl rfl (lit_lt rfl) (fun _ => Calm.move rfl) ?_
      refine draw_only rfl ?_
      refine ARun.call (lit_lt rfl) go_56 rfl (ACall.pure_more ((by first | with_reducible exact Mem.Less.refl _ | ((with_reducible refine Mem.less_set _ _ _ (Fresh.own ?_)); with_reducible assumption) | (refine less_of ?_; (repeat first | with_reducible exact LessB.refl _ _ | ((with_reducible refine LessB.set ?_ ?_); ((repeat first | ((with_reducible refine (Mem.own_set_other _ _ ?_).trans ?_); (first | assumption | (apply Ne.symm; assumption))) | ((with_reducible refine (Mem.own_del_other _ ?_).trans ?_); (first | assumption | (apply Ne.symm; assumption)))); (first | with_reducible exact Mem.own_set_same _ _ _ | with_reducible assumption | exact Mem.own_set_same _ _ _))) | (with_reducible refine LessB.delL ?_)); (repeat first | with_reducible exact LessB.refl _ _ | ((with_reducible refine LessB.of ?_); with_reducible assumption) | ((with_reducible refine LessB.skip ?_ ?_); (first | ((refine .inl ?_); simp; done) | ((refine .inr (Fresh.own ?_)); with_reducible assumption) | ((refine .inr ?_); with_reducible assumption))) | ((with_reducible refine LessB.skipDel ?_ ?_); (first | ((refine .inl ?_); simp; done) | ((refine .inr (Fresh.own ?_)); with_reducible assumption) | ((refine .inr ?_); with_reducible assumption))))))) hLen) ?_
      rintro _ _ ⟨rfl, rfl⟩
      refine arun_nil ⟨fun _ => (by first | with_reducible exact Mem.Less.refl _ | ((with_reducible refine Mem.less_set _ _ _ (Fresh.own ?_)); with_reducible assumption) | (refine less_of ?_; (repeat first | with_reducible exact LessB.refl _ _ | ((with_reducible refine LessB.set ?_ ?_); ((repeat first | ((with_reducible refine (Mem.own_set_other _ _ ?_).trans ?_); (first | assumption | (apply Ne.symm; assumption))) | ((with_reducible refine (Mem.own_del_other _ ?_).trans ?_); (first | assumption | (apply Ne.symm; assumption)))); (first | with_reducible exact Mem.own_set_same _ _ _ | with_reducible assumption | exact Mem.own_set_same _ _ _))) | (with_reducible refine LessB.delL ?_)); (repeat first | with_reducible exact LessB.refl _ _ | ((with_reducible refine LessB.of ?_); with_reducible assumption) | ((with_reducible refine LessB.skip ?_ ?_); (first | ((refine .inl ?_); simp; done) | ((refine .inr (Fresh.own ?_)); with_reducible assumption) | ((refine .inr ?_); with_reducible assumption))) | ((with_reducible refine LessB.skipDel ?_ ?_); (first | ((refine .inl ?_); simp; done) | ((refine .inr (Fresh.own ?_)); with_reducible assumption) | ((refine .inr ?_); with_reducible assumption)))))), ?_⟩
      refine draw_pure rfl rfl rfl rfl (lit_lt rfl) (fun _ => Calm.build (cs := [_, _]) ty_bld_23 rfl rfl) ?_
      refine draw_only rfl ?_
      first | refine ARun.storeAll rfl rfl ty_size_23 ((by (repeat first | ((with_reducible refine (Mem.own_set_other _ _ ?_).trans ?_); (first | assumption | (apply Ne.symm; assumption))) | ((with_reducible refine (Mem.own_del_other _ ?_).trans ?_); (first | assumption | (apply Ne.symm; assumption)))); (first | with_reducible exact Mem.own_set_same _ _ _ | with_reducible assumption | exact Mem.own_set_same _ _ _))) rfl rfl ?_ | refine ARun.store rfl rfl ty_size_23 ((by (repeat first | ((with_reducible refine (Mem.own_set_other _ _ ?_).trans ?_); (first | assumption | (apply Ne.symm; assumption))) | ((with_reducible refine (Mem.own_del_other _ ?_).trans ?_); (first | assumption | (apply Ne.symm; assumption)))); (first | with_reducible exact Mem.own_set_same _ _ _ | with_reducible assumption | exact Mem.own_set_same _ _ _))) ((by first | decide | (simp; done) | (simp; omega) | omega)) rfl ?_
      (try simp only [Mem.set_set, List.set_cons_zero, List.set_cons_succ, Nat.zero_add, Nat.reduceAdd])
      refine arun_nil ⟨fun h => absurd h (by decide), ?_⟩
      refine draw_nil ?_
      refine athen_n ?_
      refine AWP.sub [(0, _), (2, _), (3, _), (12, _)] ⟨rfl, rfl, rfl, rfl, trivial⟩ ?_
      refine AWP.ret ?_
      refine ⟨_, S, ⟨_, _, _, rfl, .inr ⟨ty_agg_23, [_, _], ty_size_23, (by first | with_reducible assumption | ((repeat (apply rds_cons; ((repeat ((with_reducible refine (rd_set_ne _ _ ?_).trans ?_); (first | assumption | (apply Ne.symm; assumption)))); (first | ((with_reducible refine (rd_set_same _ _ _ _).trans ?_); rfl) | ((with_reducible apply rd_own'); (with_reducible assumption); rfl) | with_reducible assumption)))); exact rds_nil _ _)), rfl⟩, rfl, rfl⟩, (by first | with_reducible exact Mem.Less.refl _ | ((with_reducible refine Mem.less_set _ _ _ (Fresh.own ?_)); with_reducible assumption) | (refine less_of ?_; (repeat first | with_reducible exact LessB.refl _ _ | ((with_reducible refine LessB.set ?_ ?_); ((repeat first | ((with_reducible refine (Mem.own_set_other _ _ ?_).trans ?_); (first | assumption | (apply Ne.symm; assumption))) | ((with_reducible refine (Mem.own_del_other _ ?_).trans ?_); (first | assumption | (apply Ne.symm; assumption)))); (first | with_reducible exact Mem.own_set_same _ _ _ | with_reducible assumption | exact Mem.own_set_same _ _ _))) | (with_reducible refine LessB.delL ?_)); (repeat first | with_reducible exact LessB.refl _ _ | ((with_reducible refine LessB.of ?_); with_reducible assumption) | ((with_reducible refine LessB.skip ?_ ?_); (first | ((refine .inl ?_); simp; done) | ((refine .inr (Fresh.own ?_)); with_reducible assumption) | ((refine .inr ?_); with_reducible assumption))) | ((with_reducible refine LessB.skipDel ?_ ?_); (first | ((refine .inl ?_); simp; done) | ((refine .inr (Fresh.own ?_)); with_reducible assumption) | ((refine .inr ?_); with_reducible assumption)))))), ?_⟩
      exact ⟨by rw [hbs]; rfl, rfl⟩
    · have hn : L = [] := List.eq_nil_of_length_eq_zero (by have := of_decide_eq_false hc; omega)
      refine AWP.skip ?_
      refine athen_n ?_
      refine AWP.seq ?_
      refine AWP.draw [(0, true), (1, true), (2, true), (3, false), (4, true), (5, false)] [5] mixed (by kernel_rfl) ?_
      refine draw_pure rfl rfl rfl rfl (lit_lt rfl) (fun _ => Calm.move rfl) ?_
      refine draw_calm rfl rfl rfl (lit_lt rfl) ((by first | with_reducible exact Mem.Less.refl _ | ((with_reducible refine Mem.less_set _ _ _ (Fresh.own ?_)); with_reducible assumption) | (refine less_of ?_; (repeat first | with_reducible exact LessB.refl _ _ | ((with_reducible refine LessB.set ?_ ?_); ((repeat first | ((with_reducible refine (Mem.own_set_other _ _ ?_).trans ?_); (first | assumption | (apply Ne.symm; assumption))) | ((with_reducible refine (Mem.own_del_other _ ?_).trans ?_); (first | assumption | (apply Ne.symm; assumption)))); (first | with_reducible exact Mem.own_set_same _ _ _ | with_reducible assumption | exact Mem.own_set_same _ _ _))) | (with_reducible refine LessB.delL ?_)); (repeat first | with_reducible exact LessB.refl _ _ | ((with_reducible refine LessB.of ?_); with_reducible assumption) | ((with_reducible refine LessB.skip ?_ ?_); (first | ((refine .inl ?_); simp; done) | ((refine .inr (Fresh.own ?_)); with_reducible assumption) | ((refine .inr ?_); with_reducible assumption))) | ((with_reducible refine LessB.skipDel ?_ ?_); (first | ((refine .inl ?_); simp; done) | ((refine .inr (Fresh.own ?_)); with_reducible assumption) | ((refine .inr ?_); with_reducible assumption))))))) (fun S' hS' => by obtain rfl := hS'.resolve_left (by decide); exact (by first | exact Calm.toStr ty_bytes_63 ty_str_9 rfl ((by first | decide | (simp; done) | (simp; omega) | omega)) ((by first | with_reducible assumption | ((repeat (apply rds_cons; ((repeat ((with_reducible refine (rd_set_ne _ _ ?_).trans ?_); (first | assumption | (apply Ne.symm; assumption)))); (first | ((with_reducible refine (rd_set_same _ _ _ _).trans ?_); rfl) | ((with_reducible apply rd_own'); (with_reducible assumption); rfl) | with_reducible assumption)))); exact rds_nil _ _))) | exact Calm.toStrNil ty_bytes_63 ty_str_9 rfl)) ?_
      refine draw_pure rfl rfl rfl rfl (lit_lt rfl) (fun _ => Calm.move rfl) ?_
      refine draw_only rfl ?_
      refine ARun.call (lit_lt rfl) go_56 rfl (ACall.pure_more ((by first | with_reducible exact Mem.Less.refl _ | ((with_reducible refine Mem.less_set _ _ _ (Fresh.own ?_)); with_reducible assumption) | (refine less_of ?_; (repeat first | with_reducible exact LessB.refl _ _ | ((with_reducible refine LessB.set ?_ ?_); ((repeat first | ((with_reducible refine (Mem.own_set_other _ _ ?_).trans ?_); (first | assumption | (apply Ne.symm; assumption))) | ((with_reducible refine (Mem.own_del_other _ ?_).trans ?_); (first | assumption | (apply Ne.symm; assumption)))); (first | with_reducible exact Mem.own_set_same _ _ _ | with_reducible assumption | exact Mem.own_set_same _ _ _))) | (with_reducible refine LessB.delL ?_)); (repeat first | with_reducible exact LessB.refl _ _ | ((with_reducible refine LessB.of ?_); with_reducible assumption) | ((with_reducible refine LessB.skip ?_ ?_); (first | ((refine .inl ?_); simp; done) | ((refine .inr (Fresh.own ?_)); with_reducible assumption) | ((refine .inr ?_); with_reducible assumption))) | ((with_reducible refine LessB.skipDel ?_ ?_); (first | ((refine .inl ?_); simp; done) | ((refine .inr (Fresh.own ?_)); with_reducible assumption) | ((refine .inr ?_); with_reducible assumption))))))) hLen) ?_
      rintro _ _ ⟨rfl, rfl⟩
      refine arun_nil ⟨fun _ => (by first | with_reducible exact Mem.Less.refl _ | ((with_reducible refine Mem.less_set _ _ _ (Fresh.own ?_)); with_reducible assumption) | (refine less_of ?_; (repeat first | with_reducible exact LessB.refl _ _ | ((with_reducible refine LessB.set ?_ ?_); ((repeat first | ((with_reducible refine (Mem.own_set_other _ _ ?_).trans ?_); (first | assumption | (apply Ne.symm; assumption))) | ((with_reducible refine (Mem.own_del_other _ ?_).trans ?_); (first | assumption | (apply Ne.symm; assumption)))); (first | with_reducible exact Mem.own_set_same _ _ _ | with_reducible assumption | exact Mem.own_set_same _ _ _))) | (with_reducible refine LessB.delL ?_)); (repeat first | with_reducible exact LessB.refl _ _ | ((with_reducible refine LessB.of ?_); with_reducible assumption) | ((with_reducible refine LessB.skip ?_ ?_); (first | ((refine .inl ?_); simp; done) | ((refine .inr (Fresh.own ?_)); with_reducible assumption) | ((refine .inr ?_); with_reducible assumption))) | ((with_reducible refine LessB.skipDel ?_ ?_); (first | ((refine .inl ?_); simp; done) | ((refine .inr (Fresh.own ?_)); with_reducible assumption) | ((refine .inr ?_); with_reducible assumption)))))), ?_⟩
      refine draw_pure rfl rfl rfl rfl (lit_lt rfl) (fun _ => Calm.build (cs := [_, _]) ty_bld_23 rfl rfl) ?_
      refine draw_only rfl ?_
      first | refine ARun.storeAll rfl rfl ty_size_23 ((by (repeat first | ((with_reducible refine (Mem.own_set_other _ _ ?_).trans ?_); (first | assumption | (apply Ne.symm; assumption))) | ((with_reducible refine (Mem.own_del_other _ ?_).trans ?_); (first | assumption | (apply Ne.symm; assumption)))); (first | with_reducible exact Mem.own_set_same _ _ _ | with_reducible assumption | exact Mem.own_set_same _ _ _))) rfl rfl ?_ | refine ARun.store rfl rfl ty_size_23 ((by (repeat first | ((with_reducible refine (Mem.own_set_other _ _ ?_).trans ?_); (first | assumption | (apply Ne.symm; assumption))) | ((with_reducible refine (Mem.own_del_other _ ?_).trans ?_); (first | assumption | (apply Ne.symm; assumption)))); (first | with_reducible exact Mem.own_set_same _ _ _ | with_reducible assumption | exact Mem.own_set_same _ _ _))) ((by first | decide | (simp; done) | (simp; omega) | omega)) rfl ?_
      (try simp only [Mem.set_set, List.set_cons_zero, List.set_cons_succ, Nat.zero_add, Nat.reduceAdd])
      refine arun_nil ⟨fun h => absurd h (by decide), ?_⟩
      refine draw_nil ?_
      refine athen_n ?_
      refine AWP.sub [(0, _), (2, _), (3, _), (12, _)] ⟨rfl, rfl, rfl, rfl, trivial⟩ ?_
      refine AWP.ret ?_
      refine ⟨_, S, ⟨_, _, _, rfl, .inr ⟨ty_agg_23, [_, _], ty_size_23, (by first | with_reducible assumption | ((repeat (apply rds_cons; ((repeat ((with_reducible refine (rd_set_ne _ _ ?_).trans ?_); (first | assumption | (apply Ne.symm; assumption)))); (first | ((with_reducible refine (rd_set_same _ _ _ _).trans ?_); rfl) | ((with_reducible apply rd_own'); (with_reducible assumption); rfl) | with_reducible assumption)))); exact rds_nil _ _)), rfl⟩, rfl, rfl⟩, (by first | with_reducible exact Mem.Less.refl _ | ((with_reducible refine Mem.less_set _ _ _ (Fresh.own ?_)); with_reducible assumption) | (refine less_of ?_; (repeat first | with_reducible exact LessB.refl _ _ | ((with_reducible refine LessB.set ?_ ?_); ((repeat first | ((with_reducible refine (Mem.own_set_other _ _ ?_).trans ?_); (first | assumption | (apply Ne.symm; assumption))) | ((with_reducible refine (Mem.own_del_other _ ?_).trans ?_); (first | assumption | (apply Ne.symm; assumption)))); (first | with_reducible exact Mem.own_set_same _ _ _ | with_reducible assumption | exact Mem.own_set_same _ _ _))) | (with_reducible refine LessB.delL ?_)); (repeat first | with_reducible exact LessB.refl _ _ | ((with_reducible refine LessB.of ?_); with_reducible assumption) | ((with_reducible refine LessB.skip ?_ ?_); (first | ((refine .inl ?_); simp; done) | ((refine .inr (Fresh.own ?_)); with_reducible assumption) | ((refine .inr ?_); with_reducible assumption))) | ((with_reducible refine LessB.skipDel ?_ ?_); (first | ((refine .inl ?_); simp; done) | ((refine .inr (Fresh.own ?_)); with_reducible assumption) | ((refine .inr ?_); with_reducible assumption)))))), ?_⟩
      exact ⟨by rw [hn]; rfl, rfl⟩
  · simp only [wrM, outM, outV] at hLen ⊢
    obtain ⟨ho1, ho2, ho3⟩ := hok.own b c rfl
    have hb2 := q3 b c rfl
    refine AWP.seq ?_
    refine AWP.region ?_
    refine ARun.calm rfl rfl (lit_lt rfl) (Calm.move rfl) ?_
    refine ARun.calm rfl rfl (lit_lt rfl) (Calm.nilCheck rfl) ?_
    refine ARun.calm rfl rfl (lit_lt rfl) (Calm.fieldAddr ty_field_65_0 rfl) ?_
    refine ARun.calm rfl rfl (lit_lt rfl) (Calm.load ty_plain_63 rfl ((by (repeat ((with_reducible refine (rd_set_ne _ _ ?_).trans ?_); (first | assumption | (apply Ne.symm; assumption)))); (first | ((with_reducible refine (rd_set_same _ _ _ _).trans ?_); rfl) | ((with_reducible apply rd_own'); (with_reducible assumption); rfl) | with_reducible assumption)))) ?_
    refine ARun.calm rfl rfl (lit_lt rfl) (Calm.assign rfl) ?_
    refine arun_nil ?_
    refine athen_n ?_
    refine AWP.sub [(0, _), (2, _), (3, _)] ⟨rfl, rfl, rfl, trivial⟩ ?_
    refine AWP.seq ?_
    refine AWP.seq ?_
    refine AWP.region ?_
    refine ARun.calm rfl rfl (lit_lt rfl) (Calm.move rfl) ?_
    refine ARun.calm rfl rfl (lit_lt rfl) (Calm.nilCheck rfl) ?_
    refine ARun.calm rfl rfl (lit_lt rfl) (Calm.fieldAddr ty_field_65_2 rfl) ?_
    refine ARun.calm rfl rfl (lit_lt rfl) (Calm.load ty_plain_3 rfl ((by (repeat ((with_reducible refine (rd_set_ne _ _ ?_).trans ?_); (first | assumption | (apply Ne.symm; assumption)))); (first | ((with_reducible refine (rd_set_same _ _ _ _).trans ?_); rfl) | ((with_reducible apply rd_own'); (with_reducible assumption); rfl) | with_reducible assumption)))) ?_
    refine ARun.calm rfl rfl (lit_lt rfl) (Calm.bin rfl rfl (by first | exact bin_bool (bin_gtr _ _) (decide_eq_true (by omega)) | exact bin_bool (bin_gtr _ _) (decide_eq_false (by omega)) | exact bin_gtr _ _)) ?_
    refine arun_nil ?_
    refine athen_n ?_
    refine AWP.sub [(0, _), (2, _), (3, _), (12, _)] ⟨rfl, rfl, rfl, rfl, trivial⟩ ?_
    refine AWP.condB rfl (fun hc => ?_) (fun hc => ?_)
    · have hn : L.length % 8 ≠ 0 := by have := of_decide_eq_true hc; omega
      refine AWP.draw [(0, true), (1, true), (2, true), (3, true), (4, true), (5, true), (6, true), (7, true), (8, true), (9, true), (10, true), (11, true), (12, true), (13, true), (14, true), (15, true), (16, true), (17, false), (18, false), (19, true)] [18] mixed (by kernel_rfl) ?_
      refine draw_pure rfl rfl rfl rfl (lit_lt rfl) (fun _ => Calm.move rfl) ?_
      refine draw_pure rfl rfl rfl rfl (lit_lt rfl) (fun _ => Calm.move rfl) ?_
      refine draw_calm rfl rfl rfl (lit_lt rfl) ((by first | with_reducible exact Mem.Less.refl _ | ((with_reducible refine Mem.less_set _ _ _ (Fresh.own ?_)); with_reducible assumption) | (refine less_of ?_; (repeat first | with_reducible exact LessB.refl _ _ | ((with_reducible refine LessB.set ?_ ?_); ((repeat first | ((with_reducible refine (Mem.own_set_other _ _ ?_).trans ?_); (first | assumption | (apply Ne.symm; assumption))) | ((with_reducible refine (Mem.own_del_other _ ?_).trans ?_); (first | assumption | (apply Ne.symm; assumption)))); (first | with_reducible exact Mem.own_set_same _ _ _ | with_reducible assumption | exact Mem.own_set_same _ _ _))) | (with_reducible refine LessB.delL ?_)); (repeat first | with_reducible exact LessB.refl _ _ | ((with_reducible refine LessB.of ?_); with_reducible assumption) | ((with_reducible refine LessB.skip ?_ ?_); (first | ((refine .inl ?_); simp; done) | ((refine .inr (Fresh.own ?_)); with_reducible assumption) | ((refine .inr ?_); with_reducible assumption))) | ((with_reducible refine LessB.skipDel ?_ ?_); (first | ((refine .inl ?_); simp; done) | ((refine .inr (Fresh.own ?_)); with_reducible assumption) | ((refine .inr ?_); with_reducible assumption))))))) (fun S' hS' => by obtain rfl := hS'.resolve_left (by decide); exact Calm.lenSl Try.underlying63 rfl) ?_
      refine draw_pure rfl rfl rfl rfl (lit_lt rfl) (fun _ => Calm.move rfl) ?_
      refine draw_calm rfl rfl rfl (lit_lt rfl) ((by first | with_reducible exact Mem.Less.refl _ | ((with_reducible refine Mem.less_set _ _ _ (Fresh.own ?_)); with_reducible assumption) | (refine less_of ?_; (repeat first | with_reducible exact LessB.refl _ _ | ((with_reducible refine LessB.set ?_ ?_); ((repeat first | ((with_reducible refine (Mem.own_set_other _ _ ?_).trans ?_); (first | assumption | (apply Ne.symm; assumption))) | ((with_reducible refine (Mem.own_del_other _ ?_).trans ?_); (first | assumption | (apply Ne.symm; assumption)))); (first | with_reducible exact Mem.own_set_same _ _ _ | with_reducible assumption | exact Mem.own_set_same _ _ _))) | (with_reducible refine LessB.delL ?_)); (repeat first | with_reducible exact LessB.refl _ _ | ((with_reducible refine LessB.of ?_); with_reducible assumption) | ((with_reducible refine LessB.skip ?_ ?_); (first | ((refine .inl ?_); simp; done) | ((refine .inr (Fresh.own ?_)); with_reducible assumption) | ((refine .inr ?_); with_reducible assumption))) | ((with_reducible refine LessB.skipDel ?_ ?_); (first | ((refine .inl ?_); simp; done) | ((refine .inr (Fresh.own ?_)); with_reducible assumption) | ((refine .inr ?_); with_reducible assumption))))))) (fun S' hS' => by obtain rfl := hS'.resolve_left (by decide); exact Calm.lenSl Try.underlying63 rfl) ?_
      refine draw_pure rfl rfl rfl rfl (lit_lt rfl) (fun _ => (by first | exact Calm.sliceHead Try.underlying63 ty_size_5 rfl (bnd_some _ _ rfl (by omega) (by omega)) (fun _ => rfl) (bnd_some _ _ rfl (by omega) (by omega)) | exact Calm.sliceNil Try.underlying63 ty_size_5 rfl (bnd_zero _ _ rfl) (by simp) (bnd_zero _ _ rfl) (bnd_none _ _))) ?_
      refine draw_pure rfl rfl rfl rfl (lit_lt rfl) (fun _ => Calm.move rfl) ?_
      refine draw_pure rfl rfl rfl rfl (lit_lt rfl) (fun _ => Calm.nilCheck rfl) ?_
      refine draw_pure rfl rfl rfl rfl (lit_lt rfl) (fun _ => Calm.fieldAddr ty_field_65_1 rfl) ?_
      refine draw_calm rfl rfl rfl (lit_lt rfl) ((by first | with_reducible exact Mem.Less.refl _ | ((with_reducible refine Mem.less_set _ _ _ (Fresh.own ?_)); with_reducible assumption) | (refine less_of ?_; (repeat first | with_reducible exact LessB.refl _ _ | ((with_reducible refine LessB.set ?_ ?_); ((repeat first | ((with_reducible refine (Mem.own_set_other _ _ ?_).trans ?_); (first | assumption | (apply Ne.symm; assumption))) | ((with_reducible refine (Mem.own_del_other _ ?_).trans ?_); (first | assumption | (apply Ne.symm; assumption)))); (first | with_reducible exact Mem.own_set_same _ _ _ | with_reducible assumption | exact Mem.own_set_same _ _ _))) | (with_reducible refine LessB.delL ?_)); (repeat first | with_reducible exact LessB.refl _ _ | ((with_reducible refine LessB.of ?_); with_reducible assumption) | ((with_reducible refine LessB.skip ?_ ?_); (first | ((refine .inl ?_); simp; done) | ((refine .inr (Fresh.own ?_)); with_reducible assumption) | ((refine .inr ?_); with_reducible assumption))) | ((with_reducible refine LessB.skipDel ?_ ?_); (first | ((refine .inl ?_); simp; done) | ((refine .inr (Fresh.own ?_)); with_reducible assumption) | ((refine .inr ?_); with_reducible assumption))))))) (fun S' hS' => by obtain rfl := hS'.resolve_left (by decide); exact Calm.load ty_plain_24 rfl ((by (repeat ((with_reducible refine (rd_set_ne _ _ ?_).trans ?_); (first | assumption | (apply Ne.symm; assumption)))); (first | ((with_reducible refine (rd_set_same _ _ _ _).trans ?_); rfl) | ((with_reducible apply rd_own'); (with_reducible assumption); rfl) | with_reducible assumption)))) ?_
      refine draw_pure rfl rfl rfl rfl (lit_lt rfl) (fun _ => Calm.move rfl) ?_
      refine draw_pure rfl rfl rfl rfl (lit_lt rfl) (fun _ => Calm.nilCheck rfl) ?_
      refine draw_pure rfl rfl rfl rfl (lit_lt rfl) (fun _ => Calm.fieldAddr ty_field_65_2 rfl) ?_
      refine draw_calm rfl rfl rfl (lit_lt rfl) ((by first | with_reducible exact Mem.Less.refl _ | ((with_reducible refine Mem.less_set _ _ _ (Fresh.own ?_)); with_reducible assumption) | (refine less_of ?_; (repeat first | with_reducible exact LessB.refl _ _ | ((with_reducible refine LessB.set ?_ ?_); ((repeat first | ((with_reducible refine (Mem.own_set_other _ _ ?_).trans ?_); (first | assumption | (apply Ne.symm; assumption))) | ((with_reducible refine (Mem.own_del_other _ ?_).trans ?_); (first | assumption | (apply Ne.symm; assumption)))); (first | with_reducible exact Mem.own_set_same _ _ _ | with_reducible assumption | exact Mem.own_set_same _ _ _))) | (with_reducible refine LessB.delL ?_)); (repeat first | with_reducible exact LessB.refl _ _ | ((with_reducible refine LessB.of ?_); with_reducible assumption) | ((with_reducible refine LessB.skip ?_ ?_); (first | ((refine .inl ?_); simp; done) | ((refine .inr (Fresh.own ?_)); with_reducible assumption) | ((refine .inr ?_); with_reducible assumption))) | ((with_reducible refine LessB.skipDel ?_ ?_); (first | ((refine .inl ?_); simp; done) | ((refine .inr (Fresh.own ?_)); with_reducible assumption) | ((refine .inr ?_); with_reducible assumption))))))) (fun S' hS' => by obtain rfl := hS'.resolve_left (by decide); exact Calm.load ty_plain_3 rfl ((by (repeat ((with_reducible refine (rd_set_ne _ _ ?_).trans ?_); (first | assumption | (apply Ne.symm; assumption)))); (first | ((with_reducible refine (rd_set_same _ _ _ _).trans ?_); rfl) | ((with_reducible apply rd_own'); (with_reducible assumption); rfl) | with_reducible assumption)))) ?_
      refine draw_pure rfl rfl rfl rfl (lit_lt rfl) (fun _ => Calm.bin rfl rfl (by first | exact bin_subW (IntWalk.i64_in _ (by omega)) | exact bin_sub _ _)) ?_
      refine draw_pure rfl rfl rfl rfl (lit_lt rfl) (fun _ => Calm.bin rfl rfl (bin_shl (by omega) (by simp only [IntKind.bits]; omega))) ?_
      refine draw_calm rfl rfl rfl (lit_lt rfl) ((by first | with_reducible exact Mem.Less.refl _ | ((with_reducible refine Mem.less_set _ _ _ (Fresh.own ?_)); with_reducible assumption) | (refine less_of ?_; (repeat first | with_reducible exact LessB.refl _ _ | ((with_reducible refine LessB.set ?_ ?_); ((repeat first | ((with_reducible refine (Mem.own_set_other _ _ ?_).trans ?_); (first | assumption | (apply Ne.symm; assumption))) | ((with_reducible refine (Mem.own_del_other _ ?_).trans ?_); (first | assumption | (apply Ne.symm; assumption)))); (first | with_reducible exact Mem.own_set_same _ _ _ | with_reducible assumption | exact Mem.own_set_same _ _ _))) | (with_reducible refine LessB.delL ?_)); (repeat first | with_reducible exact LessB.refl _ _ | ((with_reducible refine LessB.of ?_); with_reducible assumption) | ((with_reducible refine LessB.skip ?_ ?_); (first | ((refine .inl ?_); simp; done) | ((refine .inr (Fresh.own ?_)); with_reducible assumption) | ((refine .inr ?_); with_reducible assumption))) | ((with_reducible refine LessB.skipDel ?_ ?_); (first | ((refine .inl ?_); simp; done) | ((refine .inr (Fresh.own ?_)); with_reducible assumption) | ((refine .inr ?_); with_reducible assumption))))))) (fun S' hS' => by obtain rfl := hS'.resolve_left (by decide); exact Calm.conv rfl (conv_intW Try.underlying24 Try.underlying5 hlb)) ?_
      refine draw_only rfl ?_
      refine ARun.build1s (lit_lt rfl) ty_sl_63 rfl rfl ?_
      intro b30 f30
      have g30 := f30
      repeat ((with_reducible replace g30 := fresh_set g30); obtain ⟨g30, _⟩ := g30)
      refine arun_nil ⟨fun _ => (by first | with_reducible exact Mem.Less.refl _ | ((with_reducible refine Mem.less_set _ _ _ (Fresh.own ?_)); with_reducible assumption) | (refine less_of ?_; (repeat first | with_reducible exact LessB.refl _ _ | ((with_reducible refine LessB.set ?_ ?_); ((repeat first | ((with_reducible refine (Mem.own_set_other _ _ ?_).trans ?_); (first | assumption | (apply Ne.symm; assumption))) | ((with_reducible refine (Mem.own_del_other _ ?_).trans ?_); (first | assumption | (apply Ne.symm; assumption)))); (first | with_reducible exact Mem.own_set_same _ _ _ | with_reducible assumption | exact Mem.own_set_same _ _ _))) | (with_reducible refine LessB.delL ?_)); (repeat first | with_reducible exact LessB.refl _ _ | ((with_reducible refine LessB.of ?_); with_reducible assumption) | ((with_reducible refine LessB.skip ?_ ?_); (first | ((refine .inl ?_); simp; done) | ((refine .inr (Fresh.own ?_)); with_reducible assumption) | ((refine .inr ?_); with_reducible assumption))) | ((with_reducible refine LessB.skipDel ?_ ?_); (first | ((refine .inl ?_); simp; done) | ((refine .inr (Fresh.own ?_)); with_reducible assumption) | ((refine .inr ?_); with_reducible assumption)))))), ?_⟩
      refine draw_only rfl ?_
      refine ARun.appendCopy1 (lit_lt rfl) ty_sl_63 rfl (xs := bytesV L) (rds_own' ((by (repeat first | ((with_reducible refine (Mem.own_set_other _ _ ?_).trans ?_); (first | assumption | (apply Ne.symm; assumption))) | ((with_reducible refine (Mem.own_del_other _ ?_).trans ?_); (first | assumption | (apply Ne.symm; assumption)))); (first | with_reducible exact Mem.own_set_same _ _ _ | with_reducible assumption | exact Mem.own_set_same _ _ _))) rfl) (bytesV_length L) rfl (news := [_]) ((by first | with_reducible assumption | ((repeat (apply rds_cons; ((repeat ((with_reducible refine (rd_set_ne _ _ ?_).trans ?_); (first | assumption | (apply Ne.symm; assumption)))); (first | ((with_reducible refine (rd_set_same _ _ _ _).trans ?_); rfl) | ((with_reducible apply rd_own'); (with_reducible assumption); rfl) | with_reducible assumption)))); exact rds_nil _ _))) rfl (by omega) (by omega) (by omega) ?_
      intro bn cn fbn hcn
      have gbn := fbn
      repeat ((with_reducible replace gbn := fresh_set gbn); obtain ⟨gbn, _⟩ := gbn)
      refine arun_nil ⟨fun h => absurd h (by decide), ?_⟩
      refine draw_pure rfl rfl rfl rfl (lit_lt rfl) (fun _ => Calm.assign rfl) ?_
      refine draw_nil ?_
      refine athen_n ?_
      refine AWP.sub [(0, _), (2, _), (3, _), (12, _)] ⟨rfl, rfl, rfl, rfl, trivial⟩ ?_
      have hbs : cellsB (pack L) = bytesV L ++ [.int .u8 (nb (lastB L))] := by rw [pack_last L hn]; simp [cellsB, bytesV, lastB]
      refine AWP.seq ?_
      refine AWP.draw [(0, true), (1, true), (2, true), (3, false), (4, true), (5, false)] [5] mixed (by kernel_rfl) ?_
      refine draw_pure rfl rfl rfl rfl (lit_lt rfl) (fun _ => Calm.move rfl) ?_
      refine draw_calm rfl rfl rfl (lit_lt rfl) ((by first | with_reducible exact Mem.Less.refl _ | ((with_reducible refine Mem.less_set _ _ _ (Fresh.own ?_)); with_reducible assumption) | (refine less_of ?_; (repeat first | with_reducible exact LessB.refl _ _ | ((with_reducible refine LessB.set ?_ ?_); ((repeat first | ((with_reducible refine (Mem.own_set_other _ _ ?_).trans ?_); (first | assumption | (apply Ne.symm; assumption))) | ((with_reducible refine (Mem.own_del_other _ ?_).trans ?_); (first | assumption | (apply Ne.symm; assumption)))); (first | with_reducible exact Mem.own_set_same _ _ _ | with_reducible assumption | exact Mem.own_set_same _ _ _))) | (with_reducible refine LessB.delL ?_)); (repeat first | with_reducible exact LessB.refl _ _ | ((with_reducible refine LessB.of ?_); with_reducible assumption) | ((with_reducible refine LessB.skip ?_ ?_); (first | ((refine .inl ?_); simp; done) | ((refine .inr (Fresh.own ?_)); with_reducible assumption) | ((refine .inr ?_); with_reducible assumption))) | ((with_reducible refine LessB.skipDel ?_ ?_); (first | ((refine .inl ?_); simp; done) | ((refine .inr (Fresh.own ?_)); with_reducible assumption) | ((refine .inr ?_); with_reducible assumption))))))) (fun S' hS' => by obtain rfl := hS'.resolve_left (by decide); exact Calm.toStr ty_bytes_63 ty_str_9 rfl (l := pack L) (by rw [pack_length]; omega) (by rw [hbs]; exact rds_own' ((by (repeat first | ((with_reducible refine (Mem.own_set_other _ _ ?_).trans ?_); (first | assumption | (apply Ne.symm; assumption))) | ((with_reducible refine (Mem.own_del_other _ ?_).trans ?_); (first | assumption | (apply Ne.symm; assumption)))); (first | with_reducible exact Mem.own_set_same _ _ _ | with_reducible assumption | exact Mem.own_set_same _ _ _))) rfl)) ?_
      refine draw_pure rfl rfl rfl rfl (lit_lt rfl) (fun _ => Calm.move rfl) ?_
      refine draw_only rfl ?_
      refine ARun.call (lit_lt rfl) go_56 rfl (ACall.pure_more ((by first | with_reducible exact Mem.Less.refl _ | ((with_reducible refine Mem.less_set _ _ _ (Fresh.own ?_)); with_reducible assumption) | (refine less_of ?_; (repeat first | with_reducible exact LessB.refl _ _ | ((with_reducible refine LessB.set ?_ ?_); ((repeat first | ((with_reducible refine (Mem.own_set_other _ _ ?_).trans ?_); (first | assumption | (apply Ne.symm; assumption))) | ((with_reducible refine (Mem.own_del_other _ ?_).trans ?_); (first | assumption | (apply Ne.symm; assumption)))); (first | with_reducible exact Mem.own_set_same _ _ _ | with_reducible assumption | exact Mem.own_set_same _ _ _))) | (with_reducible refine LessB.delL ?_)); (repeat first | with_reducible exact LessB.refl _ _ | ((with_reducible refine LessB.of ?_); with_reducible assumption) | ((with_reducible refine LessB.skip ?_ ?_); (first | ((refine .inl ?_); simp; done) | ((refine .inr (Fresh.own ?_)); with_reducible assumption) | ((refine .inr ?_); with_reducible assumption))) | ((with_reducible refine LessB.skipDel ?_ ?_); (first | ((refine .inl ?_); simp; done) | ((refine .inr (Fresh.own ?_)); with_reducible assumption) | ((refine .inr ?_); with_reducible assumption))))))) hLen) ?_
      rintro _ _ ⟨rfl, rfl⟩
      refine arun_nil ⟨fun _ => (by first | with_reducible exact Mem.Less.refl _ | ((with_reducible refine Mem.less_set _ _ _ (Fresh.own ?_)); with_reducible assumption) | (refine less_of ?_; (repeat first | with_reducible exact LessB.refl _ _ | ((with_reducible refine LessB.set ?_ ?_); ((repeat first | ((with_reducible refine (Mem.own_set_other _ _ ?_).trans ?_); (first | assumption | (apply Ne.symm; assumption))) | ((with_reducible refine (Mem.own_del_other _ ?_).trans ?_); (first | assumption | (apply Ne.symm; assumption)))); (first | with_reducible exact Mem.own_set_same _ _ _ | with_reducible assumption | exact Mem.own_set_same _ _ _))) | (with_reducible refine LessB.delL ?_)); (repeat first | with_reducible exact LessB.refl _ _ | ((with_reducible refine LessB.of ?_); with_reducible assumption) | ((with_reducible refine LessB.skip ?_ ?_); (first | ((refine .inl ?_); simp; done) | ((refine .inr (Fresh.own ?_)); with_reducible assumption) | ((refine .inr ?_); with_reducible assumption))) | ((with_reducible refine LessB.skipDel ?_ ?_); (first | ((refine .inl ?_); simp; done) | ((refine .inr (Fresh.own ?_)); with_reducible assumption) | ((refine .inr ?_); with_reducible assumption)))))), ?_⟩
      refine draw_pure rfl rfl rfl rfl (lit_lt rfl) (fun _ => Calm.build (cs := [_, _]) ty_bld_23 rfl rfl) ?_
      refine draw_only rfl ?_
      first | refine ARun.storeAll rfl rfl ty_size_23 ((by (repeat first | ((with_reducible refine (Mem.own_set_other _ _ ?_).trans ?_); (first | assumption | (apply Ne.symm; assumption))) | ((with_reducible refine (Mem.own_del_other _ ?_).trans ?_); (first | assumption | (apply Ne.symm; assumption)))); (first | with_reducible exact Mem.own_set_same _ _ _ | with_reducible assumption | exact Mem.own_set_same _ _ _))) rfl rfl ?_ | refine ARun.store rfl rfl ty_size_23 ((by (repeat first | ((with_reducible refine (Mem.own_set_other _ _ ?_).trans ?_); (first | assumption | (apply Ne.symm; assumption))) | ((with_reducible refine (Mem.own_del_other _ ?_).trans ?_); (first | assumption | (apply Ne.symm; assumption)))); (first | with_reducible exact Mem.own_set_same _ _ _ | with_reducible assumption | exact Mem.own_set_same _ _ _))) ((by first | decide | (simp; done) | (simp; omega) | omega)) rfl ?_
      (try simp only [Mem.set_set, List.set_cons_zero, List.set_cons_succ, Nat.zero_add, Nat.reduceAdd])
      refine arun_nil ⟨fun h => absurd h (by decide), ?_⟩
      refine draw_nil ?_
      refine athen_n ?_
      refine AWP.sub [(0, _), (2, _), (3, _), (12, _)] ⟨rfl, rfl, rfl, rfl, trivial⟩ ?_
      refine AWP.ret ?_
      refine ⟨_, S, ⟨_, _, _, rfl, .inr ⟨ty_agg_23, [_, _], ty_size_23, (by first | with_reducible assumption | ((repeat (apply rds_cons; ((repeat ((with_reducible refine (rd_set_ne _ _ ?_).trans ?_); (first | assumption | (apply Ne.symm; assumption)))); (first | ((with_reducible refine (rd_set_same _ _ _ _).trans ?_); rfl) | ((with_reducible apply rd_own'); (with_reducible assumption); rfl) | with_reducible assumption)))); exact rds_nil _ _)), rfl⟩, rfl, rfl⟩, (by first | with_reducible exact Mem.Less.refl _ | ((with_reducible refine Mem.less_set _ _ _ (Fresh.own ?_)); with_reducible assumption) | (refine less_of ?_; (repeat first | with_reducible exact LessB.refl _ _ | ((with_reducible refine LessB.set ?_ ?_); ((repeat first | ((with_reducible refine (Mem.own_set_other _ _ ?_).trans ?_); (first | assumption | (apply Ne.symm; assumption))) | ((with_reducible refine (Mem.own_del_other _ ?_).trans ?_); (first | assumption | (apply Ne.symm; assumption)))); (first | with_reducible exact Mem.own_set_same _ _ _ | with_reducible assumption | exact Mem.own_set_same _ _ _))) | (with_reducible refine LessB.delL ?_)); (repeat first | with_reducible exact LessB.refl _ _ | ((with_reducible refine LessB.of ?_); with_reducible assumption) | ((with_reducible refine LessB.skip ?_ ?_); (first | ((refine .inl ?_); simp; done) | ((refine .inr (Fresh.own ?_)); with_reducible assumption) | ((refine .inr ?_); with_reducible assumption))) | ((with_reducible refine LessB.skipDel ?_ ?_); (first | ((refine .inl ?_); simp; done) | ((refine .inr (Fresh.own ?_)); with_reducible assumption) | ((refine .inr ?_); with_reducible assumption)))))), ?_⟩
      exact ⟨rfl, rfl⟩
    · have hn : L.length % 8 = 0 := by have := of_decide_eq_false hc; omega
      have hbs : cellsB (pack L) = bytesV L := by unfold bytesV; rw [pack_whole L hn]; rfl
      refine AWP.skip ?_
      refine athen_n ?_
      refine AWP.seq ?_
      refine AWP.draw [(0, true), (1, true), (2, true), (3, false), (4, true), (5, false)] [5] mixed (by kernel_rfl) ?_
      refine draw_pure rfl rfl rfl rfl (lit_lt rfl) (fun _ => Calm.move rfl) ?_
      refine draw_calm rfl rfl rfl (lit_lt rfl) ((by first | with_reducible exact Mem.Less.refl _ | ((with_reducible refine Mem.less_set _ _ _ (Fresh.own ?_)); with_reducible assumption) | (refine less_of ?_; (repeat first | with_reducible exact LessB.refl _ _ | ((with_reducible refine LessB.set ?_ ?_); ((repeat first | ((with_reducible refine (Mem.own_set_other _ _ ?_).trans ?_); (first | assumption | (apply Ne.symm; assumption))) | ((with_reducible refine (Mem.own_del_other _ ?_).trans ?_); (first | assumption | (apply Ne.symm; assumption)))); (first | with_reducible exact Mem.own_set_same _ _ _ | with_reducible assumption | exact Mem.own_set_same _ _ _))) | (with_reducible refine LessB.delL ?_)); (repeat first | with_reducible exact LessB.refl _ _ | ((with_reducible refine LessB.of ?_); with_reducible assumption) | ((with_reducible refine LessB.skip ?_ ?_); (first | ((refine .inl ?_); simp; done) | ((refine .inr (Fresh.own ?_)); with_reducible assumption) | ((refine .inr ?_); with_reducible assumption))) | ((with_reducible refine LessB.skipDel ?_ ?_); (first | ((refine .inl ?_); simp; done) | ((refine .inr (Fresh.own ?_)); with_reducible assumption) | ((refine .inr ?_); with_reducible assumption))))))) (fun S' hS' => by obtain rfl := hS'.resolve_left (by decide); exact Calm.toStr ty_bytes_63 ty_str_9 rfl (l := pack L) (by rw [pack_length]; omega) (by rw [hbs]; exact rds_own' ((by (repeat first | ((with_reducible refine (Mem.own_set_other _ _ ?_).trans ?_); (first | assumption | (apply Ne.symm; assumption))) | ((with_reducible refine (Mem.own_del_other _ ?_).trans ?_); (first | assumption | (apply Ne.symm; assumption)))); (first | with_reducible exact Mem.own_set_same _ _ _ | with_reducible assumption | exact Mem.own_set_same _ _ _))) rfl)) ?_
      refine draw_pure rfl rfl rfl rfl (lit_lt rfl) (fun _ => Calm.move rfl) ?_
      refine draw_only rfl ?_
      refine ARun.call (lit_lt rfl) go_56 rfl (ACall.pure_more ((by first | with_reducible exact Mem.Less.refl _ | ((with_reducible refine Mem.less_set _ _ _ (Fresh.own ?_)); with_reducible assumption) | (refine less_of ?_; (repeat first | with_reducible exact LessB.refl _ _ | ((with_reducible refine LessB.set ?_ ?_); ((repeat first | ((with_reducible refine (Mem.own_set_other _ _ ?_).trans ?_); (first | assumption | (apply Ne.symm; assumption))) | ((with_reducible refine (Mem.own_del_other _ ?_).trans ?_); (first | assumption | (apply Ne.symm; assumption)))); (first | with_reducible exact Mem.own_set_same _ _ _ | with_reducible assumption | exact Mem.own_set_same _ _ _))) | (with_reducible refine LessB.delL ?_)); (repeat first | with_reducible exact LessB.refl _ _ | ((with_reducible refine LessB.of ?_); with_reducible assumption) | ((with_reducible refine LessB.skip ?_ ?_); (first | ((refine .inl ?_); simp; done) | ((refine .inr (Fresh.own ?_)); with_reducible assumption) | ((refine .inr ?_); with_reducible assumption))) | ((with_reducible refine LessB.skipDel ?_ ?_); (first | ((refine .inl ?_); simp; done) | ((refine .inr (Fresh.own ?_)); with_reducible assumption) | ((refine .inr ?_); with_reducible assumption))))))) hLen) ?_
      rintro _ _ ⟨rfl, rfl⟩
      refine arun_nil ⟨fun _ => (by first | with_reducible exact Mem.Less.refl _ | ((with_reducible refine Mem.less_set _ _ _ (Fresh.own ?_)); with_reducible assumption) | (refine less_of ?_; (repeat first | with_reducible exact LessB.refl _ _ | ((with_reducible refine LessB.set ?_ ?_); ((repeat first | ((with_reducible refine (Mem.own_set_other _ _ ?_).trans ?_); (first | assumption | (apply Ne.symm; assumption))) | ((with_reducible refine (Mem.own_del_other _ ?_).trans ?_); (first | assumption | (apply Ne.symm; assumption)))); (first | with_reducible exact Mem.own_set_same _ _ _ | with_reducible assumption | exact Mem.own_set_same _ _ _))) | (with_reducible refine LessB.delL ?_)); (repeat first | with_reducible exact LessB.refl _ _ | ((with_reducible refine LessB.of ?_); with_reducible assumption) | ((with_reducible refine LessB.skip ?_ ?_); (first | ((refine .inl ?_); simp; done) | ((refine .inr (Fresh.own ?_)); with_reducible assumption) | ((refine .inr ?_); with_reducible assumption))) | ((with_reducible refine LessB.skipDel ?_ ?_); (first | ((refine .inl ?_); simp; done) | ((refine .inr (Fresh.own ?_)); with_reducible assumption) | ((refine .inr ?_); with_reducible assumption)))))), ?_⟩
      refine draw_pure rfl rfl rfl rfl (lit_lt rfl) (fun _ => Calm.build (cs := [_, _]) ty_bld_23 rfl rfl) ?_
      refine draw_only rfl ?_
      first | refine ARun.storeAll rfl rfl ty_size_23 ((by (repeat first | ((with_reducible refine (Mem.own_set_other _ _ ?_).trans ?_); (first | assumption | (apply Ne.symm; assumption))) | ((with_reducible refine (Mem.own_del_other _ ?_).trans ?_); (first | assumption | (apply Ne.symm; assumption)))); (first | with_reducible exact Mem.own_set_same _ _ _ | with_reducible assumption | exact Mem.own_set_same _ _ _))) rfl rfl ?_ | refine ARun.store rfl rfl ty_size_23 ((by (repeat first | ((with_reducible refine (Mem.own_set_other _ _ ?_).trans ?_); (first | assumption | (apply Ne.symm; assumption))) | ((with_reducible refine (Mem.own_del_other _ ?_).trans ?_); (first | assumption | (apply Ne.symm; assumption)))); (first | with_reducible exact Mem.own_set_same _ _ _ | with_reducible assumption | exact Mem.own_set_same _ _ _))) ((by first | decide | (simp; done) | (simp; omega) | omega)) rfl ?_
      (try simp only [Mem.set_set, List.set_cons_zero, List.set_cons_succ, Nat.zero_add, Nat.reduceAdd])
      refine arun_nil ⟨fun h => absurd h (by decide), ?_⟩
      refine draw_nil ?_
      refine athen_n ?_
      refine AWP.sub [(0, _), (2, _), (3, _), (12, _)] ⟨rfl, rfl, rfl, rfl, trivial⟩ ?_
      refine AWP.ret ?_
      refine ⟨_, S, ⟨_, _, _, rfl, .inr ⟨ty_agg_23, [_, _], ty_size_23, (by first | with_reducible assumption | ((repeat (apply rds_cons; ((repeat ((with_reducible refine (rd_set_ne _ _ ?_).trans ?_); (first | assumption | (apply Ne.symm; assumption)))); (first | ((with_reducible refine (rd_set_same _ _ _ _).trans ?_); rfl) | ((with_reducible apply rd_own'); (with_reducible assumption); rfl) | with_reducible assumption)))); exact rds_nil _ _)), rfl⟩, rfl, rfl⟩, (by first | with_reducible exact Mem.Less.refl _ | ((with_reducible refine Mem.less_set _ _ _ (Fresh.own ?_)); with_reducible assumption) | (refine less_of ?_; (repeat first | with_reducible exact LessB.refl _ _ | ((with_reducible refine LessB.set ?_ ?_); ((repeat first | ((with_reducible refine (Mem.own_set_other _ _ ?_).trans ?_); (first | assumption | (apply Ne.symm; assumption))) | ((with_reducible refine (Mem.own_del_other _ ?_).trans ?_); (first | assumption | (apply Ne.symm; assumption)))); (first | with_reducible exact Mem.own_set_same _ _ _ | with_reducible assumption | exact Mem.own_set_same _ _ _))) | (with_reducible refine LessB.delL ?_)); (repeat first | with_reducible exact LessB.refl _ _ | ((with_reducible refine LessB.of ?_); with_reducible assumption) | ((with_reducible refine LessB.skip ?_ ?_); (first | ((refine .inl ?_); simp; done) | ((refine .inr (Fresh.own ?_)); with_reducible assumption) | ((refine .inr ?_); with_reducible assumption))) | ((with_reducible refine LessB.skipDel ?_ ?_); (first | ((refine .inl ?_); simp; done) | ((refine .inr (Fresh.own ?_)); with_reducible assumption) | ((refine .inr ?_); with_reducible assumption)))))), ?_⟩
      exact ⟨rfl, rfl⟩
end Go.Proofs.Ytpeljbmbgjeomaa
