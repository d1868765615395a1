/-
  Disk: slices.Delete of an extent.
-/
import Derived.Test.YtkeiphkccnfhoaaDisk10
namespace Go.Proofs.Ytkeiphkccnfhoaa
open Go.RowKit
open Mv Disk
set_option linter.unusedVariables false
set_option linter.unusedSimpArgs false
set_option maxRecDepth 4000
theorem spl_front {A Y D : List Value} {k : Nat} (hk : A.length = k) : (A ++ D) <+: spl (A ++ Y) k D := by
  subst hk
  unfold spl
  rw [List.take_left]; exact List.prefix_append _ _
theorem spl_keep {C Z zs : List Value} {k : Nat} (hk : C.length = k) (h : C <+: Z) : C <+: spl Z k zs := by
  subst hk
  obtain ⟨Y, rfl⟩ := h
  unfold spl
  rw [List.take_left, List.append_assoc]; exact List.prefix_append _ _
theorem del_cells {A X D zs : List Value} {i k : Nat} (hA : A.length = i * 2) (hk : A.length + D.length = k) : (A ++ D) <+: spl (spl (A ++ (X ++ D)) (0 + i * 2) D) k zs :=
  spl_keep (by rw [List.length_append]; exact hk) (spl_front (by omega))
theorem erase_flat (l : List Ext) (i : Nat) : (l.eraseIdx i).flatMap extF = (l.take i).flatMap extF ++ (l.drop (i + 1)).flatMap extF := by
  rw [List.eraseIdx_eq_take_drop_succ, List.flatMap_append]
theorem drop_get {α : Type} {l : List α} {i : Nat} (h : i < l.length) : l.drop i = l[i] :: l.drop (i + 1) := List.drop_eq_getElem_cons h
section
variable {P : Program} {N : Nat} {E : Env} {S : Mem} {dst : Option Nat} {ty : TypeId} {pos : String} {aft : Array Edge} {gd : Option (Nat × Bool)}
theorem Mv.Calm.sliceLoHi {T e : TypeId} {x lo : Operand} {hi : Option Operand} {kd : IntKind} {j : Int} {b o len cap n h : Nat} (l : Nat) (hT : P.underlying T = some (.slice e)) (he : sizeT P e = some n) (hx : ev E x = some (.slice (some ⟨b, o, none⟩) len cap)) (hlo : ev E lo = some (.int kd j)) (hj : j = (l : Int)) (hh : bnd E hi len cap h) (h1 : l ≤ h) :
    ACalm P N ⟨dst, .slice T x (some lo) hi none, ty, pos, aft, gd⟩ E S (.slice (some ⟨b, if cap = l then o else o + l * n, none⟩) (h - l) (cap - l)) := by
  subst hj
  have := Calm.sliceSl (S := S) (N := N) (dst := dst) (ty := ty) (pos := pos) (aft := aft) (gd := gd) hT he hx (bnd_none cap cap) (by simp) hh (bnd_some 0 h hlo (by omega) (by omega))
  rw [Int.toNat_natCast] at this
  exact this
theorem Mv.Calm.sliceMid {T e : TypeId} {x lo hi : Operand} {kd kd' : IntKind} {j j' : Int} {b o len cap n : Nat} (l h : Nat) (hT : P.underlying T = some (.slice e)) (he : sizeT P e = some n) (hx : ev E x = some (.slice (some ⟨b, o, none⟩) len cap)) (hlo : ev E lo = some (.int kd j)) (hj : j = (l : Int)) (hhi : ev E hi = some (.int kd' j')) (hj' : j' = (h : Int)) (h1 : l ≤ h) (h2 : h ≤ cap) (h3 : l < cap) :
    ACalm P N ⟨dst, .slice T x (some lo) (some hi) none, ty, pos, aft, gd⟩ E S (.slice (some ⟨b, o + l * n, none⟩) (h - l) (cap - l)) := by
  subst hj'
  have := Calm.sliceLoHi (S := S) (N := N) (dst := dst) (ty := ty) (pos := pos) (aft := aft) (gd := gd) l hT he hx hlo hj (bnd_some len cap hhi (by omega) (by omega)) (by rw [Int.toNat_natCast]; exact h1)
  rw [Int.toNat_natCast, if_neg (by omega)] at this
  exact this
end
set_option maxHeartbeats 2000000 in
theorem del_ext (B : Mem) (o : Option (Nat × Nat)) (l : List Ext) (i : Nat) (ho : OkO B o l.length) (hi : i < l.length) (hlen : l.length ≤ 16384) :
    ACall Try.prog 86 #[outV o l.length, .int .i64 (i : Int), .int .i64 ((i : Int) + 1)] (outN 2 B o extT (l.flatMap extF)) fun r S' => OkO B o (l.length - 1) ∧ r = outV o (l.length - 1) ∧ S' = outN 2 B o extT ((l.eraseIdx i).flatMap extF) := by
  obtain ⟨⟨b, c⟩, rfl⟩ : ∃ q, o = some q := by
    cases o with
    | none => have := ho.nil rfl; omega
    | some q => exact ⟨q, rfl⟩
  have hc := (ho.own b c rfl).2
  have hfb := (ho.own b c rfl).1
  have hfl := flat_length ext_len l
  have hA := flat_length ext_len (l.take i)
  have hD := flat_length ext_len (l.drop (i + 1))
  rw [List.length_take, Nat.min_eq_left (by omega)] at hA
  rw [List.length_drop] at hD
  have hsplit : l.flatMap extF = (l.take i).flatMap extF ++ (extF l[i] ++ (l.drop (i + 1)).flatMap extF) := by
    rw [flat_take (n := 2) (f := extF) l i, drop_get hi, List.flatMap_cons]
  rw [erase_flat]
  dsimp only [outN, outV]
  refine ACall.enter (args := [.slice (some ⟨b, 0, none⟩) l.length c, .int .i64 (i : Int), .int .i64 ((i : Int) + 1)]) (rs := [.tmp 6]) 33 [(0, .slice (some ⟨b, 0, none⟩) l.length c), (1, .int .i64 (i : Int)), (2, .int .i64 ((i : Int) + 1))] Try.func86 rfl rfl (Nat.le_of_ble_eq_true rfl) rfl ⟨rfl, rfl, rfl, trivial⟩ ?_
  refine AWP.seq ?_
  refine AWP.region ?_
  refine rC (Calm.assign rfl) ?_
  refine arun_nil ?_
  refine athen_n ?_
  refine AWP.seq ?_
  refine AWP.region ?_
  refine rC (Calm.move rfl) ?_
  refine rC (Calm.move rfl) ?_
  refine rC (Calm.move rfl) ?_
  refine rC (Calm.move rfl) ?_
  refine rC (Calm.lenSl Try.underlying22 rfl) ?_
  refine rC ((by first | exact Calm.sliceSl Try.underlying22 ty_size_54 rfl (bnd_some _ _ rfl (by omega) (by omega)) (by simp) (bnd_some _ _ rfl (by omega) (by omega)) (bnd_some _ _ rfl (by omega) (by omega)) | exact Calm.sliceNil Try.underlying22 ty_size_54 rfl (bnd_zero _ _ rfl) (by simp) (bnd_zero _ _ rfl) (bnd_zero _ _ rfl))) ?_
  refine arun_nil ?_
  refine athen_n ?_
  refine AWP.sub [(0, _), (1, _), (2, _), (6, _)] ⟨rfl, rfl, rfl, rfl, trivial⟩ ?_
  refine AWP.seq ?_
  refine AWP.seq ?_
  refine AWP.region ?_
  refine rC (Calm.move rfl) ?_
  refine rC (Calm.move rfl) ?_
  refine rC (Calm.bin rfl rfl b_eql) ?_
  refine arun_nil ?_
  refine athen_n ?_
  refine AWP.sub [(0, _), (1, _), (2, _), (6, _), (16, _)] ⟨rfl, rfl, rfl, rfl, rfl, trivial⟩ ?_
  refine AWP.condF rfl (by first | rfl | (simp; done) | (simp; omega)) ?_
  refine AWP.skip ?_
  refine athen_n ?_
  refine AWP.seq ?_
  refine AWP.region ?_
  refine rC (Calm.move rfl) ?_
  refine rC (Calm.lenSl Try.underlying22 rfl) ?_
  refine rC (Calm.assign rfl) ?_
  refine arun_nil ?_
  refine athen_n ?_
  refine AWP.sub [(0, _), (1, _), (2, _), (6, _), (16, _), (7, _)] ⟨rfl, rfl, rfl, rfl, rfl, rfl, trivial⟩ ?_
  refine AWP.seq ?_
  refine AWP.draw [(0, true), (1, true), (2, true), (3, true), (4, true), (5, true), (6, false), (7, true)] [6] mixed (by kernel_rfl) ?_
  refine dP (hc := fun _ => Calm.move rfl) (h := ?_)
  refine dP (hc := fun _ => Calm.move rfl) (h := ?_)
  refine dP (hc := fun _ => Calm.sliceHi i Try.underlying22 ty_size_54 rfl rfl rfl (by omega)) (h := ?_)
  refine dP (hc := fun _ => Calm.move rfl) (h := ?_)
  refine dP (hc := fun _ => Calm.move rfl) (h := ?_)
  refine dP (hc := fun _ => Calm.sliceLoHi (i + 1) Try.underlying22 ty_size_54 rfl rfl (by omega) (bnd_none _ _) (by omega)) (h := ?_)
  refine draw_only rfl ?_
  refine ARun.appendRoom (n := 2) (k := i) (m := l.length - (i + 1)) (news := (l.drop (i + 1)).flatMap extF) (lit_lt rfl) ty_sl_22 rfl (Mem.own_set_same _ _ _) (by simp only [hfl]; omega) rfl ?_ hD (ext_one _) (by omega) (.inl (by simp only [hfl, hD]; omega)) ?_
  · by_cases hlast : i + 1 = l.length
    · rw [show (l.drop (i + 1)).flatMap extF = [] from List.eq_nil_of_length_eq_zero (by rw [hD, hlast]; simp)]
      exact fun w _ j v h => by simp at h
    · rw [if_neg (by omega)]
      exact Mem.own_knows (Mem.own_set_same _ _ _) _ _ (fun j v hj => by simp only; rw [hsplit, List.getElem?_append_right (by omega), List.getElem?_append_right (by rw [ext_len]; omega), ← hj]; congr 1; rw [ext_len]; omega)
  have hs1 : (spl (l.flatMap extF) (0 + i * 2) ((l.drop (i + 1)).flatMap extF)).length = l.length * 2 := by rw [spl_length _ _ _ (by rw [hfl, hD]; omega), hfl]
  refine arun_nil ⟨fun h => absurd h (by decide), ?_⟩
  refine dP (hc := fun _ => Calm.assign rfl) (h := ?_)
  refine draw_nil ?_
  refine athen_n ?_
  refine AWP.sub [(0, _), (1, _), (2, _), (6, _), (16, _), (7, _)] ⟨rfl, rfl, rfl, rfl, rfl, rfl, trivial⟩ ?_
  refine AWP.seq ?_
  refine AWP.region ?_
  refine rC (Calm.move rfl) ?_
  refine rC (Calm.move rfl) ?_
  refine rC (Calm.lenSl Try.underlying22 rfl) ?_
  refine rC (Calm.move rfl) ?_
  refine rC (Calm.sliceMid (l.length - 1) l.length Try.underlying22 ty_size_54 rfl rfl (by omega) rfl rfl (by omega) (by omega) (by omega)) ?_
  refine ARun.clearK (k := l.length - (l.length - 1)) ty_sl_22 rfl (by simp only [List.mem_cons, List.not_mem_nil, or_false]; rintro v (rfl | rfl) <;> rfl) rfl (Mem.own_set_same _ _ _) (by simp only [hs1]; omega) (.inl (by simp only [hs1]; omega)) ?_
  intro zs hzs
  refine arun_nil ?_
  refine athen_n ?_
  refine AWP.sub [(0, _), (1, _), (2, _), (6, _), (16, _), (7, _)] ⟨rfl, rfl, rfl, rfl, rfl, rfl, trivial⟩ ?_
  rw [Mem.set_set, Mem.set_set]
  refine AWP.cut (cs' := (l.take i).flatMap extF ++ (l.drop (i + 1)).flatMap extF) (m' := c * 2) (by rw [hsplit]; exact del_cells hA (by rw [hA, hD]; omega)) (Nat.le_refl _) ?_
  refine AWP.seq ?_
  refine AWP.region ?_
  refine rC (Calm.move rfl) ?_
  refine rC (Calm.assign rfl) ?_
  refine arun_nil ?_
  refine athen_n ?_
  refine AWP.sub [(0, _), (1, _), (2, _), (6, _), (16, _), (7, _)] ⟨rfl, rfl, rfl, rfl, rfl, rfl, trivial⟩ ?_
  refine AWP.ret ?_
  refine ⟨_, _, ⟨_, _, rfl, rfl, rfl⟩, Mem.Less.refl _, ?_⟩
  exact ⟨okO_own hfb (by omega), congrArg (fun n => Value.slice (some ⟨b, 0, none⟩) n c) (by omega), rfl⟩
end Go.Proofs.Ytkeiphkccnfhoaa
