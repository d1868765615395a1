/-
  Disk: slices.Insert of an extent.
-/
import Derived.Test.YtkeiphkccnfhoaaDisk6
namespace Go.Proofs.Ytkeiphkccnfhoaa
open Go.RowKit
open Mv Disk
set_option linter.unusedVariables false
set_option linter.unusedSimpArgs false
set_option maxRecDepth 4000
theorem spl_mid {A Y X B : List Value} {k : Nat} (hk : A.length = k) (hl : Y.length = X.length) : spl (A ++ (Y ++ B)) k X = A ++ (X ++ B) := by
  subst hk
  unfold spl
  rw [List.take_left, ← List.drop_drop, List.drop_left, ← hl, List.drop_left, List.append_assoc]
theorem spl_end {A Y X : List Value} {k : Nat} (hk : A.length = k) (hl : Y.length ≤ X.length) : spl (A ++ Y) k X = A ++ X := by
  subst hk
  unfold spl
  rw [List.take_left, List.drop_of_length_le (by rw [List.length_append]; omega), List.append_nil]
theorem flat_take {α : Type} {n : Nat} {f : α → List Value} (l : List α) (i : Nat) : l.flatMap f = (l.take i).flatMap f ++ (l.drop i).flatMap f := by
  rw [← List.flatMap_append, List.take_append_drop]
theorem room_cells {A D X : List Value} {i : Nat} (hA : A.length = i * 2) (hX : X.length = 2) (hD : 2 ≤ D.length) : spl (spl (A ++ D) (0 + (i + 1) * 2) D) (0 + i * 2) X = A ++ (X ++ D) := by
  have e : spl (A ++ D) (0 + (i + 1) * 2) D = A ++ (D.take 2 ++ D) := by
    have e1 : A ++ D = (A ++ D.take 2) ++ D.drop 2 := by rw [List.append_assoc, List.take_append_drop]
    rw [e1, spl_end (by simp [hA]; omega) (by simp), List.append_assoc]
  rw [e]
  exact spl_mid (by omega) (by simp [hX]; omega)
theorem grow_cells {A D X zs : List Value} {i : Nat} (hA : A.length = i * 2) (hX : X.length = 2) (hz : zs.length = 2 + D.length) : spl (spl (A ++ zs) (0 + i * 2) X) (0 + (i + 1) * 2) D = A ++ (X ++ D) := by
  have e : spl (A ++ zs) (0 + i * 2) X = (A ++ X) ++ zs.drop 2 := by
    have e1 : A ++ zs = A ++ (zs.take 2 ++ zs.drop 2) := by rw [List.take_append_drop]
    rw [e1, spl_mid (by omega) (by simp [hX]; omega), List.append_assoc]
  rw [e, spl_end (by simp [hA, hX]; omega) (by simp; omega), List.append_assoc]
def insAt (l : List Ext) (i : Nat) (x : Ext) : List Ext := l.take i ++ x :: l.drop i
theorem ins_flat (l : List Ext) (i : Nat) (x : Ext) : (insAt l i x).flatMap extF = (l.take i).flatMap extF ++ (extF x ++ (l.drop i).flatMap extF) := by
  unfold insAt; rw [List.flatMap_append, List.flatMap_cons]
theorem ins_len {l : List Ext} {i : Nat} (h : i ≤ l.length) (x : Ext) : (insAt l i x).length = l.length + 1 := by
  unfold insAt; simp; omega
set_option maxHeartbeats 2000000 in
theorem ins_ext (B : Mem) (o : Option (Nat × Nat)) (l : List Ext) (i : Nat) (x : Ext) (t : Nat) (ho : OkO B o l.length) (ht : Fresh (outN 2 B o extT (l.flatMap extF)) t) (hi : i ≤ l.length) (hlen : l.length ≤ 16384) :
    ACall Try.prog 84 #[outV o l.length, .int .i64 (i : Int), .slice (some ⟨t, 0, none⟩) 1 1] ((outN 2 B o extT (l.flatMap extF)).set t ⟨extT, extF x, 2⟩) fun r S' => ∃ o', OkO B o' (l.length + 1) ∧ r = outV o' (l.length + 1) ∧ S' = outN 2 B o' extT ((insAt l i x).flatMap extF) := by
  have hfl := flat_length ext_len l
  have hx1 : ∀ v ∈ extF x, v.oneCell' = true := fun v hv => ext_one [x] v (by simpa using hv)
  have happ : AppN 2 ((outN 2 B o extT (l.flatMap extF)).set t ⟨extT, extF x, 2⟩) B o extT (l.flatMap extF) := (appN_self ho hfl).temp ht
  by_cases hil : i = l.length
  · subst hil
    have he : (insAt l l.length x).flatMap extF = l.flatMap extF ++ extF x := by rw [ins_flat]; simp
    rw [he]
    cases o with
    | none =>
      obtain rfl : l = [] := List.eq_nil_of_length_eq_zero (ho.nil rfl)
      refine ACall.enter (args := [.slice none 0 0, .int .i64 0, .slice (some ⟨t, 0, none⟩) 1 1]) (rs := [.tmp 6]) 95 [(0, .slice none 0 0), (1, .int .i64 0), (2, .slice (some ⟨t, 0, none⟩) 1 1)] Try.func84 rfl rfl (Nat.le_of_ble_eq_true rfl) rfl ⟨rfl, rfl, rfl, trivial⟩ ?_
      refine AWP.seq ?_
      refine AWP.region ?_
      refine rC (Calm.assign rfl) ?_
      refine arun_nil ?_
      refine athen_n ?_
      refine AWP.seq ?_
      refine AWP.region ?_
      refine rC (Calm.move rfl) ?_
      refine rC (Calm.move rfl) ?_
      refine rC ((by first | exact Calm.sliceSl Try.underlying22 ty_size_54 rfl (bnd_none _ _) (by simp) (bnd_none _ _) (bnd_some _ _ rfl (by omega) (by omega)) | exact Calm.sliceNil Try.underlying22 ty_size_54 rfl (bnd_none _ _) (by simp) (bnd_none _ _) (bnd_zero _ _ rfl))) ?_
      refine arun_nil ?_
      refine athen_n ?_
      refine AWP.sub [(0, _), (1, _), (2, _), (6, _)] ⟨rfl, rfl, rfl, rfl, trivial⟩ ?_
      refine AWP.seq ?_
      refine AWP.region ?_
      refine rC (Calm.move rfl) ?_
      refine rC (Calm.lenSl Try.underlying22 rfl) ?_
      refine rC (Calm.assign rfl) ?_
      refine arun_nil ?_
      refine athen_n ?_
      refine AWP.sub [(0, _), (1, _), (2, _), (6, _), (7, _)] ⟨rfl, rfl, rfl, rfl, rfl, trivial⟩ ?_
      refine AWP.seq ?_
      refine AWP.seq ?_
      refine AWP.region ?_
      refine rC (Calm.move rfl) ?_
      refine rC (Calm.bin rfl rfl b_eql) ?_
      refine arun_nil ?_
      refine athen_n ?_
      refine AWP.sub [(0, _), (1, _), (2, _), (6, _), (7, _), (16, _)] ⟨rfl, rfl, rfl, rfl, rfl, rfl, trivial⟩ ?_
      refine AWP.condF rfl (by first | rfl | (simp; done) | (simp; omega)) ?_
      refine AWP.skip ?_
      refine athen_n ?_
      refine AWP.seq ?_
      refine AWP.region ?_
      refine rC (Calm.move rfl) ?_
      refine rC (Calm.lenSl Try.underlying22 rfl) ?_
      refine rC (Calm.assign rfl) ?_
      refine arun_nil ?_
      refine athen_n ?_
      refine AWP.sub [(0, _), (1, _), (2, _), (6, _), (7, _), (16, _), (8, _)] ⟨rfl, rfl, rfl, rfl, rfl, rfl, rfl, trivial⟩ ?_
      refine AWP.seq ?_
      refine AWP.seq ?_
      refine AWP.region ?_
      refine rC (Calm.move rfl) ?_
      refine rC (Calm.move rfl) ?_
      refine rC (Calm.bin rfl rfl b_eql) ?_
      refine arun_nil ?_
      refine athen_n ?_
      refine AWP.sub [(0, _), (1, _), (2, _), (6, _), (7, _), (16, _), (8, _), (22, _)] ⟨rfl, rfl, rfl, rfl, rfl, rfl, rfl, rfl, trivial⟩ ?_
      refine AWP.condT rfl (by first | rfl | (simp; done) | (simp; omega)) ?_
      refine AWP.seq ?_
      refine AWP.region ?_
      refine rC (Calm.move rfl) ?_
      refine rC (Calm.move rfl) ?_
      refine ARun.appendOK (n := 2) (o := none) (k := 0) (m := 1) (cs := []) (lit_lt rfl) ty_sl_22 rfl rfl hfl ho happ rfl (src_own (Mem.own_set_same _ _ _) List.prefix_rfl) rfl hx1 (by omega) (by omega) ?_
      intro o' ho'
      refine rC (Calm.assign rfl) ?_
      refine arun_nil ?_
      refine athen_n ?_
      refine AWP.sub [(0, _), (1, _), (2, _), (6, _), (7, _), (16, _), (8, _), (22, _)] ⟨rfl, rfl, rfl, rfl, rfl, rfl, rfl, rfl, trivial⟩ ?_
      refine AWP.ret ?_
      refine athen_ret ?_
      refine ⟨_, _, ⟨_, _, rfl, rfl, rfl⟩, Mem.Less.refl _, ?_⟩
      exact ⟨o', ho', rfl, rfl⟩
    | some q =>
      obtain ⟨b, c⟩ := q
      have hc := (ho.own b c rfl).2
      refine ACall.enter (args := [outV (some (b, c)) l.length, .int .i64 (l.length : Int), .slice (some ⟨t, 0, none⟩) 1 1]) (rs := [.tmp 6]) 95 [(0, outV (some (b, c)) l.length), (1, .int .i64 (l.length : Int)), (2, .slice (some ⟨t, 0, none⟩) 1 1)] Try.func84 rfl rfl (Nat.le_of_ble_eq_true rfl) rfl ⟨rfl, rfl, rfl, trivial⟩ ?_
      refine AWP.seq ?_
      refine AWP.region ?_
      refine rC (Calm.assign rfl) ?_
      refine arun_nil ?_
      refine athen_n ?_
      refine AWP.seq ?_
      refine AWP.region ?_
      refine rC (Calm.move rfl) ?_
      refine rC (Calm.move rfl) ?_
      refine rC ((by first | exact Calm.sliceSl Try.underlying22 ty_size_54 rfl (bnd_none _ _) (by simp) (bnd_none _ _) (bnd_some _ _ rfl (by omega) (by omega)) | exact Calm.sliceNil Try.underlying22 ty_size_54 rfl (bnd_none _ _) (by simp) (bnd_none _ _) (bnd_zero _ _ rfl))) ?_
      refine arun_nil ?_
      refine athen_n ?_
      refine AWP.sub [(0, _), (1, _), (2, _), (6, _)] ⟨rfl, rfl, rfl, rfl, trivial⟩ ?_
      refine AWP.seq ?_
      refine AWP.region ?_
      refine rC (Calm.move rfl) ?_
      refine rC (Calm.lenSl Try.underlying22 rfl) ?_
      refine rC (Calm.assign rfl) ?_
      refine arun_nil ?_
      refine athen_n ?_
      refine AWP.sub [(0, _), (1, _), (2, _), (6, _), (7, _)] ⟨rfl, rfl, rfl, rfl, rfl, trivial⟩ ?_
      refine AWP.seq ?_
      refine AWP.seq ?_
      refine AWP.region ?_
      refine rC (Calm.move rfl) ?_
      refine rC (Calm.bin rfl rfl b_eql) ?_
      refine arun_nil ?_
      refine athen_n ?_
      refine AWP.sub [(0, _), (1, _), (2, _), (6, _), (7, _), (16, _)] ⟨rfl, rfl, rfl, rfl, rfl, rfl, trivial⟩ ?_
      refine AWP.condF rfl (by first | rfl | (simp; done) | (simp; omega)) ?_
      refine AWP.skip ?_
      refine athen_n ?_
      refine AWP.seq ?_
      refine AWP.region ?_
      refine rC (Calm.move rfl) ?_
      refine rC (Calm.lenSl Try.underlying22 rfl) ?_
      refine rC (Calm.assign rfl) ?_
      refine arun_nil ?_
      refine athen_n ?_
      refine AWP.sub [(0, _), (1, _), (2, _), (6, _), (7, _), (16, _), (8, _)] ⟨rfl, rfl, rfl, rfl, rfl, rfl, rfl, trivial⟩ ?_
      refine AWP.seq ?_
      refine AWP.seq ?_
      refine AWP.region ?_
      refine rC (Calm.move rfl) ?_
      refine rC (Calm.move rfl) ?_
      refine rC (Calm.bin rfl rfl b_eql) ?_
      refine arun_nil ?_
      refine athen_n ?_
      refine AWP.sub [(0, _), (1, _), (2, _), (6, _), (7, _), (16, _), (8, _), (22, _)] ⟨rfl, rfl, rfl, rfl, rfl, rfl, rfl, rfl, trivial⟩ ?_
      refine AWP.condT rfl (by first | rfl | (simp; done) | (simp; omega)) ?_
      refine AWP.seq ?_
      refine AWP.region ?_
      refine rC (Calm.move rfl) ?_
      refine rC (Calm.move rfl) ?_
      refine ARun.appendOK (n := 2) (o := some (b, c)) (k := l.length) (m := 1) (cs := l.flatMap extF) (lit_lt rfl) ty_sl_22 rfl rfl hfl ho happ rfl (src_own (Mem.own_set_same _ _ _) List.prefix_rfl) rfl hx1 (by omega) (by omega) ?_
      intro o' ho'
      refine rC (Calm.assign rfl) ?_
      refine arun_nil ?_
      refine athen_n ?_
      refine AWP.sub [(0, _), (1, _), (2, _), (6, _), (7, _), (16, _), (8, _), (22, _)] ⟨rfl, rfl, rfl, rfl, rfl, rfl, rfl, rfl, trivial⟩ ?_
      refine AWP.ret ?_
      refine athen_ret ?_
      refine ⟨_, _, ⟨_, _, rfl, rfl, rfl⟩, Mem.Less.refl _, ?_⟩
      exact ⟨o', ho', rfl, rfl⟩
  · obtain ⟨⟨b, c⟩, rfl⟩ : ∃ q, o = some q := by
      cases o with
      | none => have := ho.nil rfl; omega
      | some q => exact ⟨q, rfl⟩
    have hc := (ho.own b c rfl).2
    have hfb := (ho.own b c rfl).1
    obtain ⟨htB, htb⟩ := fresh_set ht
    have hA := flat_length ext_len (l.take i)
    have hD := flat_length ext_len (l.drop i)
    rw [List.length_take, Nat.min_eq_left hi] at hA
    rw [List.length_drop] at hD
    have hsplit := flat_take (n := 2) (f := extF) l i
    have hsl : (spl (l.flatMap extF) (0 + (i + 1) * 2) ((l.drop i).flatMap extF)).length = l.length * 2 + 2 := by
      unfold spl; simp only [List.length_append, List.length_take, List.length_drop, hfl, hD]; omega
    rw [ins_flat]
    dsimp only [outN, outV]
    by_cases hroom : l.length + 1 ≤ c
    · skip
      refine ACall.enter (args := [.slice (some ⟨b, 0, none⟩) l.length c, .int .i64 (i : Int), .slice (some ⟨t, 0, none⟩) 1 1]) (rs := [.tmp 6]) 95 [(0, .slice (some ⟨b, 0, none⟩) l.length c), (1, .int .i64 (i : Int)), (2, .slice (some ⟨t, 0, none⟩) 1 1)] Try.func84 rfl rfl (Nat.le_of_ble_eq_true rfl) rfl ⟨rfl, rfl, rfl, trivial⟩ ?_
      refine AWP.seq ?_
      refine AWP.region ?_
      refine rC (Calm.assign rfl) ?_
      refine arun_nil ?_
      refine athen_n ?_
      refine AWP.seq ?_
      refine AWP.region ?_
      refine rC (Calm.move rfl) ?_
      refine rC (Calm.move rfl) ?_
      refine rC ((by first | exact Calm.sliceSl Try.underlying22 ty_size_54 rfl (bnd_none _ _) (by simp) (bnd_none _ _) (bnd_some _ _ rfl (by omega) (by omega)) | exact Calm.sliceNil Try.underlying22 ty_size_54 rfl (bnd_none _ _) (by simp) (bnd_none _ _) (bnd_zero _ _ rfl))) ?_
      refine arun_nil ?_
      refine athen_n ?_
      refine AWP.sub [(0, _), (1, _), (2, _), (6, _)] ⟨rfl, rfl, rfl, rfl, trivial⟩ ?_
      refine AWP.seq ?_
      refine AWP.region ?_
      refine rC (Calm.move rfl) ?_
      refine rC (Calm.lenSl Try.underlying22 rfl) ?_
      refine rC (Calm.assign rfl) ?_
      refine arun_nil ?_
      refine athen_n ?_
      refine AWP.sub [(0, _), (1, _), (2, _), (6, _), (7, _)] ⟨rfl, rfl, rfl, rfl, rfl, trivial⟩ ?_
      refine AWP.seq ?_
      refine AWP.seq ?_
      refine AWP.region ?_
      refine rC (Calm.move rfl) ?_
      refine rC (Calm.bin rfl rfl b_eql) ?_
      refine arun_nil ?_
      refine athen_n ?_
      refine AWP.sub [(0, _), (1, _), (2, _), (6, _), (7, _), (16, _)] ⟨rfl, rfl, rfl, rfl, rfl, rfl, trivial⟩ ?_
      refine AWP.condF rfl (by first | rfl | (simp; done) | (simp; omega)) ?_
      refine AWP.skip ?_
      refine athen_n ?_
      refine AWP.seq ?_
      refine AWP.region ?_
      refine rC (Calm.move rfl) ?_
      refine rC (Calm.lenSl Try.underlying22 rfl) ?_
      refine rC (Calm.assign rfl) ?_
      refine arun_nil ?_
      refine athen_n ?_
      refine AWP.sub [(0, _), (1, _), (2, _), (6, _), (7, _), (16, _), (8, _)] ⟨rfl, rfl, rfl, rfl, rfl, rfl, rfl, trivial⟩ ?_
      refine AWP.seq ?_
      refine AWP.seq ?_
      refine AWP.region ?_
      refine rC (Calm.move rfl) ?_
      refine rC (Calm.move rfl) ?_
      refine rC (Calm.bin rfl rfl b_eql) ?_
      refine arun_nil ?_
      refine athen_n ?_
      refine AWP.sub [(0, _), (1, _), (2, _), (6, _), (7, _), (16, _), (8, _), (22, _)] ⟨rfl, rfl, rfl, rfl, rfl, rfl, rfl, rfl, trivial⟩ ?_
      refine AWP.condF rfl (by first | rfl | (simp; done) | (simp; omega)) ?_
      refine AWP.skip ?_
      refine athen_n ?_
      refine AWP.seq ?_
      refine AWP.seq ?_
      refine AWP.region ?_
      refine rC (Calm.move rfl) ?_
      refine rC (Calm.move rfl) ?_
      refine rC (Calm.bin rfl rfl b_add_i64) ?_
      refine rC (Calm.move rfl) ?_
      refine rC (Calm.cap Try.underlying22 rfl) ?_
      refine rC (Calm.bin rfl rfl b_gtr) ?_
      refine arun_nil ?_
      refine athen_n ?_
      refine AWP.sub [(0, _), (1, _), (2, _), (6, _), (7, _), (16, _), (8, _), (22, _), (31, _)] ⟨rfl, rfl, rfl, rfl, rfl, rfl, rfl, rfl, rfl, trivial⟩ ?_
      refine AWP.condF rfl (by first | rfl | (simp; done) | (simp; omega)) ?_
      refine AWP.skip ?_
      refine athen_n ?_
      refine AWP.seq ?_
      refine AWP.region ?_
      refine rC (Calm.move rfl) ?_
      refine rC (Calm.move rfl) ?_
      refine rC (Calm.move rfl) ?_
      refine rC (Calm.bin rfl rfl b_add_i64) ?_
      refine rC (Calm.sliceHi (l.length + 1) Try.underlying22 ty_size_54 rfl rfl (by omega) (by omega)) ?_
      refine rC (Calm.assign rfl) ?_
      refine arun_nil ?_
      refine athen_n ?_
      refine AWP.sub [(0, _), (1, _), (2, _), (6, _), (7, _), (16, _), (8, _), (22, _), (31, _)] ⟨rfl, rfl, rfl, rfl, rfl, rfl, rfl, rfl, rfl, trivial⟩ ?_
      refine AWP.seq ?_
      refine AWP.seq ?_
      refine AWP.region ?_
      refine rC (Calm.move rfl) ?_
      refine rC (Calm.move rfl) ?_
      refine rC (Calm.move rfl) ?_
      refine rC (Calm.move rfl) ?_
      refine rC (Calm.bin rfl rfl b_add_i64) ?_
      refine rC (Calm.sliceLo (i + 1) Try.underlying22 ty_size_54 rfl rfl (by omega) (by omega) (by omega)) ?_
      refine ARun.overlapsNo (T := 22) (tR := 4) (lit_lt rfl) Try.func113 rfl rfl rfl rfl Try.underlying22 ty_size_54 rfl (Mem.own_set_same _ _ _) (Nat.ne_of_beq_eq_false rfl) (show 0 < 2 from by decide) own_ (by simp only [hfl]; omega) htb ?_
      refine rC (Calm.un rfl (una_not _)) ?_
      refine arun_nil ?_
      refine athen_n ?_
      refine AWP.sub [(0, _), (1, _), (2, _), (6, _), (7, _), (16, _), (8, _), (22, _), (31, _), (68, _)] ⟨rfl, rfl, rfl, rfl, rfl, rfl, rfl, rfl, rfl, rfl, trivial⟩ ?_
      refine AWP.condT rfl (by first | rfl | (simp; done) | (simp; omega)) ?_
      refine AWP.seq ?_
      refine AWP.draw [(0, true), (1, true), (2, true), (3, true), (4, true), (5, true), (6, true), (7, true), (8, false)] [8] mixed (by kernel_rfl) ?_
      refine dP (hc := fun _ => Calm.move rfl) (h := ?_)
      refine dP (hc := fun _ => Calm.move rfl) (h := ?_)
      refine dP (hc := fun _ => Calm.move rfl) (h := ?_)
      refine dP (hc := fun _ => Calm.bin rfl rfl b_add_i64) (h := ?_)
      refine dP (hc := fun _ => Calm.sliceLo (i + 1) Try.underlying22 ty_size_54 rfl rfl (by omega) (by omega) (by omega)) (h := ?_)
      refine dP (hc := fun _ => Calm.move rfl) (h := ?_)
      refine dP (hc := fun _ => Calm.move rfl) (h := ?_)
      refine dP (hc := fun _ => Calm.sliceLo (i) Try.underlying22 ty_size_54 rfl rfl (by omega) (by omega) (by omega)) (h := ?_)
      refine draw_only rfl ?_
      refine ARun.copyK (n := 2) (q := l.length - i) (news := (l.drop i).flatMap extF) (lit_lt rfl) ty_sl_22 rfl own_ (by simp only [hfl]; omega) rfl (by omega) (Mem.own_knows (r := ⟨extT, l.flatMap extF, c * 2⟩) own_ _ _ (fun j v hj => by simp only; rw [hsplit, List.getElem?_append_right (by omega), ← hj]; congr 1; omega)) hD (ext_one _) (.inr (by simp only [hD]; omega)) ?_
      refine arun_nil ⟨fun h => absurd h (by decide), ?_⟩
      refine draw_nil ?_
      refine athen_n ?_
      refine AWP.sub [(0, _), (1, _), (2, _), (6, _), (7, _), (16, _), (8, _), (22, _), (31, _), (68, _)] ⟨rfl, rfl, rfl, rfl, rfl, rfl, rfl, rfl, rfl, rfl, trivial⟩ ?_
      refine AWP.seq ?_
      refine AWP.region ?_
      refine rC (Calm.move rfl) ?_
      refine rC (Calm.move rfl) ?_
      refine rC (Calm.sliceLo (i) Try.underlying22 ty_size_54 rfl rfl (by omega) (by omega) (by omega)) ?_
      refine rC (Calm.move rfl) ?_
      refine ARun.copyK (n := 2) (q := 1) (news := extF x) (lit_lt rfl) ty_sl_22 rfl own_ (by simp only [hsl]; omega) rfl (by omega) (Mem.own_knows (r := ⟨extT, extF x, 2⟩) own_ 0 _ (fun j v hj => by rw [Nat.zero_add]; exact hj)) rfl hx1 (.inr (by simp only [ext_len]; omega)) ?_
      refine arun_nil ?_
      refine athen_n ?_
      refine AWP.sub [(0, _), (1, _), (2, _), (6, _), (7, _), (16, _), (8, _), (22, _), (31, _), (68, _)] ⟨rfl, rfl, rfl, rfl, rfl, rfl, rfl, rfl, rfl, rfl, trivial⟩ ?_
      refine AWP.seq ?_
      refine AWP.region ?_
      refine rC (Calm.move rfl) ?_
      refine rC (Calm.assign rfl) ?_
      refine arun_nil ?_
      refine athen_n ?_
      refine AWP.sub [(0, _), (1, _), (2, _), (6, _), (7, _), (16, _), (8, _), (22, _), (31, _), (68, _)] ⟨rfl, rfl, rfl, rfl, rfl, rfl, rfl, rfl, rfl, rfl, trivial⟩ ?_
      refine AWP.ret ?_
      refine athen_ret ?_
      refine ⟨_, B.set b ⟨extT, spl (spl (l.flatMap extF) (0 + (i + 1) * 2) ((l.drop i).flatMap extF)) (0 + i * 2) (extF x), c * 2⟩, ⟨_, _, rfl, rfl, rfl⟩, less_, ?_⟩
      exact ⟨some (b, c), okO_own hfb hroom, rfl, by rw [hsplit, room_cells hA rfl (by rw [hD]; omega)]⟩
    · skip
      refine ACall.enter (args := [.slice (some ⟨b, 0, none⟩) l.length c, .int .i64 (i : Int), .slice (some ⟨t, 0, none⟩) 1 1]) (rs := [.tmp 6]) 95 [(0, .slice (some ⟨b, 0, none⟩) l.length c), (1, .int .i64 (i : Int)), (2, .slice (some ⟨t, 0, none⟩) 1 1)] Try.func84 rfl rfl (Nat.le_of_ble_eq_true rfl) rfl ⟨rfl, rfl, rfl, trivial⟩ ?_
      refine AWP.seq ?_
      refine AWP.region ?_
      refine rC (Calm.assign rfl) ?_
      refine arun_nil ?_
      refine athen_n ?_
      refine AWP.seq ?_
      refine AWP.region ?_
      refine rC (Calm.move rfl) ?_
      refine rC (Calm.move rfl) ?_
      refine rC ((by first | exact Calm.sliceSl Try.underlying22 ty_size_54 rfl (bnd_none _ _) (by simp) (bnd_none _ _) (bnd_some _ _ rfl (by omega) (by omega)) | exact Calm.sliceNil Try.underlying22 ty_size_54 rfl (bnd_none _ _) (by simp) (bnd_none _ _) (bnd_zero _ _ rfl))) ?_
      refine arun_nil ?_
      refine athen_n ?_
      refine AWP.sub [(0, _), (1, _), (2, _), (6, _)] ⟨rfl, rfl, rfl, rfl, trivial⟩ ?_
      refine AWP.seq ?_
      refine AWP.region ?_
      refine rC (Calm.move rfl) ?_
      refine rC (Calm.lenSl Try.underlying22 rfl) ?_
      refine rC (Calm.assign rfl) ?_
      refine arun_nil ?_
      refine athen_n ?_
      refine AWP.sub [(0, _), (1, _), (2, _), (6, _), (7, _)] ⟨rfl, rfl, rfl, rfl, rfl, trivial⟩ ?_
      refine AWP.seq ?_
      refine AWP.seq ?_
      refine AWP.region ?_
      refine rC (Calm.move rfl) ?_
      refine rC (Calm.bin rfl rfl b_eql) ?_
      refine arun_nil ?_
      refine athen_n ?_
      refine AWP.sub [(0, _), (1, _), (2, _), (6, _), (7, _), (16, _)] ⟨rfl, rfl, rfl, rfl, rfl, rfl, trivial⟩ ?_
      refine AWP.condF rfl (by first | rfl | (simp; done) | (simp; omega)) ?_
      refine AWP.skip ?_
      refine athen_n ?_
      refine AWP.seq ?_
      refine AWP.region ?_
      refine rC (Calm.move rfl) ?_
      refine rC (Calm.lenSl Try.underlying22 rfl) ?_
      refine rC (Calm.assign rfl) ?_
      refine arun_nil ?_
      refine athen_n ?_
      refine AWP.sub [(0, _), (1, _), (2, _), (6, _), (7, _), (16, _), (8, _)] ⟨rfl, rfl, rfl, rfl, rfl, rfl, rfl, trivial⟩ ?_
      refine AWP.seq ?_
      refine AWP.seq ?_
      refine AWP.region ?_
      refine rC (Calm.move rfl) ?_
      refine rC (Calm.move rfl) ?_
      refine rC (Calm.bin rfl rfl b_eql) ?_
      refine arun_nil ?_
      refine athen_n ?_
      refine AWP.sub [(0, _), (1, _), (2, _), (6, _), (7, _), (16, _), (8, _), (22, _)] ⟨rfl, rfl, rfl, rfl, rfl, rfl, rfl, rfl, trivial⟩ ?_
      refine AWP.condF rfl (by first | rfl | (simp; done) | (simp; omega)) ?_
      refine AWP.skip ?_
      refine athen_n ?_
      refine AWP.seq ?_
      refine AWP.seq ?_
      refine AWP.region ?_
      refine rC (Calm.move rfl) ?_
      refine rC (Calm.move rfl) ?_
      refine rC (Calm.bin rfl rfl b_add_i64) ?_
      refine rC (Calm.move rfl) ?_
      refine rC (Calm.cap Try.underlying22 rfl) ?_
      refine rC (Calm.bin rfl rfl b_gtr) ?_
      refine arun_nil ?_
      refine athen_n ?_
      refine AWP.sub [(0, _), (1, _), (2, _), (6, _), (7, _), (16, _), (8, _), (22, _), (31, _)] ⟨rfl, rfl, rfl, rfl, rfl, rfl, rfl, rfl, rfl, trivial⟩ ?_
      refine AWP.condT rfl (by first | rfl | (simp; done) | (simp; omega)) ?_
      refine AWP.seq ?_
      refine AWP.region ?_
      refine rC (Calm.move rfl) ?_
      refine rC (Calm.move rfl) ?_
      refine rC (Calm.sliceHi (i) Try.underlying22 ty_size_54 rfl rfl (by omega) (by omega)) ?_
      refine rC (Calm.move rfl) ?_
      refine rC (Calm.move rfl) ?_
      refine rC (Calm.bin rfl rfl b_add_i64) ?_
      refine rC (Calm.move rfl) ?_
      refine rC (Calm.bin rfl rfl b_sub_i64) ?_
      refine ARun.appendMake (k := i) (m := l.length + 1 - i) (xs := (l.take i).flatMap extF) (c := c) (lit_lt rfl) ty_sl_22 rfl Try.underlying3 rfl hA ((rds_prefix (r := ⟨extT, l.flatMap extF, c * 2⟩) own_ (by rw [hsplit]; exact List.prefix_append _ _)).knows) (congrArg some (congrArg (Value.int .i64) (by omega))) (by omega) (by omega) (by omega) ?_
      intro b' c' zs hfb' hc' hzs
      obtain ⟨hfb1, htb'⟩ := fresh_set hfb'
      obtain ⟨hfb2, hbb'⟩ := fresh_set hfb1
      have hbb'' := Ne.symm hbb'
      have htb'' := Ne.symm htb'
      have hz1 : (((l.take i).flatMap extF) ++ zs).length = l.length * 2 + 2 := by simp only [List.length_append, hA, hzs]; omega
      refine rC (Calm.assign rfl) ?_
      refine arun_nil ?_
      refine athen_n ?_
      refine AWP.sub [(0, _), (1, _), (2, _), (6, _), (7, _), (16, _), (8, _), (22, _), (31, _), (9, _)] ⟨rfl, rfl, rfl, rfl, rfl, rfl, rfl, rfl, rfl, rfl, trivial⟩ ?_
      refine AWP.seq ?_
      refine AWP.region ?_
      refine rC (Calm.move rfl) ?_
      refine rC (Calm.move rfl) ?_
      refine rC (Calm.sliceLo (i) Try.underlying22 ty_size_54 rfl rfl (by omega) (by omega) (by omega)) ?_
      refine rC (Calm.move rfl) ?_
      refine ARun.copyK (n := 2) (q := 1) (news := extF x) (lit_lt rfl) ty_sl_22 rfl (Mem.own_set_same _ _ _) (by simp only [hz1]; omega) rfl (by omega) (Mem.own_knows (r := ⟨extT, extF x, 2⟩) own_ 0 _ (fun j v hj => by rw [Nat.zero_add]; exact hj)) rfl hx1 (.inl (by simp only [hz1, ext_len]; omega)) ?_
      have hz2 : (spl ((l.take i).flatMap extF ++ zs) (0 + i * 2) (extF x)).length = l.length * 2 + 2 := by rw [spl_length _ _ _ (by simp only [hz1, ext_len]; omega), hz1]
      refine arun_nil ?_
      refine athen_n ?_
      refine AWP.sub [(0, _), (1, _), (2, _), (6, _), (7, _), (16, _), (8, _), (22, _), (31, _), (9, _)] ⟨rfl, rfl, rfl, rfl, rfl, rfl, rfl, rfl, rfl, rfl, trivial⟩ ?_
      refine AWP.seq ?_
      refine AWP.draw [(0, true), (1, true), (2, true), (3, true), (4, true), (5, true), (6, true), (7, true), (8, false)] [8] mixed (by kernel_rfl) ?_
      refine dP (hc := fun _ => Calm.move rfl) (h := ?_)
      refine dP (hc := fun _ => Calm.move rfl) (h := ?_)
      refine dP (hc := fun _ => Calm.move rfl) (h := ?_)
      refine dP (hc := fun _ => Calm.bin rfl rfl b_add_i64) (h := ?_)
      refine dP (hc := fun _ => Calm.sliceLo (i + 1) Try.underlying22 ty_size_54 rfl rfl (by omega) (by omega) (by omega)) (h := ?_)
      refine dP (hc := fun _ => Calm.move rfl) (h := ?_)
      refine dP (hc := fun _ => Calm.move rfl) (h := ?_)
      refine dP (hc := fun _ => Calm.sliceLo (i) Try.underlying22 ty_size_54 rfl rfl (by omega) (by omega) (by omega)) (h := ?_)
      refine draw_only rfl ?_
      refine ARun.copyK (n := 2) (q := l.length - i) (news := (l.drop i).flatMap extF) (lit_lt rfl) ty_sl_22 rfl (Mem.own_set_same _ _ _) (by simp only [hz2]; omega) rfl (by omega) (Mem.own_knows (r := ⟨extT, l.flatMap extF, c * 2⟩) own_ _ _ (fun j v hj => by simp only; rw [hsplit, List.getElem?_append_right (by omega), ← hj]; congr 1; omega)) hD (ext_one _) (.inl (by simp only [hz2, hD]; omega)) ?_
      refine arun_nil ⟨fun h => absurd h (by decide), ?_⟩
      refine draw_nil ?_
      refine athen_n ?_
      refine AWP.sub [(0, _), (1, _), (2, _), (6, _), (7, _), (16, _), (8, _), (22, _), (31, _), (9, _)] ⟨rfl, rfl, rfl, rfl, rfl, rfl, rfl, rfl, rfl, rfl, trivial⟩ ?_
      refine AWP.seq ?_
      refine AWP.region ?_
      refine rC (Calm.move rfl) ?_
      refine rC (Calm.assign rfl) ?_
      refine arun_nil ?_
      refine athen_n ?_
      refine AWP.sub [(0, _), (1, _), (2, _), (6, _), (7, _), (16, _), (8, _), (22, _), (31, _), (9, _)] ⟨rfl, rfl, rfl, rfl, rfl, rfl, rfl, rfl, rfl, rfl, trivial⟩ ?_
      refine AWP.ret ?_
      refine athen_ret ?_
      refine ⟨_, B.set b' ⟨extT, spl (spl ((l.take i).flatMap extF ++ zs) (0 + i * 2) (extF x)) (0 + (i + 1) * 2) ((l.drop i).flatMap extF), c' * 2⟩, ⟨_, _, rfl, rfl, rfl⟩, less_, ?_⟩
      exact ⟨some (b', c'), okO_own hfb2 (by omega), congrArg (fun n => Value.slice (some ⟨b', 0, none⟩) n c') (by omega), by rw [grow_cells hA rfl (by rw [hD, hzs]; omega)]⟩
end Go.Proofs.Ytkeiphkccnfhoaa
