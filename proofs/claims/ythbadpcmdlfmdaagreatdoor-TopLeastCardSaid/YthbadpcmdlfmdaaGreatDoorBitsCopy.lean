/-
  The walk of Copy: right bits are put behind.
-/
import Derived.Test.YthbadpcmdlfmdaaGreatDoorBitsGet
import Derived.Test.YthbadpcmdlfmdaaGreatDoorBitsAdd
namespace Go.Proofs.YthbadpcmdlfmdaaGreatDoor
open Go.RowKit
open Bits
set_option maxRecDepth 8000
set_option linter.unusedVariables false
namespace Bits
theorem numB_slc (B : List UInt8) (p k : Nat) : numB (num (slc B p k)) k = slc B p k := by
  have := numB_num (slc B p k); rwa [slc_length] at this
theorem num_u64 (B : List UInt8) (p k : Nat) (h : k ≤ 64) : num (slc B p k) ≤ 18446744073709551615 := by
  have h1 := num_lt (slc B p k)
  rw [slc_length] at h1
  have h3 : 2 ^ k ≤ 2 ^ 64 := Nat.pow_le_pow_right (by decide) h
  omega
theorem copy_step (L : List Bool) (B : List UInt8) (q k N V : Nat) (hq : q < N) (hk : k = min 8 (N - q)) (hV : V = num (slc B q k)) :
    L ++ slc B 0 (min q N) ++ numB V k = L ++ slc B 0 (min (q + 8) N) := by
  rw [hV, numB_slc, List.append_assoc]
  congr 1
  rw [Nat.min_eq_left (by omega : q ≤ N), show min (q + 8) N = q + k from by omega, slc_add, Nat.zero_add]
end Bits
set_option maxHeartbeats 1000000 in
theorem bits_Copy (b : Nat) (s : ByteArray) (N : Nat) (L : List Bool) (outv : Value) (w : World) (hs : s.size = (N + 7) / 8) (hN : N ≤ 1048576) (hlen : L.length + N ≤ 1048576) (hw : Wr w b outv L) :
    Calls Tryz.prog 33 #[.pointer (some ⟨b, 0, none⟩), .agg #[.string s, .int .i64 N]] w fun e w' => e = .returned (.tuple #[]) ∧
      ∃ nv, Wr w' b nv (L ++ upto s.data.toList N) ∧ Touch (own b outv) w w' ∧ (nv.ownBlock = outv.ownBlock ∨ ∀ k, nv.ownBlock = some k → w.heap.size ≤ k) := by
  have hs2 : s.size ≤ 200000 := by omega
  have HS := Lib.hid hs
  clear hs
  have hbl := hw.lt
  go_enter Tryz.func33, Tryz.ntmps33
  go_wp2_with fail
  refine wp_world fun W1 hW1 => ?_
  have t1 : Touch (own b outv) w W1 := by rw [hW1]; exact ((Touch.refl _ _).alloc _).alloc _
  have m1 : Wr W1 b outv L := hw.touch (S := fun _ => False) (by rw [hW1]; exact ((Touch.refl _ _).alloc _).alloc _) (fun x => x) (fun _ _ x => x)
  have hsz : W1.heap.size = w.heap.size + 2 := by rw [hW1]; simp
  have d0 : W1.cell? ⟨w.heap.size, 1, none⟩ = some (.int .i64 N) := by rw [hW1]; simp [go_sem]
  have d1 : W1.cell? ⟨w.heap.size + 1, 0, none⟩ = some (.string s) := by rw [hW1]; simp [go_sem]
  have d2 : W1.cell? ⟨w.heap.size + 1, 1, none⟩ = some (.int .i64 N) := by rw [hW1]; simp [go_sem]
  have hob : ∀ k, outv.ownBlock = some k → k ≠ w.heap.size ∧ k ≠ w.heap.size + 1 := fun k hk => by
    have := (hw.own.lt k hk).2; omega
  have HSZ := Lib.hid hsz
  have HOB := Lib.hid hob
  clear hW1 hsz hob
  go_loopw [5] (fun v5 wr => ∃ (q : Nat) (ov : Value), v5 = .int .i64 q ∧ q ≤ N + 7 ∧ q % 8 = 0 ∧ Wr wr b ov (L ++ slc s.data.toList 0 (min q N)) ∧ Touch (own b outv) w wr ∧ wr.cell? ⟨w.heap.size, 1, none⟩ = some (.int .i64 N) ∧ wr.cell? ⟨w.heap.size + 1, 0, none⟩ = some (.string s) ∧ wr.cell? ⟨w.heap.size + 1, 1, none⟩ = some (.int .i64 N) ∧ w.heap.size + 2 ≤ wr.heap.size ∧ Hid (ov.ownBlock = outv.ownBlock ∨ ∀ k, ov.ownBlock = some k → w.heap.size + 2 ≤ k)) (fun v5 _ => N + 8 - (intOf v5).toNat)
  case atStart => exact ⟨0, outv, rfl, by omega, rfl, by rw [Nat.zero_min, slc_zero, List.append_nil]; exact m1, t1, d0, d1, d2, by rw [HSZ.out]; exact Nat.le_refl _, Lib.hid (.inl rfl)⟩
  case round =>
    clear d0 d1 d2 m1 t1
    obtain ⟨q, ov, rfl, hq, hq8, hm, ht, d0, d1, d2, hge, HO⟩ := hrel
    obtain ⟨wo, rfl⟩ : ∃ wo : World, wo = wr := ⟨_, rfl⟩
    have HQ8 := Lib.hid hq8
    clear hq8
    have hml := hm.lt
    by_cases hlt : q < N
    · have hlt' : (q : Int) < N := by omega
      have HM := Lib.hid hm
      clear hm
      have hN' : (N : Int) ≤ 1048576 := by omega
      have hsz8 : (N : Int) ≤ 8 * s.size := by have := HS.out; omega
      by_cases h8 : N - q < 8
      · have h8' : (N : Int) - q < 8 := by omega
        go_wp2_with fail
        (refine (bits_getI s hs2 N q _ _ (by omega) (by omega) (by omega) (by omega)).mono ?_); rintro e w1 ⟨rfl, hb1⟩
        obtain ⟨V, hV⟩ : ∃ V : Nat, V = num (slc s.data.toList (q : Int).toNat ((N : Int) - q).toNat) := ⟨_, rfl⟩
        rw [← hV]
        have hV2 : V ≤ 18446744073709551615 := by rw [hV]; exact num_u64 _ _ _ (by omega)
        have HV := Lib.hid hV
        clear hV
        have t1 : Touch (own b outv) w w1 := ht.trans (below_touch hb1 (fun _ => False)) fun _ _ x => x.elim
        have m1 := HM.out.touch (S := fun _ => False) (below_touch hb1 _) (fun x => x) (fun _ _ x => x)
        have e0 := cell_later hb1 d0
        have e1 := cell_later hb1 d1
        have e2 := cell_later hb1 d2
        have hge1 : w.heap.size + 2 ≤ w1.heap.size := Nat.le_trans hge hb1.size
        have HB1 := Lib.hid hb1
        clear hb1 ht d0 d1 d2 hge
        go_wp2_with fail
        (refine (bits_AddI b V _ _ ov _ (by omega) (by omega) (by omega) (by omega) (by rw [List.length_append, slc_length]; omega) m1).mono ?_); rintro e w2 ⟨rfl, nv, m2, t2, HO2⟩
        have hov : ∀ k, ov.ownBlock = some k → k ≠ w.heap.size ∧ k ≠ w.heap.size + 1 := fun k hk => by
          rcases HO.out with ho | ho
          · exact HOB.out k (ho ▸ hk)
          · have := ho k hk; omega
        have hn0 : ¬ own b ov w.heap.size := by
          rintro (h | h)
          · omega
          · exact (hov _ h).1 rfl
        have hn1 : ¬ own b ov (w.heap.size + 1) := by
          rintro (h | h)
          · omega
          · exact (hov _ h).2 rfl
        have g0 := (t2.cell (p := ⟨w.heap.size, 1, none⟩) (by show w.heap.size < _; omega) hn0).trans e0
        have g1 := (t2.cell (p := ⟨w.heap.size + 1, 0, none⟩) (by show w.heap.size + 1 < _; omega) hn1).trans e1
        have g2 := (t2.cell (p := ⟨w.heap.size + 1, 1, none⟩) (by show w.heap.size + 1 < _; omega) hn1).trans e2
        have t3 : Touch (own b outv) w w2 := t1.trans t2 fun i hi hx => by
          rcases hx with hx | hx
          · exact .inl hx
          · rcases HO.out with ho | ho
            · exact .inr (ho ▸ hx)
            · have := ho i hx; omega
        have HM2 := Lib.hid m2
        have HO3 : Hid (nv.ownBlock = outv.ownBlock ∨ ∀ k, nv.ownBlock = some k → w.heap.size + 2 ≤ k) := Lib.hid (by
          rcases HO2 with h | h
          · rcases HO.out with ho | ho
            · exact .inl (h.trans ho)
            · exact .inr fun k hk => ho k (h ▸ hk)
          · exact .inr fun k hk => Nat.le_trans hge1 (h k hk))
        have hge2 := Nat.le_trans hge1 t2.size
        clear m2 t2 HO2 m1 t1 e0 e1 e2 hov hn0 hn1
        go_wp2_with fail
        go_roundw
        case rel =>
          refine ⟨q + 8, nv, by go_num, by omega, by have := HQ8.out; omega, ?_, t3, g0, g1, g2, hge2, HO3⟩
          have h9 := HM2.out
          rw [copy_step L s.data.toList q _ N _ hlt (by omega) (by have := HV.out; simpa using this)] at h9
          exact h9
        case measure => first | (simp [intOf]; done) | (simp [intOf]; omega)
      · have h8' : (8 : Int) ≤ (N : Int) - q := by omega
        go_wp2_with fail
        (refine (bits_getI s hs2 N q _ _ (by omega) (by omega) (by omega) (by omega)).mono ?_); rintro e w1 ⟨rfl, hb1⟩
        obtain ⟨V, hV⟩ : ∃ V : Nat, V = num (slc s.data.toList (q : Int).toNat ((8 : Int)).toNat) := ⟨_, rfl⟩
        rw [← hV]
        have hV2 : V ≤ 18446744073709551615 := by rw [hV]; exact num_u64 _ _ _ (by omega)
        have HV := Lib.hid hV
        clear hV
        have t1 : Touch (own b outv) w w1 := ht.trans (below_touch hb1 (fun _ => False)) fun _ _ x => x.elim
        have m1 := HM.out.touch (S := fun _ => False) (below_touch hb1 _) (fun x => x) (fun _ _ x => x)
        have e0 := cell_later hb1 d0
        have e1 := cell_later hb1 d1
        have e2 := cell_later hb1 d2
        have hge1 : w.heap.size + 2 ≤ w1.heap.size := Nat.le_trans hge hb1.size
        have HB1 := Lib.hid hb1
        clear hb1 ht d0 d1 d2 hge
        go_wp2_with fail
        (refine (bits_AddI b V _ _ ov _ (by omega) (by omega) (by omega) (by omega) (by rw [List.length_append, slc_length]; omega) m1).mono ?_); rintro e w2 ⟨rfl, nv, m2, t2, HO2⟩
        have hov : ∀ k, ov.ownBlock = some k → k ≠ w.heap.size ∧ k ≠ w.heap.size + 1 := fun k hk => by
          rcases HO.out with ho | ho
          · exact HOB.out k (ho ▸ hk)
          · have := ho k hk; omega
        have hn0 : ¬ own b ov w.heap.size := by
          rintro (h | h)
          · omega
          · exact (hov _ h).1 rfl
        have hn1 : ¬ own b ov (w.heap.size + 1) := by
          rintro (h | h)
          · omega
          · exact (hov _ h).2 rfl
        have g0 := (t2.cell (p := ⟨w.heap.size, 1, none⟩) (by show w.heap.size < _; omega) hn0).trans e0
        have g1 := (t2.cell (p := ⟨w.heap.size + 1, 0, none⟩) (by show w.heap.size + 1 < _; omega) hn1).trans e1
        have g2 := (t2.cell (p := ⟨w.heap.size + 1, 1, none⟩) (by show w.heap.size + 1 < _; omega) hn1).trans e2
        have t3 : Touch (own b outv) w w2 := t1.trans t2 fun i hi hx => by
          rcases hx with hx | hx
          · exact .inl hx
          · rcases HO.out with ho | ho
            · exact .inr (ho ▸ hx)
            · have := ho i hx; omega
        have HM2 := Lib.hid m2
        have HO3 : Hid (nv.ownBlock = outv.ownBlock ∨ ∀ k, nv.ownBlock = some k → w.heap.size + 2 ≤ k) := Lib.hid (by
          rcases HO2 with h | h
          · rcases HO.out with ho | ho
            · exact .inl (h.trans ho)
            · exact .inr fun k hk => ho k (h ▸ hk)
          · exact .inr fun k hk => Nat.le_trans hge1 (h k hk))
        have hge2 := Nat.le_trans hge1 t2.size
        clear m2 t2 HO2 m1 t1 e0 e1 e2 hov hn0 hn1
        go_wp2_with fail
        go_roundw
        case rel =>
          refine ⟨q + 8, nv, by go_num, by omega, by have := HQ8.out; omega, ?_, t3, g0, g1, g2, hge2, HO3⟩
          have h9 := HM2.out
          rw [copy_step L s.data.toList q _ N _ hlt (by omega) (by have := HV.out; simpa using this)] at h9
          exact h9
        case measure => first | (simp [intOf]; done) | (simp [intOf]; omega)
    · have hlt' : (N : Int) ≤ q := by omega
      go_wp2_with fail
      go_end0
      refine ⟨rfl, ov, ?_, ht, ?_⟩
      · rw [Nat.min_eq_right (by omega), slc_upto] at hm; exact hm
      · rcases HO.out with ho | ho
        · exact .inl ho
        · exact .inr fun k hk => by have := ho k hk; omega
end Go.Proofs.YthbadpcmdlfmdaaGreatDoor
