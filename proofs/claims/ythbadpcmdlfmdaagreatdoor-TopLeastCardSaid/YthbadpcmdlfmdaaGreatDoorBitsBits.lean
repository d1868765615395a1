/-
  The walk of Bits: all that a Writer has gathered.
-/
import Derived.Test.YthbadpcmdlfmdaaGreatDoorBitsGet
import Derived.Deep.RegionLawGrows
namespace Go.Proofs.YthbadpcmdlfmdaaGreatDoor
open Go.RowKit
open Bits
set_option maxRecDepth 20000
set_option linter.unusedVariables false
/-- 'string(b)' of an owned row of bytes. -/
theorem run_string_own (w : World) (base n : Nat) (v : Value) (l : List UInt8) (h : w.ownsRow base 5 1 v n (l.map fun c => .int .u8 (nb c))) :
    (convert 55 9 v).run Tryz.prog w = .ok (.string (bs l)) w := by
  have hl : l.length = n := by have := h.1; simpa using this
  rcases h.2 with ⟨rfl, h0⟩ | ⟨g, cap, cur, rfl, _⟩
  · have : l = [] := List.eq_nil_of_length_eq_zero (by omega)
    subst this
    exact run_convert_bytes_nil w 55 5 Tryz.underlying55 Tryz.underlying5 0 0 9 Tryz.underlying9
  · refine run_string_row w 55 5 9 Tryz.underlying55 Tryz.underlying5 Tryz.underlying9 g 0 n cap l hl fun j hj => ?_
    rw [Nat.zero_add, h.cellAt j (by omega)]
    simp [hj]
namespace Bits
theorem pack_whole (L : List Bool) (h : L.length % 8 = 0) : whole L = L := by unfold whole; rw [show 8 * (L.length / 8) = L.length from by omega, List.take_length]
/-- The last byte, filled up with 0. -/
theorem pack_last (L : List Bool) (h : L.length % 8 ≠ 0) : pack L = pack (whole L) ++ [UInt8.ofNat (num (rest L) * 2 ^ (8 - L.length % 8))] := by
  have hw := whole_length L
  have hr := rest_length L
  unfold pack
  have e : (L.length + 7) / 8 = ((whole L).length + 7) / 8 + 1 := by rw [hw]; omega
  rw [e, List.range_succ, List.map_append]
  congr 1
  · apply List.map_congr_left
    intro k hk
    simp only [List.mem_range] at hk
    unfold packAt chunk whole
    rw [List.drop_take, List.take_take, Nat.min_eq_left (by omega)]
  · simp only [List.map_cons, List.map_nil]
    unfold packAt chunk
    have e2 : 8 * (((whole L).length + 7) / 8) = 8 * (L.length / 8) := by rw [hw]; omega
    rw [e2]
    have e3 : (L.drop (8 * (L.length / 8))).take 8 = rest L := by unfold rest; rw [List.take_of_length_le (by simp; omega)]
    rw [e3]
    unfold pad8
    rw [num_append, hr, List.length_replicate]
    have : num (List.replicate (8 - L.length % 8) false) = 0 := by
      generalize 8 - L.length % 8 = m
      induction m with
      | zero => rfl
      | succ m ih =>
        rw [List.replicate_succ]
        have := num_append [false] (List.replicate m false)
        rw [List.singleton_append] at this
        rw [this, ih]; simp [num, bit]
    rw [this, Nat.add_zero]
theorem last_lt (L : List Bool) : num (rest L) * 2 ^ (8 - L.length % 8) < 256 := by
  have h := num_lt (rest L)
  rw [rest_length] at h
  have h2 : (num (rest L) + 1) * 2 ^ (8 - L.length % 8) ≤ 2 ^ (L.length % 8) * 2 ^ (8 - L.length % 8) := Nat.mul_le_mul_right _ h
  rw [← Nat.pow_add, show L.length % 8 + (8 - L.length % 8) = 8 from by omega, Nat.add_mul] at h2
  have := Nat.two_pow_pos (8 - L.length % 8)
  omega
theorem last_byte (L : List Bool) : ∃ R : Int, IntKind.u64.wrap (((num (rest L) : Nat) : Int) * 2 ^ (8 - L.length % 8)) = R ∧ IntKind.u8.wrap R = R ∧ R = nb (UInt8.ofNat (num (rest L) * 2 ^ (8 - L.length % 8))) := by
  have h := last_lt L
  refine ⟨_, rfl, ?_⟩
  have e : (((num (rest L) : Nat) : Int) * 2 ^ (8 - L.length % 8)) = ((num (rest L) * 2 ^ (8 - L.length % 8) : Nat) : Int) := by simp
  rw [e, IntWalk.u64_in _ (by omega), IntWalk.u8_in _ (by omega), nb_byte, UInt8.toNat_ofNat', Nat.mod_eq_of_lt h]
  exact ⟨rfl, rfl⟩
end Bits
def only (H k : Nat) : Prop := k = H
theorem only_setCell {H : Nat} {w W : World} (h : Touch (only H) w W) (j : Nat) (v : Value) : Touch (only H) w (W.setCell ⟨H, j, none⟩ v) := Touch.setCell h (p := ⟨H, j, none⟩) (Or.inl (show only H H from rfl)) v
theorem own_touch {S : Nat → Prop} {w w' : World} {base : Nat} {e : TypeId} {size n : Nat} {v : Value} {xs : List Value} (h : w.ownsRow base e size v n xs) (ht : Touch S w w') (hn : ∀ k, v.ownBlock = some k → ¬ S k) : w'.ownsRow base e size v n xs := by
  have hlt := h.lt
  obtain ⟨h1, h2⟩ := h
  refine ⟨h1, ?_⟩
  rcases h2 with h2 | ⟨g, cap, cur, hv, hg, hh, r⟩
  · exact .inl h2
  · have hk : v.ownBlock = some g := by rw [hv]; rfl
    exact .inr ⟨g, cap, cur, hv, hg, by rw [ht.block g (hlt g hk).2 (hn g hk)]; exact hh, r⟩
theorem Wr.drew' {w : World} {b : Nat} {outv : Value} {L : List Bool} (h : Wr w b outv L) : Wr w.drew b outv L := h.keep rfl fun _ _ => rfl
theorem Wr.drewN' {w : World} {b : Nat} {outv : Value} {L : List Bool} (h : Wr w b outv L) (n : Nat) : Wr (w.drewN n) b outv L := h.keep rfl fun _ _ => rfl
set_option maxHeartbeats 1000000 in
theorem bits_Bits0 (b : Nat) (L : List Bool) (outv : Value) (w : World) (hlen : L.length ≤ 1048576) (h0 : L.length % 8 = 0) (hw : Wr w b outv L) :
    Calls Tryz.prog 35 #[.pointer (some ⟨b, 0, none⟩)] w fun e w' => e = .returned (.agg #[.string (bs (pack L)), .int .i64 (L.length : Nat)]) ∧ Below w.heap.size w w' := by
  have kc : ∀ W, Wr W b outv L → (convert 55 9 outv).run Tryz.prog W = .ok (.string (bs (pack L))) W := fun W h => by
    have := h.own
    unfold bytesV at this
    rw [pack_whole L h0] at this
    exact run_string_own W _ _ _ _ this
  have c0 := hw.c0
  have c2 := hw.c2
  rw [h0] at c2
  have hl := hw.lt
  obtain ⟨xs, k, cap, hv⟩ : ∃ (a : Option Addr) (k cap : Nat), outv = .slice a k cap := by
    rcases hw.own.2 with ⟨h1, h2⟩ | ⟨g, cap, cur, h1, _⟩
    · exact ⟨none, 0, 0, h1⟩
    · exact ⟨_, _, cap, h1⟩
  have HW : ∀ W, Touch (fun _ => False) w W → Wr W b outv L := fun W ht => hw.touch ht (fun x => x) (fun _ _ x => x)
  have H0 := Lib.hid h0
  subst hv
  clear h0
  go_enter Tryz.func35, Tryz.ntmps35
  go_wp2_with fail
  have HWA := HW (w.alloc (.cells #[.string ByteArray.empty, .int .i64 0] 47)) ((Touch.refl _ _).alloc _)
  have HWH := Lib.hid HW
  clear HW c0 c2
  go_region_held3 (fun W => Wr W b (.slice xs k cap) L) (first | assumption | exact HWH.out _ (by repeat' (first | exact Touch.refl _ _ | refine Touch.setCell ?_ (.inr (Nat.le_refl _)) _ | refine Touch.alloc ?_ _ | refine Touch.drewN ?_ _ | refine Touch.drew ?_))) (first | (go_at_call 58; (refine (bits_Len b L _ _ (by omega) ‹_›).mono ?_); rintro e w' ⟨rfl, n, rfl⟩))
  all_goals
    go_wp2_with fail
    refine bodyPost_ret (v := .agg #[.string (bs (pack L)), .int .i64 (L.length : Nat)]) (by simp [results, Tryz.results35, go_sem]) rfl ⟨rfl, ?_⟩
    exact (Touch.below (S := fun _ => False) (by repeat' (first | exact Touch.refl _ _ | refine Touch.setCell ?_ (.inr (Nat.le_refl _)) _ | refine Touch.alloc ?_ _ | refine Touch.drewN ?_ _ | refine Touch.drew ?_)) (Nat.le_refl _) (fun _ _ x => x))

set_option maxHeartbeats 2000000 in
theorem bits_Bits1 (b : Nat) (L : List Bool) (outv : Value) (w : World) (hlen : L.length ≤ 1048576) (h0 : L.length % 8 ≠ 0) (hw : Wr w b outv L) :
    Calls Tryz.prog 35 #[.pointer (some ⟨b, 0, none⟩)] w fun e w' => e = .returned (.agg #[.string (bs (pack L)), .int .i64 (L.length : Nat)]) ∧ Below w.heap.size w w' := by
  obtain ⟨i0, hi, hz0, hz1, hz2⟩ := info_parts info_u8
  have hown := hw.own
  have c0 := hw.c0
  have c1 := hw.c1
  have c2 := hw.c2
  have hl := hw.lt
  obtain ⟨xs, cap, hv⟩ : ∃ (a : Option Addr) (cap : Nat), outv = .slice a (L.length / 8) cap := by
    rcases hw.own.2 with ⟨h1, h2⟩ | ⟨g, cap, cur, h1, _⟩
    · exact ⟨none, 0, by rw [h1, h2]⟩
    · exact ⟨_, cap, h1⟩
  obtain ⟨R, hR, hR8, HR'⟩ := last_byte L
  have HR := Lib.hid HR'
  clear HR'
  have HWH := Lib.hid (fun W (ht : Touch (fun _ => False) w W) => hw.touch ht (fun x => x) (fun _ _ x => x))
  have hm : L.length % 8 ≤ 7 := by omega
  have hk : L.length / 8 ≤ 131072 := by omega
  have hb0 : Hid (xs = none → L.length / 8 = 0 ∧ cap = 0) := Lib.hid (by
    intro hx; subst hx
    rcases hw.own.2 with ⟨h1, h2⟩ | ⟨g, cap', cur, h1, _⟩
    · rw [h2] at hv; rw [h1] at hv; cases hv; exact ⟨h2, rfl⟩
    · rw [h1] at hv; cases hv)
  subst hv
  generalize hme : L.length % 8 = m at *
  generalize hce : L.length / 8 = k at *
  have HME := Lib.hid hme
  have HCE := Lib.hid hce
  clear hme hce hw
  have hm' : (m : Int) ≤ 7 := by omega
  have hm1 : (1 : Int) ≤ m := by omega
  have hbl : (bytesV L).length = k * 1 := by rw [bytesV_length, HCE.out, Nat.mul_one]
  have hfin : ∀ W v', W.ownsRow (w.heap.size + 2) 5 1 v' (k + 1) (bytesV L ++ [.int .u8 R]) → (convert 55 9 v').run Tryz.prog W = .ok (.string (bs (pack L))) W := fun W v' h => by
    have e : bytesV L ++ [.int .u8 R] = (pack L).map fun c => .int .u8 (nb c) := by
      rw [pack_last L (by rw [HME.out]; exact h0), List.map_append, HME.out, HR.out]; rfl
    rw [e] at h
    exact run_string_own W _ _ _ _ h
  have hw1 : IntKind.i64.wrap (8 - (m : Int)) = 8 - (m : Int) := IntWalk.i64_in _ (by omega)
  have hw2 : (0 : Int) ≤ 8 - (m : Int) := by omega
  have hw3 : (8 - (m : Int)).toNat = 8 - m := by omega
  have hw4 : (8 : Int) - (m : Int) ≤ 64 := by omega
  have HBL := Lib.hid hbl
  have HFIN := Lib.hid hfin
  have HH0 := Lib.hid h0
  clear hbl hfin h0
  cases xs with
  | none =>
    obtain ⟨rfl, rfl⟩ := hb0.out rfl
    go_enter Tryz.func35, Tryz.ntmps35
    go_wp2_with fail
    clear hb0
    refine wp_world fun W1 hW1 => ?_
    have tW : Touch (fun _ => False) w W1 := by rw [hW1]; exact (Touch.refl _ _).alloc _
    have hsz : W1.heap.size = w.heap.size + 1 := by rw [hW1]; simp
    have r0 : W1.cell? ⟨w.heap.size, 0, none⟩ = some (.string ByteArray.empty) := by rw [hW1]; simp [go_sem]; rfl
    have r1 : W1.cell? ⟨w.heap.size, 1, none⟩ = some (.int .i64 0) := by rw [hW1]; simp [go_sem]
    have q0 : W1.frozen? ⟨w.heap.size, 0, none⟩ = false := by rw [hW1]; simp
    have q1 : W1.frozen? ⟨w.heap.size, 1, none⟩ = false := by rw [hW1]; simp
    have c1' := (tW.cell (p := ⟨b, 1, none⟩) hl (fun x => x)).trans c1
    have c2' := (tW.cell (p := ⟨b, 2, none⟩) hl (fun x => x)).trans c2
    have hown' := own_touch hown tW (fun _ _ x => x)
    have HSZ := Lib.hid hsz
    have HTW := Lib.hid tW
    have HN := Lib.hid (cell_one_new W1 (.int .u8 R) 5)
    have HOW := Lib.hid hown'
    clear hW1 hsz tW c0 c1 c2 hown hown'
    go_region_law (first | (refine step_append_grows rfl (.tmp 18) (.tmp 30) 55 rfl 5 i0 (.int .u8 0) 1 1 Tryz.underlying55 hi hz0 hz1 hz2 rfl (by decide) none 0 0 (bytesV L) rfl (fun _ => ⟨rfl, rfl⟩) HBL.out (fun b hb => by cases hb) ⟨W1.heap.size, 0, none⟩ 1 1 [.int .u8 R] rfl rfl (HN.out) (by simp [Value.oneCell']) (by omega) (by unfold maxLen; omega) (by omega) ?_; intro v' w3 hown3 hgr3))
    all_goals
      have hg1 := fun k (hk : k < W1.heap.size) => grown_keep hgr3 hk (by simp)
      have t3 : Touch (fun _ => False) w w3 := grown_touch HTW.out hgr3 (fun k hk _ => by cases hk)
      have r0' := (World.cell?_of_block (a := ⟨w.heap.size, 0, none⟩) (hg1 _ (by show w.heap.size < _; rw [HSZ.out]; omega))).trans r0
      have r1' := (World.cell?_of_block (a := ⟨w.heap.size, 1, none⟩) (hg1 _ (by show w.heap.size < _; rw [HSZ.out]; omega))).trans r1
      have q0' := (World.frozen?_of_block (a := ⟨w.heap.size, 0, none⟩) (hg1 _ (by show w.heap.size < _; rw [HSZ.out]; omega))).trans q0
      have q1' := (World.frozen?_of_block (a := ⟨w.heap.size, 1, none⟩) (hg1 _ (by show w.heap.size < _; rw [HSZ.out]; omega))).trans q1
      have hown4 : w3.ownsRow (w.heap.size + 2) 5 1 v' (0 + 1) (bytesV L ++ [.int .u8 R]) := by
        have e : ((W1.alloc (.cells #[.int .u8 R] 5)).drew).heap.size = w.heap.size + 2 := by show (W1.alloc _).heap.size = _; rw [World.size_alloc, HSZ.out]
        rw [← e]; exact hown3
      have HW3 : Hid (∀ W, Touch (only w.heap.size) w3 W → Wr W b (.slice none 0 0) L ∧ W.ownsRow (w.heap.size + 2) 5 1 v' (0 + 1) (bytesV L ++ [.int .u8 R])) := Lib.hid fun W ht => by
        refine ⟨(HWH.out w3 t3).touch ht (fun x => by have : b = w.heap.size := x; omega) (fun k hk x => ?_), own_touch hown4 ht (fun k hk x => ?_)⟩
        · have h8 : k = w.heap.size := x
          have := ((HWH.out w (Touch.refl _ _)).own.lt k hk).2; omega
        · have h8 : k = w.heap.size := x
          have := (hown4.lt k hk).1; omega
      have base := HW3.out w3 (Touch.refl _ _)
      have kf := fun W h => HFIN.out W v' h
      have HT3 := Lib.hid t3
      clear hg1 t3 r0 r1 q0 q1 c1' c2' hown4 hown3 hgr3 hR hR8 hw1 hw2 hw3
      go_wp2_with fail
      go_region_held3 (fun W => Wr W b (.slice none 0 0) L ∧ W.ownsRow (w.heap.size + 2) 5 1 v' (0 + 1) (bytesV L ++ [.int .u8 R])) (first | assumption | exact HW3.out _ (by repeat' (first | exact Touch.refl _ _ | refine only_setCell ?_ _ _ | refine Touch.alloc ?_ _ | refine Touch.drewN ?_ _ | refine Touch.drew ?_))) (first | (go_at_call 58; (refine (bits_Len b L _ _ (by omega) (by first | exact (‹_ ∧ _› : _ ∧ _).1)).mono ?_); rintro e w' ⟨rfl, n, rfl⟩))
      all_goals
        go_wp2_with fail
        refine bodyPost_ret (v := .agg #[.string (bs (pack L)), .int .i64 (L.length : Nat)]) (by simp [results, Tryz.results35, go_sem, r0', r1']) rfl ⟨rfl, ?_⟩
        refine Touch.below (S := fun _ => False) (HT3.out.trans (S' := only w.heap.size) (by repeat' (first | exact Touch.refl _ _ | refine only_setCell ?_ _ _ | refine Touch.alloc ?_ _ | refine Touch.drewN ?_ _ | refine Touch.drew ?_)) fun i hi hx => by have h8 : i = w.heap.size := hx; omega) (Nat.le_refl _) (fun _ _ x => x)
  | some a =>
    obtain ⟨g, rfl⟩ : ∃ g, a = ⟨g, 0, none⟩ := by
      rcases hown.2 with ⟨h1, _⟩ | ⟨g, cap', cur, h1, _⟩
      · cases h1
      · exact ⟨g, by cases h1; rfl⟩
    have hkc : k ≤ cap := by
      rcases hown.2 with ⟨h1, _⟩ | ⟨g', cap', cur, h1, _, _, hn, _⟩
      · cases h1
      · cases h1; exact hn
    go_enter Tryz.func35, Tryz.ntmps35
    go_wp2_with fail
    clear hb0
    refine wp_world fun W1 hW1 => ?_
    have tW : Touch (fun _ => False) w W1 := by rw [hW1]; exact (Touch.refl _ _).alloc _
    have hsz : W1.heap.size = w.heap.size + 1 := by rw [hW1]; simp
    have r0 : W1.cell? ⟨w.heap.size, 0, none⟩ = some (.string ByteArray.empty) := by rw [hW1]; simp [go_sem]; rfl
    have r1 : W1.cell? ⟨w.heap.size, 1, none⟩ = some (.int .i64 0) := by rw [hW1]; simp [go_sem]
    have q0 : W1.frozen? ⟨w.heap.size, 0, none⟩ = false := by rw [hW1]; simp
    have q1 : W1.frozen? ⟨w.heap.size, 1, none⟩ = false := by rw [hW1]; simp
    have c1' := (tW.cell (p := ⟨b, 1, none⟩) hl (fun x => x)).trans c1
    have c2' := (tW.cell (p := ⟨b, 2, none⟩) hl (fun x => x)).trans c2
    have hown' := own_touch hown tW (fun _ _ x => x)
    have HSZ := Lib.hid hsz
    have HTW := Lib.hid tW
    have HN := Lib.hid (cell_one_new W1 (.int .u8 R) 5)
    have HOW := Lib.hid hown'
    clear hW1 hsz tW c0 c1 c2 hown hown'
    go_region_law (first | (refine step_append_grows rfl (.tmp 18) (.tmp 30) 55 rfl 5 i0 (.int .u8 0) 1 1 Tryz.underlying55 hi hz0 hz1 hz2 rfl (by decide) (some ⟨g, 0, none⟩) k k (bytesV L) rfl (fun h => by cases h) HBL.out (fun a ha j u hu => by cases ha; exact World.ownsRow.cells (World.ownsRow.alloc HOW.out _) rfl j u hu) ⟨W1.heap.size, 0, none⟩ 1 1 [.int .u8 R] rfl rfl (HN.out) (by simp [Value.oneCell']) (by omega) (by unfold maxLen; omega) (by omega) ?_; intro v' w3 hown3 hgr3))
    all_goals
      have hg1 := fun k (hk : k < W1.heap.size) => grown_keep hgr3 hk (by simp)
      have t3 : Touch (fun _ => False) w w3 := grown_touch HTW.out hgr3 (fun k hk _ => by cases hk)
      have r0' := (World.cell?_of_block (a := ⟨w.heap.size, 0, none⟩) (hg1 _ (by show w.heap.size < _; rw [HSZ.out]; omega))).trans r0
      have r1' := (World.cell?_of_block (a := ⟨w.heap.size, 1, none⟩) (hg1 _ (by show w.heap.size < _; rw [HSZ.out]; omega))).trans r1
      have q0' := (World.frozen?_of_block (a := ⟨w.heap.size, 0, none⟩) (hg1 _ (by show w.heap.size < _; rw [HSZ.out]; omega))).trans q0
      have q1' := (World.frozen?_of_block (a := ⟨w.heap.size, 1, none⟩) (hg1 _ (by show w.heap.size < _; rw [HSZ.out]; omega))).trans q1
      have hown4 : w3.ownsRow (w.heap.size + 2) 5 1 v' (k + 1) (bytesV L ++ [.int .u8 R]) := by
        have e : ((W1.alloc (.cells #[.int .u8 R] 5)).drew).heap.size = w.heap.size + 2 := by show (W1.alloc _).heap.size = _; rw [World.size_alloc, HSZ.out]
        rw [← e]; exact hown3
      have HW3 : Hid (∀ W, Touch (only w.heap.size) w3 W → Wr W b (.slice (some ⟨g, 0, none⟩) k cap) L ∧ W.ownsRow (w.heap.size + 2) 5 1 v' (k + 1) (bytesV L ++ [.int .u8 R])) := Lib.hid fun W ht => by
        refine ⟨(HWH.out w3 t3).touch ht (fun x => by have : b = w.heap.size := x; omega) (fun k hk x => ?_), own_touch hown4 ht (fun k hk x => ?_)⟩
        · have h8 : k = w.heap.size := x
          have := ((HWH.out w (Touch.refl _ _)).own.lt k hk).2; omega
        · have h8 : k = w.heap.size := x
          have := (hown4.lt k hk).1; omega
      have base := HW3.out w3 (Touch.refl _ _)
      have kf := fun W h => HFIN.out W v' h
      have HT3 := Lib.hid t3
      clear hg1 t3 r0 r1 q0 q1 c1' c2' hown4 hown3 hgr3 hR hR8 hw1 hw2 hw3
      go_wp2_with fail
      go_region_held3 (fun W => Wr W b (.slice (some ⟨g, 0, none⟩) k cap) L ∧ W.ownsRow (w.heap.size + 2) 5 1 v' (k + 1) (bytesV L ++ [.int .u8 R])) (first | assumption | exact HW3.out _ (by repeat' (first | exact Touch.refl _ _ | refine only_setCell ?_ _ _ | refine Touch.alloc ?_ _ | refine Touch.drewN ?_ _ | refine Touch.drew ?_))) (first | (go_at_call 58; (refine (bits_Len b L _ _ (by omega) (by first | exact (‹_ ∧ _› : _ ∧ _).1)).mono ?_); rintro e w' ⟨rfl, n, rfl⟩))
      all_goals
        go_wp2_with fail
        refine bodyPost_ret (v := .agg #[.string (bs (pack L)), .int .i64 (L.length : Nat)]) (by simp [results, Tryz.results35, go_sem, r0', r1']) rfl ⟨rfl, ?_⟩
        refine Touch.below (S := fun _ => False) (HT3.out.trans (S' := only w.heap.size) (by repeat' (first | exact Touch.refl _ _ | refine only_setCell ?_ _ _ | refine Touch.alloc ?_ _ | refine Touch.drewN ?_ _ | refine Touch.drew ?_)) fun i hi hx => by have h8 : i = w.heap.size := hx; omega) (Nat.le_refl _) (fun _ _ x => x)

theorem bits_Bits (b : Nat) (L : List Bool) (outv : Value) (w : World) (hlen : L.length ≤ 1048576) (hw : Wr w b outv L) :
    Calls Tryz.prog 35 #[.pointer (some ⟨b, 0, none⟩)] w fun e w' => e = .returned (.agg #[.string (bs (pack L)), .int .i64 (L.length : Nat)]) ∧ Below w.heap.size w w' := by
  by_cases h0 : L.length % 8 = 0
  · exact bits_Bits0 b L outv w hlen h0 hw
  · exact bits_Bits1 b L outv w hlen h0 hw
end Go.Proofs.YthbadpcmdlfmdaaGreatDoor
