/-
  The walk of Add: a number's lowest bits are put behind.
-/
import Derived.Test.YthbadpcmdlfmdaaGreatDoorBitsWrite
namespace Go.Proofs.YthbadpcmdlfmdaaGreatDoor
open Go.RowKit
open Bits
set_option maxRecDepth 8000
set_option linter.unusedVariables false
def own (b : Nat) (v : Value) (k : Nat) : Prop := k = b ∨ v.ownBlock = some k
set_option maxHeartbeats 2000000 in
theorem bits_Add (b v width : Nat) (L : List Bool) (outv : Value) (w : World) (h3 : width ≤ 64) (h5 : v ≤ 18446744073709551615) (hlen : L.length ≤ 1048576 + 64) (hw : Wr w b outv L) :
    Calls Tryz.prog 34 #[.pointer (some ⟨b, 0, none⟩), .int .u64 v, .int .i64 width] w fun e w' => e = .returned (.tuple #[]) ∧
      ∃ nv, Wr w' b nv (L ++ numB v width) ∧ Touch (own b outv) w w' ∧ (nv.ownBlock = outv.ownBlock ∨ ∀ k, nv.ownBlock = some k → w.heap.size ≤ k) := by
  obtain ⟨i0, hi, hz0, hz1, hz2⟩ := info_parts info_u8
  go_enter Tryz.func34, Tryz.ntmps34
  go_wp2_with fail
  go_loopw [2] (fun v2 wr => ∃ (r : Nat) (M : List Bool) (ov : Value), r ≤ width ∧ v2 = .int .i64 r ∧ Wr wr b ov M ∧ Hid (M ++ numB v r = L ++ numB v width) ∧ Touch (own b outv) w wr ∧ Hid (ov.ownBlock = outv.ownBlock ∨ ∀ k, ov.ownBlock = some k → w.heap.size ≤ k)) (fun v2 _ => (intOf v2).toNat)
  case atStart => exact ⟨width, L, outv, by omega, rfl, hw, Lib.hid rfl, Touch.refl _ _, Lib.hid (.inl rfl)⟩
  case round =>
    obtain ⟨r, M, ov, hr, rfl, hm, HM, ht, HO⟩ := hrel
    obtain ⟨wo, rfl⟩ : ∃ wo : World, wo = wr := ⟨_, rfl⟩
    have i3 : (r : Int) ≤ 64 := by omega
    by_cases hr0 : r = 0
    · subst hr0
      have HH : Hid (M = L ++ numB v width) := by have := HM.out; rw [numB_zero, List.append_nil] at this; exact Lib.hid this
      go_wp2_with fail
      go_end0
      refine ⟨rfl, ov, ?_, ht, HO.out⟩
      rw [← HH.out]; exact hm
    · have i2 : (1 : Int) ≤ r := by omega
      have hml : M.length % 8 ≤ 7 := by omega
      by_cases hlt : r + M.length % 8 < 8
      · obtain ⟨P, R, hP, hR, HR, hR0, hR1⟩ := add_part M v 0 r h5 (by omega)
        have HR := Lib.hid HR
        have c0 := hm.c0; have c1 := hm.c1; have c2 := hm.c2; have f0 := hm.f0; have f1 := hm.f1; have f2 := hm.f2
        have HMW := Lib.hid hm
        clear hm
        generalize hme : M.length % 8 = m at *
        generalize hqe : num (rest M) = q at *
        have Hme := Lib.hid hme
        have Hqe := Lib.hid hqe
        clear hme hqe
        have i1 : (m : Int) ≤ 7 := by omega
        have j1 : (r : Int) + m ≤ 8 := by omega
        have j2 : ((m : Int) + r == 8) = false := by rw [beq_eq_false_iff_ne]; omega
        simp only [Int.pow_zero, Int.ediv_one] at hP
        go_wp2_with fail
        go_quiet (fail)
        go_wp2_with fail
        go_region
        go_wp2_with fail
        go_roundw
        case rel =>
          refine ⟨0, M ++ numB v r, ov, by omega, rfl, ?_, Lib.hid ?_, ((ht.drewN _).setCell (.inl (.inl rfl)) _).setCell (.inl (.inl rfl)) _, HO⟩
          · have h9 := Wr.few (c := numB v r) HMW.out (by rw [Hme.out, numB_length]; omega) (W := wo.drewN (nq + 1)) rfl (fun _ _ => rfl)
            rw [Hme.out, numB_length, Int.natCast_add] at h9
            exact h9
          · have := HM.out; rw [numB_zero, List.append_nil]; exact this
        case measure => simp [intOf]; omega
      · by_cases heq : r + M.length % 8 = 8
        · obtain ⟨P, R, hP, hR, HR', hR0, hR1⟩ := add_part M v 0 r h5 (by omega)
          have HR := Lib.hid HR'
          clear HR'
          have c0 := hm.c0; have c1 := hm.c1; have c2 := hm.c2; have f0 := hm.f0; have f1 := hm.f1; have f2 := hm.f2
          have hown := hm.own
          have hmlt := hm.lt
          have hM8 : M.length / 8 ≤ 1048576 + 64 := by
            have := congrArg List.length HM.out
            rw [List.length_append, List.length_append, numB_length, numB_length] at this
            omega
          have HMW := Lib.hid hm
          clear hm
          generalize hme : M.length % 8 = m at *
          generalize hqe : num (rest M) = q at *
          generalize hce : M.length / 8 = cn at *
          have Hme := Lib.hid hme
          have Hqe := Lib.hid hqe
          have Hce := Lib.hid hce
          have Heq := Lib.hid heq
          clear hme hqe hce
          have i1 : (m : Int) ≤ 7 := by omega
          have j1 : (r : Int) + m ≤ 8 := by omega
          have j2 : ((m : Int) + r == 8) = true := by rw [beq_iff_eq]; omega
          clear heq
          simp only [Int.pow_zero, Int.ediv_one] at hP
          go_wp2_with fail
          go_quiet (fail)
          go_wp2_with fail
          go_region
          clear hP hR
          go_wp2_with fail
          refine wp_world fun W1 hW1 => ?_
          have hsz : W1.heap.size = wo.heap.size := by rw [hW1]; simp
          have d0 : W1.cell? ⟨b, 0, none⟩ = some ov := by rw [hW1]; simp [go_sem, c0]
          have d1 : W1.cell? ⟨b, 1, none⟩ = some (.int .u64 R) := by rw [hW1, World.cell?_setCell_other _ _ _ _ (by intro e; cases e)]; exact World.cell?_setCell_same _ _ _ (u := .int .u64 q) c1
          have d2 : W1.cell? ⟨b, 2, none⟩ = some (.int .i64 ((m : Int) + r)) := by rw [hW1]; exact World.cell?_setCell_same _ _ _ (u := .int .i64 m) (by rw [World.cell?_setCell_other _ _ _ _ (by intro e; cases e)]; exact c2)
          have g0 : W1.frozen? ⟨b, 0, none⟩ = false := by rw [hW1]; simp [f0]
          have g1 : W1.frozen? ⟨b, 1, none⟩ = false := by rw [hW1]; simp [f1]
          have g2 : W1.frozen? ⟨b, 2, none⟩ = false := by rw [hW1]; simp [f2]
          have hown1 : W1.ownsRow (b + 1) 5 1 ov cn (bytesV M) := by rw [hW1]; exact ownsRow_setCell_below (ownsRow_setCell_below hown (by simp) _) (by simp) _
          have ht1 : Touch (own b outv) w W1 := by rw [hW1]; exact ((ht.drewN _).setCell (.inl (.inl rfl)) _).setCell (.inl (.inl rfl)) _
          have hblt : b < W1.heap.size := by rw [hsz]; exact hmlt
          have HT := Lib.hid ht1
          have HSZ := Lib.hid hsz
          have hw8 : IntKind.u8.wrap R = R := IntWalk.u8_in R ⟨hR0, hR1⟩
          have hnews := cell_one_new W1 (.int .u8 R) 5
          have HN := Lib.hid hnews
          clear hnews
          have hne : some b ≠ ov.ownBlock := fun e => by have := (hown1.lt b e.symm).1; omega
          have HNE := Lib.hid hne
          clear hne
          clear hsz hW1 c0 c1 c2 f0 f1 f2 hown ht hw ht1
          go_region_law (first | (refine step_append_lies _ rfl (.tmp 60) (.tmp 66) 55 rfl (b + 1) 5 i0 (.int .u8 0) 1 1 Tryz.underlying55 hi hz0 hz1 hz2 rfl (by decide) ov cn (bytesV M) rfl (World.ownsRow.alloc hown1 _) ⟨W1.heap.size, 0, none⟩ 1 1 [.int .u8 R] rfl rfl (HN.out) (by simp [Value.oneCell']) (by decide) (by unfold maxLen; omega) (by omega) (by simp; omega) _ rfl ?_; intro g cap w3 hown3 hgr3 hg3 hlt3; have hk := grown_keep hgr3 hblt HNE.out; have k0 := (World.cell?_of_block (a := ⟨b, 0, none⟩) hk).trans d0; have k1 := (World.cell?_of_block (a := ⟨b, 1, none⟩) hk).trans d1; have k2 := (World.cell?_of_block (a := ⟨b, 2, none⟩) hk).trans d2; have l0 := (World.frozen?_of_block (a := ⟨b, 0, none⟩) hk).trans g0; have l1 := (World.frozen?_of_block (a := ⟨b, 1, none⟩) hk).trans g1; have l2 := (World.frozen?_of_block (a := ⟨b, 2, none⟩) hk).trans g2; have HG := Lib.hid hgr3; have HO3 := Lib.hid hown3; have HG3 := Lib.hid hg3; clear hk hgr3 hown3 hg3))
          all_goals
            go_wp2_with fail
            go_roundw
            case rel =>
              refine ⟨0, M ++ numB v r, .slice (some ⟨g, 0, none⟩) (cn + 1) cap, by omega, rfl, Wr.eight ?_ ?_ ?_ ?_ ?_ ?_ ?_ ?_, Lib.hid ?_, ?_, Lib.hid ?_⟩
              · rw [Hme.out, numB_length]; have := Heq.out; omega
              · simp [go_sem, k0]
              · simp [go_sem, k1]
              · simp [go_sem, k2]
              · simp [l0]
              · simp [l1]
              · simp [l2]
              · rw [Hce.out]
                have e9 := HO3.out
                rw [HR.out] at e9
                simp only [Nat.pow_zero, Nat.div_one] at e9
                repeat' (first | exact e9 | refine ownsRow_setCell_below ?_ (by simp) _ | refine World.ownsRow.drew ?_)
              · have := HM.out; rw [numB_zero, List.append_nil]; exact this
              · have ht3 : Touch (own b outv) w w3 := grown_touch HT.out HG.out (fun k hk hlt => by
                  rcases HO.out with ho | ho
                  · exact .inr (ho ▸ hk)
                  · exact absurd (ho k hk) (by omega))
                repeat' (first | exact ht3 | refine Touch.setCell ?_ (.inl (.inl rfl)) _ | refine Touch.drew ?_ | refine Touch.drewN ?_ _)
              · have hs1 := HT.out.size
                rcases HG3.out with hg | hg
                · rcases HO.out with ho | ho
                  · exact .inl (by rw [← ho, hg]; rfl)
                  · exact .inr fun k hk => by
                      have : k = g := by simpa [Value.ownBlock] using hk.symm
                      subst this; exact ho k hg
                · exact .inr fun k hk => by
                    have : k = g := by simpa [Value.ownBlock] using hk.symm
                    subst this
                    rw [hg]
                    show w.heap.size ≤ (W1.alloc _).heap.size
                    rw [World.size_alloc]; omega
            case measure => simp [intOf]; omega
        · obtain ⟨P, R, hP, hR, HR', hR0, hR1⟩ := add_part M v (r - (8 - M.length % 8)) (8 - M.length % 8) h5 (by omega)
          have HR := Lib.hid HR'
          clear HR'
          have c0 := hm.c0; have c1 := hm.c1; have c2 := hm.c2; have f0 := hm.f0; have f1 := hm.f1; have f2 := hm.f2
          have hown := hm.own
          have hmlt := hm.lt
          have hM8 : M.length / 8 ≤ 1048576 + 64 := by
            have := congrArg List.length HM.out
            rw [List.length_append, List.length_append, numB_length, numB_length] at this
            omega
          have HMW := Lib.hid hm
          clear hm
          generalize hme : M.length % 8 = m at *
          generalize hqe : num (rest M) = q at *
          generalize hce : M.length / 8 = cn at *
          have Hme := Lib.hid hme
          have Hqe := Lib.hid hqe
          have Hce := Lib.hid hce
          have Heq := Lib.hid heq
          clear hme hqe hce
          have i1 : (m : Int) ≤ 7 := by omega
          have j1 : (8 : Int) - m < r := by omega
          have j2 : ((m : Int) + (8 - m) == 8) = true := by rw [beq_iff_eq]; omega
          clear heq
          go_wp2_with fail
          go_quiet (fail)
          go_wp2_with fail
          go_region
          clear hP hR
          go_wp2_with fail
          refine wp_world fun W1 hW1 => ?_
          have hsz : W1.heap.size = wo.heap.size := by rw [hW1]; simp
          have d0 : W1.cell? ⟨b, 0, none⟩ = some ov := by rw [hW1]; simp [go_sem, c0]
          have d1 : W1.cell? ⟨b, 1, none⟩ = some (.int .u64 R) := by rw [hW1, World.cell?_setCell_other _ _ _ _ (by intro e; cases e)]; exact World.cell?_setCell_same _ _ _ (u := .int .u64 q) c1
          have d2 : W1.cell? ⟨b, 2, none⟩ = some (.int .i64 ((m : Int) + (8 - m))) := by rw [hW1]; exact World.cell?_setCell_same _ _ _ (u := .int .i64 m) (by rw [World.cell?_setCell_other _ _ _ _ (by intro e; cases e)]; exact c2)
          have g0 : W1.frozen? ⟨b, 0, none⟩ = false := by rw [hW1]; simp [f0]
          have g1 : W1.frozen? ⟨b, 1, none⟩ = false := by rw [hW1]; simp [f1]
          have g2 : W1.frozen? ⟨b, 2, none⟩ = false := by rw [hW1]; simp [f2]
          have hown1 : W1.ownsRow (b + 1) 5 1 ov cn (bytesV M) := by rw [hW1]; exact ownsRow_setCell_below (ownsRow_setCell_below hown (by simp) _) (by simp) _
          have ht1 : Touch (own b outv) w W1 := by rw [hW1]; exact ((ht.drewN _).setCell (.inl (.inl rfl)) _).setCell (.inl (.inl rfl)) _
          have hblt : b < W1.heap.size := by rw [hsz]; exact hmlt
          have HT := Lib.hid ht1
          have HSZ := Lib.hid hsz
          have hw8 : IntKind.u8.wrap R = R := IntWalk.u8_in R ⟨hR0, hR1⟩
          have hnews := cell_one_new W1 (.int .u8 R) 5
          have HN := Lib.hid hnews
          clear hnews
          have hne : some b ≠ ov.ownBlock := fun e => by have := (hown1.lt b e.symm).1; omega
          have HNE := Lib.hid hne
          clear hne
          clear hsz hW1 c0 c1 c2 f0 f1 f2 hown ht hw ht1
          go_region_law (first | (refine step_append_lies _ rfl (.tmp 60) (.tmp 66) 55 rfl (b + 1) 5 i0 (.int .u8 0) 1 1 Tryz.underlying55 hi hz0 hz1 hz2 rfl (by decide) ov cn (bytesV M) rfl (World.ownsRow.alloc hown1 _) ⟨W1.heap.size, 0, none⟩ 1 1 [.int .u8 R] rfl rfl (HN.out) (by simp [Value.oneCell']) (by decide) (by unfold maxLen; omega) (by omega) (by simp; omega) _ rfl ?_; intro g cap w3 hown3 hgr3 hg3 hlt3; have hk := grown_keep hgr3 hblt HNE.out; have k0 := (World.cell?_of_block (a := ⟨b, 0, none⟩) hk).trans d0; have k1 := (World.cell?_of_block (a := ⟨b, 1, none⟩) hk).trans d1; have k2 := (World.cell?_of_block (a := ⟨b, 2, none⟩) hk).trans d2; have l0 := (World.frozen?_of_block (a := ⟨b, 0, none⟩) hk).trans g0; have l1 := (World.frozen?_of_block (a := ⟨b, 1, none⟩) hk).trans g1; have l2 := (World.frozen?_of_block (a := ⟨b, 2, none⟩) hk).trans g2; have HG := Lib.hid hgr3; have HO3 := Lib.hid hown3; have HG3 := Lib.hid hg3; clear hk hgr3 hown3 hg3))
          all_goals
            go_wp2_with fail
            go_roundw
            case rel =>
              refine ⟨r - (8 - m), M ++ numB (v / 2 ^ (r - (8 - m))) (8 - m), .slice (some ⟨g, 0, none⟩) (cn + 1) cap, by omega, val_int (by omega), Wr.eight ?_ ?_ ?_ ?_ ?_ ?_ ?_ ?_, Lib.hid ?_, ?_, Lib.hid ?_⟩
              · rw [Hme.out, numB_length]; omega
              · simp [go_sem, k0]
              · simp [go_sem, k1]
              · simp [go_sem, k2]
              · simp [l0]
              · simp [l1]
              · simp [l2]
              · rw [Hce.out]
                have e9 := HO3.out
                rw [HR.out] at e9
                repeat' (first | exact e9 | refine ownsRow_setCell_below ?_ (by simp) _ | refine World.ownsRow.drew ?_)
              · rw [List.append_assoc, ← numB_split, show 8 - m + (r - (8 - m)) = r from by omega]; exact HM.out
              · have ht3 : Touch (own b outv) w w3 := grown_touch HT.out HG.out (fun k hk hlt => by
                  rcases HO.out with ho | ho
                  · exact .inr (ho ▸ hk)
                  · exact absurd (ho k hk) (by omega))
                repeat' (first | exact ht3 | refine Touch.setCell ?_ (.inl (.inl rfl)) _ | refine Touch.drew ?_ | refine Touch.drewN ?_ _)
              · have hs1 := HT.out.size
                rcases HG3.out with hg | hg
                · rcases HO.out with ho | ho
                  · exact .inl (by rw [← ho, hg]; rfl)
                  · exact .inr fun k hk => by
                      have : k = g := by simpa [Value.ownBlock] using hk.symm
                      subst this; exact ho k hg
                · exact .inr fun k hk => by
                    have : k = g := by simpa [Value.ownBlock] using hk.symm
                    subst this
                    rw [hg]
                    show w.heap.size ≤ (W1.alloc _).heap.size
                    rw [World.size_alloc]; omega
            case measure => simp [intOf]; omega
theorem bits_AddI (b : Nat) (v width : Int) (L : List Bool) (outv : Value) (w : World) (h0 : 0 ≤ width) (h3 : width ≤ 64) (h4 : 0 ≤ v) (h5 : v ≤ 18446744073709551615) (hlen : L.length ≤ 1048576 + 64) (hw : Wr w b outv L) :
    Calls Tryz.prog 34 #[.pointer (some ⟨b, 0, none⟩), .int .u64 v, .int .i64 width] w fun e w' => e = .returned (.tuple #[]) ∧
      ∃ nv, Wr w' b nv (L ++ numB v.toNat width.toNat) ∧ Touch (own b outv) w w' ∧ (nv.ownBlock = outv.ownBlock ∨ ∀ k, nv.ownBlock = some k → w.heap.size ≤ k) := by
  have := bits_Add b v.toNat width.toNat L outv w (by omega) (by omega) hlen hw
  rwa [Int.toNat_of_nonneg h0, Int.toNat_of_nonneg h4] at this
end Go.Proofs.YthbadpcmdlfmdaaGreatDoor
