/-
  Disk: what the law's own look at the program (lives) comes to, in plain words.
-/
import Derived.Test.YtkeiphkccnfhoaaDR15
import Derived.Test.YtkeiphkccnfhoaaDR8
namespace Go.Proofs.Ytkeiphkccnfhoaa
open Go.RowKit
open Mv Disk
set_option linter.unusedVariables false
set_option linter.unusedSimpArgs false
set_option maxRecDepth 4000
def nA : ByteArray := ⟨#[97]⟩
def nB : ByteArray := ⟨#[98]⟩
def nC : ByteArray := ⟨#[99]⟩
def oneS : ByteArray := bs (List.replicate 63 0) ++ ⟨#[49]⟩
def twoS : ByteArray := bs (List.replicate 63 0) ++ ⟨#[50]⟩
theorem one_size : oneS.size = 64 := by unfold oneS; rw [ByteArray.size_append, size_bs, List.length_replicate]; rfl
theorem two_size : twoS.size = 64 := by unfold twoS; rw [ByteArray.size_append, size_bs, List.length_replicate]; rfl
def L0 : D := ⟨4, [], [], -1, false⟩
/-- One extent of two sectors. -/
def L1 (s x : ByteArray) (w : List Wr) : D := ⟨4, [(s, x)], w, -1, false⟩
theorem right_L0 : Right L0 := ⟨by decide, by decide, by decide, by decide, ⟨fun x h => (by cases h), List.Pairwise.nil, by decide⟩, fun w h => (by cases h)⟩
theorem sec2 {s x : ByteArray} (hx : x.size = 128) : sec (s, x) = 2 := by unfold sec; simp only; rw [hx]
theorem right_L1 {s x : ByteArray} {w : List Wr} (hs : nm s) (hx : x.size = 128) (hw : ∀ y ∈ w, y.1 = s ∧ 0 ≤ y.2.1 ∧ y.2.1 < 2 ∧ y.2.2.size = 64) (hl : w.length ≤ 16384) : Right (L1 s x w) := by
  refine ⟨by show (0 : Int) ≤ 4; decide, by show (4 : Int) ≤ 16384; decide, hl, by show (-1 : Int) ≤ -1; decide, ⟨fun y hy => ?_, List.pairwise_singleton _ _, ?_⟩, fun y hy => ?_⟩
  · obtain rfl : y = (s, x) := by unfold L1 at hy; simpa using hy
    exact ⟨hs, by simp only; omega, by simp only; omega⟩
  · show ((used [(s, x)] : Nat) : Int) ≤ 4
    simp only [used, sec2 hx]; omega
  · obtain ⟨h1, h2, h3, h4⟩ := hw y hy
    exact ⟨(s, x), by unfold L1; simp, h1.symm, h2, by rw [sec2 hx]; exact h3, h4⟩
theorem open_ok {d : D} (h : Right d) (hd : d.down = false) : openD d = (d, 0) := by
  rcases openD_or d with ⟨ho, hR⟩ | ⟨ho, hR, hdn⟩ | ⟨ho, hR, hdn⟩
  · exact absurd h hR
  · rw [hd] at hdn; cases hdn
  · exact ho
theorem opened_ok {d : D} (h : Right d) (hd : d.down = false) (f : D × Int) : opened d f = f := by unfold opened; rw [open_ok h hd, if_pos rfl]
theorem pos_one (s x : ByteArray) : pos [(s, x)] s = 0 := pos_no (lt_irrefl _)
theorem has_one (s x : ByteArray) : has [(s, x)] s = true := by simp [has]
theorem exOf_one (s x : ByteArray) : exOf [(s, x)] s = (s, x) := by unfold exOf; rw [pos_one]; rfl
theorem place_one {s x : ByteArray} {w : List Wr} (hx : x.size = 128) {k : Int} (h0 : 0 ≤ k) (h1 : k < 2) : placeD (L1 s x w) s k = (0, 0) := by
  unfold placeD L1
  simp only [has_one, exOf_one, sec2 hx, pos_one, if_true]
  rw [if_neg (by omega)]
theorem nmA : nm nA := ⟨by decide, by decide⟩
theorem nmB : nm nB := ⟨by decide, by decide⟩
theorem nmC : nm nC := ⟨by decide, by decide⟩
theorem neAB : nA ≠ nB := by decide
theorem l0 : makeD 4 = (L0, 0) := by unfold makeD; rw [if_neg (by omega)]; rfl
theorem zeros2 : (zeros 2).size = 128 := zeros_size 2
theorem l1 : opened L0 (newD L0 nA 2) = (L1 nA (zeros 2) [], 0) := by
  rw [opened_ok right_L0 rfl]
  unfold newD
  rw [if_neg (by rintro (h | h); exact h nmA; omega), if_neg (by simp [L0, has]), if_neg (by simp [L0, used])]
  rfl
def W1 : List Wr := [(nA, 0, oneS)]
def W2 : List Wr := [(nA, 0, oneS), (nA, 1, twoS)]
theorem right_1 (x : ByteArray) (hx : x.size = 128) : Right (L1 nA x []) := right_L1 nmA hx (fun y h => by cases h) (by decide)
theorem right_W1 : Right (L1 nA (zeros 2) W1) := right_L1 nmA zeros2 (fun y h => by
  obtain rfl : y = (nA, 0, oneS) := by unfold W1 at h; simpa using h
  exact ⟨rfl, by decide, by decide, one_size⟩) (by decide)
theorem w2_ok : ∀ y ∈ W2, y.1 = nA ∧ 0 ≤ y.2.1 ∧ y.2.1 < 2 ∧ y.2.2.size = 64 := fun y h => by
  unfold W2 at h
  simp only [List.mem_cons, List.not_mem_nil, or_false] at h
  rcases h with rfl | rfl
  · exact ⟨rfl, by decide, by decide, one_size⟩
  · exact ⟨rfl, by decide, by decide, two_size⟩
theorem right_W2 : Right (L1 nA (zeros 2) W2) := right_L1 nmA zeros2 w2_ok (by decide)
theorem write_one {s x : ByteArray} {w : List Wr} (hx : x.size = 128) {k : Int} (h0 : 0 ≤ k) (h1 : k < 2) {y : ByteArray} (hy : y.size = 64) (hw : w.length < 16384) : writeD (L1 s x w) s k y = (L1 s x (w ++ [(s, k, y)]), 0) := by
  unfold writeD
  rw [place_one hx h0 h1, if_neg (by simp), if_neg (by omega), if_neg (by unfold L1; simp only; omega)]
  unfold fuseD addW L1
  rw [if_neg (by show ¬ (-1 : Int) = 0; decide), if_neg (by show ¬ (0 : Int) < -1; decide)]
theorem l2 : opened (L1 nA (zeros 2) []) (writeD (L1 nA (zeros 2) []) nA 0 oneS) = (L1 nA (zeros 2) W1, 0) := by
  rw [opened_ok (right_1 _ zeros2) rfl, write_one zeros2 (by decide) (by decide) one_size (by decide)]; rfl
theorem l3 : opened (L1 nA (zeros 2) W1) (writeD (L1 nA (zeros 2) W1) nA 1 twoS) = (L1 nA (zeros 2) W2, 0) := by
  rw [opened_ok right_W1 rfl, write_one zeros2 (by decide) (by decide) two_size (by decide)]; rfl
theorem read_one {x : ByteArray} {w : List Wr} (hR : Right (L1 nA x w)) (hx : x.size = 128) {k : Int} (h0 : 0 ≤ k) (h1 : k < 2) : readO (L1 nA x w) nA k = (seeW allK w nA k (x.extract (64 * k.toNat) (64 * k.toNat + 64)) w.length, 0) := by
  rw [readO_see]
  have : placeO (L1 nA x w) nA k = 0 := by unfold placeO; rw [open_ok hR rfl, if_neg (by simp), place_one hx h0 h1]
  rw [this, if_neg (by simp)]
  unfold seen L1
  simp only [exOf_one]
theorem l4 : readO (L1 nA (zeros 2) W2) nA 0 = (oneS, 0) := by
  rw [read_one right_W2 zeros2 (by decide) (by decide)]
  simp [W2, seeW, allK]
def x4 : ByteArray := (doneX (keepK [false, true]) W2 (nA, zeros 2)).2
def x5 : ByteArray := (doneX (fun _ => true) W2 (nA, zeros 2)).2
theorem fit2 : Fit (nA, zeros 2) W2 := right_fit right_W2 (by unfold L1; simp)
theorem x4_size : x4.size = 128 := by unfold x4 doneX; exact (acc_size (kp := keepK [false, true]) fit2 W2.length (Nat.le_refl _)).trans zeros2
theorem x5_size : x5.size = 128 := by unfold x5 doneX; exact (acc_size (kp := fun _ => true) fit2 W2.length (Nat.le_refl _)).trans zeros2
theorem l5 : crashD (L1 nA (zeros 2) W2) [false, true] = (L1 nA x4 [], 0) := by
  unfold crashD
  rw [chkD_yes right_W2, if_pos rfl]; rfl
theorem zeros_cut : (zeros 2).extract (64 * 0) (64 * 0 + 64) = zeros 1 := by
  rw [ba_extract_bs]; unfold zeros; rw [bs_data]; simp [List.take_replicate]
theorem l6 : readO (L1 nA x4 []) nA 0 = (zeros 1, 0) := by
  rw [read_one (right_1 _ x4_size) x4_size (by decide) (by decide)]
  have := acc_see (kp := keepK [false, true]) (k := 0) fit2 (by rw [zeros2]; decide) W2.length (Nat.le_refl _)
  rw [zeros_cut] at this
  show (x4.extract (64 * 0) (64 * 0 + 64), (0 : Int)) = _
  unfold x4 doneX
  simp only
  rw [this]
  simp [W2, seeW, keepK]
theorem l7 : readO (L1 nA x4 []) nA 1 = (twoS, 0) := by
  rw [read_one (right_1 _ x4_size) x4_size (by decide) (by decide)]
  have := acc_see (kp := keepK [false, true]) (k := 1) fit2 (by rw [zeros2]; decide) W2.length (Nat.le_refl _)
  show (x4.extract (64 * 1) (64 * 1 + 64), (0 : Int)) = _
  unfold x4 doneX
  simp only
  rw [this]
  simp [W2, seeW, keepK]
theorem l8 : opened (L1 nA (zeros 2) W2) (syncD (L1 nA (zeros 2) W2)) = (L1 nA x5 [], 0) := by
  rw [opened_ok right_W2 rfl]; rfl
theorem l9 : roomD (L1 nA x5 []) = (2, 0) := by
  unfold roomD
  rw [open_ok (right_1 _ x5_size) rfl, if_neg (by simp)]
  unfold L1
  simp only [used, sec2 x5_size]
  rfl
theorem right_B : Right (L1 nB x5 []) := right_L1 nmB x5_size (fun y h => by cases h) (by decide)
theorem l10 : opened (L1 nA x5 []) (moveD (L1 nA x5 []) nA nB) = (L1 nB x5 [], 0) := by
  rw [opened_ok (right_1 _ x5_size) rfl]
  unfold moveD
  rw [if_neg (fun h => h nmB), if_pos (show has (L1 nA x5 []).ext nA = true from has_one _ _), if_neg neAB, move_doc (right_1 _ x5_size) (has_one _ _) neAB]
  unfold movedD L1
  rw [exOf_one]
  have e1 : dropE [(nA, x5)] nB = [(nA, x5)] := by rw [dropE_cons_ne neAB]; rfl
  have e2 : dropE [(nA, x5)] nA = [] := by rw [dropE_cons_eq rfl]; rfl
  rw [e1, e2]
  rfl
theorem l11 : sectorsD (L1 nB x5 []) nB = (2, 0) := by
  unfold sectorsD
  rw [open_ok right_B rfl, if_neg (by simp)]
  unfold L1
  rw [if_pos (has_one _ _), exOf_one, sec2 x5_size]; rfl
theorem l12 : opened (L1 nB x5 []) (freesD (L1 nB x5 []) (L1 nB x5 []) [nB]) = (L0, 0) := by
  rw [opened_ok right_B rfl, frees_cons, if_pos (show has (L1 nB x5 []).ext nB = true from has_one _ _), free_less right_B (has_one _ _)]
  unfold lessD L1
  have e2 : dropE [(nB, x5)] nB = [] := by rw [dropE_cons_eq rfl]; rfl
  simp only [e2]
  rfl
theorem l13 : opened L0 (newD L0 nC 5) = (L0, 8) := by
  rw [opened_ok right_L0 rfl]
  unfold newD
  rw [if_neg (by rintro (h | h); exact h nmC; omega), if_neg (by simp [L0, has]), if_pos (by simp [L0, used])]
theorem l14 : chkD (L1 nA x5 []) = 0 := chkD_yes (right_1 _ x5_size)
/-- Bounds of what comes in, of a disk that is right. -/
theorem dz_right {d : D} (h : Right d) (hf : d.fuse ≤ 9223372036854775807) : Dz d := by
  have hl := right_len h
  refine ⟨by have := h.s0; omega, by have := h.s1; omega, by have := h.fu; omega, hf, by omega, by have := h.wl; omega, fun x hx => ?_, fun w hw => ?_⟩
  · have h1 := right_sec h hx
    have h2 := (h.ex.ok x hx).1.2
    omega
  · obtain ⟨x, hx, e, h0, h1, h2⟩ := h.wr w hw
    have h3 := right_sec h hx
    have h4 := (h.ex.ok x hx).1.2
    rw [e] at h4
    omega
end Go.Proofs.Ytkeiphkccnfhoaa
