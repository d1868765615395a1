/-
  Disk, plain: what stays right; what was written is seen; what is made takes its room and gives it back; what is moved is there as it was.
-/
import Derived.Test.YtkeiphkccnfhoaaDiskLv0
namespace Go.Proofs.Ytkeiphkccnfhoaa
open Go.RowKit
open Mv Disk
set_option linter.unusedVariables false
set_option linter.unusedSimpArgs false
theorem used_map {f : Ext → Ext} {l : List Ext} (hf : ∀ x ∈ l, sec (f x) = sec x) : used (l.map f) = used l := by
  induction l with
  | nil => rfl
  | cons x l ih => simp only [List.map_cons, used]; rw [hf x (by simp), ih (fun y hy => hf y (by simp [hy]))]
theorem done_size {d : D} (hR : Right d) (kp : Nat → Bool) {x : Ext} (hx : x ∈ d.ext) : (doneX kp d.waits x).2.size = x.2.size := acc_size (kp := kp) (right_fit hR hx) d.waits.length (Nat.le_refl _)
theorem right_settle {d : D} (hR : Right d) (kp : Nat → Bool) : Right (settleD d kp) := by
  refine ⟨hR.s0, hR.s1, by unfold settleD; simp, hR.fu, ⟨fun x hx => ?_, asc_map (f := doneX kp d.waits) (fun _ => rfl) hR.ex.asc, ?_⟩, fun w hw => by unfold settleD at hw; cases hw⟩
  · obtain ⟨y, hy, rfl⟩ := List.mem_map.1 hx
    have h := hR.ex.ok y hy
    exact ⟨h.1, by rw [done_size hR kp hy]; exact h.2.1, by rw [done_size hR kp hy]; exact h.2.2⟩
  · show ((used (d.ext.map (doneX kp d.waits)) : Nat) : Int) ≤ d.size
    rw [used_map (fun x hx => by unfold sec; rw [done_size hR kp hx])]
    exact hR.ex.us
theorem right_fuse {d : D} (hR : Right d) {f : Int} (hf : -1 ≤ f) (b : Bool) : Right { d with fuse := f, down := b } := ⟨hR.s0, hR.s1, hR.wl, hf, hR.ex, hR.wr⟩
theorem right_add {d : D} {s data : ByteArray} {k : Int} (hR : Right d) (hp : (placeD d s k).2 = 0) (hs : data.size = 64) (hl : d.waits.length < 16384) : Right (addW d (s, k, data)) := by
  obtain ⟨hh, h0, h1⟩ := place0 hp
  obtain ⟨hm, hn⟩ := exOf_has hR.ex.asc hh
  refine ⟨hR.s0, hR.s1, by rw [add_len]; omega, hR.fu, hR.ex, fun w hw => ?_⟩
  unfold addW at hw
  rcases List.mem_append.1 hw with h | h
  · exact hR.wr w h
  · obtain rfl : w = (s, k, data) := by simpa using h
    exact ⟨_, hm, hn, h0, h1, hs⟩
/-- A write that has no error. -/
theorem write_ok {d : D} {s data : ByteArray} {k : Int} (hf1 : d.fuse ≤ 9223372036854775807) (h : (opened d (writeD d s k data)).2 = 0) :
    Right d ∧ d.down = false ∧ (placeD d s k).2 = 0 ∧ data.size = 64 ∧ d.waits.length < 16384 ∧ ∃ f : Int, -1 ≤ f ∧ f ≤ 9223372036854775807 ∧ opened d (writeD d s k data) = ({ addW d (s, k, data) with fuse := f }, 0) := by
  unfold opened at h ⊢
  rcases openD_or d with ⟨ho, hR⟩ | ⟨ho, hR, hdn⟩ | ⟨ho, hR, hdn⟩ <;> rw [ho] at h ⊢
  · simp at h
  · simp at h
  · rw [if_pos rfl] at h ⊢
    unfold writeD at h ⊢
    by_cases q0 : (placeD d s k).2 ≠ 0
    · rw [if_pos q0] at h; exact absurd h q0
    · rw [if_neg q0] at h ⊢
      by_cases q1 : data.size ≠ 64
      · rw [if_pos q1] at h; simp at h
      · rw [if_neg q1] at h ⊢
        by_cases q2 : d.waits.length = 16384
        · rw [if_pos q2] at h; simp at h
        · rw [if_neg q2] at h ⊢
          have hwl := hR.wl
          have hfu := hR.fu
          refine ⟨hR, hdn, by simpa using q0, by simpa using q1, by omega, ?_⟩
          unfold fuseD at h ⊢
          by_cases q3 : (addW d (s, k, data)).fuse = 0
          · rw [if_pos q3] at h; simp at h
          · rw [if_neg q3] at h ⊢
            by_cases q4 : 0 < (addW d (s, k, data)).fuse
            · rw [if_pos q4]; exact ⟨_, by have : 0 < d.fuse := q4; show -1 ≤ d.fuse - 1; omega, by show d.fuse - 1 ≤ _; omega, rfl⟩
            · rw [if_neg q4]; exact ⟨d.fuse, hfu, hf1, rfl⟩
theorem place_settle {d : D} (hR : Right d) (kp : Nat → Bool) (s : ByteArray) (k : Int) : (placeD (settleD d kp) s k).2 = (placeD d s k).2 := by
  unfold placeD
  have e1 : (settleD d kp).ext = d.ext.map (doneX kp d.waits) := rfl
  rw [e1, has_map (f := doneX kp d.waits) (fun _ => rfl)]
  by_cases q : has d.ext s = true
  · rw [if_pos q, if_pos q, exOf_map (f := doneX kp d.waits) (fun _ => rfl) hR.ex.asc q]
    have hs : sec (doneX kp d.waits (exOf d.ext s)) = sec (exOf d.ext s) := by unfold sec; rw [done_size hR kp (exOf_has hR.ex.asc q).1]
    rw [hs]
    split <;> rfl
  · rw [if_neg q, if_neg q]
/-- What a disk that may be asked answers. -/
theorem read_ok {d : D} (hR : Right d) (hd : d.down = false) (s : ByteArray) (k : Int) : readO d s k = if (placeD d s k).2 ≠ 0 then (ByteArray.empty, (placeD d s k).2) else (seen d s k, 0) := by
  rw [readO_see]
  have e : placeO d s k = (placeD d s k).2 := by unfold placeO; rw [open_ok hR hd, if_neg (by simp)]
  rw [e]
/-! ### Moved -/
end Go.Proofs.Ytkeiphkccnfhoaa
