/-
  The law of one byte turned in a frame: plain law, then the walk.
-/
import Derived.Test.YtlkaamednhpdcaaCrcPlain
namespace Go.Proofs.Ytlkaamednhpdcaa
open Go.RowKit
open Crc (un v32 Tn)
set_option linter.unusedVariables false
namespace Crc
def frameB (s : ByteArray) : ByteArray := s ++ tailS (sumOf s)
theorem frameB_data (s : ByteArray) : (frameB s).data.toList = s.data.toList ++ (tailS (sumOf s)).data.toList := append_data _ _
theorem frameB_size (s : ByteArray) : (frameB s).size = s.size + 4 := by simp [frameB, tailS_size]
theorem frame_ok (s : ByteArray) (h : s.size ≤ 65536) : frameS s = (frameB s, 0) := by unfold frameS; rw [if_neg (by omega)]; rfl
theorem frame_no (s : ByteArray) (h : 65536 < s.size) : frameS s = (ByteArray.empty, 1) := by unfold frameS; rw [if_pos h]
theorem tail_len (b : BitVec 32) : (tailS b).data.toList.length = 4 := by rw [size_len, tailS_size]
theorem body_data (f : ByteArray) : (body f).data.toList = f.data.toList.take (f.size - 4) := extract_head _ _
theorem tailOf_data (f : ByteArray) : (tailOf f).data.toList = f.data.toList.drop (f.size - 4) := extract_tail _ _
theorem body_frame (s : ByteArray) : body (frameB s) = s := by
  apply ba_ext
  rw [body_data, frameB_data, frameB_size, Nat.add_sub_cancel, ← size_len s, List.take_left]
theorem tailOf_frame (s : ByteArray) : tailOf (frameB s) = tailS (sumOf s) := by
  apply ba_ext
  rw [tailOf_data, frameB_data, frameB_size, Nat.add_sub_cancel, ← size_len s, List.drop_left]
theorem fits_iff (f : ByteArray) : fits f = true ↔ tailS (sumOf (body f)) = tailOf f := by
  unfold fits; rw [ba_beq]; simp
theorem open_ok (s : ByteArray) (h : s.size ≤ 65536) : openS (frameB s) = (s, 0) := by
  unfold openS
  rw [frameB_size, if_neg (by omega), if_neg (by omega), if_pos ((fits_iff _).2 (by rw [body_frame, tailOf_frame])), body_frame]
/-- A frame with one byte another. -/
def turn (f : ByteArray) (k : Nat) (d : UInt8) : ByteArray := bs (f.data.toList.set k (at8 f.data.toList k ^^^ d))
theorem turn_size (f : ByteArray) (k : Nat) (d : UInt8) : (turn f k d).size = f.size := by simp [turn, bs_size]
theorem zx_one (l : List UInt8) (k : Nat) (d : UInt8) (h : k < l.length) : l.set k (at8 l k ^^^ d) = zx l (mask k l.length [d]) := by
  have hm := mask_length k l.length [d] (by simp; omega)
  refine at8_ext (by rw [List.length_set, zx_length _ _ hm.symm]) fun j hj => ?_
  rw [List.length_set] at hj
  rw [at8_zx _ _ hm.symm j hj, at8_mask]
  by_cases e : j = k
  · subst e
    rw [at8_set_same _ _ _ hj, if_pos (by simp), Nat.sub_self]; rfl
  · rw [at8_set_other _ _ _ _ e, if_neg (by simp; omega)]; simp
theorem feeds_one (d : UInt8) : feeds 0#32 [d] = 0#32 ↔ d = 0 := by
  have e : feeds 0#32 [d] = Tn 8 (b32 d) := by simp [feeds, feed]
  rw [e]
  constructor
  · intro h
    have := Tn_inj0 8 h
    exact b32_inj (this.trans rfl)
  · intro h; subst h; decide
theorem one_iff (l : List UInt8) (k : Nat) (d : UInt8) (h : k < l.length) : more 0#32 (l.set k (at8 l k ^^^ d)) = more 0#32 l ↔ d = 0 := by
  rw [zx_one l k d h, more_delta _ _ (mask_length _ _ _ (by simp; omega)).symm, feeds_mask, feeds_one]
theorem set_ne (l : List UInt8) (k : Nat) (d : UInt8) (h : k < l.length) (hd : d ≠ 0) : l.set k (at8 l k ^^^ d) ≠ l := fun e => by
  have := congrArg (fun m => at8 m k) e
  simp only [at8_set_same _ _ _ h] at this
  apply hd
  have h2 := congrArg (fun x => at8 l k ^^^ x) this
  simpa [← UInt8.xor_assoc] using h2
theorem turn_open (s : ByteArray) (k : Nat) (d : UInt8) (h : s.size ≤ 65536) (hk : k < (frameB s).size) (hd : d ≠ 0) : (openS (turn (frameB s) k d)).2 = 6 := by
  have hf : fits (turn (frameB s) k d) = false := by
    rw [← Bool.not_eq_true, fits_iff]
    intro e
    have hb : (body (turn (frameB s) k d)).data.toList = ((frameB s).data.toList.set k (at8 (frameB s).data.toList k ^^^ d)).take s.size := by
      rw [body_data, turn_size, frameB_size, Nat.add_sub_cancel, turn, bs_data]
    have ht : (tailOf (turn (frameB s) k d)).data.toList = ((frameB s).data.toList.set k (at8 (frameB s).data.toList k ^^^ d)).drop s.size := by
      rw [tailOf_data, turn_size, frameB_size, Nat.add_sub_cancel, turn, bs_data]
    rw [frameB_size] at hk
    by_cases hks : k < s.size
    · have h1 : (body (turn (frameB s) k d)).data.toList = s.data.toList.set k (at8 s.data.toList k ^^^ d) := by
        rw [hb, frameB_data, List.set_append_left _ _ (by rw [size_len]; exact hks)]
        have ea : at8 (s.data.toList ++ (tailS (sumOf s)).data.toList) k = at8 s.data.toList k := by
          unfold at8; simp only [List.getD]; rw [List.getElem?_append_left (by rw [size_len]; exact hks)]
        rw [ea]
        exact List.take_left' (by rw [List.length_set, size_len])
      have h2 : tailOf (turn (frameB s) k d) = tailS (sumOf s) := by
        apply ba_ext
        rw [ht, frameB_data, List.set_append_left _ _ (by rw [size_len]; exact hks)]
        exact List.drop_left' (by rw [List.length_set, size_len])
      rw [h2] at e
      have h3 := tailS_inj e
      unfold sumOf at h3
      rw [h1] at h3
      exact hd ((one_iff _ _ _ (by rw [size_len]; exact hks)).1 h3)
    · have h1 : body (turn (frameB s) k d) = s := by
        apply ba_ext
        rw [hb, frameB_data, List.set_append_right _ _ (by rw [size_len]; omega)]
        exact List.take_left' (size_len s)
      rw [h1] at e
      have h2 := congrArg (fun x => x.data.toList) e
      rw [ht, frameB_data, List.set_append_right _ _ (by rw [size_len]; omega), List.drop_left' (size_len s), size_len] at h2
      have ea : at8 (s.data.toList ++ (tailS (sumOf s)).data.toList) k = at8 (tailS (sumOf s)).data.toList (k - s.size) := by
        unfold at8; simp only [List.getD]; rw [List.getElem?_append_right (by rw [size_len]; omega), size_len]
      rw [ea] at h2
      exact set_ne _ _ _ (by rw [tail_len]; omega) hd h2.symm
  unfold openS
  rw [turn_size, frameB_size, if_neg (by omega), if_neg (by omega), hf]; rfl
theorem nd_self (l : List UInt8) : nd l l = 0 := by
  induction l with
  | nil => rfl
  | cons x l ih => simp [nd, ih]
theorem nd_set (l : List UInt8) (k : Nat) (v : UInt8) (h : k < l.length) (hv : v ≠ at8 l k) : nd l (l.set k v) = 1 ∧ fd l (l.set k v) = k := by
  induction l generalizing k with
  | nil => simp at h
  | cons x l ih =>
    cases k with
    | zero =>
      have : x ≠ v := fun e => hv (by rw [← e]; rfl)
      simp [nd, fd, this, nd_self]
    | succ k =>
      have := ih k (by simpa using h) (fun e => hv (by rw [e]; rfl))
      simp only [List.set_cons_succ, nd, fd, if_true]
      omega
theorem turn_apart (f : ByteArray) (k : Nat) (d : UInt8) (hk : k < f.size) (hd : d ≠ 0) : nd f.data.toList (turn f k d).data.toList = 1 ∧ fd f.data.toList (turn f k d).data.toList = k := by
  unfold turn
  rw [bs_data]
  refine nd_set _ _ _ (by rw [size_len]; exact hk) fun e => hd ?_
  have h2 := congrArg (fun x => at8 f.data.toList k ^^^ x) e
  simpa [← UInt8.xor_assoc] using h2
end Crc
theorem crc_OpenAt (s t : ByteArray) (c : Int) (hs : s.size ≤ maxLen) (h : openS s = (t, c)) (w : World) :
    Calls Try.prog 16 #[.string s] w fun e w' => e = .returned (.tuple #[.string t, .int .i64 c]) ∧ Below w.heap.size w w' := by
  have := crc_Open s hs w; rwa [h] at this
theorem crc_FrameAt (s t : ByteArray) (c : Int) (hs : s.size ≤ maxLen) (h : frameS s = (t, c)) (w : World) :
    Calls Try.prog 14 #[.string s] w fun e w' => e = .returned (.tuple #[.string t, .int .i64 c]) ∧ Below w.heap.size w w' := by
  have := crc_Frame s hs w; rwa [h] at this
set_option maxHeartbeats 1000000 in
theorem walk_CrcOne (s : ByteArray) (p d : Int) (w : World) (h0 : s.size ≤ maxLen) (h1 : (Lit.int .i64 p).wf = true) (h2 : (Lit.int .u8 d).wf = true) :
    Calls Try.prog 7 #[.string s, .int .i64 p, .int .u8 d] w fun e w' => e = .returned (.bool true) ∧ Below w.heap.size w w' := by
  have b := bounds_u8 h2
  by_cases hs : 65536 < s.size
  · have H := Crc.frame_no s hs
    clear b h1 h2
    go_enter Try.func7, Try.ntmps7
    go_wp2_with (first | (go_at_call 9; (with_reducible refine (crc_lives _).mono ?_); rintro e w1 ⟨rfl, hb1⟩) | (go_at_call 14; (with_reducible refine (crc_FrameAt s _ _ h0 H _).mono ?_); rintro e w1 ⟨rfl, hb1⟩))
    go_ret
    exact ⟨rfl, by (repeat' (first | exact Below.refl _ _ | assumption | refine below_alloc' ?_ _ | refine Below.drew ?_ | refine below_drewN ?_ _ | refine below_then ?_ ‹_›))⟩
  have h3 : s.size ≤ 65536 := by omega
  have H := Lib.hid (Crc.frame_ok s h3)
  have G := Lib.hid (Crc.open_ok s h3)
  have fs := Crc.frameB_size s
  have hz : (Crc.frameB s).size ≤ 65540 := by omega
  have hz' : ((Crc.frameB s).size : Int) ≤ 65540 := by omega
  have hz2 : (Crc.frameB s).size ≤ maxLen := by unfold maxLen; omega
  have FS := Lib.hid fs
  clear fs
  by_cases hc : p < 0 ∨ ((Crc.frameB s).size : Int) ≤ p ∨ d = 0
  · have hcc : p < 0 ∨ (¬ p < 0 ∧ ((Crc.frameB s).size : Int) ≤ p) ∨ (¬ p < 0 ∧ ¬ ((Crc.frameB s).size : Int) ≤ p ∧ d = 0) := by omega
    clear hc b h1 h2 h3 hs
    rcases hcc with hc | ⟨hc1, hc2⟩ | ⟨hc1, hc2, rfl⟩
    all_goals
      go_enter Try.func7, Try.ntmps7
      go_wp2_with (first | (go_at_call 9; (with_reducible refine (crc_lives _).mono ?_); rintro e w1 ⟨rfl, hb1⟩) | (go_at_call 14; (with_reducible refine (crc_FrameAt s _ _ h0 H.out _).mono ?_); rintro e w1 ⟨rfl, hb1⟩) | (go_at_call 16; (with_reducible refine (crc_OpenAt _ _ _ hz2 G.out _).mono ?_); rintro e w1 ⟨rfl, hb1⟩))
      go_ret
      exact ⟨rfl, by (repeat' (first | exact Below.refl _ _ | assumption | refine below_alloc' ?_ _ | refine Below.drew ?_ | refine below_drewN ?_ _ | refine below_then ?_ ‹_›))⟩
  · obtain ⟨k, rfl⟩ : ∃ k : Nat, p = k := ⟨p.toNat, by omega⟩
    obtain ⟨dv, rfl⟩ : ∃ dv, d = nb dv := ⟨_, (nb_of b.1 b.2).symm⟩
    have hk : k < (Crc.frameB s).size := by omega
    have hd : dv ≠ 0 := fun e => by subst e; exact hc (.inr (.inr rfl))
    have i0 : (0 : Int) ≤ k := by omega
    have i1 : (k : Int) < (Crc.frameB s).size := by omega
    have i2 : (nb dv == 0) = false := by
      rw [beq_eq_false_iff_ne]; exact fun e => hc (.inr (.inr e))
    have T := Lib.hid (Crc.turn_open s k dv h3 hk hd)
    have A := Lib.hid (Crc.turn_apart (Crc.frameB s) k dv hk hd)
    have tz := Crc.turn_size (Crc.frameB s) k dv
    have tz2 : (Crc.turn (Crc.frameB s) k dv).size ≤ maxLen := by rw [tz]; exact hz2
    have kc := fun w s => Lib.run_convert_string_bytes (P := Try.prog) w 9 35 5 s Try.underlying9 Try.underlying35 Try.underlying5
    have kb := fun w b n cap l hn h => run_string_L8 (P := Try.prog) w 35 5 9 Try.underlying35 Try.underlying5 Try.underlying9 b n cap l hn h
    have KB := Lib.hid kb
    have kx : bits .xor .u8 (nb (at8 (Crc.frameB s).data.toList k)) (nb dv) = nb (at8 (Crc.frameB s).data.toList k ^^^ dv) := nb_xor _ _
    have hcell : ∀ W, (Lib.bytesWorld W 5 (Crc.frameB s)).cell? ⟨W.heap.size, k, none⟩ = some (.int .u8 (nb (at8 (Crc.frameB s).data.toList k))) := fun W => (conv_row W 5 (Crc.frameB s)).cell0 hk
    have hfree : ∀ W, (Lib.bytesWorld W 5 (Crc.frameB s)).frozen? ⟨W.heap.size, k, none⟩ = false := fun W => (conv_row W 5 (Crc.frameB s)).free0 hk
    have hrow : ∀ W, Row ((Lib.bytesWorld W 5 (Crc.frameB s)).setCell ⟨W.heap.size, k, none⟩ (.int .u8 (nb (at8 (Crc.frameB s).data.toList k ^^^ dv)))) W.heap.size 0 (Crc.frameB s).size (L8 ((Crc.frameB s).data.toList.set k (at8 (Crc.frameB s).data.toList k ^^^ dv))) := fun W => (conv_row W 5 (Crc.frameB s)).setL (size_len _) hk _
    have hbelow : ∀ W, Below W.heap.size W ((Lib.bytesWorld W 5 (Crc.frameB s)).setCell ⟨W.heap.size, k, none⟩ (.int .u8 (nb (at8 (Crc.frameB s).data.toList k ^^^ dv)))) := fun W => (conv_below W 5 _).setCell (Nat.le_refl _) _
    have hconv : ∀ W cap, (convert 35 9 (.slice (some ⟨W.heap.size, 0, none⟩) (Crc.frameB s).size cap)).run Try.prog ((Lib.bytesWorld W 5 (Crc.frameB s)).setCell ⟨W.heap.size, k, none⟩ (.int .u8 (nb (at8 (Crc.frameB s).data.toList k ^^^ dv)))) = .ok (.string (Crc.turn (Crc.frameB s) k dv)) ((Lib.bytesWorld W 5 (Crc.frameB s)).setCell ⟨W.heap.size, k, none⟩ (.int .u8 (nb (at8 (Crc.frameB s).data.toList k ^^^ dv)))) := fun W cap => kb _ _ _ cap _ (by rw [List.length_set, size_len]) (hrow W)
    have HROW := Lib.hid hrow
    have HBELOW := Lib.hid hbelow
    clear tz hc b h1 h2 h3 hs hd kb hrow hbelow
    go_enter Try.func7, Try.ntmps7
    go_wp2_with (first | (go_at_call 9; (with_reducible refine (crc_lives _).mono ?_); rintro e w1 ⟨rfl, hb1⟩) | (go_at_call 14; (with_reducible refine (crc_FrameAt s _ _ h0 H.out _).mono ?_); rintro e w1 ⟨rfl, hb1⟩) | (go_at_call 16; (with_reducible refine (crc_OpenAt _ _ _ hz2 G.out _).mono ?_); rintro e w1 ⟨rfl, hb1⟩))
    have hbz := HBELOW.out w1
    have hrz := HROW.out w1
    have HB : Below w.heap.size w w1 := by (repeat' (first | exact Below.refl _ _ | assumption | refine below_alloc' ?_ _ | refine Below.drew ?_ | refine below_drewN ?_ _ | refine below_then ?_ ‹_›))
    clear hcell hfree
    (with_reducible refine (crc_Open _ tz2 _).mono ?_); rintro e w2 ⟨rfl, hb2⟩
    have hr2 := hrz.later hb2
    have hconv2 : ∀ cap, (convert 35 9 (.slice (some ⟨w1.heap.size, 0, none⟩) (Crc.frameB s).size cap)).run Try.prog w2 = .ok (.string (Crc.turn (Crc.frameB s) k dv)) w2 := fun cap => KB.out w2 w1.heap.size (Crc.frameB s).size cap _ (by rw [List.length_set, size_len]) hr2
    have HB2 : Below w.heap.size w w2 := below_then (below_then HB hbz) hb2
    clear hconv hb2 hbz hrz hr2
    have hT := T.out
    have hA1 := A.out.1
    have hA2 := A.out.2
    go_wp2_with (go_at_call 18; (with_reducible refine (crc_Apart _ (Crc.turn (Crc.frameB s) k dv) hz2 tz2 _).mono ?_); rintro e w3 ⟨rfl, hb3⟩)
    go_ret
    exact ⟨rfl, below_then HB2 hb3⟩
end Go.Proofs.Ytlkaamednhpdcaa
