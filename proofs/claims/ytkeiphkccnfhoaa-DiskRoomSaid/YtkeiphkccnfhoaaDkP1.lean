/-
  Disk, plain: what stays right; what was written is seen; what is made takes its room and gives it back; what is moved is there as it was.
-/
import Derived.Test.YtkeiphkccnfhoaaDiskLv0
namespace Go.Proofs.Ytkeiphkccnfhoaa
open Go.RowKit
open Mv Disk
set_option linter.unusedVariables false
set_option linter.unusedSimpArgs false
theorem used_map {f : Ext → Ext} {l : List Ext} (hf : ∀ x ∈ l, sec (f x) = sec x) : used (l.map f) = used l := by
  induction l with
  | nil => rfl
  | cons x l ih => simp only [List.map_cons, used]; rw [hf x (by simp), ih (fun y hy => hf y (by simp [hy]))]
theorem done_size {d : D} (hR : Right d) (kp : Nat → Bool) {x : Ext} (hx : x ∈ d.ext) : (doneX kp d.waits x).2.size = x.2.size := acc_size (kp := kp) (right_fit hR hx) d.waits.length (Nat.le_refl _)
theorem right_settle {d : D} (hR : Right d) (kp : Nat → Bool) : Right (settleD d kp) := by
  refine ⟨hR.s0, hR.s1, by unfold settleD; simp, hR.fu, ⟨fun x hx => ?_, asc_map (f := doneX kp d.waits) (fun _ => rfl) hR.ex.asc, ?_⟩, fun w hw => by unfold settleD at hw; cases hw⟩
  · obtain ⟨y, hy, rfl⟩ := List.mem_map.1 hx
    have h := hR.ex.ok y hy
    exact ⟨h.1, by rw [done_size hR kp hy]; exact h.2.1, by rw [done_size hR kp hy]; exact h.2.2⟩
  · show ((used (d.ext.map (doneX kp d.waits)) : Nat) : Int) ≤ d.size
    rw [used_map (fun x hx => by unfold sec; rw [done_size hR kp hx])]
    exact hR.ex.us
theorem right_fuse {d : D} (hR : Right d) {f : Int} (hf : -1 ≤ f) (b : Bool) : Right { d with fuse := f, down := b } := ⟨hR.s0, hR.s1, hR.wl, hf, hR.ex, hR.wr⟩
theorem right_add {d : D} {s data : ByteArray} {k : Int} (hR : Right d) (hp : (placeD d s k).2 = 0) (hs : data.size = 64) (hl : d.waits.length < 16384) : Right (addW d (s, k, data)) := by
  obtain ⟨hh, h0, h1⟩ := place0 hp
  obtain ⟨hm, hn⟩ := exOf_has hR.ex.asc hh
  refine ⟨hR.s0, hR.s1, by rw [add_len]; omega, hR.fu, hR.ex, fun w hw => ?_⟩
  unfold addW at hw
  rcases List.mem_append.1 hw with h | h
  · exact hR.wr w h
  · obtain rfl : w = (s, k, data) := by simpa using h
    exact ⟨_, hm, hn, h0, h1, hs⟩
/-- A write that has no error. -/
theorem write_ok {d : D} {s data : ByteArray} {k : Int} (hf1 : d.fuse ≤ 9223372036854775807) (h : (opened d (writeD d s k data)).2 = 0) :
    Right d ∧ d.down = false ∧ (placeD d s k).2 = 0 ∧ data.size = 64 ∧ d.waits.length < 16384 ∧ ∃ f : Int, -1 ≤ f ∧ f ≤ 9223372036854775807 ∧ opened d (writeD d s k data) = ({ addW d (s, k, data) with fuse := f }, 0) := by
  unfold opened at h ⊢
  rcases openD_or d with ⟨ho, hR⟩ | ⟨ho, hR, hdn⟩ | ⟨ho, hR, hdn⟩ <;> rw [ho] at h ⊢
  · simp at h
  · simp at h
  · rw [if_pos rfl] at h ⊢
    unfold writeD at h ⊢
    by_cases q0 : (placeD d s k).2 ≠ 0
    · rw [if_pos q0] at h; exact absurd h q0
    · rw [if_neg q0] at h ⊢
      by_cases q1 : data.size ≠ 64
      · rw [if_pos q1] at h; simp at h
      · rw [if_neg q1] at h ⊢
        by_cases q2 : d.waits.length = 16384
        · rw [if_pos q2] at h; simp at h
        · rw [if_neg q2] at h ⊢
          have hwl := hR.wl
          have hfu := hR.fu
          refine ⟨hR, hdn, by simpa using q0, by simpa using q1, by omega, ?_⟩
          unfold fuseD at h ⊢
          by_cases q3 : (addW d (s, k, data)).fuse = 0
          · rw [if_pos q3] at h; simp at h
          · rw [if_neg q3] at h ⊢
            by_cases q4 : 0 < (addW d (s, k, data)).fuse
            · rw [if_pos q4]; exact ⟨_, by have : 0 < d.fuse := q4; show -1 ≤ d.fuse - 1; omega, by show d.fuse - 1 ≤ _; omega, rfl⟩
            · rw [if_neg q4]; exact ⟨d.fuse, hfu, hf1, rfl⟩
theorem place_settle {d : D} (hR : Right d) (kp : Nat → Bool) (s : ByteArray) (k : Int) : (placeD (settleD d kp) s k).2 = (placeD d s k).2 := by
  unfold placeD
  have e1 : (settleD d kp).ext = d.ext.map (doneX kp d.waits) := rfl
  rw [e1, has_map (f := doneX kp d.waits) (fun _ => rfl)]
  by_cases q : has d.ext s = true
  · rw [if_pos q, if_pos q, exOf_map (f := doneX kp d.waits) (fun _ => rfl) hR.ex.asc q]
    have hs : sec (doneX kp d.waits (exOf d.ext s)) = sec (exOf d.ext s) := by unfold sec; rw [done_size hR kp (exOf_has hR.ex.asc q).1]
    rw [hs]
    split <;> rfl
  · rw [if_neg q, if_neg q]
/-- What a disk that may be asked answers. -/
theorem read_ok {d : D} (hR : Right d) (hd : d.down = false) (s : ByteArray) (k : Int) : readO d s k = if (placeD d s k).2 ≠ 0 then (ByteArray.empty, (placeD d s k).2) else (seen d s k, 0) := by
  rw [readO_see]
  have e : placeO d s k = (placeD d s k).2 := by unfold placeO; rw [open_ok hR hd, if_neg (by simp)]
  rw [e]
theorem seen_law {d : D} {s data : ByteArray} {k : Int} (hf1 : d.fuse ≤ 9223372036854775807) (hw : (opened d (writeD d s k data)).2 = 0) : ∃ e f, opened d (writeD d s k data) = (e, 0) ∧ Right e ∧ e.fuse ≤ 9223372036854775807 ∧ readO e s k = (data, 0) ∧
    (∀ o a, (readO e o a).2 = (readO d o a).2 ∧ ((readO e o a).1 = (readO d o a).1 ∨ (o = s ∧ a = k))) ∧ opened e (syncD e) = (f, 0) ∧ Right f ∧ f.fuse ≤ 9223372036854775807 ∧ readO f s k = (data, 0) ∧ f.waits = [] := by
  obtain ⟨hR, hdn, hp, hs, hl, f0, h1, h2, he⟩ := write_ok hf1 hw
  have hRe : Right { addW d (s, k, data) with fuse := f0 } := right_fuse (right_add hR hp hs hl) h1 (addW d (s, k, data)).down
  have hsee : ∀ o a, seen { addW d (s, k, data) with fuse := f0 } o a = if s = o ∧ k = a then data else seen d o a := fun o a => seen_add d s k data o a
  have hpe : ∀ o a, placeD { addW d (s, k, data) with fuse := f0 } o a = placeD d o a := fun o a => rfl
  have hre := read_ok hRe (show (addW d (s, k, data)).down = false from hdn)
  have hrd := read_ok hR hdn
  have hRf := right_settle hRe (fun _ => true)
  refine ⟨_, settleD { addW d (s, k, data) with fuse := f0 } (fun _ => true), he, hRe, h2, ?_, fun o a => ?_, opened_ok hRe hdn _, hRf, h2, ?_, rfl⟩
  · rw [hre, hpe, hp, if_neg (by simp), hsee, if_pos ⟨rfl, rfl⟩]
  · rw [hre, hrd, hpe, hsee]
    by_cases q : (placeD d o a).2 ≠ 0
    · rw [if_pos q, if_pos q]; exact ⟨rfl, .inl rfl⟩
    · rw [if_neg q, if_neg q]
      refine ⟨rfl, ?_⟩
      by_cases q2 : s = o ∧ k = a
      · right; exact ⟨q2.1.symm, q2.2.symm⟩
      · left; rw [if_neg q2]
  · rw [read_ok hRf hdn, place_settle hRe, hpe, hp, if_neg (by simp), seen_settle hRe (by rw [hpe]; exact hp)]
    have := hsee s k
    rw [if_pos ⟨rfl, rfl⟩] at this
    exact congrArg (fun x => (x, (0 : Int))) this
theorem mem_ins {l : List Ext} {i : Nat} {x y : Ext} : y ∈ insAt l i x ↔ y = x ∨ y ∈ l := by
  unfold insAt
  rw [List.mem_append, List.mem_cons]
  constructor
  · rintro (h | h | h)
    · exact .inr (List.mem_of_mem_take h)
    · exact .inl h
    · exact .inr (List.mem_of_mem_drop h)
  · rintro (h | h)
    · exact .inr (.inl h)
    · rw [← List.take_append_drop i l] at h
      rcases List.mem_append.1 h with h | h
      · exact .inl h
      · exact .inr (.inr h)
theorem used_ins (l : List Ext) (i : Nat) (x : Ext) : used (insAt l i x) = used l + sec x := by
  unfold insAt
  rw [used_append, used]
  have : used l = used (l.take i) + used (l.drop i) := by rw [← used_append, List.take_append_drop]
  omega
theorem asc_ins {l : List Ext} {s data : ByteArray} (ha : Asc l) (hn : has l s = false) : Asc (insAt l (pos l s) (s, data)) := by
  unfold Asc insAt
  rw [List.pairwise_append]
  have hlt : ∀ a ∈ l.take (pos l s), lt a.1 s = true := fun a h => by
    obtain ⟨i, hi, rfl⟩ := List.getElem_of_mem h
    rw [List.getElem_take]
    simp only [List.length_take] at hi
    exact pos_lt (by omega) (by omega)
  have hgt : ∀ b ∈ l.drop (pos l s), lt s b.1 = true := fun b h => by
    obtain ⟨i, hi, rfl⟩ := List.getElem_of_mem h
    simp only [List.length_drop] at hi
    rw [List.getElem_drop]
    have h0 := pos_at (l := l) (s := s) (by omega)
    have h1 : lt l[pos l s + i].1 s = false := by
      rcases Nat.eq_zero_or_pos i with rfl | hp
      · exact h0
      · cases h2 : lt l[pos l s + i].1 s with
        | false => rfl
        | true => have := lt_trans (asc_get ha (i := pos l s) (j := pos l s + i) (by omega) (by omega)) h2; rw [h0] at this; cases this
    exact lt_tri (has_no.1 hn _ (List.getElem_mem _)) h1
  refine ⟨List.Pairwise.sublist (List.take_sublist _ _) ha, List.pairwise_cons.2 ⟨fun b h => hgt b h, List.Pairwise.sublist (List.drop_sublist _ _) ha⟩, fun a h b h' => ?_⟩
  rcases List.mem_cons.1 h' with rfl | h'
  · exact hlt a h
  · exact lt_trans (hlt a h) (hgt b h')
theorem eright_ins {l : List Ext} {s data : ByteArray} {size : Int} (h : ERight l size) (hn : has l s = false) (hs : nm s) (h0 : data.size ≠ 0) (h1 : data.size % 64 = 0) {size' : Int} (hu : (used l : Int) + sec (s, data) ≤ size') : ERight (insAt l (pos l s) (s, data)) size' :=
  ⟨fun x hx => by rcases mem_ins.1 hx with rfl | hx; exact ⟨hs, h0, h1⟩; exact h.ok x hx, asc_ins h.asc hn, by rw [used_ins]; omega⟩
theorem drop_ins {l : List Ext} {s data : ByteArray} (ha : Asc l) (hn : has l s = false) : dropE (insAt l (pos l s) (s, data)) s = l := by
  unfold insAt
  have : ∀ (a b : List Ext), dropE (a ++ b) s = dropE a s ++ dropE b s := fun a b => List.filter_append ..
  rw [this, dropE_cons_eq rfl, ← this, List.take_append_drop, dropE_none hn]
/-- A disk that is made one more extent of. -/
theorem new_law {d : D} {s : ByteArray} {n : Int} (hR : Right d) (hdn : d.down = false) : ((newD d s n).2 ≠ 0 → (newD d s n).1 = d) ∧ ((newD d s n).2 = 0 → Right (newD d s n).1 ∧ (newD d s n).1.down = false ∧ (newD d s n).1.fuse = d.fuse ∧ (roomD (newD d s n).1) = (d.size - used d.ext - n, 0) ∧ opened (newD d s n).1 (freesD (newD d s n).1 (newD d s n).1 [s]) = (d, 0)) := by
  unfold newD
  by_cases q1 : ¬ nm s ∨ n < 1
  · rw [if_pos q1]; exact ⟨fun _ => rfl, fun h => by simp at h⟩
  · rw [if_neg q1]
    have hs : nm s := by
      by_cases h : nm s
      · exact h
      · exact absurd (.inl h) q1
    have hn1 : 1 ≤ n := by omega
    by_cases q2 : has d.ext s = true
    · rw [if_pos q2]; exact ⟨fun _ => rfl, fun h => by simp at h⟩
    · rw [if_neg q2]
      by_cases q3 : d.size - used d.ext < n
      · rw [if_pos q3]; exact ⟨fun _ => rfl, fun h => by simp at h⟩
      · rw [if_neg q3]
        refine ⟨fun h => absurd rfl h, fun _ => ?_⟩
        have hnn : has d.ext s = false := by simpa using q2
        obtain ⟨m, rfl⟩ : ∃ m : Nat, n = m := ⟨n.toNat, by omega⟩
        simp only [Int.toNat_natCast]
        have hz := zeros_size m
        have hsec : sec (s, zeros m) = m := by unfold sec; simp only; rw [hz]; omega
        have hRn : Right { d with ext := insAt d.ext (pos d.ext s) (s, zeros m) } := ⟨hR.s0, hR.s1, hR.wl, hR.fu, eright_ins (size' := d.size) hR.ex hnn hs (by rw [hz]; omega) (by rw [hz]; omega) (by rw [hsec]; omega), fun w hw => by
          obtain ⟨x, hx, h⟩ := hR.wr w hw
          exact ⟨x, mem_ins.2 (.inr hx), h⟩⟩
        refine ⟨hRn, hdn, by trivial, ?_, ?_⟩
        · unfold roomD
          rw [open_ok hRn hdn, if_neg (by simp)]
          simp only [used_ins, hsec]
          refine Prod.ext ?_ rfl
          show d.size - ((used d.ext + m : Nat) : Int) = d.size - (used d.ext : Int) - (m : Int)
          omega
        · have hh : has (insAt d.ext (pos d.ext s) (s, zeros m)) s = true := has_iff.2 ⟨(s, zeros m), mem_ins.2 (.inl rfl), rfl⟩
          rw [opened_ok hRn hdn, frees_cons, if_pos hh, free_less hRn hh]
          unfold lessD
          simp only [drop_ins hR.ex.asc hnn, filt_wait hR hnn]
          rfl
theorem sectors_law {d : D} (hR : Right d) (hdn : d.down = false) {x : Ext} (hx : x ∈ d.ext) : sectorsD d x.1 = (((sec x : Nat) : Int), (0 : Int)) ∧ 1 ≤ sec x := by
  unfold sectorsD
  rw [open_ok hR hdn, if_neg (by simp), if_pos (has_iff.2 ⟨x, hx, rfl⟩), exOf_mem hR.ex.asc hx]
  exact ⟨rfl, (eok_sec (hR.ex.ok x hx)).1⟩
/-! ### Moved -/
theorem used_drop {l : List Ext} {x : Ext} (ha : Asc l) (hx : x ∈ l) : used (dropE l x.1) + sec x ≤ used l := by
  induction l with
  | nil => cases hx
  | cons y l ih =>
    rcases List.mem_cons.1 hx with rfl | hx
    · rw [dropE_cons_eq rfl, dropE_none (asc_has_no ha), used]; omega
    · have hne : y.1 ≠ x.1 := fun e => by
        have := asc_behind ha x hx
        rw [e, lt_irrefl] at this; cases this
      rw [dropE_cons_ne hne, used, used]
      have := ih (asc_tail ha) hx
      omega
theorem used_dropE (l : List Ext) (s : ByteArray) : used (dropE l s) ≤ used l := by
  induction l with
  | nil => exact Nat.le_refl _
  | cons y l ih =>
    by_cases e : y.1 = s
    · rw [dropE_cons_eq e, used]; omega
    · rw [dropE_cons_ne e, used, used]; omega
theorem mem_drop {l : List Ext} {s : ByteArray} {x : Ext} : x ∈ dropE l s ↔ x ∈ l ∧ x.1 ≠ s := by unfold dropE; simp
theorem see_fold' (l : List Wr) (s : ByteArray) (k : Int) (b : ByteArray) : ∀ n, n ≤ l.length → seeW allK l s k b n = (l.take n).foldl (fun a w => if w.1 = s ∧ w.2.1 = k then w.2.2 else a) b
  | 0, _ => rfl
  | n + 1, h => by
    rw [seeW_succ _ _ _ _ _ (by omega), take_get (by omega), List.foldl_append, List.foldl_cons, List.foldl_nil, see_fold' l s k b n (by omega)]
    simp only [allK, and_true]
theorem see_fold (l : List Wr) (s : ByteArray) (k : Int) (b : ByteArray) : seeW allK l s k b l.length = l.foldl (fun a w => if w.1 = s ∧ w.2.1 = k then w.2.2 else a) b := by
  rw [see_fold' l s k b l.length (Nat.le_refl _), List.take_length]
theorem mov_fold (fr tn : ByteArray) (hne : fr ≠ tn) (k : Int) (l : List Wr) (b : ByteArray) : (movW fr tn l).foldl (fun a w => if w.1 = tn ∧ w.2.1 = k then w.2.2 else a) b = l.foldl (fun a w => if w.1 = fr ∧ w.2.1 = k then w.2.2 else a) b := by
  induction l generalizing b with
  | nil => rfl
  | cons w l ih =>
    unfold movW filt at ih ⊢
    rw [List.filter_cons]
    by_cases e : w.1 = tn
    · rw [if_neg (by unfold isN; simp [e]), List.foldl_cons, ih, if_neg (fun h => hne (h.1.symm.trans e))]
    · rw [if_pos (by unfold isN; simp [e]), List.map_cons, List.foldl_cons, List.foldl_cons]
      by_cases e2 : w.1 = fr
      · rw [show renW fr tn w = (tn, w.2) from if_pos e2, ih]
        simp only [e2, true_and]
      · rw [show renW fr tn w = w from if_neg e2, if_neg (fun h => e h.1), if_neg (fun h => e2 h.1), ih]
theorem move_law {d : D} {fr tn : ByteArray} (k : Int) : ((opened d (moveD d fr tn)).2 ≠ 0 → (opened d (moveD d fr tn)).2 = 2 ∨ (opened d (moveD d fr tn)).1 = d) ∧
    ((opened d (moveD d fr tn)).2 = 0 → Right d ∧ d.down = false ∧ Right (opened d (moveD d fr tn)).1 ∧ (opened d (moveD d fr tn)).1.fuse = d.fuse ∧ readO (opened d (moveD d fr tn)).1 tn k = readO d fr k ∧ (fr = tn ∨ (readO (opened d (moveD d fr tn)).1 fr k).2 = 3) ∧ (roomD (opened d (moveD d fr tn)).1).2 = 0 ∧ (roomD d).1 ≤ (roomD (opened d (moveD d fr tn)).1).1) := by
  unfold opened
  rcases openD_or d with ⟨ho, hR⟩ | ⟨ho, hR, hdn⟩ | ⟨ho, hR, hdn⟩ <;> rw [ho]
  · rw [if_neg (by simp)]; exact ⟨fun _ => .inl rfl, fun h => by simp at h⟩
  · rw [if_neg (by simp)]; exact ⟨fun _ => .inr rfl, fun h => by simp at h⟩
  · rw [if_pos rfl]
    unfold moveD
    by_cases q1 : nm tn
    · rw [if_neg (fun h => h q1)]
      by_cases q2 : has d.ext fr = true
      · rw [if_pos q2]
        by_cases q3 : fr = tn
        · rw [if_pos q3]
          exact ⟨fun h => absurd rfl h, fun _ => ⟨hR, hdn, hR, rfl, by rw [q3], .inl q3, by unfold roomD; rw [ho, if_neg (by simp)], Int.le_refl _⟩⟩
        · rw [if_neg q3, move_doc hR q2 q3]
          obtain ⟨hm, hn⟩ := exOf_has hR.ex.asc q2
          have hsx := hR.ex.ok _ hm
          generalize hx : exOf d.ext fr = x at *
          have hasE := asc_drop (asc_drop hR.ex.asc tn) fr
          have hnoT : has (dropE (dropE d.ext tn) fr) tn = false := has_no.2 fun y hy => (mem_drop.1 (mem_drop.1 hy).1).2
          have hnoF : has (dropE (dropE d.ext tn) fr) fr = false := has_no.2 fun y hy => (mem_drop.1 hy).2
          have hxd : x ∈ dropE d.ext tn := mem_drop.2 ⟨hm, by rw [hn]; exact q3⟩
          have hu1 := used_drop (asc_drop hR.ex.asc tn) hxd
          rw [hn] at hu1
          have hu2 := used_dropE d.ext tn
          have hus := hR.ex.us
          have hsec : sec (tn, x.2) = sec x := rfl
          have hE : ERight (dropE (dropE d.ext tn) fr) d.size := ⟨fun y hy => hR.ex.ok y (mem_drop.1 (mem_drop.1 hy).1).1, hasE, by omega⟩
          have hEi := eright_ins (size' := d.size) hE hnoT q1 hsx.2.1 hsx.2.2 (by rw [hsec]; omega)
          have hRm : Right (movedD d fr tn x.2) := by
            refine ⟨hR.s0, hR.s1, Nat.le_trans (mov_le fr tn d.waits) hR.wl, hR.fu, hEi, fun w hw => ?_⟩
            obtain ⟨y, hy, rfl⟩ := List.mem_map.1 hw
            have hy2 := List.mem_filter.1 hy
            have hyt : y.1 ≠ tn := isN_no.1 (by simpa using hy2.2)
            obtain ⟨z, hz, hzn, h0, h1, h2⟩ := hR.wr y hy2.1
            by_cases e : y.1 = fr
            · rw [show renW fr tn y = (tn, y.2) from if_pos e]
              have hzx : z = x := asc_inj hR.ex.asc hz hm (by rw [hzn, hn]; exact e)
              exact ⟨(tn, x.2), mem_ins.2 (.inl rfl), rfl, h0, by rw [hsec, ← hzx]; exact h1, h2⟩
            · rw [show renW fr tn y = y from if_neg e]
              exact ⟨z, mem_ins.2 (.inr (mem_drop.2 ⟨mem_drop.2 ⟨hz, by rw [hzn]; exact hyt⟩, by rw [hzn]; exact e⟩)), hzn, h0, h1, h2⟩
          have hhT : has (movedD d fr tn x.2).ext tn = true := has_iff.2 ⟨(tn, x.2), mem_ins.2 (.inl rfl), rfl⟩
          have hhF : has (movedD d fr tn x.2).ext fr = false := has_no.2 fun y hy => by
            rcases mem_ins.1 hy with rfl | hy
            · exact Ne.symm q3
            · exact has_no.1 hnoF y hy
          have hexT : exOf (movedD d fr tn x.2).ext tn = (tn, x.2) := exOf_mem hEi.asc (mem_ins.2 (.inl rfl))
          refine ⟨fun h => absurd rfl h, fun _ => ⟨hR, hdn, hRm, rfl, ?_, .inr ?_, ?_, ?_⟩⟩
          · show readO (movedD d fr tn x.2) tn k = readO d fr k
            rw [read_ok hRm hdn, read_ok hR hdn]
            have hp : (placeD (movedD d fr tn x.2) tn k).2 = (placeD d fr k).2 := by
              unfold placeD
              rw [if_pos hhT, if_pos q2, hexT, hx, hsec]
              split <;> rfl
            have hsn : seen (movedD d fr tn x.2) tn k = seen d fr k := by
              unfold seen
              rw [hexT, hx, see_fold, see_fold]
              exact mov_fold fr tn q3 k d.waits _
            rw [hp, hsn]
          · show (readO (movedD d fr tn x.2) fr k).2 = 3
            rw [read_ok hRm hdn]
            have hp : (placeD (movedD d fr tn x.2) fr k).2 = 3 := by
              unfold placeD
              rw [if_neg (by rw [hhF]; simp)]
            rw [hp, if_pos (by simp)]
          · show (roomD (movedD d fr tn x.2)).2 = 0
            unfold roomD; rw [open_ok hRm hdn, if_neg (by simp)]
          · show (roomD d).1 ≤ (roomD (movedD d fr tn x.2)).1
            unfold roomD
            rw [open_ok hRm hdn, ho, if_neg (by simp), if_neg (by simp)]
            show d.size - (used d.ext : Int) ≤ d.size - ((used (insAt (dropE (dropE d.ext tn) fr) (pos (dropE (dropE d.ext tn) fr) tn) (tn, x.2)) : Nat) : Int)
            rw [used_ins, hsec]
            omega
      · rw [if_neg q2]; exact ⟨fun _ => .inr rfl, fun h => by simp at h⟩
    · rw [if_pos q1]; exact ⟨fun _ => .inr rfl, fun h => by simp at h⟩
end Go.Proofs.Ytkeiphkccnfhoaa
