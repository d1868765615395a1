/-
  Skew: the order of all ends, level by level.
-/
import Derived.Test.YtgidjbpgkeemiaaSk7
import Derived.Test.YtgidjbpgkeemiaaSkewMath4
import Derived.Test.YtgidjbpgkeemiaaRfB
namespace Go.Proofs.Ytgidjbpgkeemiaa
open Go.RowKit Go.Shelf
open Mv Num Loser Skew
set_option linter.unusedVariables false
set_option linter.unusedSimpArgs false
attribute [local go_sem] Oper.semAt_some
set_option maxRecDepth 8000
theorem outM_setc {S : Mem} {o : Option (Nat × Nat)} {e : TypeId} {cs : List Value} {b : Nat} {r : Blk} (h : Fresh (outM S o e cs) b) : (outM S o e cs).set b r = outM (S.set b r) o e cs := by
  have := (fresh_outM h).2
  cases o with
  | none => rfl
  | some q => exact Mem.set_comm _ _ _ (Ne.symm (this q.1 q.2 rfl))
theorem okO_setc {S : Mem} {o : Option (Nat × Nat)} {n : Nat} {e : TypeId} {cs : List Value} {b : Nat} {r : Blk} (ho : OkO S o n) (h : Fresh (outM S o e cs) b) : OkO (S.set b r) o n := ho.set (fresh_outM h).2
def nilB : Blk := ⟨24, [.slice none 0 0], 1⟩
def boxB (v : Value) : Blk := ⟨24, [v], 1⟩
/-- A level behind a pointer, not too long. -/
def LvB (S : Mem) (p : Nat) (l : List Nat) : Prop := LvR S p l ∧ l.length ≤ 4096
theorem LvB.less {S S' : Mem} {p : Nat} {l : List Nat} (h : LvB S p l) (hl : S.Less S') : LvB S' p l := ⟨h.1.less hl, h.2⟩
theorem lv_push {M : Mem} {ps : List Nat} {l : List Nat} {b : Nat} (h : ∀ i, i < ps.length → LvB M (ps.getD i 0) (Mi l i)) (hb : LvB M b (Mi l ps.length)) : ∀ i, i < (ps ++ [b]).length → LvB M ((ps ++ [b]).getD i 0) (Mi l i) := fun i hi => by
  rcases Nat.lt_or_ge i ps.length with h' | h'
  · rw [List.getD_eq_getElem?_getD, List.getElem?_append_left h', ← List.getD_eq_getElem?_getD]; exact h i h'
  · obtain rfl : i = ps.length := by simp at hi; omega
    simpa using hb
set_option maxHeartbeats 4000000 in
theorem sk_Of (v : Value) (l : List Nat) (S : Mem) (hv : RowR S v l) (h1 : ∀ y ∈ l, 1 ≤ y) (hl : l.length ≤ 4096) :
    ACall Try.prog 67 #[v] S (RdL gI (Ord.endsR l l.length) S) := by
  obtain ⟨va, vc, rfl, _⟩ := id hv
  refine ACall.enterM (args := [.slice va l.length vc]) (rs := [.tmp 2]) 56 [(0, .slice va l.length vc)] Try.func67 rfl rfl (Nat.le_of_ble_eq_true rfl) rfl ⟨rfl, trivial⟩ ?_
  refine AWPM.seq ?_
  refine AWP.region ?_
  refine rC (Calm.assign rfl) ?_
  refine arun_nil ?_
  refine athen_n ?_
  refine AWPM.seq ?_
  refine AWP.region ?_
  refine rC (Calm.assign rfl) ?_
  refine arun_nil ?_
  refine athen_n ?_
  refine AWPM.seq ?_
  refine AWP.region ?_
  refine ARun.alloc (lit_lt rfl) ty_zero_24 ?_
  intro b4 f4
  have g4 := f4
  repeat ((with_reducible replace g4 := fresh_set g4); obtain ⟨g4, _⟩ := g4)
  (try simp only [List.length_cons, List.length_nil, Nat.zero_add, Nat.reduceAdd])
  refine arun_nil ?_
  refine athen_n ?_
  refine AWPM.seq ?_
  refine AWP.block ?_
  refine AWP.loop (X := Mem × List Nat × Option (Nat × Nat) × Value) (fun x => [(0, x.2.2.2), (3, outV x.2.2.1 x.2.1.length), (4, .pointer (some ⟨b4, 0, none⟩))]) (fun x => outM (x.1.set b4 nilB) x.2.2.1 76 (x.2.1.map pV)) (fun x => S.Less x.1 ∧ Fresh x.1 b4 ∧ OkO (x.1.set b4 nilB) x.2.2.1 x.2.1.length ∧ (∀ i, i < x.2.1.length → LvB x.1 (x.2.1.getD i 0) (Mi l i)) ∧ RowR x.1 x.2.2.2 (Mi l x.2.1.length) ∧ x.2.1.length + (Mi l x.2.1.length).length ≤ l.length) (fun x => (Mi l x.2.1.length).length) ((S, [], none, .slice va l.length vc)) ⟨rfl, rfl, rfl, trivial⟩ (Mem.Less.refl _) (⟨Mem.Less.refl _, f4, okO_nil _, fun i h => absurd h (Nat.not_lt_zero _), hv, by show 0 + l.length ≤ _; omega⟩) ?_
  rintro ⟨M, ps, o, vl⟩ ⟨q1, q2, q3, q4, q5, q6⟩
  (try dsimp only at *)
  obtain ⟨L, hL⟩ : ∃ L, L = Mi l ps.length := ⟨_, rfl⟩
  rw [← hL] at q5 q6
  have hL1 : ∀ y ∈ L, 1 ≤ y := by rw [hL]; exact Mi_pos l h1 _
  obtain ⟨la, lc, rfl, _⟩ := id q5
  refine AWP.block ?_
  refine AWP.seq ?_
  refine AWP.region ?_
  refine rC (Calm.move rfl) ?_
  refine rC (Calm.move rfl) ?_
  refine rC (Calm.lenSl Try.underlying22 rfl) ?_
  refine ARun.call (lit_lt rfl) go_59 rfl ((frameM ((sk_Places _ L.length rfl (by omega) M).frame q2) q3)) ?_
  rintro vp _ ⟨_, ⟨M1, ⟨hM1, hvp⟩, hf1, rfl⟩, ho1, rfl⟩
  obtain ⟨pa, pc, rfl, _⟩ := id hvp
  refine rC (Calm.build (cs := [_, _]) ty_bld_78 rfl rfl) ?_
  refine ARun.boxA (cs := [_, _]) (lit_lt rfl) rfl ?_
  intro b17 f17
  have g17 := f17
  repeat ((with_reducible replace g17 := fresh_set g17); obtain ⟨g17, _⟩ := g17)
  (try simp only [List.length_cons, List.length_nil, Nat.zero_add, Nat.reduceAdd])
  refine rC (Calm.assign rfl) ?_
  refine arun_nil ?_
  refine athen_n ?_
  refine AWP.sub [(0, _), (3, _), (4, _), (5, _)] ⟨rfl, rfl, rfl, rfl, trivial⟩ ?_
  have hne : b4 ≠ b17 := f17.ne (own_outM ho1 (Mem.own_set_same _ _ _))
  have hf17 : Fresh M1 b17 := (fresh_outM f17).1.less (Mem.less_set _ _ _ hf1.1)
  have ho2 := okO_setc (r := ⟨78, [.slice la L.length lc, .slice pa (places L.length).length pc], 2⟩) ho1 f17
  rw [outM_setc f17]
  rw [Mem.set_comm _ _ _ hne] at ho2 ⊢
  have hlv : LvR (M1.set b17 ⟨78, [.slice la L.length lc, .slice pa (places L.length).length pc], 2⟩) b17 L := lvR_box (Mem.own_set_same _ _ _) (q5.less (hM1.trans (Mem.less_set _ _ _ hf17.1))) (idxR_less _ _ _ _ hvp (Mem.less_set _ _ _ hf17.1))
  have hM2 : M.Less (M1.set b17 ⟨78, [.slice la L.length lc, .slice pa (places L.length).length pc], 2⟩) := hM1.trans (Mem.less_set _ _ _ hf17.1)
  have hf2 : Fresh (M1.set b17 ⟨78, [.slice la L.length lc, .slice pa (places L.length).length pc], 2⟩) b4 := fresh_more hf1 hne
  generalize M1.set b17 ⟨78, [.slice la L.length lc, .slice pa (places L.length).length pc], 2⟩ = M2 at *
  refine AWP.seq ?_
  refine AWP.region ?_
  refine rC (Calm.move rfl) ?_
  refine ARun.call (lit_lt rfl) go_63 rfl ((frameM ((sk_reduced b17 L _ hlv (by omega)).frame hf2) ho2)) ?_
  rintro _ _ ⟨_, ⟨M3, ⟨u, rfl, hM3, hu⟩, hf3, rfl⟩, ho3, rfl⟩
  obtain ⟨ua, uc, rfl, _, _, u3⟩ := id hu
  have hMM := hM2.trans hM3
  have hpl : (ps.map pV).length = ps.length := List.length_map ..
  refine rC (Calm.move rfl) ?_
  refine rC (Calm.extract rfl rfl) ?_
  refine rC (Calm.extract rfl rfl) ?_
  refine rC (Calm.assign rfl) ?_
  refine rC (Calm.assign rfl) ?_
  refine arun_nil ?_
  refine athen_n ?_
  refine AWP.sub [(0, _), (3, _), (4, _), (5, _), (6, _), (7, _)] ⟨rfl, rfl, rfl, rfl, rfl, rfl, trivial⟩ ?_
  refine AWP.seq ?_
  refine AWP.region ?_
  refine rC (Calm.move rfl) ?_
  refine rC (Calm.move rfl) ?_
  refine ARun.build1s (lit_lt rfl) ty_sl_121 rfl rfl ?_
  intro b25 f25
  have g25 := f25
  repeat ((with_reducible replace g25 := fresh_set g25); obtain ⟨g25, _⟩ := g25)
  refine ARun.appendO (lit_lt rfl) ty_sl_121 rfl hpl (appO_of ho3 hpl f25) rfl (news := [_]) rds_ rfl (by omega) (by simp [Value.oneCell']) (by omega) (by omega) ?_
  intro b26 c26 ho4
  refine rC (Calm.assign rfl) ?_
  refine arun_nil ?_
  refine athen_n ?_
  refine AWP.sub [(0, _), (3, _), (4, _), (5, _), (6, _), (7, _)] ⟨rfl, rfl, rfl, rfl, rfl, rfl, trivial⟩ ?_
  refine AWP.less (outM (M3.set b4 nilB) (some (b26, c26)) 76 ((ps ++ [b17]).map pV)) (push_less rfl) ?_
  have hrl := red_length L
  have hq4 := lv_push (fun i hi => (q4 i hi).less hMM) (by rw [← hL]; exact ⟨hlv.less hM3, by omega⟩)
  by_cases hmany : many L = numP L.length
  · refine AWP.seq ?_
    refine AWP.seq ?_
    refine AWP.region ?_
    refine rC (Calm.move rfl) ?_
    refine rC (Calm.move rfl) ?_
    refine rC (Calm.lenSl Try.underlying22 rfl) ?_
    refine rC (Calm.bin rfl rfl b_eql) ?_
    refine arun_nil ?_
    refine athen_n ?_
    refine AWP.sub [(0, _), (3, _), (4, _), (5, _), (6, _), (7, _), (30, _)] ⟨rfl, rfl, rfl, rfl, rfl, rfl, rfl, trivial⟩ ?_
    refine AWP.condT rfl (by first | rfl | (simp; done) | (simp; omega)) ?_
    obtain ⟨hF26, hc26⟩ := ho4.own _ _ rfl
    have hne26 : b26 ≠ b4 := hF26.ne' (Mem.own_set_same _ _ _)
    have hf26 : Fresh M3 b26 := hF26.less (Mem.less_set _ _ _ hf3.1)
    rw [show outM (M3.set b4 nilB) (some (b26, c26)) 76 ((ps ++ [b17]).map pV) = (M3.set b26 ⟨76, (ps ++ [b17]).map pV, c26⟩).set b4 nilB from Mem.set_comm _ _ _ hne26.symm]
    have hM4 : M3.Less (M3.set b26 ⟨76, (ps ++ [b17]).map pV, c26⟩) := Mem.less_set _ _ _ hf26.1
    have hf4 : Fresh (M3.set b26 ⟨76, (ps ++ [b17]).map pV, c26⟩) b4 := fresh_more hf3 hne26.symm
    have hown : (M3.set b26 ⟨76, (ps ++ [b17]).map pV, c26⟩).own b26 = some ⟨76, (ps ++ [b17]).map pV, c26⟩ := Mem.own_set_same _ _ _
    have hlev : ∀ j (h : j < (ps ++ [b17]).length), (M3.set b26 ⟨76, (ps ++ [b17]).map pV, c26⟩).Knows ⟨b26, 0 + j * 1, none⟩ [pV (ps ++ [b17])[j]] := fun j h => kn_cell hown j (by rw [List.getElem?_map, List.getElem?_eq_getElem h]; rfl)
    generalize M3.set b26 ⟨76, (ps ++ [b17]).map pV, c26⟩ = M4 at *
    replace hq4 := fun i hi => (hq4 i hi).less hM4
    replace hu := hu.less hM4
    replace hMM := hMM.trans hM4
    clear hown hF26 hf26 ho4
    have hm3 : numP L.length ≤ 3000 := places_le L.length (by omega)
    obtain ⟨m, hm⟩ : ∃ m, m = (red L).length := ⟨_, rfl⟩
    rw [← hm] at hu hrl ⊢
    rw [← hrl] at hmany hm3
    have hmz : madeL [Value.int .i64 0] m = List.replicate m (gI 0) := madeL_one _ _
    unfold nilB
    refine AWP.seq ?_
    refine AWP.region ?_
    refine rC (Calm.move rfl) ?_
    refine rC (Calm.lenSl Try.underlying22 rfl) ?_
    refine ARun.makeSlice (lit_lt rfl) ty_sl_24 rfl rfl (by omega) (by omega) (by omega) (by omega) ?_
    intro b33 f33
    have g33 := f33
    repeat ((with_reducible replace g33 := fresh_set g33); obtain ⟨g33, _⟩ := g33)
    refine ARun.store1 rfl rfl ty_size_24 rfl own_ lens_ rfl ?_
    (try simp only [Mem.set_set, List.set_cons_zero, List.set_cons_succ, Nat.zero_add, Nat.reduceAdd])
    refine arun_nil ?_
    refine athen_n ?_
    refine AWP.sub [(0, _), (3, _), (4, _), (5, _), (6, _), (7, _), (30, _)] ⟨rfl, rfl, rfl, rfl, rfl, rfl, rfl, trivial⟩ ?_
    rw [Mem.set_comm _ _ _ (by assumption : b33 ≠ b4), Mem.set_set, Nat.mul_one, Int.toNat_natCast, hmz]
    refine AWP.seq ?_
    refine AWP.seq ?_
    refine AWP.region ?_
    refine rC (Calm.move rfl) ?_
    refine rC (Calm.lenSl Try.underlying22 rfl) ?_
    refine rC (Calm.move rfl) ?_
    refine arun_nil ?_
    refine athen_n ?_
    refine AWP.block ?_
    refine AWP.loop (X := Nat × List Nat) (fun x => [(3, .slice (some ⟨b26, 0, none⟩) (ps.length + 1) c26), (4, .pointer (some ⟨b4, 0, none⟩)), (34, .slice ua m uc), (35, .int .i64 m), (36, .int .i64 x.1)]) (fun x => (M4.set b4 ⟨24, [.slice (some ⟨b33, 0, none⟩) m m], 1⟩).set b33 ⟨3, x.2.map gI, m⟩) (fun x => x.1 ≤ m ∧ x.2.length = m ∧ ∀ j, j < x.1 → x.2.getD ((red L).getD j 0 - 1) 0 = j) (fun x => m - x.1) ((0, List.replicate m 0)) ⟨rfl, rfl, rfl, rfl, rfl, trivial⟩ (by dsimp only; rw [List.map_replicate]; exact Mem.Less.refl _) (⟨Nat.zero_le _, by simp, fun j h => absurd h (Nat.not_lt_zero _)⟩) ?_
    rintro ⟨i, o2⟩ ⟨k1, k2, k3⟩
    (try dsimp only at *)
    by_cases hi : i < m
    · refine AWP.seq ?_
      refine AWP.region ?_
      refine rC (Calm.bin rfl rfl b_lss) ?_
      refine arun_nil ?_
      refine athen_n ?_
      refine AWP.seq ?_
      refine AWP.condT rfl (by first | rfl | (simp; done) | (simp; omega)) ?_
      have hiL : i < (red L).length := by omega
      obtain ⟨ub, uo, rfl, hkn⟩ := u3.resolve_left (fun h => by rw [h] at hiL; exact absurd hiL (Nat.not_lt_zero _))
      have b1_ := red_pos L _ (List.getElem_mem hiL)
      have b2_ := red_le L _ (List.getElem_mem hiL)
      have hx : (red L)[i] = (red L).getD i 0 := (getD_get _ _ _ hiL).symm
      have hki : M4.Knows ⟨ub, uo + i * 1, none⟩ [.int .u64 ((red L)[i] : Int)] := (hkn i hiL).less hM4
      generalize (red L)[i] = x at *
      have hk : Mem.Knows ((M4.set b4 ⟨24, [.slice (some ⟨b33, 0, none⟩) m m], 1⟩).set b33 ⟨3, o2.map gI, m⟩) ⟨ub, uo + i * 1, none⟩ [.int .u64 (x : Int)] := hki.less ((Mem.less_set _ _ _ hf4.1).trans (Mem.less_set _ _ _ (fresh_more g33 (by assumption : b33 ≠ b4)).1))
      obtain ⟨y, rfl⟩ : ∃ y, x = y + 1 := ⟨x - 1, by omega⟩
      have hxy : ((y + 1 : Nat) : Int) - 1 = (y : Int) := by omega
      refine AWP.skip ?_
      refine athen_n ?_
      refine AWP.seq ?_
      refine AWP.block ?_
      refine AWP.seq ?_
      refine AWP.region ?_
      refine rC (Calm.move rfl) ?_
      refine rC (Calm.indexS Try.underlying22 ty_size_41 rfl rfl (by omega) (by omega)) ?_
      refine rC (ld_ ty_plain_41 rfl) ?_
      refine rC (Calm.assign rfl) ?_
      refine rC (Calm.assign rfl) ?_
      refine arun_nil ?_
      refine athen_n ?_
      refine AWP.sub [(3, _), (4, _), (34, _), (35, _), (36, _), (37, _), (8, _), (9, _)] ⟨rfl, rfl, rfl, rfl, rfl, rfl, rfl, rfl, trivial⟩ ?_
      refine AWP.region ?_
      refine rC (ld_ ty_plain_24 rfl) ?_
      refine rC (Calm.move rfl) ?_
      refine rC (Calm.bin rfl rfl b_sub_u64) ?_
      refine rC (Calm.move rfl) ?_
      refine rC (Calm.indexS Try.underlying24 ty_size_3 rfl rfl (by omega) (by omega)) ?_
      refine ARun.store1 rfl rfl ty_size_3 rfl own_ lens_ rfl ?_
      (try simp only [Mem.set_set, List.set_cons_zero, List.set_cons_succ, Nat.zero_add, Nat.reduceAdd])
      refine arun_nil ?_
      refine ain_n ?_
      refine athen_n ?_
      refine AWP.sub [(3, _), (4, _), (34, _), (35, _), (36, _), (37, _), (8, _), (9, _)] ⟨rfl, rfl, rfl, rfl, rfl, rfl, rfl, rfl, trivial⟩ ?_
      rw [hxy, Int.toNat_natCast, Nat.mul_one]
      refine AWP.region ?_
      refine rC (Calm.bin rfl rfl b_add_i64) ?_
      refine rC (Calm.move rfl) ?_
      refine arun_nil ?_
      refine athen_n ?_
      refine ⟨(i + 1, o2.set y i), ?_, ?_, ?_, ?_⟩
      all_goals (try dsimp only)
      · exact ⟨sq_, sq_, sq_, sq_, sq_, trivial⟩
      · rw [List.map_set]; exact Mem.Less.refl _
      · exact ⟨hi, by rw [List.length_set]; exact k2, lay_step L o2 m i (y + 1) (by omega) hrl.symm k2 hi hx k3⟩
      · omega
    · obtain rfl : m = i := by omega
      have hsort : Ord.SortedE (red L) o2 := lay_done L o2 (by omega) (by omega) (by rw [← hrl]; exact k3)
      rw [Mem.set_comm _ _ _ (by apply Ne.symm; assumption : b4 ≠ b33)]
      have hM5 : M4.Less (M4.set b33 ⟨3, o2.map gI, m⟩) := Mem.less_set _ _ _ g33.1
      have hf5 : Fresh (M4.set b33 ⟨3, o2.map gI, m⟩) b4 := fresh_more hf4 (by apply Ne.symm; assumption)
      have hix : IdxR (M4.set b33 ⟨3, o2.map gI, m⟩) (.slice (some ⟨b33, 0, none⟩) m m) o2 := Sl.own1 (g := gI) (l := o2) (Mem.own_set_same _ _ _) List.prefix_rfl k2 (Nat.le_refl _) (by omega)
      generalize M4.set b33 ⟨3, o2.map gI, m⟩ = M5 at *
      refine AWP.seq ?_
      refine AWP.region ?_
      refine rC (Calm.bin rfl rfl b_lss) ?_
      refine arun_nil ?_
      refine athen_n ?_
      refine AWP.seq ?_
      refine AWP.condF rfl (by first | rfl | (simp; done) | (simp; omega)) ?_
      refine AWP.exit ?_
      refine athen_exit ?_
      refine athen_exit ?_
      refine ain_same ?_
      refine athen_n ?_
      refine AWP.exit ?_
      refine athen_exit ?_
      refine ain_other rfl ?_
      refine athen_exit ?_
      refine ain_same ?_
      refine athen_n ?_
      refine AWPM.seqM ?_
      refine AWPM.seq ?_
      refine AWP.region ?_
      refine rC (Calm.move rfl) ?_
      refine ARun.call (lit_lt rfl) go_104 rfl (sk_Backward _ _ _ _) ?_
      rintro _ _ ⟨Bb, hBf, rfl, rfl⟩
      intro S0 w0 a w hs hg
      obtain ⟨tm, df⟩ := a
      obtain rfl : df = [] := hg.defers
      obtain ⟨x0, x1, x2, x3, x4, x5, x6, x7, x8, x9, x10, x11, x12, x13, x14, x15, x16, x17, x18, x19, x20, x21, x22, x23, x24, x25, x26, x27, x28, x29, x30, x31, x32, x33, x34, x35, x36, x37, x38, x39, x40, x41, x42, x43, x44, x45, x46, x47, x48, x49, x50, x51, x52, x53, x54, x55, rfl⟩ := tmps56 tm hg.size
      have e4 : x4 = .pointer (some ⟨b4, 0, none⟩) := hg.at_ 4 _ rfl
      have e49 : x49 = .func (.func 137) #[] #[.pointer (some ⟨Bb, 0, none⟩)] := hg.at_ 49 _ rfl
      subst e4 e49
      clear hg
      have hnB : b4 ≠ Bb := hBf.ne (Mem.own_set_same _ _ _)
      have hB5 : Fresh M5 Bb := hBf.less (Mem.less_set _ _ _ hf5.1)
      rw [Mem.set_comm _ _ _ hnB] at hs
      have hM6 : M5.Less (M5.set Bb ⟨121, [.slice (some ⟨b26, 0, none⟩) (ps.length + 1) c26], 1⟩) := Mem.less_set _ _ _ hB5.1
      have hf6 : Fresh (M5.set Bb ⟨121, [.slice (some ⟨b26, 0, none⟩) (ps.length + 1) c26], 1⟩) b4 := fresh_more hf5 hnB
      have hkB : (M5.set Bb ⟨121, [.slice (some ⟨b26, 0, none⟩) (ps.length + 1) c26], 1⟩).Knows ⟨Bb, 0, none⟩ [.slice (some ⟨b26, 0, none⟩) (ps.length + 1) c26] := Mem.own_knows (Mem.own_set_same _ _ _) 0 _ (fun j v hj => by rw [Nat.zero_add]; exact hj)
      generalize M5.set Bb ⟨121, [.slice (some ⟨b26, 0, none⟩) (ps.length + 1) c26], 1⟩ = M6 at *
      have hM56 := hM6
      replace hM6 := hM5.trans hM6
      have hlen : (ps ++ [b17]).length = ps.length + 1 := by simp
      replace hix := idxR_less _ _ _ _ hix (show M5.Less M6 from hM56)
      have hS6 : S.Less M6 := q1.trans (hMM.trans hM6)
      clear u3 hM56
      refine wpIn_block ?_
      refine range_view (S0 := S0) (w0 := w0) (gf := 137) (lb := #[.pointer (some ⟨Bb, 0, none⟩)]) (ps.length + 1) (fun k => #[.int .i64 ((ps.length + 1 - 1 - k : Nat) : Int), pV ((ps ++ [b17]).getD (ps.length + 1 - 1 - k) 0)]) (fun k T => ∃ M v e, T = M.set b4 (boxB v) ∧ M6.Less M ∧ Fresh M b4 ∧ IdxR M v e ∧ Ord.SortedE (Mi l (ps.length + 1 - k)) e) (fun k => { tmps := #[x0, x1, x2, x3, .pointer (some ⟨b4, 0, none⟩), x5, x6, x7, x8, x9, x10, pV ((ps ++ [b17]).getD (ps.length + 1 - 1 - k) 0), x12, x13, x14, x15, x16, x17, x18, x19, x20, x21, x22, x23, x24, x25, x26, x27, x28, x29, x30, x31, x32, x33, x34, x35, x36, x37, x38, x39, x40, x41, x42, x43, x44, x45, x46, x47, x48, .func (.func 137) #[] #[.pointer (some ⟨Bb, 0, none⟩)], .int .i64 ((ps.length + 1 - 1 - k : Nat) : Int), pV ((ps ++ [b17]).getD (ps.length + 1 - 1 - k) 0), x52, x53, x54, x55], defers := [] }) rfl (enters_of Try.func137 (by kernel_rfl) rfl) (fun _ => rfl) ?start ?it ?assign ?body ?done
      case start => exact ⟨_, ⟨M6, _, o2, rfl, Mem.Less.refl _, hf6, hix, by show Ord.SortedE (red (Mi l ps.length)) o2; rw [← hL]; exact hsort⟩, hs⟩
      case it =>
        intro l' J W hK hY h0
        refine back_it l' Bb b26 0 c26 (ps.length + 1) (fun j => (ps ++ [b17]).getD j 0) (by omega) J W (fun k W hj => ?_) hY h0
        obtain ⟨T, ⟨M, v, e, rfl, hM, hf, _⟩, hvw⟩ := hK k W hj
        have hl := hM.trans (Mem.less_set _ _ (boxB v) hf.1)
        refine ⟨by have := (hkB.less hl) W hvw 0 _ rfl; simpa [Addr.add] using this, fun j hj => ?_⟩
        have := ((hlev j (by omega)).less (hM6.trans hl)) W hvw 0 _ rfl
        rw [getD_get _ _ _ (by omega)]
        simpa [Addr.add] using this
      case assign =>
        intro l' k W K hK
        simp only [pV] at hK ⊢
        gi_wp2
        exact hK
      case body =>
        rintro l' k T W hk ⟨M, v, e, rfl, hM, hf, hi, hse⟩ hvw
        obtain ⟨ea, ec, rfl, _⟩ := id hi
        have e1 : ps.length + 1 - k = (ps.length - k) + 1 := by omega
        have e2 : ps.length + 1 - 1 - k = ps.length - k := by omega
        have e3 : ps.length + 1 - (k + 1) = ps.length - k := by omega
        rw [e1] at hse
        rw [e2, e3]
        have hlv := (hq4 (ps.length - k) (by omega)).less (hM6.trans hM)
        have hc := (sk_expanded ((ps ++ [b17]).getD (ps.length - k) 0) _ (Mi l (ps.length - k)) e M hlv.1 hi (Mi_pos l h1 _) hse hlv.2).frame (r := boxB (.slice ea e.length ec)) hf
        have c1 := (View.box hvw (Mem.own_set_same _ _ _)).1
        simp only [pV] at hc ⊢
        gi_wp2_with (refine ⟨trivial, ?_⟩; gi_at_call 68; refine (CallsIn.inRound l' (callsIn_wide.2 (hc W hvw))).mono ?_; rintro e' w2 ⟨r, S2, rfl, ⟨M1, ⟨hM1, hr⟩, hf1, rfl⟩, st2⟩; obtain ⟨ra, rc, rfl, _⟩ := id hr; have bx := View.box st2.view (Mem.own_set_same _ _ _); have c2 := bx.1; have z2 := bx.2)
        refine ⟨_, ⟨M1, .slice ra _ rc, rfl, hM.trans hM1, hf1, _, hr, Ord.endsR_ok _⟩, ?_⟩
        have := st2.trans (Step.boxset st2.view (Mem.own_set_same _ _ _) (.slice ra (Ord.endsR (Mi l (ps.length - k)) (Mi l (ps.length - k)).length).length rc) rfl)
        rw [Mem.set_set] at this
        exact this
      case done =>
        rintro D T W ⟨M, v, e, rfl, hM, hf, hi, hse⟩ hst hD hK
        obtain ⟨ea, ec, rfl, _⟩ := id hi
        have c1 := (View.box hst.view (Mem.own_set_same _ _ _)).1
        rw [Nat.sub_self] at hse
        obtain rfl := Ord.sortedE_one hse (Ord.endsR_ok l)
        gi_wp2
        refine ⟨by simp, .inl ⟨_, _, rfl, run_takeDeferred hK, ?_⟩⟩
        refine ⟨.slice ea _ ec, ?_, _, M, rfl, ⟨hS6.trans hM, hi⟩, ((hst.less (Mem.less_set _ _ _ hf.1)).grown (grownBy_putObj' _ D (.deferred none)) (fun r e => by cases e; exact ⟨hD, _, hK, rfl⟩))⟩
        simp [results, Try.f67, go_sem]
  · refine AWP.seq ?_
    refine AWP.seq ?_
    refine AWP.region ?_
    refine rC (Calm.move rfl) ?_
    refine rC (Calm.move rfl) ?_
    refine rC (Calm.lenSl Try.underlying22 rfl) ?_
    refine rC (Calm.bin rfl rfl b_eql) ?_
    refine arun_nil ?_
    refine athen_n ?_
    refine AWP.sub [(0, _), (3, _), (4, _), (5, _), (6, _), (7, _), (30, _)] ⟨rfl, rfl, rfl, rfl, rfl, rfl, rfl, trivial⟩ ?_
    refine AWP.condF rfl (by first | rfl | (simp; done) | (simp; omega)) ?_
    have hMi : Mi l (ps ++ [b17]).length = red L := by rw [List.length_append]; show red (Mi l ps.length) = _; rw [hL]
    refine AWP.skip ?_
    refine athen_n ?_
    refine AWP.region ?_
    refine rC (Calm.move rfl) ?_
    refine rC (Calm.assign rfl) ?_
    refine arun_nil ?_
    refine ain_n ?_
    refine athen_n ?_
    refine ⟨(M3, ps ++ [b17], some (b26, c26), .slice ua (red L).length uc), ?_, ?_, ?_, ?_⟩
    all_goals (try dsimp only)
    · exact ⟨sq_, sq_, sq_, trivial⟩
    · exact Mem.Less.refl _
    · exact ⟨q1.trans hMM, hf3, push_ok ho4 rfl, hq4, by rw [hMi]; exact hu, by rw [hMi, List.length_append]; have := less_long L hL1 hmany; show ps.length + 1 + _ ≤ _; omega⟩
    · rw [hMi, ← hL]; exact less_long L hL1 hmany
end Go.Proofs.Ytgidjbpgkeemiaa
