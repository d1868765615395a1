/-
  Disk: what waits for an extent is forgotten.
-/
import Derived.Test.YtkeiphkccnfhoaaDisk11
namespace Go.Proofs.Ytkeiphkccnfhoaa
open Go.RowKit
open Mv Disk
set_option linter.unusedVariables false
set_option linter.unusedSimpArgs false
set_option maxRecDepth 4000
def isN (s : ByteArray) (w : Wr) : Bool := decide (w.1 = s)
def filt (s : ByteArray) (l : List Wr) : List Wr := l.filter fun w => !isN s w
theorem disk_forget1 (w : Wr) (s : ByteArray) (nb : Nat) (S : Mem) (hk : S.Knows ⟨nb, 0, none⟩ [.string s]) :
    ACall Try.prog 122 #[.agg #[.string w.1, .int .i64 w.2.1, .string w.2.2], .pointer (some ⟨nb, 0, none⟩)] S fun r S' => r = .bool (isN s w) ∧ S' = S := by
  refine ACall.enter (args := [.agg #[.string w.1, .int .i64 w.2.1, .string w.2.2], .pointer (some ⟨nb, 0, none⟩)]) (rs := [.tmp 3]) 8 [(0, .agg #[.string w.1, .int .i64 w.2.1, .string w.2.2]), (1, .pointer (some ⟨nb, 0, none⟩))] Try.func122 rfl rfl (Nat.le_of_ble_eq_true rfl) rfl ⟨rfl, rfl, trivial⟩ ?_
  refine AWP.seq ?_
  refine AWP.region ?_
  refine ARun.boxA (cs := [_, _, _]) (lit_lt rfl) rfl ?_
  intro b2 f2
  have g2 := f2
  repeat ((with_reducible replace g2 := fresh_set g2); obtain ⟨g2, _⟩ := g2)
  (try simp only [List.length_cons, List.length_nil, Nat.zero_add, Nat.reduceAdd])
  refine rC (Calm.assign rfl) ?_
  refine arun_nil ?_
  refine athen_n ?_
  refine AWP.seq ?_
  refine AWP.region ?_
  refine rC (Calm.fieldAddr ty_field_51_0 rfl) ?_
  refine rC (ld_ ty_plain_9 rfl) ?_
  refine rC (ld_ ty_plain_9 rfl) ?_
  refine rC (Calm.bin rfl rfl (bin_str_eql _ _)) ?_
  refine rC (Calm.assign rfl) ?_
  refine arun_nil ?_
  refine athen_n ?_
  refine AWP.sub [(0, _), (1, _), (2, _), (3, _)] ⟨rfl, rfl, rfl, rfl, trivial⟩ ?_
  refine AWP.ret ?_
  refine ⟨_, S, ⟨_, _, rfl, rfl, rfl⟩, less_, ?_⟩
  exact ⟨rfl, rfl⟩
theorem disk_indexW (v : Value) (l : List Wr) (s : ByteArray) (nb : Nat) (S : Mem) (hl : Sl 3 wrF S v l) (hk : S.Knows ⟨nb, 0, none⟩ [.string s]) :
    ACall Try.prog 138 #[v, .func (.func 122) #[] #[.pointer (some ⟨nb, 0, none⟩)]] S fun r S' => ((r = .int .i64 (-1) ∧ ∀ w ∈ l, isN s w = false) ∨ ∃ i, ∃ h : i < l.length, r = .int .i64 (i : Nat) ∧ isN s l[i] = true ∧ ∀ w ∈ l.take i, isN s w = false) ∧ S' = S := by
  obtain ⟨a, cap, rfl, h1, h2, h3⟩ := id hl
  refine ACall.enter (args := [.slice a l.length cap, .func (.func 122) #[] #[.pointer (some ⟨nb, 0, none⟩)]]) (rs := [.tmp 4]) 19 [(0, .slice a l.length cap), (1, .func (.func 122) #[] #[.pointer (some ⟨nb, 0, none⟩)])] Try.func138 rfl rfl (Nat.le_of_ble_eq_true rfl) rfl ⟨rfl, rfl, trivial⟩ ?_
  refine AWP.seq ?_
  refine AWP.region ?_
  refine rC (Calm.assign rfl) ?_
  refine arun_nil ?_
  refine athen_n ?_
  refine AWP.seq ?_
  refine AWP.seq ?_
  refine AWP.region ?_
  refine rC (Calm.move rfl) ?_
  refine rC (Calm.lenSl Try.underlying23 rfl) ?_
  refine rC (Calm.move rfl) ?_
  refine arun_nil ?_
  refine athen_n ?_
  refine AWP.sub [(0, _), (1, _), (4, _), (7, _), (8, _)] ⟨rfl, rfl, rfl, rfl, rfl, trivial⟩ ?_
  refine AWP.block ?_
  refine AWP.loop (X := Nat) (fun x => [(0, .slice a l.length cap), (1, .func (.func 122) #[] #[.pointer (some ⟨nb, 0, none⟩)]), (7, .int .i64 l.length), (8, .int .i64 x)]) (fun x => S) (fun x => x ≤ l.length ∧ ∀ w ∈ l.take x, isN s w = false) (fun x => l.length - x) (0) ⟨rfl, rfl, rfl, rfl, trivial⟩ (Mem.Less.refl _) (⟨Nat.zero_le _, fun w h => by simp at h⟩) ?_
  rintro i ⟨hi, hall⟩
  (try dsimp only at *)
  refine AWP.seq ?_
  refine AWP.region ?_
  refine rC (Calm.bin rfl rfl b_lss) ?_
  refine arun_nil ?_
  refine athen_n ?_
  refine AWP.seq ?_
  refine AWP.condB rfl (fun hc => ?_) (fun hc => ?_)
  · have hc : i < l.length := by have := of_decide_eq_true hc; omega
    obtain ⟨b, off, rfl, hkk⟩ := h3.resolve_left (fun e => by subst e; simp at hc)
    have hki := hkk i hc
    unfold wrF at hki
    refine AWP.skip ?_
    refine athen_n ?_
    refine AWP.seq ?_
    refine AWP.block ?_
    refine AWP.seq ?_
    refine AWP.region ?_
    refine rC (Calm.move rfl) ?_
    refine rC (Calm.assign rfl) ?_
    refine arun_nil ?_
    refine athen_n ?_
    refine AWP.sub [(0, _), (1, _), (7, _), (8, _), (9, _), (5, _)] ⟨rfl, rfl, rfl, rfl, rfl, rfl, trivial⟩ ?_
    refine AWP.seq ?_
    refine AWP.region ?_
    refine rC (Calm.move rfl) ?_
    refine rC (Calm.move rfl) ?_
    refine rC (Calm.move rfl) ?_
    refine rC (Calm.indexS Try.underlying23 ty_size_51 rfl rfl (by omega) (by omega)) ?_
    refine rC (ldA_ (cs := [_, _, _]) ty_agg_51 ty_size_51 rfl) ?_
    refine ARun.callV (lit_lt rfl) go_122 rfl rfl (disk_forget1 l[i] s nb _ hk) ?_
    rintro _ S1 ⟨rfl, h1⟩
    rw [h1]; clear h1 S1
    refine arun_nil ?_
    refine athen_n ?_
    refine AWP.sub [(0, _), (1, _), (7, _), (8, _), (9, _), (5, _), (16, _)] ⟨rfl, rfl, rfl, rfl, rfl, rfl, rfl, trivial⟩ ?_
    refine AWP.condB rfl (fun hb => ?_) (fun hb => ?_)
    · refine AWP.seq ?_
      refine AWP.region ?_
      refine rC (Calm.move rfl) ?_
      refine rC (Calm.assign rfl) ?_
      refine arun_nil ?_
      refine athen_n ?_
      refine AWP.sub [(0, _), (1, _), (7, _), (8, _), (9, _), (5, _), (16, _), (4, _)] ⟨rfl, rfl, rfl, rfl, rfl, rfl, rfl, rfl, trivial⟩ ?_
      refine AWP.ret ?_
      refine ain_ret ?_
      refine athen_ret ?_
      refine athen_ret ?_
      refine ain_ret ?_
      refine athen_ret ?_
      refine ⟨_, S, ⟨_, _, rfl, rfl, rfl⟩, less_, ?_⟩
      exact ⟨.inr ⟨i, hc, rfl, hb, hall⟩, rfl⟩
    · refine AWP.skip ?_
      refine ain_n ?_
      refine athen_n ?_
      refine AWP.region ?_
      refine rC (Calm.bin rfl rfl b_add_i64) ?_
      refine rC (Calm.move rfl) ?_
      refine arun_nil ?_
      refine athen_n ?_
      refine ⟨i + 1, ?_, ?_, ?_, ?_⟩
      all_goals (try dsimp only)
      · exact ⟨rfl, rfl, rfl, rfl, trivial⟩
      · exact less_
      · exact ⟨hc, fun w hw => by rw [take_get hc, List.mem_append] at hw; rcases hw with hw | hw; exact hall w hw; rw [List.mem_singleton.1 hw]; exact hb⟩
      · omega
  · have hc : i = l.length := by have := of_decide_eq_false hc; omega
    subst hc
    rw [List.take_length] at hall
    refine AWP.exit ?_
    refine athen_exit ?_
    refine athen_exit ?_
    refine ain_same ?_
    refine athen_n ?_
    refine AWP.seq ?_
    refine AWP.region ?_
    refine rC (Calm.assign rfl) ?_
    refine arun_nil ?_
    refine athen_n ?_
    refine AWP.ret ?_
    refine ⟨_, S, ⟨_, _, rfl, rfl, rfl⟩, less_, ?_⟩
    exact ⟨.inl ⟨rfl, hall⟩, rfl⟩
theorem filt_all {s : ByteArray} {l : List Wr} (h : ∀ w ∈ l, isN s w = false) : filt s l = l := by
  unfold filt; rw [List.filter_eq_self]; intro w hw; rw [h w hw]; rfl
theorem filt_snoc (s : ByteArray) (l : List Wr) (w : Wr) : filt s (l ++ [w]) = if isN s w = true then filt s l else filt s l ++ [w] := by
  unfold filt; rw [List.filter_append]; cases h : isN s w <;> simp [h]
theorem filt_le (s : ByteArray) (l : List Wr) : (filt s l).length ≤ l.length := List.length_filter_le _ _
theorem store_cells3 {F G R W : List Value} {k : Nat} (hk : F.length = k) (hG : 3 ≤ G.length) (hW : W.length = 3) : spl (F ++ (G ++ R)) k W = (F ++ W) ++ (G.drop 3 ++ R) := by
  have e : F ++ (G ++ R) = F ++ (G.take 3 ++ (G.drop 3 ++ R)) := by rw [← List.append_assoc (G.take 3), List.take_append_drop]
  rw [e, spl_mid hk (by simp [hW]; omega), List.append_assoc]
theorem wr_drop {l : List Wr} {j : Nat} (h : j < l.length) : (l.drop j).flatMap wrF = wrF l[j] ++ (l.drop (j + 1)).flatMap wrF := by rw [drop_get h, List.flatMap_cons]
set_option maxHeartbeats 2000000 in
theorem del_func (B : Mem) (o : Option (Nat × Nat)) (l : List Wr) (s : ByteArray) (nb : Nat) (ho : OkO B o l.length) (hlen : l.length ≤ 16384) (hk : B.Knows ⟨nb, 0, none⟩ [.string s]) :
    ACall Try.prog 121 #[outV o l.length, .func (.func 122) #[] #[.pointer (some ⟨nb, 0, none⟩)]] (outN 3 B o wrT (l.flatMap wrF)) fun r S' => OkO B o (filt s l).length ∧ r = outV o (filt s l).length ∧ S' = outN 3 B o wrT ((filt s l).flatMap wrF) := by
  have hfl := flat_length wr_len l
  have hSl := sl_outN wr_len (e := wrT) ho rfl (Nat.le_trans hlen (by decide))
  have hidx := disk_indexW _ l s nb _ hSl (hk.less (outN_over ho))
  by_cases hall : ∀ w ∈ l, isN s w = false
  · rw [filt_all hall]
    obtain ⟨a, c, hqe⟩ := outV_eq ho
    rw [hqe] at hidx ⊢
    generalize hM : outN 3 B o wrT (l.flatMap wrF) = M at *
    refine ACall.enter (args := [.slice a l.length c, .func (.func 122) #[] #[.pointer (some ⟨nb, 0, none⟩)]]) (rs := [.tmp 4]) 42 [(0, .slice a l.length c), (1, .func (.func 122) #[] #[.pointer (some ⟨nb, 0, none⟩)])] Try.func121 rfl rfl (Nat.le_of_ble_eq_true rfl) rfl ⟨rfl, rfl, trivial⟩ ?_
    refine AWP.seq ?_
    refine AWP.region ?_
    refine rC (Calm.assign rfl) ?_
    refine arun_nil ?_
    refine athen_n ?_
    refine AWP.seq ?_
    refine AWP.region ?_
    refine rC (Calm.move rfl) ?_
    refine rC (Calm.move rfl) ?_
    refine ARun.call (lit_lt rfl) go_138 rfl (hidx) ?_
    rintro _ S1 ⟨hr, h1⟩
    rw [h1]; clear h1 S1
    obtain ⟨rfl, _⟩ := hr.resolve_right (fun ⟨i, h, _, hi, _⟩ => by rw [hall _ (List.getElem_mem h)] at hi; cases hi)
    refine rC (Calm.assign rfl) ?_
    refine arun_nil ?_
    refine athen_n ?_
    refine AWP.sub [(0, _), (1, _), (4, _), (5, _)] ⟨rfl, rfl, rfl, rfl, trivial⟩ ?_
    refine AWP.seq ?_
    refine AWP.seq ?_
    refine AWP.region ?_
    refine rC (Calm.move rfl) ?_
    refine rC (Calm.bin rfl rfl b_eql) ?_
    refine arun_nil ?_
    refine athen_n ?_
    refine AWP.sub [(0, _), (1, _), (4, _), (5, _), (12, _)] ⟨rfl, rfl, rfl, rfl, rfl, trivial⟩ ?_
    refine AWP.condT rfl (by first | rfl | (simp; done) | (simp; omega)) ?_
    refine AWP.seq ?_
    refine AWP.region ?_
    refine rC (Calm.move rfl) ?_
    refine rC (Calm.assign rfl) ?_
    refine arun_nil ?_
    refine athen_n ?_
    refine AWP.sub [(0, _), (1, _), (4, _), (5, _), (12, _)] ⟨rfl, rfl, rfl, rfl, rfl, trivial⟩ ?_
    refine AWP.ret ?_
    refine athen_ret ?_
    refine ⟨_, M, ⟨_, _, rfl, rfl, rfl⟩, less_, ?_⟩
    exact ⟨ho, rfl, rfl⟩
  · obtain ⟨⟨b, c⟩, rfl⟩ : ∃ q, o = some q := by
      cases o with
      | none => exact absurd (fun w hw => by rw [List.eq_nil_of_length_eq_zero (ho.nil rfl)] at hw; cases hw) hall
      | some q => exact ⟨q, rfl⟩
    have hc := (ho.own b c rfl).2
    have hfb := (ho.own b c rfl).1
    dsimp only [outN, outV] at hidx ⊢
    refine ACall.enter (args := [.slice (some ⟨b, 0, none⟩) l.length c, .func (.func 122) #[] #[.pointer (some ⟨nb, 0, none⟩)]]) (rs := [.tmp 4]) 42 [(0, .slice (some ⟨b, 0, none⟩) l.length c), (1, .func (.func 122) #[] #[.pointer (some ⟨nb, 0, none⟩)])] Try.func121 rfl rfl (Nat.le_of_ble_eq_true rfl) rfl ⟨rfl, rfl, trivial⟩ ?_
    refine AWP.seq ?_
    refine AWP.region ?_
    refine rC (Calm.assign rfl) ?_
    refine arun_nil ?_
    refine athen_n ?_
    refine AWP.seq ?_
    refine AWP.region ?_
    refine rC (Calm.move rfl) ?_
    refine rC (Calm.move rfl) ?_
    refine ARun.call (lit_lt rfl) go_138 rfl (hidx) ?_
    rintro _ S1 ⟨hr, h1⟩
    rw [h1]; clear h1 S1
    obtain ⟨i0, hi0, rfl, hn0, ht0⟩ := hr.resolve_left (fun h => hall h.2)
    have hf0 : filt s (l.take (i0 + 1)) = l.take i0 := by rw [take_get hi0, filt_snoc, if_pos hn0, filt_all ht0]
    refine rC (Calm.assign rfl) ?_
    refine arun_nil ?_
    refine athen_n ?_
    refine AWP.sub [(0, _), (1, _), (4, _), (5, _)] ⟨rfl, rfl, rfl, rfl, trivial⟩ ?_
    refine AWP.seq ?_
    refine AWP.seq ?_
    refine AWP.region ?_
    refine rC (Calm.move rfl) ?_
    refine rC (Calm.bin rfl rfl b_eql) ?_
    refine arun_nil ?_
    refine athen_n ?_
    refine AWP.sub [(0, _), (1, _), (4, _), (5, _), (12, _)] ⟨rfl, rfl, rfl, rfl, rfl, trivial⟩ ?_
    refine AWP.condF rfl (by first | rfl | (simp; done) | (simp; omega)) ?_
    refine AWP.skip ?_
    refine athen_n ?_
    refine AWP.seq ?_
    refine AWP.seq ?_
    refine AWP.region ?_
    refine rC (Calm.move rfl) ?_
    refine rC (Calm.bin rfl rfl b_add_i64) ?_
    refine rC (Calm.assign rfl) ?_
    refine arun_nil ?_
    refine athen_n ?_
    refine AWP.sub [(0, _), (1, _), (4, _), (5, _), (12, _), (6, _)] ⟨rfl, rfl, rfl, rfl, rfl, rfl, trivial⟩ ?_
    refine AWP.block ?_
    refine AWP.loop (X := Nat × List Value) (fun x => [(0, .slice (some ⟨b, 0, none⟩) l.length c), (1, .func (.func 122) #[] #[.pointer (some ⟨nb, 0, none⟩)]), (5, .int .i64 ((filt s (l.take x.1)).length : Nat)), (6, .int .i64 x.1)]) (fun x => B.set b ⟨wrT, (filt s (l.take x.1)).flatMap wrF ++ (x.2 ++ (l.drop x.1).flatMap wrF), c * 3⟩) (fun x => x.1 ≤ l.length ∧ (filt s (l.take x.1)).length < x.1 ∧ ((filt s (l.take x.1)).length * 3 + x.2.length = x.1 * 3)) (fun x => l.length - x.1) ((i0 + 1, wrF l[i0])) ⟨rfl, rfl, some_int (by simp only [hf0, List.length_take]; omega), some_int (by simp), trivial⟩ (by simp only [hf0]; rw [← wr_drop hi0, ← flat_take (n := 3)]; exact Mem.Less.refl _) (⟨hi0, by simp only [hf0, List.length_take]; omega, by simp only [hf0, List.length_take, wr_len]; omega⟩) ?_
    rintro ⟨j, G⟩ ⟨hj, hfj, hG⟩
    (try dsimp only at *)
    obtain ⟨k, hkk⟩ : ∃ k, (filt s (l.take j)).length = k := ⟨_, rfl⟩
    have hF := flat_length wr_len (filt s (l.take j))
    rw [hkk] at hF hfj hG
    refine AWP.seq ?_
    refine AWP.seq ?_
    refine AWP.region ?_
    refine rC (Calm.move rfl) ?_
    refine rC (Calm.move rfl) ?_
    refine rC (Calm.lenSl Try.underlying23 rfl) ?_
    refine rC (Calm.bin rfl rfl b_lss) ?_
    refine arun_nil ?_
    refine athen_n ?_
    refine AWP.sub [(0, _), (1, _), (5, _), (6, _), (19, _)] ⟨rfl, rfl, rfl, rfl, rfl, trivial⟩ ?_
    refine AWP.condB rfl (fun hc => ?_) (fun hc => ?_)
    · have hc : j < l.length := by have := of_decide_eq_true hc; omega
      have hR := wr_drop hc
      have hRl := flat_length wr_len (l.drop j)
      rw [List.length_drop] at hRl
      have hft := filt_snoc s (l.take j) l[j]
      rw [← take_get hc] at hft
      have hki : (B.set b ⟨wrT, (filt s (l.take j)).flatMap wrF ++ (G ++ (l.drop j).flatMap wrF), c * 3⟩).Knows ⟨b, 0 + j * 3, none⟩ (wrF l[j]) := Mem.own_knows (Mem.own_set_same _ _ _) _ _ (fun q v hq => by simp only; rw [List.getElem?_append_right (by omega), List.getElem?_append_right (by omega), hR, List.getElem?_append_left (by have := (List.getElem?_eq_some_iff.1 hq).1; omega), ← hq]; congr 1; omega)
      generalize hw : l[j] = w at *
      unfold wrF at hki
      refine AWP.skip ?_
      refine athen_n ?_
      refine AWP.seq ?_
      refine AWP.block ?_
      refine AWP.seq ?_
      refine AWP.region ?_
      refine rC (Calm.move rfl) ?_
      refine rC (Calm.move rfl) ?_
      refine rC (Calm.indexS Try.underlying23 ty_size_51 rfl rfl (by omega) (by omega)) ?_
      refine rC (ldA_ (cs := [_, _, _]) ty_agg_51 ty_size_51 rfl) ?_
      refine ARun.alloc (lit_lt rfl) ty_zero_51 ?_
      intro b7 f7
      have g7 := f7
      repeat ((with_reducible replace g7 := fresh_set g7); obtain ⟨g7, _⟩ := g7)
      (try simp only [List.length_cons, List.length_nil, Nat.zero_add, Nat.reduceAdd])
      first | refine ARun.storeAll rfl rfl ty_size_51 own_ rfl rfl ?_ | refine ARun.store rfl rfl ty_size_51 own_ lens_ rfl ?_
      (try simp only [Mem.set_set, List.set_cons_zero, List.set_cons_succ, Nat.zero_add, Nat.reduceAdd])
      refine arun_nil ?_
      refine athen_n ?_
      refine AWP.sub [(0, _), (1, _), (5, _), (6, _), (19, _), (7, _)] ⟨rfl, rfl, rfl, rfl, rfl, rfl, trivial⟩ ?_
      refine AWP.seq ?_
      refine AWP.region ?_
      refine rC (Calm.move rfl) ?_
      refine rC (ldA_ (cs := [_, _, _]) ty_agg_51 ty_size_51 rfl) ?_
      refine ARun.callV (lit_lt rfl) go_122 rfl rfl (disk_forget1 w s nb _ (hk.less less_)) ?_
      rintro _ S1 ⟨rfl, h1⟩
      rw [h1]; clear h1 S1
      refine rC (Calm.un rfl (una_not _)) ?_
      refine arun_nil ?_
      refine athen_n ?_
      refine AWP.sub [(0, _), (1, _), (5, _), (6, _), (19, _), (7, _), (29, _)] ⟨rfl, rfl, rfl, rfl, rfl, rfl, rfl, trivial⟩ ?_
      by_cases hb : isN s w = true
      · rw [hb]
        rw [if_pos hb] at hft
        refine AWP.condF rfl (by first | rfl | (simp; done) | (simp; omega)) ?_
        have hcell : (filt s (l.take (j + 1))).flatMap wrF ++ ((G ++ wrF w) ++ (l.drop (j + 1)).flatMap wrF) = (filt s (l.take j)).flatMap wrF ++ (G ++ (l.drop j).flatMap wrF) := by rw [hft, hR, List.append_assoc]
        refine AWP.skip ?_
        refine ain_n ?_
        refine athen_n ?_
        refine AWP.region ?_
        refine rC (Calm.move rfl) ?_
        refine rC (Calm.bin rfl rfl b_add_i64) ?_
        refine rC (Calm.assign rfl) ?_
        refine arun_nil ?_
        refine athen_n ?_
        refine ⟨(j + 1, G ++ wrF w), ?_, ?_, ?_, ?_⟩
        all_goals (try dsimp only)
        · exact ⟨rfl, rfl, some_int (by rw [hft]), rfl, trivial⟩
        · simp only [hcell]; exact less_
        · exact ⟨hc, by simp only [hft]; omega, by simp only [hft, List.length_append, wr_len]; omega⟩
        · omega
      · rw [Bool.eq_false_iff.2 hb]
        rw [if_neg hb] at hft
        refine AWP.condT rfl (by first | rfl | (simp; done) | (simp; omega)) ?_
        rw [hkk]
        refine AWP.seq ?_
        refine AWP.region ?_
        refine rC (Calm.move rfl) ?_
        refine rC (Calm.move rfl) ?_
        refine rC (ldA_ (cs := [_, _, _]) ty_agg_51 ty_size_51 rfl) ?_
        refine rC (Calm.indexS Try.underlying23 ty_size_51 rfl rfl (by omega) (by omega)) ?_
        refine ARun.store rfl rfl ty_size_51 own_ (by show 0 + k * 3 + 3 ≤ (_ ++ (_ ++ _) : List Value).length; simp only [List.length_append, hF, hRl]; omega) (by simp [Value.cells, Value.oneCell']) ?_
        (try simp only [Mem.set_set, List.set_cons_zero, List.set_cons_succ, Nat.zero_add, Nat.reduceAdd])
        refine arun_nil ?_
        refine athen_n ?_
        refine AWP.sub [(0, _), (1, _), (5, _), (6, _), (19, _), (7, _), (29, _)] ⟨rfl, rfl, rfl, rfl, rfl, rfl, rfl, trivial⟩ ?_
        have hcell : (filt s (l.take (j + 1))).flatMap wrF ++ ((G.drop 3 ++ wrF w) ++ (l.drop (j + 1)).flatMap wrF) = spl ((filt s (l.take j)).flatMap wrF ++ (G ++ (l.drop j).flatMap wrF)) ((k : Int).toNat * 3) (Value.agg #[.string w.1, .int .i64 w.2.1, .string w.2.2]).cells.toList := by show _ = spl _ _ (wrF w); rw [store_cells3 (by omega) (by omega) rfl, hft, hR, List.flatMap_append, List.append_assoc (G.drop 3)]; simp
        refine AWP.region ?_
        refine rC (Calm.move rfl) ?_
        refine rC (Calm.bin rfl rfl b_add_i64) ?_
        refine rC (Calm.assign rfl) ?_
        refine arun_nil ?_
        refine ain_n ?_
        refine athen_n ?_
        refine AWP.sub [(0, _), (1, _), (5, _), (6, _), (19, _), (7, _), (29, _)] ⟨rfl, rfl, rfl, rfl, rfl, rfl, rfl, trivial⟩ ?_
        refine AWP.region ?_
        refine rC (Calm.move rfl) ?_
        refine rC (Calm.bin rfl rfl b_add_i64) ?_
        refine rC (Calm.assign rfl) ?_
        refine arun_nil ?_
        refine athen_n ?_
        refine ⟨(j + 1, G.drop 3 ++ wrF w), ?_, ?_, ?_, ?_⟩
        all_goals (try dsimp only)
        · exact ⟨rfl, rfl, some_int (by rw [hft, List.length_append, hkk]; simp), rfl, trivial⟩
        · simp only [hcell]; exact less_
        · exact ⟨hc, by simp only [hft, List.length_append, hkk]; simp; omega, by simp only [hft, List.length_append, List.length_drop, wr_len, hkk]; simp; omega⟩
        · omega
    · have hc : j = l.length := by have := of_decide_eq_false hc; omega
      subst hc
      rw [List.take_length] at hkk hF
      rw [List.take_length, List.drop_length, List.flatMap_nil, List.append_nil, hkk]
      have hl1 : ((filt s l).flatMap wrF ++ G).length = l.length * 3 := by rw [List.length_append, hF]; omega
      refine AWP.exit ?_
      refine athen_exit ?_
      refine athen_exit ?_
      refine ain_same ?_
      refine athen_n ?_
      refine AWP.seq ?_
      refine AWP.region ?_
      refine rC (Calm.move rfl) ?_
      refine rC (Calm.move rfl) ?_
      refine rC (Calm.sliceLo k Try.underlying23 ty_size_51 rfl rfl rfl (by omega) (by omega)) ?_
      refine ARun.clearK (k := l.length - k) ty_sl_23 rfl (by simp only [List.mem_cons, List.not_mem_nil, or_false]; rintro v (rfl | rfl | rfl) <;> rfl) rfl (Mem.own_set_same _ _ _) (by simp only [hl1]; omega) (.inl (by simp only [hl1]; omega)) ?_
      intro zs hzs
      refine arun_nil ?_
      refine athen_n ?_
      refine AWP.sub [(0, _), (1, _), (5, _), (6, _), (19, _)] ⟨rfl, rfl, rfl, rfl, rfl, trivial⟩ ?_
      refine AWP.seq ?_
      refine AWP.region ?_
      refine rC (Calm.move rfl) ?_
      refine rC (Calm.move rfl) ?_
      refine rC (Calm.sliceHi k Try.underlying23 ty_size_51 rfl rfl rfl (by omega)) ?_
      refine rC (Calm.assign rfl) ?_
      refine arun_nil ?_
      refine athen_n ?_
      refine AWP.sub [(0, _), (1, _), (5, _), (6, _), (19, _), (4, _)] ⟨rfl, rfl, rfl, rfl, rfl, rfl, trivial⟩ ?_
      rw [Mem.set_set]
      refine AWP.cut (cs' := (filt s l).flatMap wrF) (m' := c * 3) (spl_keep (by omega) (List.prefix_append _ _)) (Nat.le_refl _) ?_
      refine AWP.ret ?_
      refine ⟨_, _, ⟨_, _, rfl, rfl, rfl⟩, Mem.Less.refl _, ?_⟩
      exact ⟨okO_own hfb (by omega), by rfl, rfl⟩
end Go.Proofs.Ytkeiphkccnfhoaa
