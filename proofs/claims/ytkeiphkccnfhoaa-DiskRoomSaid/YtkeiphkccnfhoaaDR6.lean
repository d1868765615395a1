/-
  Disk, the document's side: a disk without an extent.
-/
import Derived.Test.YtkeiphkccnfhoaaDR5
namespace Go.Proofs.Ytkeiphkccnfhoaa
open Go.RowKit
open Mv Disk
set_option linter.unusedVariables false
set_option linter.unusedSimpArgs false
set_option maxRecDepth 4000
theorem outN_box {n : Nat} {S : Mem} {o : Option (Nat × Nat)} {e : TypeId} {cs : List Value} {b : Nat} {r r' : Blk} (h : ∀ q c, o = some (q, c) → b ≠ q) : (outN n (S.set b r) o e cs).set b r' = outN n (S.set b r') o e cs := by
  cases o with
  | none => exact Mem.set_set _ _ _ _
  | some z =>
    obtain ⟨q, c⟩ := z
    show ((S.set b r).set q _).set b r' = (S.set b r').set q _
    rw [Mem.set_comm' (S.set b r) _ _ (Ne.symm (h q c rfl)), Mem.set_set]
theorem own_outN_none {n : Nat} {S : Mem} {o : Option (Nat × Nat)} {e : TypeId} {cs : List Value} {b : Nat} (hs : S.own b = none) (h : ∀ q c, o = some (q, c) → b ≠ q) : (outN n S o e cs).own b = none := by
  cases o with
  | none => exact hs
  | some z => obtain ⟨q, c⟩ := z; exact (Mem.own_set_other _ _ (h q c rfl)).trans hs
theorem drop_snoc {l : List Ext} {i : Nat} (h : i < l.length) (s : ByteArray) : dropE (l.take (i + 1)) s = if l[i].1 = s then dropE (l.take i) s else dropE (l.take i) s ++ [l[i]] := by
  rw [take_get h]
  unfold dropE
  rw [List.filter_append]
  by_cases e : l[i].1 = s
  · rw [if_pos e, List.filter_cons, if_neg (by simpa using e)]; simp
  · rw [if_neg e, List.filter_cons, if_pos (by simpa using e)]; rfl
theorem dropE_le (l : List Ext) (s : ByteArray) : (dropE l s).length ≤ l.length := List.length_filter_le _ _
theorem Mv.OkO.lessL {S T : Mem} {o : Option (Nat × Nat)} {n : Nat} (h : OkO T o n) (hl : S.Less T) : OkO S o n :=
  ⟨h.nil, fun q c e => ⟨⟨(by
    have h1 := (h.own q c e).1.1
    cases hs : S.own q with
    | none => rfl
    | some r => rw [hl.1 q r hs] at h1; cases h1), fun a v ha => (h.own q c e).1.2 a v (by rw [← hl.2]; exact ha)⟩, (h.own q c e).2⟩⟩
theorem filt_take {l : List Wr} {i : Nat} (h : i < l.length) (s : ByteArray) : filt s (l.take (i + 1)) = if l[i].1 = s then filt s (l.take i) else filt s (l.take i) ++ [l[i]] := by
  rw [take_get h, filt_snoc]
  unfold isN
  by_cases e : l[i].1 = s
  · rw [if_pos e, if_pos (by simpa using e)]
  · rw [if_neg e, if_neg (by simpa using e)]
def boxD (d : D) (a b : Value) : Blk := ⟨25, [.int .i64 d.size, a, b, .int .i64 d.fuse, .bool d.down], 5⟩
set_option maxHeartbeats 2000000 in
theorem rd_without (v : Value) (d : D) (s : ByteArray) (S : Mem) (hd : DkR S v d) (hz1 : d.ext.length ≤ 1048576) (hz2 : d.waits.length ≤ 1048576) :
    ACall Try.prog 56 #[v, .string s] S (DkOut (lessD d s) S) := by
  obtain ⟨pe, ce, pw, cw, rfl, hE, hW⟩ := hd
  obtain ⟨_, _, ee1, ee2, ee3, hE3⟩ := id hE
  obtain ⟨_, _, ew1, ew2, ew3, hW3⟩ := id hW
  cases ee1; cases ew1
  refine ACall.enter (args := [.agg #[.int .i64 d.size, .slice pe d.ext.length ce, .slice pw d.waits.length cw, .int .i64 d.fuse, .bool d.down], .string s]) (rs := [.cell 4 25]) 54 [(0, .agg #[.int .i64 d.size, .slice pe d.ext.length ce, .slice pw d.waits.length cw, .int .i64 d.fuse, .bool d.down]), (1, .string s)] Try.func56 rfl rfl (Nat.le_of_ble_eq_true rfl) rfl ⟨rfl, rfl, trivial⟩ ?_
  refine AWP.seq ?_
  refine AWP.region ?_
  refine ARun.boxA (cs := [_, _, _, _, _]) (lit_lt rfl) rfl ?_
  intro b2 f2
  have g2 := f2
  repeat ((with_reducible replace g2 := fresh_set g2); obtain ⟨g2, _⟩ := g2)
  (try simp only [List.length_cons, List.length_nil, Nat.zero_add, Nat.reduceAdd])
  refine ARun.alloc (lit_lt rfl) ty_zero_25 ?_
  intro b4 f4
  have g4 := f4
  repeat ((with_reducible replace g4 := fresh_set g4); obtain ⟨g4, _⟩ := g4)
  (try simp only [List.length_cons, List.length_nil, Nat.zero_add, Nat.reduceAdd])
  refine arun_nil ?_
  refine athen_n ?_
  refine named2 (S := S) (b := b2) (b' := b4) f2.1 f4.1 ?_
  intro T4 hT4 kb2 kb4
  replace hE := hE.less hT4
  replace hW := hW.less hT4
  refine AWP.seq ?_
  refine AWP.region ?_
  refine rC (Calm.fieldAddr ty_field_25_0 rfl) ?_
  refine rC (ld_ ty_plain_3 rfl) ?_
  refine rC (Calm.fieldAddr ty_field_25_3 rfl) ?_
  refine rC (ld_ ty_plain_3 rfl) ?_
  refine rC (Calm.fieldAddr ty_field_25_4 rfl) ?_
  refine rC (ld_ ty_plain_4 rfl) ?_
  refine rC (Calm.build (cs := [_, _, _, _, _]) ty_bld_25 rfl rfl) ?_
  refine ARun.alloc (lit_lt rfl) ty_zero_25 ?_
  intro b5 f5
  have g5 := f5
  repeat ((with_reducible replace g5 := fresh_set g5); obtain ⟨g5, _⟩ := g5)
  have := g5.ne kb2; have := g5.ne' kb2
  have := g5.ne kb4; have := g5.ne' kb4
  (try simp only [List.length_cons, List.length_nil, Nat.zero_add, Nat.reduceAdd])
  first | refine ARun.storeAll rfl rfl ty_size_25 own_ rfl rfl ?_ | refine ARun.store rfl rfl ty_size_25 own_ lens_ rfl ?_
  (try simp only [Mem.set_set, List.set_cons_zero, List.set_cons_succ, Nat.zero_add, Nat.reduceAdd])
  refine arun_nil ?_
  refine athen_n ?_
  refine AWP.sub [(0, _), (1, _), (2, _), (4, _), (5, _)] ⟨rfl, rfl, rfl, rfl, rfl, trivial⟩ ?_
  refine AWP.seq ?_
  refine AWP.seq ?_
  refine AWP.region ?_
  refine rC (Calm.fieldAddr ty_field_25_1 rfl) ?_
  refine rC (ld_ ty_plain_22 rfl) ?_
  refine rC (Calm.lenSl Try.underlying22 rfl) ?_
  refine rC (Calm.move rfl) ?_
  refine arun_nil ?_
  refine athen_n ?_
  refine AWP.sub [(0, _), (1, _), (2, _), (4, _), (5, _), (18, _), (19, _), (20, _)] ⟨rfl, rfl, rfl, rfl, rfl, rfl, rfl, rfl, trivial⟩ ?_
  obtain ⟨f5m, _⟩ := id (And.intro f5 trivial)
  refine AWP.block ?_
  refine AWP.loop (X := Nat × Option (Nat × Nat)) (fun x => [(1, .string s), (2, .pointer (some ⟨b2, 0, none⟩)), (4, .pointer (some ⟨b4, 0, none⟩)), (5, .pointer (some ⟨b5, 0, none⟩)), (18, .slice pe d.ext.length ce), (19, .int .i64 d.ext.length), (20, .int .i64 x.1)]) (fun x => outN 2 (T4.set b5 (boxD d (outV x.2 (dropE (d.ext.take x.1) s).length) (.slice none 0 0))) x.2 extT ((dropE (d.ext.take x.1) s).flatMap extF)) (fun x => x.1 ≤ d.ext.length ∧ OkO T4 x.2 (dropE (d.ext.take x.1) s).length ∧ ∀ q c, x.2 = some (q, c) → b5 ≠ q) (fun x => d.ext.length - x.1) ((0, none)) ⟨rfl, rfl, rfl, rfl, rfl, rfl, rfl, trivial⟩ (Mem.Less.refl _) (⟨Nat.zero_le _, okO_nil _, fun q c e => by cases e⟩) ?_
  rintro ⟨i, oE⟩ ⟨hi, hoE, hne⟩
  (try dsimp only at *)
  have hlei := dropE_le (d.ext.take i) s
  have hli : (d.ext.take i).length = i := by simp; omega
  obtain ⟨M, hM⟩ : ∃ M, outN 2 (T4.set b5 (boxD d (outV oE (dropE (d.ext.take i) s).length) (.slice none 0 0))) oE extT ((dropE (d.ext.take i) s).flatMap extF) = M := ⟨_, rfl⟩
  have hT5 : T4.Less (T4.set b5 (boxD d (outV oE (dropE (d.ext.take i) s).length) (.slice none 0 0))) := Mem.less_set _ _ _ f5.1
  have hoE5 : ∀ r, OkO (T4.set b5 r) oE (dropE (d.ext.take i) s).length := fun r => hoE.set hne
  have hTM : T4.Less M := by rw [← hM]; exact hT5.trans (outN_over (hoE5 _))
  have kM5 : M.own b5 = some (boxD d (outV oE (dropE (d.ext.take i) s).length) (.slice none 0 0)) := by rw [← hM]; exact own_outN' (Mem.own_set_same _ _ _) (fun q c e => Ne.symm (hne q c e))
  have kM2 := hTM.own kb2
  have kM4 := hTM.own kb4
  unfold boxD at kM5
  rw [hM]
  refine AWP.seq ?_
  refine AWP.region ?_
  refine rC (Calm.bin rfl rfl b_lss) ?_
  refine arun_nil ?_
  refine athen_n ?_
  refine AWP.seq ?_
  refine AWP.condB rfl (fun hc => ?_) (fun hc => ?_)
  · have hc : i < d.ext.length := by have := of_decide_eq_true hc; omega
    obtain ⟨b, off, rfl, hk⟩ := hE3.resolve_left (fun e => by rw [e] at hc; simp at hc)
    have hki := ((hk i hc).less hT4).less hTM
    have hsn := drop_snoc hc s
    generalize d.ext[i] = x at *
    unfold extF at hki
    refine AWP.skip ?_
    refine athen_n ?_
    refine AWP.seq ?_
    refine AWP.block ?_
    refine AWP.seq ?_
    refine AWP.region ?_
    refine rC (Calm.indexS Try.underlying22 ty_size_54 rfl rfl (by omega) (by omega)) ?_
    refine rC (ldA_ (cs := [_, _]) ty_agg_54 ty_size_54 rfl) ?_
    refine ARun.alloc (lit_lt rfl) ty_zero_54 ?_
    intro b7 f7
    have g7 := f7
    repeat ((with_reducible replace g7 := fresh_set g7); obtain ⟨g7, _⟩ := g7)
    have := g7.ne kM5; have := g7.ne' kM5
    have := g7.ne kM2; have := g7.ne' kM2
    have := g7.ne kM4; have := g7.ne' kM4
    (try simp only [List.length_cons, List.length_nil, Nat.zero_add, Nat.reduceAdd])
    first | refine ARun.storeAll rfl rfl ty_size_54 own_ rfl rfl ?_ | refine ARun.store rfl rfl ty_size_54 own_ lens_ rfl ?_
    (try simp only [Mem.set_set, List.set_cons_zero, List.set_cons_succ, Nat.zero_add, Nat.reduceAdd])
    refine arun_nil ?_
    refine athen_n ?_
    refine AWP.sub [(1, _), (2, _), (4, _), (5, _), (18, _), (19, _), (20, _), (21, _), (7, _)] ⟨rfl, rfl, rfl, rfl, rfl, rfl, rfl, rfl, rfl, trivial⟩ ?_
    refine AWP.seq ?_
    refine AWP.region ?_
    refine rC (Calm.fieldAddr ty_field_54_0 rfl) ?_
    refine rC (ld_ ty_plain_9 rfl) ?_
    refine rC (Calm.move rfl) ?_
    refine rC (Calm.bin rfl rfl (bin_str_neq _ _)) ?_
    refine arun_nil ?_
    refine athen_n ?_
    refine AWP.sub [(1, _), (2, _), (4, _), (5, _), (18, _), (19, _), (20, _), (21, _), (7, _), (27, _)] ⟨rfl, rfl, rfl, rfl, rfl, rfl, rfl, rfl, rfl, rfl, trivial⟩ ?_
    refine AWP.condB rfl (fun hb => ?_) (fun hb => ?_)
    · have hb : x.1 ≠ s := by simpa using hb
      rw [if_neg hb] at hsn
      have happ : AppN 2 M (T4.set b5 (boxD d (outV oE (dropE (d.ext.take i) s).length) (.slice none 0 0))) oE extT ((dropE (d.ext.take i) s).flatMap extF) := by rw [← hM]; exact appN_self (hoE5 _) (flat_length ext_len _)
      refine AWP.region ?_
      refine rC (Calm.fieldAddr ty_field_25_1 rfl) ?_
      refine rC (ld_ ty_plain_22 rfl) ?_
      refine rC (ldA_ (cs := [_, _]) ty_agg_54 ty_size_54 rfl) ?_
      refine ARun.build1 (lit_lt rfl) ty_sl_22 rfl (by decide) (by decide) rfl rfl ?_
      intro b31 f31
      have g31 := f31
      repeat ((with_reducible replace g31 := fresh_set g31); obtain ⟨g31, _⟩ := g31)
      have := g31.ne kM5; have := g31.ne' kM5
      have := g31.ne kM2; have := g31.ne' kM2
      have := g31.ne kM4; have := g31.ne' kM4
      refine ARun.appendOK (n := 2) (o := oE) (k := (dropE (d.ext.take i) s).length) (m := 1) (cs := (dropE (d.ext.take i) s).flatMap extF) (news := [.string x.1, .string x.2]) (lit_lt rfl) ty_sl_22 rfl rfl (flat_length ext_len _) (hoE5 _) ((happ.temp f7).temp f31) rfl (src_own (Mem.own_set_same _ _ _) List.prefix_rfl) rfl (ext_one [x]) (by omega) (by omega) ?_
      intro o2 ho2
      have ne2 : ∀ q c, o2 = some (q, c) → b5 ≠ q := fun q c e => (fresh_set (ho2.own q c e).1).2.symm
      obtain ⟨M3, hM3⟩ : ∃ M3, outN 2 (T4.set b5 (boxD d (outV oE (dropE (d.ext.take i) s).length) (.slice none 0 0))) o2 extT ((dropE (d.ext.take i) s).flatMap extF ++ [x].flatMap extF) = M3 := ⟨_, rfl⟩
      have k35 : M3.own b5 = some (boxD d (outV oE (dropE (d.ext.take i) s).length) (.slice none 0 0)) := by rw [← hM3]; exact own_outN' (Mem.own_set_same _ _ _) (fun q c e => Ne.symm (ne2 q c e))
      unfold boxD at k35
      have hlast : outN 2 (T4.set b5 (boxD d (outV o2 (dropE (d.ext.take (i + 1)) s).length) (.slice none 0 0))) o2 extT ((dropE (d.ext.take (i + 1)) s).flatMap extF) = M3.set b5 (boxD d (outV o2 ((dropE (d.ext.take i) s).length + 1)) (.slice none 0 0)) := by rw [← hM3, outN_box ne2, hsn, List.length_append, List.flatMap_append]; rfl
      rw [show [x].flatMap extF = extF x from by simp] at hM3
      rw [show outN 2 (T4.set b5 (boxD d (outV oE (dropE (d.ext.take i) s).length) (.slice none 0 0))) o2 extT ((dropE (d.ext.take i) s).flatMap extF ++ [.string x.1, .string x.2]) = M3 from hM3]
      refine rC (Calm.fieldAddr ty_field_25_1 rfl) ?_
      refine ARun.store1 rfl rfl ty_size_22 (outV_cells _ _) own_ lens_ (outV_one _ _) ?_
      (try simp only [Mem.set_set, List.set_cons_zero, List.set_cons_succ, Nat.zero_add, Nat.reduceAdd])
      refine arun_nil ?_
      refine ain_n ?_
      refine athen_n ?_
      refine AWP.sub [(1, _), (2, _), (4, _), (5, _), (18, _), (19, _), (20, _), (21, _), (7, _), (27, _)] ⟨rfl, rfl, rfl, rfl, rfl, rfl, rfl, rfl, rfl, rfl, trivial⟩ ?_
      refine AWP.region ?_
      refine rC (Calm.bin rfl rfl b_add_i64) ?_
      refine rC (Calm.move rfl) ?_
      refine arun_nil ?_
      refine athen_n ?_
      refine ⟨(i + 1, o2), ?_, ?_, ?_, ?_⟩
      all_goals (try dsimp only)
      · exact ⟨rfl, rfl, rfl, rfl, rfl, rfl, rfl, trivial⟩
      · rw [hlast]; exact Mem.Less.refl _
      · exact ⟨hc, by rw [hsn, List.length_append]; exact ho2.unset, ne2⟩
      · omega
    · have hb : x.1 = s := by simpa using hb
      rw [if_pos hb] at hsn
      refine AWP.skip ?_
      refine ain_n ?_
      refine athen_n ?_
      refine AWP.region ?_
      refine rC (Calm.bin rfl rfl b_add_i64) ?_
      refine rC (Calm.move rfl) ?_
      refine arun_nil ?_
      refine athen_n ?_
      refine ⟨(i + 1, oE), ?_, ?_, ?_, ?_⟩
      all_goals (try dsimp only)
      · exact ⟨rfl, rfl, rfl, rfl, rfl, rfl, rfl, trivial⟩
      · rw [hsn, hM]; exact less_
      · exact ⟨hc, by rw [hsn]; exact hoE, hne⟩
      · omega
  · have hc : i = d.ext.length := by have := of_decide_eq_false hc; omega
    subst hc
    rw [List.take_length] at *
    clear hlei hli
    have hsetE : ∀ r, outN 2 (T4.set b5 r) oE extT ((dropE d.ext s).flatMap extF) = (outN 2 T4 oE extT ((dropE d.ext s).flatMap extF)).set b5 r := fun r => outN_set (fun q c e => Ne.symm (hne q c e))
    refine AWP.exit ?_
    refine athen_exit ?_
    refine athen_exit ?_
    refine ain_same ?_
    refine athen_n ?_
    refine AWP.seq ?_
    refine AWP.seq ?_
    refine AWP.region ?_
    refine rC (Calm.fieldAddr ty_field_25_2 rfl) ?_
    refine rC (ld_ ty_plain_23 rfl) ?_
    refine rC (Calm.lenSl Try.underlying23 rfl) ?_
    refine rC (Calm.move rfl) ?_
    refine arun_nil ?_
    refine athen_n ?_
    refine AWP.sub [(1, _), (2, _), (4, _), (5, _), (18, _), (19, _), (20, _), (21, _), (36, _), (37, _), (38, _)] ⟨rfl, rfl, rfl, rfl, rfl, rfl, rfl, rfl, rfl, rfl, rfl, trivial⟩ ?_
    refine AWP.block ?_
    refine AWP.loop (X := Nat × Option (Nat × Nat)) (fun x => [(1, .string s), (2, .pointer (some ⟨b2, 0, none⟩)), (4, .pointer (some ⟨b4, 0, none⟩)), (5, .pointer (some ⟨b5, 0, none⟩)), (36, .slice pw d.waits.length cw), (37, .int .i64 d.waits.length), (38, .int .i64 x.1)]) (fun x => outN 3 (outN 2 (T4.set b5 (boxD d (outV oE (dropE d.ext s).length) (outV x.2 (filt s (d.waits.take x.1)).length))) oE extT ((dropE d.ext s).flatMap extF)) x.2 wrT ((filt s (d.waits.take x.1)).flatMap wrF)) (fun x => x.1 ≤ d.waits.length ∧ OkO (outN 2 T4 oE extT ((dropE d.ext s).flatMap extF)) x.2 (filt s (d.waits.take x.1)).length ∧ ∀ q c, x.2 = some (q, c) → b5 ≠ q) (fun x => d.waits.length - x.1) ((0, none)) ⟨rfl, rfl, rfl, rfl, rfl, rfl, rfl, trivial⟩ ((by rw [← hM]; exact Mem.Less.refl _)) (⟨Nat.zero_le _, okO_nil _, fun q c e => by cases e⟩) ?_
    rintro ⟨i, oW⟩ ⟨hi, hoW, hneW⟩
    (try dsimp only at *)
    clear kM5 kM2 kM4 hTM hM
    have hlei := filt_le s (d.waits.take i)
    have hli : (d.waits.take i).length = i := by simp; omega
    have hoW5 : ∀ r, OkO (outN 2 (T4.set b5 r) oE extT ((dropE d.ext s).flatMap extF)) oW (filt s (d.waits.take i)).length := fun r => by rw [hsetE]; exact hoW.set hneW
    obtain ⟨M, hM⟩ : ∃ M, outN 3 (outN 2 (T4.set b5 (boxD d (outV oE (dropE d.ext s).length) (outV oW (filt s (d.waits.take i)).length))) oE extT ((dropE d.ext s).flatMap extF)) oW wrT ((filt s (d.waits.take i)).flatMap wrF) = M := ⟨_, rfl⟩
    have hTM : T4.Less M := by rw [← hM]; exact ((Mem.less_set _ _ _ f5.1).trans (outN_over (hoE5 _))).trans (outN_over (hoW5 _))
    have kM5 : M.own b5 = some (boxD d (outV oE (dropE d.ext s).length) (outV oW (filt s (d.waits.take i)).length)) := by rw [← hM]; exact own_outN' (own_outN' (Mem.own_set_same _ _ _) (fun q c e => Ne.symm (hne q c e))) (fun q c e => Ne.symm (hneW q c e))
    have kM2 := hTM.own kb2
    have kM4 := hTM.own kb4
    unfold boxD at kM5
    rw [hM]
    refine AWP.seq ?_
    refine AWP.region ?_
    refine rC (Calm.bin rfl rfl b_lss) ?_
    refine arun_nil ?_
    refine athen_n ?_
    refine AWP.seq ?_
    refine AWP.condB rfl (fun hc => ?_) (fun hc => ?_)
    · have hc : i < d.waits.length := by have := of_decide_eq_true hc; omega
      obtain ⟨b, off, rfl, hk⟩ := hW3.resolve_left (fun e => by rw [e] at hc; simp at hc)
      have hki := ((hk i hc).less hT4).less hTM
      have hsn := filt_take hc s
      generalize d.waits[i] = x at *
      unfold wrF at hki
      refine AWP.skip ?_
      refine athen_n ?_
      refine AWP.seq ?_
      refine AWP.block ?_
      refine AWP.seq ?_
      refine AWP.region ?_
      refine rC (Calm.indexS Try.underlying23 ty_size_51 rfl rfl (by omega) (by omega)) ?_
      refine rC (ldA_ (cs := [_, _, _]) ty_agg_51 ty_size_51 rfl) ?_
      refine ARun.alloc (lit_lt rfl) ty_zero_51 ?_
      intro b9 f9
      have g9 := f9
      repeat ((with_reducible replace g9 := fresh_set g9); obtain ⟨g9, _⟩ := g9)
      have := g9.ne kM5; have := g9.ne' kM5
      have := g9.ne kM2; have := g9.ne' kM2
      have := g9.ne kM4; have := g9.ne' kM4
      (try simp only [List.length_cons, List.length_nil, Nat.zero_add, Nat.reduceAdd])
      first | refine ARun.storeAll rfl rfl ty_size_51 own_ rfl rfl ?_ | refine ARun.store rfl rfl ty_size_51 own_ lens_ rfl ?_
      (try simp only [Mem.set_set, List.set_cons_zero, List.set_cons_succ, Nat.zero_add, Nat.reduceAdd])
      refine arun_nil ?_
      refine athen_n ?_
      refine AWP.sub [(1, _), (2, _), (4, _), (5, _), (36, _), (37, _), (38, _), (39, _), (9, _)] ⟨rfl, rfl, rfl, rfl, rfl, rfl, rfl, rfl, rfl, trivial⟩ ?_
      refine AWP.seq ?_
      refine AWP.region ?_
      refine rC (Calm.fieldAddr ty_field_51_0 rfl) ?_
      refine rC (ld_ ty_plain_9 rfl) ?_
      refine rC (Calm.move rfl) ?_
      refine rC (Calm.bin rfl rfl (bin_str_neq _ _)) ?_
      refine arun_nil ?_
      refine athen_n ?_
      refine AWP.sub [(1, _), (2, _), (4, _), (5, _), (36, _), (37, _), (38, _), (39, _), (9, _), (45, _)] ⟨rfl, rfl, rfl, rfl, rfl, rfl, rfl, rfl, rfl, rfl, trivial⟩ ?_
      refine AWP.condB rfl (fun hb => ?_) (fun hb => ?_)
      · have hb : x.1 ≠ s := by simpa using hb
        rw [if_neg hb] at hsn
        have happ : AppN 3 M (outN 2 (T4.set b5 (boxD d (outV oE (dropE d.ext s).length) (outV oW (filt s (d.waits.take i)).length))) oE extT ((dropE d.ext s).flatMap extF)) oW wrT ((filt s (d.waits.take i)).flatMap wrF) := by rw [← hM]; exact appN_self (hoW5 _) (flat_length wr_len _)
        refine AWP.region ?_
        refine rC (Calm.fieldAddr ty_field_25_2 rfl) ?_
        refine rC (ld_ ty_plain_23 rfl) ?_
        refine rC (ldA_ (cs := [_, _, _]) ty_agg_51 ty_size_51 rfl) ?_
        refine ARun.build1 (lit_lt rfl) ty_sl_23 rfl (by decide) (by decide) rfl rfl ?_
        intro b49 f49
        have g49 := f49
        repeat ((with_reducible replace g49 := fresh_set g49); obtain ⟨g49, _⟩ := g49)
        have := g49.ne kM5; have := g49.ne' kM5
        have := g49.ne kM2; have := g49.ne' kM2
        have := g49.ne kM4; have := g49.ne' kM4
        refine ARun.appendOK (n := 3) (o := oW) (k := (filt s (d.waits.take i)).length) (m := 1) (cs := (filt s (d.waits.take i)).flatMap wrF) (news := [.string x.1, .int .i64 x.2.1, .string x.2.2]) (lit_lt rfl) ty_sl_23 rfl rfl (flat_length wr_len _) (hoW5 _) ((happ.temp f9).temp f49) rfl (src_own (Mem.own_set_same _ _ _) List.prefix_rfl) rfl (wr_one [x]) (by omega) (by omega) ?_
        intro o2 ho2
        have ho2' := ho2
        rw [hsetE] at ho2'
        have ne2 : ∀ q c, o2 = some (q, c) → b5 ≠ q := fun q c e => (fresh_set (ho2'.own q c e).1).2.symm
        obtain ⟨M3, hM3⟩ : ∃ M3, outN 3 (outN 2 (T4.set b5 (boxD d (outV oE (dropE d.ext s).length) (outV oW (filt s (d.waits.take i)).length))) oE extT ((dropE d.ext s).flatMap extF)) o2 wrT ((filt s (d.waits.take i)).flatMap wrF ++ [x].flatMap wrF) = M3 := ⟨_, rfl⟩
        have k35 : M3.own b5 = some (boxD d (outV oE (dropE d.ext s).length) (outV oW (filt s (d.waits.take i)).length)) := by rw [← hM3]; exact own_outN' (own_outN' (Mem.own_set_same _ _ _) (fun q c e => Ne.symm (hne q c e))) (fun q c e => Ne.symm (ne2 q c e))
        unfold boxD at k35
        have hlast : outN 3 (outN 2 (T4.set b5 (boxD d (outV oE (dropE d.ext s).length) (outV o2 (filt s (d.waits.take (i + 1))).length))) oE extT ((dropE d.ext s).flatMap extF)) o2 wrT ((filt s (d.waits.take (i + 1))).flatMap wrF) = M3.set b5 (boxD d (outV oE (dropE d.ext s).length) (outV o2 ((filt s (d.waits.take i)).length + 1))) := by rw [← hM3, hsetE, hsetE, outN_box ne2, hsn, List.length_append, List.flatMap_append]; rfl
        rw [show [x].flatMap wrF = wrF x from by simp] at hM3
        rw [show outN 3 (outN 2 (T4.set b5 (boxD d (outV oE (dropE d.ext s).length) (outV oW (filt s (d.waits.take i)).length))) oE extT ((dropE d.ext s).flatMap extF)) o2 wrT ((filt s (d.waits.take i)).flatMap wrF ++ [.string x.1, .int .i64 x.2.1, .string x.2.2]) = M3 from hM3]
        refine rC (Calm.fieldAddr ty_field_25_2 rfl) ?_
        refine ARun.store1 rfl rfl ty_size_23 (outV_cells _ _) own_ lens_ (outV_one _ _) ?_
        (try simp only [Mem.set_set, List.set_cons_zero, List.set_cons_succ, Nat.zero_add, Nat.reduceAdd])
        refine arun_nil ?_
        refine ain_n ?_
        refine athen_n ?_
        refine AWP.sub [(1, _), (2, _), (4, _), (5, _), (36, _), (37, _), (38, _), (39, _), (9, _), (45, _)] ⟨rfl, rfl, rfl, rfl, rfl, rfl, rfl, rfl, rfl, rfl, trivial⟩ ?_
        refine AWP.region ?_
        refine rC (Calm.bin rfl rfl b_add_i64) ?_
        refine rC (Calm.move rfl) ?_
        refine arun_nil ?_
        refine athen_n ?_
        refine ⟨(i + 1, o2), ?_, ?_, ?_, ?_⟩
        all_goals (try dsimp only)
        · exact ⟨rfl, rfl, rfl, rfl, rfl, rfl, rfl, trivial⟩
        · rw [hlast]; exact Mem.Less.refl _
        · exact ⟨hc, by rw [hsn, List.length_append]; exact ho2'.unset, ne2⟩
        · omega
      · have hb : x.1 = s := by simpa using hb
        rw [if_pos hb] at hsn
        refine AWP.skip ?_
        refine ain_n ?_
        refine athen_n ?_
        refine AWP.region ?_
        refine rC (Calm.bin rfl rfl b_add_i64) ?_
        refine rC (Calm.move rfl) ?_
        refine arun_nil ?_
        refine athen_n ?_
        refine ⟨(i + 1, oW), ?_, ?_, ?_, ?_⟩
        all_goals (try dsimp only)
        · exact ⟨rfl, rfl, rfl, rfl, rfl, rfl, rfl, trivial⟩
        · rw [hsn, hM]; exact less_
        · exact ⟨hc, by rw [hsn]; exact hoW, hneW⟩
        · omega
    · have hc : i = d.waits.length := by have := of_decide_eq_false hc; omega
      subst hc
      rw [List.take_length] at *
      have hokD : OkD S (lessD d s) oE oW := ⟨hoE.lessL hT4, (hoW.lessL (outN_lessM hT4))⟩
      have hlE := dropE_le d.ext s
      have hlW := filt_le s d.waits
      have hless : (dkM S (lessD d s) oE oW).Less M := by rw [← hM]; exact outN_lessM (outN_lessM (hT4.trans (Mem.less_set _ _ _ f5.1)))
      have hnone : (dkM S (lessD d s) oE oW).own b4 = none := own_outN_none (own_outN_none g4.1 (fun q c e => (hoE.own q c e).1.ne kb4)) (fun q c e => (hoW.own q c e).1.ne ((outN_over hoE).own kb4))
      have hdk : DkR (dkM S (lessD d s) oE oW) (dkV (lessD d s) oE oW) (lessD d s) := hokD.dk (by show (dropE d.ext s).length ≤ _; omega) (by show (filt s d.waits).length ≤ _; omega)
      obtain ⟨qe, de, hqe⟩ := outV_eq hoE
      obtain ⟨qw, dw, hqw⟩ := outV_eq hoW
      unfold dkV at hdk
      rw [show outV oE (lessD d s).ext.length = _ from hqe, show outV oW (lessD d s).waits.length = _ from hqw] at hdk
      rw [hqe, hqw] at kM5
      refine AWP.exit ?_
      refine athen_exit ?_
      refine athen_exit ?_
      refine ain_same ?_
      refine athen_n ?_
      refine AWP.seq ?_
      refine AWP.region ?_
      refine rC (ldA_ (cs := [_, _, _, _, _]) ty_agg_25 ty_size_25 rfl) ?_
      first | refine ARun.storeAll rfl rfl ty_size_25 own_ rfl rfl ?_ | refine ARun.store rfl rfl ty_size_25 own_ lens_ rfl ?_
      (try simp only [Mem.set_set, List.set_cons_zero, List.set_cons_succ, Nat.zero_add, Nat.reduceAdd])
      refine arun_nil ?_
      refine athen_n ?_
      refine AWP.sub [(1, _), (2, _), (4, _), (5, _), (36, _), (37, _), (38, _), (39, _)] ⟨rfl, rfl, rfl, rfl, rfl, rfl, rfl, rfl, trivial⟩ ?_
      refine AWP.ret ?_
      refine ⟨_, dkM S (lessD d s) oE oW, ⟨_, _, _, rfl, .inr ⟨ty_agg_25, [_, _, _, _, _], ty_size_25, rds_, rfl⟩, rfl, rfl⟩, less_of (LessB.skip (.inr hnone) (LessB.of hless)), ?_⟩
      exact ⟨hokD.less, hdk⟩
end Go.Proofs.Ytkeiphkccnfhoaa
