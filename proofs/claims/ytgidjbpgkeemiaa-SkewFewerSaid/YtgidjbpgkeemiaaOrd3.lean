/-
  Order: the order of ends by the document.
-/
import Derived.Test.YtgidjbpgkeemiaaOrd2
namespace Go.Proofs.Ytgidjbpgkeemiaa
open Go.RowKit
open Mv Num
set_option linter.unusedVariables false
set_option linter.unusedSimpArgs false
set_option maxRecDepth 4000
theorem okO_down {S B : Mem} {o : Option (Nat × Nat)} {n : Nat} (h : OkO B o n) (hl : S.Less B) : OkO S o n := ⟨h.nil, fun b c e => ⟨(h.own b c e).1.less hl, (h.own b c e).2⟩⟩
theorem outN_one (S : Mem) (o : Option (Nat × Nat)) (e : TypeId) (cs : List Value) : outN 1 S o e cs = outM S o e cs := by
  cases o with
  | none => rfl
  | some q => show S.set q.1 ⟨e, cs, q.2 * 1⟩ = S.set q.1 ⟨e, cs, q.2⟩; rw [Nat.mul_one]
theorem appN1 {S : Mem} {o : Option (Nat × Nat)} {k : Nat} {e : TypeId} {cs : List Value} (h : OkO S o k) (hn : cs.length = k) : AppN 1 (outM S o e cs) S o e cs := by
  rw [← outN_one]; exact appN_self h (by rw [hn, Nat.mul_one])
theorem flat_one {α : Type} (g : α → Value) (L : List α) : L.flatMap (fun x => [g x]) = L.map g := by
  induction L with
  | nil => rfl
  | cons x l ih => rw [List.flatMap_cons, List.map_cons, ih]; rfl
theorem src_sl {α : Type} {g : α → Value} {S : Mem} {v : Value} {L : List α} (h : Sl 1 (fun x => [g x]) S v L) : Src S v L.length (L.map g) := by
  have := Sl.src (n := 1) (fun _ => rfl) h
  rw [flat_one] at this; exact this
theorem Src.cast_len {M : Mem} {v : Value} {m m' : Nat} {news : List Value} (h : Src M v m news) (e : m = m') : Src M v m' news := e ▸ h
theorem src_one {S : Mem} {b c : Nat} {e : TypeId} {room : Nat} {v : Value} (h : S.own b = some ⟨e, [v], room⟩) : Src S (.slice (some ⟨b, 0, none⟩) 1 c) 1 [v] := src_own h List.prefix_rfl
theorem one_cells {α : Type} {g : α → Value} (hg : ∀ x, (g x).oneCell' = true) (L : List α) : ∀ v ∈ L.map g, v.oneCell' = true := fun v hv => by obtain ⟨x, _, rfl⟩ := List.mem_map.1 hv; exact hg x
theorem own_outM' {S : Mem} {o : Option (Nat × Nat)} {n : Nat} {e : TypeId} {cs : List Value} {b : Nat} {r : Blk} (hb : S.own b = some r) (h : OkO S o n) : (outM S o e cs).own b = some r := own_outM h hb
theorem ins_cells (L : List Nat) (i k : Nat) : [] ++ (L.take k).map gI ++ [gI i] ++ (L.drop k).map gI = (L.take k ++ i :: L.drop k).map gI := by simp
theorem insAt_go {l L : List Nat} {i k : Nat} (h : Ord.sl l i (L.getD k 0) = true) : Ord.insAt l L i k = Ord.insAt l L i (k + 1) := by rw [Ord.insAt, if_pos h]
theorem insAt_no {l L : List Nat} {i k : Nat} (h : Ord.sl l i (L.getD k 0) = false) : k + 1 = Ord.insAt l L i (k + 1) := by rw [Ord.insAt, if_neg (by rw [h]; exact Bool.false_ne_true)]
theorem okO_len {S : Mem} {o : Option (Nat × Nat)} {n m : Nat} (h : OkO S o n) (e : n = m) : OkO S o m := e ▸ h
/-- The beginning and the rest of a slice that grows. -/
theorem out_cut {α : Type} {P : Program} {g : α → Value} {S : Mem} {o : Option (Nat × Nat)} {e : TypeId} {L : List α} (h : OkO S o L.length) (hm : L.length ≤ 9223372036854775807) (k : Nat) (hk : k ≤ L.length) :
    (∃ u, Src (outM S o e (L.map g)) u k ((L.take k).map g) ∧ ∀ (N : Nat) (E : Env) (M : Mem) (dst : Option Nat) (T el ty : TypeId) (x hi : Operand) (kd : IntKind) (pos : String) (aft : Array Edge) (gd : Option (Nat × Bool)), P.underlying T = some (.slice el) → sizeT P el = some 1 → ev E x = some (outV o L.length) → ev E hi = some (.int kd (k : Int)) → ACalm P N ⟨dst, .slice T x none (some hi) none, ty, pos, aft, gd⟩ E M u) ∧
    (∃ u, Src (outM S o e (L.map g)) u (L.length - k) ((L.drop k).map g) ∧ ∀ (N : Nat) (E : Env) (M : Mem) (dst : Option Nat) (T el ty : TypeId) (x lo : Operand) (kd : IntKind) (pos : String) (aft : Array Edge) (gd : Option (Nat × Bool)), P.underlying T = some (.slice el) → sizeT P el = some 1 → ev E x = some (outV o L.length) → ev E lo = some (.int kd (k : Int)) → ACalm P N ⟨dst, .slice T x (some lo) none none, ty, pos, aft, gd⟩ E M u) := by
  have hsl := sl_outV (g := g) (M := S) (e := e) h rfl hm
  cases o with
  | none =>
    have hL : L = [] := List.length_eq_zero_iff.1 (h.nil rfl)
    subst hL
    have hk0 : k = 0 := Nat.le_zero.1 hk
    subst hk0
    refine ⟨⟨.slice none 0 0, ⟨none, 0, rfl, .inl rfl⟩, fun N E M dst T el ty x hi kd pos aft gd hT hs hx hh => Calm.sliceNil hT hs hx (bnd_none _ _) (by simp) (bnd_zero _ _ hh) (bnd_none _ _)⟩, ⟨.slice none 0 0, ⟨none, 0, rfl, .inl rfl⟩, fun N E M dst T el ty x lo kd pos aft gd hT hs hx hh => Calm.sliceNil hT hs hx (bnd_none _ _) (by simp) (bnd_none _ _) (bnd_zero _ _ hh)⟩⟩
  | some q =>
    obtain ⟨b, c⟩ := q
    have hc := (h.own b c rfl).2
    refine ⟨⟨_, src_sl (L := L.take k) (show Sl 1 (fun x => [g x]) _ (.slice (some ⟨b, 0, none⟩) (L.take k).length c) (L.take k) from Sl.own1 (g := g) (Mem.own_set_same _ _ _) ?_ rfl ?_ ?_) |> fun h => Src.cast_len h (by rw [List.length_take, Nat.min_eq_left hk]), fun N E M dst T el ty x hi kd pos aft gd hT hs hx hh => ?_⟩, ⟨_, Src.cast_len (src_sl (Sl.drop1 hsl k hk)) (by rw [List.length_drop]), fun N E M dst T el ty x lo kd pos aft gd hT hs hx hh => ?_⟩⟩
    · show (L.take k).map g <+: L.map g; rw [List.map_take]; exact List.take_prefix _ _
    · rw [List.length_take]; omega
    · rw [List.length_take]; omega
    · have := Calm.sliceHead (dst := dst) (ty := ty) (pos := pos) (aft := aft) (gd := gd) (N := N) (S := M) hT hs hx (bnd_none c c) (by simp) (bnd_some L.length c hh (Int.natCast_nonneg _) (by omega))
      rw [Int.toNat_natCast] at this
      rw [List.length_take, Nat.min_eq_left hk]
      exact this
    · have := Calm.sliceSl (dst := dst) (ty := ty) (pos := pos) (aft := aft) (gd := gd) (N := N) (S := M) hT hs hx (bnd_none c c) (by simp) (bnd_none L.length c) (bnd_some 0 L.length hh (Int.natCast_nonneg _) (by omega))
      rw [Int.toNat_natCast] at this
      exact this
theorem own_outN1 {B : Mem} {o : Option (Nat × Nat)} {n : Nat} {e : TypeId} {cs : List Value} {b : Nat} {r : Blk} (h : OkO B o n) (hb : B.own b = some r) : (outN 1 B o e cs).own b = some r := by rw [outN_one]; exact own_outM h hb
/-- What Ends hands back. -/
def EndsR (l : List Nat) (S : Mem) (r : Value) (S' : Mem) : Prop := (l.length ≤ 4096 ∧ ∃ u, r = .tuple #[u, .int .i64 0] ∧ RdL gI (Ord.endsR l l.length) S u S') ∨ (4096 < l.length ∧ r = .tuple #[.slice none 0 0, .int .i64 1] ∧ S' = S)
set_option maxHeartbeats 4000000 in
theorem rr_Ends (v : Value) (l : List Nat) (S : Mem) (hv : RowR S v l) :
    ACall Try.prog 48 #[v] S (EndsR l S) := by
  obtain ⟨va, vc, rfl, v1, v2, v3⟩ := id hv
  by_cases hbig : 4096 < l.length
  · have hb0 := hbig
    refine ACall.enter (args := [.slice va l.length vc]) (rs := [.tmp 2, .tmp 3]) 48 [(0, .slice va l.length vc)] Try.func48 rfl rfl (Nat.le_of_ble_eq_true rfl) rfl ⟨rfl, trivial⟩ ?_
    refine AWP.seq ?_
    refine AWP.region ?_
    refine rC (Calm.assign rfl) ?_
    refine rC (Calm.assign rfl) ?_
    refine arun_nil ?_
    refine athen_n ?_
    refine AWP.seq ?_
    refine AWP.seq ?_
    refine AWP.region ?_
    refine rC (Calm.move rfl) ?_
    refine rC (Calm.lenSl Try.underlying22 rfl) ?_
    refine rC (Calm.bin rfl rfl b_gtr) ?_
    refine arun_nil ?_
    refine athen_n ?_
    refine AWP.sub [(0, _), (2, _), (3, _), (9, _)] ⟨rfl, rfl, rfl, rfl, trivial⟩ ?_
    refine AWP.condT rfl (by first | rfl | (simp; done) | (simp; omega)) ?_
    refine AWP.seq ?_
    refine AWP.region ?_
    refine rC (Calm.assign rfl) ?_
    refine rC (Calm.assign rfl) ?_
    refine arun_nil ?_
    refine athen_n ?_
    refine AWP.ret ?_
    refine athen_ret ?_
    refine ⟨_, S, ⟨_, _, rfl, ⟨_, _, rfl, rfl, rfl⟩, rfl⟩, less_, ?_⟩
    exact .inr ⟨hbig, rfl, rfl⟩
  · have hb0 := hbig
    refine ACall.enter (args := [.slice va l.length vc]) (rs := [.tmp 2, .tmp 3]) 48 [(0, .slice va l.length vc)] Try.func48 rfl rfl (Nat.le_of_ble_eq_true rfl) rfl ⟨rfl, trivial⟩ ?_
    refine AWP.seq ?_
    refine AWP.region ?_
    refine rC (Calm.assign rfl) ?_
    refine rC (Calm.assign rfl) ?_
    refine arun_nil ?_
    refine athen_n ?_
    refine AWP.seq ?_
    refine AWP.seq ?_
    refine AWP.region ?_
    refine rC (Calm.move rfl) ?_
    refine rC (Calm.lenSl Try.underlying22 rfl) ?_
    refine rC (Calm.bin rfl rfl b_gtr) ?_
    refine arun_nil ?_
    refine athen_n ?_
    refine AWP.sub [(0, _), (2, _), (3, _), (9, _)] ⟨rfl, rfl, rfl, rfl, trivial⟩ ?_
    refine AWP.condF rfl (by first | rfl | (simp; done) | (simp; omega)) ?_
    refine AWP.skip ?_
    refine athen_n ?_
    refine AWP.seq ?_
    refine AWP.region ?_
    refine rC (Calm.assign rfl) ?_
    refine arun_nil ?_
    refine athen_n ?_
    refine AWP.seq ?_
    refine AWP.seq ?_
    refine AWP.region ?_
    refine rC (Calm.move rfl) ?_
    refine rC (Calm.lenSl Try.underlying22 rfl) ?_
    refine rC (Calm.move rfl) ?_
    refine arun_nil ?_
    refine athen_n ?_
    refine AWP.sub [(0, _), (2, _), (3, _), (9, _), (4, _), (11, _), (12, _)] ⟨rfl, rfl, rfl, rfl, rfl, rfl, rfl, trivial⟩ ?_
    refine AWP.block ?_
    refine AWP.loop (X := Nat × List Nat × Option (Nat × Nat)) (fun x => [(0, .slice va l.length vc), (4, outV x.2.2 x.2.1.length), (11, .int .i64 l.length), (12, .int .i64 x.1)]) (fun x => outM S x.2.2 3 (x.2.1.map gI)) (fun x => x.1 ≤ l.length ∧ x.2.1 = Ord.endsR l x.1 ∧ OkO S x.2.2 x.2.1.length) (fun x => l.length - x.1) ((0, [], none)) ⟨rfl, rfl, rfl, rfl, trivial⟩ (Mem.Less.refl _) (⟨Nat.zero_le _, rfl, okO_nil _⟩) ?_
    rintro ⟨i, L, o⟩ ⟨h1, hL, ho⟩
    (try dsimp only at *)
    have hLl : L.length = i := by rw [hL, (Ord.endsR_perm l i).length_eq, List.length_range]
    have hLm : ∀ x ∈ L, x < i := fun x hx => by rw [hL] at hx; exact List.mem_range.1 ((Ord.endsR_perm l i).mem_iff.1 hx)
    have hSo : S.Less (outM S o 3 (L.map gI)) := outM_over ho
    by_cases hc : i < l.length
    · refine AWP.seq ?_
      refine AWP.region ?_
      refine rC (Calm.bin rfl rfl b_lss) ?_
      refine arun_nil ?_
      refine athen_n ?_
      refine AWP.seq ?_
      refine AWP.condT rfl (by first | rfl | (simp; done) | (simp; omega)) ?_
      obtain ⟨vb, vo, rfl, hkv⟩ := v3.resolve_left (fun h => by rw [h] at hc; exact absurd hc (Nat.not_lt_zero _))
      clear hkv
      obtain ⟨ov, hov⟩ : ∃ ov, ov = outV o L.length := ⟨_, rfl⟩
      obtain ⟨oa, oc, hoa⟩ : ∃ a c, outV o L.length = .slice a L.length c := by cases o with | none => exact ⟨none, 0, by rw [ho.nil rfl]; rfl⟩ | some q => exact ⟨_, _, rfl⟩
      clear hov ov
      rw [hoa]
      refine AWP.skip ?_
      refine athen_n ?_
      refine AWP.seq ?_
      refine AWP.block ?_
      refine AWP.seq ?_
      refine AWP.region ?_
      refine rC (Calm.move rfl) ?_
      refine rC (Calm.assign rfl) ?_
      refine arun_nil ?_
      refine athen_n ?_
      refine AWP.sub [(0, _), (4, _), (11, _), (12, _), (13, _), (5, _)] ⟨rfl, rfl, rfl, rfl, rfl, rfl, trivial⟩ ?_
      refine AWP.seq ?_
      refine AWP.region ?_
      refine rC (Calm.move rfl) ?_
      refine rC (Calm.lenSl Try.underlying24 rfl) ?_
      refine rC (Calm.assign rfl) ?_
      refine arun_nil ?_
      refine athen_n ?_
      refine AWP.sub [(0, _), (4, _), (11, _), (12, _), (13, _), (5, _), (6, _)] ⟨rfl, rfl, rfl, rfl, rfl, rfl, rfl, trivial⟩ ?_
      refine AWP.seq ?_
      refine AWP.join (X := Nat) (fun k => [(0, .slice (some ⟨vb, vo, none⟩) l.length vc), (4, .slice oa L.length oc), (5, .int .i64 i), (6, .int .i64 k), (11, .int .i64 l.length), (12, .int .i64 i)]) (fun k => outM S o 3 (L.map gI)) (fun k => k ≤ L.length ∧ k = Ord.insAt l L i L.length) ?_ ?_
      · refine AWP.block ?_
        refine AWP.loop (X := Nat) (fun k => [(0, .slice (some ⟨vb, vo, none⟩) l.length vc), (4, .slice oa L.length oc), (5, .int .i64 i), (6, .int .i64 k), (11, .int .i64 l.length), (12, .int .i64 i)]) (fun k => outM S o 3 (L.map gI)) (fun k => k ≤ L.length ∧ Ord.insAt l L i k = Ord.insAt l L i L.length) (fun k => k) (L.length) ⟨sq_, sq_, sq_, sq_, sq_, sq_, trivial⟩ (Mem.Less.refl _) (⟨Nat.le_refl _, rfl⟩) ?_
        rintro k ⟨k1, k2⟩
        (try dsimp only at *)
        by_cases hk : 0 < k
        · obtain ⟨k, rfl⟩ : ∃ q, k = q + 1 := ⟨k - 1, by omega⟩
          obtain ⟨b, c, rfl⟩ := ho.some (by omega)
          cases hoa
          have hx : L[k] < l.length := by have := hLm L[k] (List.getElem_mem _); omega
          obtain ⟨x, hxe⟩ : ∃ x, x = L[k] := ⟨_, rfl⟩
          refine AWP.seq ?_
          refine AWP.seq ?_
          refine AWP.draw [(0, true), (1, true), (2, true), (3, true), (4, true), (5, true), (6, true), (7, true), (8, true), (9, true), (10, true), (11, true), (12, true), (13, false), (14, true)] [] mixed (by kernel_rfl) ?_
          refine dP (hc := fun _ => Calm.move rfl) (h := ?_)
          refine dP (hc := fun _ => Calm.bin rfl rfl b_gtr) (h := ?_)
          refine dP (hc := fun _ => Calm.move rfl) (h := ?_)
          first | refine dS ?_ | refine dU ?_ | refine dG (hc := fun _ => Calm.move rfl) (h := ?_)
          first | refine dS ?_ | refine dU ?_ | refine dG (hc := fun _ => Calm.move rfl) (h := ?_)
          first | refine dS ?_ | refine dU ?_ | refine dG (hc := fun _ => (by first | exact Calm.sliceSl Try.underlying22 ty_size_41 rfl (bnd_none _ _) (by simp) (bnd_none _ _) (bnd_some _ _ rfl (by omega) (by omega)) | exact Calm.sliceNil Try.underlying22 ty_size_41 rfl (bnd_none _ _) (by simp) (bnd_none _ _) (bnd_zero _ _ rfl))) (h := ?_)
          first | refine dS ?_ | refine dU ?_ | refine dG (hc := fun _ => Calm.move rfl) (h := ?_)
          first | refine dS ?_ | refine dU ?_ | refine dG (hc := fun _ => Calm.move rfl) (h := ?_)
          first | refine dS ?_ | refine dU ?_ | refine dG (hc := fun _ => Calm.move rfl) (h := ?_)
          first | refine dS ?_ | refine dU ?_ | refine dG (hc := fun _ => Calm.bin rfl rfl b_sub_i64) (h := ?_)
          first | refine dS ?_ | refine dU ?_ | refine dG (hc := fun _ => Calm.indexS Try.underlying24 ty_size_3 rfl rfl (by omega) (by omega)) (h := ?_)
          first | refine dS ?_ | refine dU ?_ | refine dL (hc := Calm.as (show gI L[k] = .int .i64 (x : Int) by rw [← hxe]; rfl) (Calm.load ty_plain_3 rfl (rd_list (g := gI) k (by omega) (Mem.own_set_same _ _ _) (by omega)))) (h := ?_)
          first | refine dS ?_ | refine dU ?_ | refine dG (hc := fun _ => (by first | exact Calm.sliceSl Try.underlying22 ty_size_41 rfl (bnd_none _ _) (by simp) (bnd_none _ _) (bnd_some _ _ rfl (by omega) (by omega)) | exact Calm.sliceNil Try.underlying22 ty_size_41 rfl (bnd_none _ _) (by simp) (bnd_none _ _) (bnd_zero _ _ rfl))) (h := ?_)
          refine draw_only rfl ?_
          refine ARun.callG 2 true 19 rfl (lit_lt rfl) rfl (lit_lt rfl) go_64 rfl (rnumV_Less (l.drop i) (l.drop x) _ _ _ (Sl.drop1 (hv.less hSo) i (by omega)) (Sl.drop1 (hv.less hSo) x (by omega))) ?_
          rintro _ _ ⟨rfl, rfl⟩
          have hgd : Ord.sl l i (L.getD k 0) = lessB (l.drop i) (l.drop x) := by rw [getD_get L k 0 (by omega), ← hxe]; rfl
          refine arun_nil ⟨fun _ => less_, ?_⟩
          refine dP (hc := fun _ => (by first | exact Calm.pickT rfl rfl | exact Calm.pickF rfl rfl)) (h := ?_)
          refine draw_nil ?_
          refine athen_n ?_
          refine AWP.sub [(0, _), (4, _), (5, _), (6, _), (11, _), (12, _), (31, _)] ⟨rfl, rfl, rfl, rfl, rfl, rfl, rfl, trivial⟩ ?_
          refine AWP.condB rfl (fun hls => ?_) (fun hls => ?_)
          · refine AWP.skip ?_
            refine athen_n ?_
            refine AWP.block ?_
            refine AWP.region ?_
            refine rC (Calm.move rfl) ?_
            refine rC (Calm.bin rfl rfl b_sub_i64) ?_
            refine rC (Calm.assign rfl) ?_
            refine arun_nil ?_
            refine ain_n ?_
            refine athen_n ?_
            refine ⟨k, ?_, ?_, ?_, ?_⟩
            all_goals (try dsimp only)
            · exact ⟨sq_, sq_, sq_, sq_, sq_, sq_, trivial⟩
            · exact Mem.Less.refl _
            · exact ⟨by omega, by rw [← k2]; exact insAt_go (by rw [hgd]; exact hls)⟩
            · omega
          · refine AWP.exit ?_
            refine athen_exit ?_
            refine athen_exit ?_
            refine ain_same ?_
            refine ⟨(k + 1), ?_, ?_, ?_⟩
            all_goals (try dsimp only)
            · exact ⟨k1, by rw [← k2]; exact insAt_no (by rw [hgd]; exact hls)⟩
            · exact ⟨sq_, sq_, sq_, sq_, sq_, sq_, trivial⟩
            · exact Mem.Less.refl _
        · obtain rfl : k = 0 := by omega
          refine AWP.seq ?_
          refine AWP.seq ?_
          refine AWP.draw [(0, true), (1, true), (2, true), (3, true), (4, true), (5, true), (6, true), (7, true), (8, true), (9, true), (10, true), (11, true), (12, true), (13, false), (14, true)] [] mixed (by kernel_rfl) ?_
          refine dP (hc := fun _ => Calm.move rfl) (h := ?_)
          refine dP (hc := fun _ => Calm.bin rfl rfl b_gtr) (h := ?_)
          refine dP (hc := fun _ => Calm.move rfl) (h := ?_)
          first | refine dS ?_ | refine dU ?_ | refine dG (hc := fun _ => Calm.move rfl) (h := ?_)
          first | refine dS ?_ | refine dU ?_ | refine dG (hc := fun _ => Calm.move rfl) (h := ?_)
          first | refine dS ?_ | refine dU ?_ | refine dG (hc := fun _ => (by first | exact Calm.sliceSl Try.underlying22 ty_size_41 rfl (bnd_none _ _) (by simp) (bnd_none _ _) (bnd_some _ _ rfl (by omega) (by omega)) | exact Calm.sliceNil Try.underlying22 ty_size_41 rfl (bnd_none _ _) (by simp) (bnd_none _ _) (bnd_zero _ _ rfl))) (h := ?_)
          first | refine dS ?_ | refine dU ?_ | refine dG (hc := fun _ => Calm.move rfl) (h := ?_)
          first | refine dS ?_ | refine dU ?_ | refine dG (hc := fun _ => Calm.move rfl) (h := ?_)
          first | refine dS ?_ | refine dU ?_ | refine dG (hc := fun _ => Calm.move rfl) (h := ?_)
          first | refine dS ?_ | refine dU ?_ | refine dG (hc := fun _ => Calm.bin rfl rfl b_sub_i64) (h := ?_)
          first | refine dS ?_ | refine dU ?_ | refine dG (hc := fun _ => Calm.indexS Try.underlying24 ty_size_3 rfl rfl (by omega) (by omega)) (h := ?_)
          first | refine dS ?_ | refine dU ?_ | refine dL (hc := ld_ ty_plain_3 rfl) (h := ?_)
          first | refine dS ?_ | refine dU ?_ | refine dG (hc := fun _ => (by first | exact Calm.sliceSl Try.underlying22 ty_size_41 rfl (bnd_none _ _) (by simp) (bnd_none _ _) (bnd_some _ _ rfl (by omega) (by omega)) | exact Calm.sliceNil Try.underlying22 ty_size_41 rfl (bnd_none _ _) (by simp) (bnd_none _ _) (bnd_zero _ _ rfl))) (h := ?_)
          refine draw_only rfl ?_
          first | refine rS 19 ?_ | refine rU 19 ?_
          refine arun_nil ⟨fun _ => less_, ?_⟩
          refine dP (hc := fun _ => (by first | exact Calm.pickT rfl rfl | exact Calm.pickF rfl rfl)) (h := ?_)
          refine draw_nil ?_
          refine athen_n ?_
          refine AWP.sub [(0, _), (4, _), (5, _), (6, _), (11, _), (12, _), (31, _)] ⟨rfl, rfl, rfl, rfl, rfl, rfl, rfl, trivial⟩ ?_
          refine AWP.condF rfl (by first | rfl | (simp; done) | (simp; omega)) ?_
          refine AWP.exit ?_
          refine athen_exit ?_
          refine athen_exit ?_
          refine ain_same ?_
          refine ⟨0, ?_, ?_, ?_⟩
          all_goals (try dsimp only)
          · exact ⟨k1, k2⟩
          · exact ⟨sq_, sq_, sq_, sq_, sq_, sq_, trivial⟩
          · exact Mem.Less.refl _
      rintro k ⟨k1, k2⟩
      intro _ _ hs_ hl_
      (try dsimp only at *)
      refine athen_n ?_
      refine AWP.sub _ hs_ (AWP.less _ hl_ ?_)
      clear hs_ hl_
      rw [← hoa]
      obtain ⟨⟨uT, hsT, hcT⟩, ⟨uD, hsD, hcD⟩⟩ := out_cut (P := Try.prog) (g := gI) (e := 3) ho (by omega) k k1
      clear hoa
      refine AWP.join (X := Option (Nat × Nat)) (fun x => [(0, .slice (some ⟨vb, vo, none⟩) l.length vc), (4, outV x (L.length + 1)), (11, .int .i64 l.length), (12, .int .i64 i)]) (fun x => outM S x 3 ((L.take k ++ i :: L.drop k).map gI)) (fun x => OkO S x (L.length + 1)) ?_ ?_
      · refine AWP.drawG [4, 7, 11] mixed ?_
        refine DG.pure 1 (by kernel_rfl) (by kernel_rfl) rfl rfl rfl rfl (lit_lt rfl) (fun _ => Calm.move rfl) ?_
        refine DG.pure 2 (by kernel_rfl) (by kernel_rfl) rfl rfl rfl rfl (lit_lt rfl) (fun _ => Calm.move rfl) ?_
        refine DG.pure 3 (by kernel_rfl) (by kernel_rfl) rfl rfl rfl rfl (lit_lt rfl) (fun _ => hcT _ _ _ _ _ _ _ _ _ _ _ _ _ Try.underlying24 ty_size_3 rfl rfl) ?_
        refine DG.pure 5 (by kernel_rfl) (by kernel_rfl) rfl rfl rfl rfl (lit_lt rfl) (fun _ => Calm.move rfl) ?_
        refine DG.pure 8 (by kernel_rfl) (by kernel_rfl) rfl rfl rfl rfl (lit_lt rfl) (fun _ => Calm.move rfl) ?_
        refine DG.pure 9 (by kernel_rfl) (by kernel_rfl) rfl rfl rfl rfl (lit_lt rfl) (fun _ => Calm.move rfl) ?_
        refine DG.pure 10 (by kernel_rfl) (by kernel_rfl) rfl rfl rfl rfl (lit_lt rfl) (fun _ => hcD _ _ _ _ _ _ _ _ _ _ _ _ _ Try.underlying24 ty_size_3 rfl rfl) ?_
        refine DG.two 0 6 (by kernel_rfl) rfl ?_ rfl ?_
        · refine ARun.build0 (lit_lt rfl) ty_sl_24 ?_
          intro b34 f34
          have g34 := f34
          repeat ((with_reducible replace g34 := fresh_set g34); obtain ⟨g34, _⟩ := g34)
          refine arun_nil ⟨fun _ => less_, ?_⟩
          refine DG.two 4 6 (by kernel_rfl) rfl ?_ rfl ?_
          · refine ARun.appendOK (n := 1) (o := some (b34, 0)) (k := 0) (m := k) (cs := []) (news := (L.take k).map gI) (lit_lt rfl) ty_sl_24 rfl rfl rfl (okO_own f34 (Nat.zero_le _)) (appN1 (okO_own f34 (Nat.zero_le _)) rfl) rfl (hsT.less (Mem.less_set _ _ _ f34.1)) (by rw [List.length_map, List.length_take, Nat.min_eq_left k1, Nat.mul_one]) (one_cells (fun _ => rfl) _) (by omega) (by omega) ?_
            intro o1 ho1
            refine arun_nil ⟨fun h => absurd h (by decide), ?_⟩
            refine DG.only 6 (by kernel_rfl) rfl ?_
            refine ARun.build1s (lit_lt rfl) ty_sl_24 rfl rfl ?_
            intro b40 f40
            have g40 := f40
            repeat ((with_reducible replace g40 := fresh_set g40); obtain ⟨g40, _⟩ := g40)
            have hN1 := outN_over (n := 1) (e := 3) (cs := [] ++ (L.take k).map gI) ho1
            have hf40 := f40.less hN1
            refine arun_nil ⟨fun _ => less_, ?_⟩
            refine DG.only 7 (by kernel_rfl) rfl ?_
            refine ARun.appendOK (n := 1) (o := o1) (k := 0 + k) (m := 1) (cs := [] ++ (L.take k).map gI) (news := [gI i]) (lit_lt rfl) ty_sl_24 rfl rfl (by simp [Nat.min_eq_left k1]) ho1 ((appN_self ho1 (by simp [Nat.min_eq_left k1])).temp f40) rfl (src_one (Mem.own_set_same _ _ _)) rfl (fun v hv => by simp at hv; rw [hv]; rfl) (by omega) (by omega) ?_
            intro o2 ho2
            refine arun_nil ⟨fun h => absurd h (by decide), ?_⟩
            refine DG.only 11 (by kernel_rfl) rfl ?_
            refine ARun.appendOK (n := 1) (o := o2) (k := 0 + k + 1) (m := L.length - k) (cs := [] ++ (L.take k).map gI ++ [gI i]) (news := (L.drop k).map gI) (lit_lt rfl) ty_sl_24 rfl rfl (by simp [Nat.min_eq_left k1]) ho2 (appN_self ho2 (by simp [Nat.min_eq_left k1])) rfl (hsD.less (outN_over ho2)) (by rw [List.length_map, List.length_drop, Nat.mul_one]) (one_cells (fun _ => rfl) _) (by omega) (by omega) ?_
            intro o3 ho3
            rw [ins_cells, outN_one]
            refine arun_nil ⟨fun h => absurd h (by decide), ?_⟩
            refine DG.pure 12 (by kernel_rfl) (by kernel_rfl) rfl rfl rfl rfl (lit_lt rfl) (fun _ => Calm.assign rfl) ?_
            refine DG.end_ (by kernel_rfl) ?_
            refine ⟨o3, ?_, ?_, ?_⟩
            all_goals (try dsimp only)
            · exact okO_len (okO_down ho3 hSo) (by omega)
            · exact ⟨sq_, congrArg (fun q => some (outV o3 q)) (by omega), sq_, sq_, trivial⟩
            · exact outM_more _ _ _ hSo
          · refine ARun.build1s (lit_lt rfl) ty_sl_24 rfl rfl ?_
            intro b40 f40
            have g40 := f40
            repeat ((with_reducible replace g40 := fresh_set g40); obtain ⟨g40, _⟩ := g40)
            refine arun_nil ⟨fun _ => less_, ?_⟩
            have hS40 : (outM S o 3 (L.map gI)).Less ((outM S o 3 (L.map gI)).set b40 ⟨3, [gI i], 1⟩) := Mem.less_set _ _ _ g40.1
            have h34 : Fresh ((outM S o 3 (L.map gI)).set b40 ⟨3, [gI i], 1⟩) b34 := fresh_more f34 (by first | assumption | (apply Ne.symm; assumption))
            rw [Mem.set_comm _ _ _ (by first | assumption | (apply Ne.symm; assumption) : b34 ≠ b40)]
            refine DG.only 4 (by kernel_rfl) rfl ?_
            refine ARun.appendOK (n := 1) (o := some (b34, 0)) (k := 0) (m := k) (cs := []) (news := (L.take k).map gI) (lit_lt rfl) ty_sl_24 rfl rfl rfl (okO_own h34 (Nat.zero_le _)) (appN1 (okO_own h34 (Nat.zero_le _)) rfl) rfl (hsT.less (hS40.trans (Mem.less_set _ _ _ h34.1))) (by rw [List.length_map, List.length_take, Nat.min_eq_left k1, Nat.mul_one]) (one_cells (fun _ => rfl) _) (by omega) (by omega) ?_
            intro o1 ho1
            refine arun_nil ⟨fun h => absurd h (by decide), ?_⟩
            refine DG.only 7 (by kernel_rfl) rfl ?_
            refine ARun.appendOK (n := 1) (o := o1) (k := 0 + k) (m := 1) (cs := [] ++ (L.take k).map gI) (news := [gI i]) (lit_lt rfl) ty_sl_24 rfl rfl (by simp [Nat.min_eq_left k1]) ho1 (appN_self ho1 (by simp [Nat.min_eq_left k1])) rfl (src_one (own_outN1 ho1 (Mem.own_set_same _ _ _))) rfl (fun v hv => by simp at hv; rw [hv]; rfl) (by omega) (by omega) ?_
            intro o2 ho2
            refine arun_nil ⟨fun h => absurd h (by decide), ?_⟩
            refine DG.only 11 (by kernel_rfl) rfl ?_
            refine ARun.appendOK (n := 1) (o := o2) (k := 0 + k + 1) (m := L.length - k) (cs := [] ++ (L.take k).map gI ++ [gI i]) (news := (L.drop k).map gI) (lit_lt rfl) ty_sl_24 rfl rfl (by simp [Nat.min_eq_left k1]) ho2 (appN_self ho2 (by simp [Nat.min_eq_left k1])) rfl (hsD.less (hS40.trans (outN_over ho2))) (by rw [List.length_map, List.length_drop, Nat.mul_one]) (one_cells (fun _ => rfl) _) (by omega) (by omega) ?_
            intro o3 ho3
            rw [ins_cells, outN_one]
            refine arun_nil ⟨fun h => absurd h (by decide), ?_⟩
            refine DG.pure 12 (by kernel_rfl) (by kernel_rfl) rfl rfl rfl rfl (lit_lt rfl) (fun _ => Calm.assign rfl) ?_
            refine DG.end_ (by kernel_rfl) ?_
            refine ⟨o3, ?_, ?_, ?_⟩
            all_goals (try dsimp only)
            · exact okO_len (okO_down ho3 (hSo.trans hS40)) (by omega)
            · exact ⟨sq_, congrArg (fun q => some (outV o3 q)) (by omega), sq_, sq_, trivial⟩
            · exact outM_more _ _ _ (hSo.trans hS40)
        · refine ARun.build1s (lit_lt rfl) ty_sl_24 rfl rfl ?_
          intro b40 f40
          have g40 := f40
          repeat ((with_reducible replace g40 := fresh_set g40); obtain ⟨g40, _⟩ := g40)
          refine arun_nil ⟨fun _ => less_, ?_⟩
          have hS40 : (outM S o 3 (L.map gI)).Less ((outM S o 3 (L.map gI)).set b40 ⟨3, [gI i], 1⟩) := Mem.less_set _ _ _ f40.1
          refine DG.only 0 (by kernel_rfl) rfl ?_
          refine ARun.build0 (lit_lt rfl) ty_sl_24 ?_
          intro b34 f34
          have g34 := f34
          repeat ((with_reducible replace g34 := fresh_set g34); obtain ⟨g34, _⟩ := g34)
          refine arun_nil ⟨fun _ => less_, ?_⟩
          refine DG.only 4 (by kernel_rfl) rfl ?_
          refine ARun.appendOK (n := 1) (o := some (b34, 0)) (k := 0) (m := k) (cs := []) (news := (L.take k).map gI) (lit_lt rfl) ty_sl_24 rfl rfl rfl (okO_own f34 (Nat.zero_le _)) (appN1 (okO_own f34 (Nat.zero_le _)) rfl) rfl (hsT.less (hS40.trans (Mem.less_set _ _ _ f34.1))) (by rw [List.length_map, List.length_take, Nat.min_eq_left k1, Nat.mul_one]) (one_cells (fun _ => rfl) _) (by omega) (by omega) ?_
          intro o1 ho1
          refine arun_nil ⟨fun h => absurd h (by decide), ?_⟩
          refine DG.only 7 (by kernel_rfl) rfl ?_
          refine ARun.appendOK (n := 1) (o := o1) (k := 0 + k) (m := 1) (cs := [] ++ (L.take k).map gI) (news := [gI i]) (lit_lt rfl) ty_sl_24 rfl rfl (by simp [Nat.min_eq_left k1]) ho1 (appN_self ho1 (by simp [Nat.min_eq_left k1])) rfl (src_one (own_outN1 ho1 (Mem.own_set_same _ _ _))) rfl (fun v hv => by simp at hv; rw [hv]; rfl) (by omega) (by omega) ?_
          intro o2 ho2
          refine arun_nil ⟨fun h => absurd h (by decide), ?_⟩
          refine DG.only 11 (by kernel_rfl) rfl ?_
          refine ARun.appendOK (n := 1) (o := o2) (k := 0 + k + 1) (m := L.length - k) (cs := [] ++ (L.take k).map gI ++ [gI i]) (news := (L.drop k).map gI) (lit_lt rfl) ty_sl_24 rfl rfl (by simp [Nat.min_eq_left k1]) ho2 (appN_self ho2 (by simp [Nat.min_eq_left k1])) rfl (hsD.less (hS40.trans (outN_over ho2))) (by rw [List.length_map, List.length_drop, Nat.mul_one]) (one_cells (fun _ => rfl) _) (by omega) (by omega) ?_
          intro o3 ho3
          rw [ins_cells, outN_one]
          refine arun_nil ⟨fun h => absurd h (by decide), ?_⟩
          refine DG.pure 12 (by kernel_rfl) (by kernel_rfl) rfl rfl rfl rfl (lit_lt rfl) (fun _ => Calm.assign rfl) ?_
          refine DG.end_ (by kernel_rfl) ?_
          refine ⟨o3, ?_, ?_, ?_⟩
          all_goals (try dsimp only)
          · exact okO_len (okO_down ho3 (hSo.trans hS40)) (by omega)
          · exact ⟨sq_, congrArg (fun q => some (outV o3 q)) (by omega), sq_, sq_, trivial⟩
          · exact outM_more _ _ _ (hSo.trans hS40)
      rintro x hx
      intro _ _ hs_ hl_
      (try dsimp only at *)
      refine ain_n ?_
      refine athen_n ?_
      refine AWP.sub _ hs_ (AWP.less _ hl_ ?_)
      clear hs_ hl_
      have hins : L.take k ++ i :: L.drop k = Ord.endsR l (i + 1) := by rw [Ord.endsR, ← hL, Ord.insE, ← k2]
      have hil : (Ord.endsR l (i + 1)).length = L.length + 1 := by rw [(Ord.endsR_perm l (i + 1)).length_eq, List.length_range]; omega
      refine AWP.region ?_
      refine rC (Calm.bin rfl rfl b_add_i64) ?_
      refine rC (Calm.move rfl) ?_
      refine arun_nil ?_
      refine athen_n ?_
      refine ⟨(i + 1, Ord.endsR l (i + 1), x), ?_, ?_, ?_, ?_⟩
      all_goals (try dsimp only)
      · exact ⟨sq_, congrArg (fun q => some (outV x q)) hil.symm, sq_, sq_, trivial⟩
      · rw [hins]; exact Mem.Less.refl _
      · exact ⟨hc, rfl, by rw [hil]; exact hx⟩
      · omega
    · obtain rfl : i = l.length := by omega
      refine AWP.seq ?_
      refine AWP.region ?_
      refine rC (Calm.bin rfl rfl b_lss) ?_
      refine arun_nil ?_
      refine athen_n ?_
      refine AWP.seq ?_
      refine AWP.condF rfl (by first | rfl | (simp; done) | (simp; omega)) ?_
      refine AWP.exit ?_
      refine athen_exit ?_
      refine athen_exit ?_
      refine ain_same ?_
      refine athen_n ?_
      refine AWP.seq ?_
      refine AWP.region ?_
      refine rC (Calm.move rfl) ?_
      refine rC (Calm.assign rfl) ?_
      refine rC (Calm.assign rfl) ?_
      refine arun_nil ?_
      refine athen_n ?_
      refine AWP.sub [(0, _), (4, _), (11, _), (12, _), (13, _), (2, _), (3, _)] ⟨rfl, rfl, rfl, rfl, rfl, rfl, rfl, trivial⟩ ?_
      refine AWP.ret ?_
      refine ⟨_, _, ⟨_, _, rfl, ⟨_, _, rfl, rfl, rfl⟩, rfl⟩, Mem.Less.refl _, ?_⟩
      exact .inl ⟨by omega, _, rfl, by rw [← hL]; exact RdL.of_out ho rfl (by omega)⟩
end Go.Proofs.Ytgidjbpgkeemiaa
