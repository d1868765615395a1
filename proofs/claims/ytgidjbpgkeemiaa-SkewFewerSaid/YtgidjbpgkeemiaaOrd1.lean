/-
  Order: a list of one number, where each number is, by the program and by the document.
-/
import Derived.Test.YtgidjbpgkeemiaaInts
import Derived.Test.YtgidjbpgkeemiaaSeq
import Derived.Test.YtgidjbpgkeemiaaMemN
import Derived.Test.YtgidjbpgkeemiaaShelf
import Derived.Test.YtgidjbpgkeemiaaOrdMath
namespace Go.Proofs.Ytgidjbpgkeemiaa
open Go.RowKit
open Mv Num
set_option linter.unusedVariables false
set_option linter.unusedSimpArgs false
set_option maxRecDepth 4000
def gI (k : Nat) : Value := .int .i64 (k : Int)
def gU (k : Nat) : Value := .int .u64 (k : Int)
def gZ (x : Int) : Value := .int .i64 x
theorem getD_get {α : Type} (l : List α) (i : Nat) (z : α) (h : i < l.length) : l.getD i z = l[i] := by rw [List.getD_eq_getElem?_getD, List.getElem?_eq_getElem h]; rfl
def cmpU (x y : Nat) : Int := if x < y then -1 else if y < x then 1 else 0
theorem cmpU_neg (x y : Nat) : cmpU x y < 0 ↔ x < y := by unfold cmpU; split <;> (try split) <;> omega
theorem cmpU_zero (x y : Nat) : cmpU x y = 0 ↔ x = y := by unfold cmpU; split <;> (try split) <;> omega
theorem sl_own2 {S : Mem} {b : Nat} {T : TypeId} {x y : Int} (h : S.own b = some ⟨T, [.int .i64 x, .int .i64 y], 2⟩) : Sl 1 i64s S (.slice (some ⟨b, 0, none⟩) 2 2) [x, y] := Sl.own1 (g := gZ) (l := [x, y]) h List.prefix_rfl rfl (Nat.le_refl _) (by decide)
theorem sl_own3 {S : Mem} {b : Nat} {T : TypeId} {x y z : Int} (h : S.own b = some ⟨T, [.int .i64 x, .int .i64 y, .int .i64 z], 3⟩) : Sl 1 i64s S (.slice (some ⟨b, 0, none⟩) 3 3) [x, y, z] := Sl.own1 (g := gZ) (l := [x, y, z]) h List.prefix_rfl rfl (Nat.le_refl _) (by decide)
theorem so_Mul (x y : Nat) (h : x * y < 18446744073709551616) (hx : x < 18446744073709551616) (hy : y < 18446744073709551616) (S : Mem) : ACall Try.prog 129 #[.int .u64 (x : Int), .int .u64 (y : Int)] S fun r S' => r = .tuple #[.int .u64 0, .int .u64 ((x * y : Nat) : Int)] ∧ S' = S := by
  refine ACall.of_same fun w => ?_
  have e := Try.bits_Mul x y hx hy w
  rw [Nat.div_eq_of_lt h, Nat.mod_eq_of_lt h] at e
  exact e
theorem spl_rep (k n q : Nat) (a z : Int) (hk : k ≤ n) (hq : k + q ≤ n) : spl ((List.replicate k a ++ List.replicate (n - k) z).map gZ) k ((List.replicate q a).map gZ) = (List.replicate (k + q) a ++ List.replicate (n - (k + q)) z).map gZ := by
  unfold spl
  simp only [List.map_append, List.map_replicate, List.length_replicate]
  rw [List.take_append_of_le_length (by simp), List.take_of_length_le (by simp), List.drop_append, List.drop_of_length_le (by simp), List.nil_append, List.drop_replicate, List.length_replicate, List.append_assoc, ← List.append_assoc, List.replicate_append_replicate]
  congr 2
  omega
theorem rep_one {a : Int} {n j : Nat} {v : Value} (h : ((List.replicate (min 1 n) a).map gZ)[j]? = some v) : [Value.int .i64 a][j]? = some v := by
  obtain ⟨hl, e⟩ := List.getElem?_eq_some_iff.1 h
  have hj : j = 0 := by simp at hl; omega
  subst hj
  simp at e
  rw [← e]; rfl
theorem rep_in {a z : Int} {q k n j : Nat} {v : Value} (h : ((List.replicate q a).map gZ)[j]? = some v) (hq : q ≤ k) : ((List.replicate k a ++ List.replicate (n - k) z).map gZ)[j]? = some v := by
  obtain ⟨hl, e⟩ := List.getElem?_eq_some_iff.1 h
  simp at hl e
  rw [List.map_append, List.getElem?_append_left (by simp; omega), List.getElem?_map, List.getElem?_replicate, if_pos (by omega), ← e]; rfl
set_option maxHeartbeats 1000000 in
theorem or_Repeat (bx : Nat) (iN : Int) (n : Nat) (a : Int) (T : TypeId) (S : Mem) (eN : iN = n) (hn : n ≤ 17592186043904) (hb : S.own bx = some ⟨T, [.int .i64 a], 1⟩) :
    ACall Try.prog 91 #[.slice (some ⟨bx, 0, none⟩) 1 1, .int .i64 iN] S (NewL gZ 3 (List.replicate n a) S) := by
  subst eN
  refine ACall.enter (args := [.slice (some ⟨bx, 0, none⟩) 1 1, .int .i64 (n : Int)]) (rs := [.tmp 4]) 48 [(0, .slice (some ⟨bx, 0, none⟩) 1 1), (1, .int .i64 (n : Int))] Try.func91 rfl rfl (Nat.le_of_ble_eq_true rfl) rfl ⟨rfl, rfl, trivial⟩ ?_
  refine AWP.seq ?_
  refine AWP.region ?_
  refine rC (Calm.assign rfl) ?_
  refine arun_nil ?_
  refine athen_n ?_
  refine AWP.seq ?_
  refine AWP.seq ?_
  refine AWP.region ?_
  refine rC (Calm.move rfl) ?_
  refine rC (Calm.bin rfl rfl b_lss) ?_
  refine arun_nil ?_
  refine athen_n ?_
  refine AWP.sub [(0, _), (1, _), (4, _), (10, _)] ⟨rfl, rfl, rfl, rfl, trivial⟩ ?_
  refine AWP.condF rfl (by first | rfl | (simp; done) | (simp; omega)) ?_
  refine AWP.skip ?_
  refine athen_n ?_
  refine AWP.seq ?_
  refine AWP.region ?_
  refine rC (Calm.move rfl) ?_
  refine rC (Calm.lenSl Try.underlying24 rfl) ?_
  refine rC (Calm.conv rfl (by first | exact conv_intW Try.underlying3 Try.underlying139 (IntWalk.u64_in _ (by omega)) | exact conv_int Try.underlying3 Try.underlying139)) ?_
  refine rC (Calm.move rfl) ?_
  refine rC (Calm.conv rfl (by first | exact conv_intW Try.underlying3 Try.underlying139 (IntWalk.u64_in _ (by omega)) | exact conv_int Try.underlying3 Try.underlying139)) ?_
  refine ARun.call (lit_lt rfl) go_129 rfl (so_Mul 1 n (by omega) (by omega) (by omega) _) ?_
  rintro _ S1 ⟨rfl, h1⟩
  rw [h1]; clear h1 S1
  rw [Nat.one_mul]
  refine rC (Calm.move rfl) ?_
  refine rC (Calm.extract rfl rfl) ?_
  refine rC (Calm.extract rfl rfl) ?_
  refine rC (Calm.assign rfl) ?_
  refine rC (Calm.assign rfl) ?_
  refine arun_nil ?_
  refine athen_n ?_
  refine AWP.sub [(0, _), (1, _), (4, _), (10, _), (5, _), (6, _)] ⟨rfl, rfl, rfl, rfl, rfl, rfl, trivial⟩ ?_
  refine AWP.seq ?_
  refine AWP.seq ?_
  refine AWP.region ?_
  refine rC (Calm.move rfl) ?_
  refine rC (Calm.bin rfl rfl b_gtr) ?_
  refine rC (Calm.move rfl) ?_
  first | refine rS 23 ?_ | refine rU 23 ?_ | refine rG 23 (Calm.move rfl) ?_
  first | refine rS 23 ?_ | refine rU 23 ?_ | refine rG 23 (Calm.bin rfl rfl b_gtr) ?_
  refine rC ((by first | exact Calm.pickT rfl rfl | exact Calm.pickF rfl rfl)) ?_
  refine arun_nil ?_
  refine athen_n ?_
  refine AWP.sub [(0, _), (1, _), (4, _), (10, _), (5, _), (6, _), (26, _)] ⟨rfl, rfl, rfl, rfl, rfl, rfl, rfl, trivial⟩ ?_
  refine AWP.condF rfl (by first | rfl | (simp; done) | (simp; omega)) ?_
  have hz : madeL [Value.int .i64 0] ((n : Int).toNat * 1) = (List.replicate 0 a ++ List.replicate (n - 0) 0).map gZ := by rw [Int.toNat_natCast, Nat.mul_one, madeL_one, List.replicate_zero, List.nil_append, Nat.sub_zero, List.map_replicate]; rfl
  refine AWP.skip ?_
  refine athen_n ?_
  refine AWP.seq ?_
  refine AWP.region ?_
  refine rC (Calm.move rfl) ?_
  refine rC (Calm.conv rfl (by first | exact conv_intW Try.underlying139 Try.underlying3 (IntWalk.i64_in _ (by omega)) | exact conv_int Try.underlying139 Try.underlying3)) ?_
  refine ARun.makeSlice (lit_lt rfl) ty_sl_24 rfl rfl (by omega) (by omega) (by omega) (by omega) ?_
  intro b30 f30
  have g30 := f30
  repeat ((with_reducible replace g30 := fresh_set g30); obtain ⟨g30, _⟩ := g30)
  have := g30.ne hb; have := g30.ne' hb
  refine rC (Calm.assign rfl) ?_
  refine arun_nil ?_
  refine athen_n ?_
  refine AWP.sub [(0, _), (1, _), (4, _), (10, _), (5, _), (6, _), (26, _), (7, _)] ⟨rfl, rfl, rfl, rfl, rfl, rfl, rfl, rfl, trivial⟩ ?_
  refine AWP.seq ?_
  refine AWP.region ?_
  refine rC (Calm.move rfl) ?_
  refine rC (Calm.move rfl) ?_
  rw [hz, Int.toNat_natCast, Nat.mul_one]
  refine ARun.copyK (n := 1) (q := min 1 n) (news := (List.replicate (min 1 n) a).map gZ) (lit_lt rfl) ty_sl_24 rfl (Mem.own_set_same _ _ _) (Nat.zero_le _) rfl rfl (Mem.own_knows (r := ⟨T, [.int .i64 a], 1⟩) own_ 0 _ (fun j v hj => by rw [Nat.zero_add]; exact rep_one hj)) (by simp) (fun v hv => by obtain ⟨y, _, rfl⟩ := List.mem_map.1 hv; rfl) (.inl (by simp only [List.length_map, List.length_append, List.length_replicate]; omega)) ?_
  rw [spl_rep 0 n (min 1 n) a 0 (Nat.zero_le _) (by omega), Nat.zero_add, Mem.set_set]
  refine rC (Calm.assign rfl) ?_
  refine arun_nil ?_
  refine athen_n ?_
  refine AWP.sub [(0, _), (1, _), (4, _), (10, _), (5, _), (6, _), (26, _), (7, _), (8, _)] ⟨rfl, rfl, rfl, rfl, rfl, rfl, rfl, rfl, rfl, trivial⟩ ?_
  refine AWP.seq ?_
  refine AWP.block ?_
  refine AWP.loop (X := Nat) (fun k => [(7, .slice (some ⟨b30, 0, none⟩) n n), (8, .int .i64 k)]) (fun k => S.set b30 ⟨3, (List.replicate k a ++ List.replicate (n - k) 0).map gZ, n⟩) (fun k => min 1 n ≤ k ∧ k ≤ n) (fun k => n - k) (min 1 n) ⟨sq_, sq_, trivial⟩ (Mem.Less.refl _) (⟨Nat.le_refl _, by omega⟩) ?_
  rintro k ⟨h1, h2⟩
  (try dsimp only at *)
  by_cases hk : k < n
  · refine AWP.seq ?_
    refine AWP.seq ?_
    refine AWP.region ?_
    refine rC (Calm.move rfl) ?_
    refine rC (Calm.move rfl) ?_
    refine rC (Calm.lenSl Try.underlying24 rfl) ?_
    refine rC (Calm.bin rfl rfl b_lss) ?_
    refine arun_nil ?_
    refine athen_n ?_
    refine AWP.sub [(7, _), (8, _), (37, _)] ⟨rfl, rfl, rfl, trivial⟩ ?_
    refine AWP.condT rfl (by first | rfl | (simp; done) | (simp; omega)) ?_
    refine AWP.skip ?_
    refine athen_n ?_
    refine AWP.block ?_
    refine AWP.draw [(0, true), (1, true), (2, true), (3, true), (4, true), (5, true), (6, true), (7, false), (8, true), (9, true)] [7] mixed (by kernel_rfl) ?_
    refine dP (hc := fun _ => Calm.move rfl) (h := ?_)
    refine dP (hc := fun _ => Calm.move rfl) (h := ?_)
    refine dP (hc := fun _ => Calm.move rfl) (h := ?_)
    refine dP (hc := fun _ => Calm.sliceLo k Try.underlying24 ty_size_3 rfl rfl rfl (by omega) (by omega)) (h := ?_)
    refine dP (hc := fun _ => Calm.move rfl) (h := ?_)
    refine dP (hc := fun _ => Calm.move rfl) (h := ?_)
    refine dP (hc := fun _ => (by first | exact Calm.sliceHead Try.underlying24 ty_size_3 rfl (bnd_none _ _) (fun _ => rfl) (bnd_some _ _ rfl (by omega) (by omega)) | exact Calm.sliceNil Try.underlying24 ty_size_3 rfl (bnd_none _ _) (by simp) (bnd_zero _ _ rfl) (bnd_none _ _))) (h := ?_)
    refine draw_only rfl ?_
    refine ARun.copyK (n := 1) (q := min k (n - k)) (news := (List.replicate (min k (n - k)) a).map gZ) (lit_lt rfl) ty_sl_24 rfl (Mem.own_set_same _ _ _) (by simp only [List.length_map, List.length_append, List.length_replicate]; omega) rfl (by omega) (Mem.own_knows (Mem.own_set_same _ _ _) 0 _ (fun j v hj => by rw [Nat.zero_add]; exact rep_in hj (by omega))) (by simp) (fun v hv => by obtain ⟨y, _, rfl⟩ := List.mem_map.1 hv; rfl) (.inl (by simp only [List.length_map, List.length_append, List.length_replicate]; omega)) ?_
    rw [show 0 + k * 1 = k by omega, spl_rep k n (min k (n - k)) a 0 h2 (by omega), Mem.set_set]
    refine arun_nil ⟨fun h => absurd h (by decide), ?_⟩
    refine dP (hc := fun _ => Calm.bin rfl rfl b_add_i64) (h := ?_)
    refine dP (hc := fun _ => Calm.assign rfl) (h := ?_)
    refine draw_nil ?_
    refine ain_n ?_
    refine athen_n ?_
    refine ⟨k + min k (n - k), ?_, ?_, ?_, ?_⟩
    all_goals (try dsimp only)
    · exact ⟨sq_, sq_, trivial⟩
    · exact Mem.Less.refl _
    · exact ⟨by omega, by omega⟩
    · omega
  · refine AWP.seq ?_
    refine AWP.seq ?_
    refine AWP.region ?_
    refine rC (Calm.move rfl) ?_
    refine rC (Calm.move rfl) ?_
    refine rC (Calm.lenSl Try.underlying24 rfl) ?_
    refine rC (Calm.bin rfl rfl b_lss) ?_
    refine arun_nil ?_
    refine athen_n ?_
    refine AWP.sub [(7, _), (8, _), (37, _)] ⟨rfl, rfl, rfl, trivial⟩ ?_
    refine AWP.condF rfl (by first | rfl | (simp; done) | (simp; omega)) ?_
    obtain rfl : k = n := by omega
    rw [Nat.sub_self, List.replicate_zero, List.append_nil]
    refine AWP.exit ?_
    refine athen_exit ?_
    refine athen_exit ?_
    refine ain_same ?_
    refine athen_n ?_
    refine AWP.seq ?_
    refine AWP.region ?_
    refine rC (Calm.move rfl) ?_
    refine rC (Calm.assign rfl) ?_
    refine arun_nil ?_
    refine athen_n ?_
    refine AWP.sub [(7, _), (8, _), (37, _), (4, _)] ⟨rfl, rfl, rfl, rfl, trivial⟩ ?_
    refine AWP.ret ?_
    refine ⟨_, _, ⟨_, _, rfl, rfl, rfl⟩, Mem.Less.refl _, ?_⟩
    exact ⟨some (b30, k), okO_own f30 (by simp), by simp [outV, one], rfl⟩
/-! ### Where each number is -/
theorem pig_le : ∀ (n : Nat) (l : List Nat), l.Nodup → (∀ x ∈ l, x < n) → l.length ≤ n
  | 0, l, _, h => by
    cases l with
    | nil => exact Nat.le_refl _
    | cons x l => exact absurd (h x (List.mem_cons_self ..)) (Nat.not_lt_zero _)
  | n + 1, l, hn, h => by
    by_cases hm : n ∈ l
    · have := pig_le n (l.erase n) (hn.erase n) fun x hx => by
        have h1 := h x (List.mem_of_mem_erase hx)
        have h2 : x ≠ n := fun e => by subst e; exact absurd hx (List.Nodup.not_mem_erase hn)
        omega
      rw [List.length_erase_of_mem hm] at this
      omega
    · have := pig_le n l hn fun x hx => by
        have h1 := h x hx
        have h2 : x ≠ n := fun e => by subst e; exact hm hx
        omega
      omega
theorem pig : ∀ (n : Nat) (l : List Nat), l.Nodup → (∀ x ∈ l, x < n) → l.length = n → l.Perm (List.range n)
  | 0, l, _, _, hl => by rw [List.length_eq_zero_iff.1 hl]; exact List.Perm.refl _
  | n + 1, l, hn, h, hl => by
    by_cases hm : n ∈ l
    · have := pig n (l.erase n) (hn.erase n) (fun x hx => by
        have h1 := h x (List.mem_of_mem_erase hx)
        have h2 : x ≠ n := fun e => by subst e; exact absurd hx (List.Nodup.not_mem_erase hn)
        omega) (by rw [List.length_erase_of_mem hm]; omega)
      refine (List.perm_cons_erase hm).trans ?_
      rw [List.range_succ]
      exact (this.cons n).trans (List.perm_append_singleton n _).symm
    · have := pig_le n l hn fun x hx => by
        have h1 := h x hx
        have h2 : x ≠ n := fun e => by subst e; exact hm hx
        omega
      omega
/-- Numbers from 0 on, each once. -/
def GoodE (l : List Int) : Prop := ∃ e : List Nat, l = e.map (fun k : Nat => (k : Int)) ∧ e.Perm (List.range l.length)
def InvOf (l : List Int) (x : List Int) : Prop := x.length = l.length ∧ ∀ j (h : j < l.length), x.getD (l[j]).toNat 0 = (j : Int)
theorem invOf_one {l x y : List Int} (hg : GoodE l) (hx : InvOf l x) (hy : InvOf l y) : x = y := by
  obtain ⟨e, rfl, hp⟩ := hg
  refine List.ext_getElem (by rw [hx.1, hy.1]) fun q h1 h2 => ?_
  have hq : q < e.length := by have := hx.1; rw [List.length_map] at this; omega
  rw [List.length_map] at hp
  obtain ⟨j, hj, ej⟩ := List.getElem_of_mem (hp.mem_iff.2 (List.mem_range.2 hq))
  have a := hx.2 j (by rw [List.length_map]; exact hj)
  have b := hy.2 j (by rw [List.length_map]; exact hj)
  rw [List.getElem_map, Int.toNat_natCast, ej, getD_get _ _ _ h1] at a
  rw [List.getElem_map, Int.toNat_natCast, ej, getD_get _ _ _ h2] at b
  rw [a, b]
/-- The first i of a list, told. -/
structure InvI (l : List Int) (i : Nat) (x : List Int) : Prop where
  len : x.length = l.length
  rng : ∀ j (h : j < l.length), j < i → 0 ≤ l[j] ∧ l[j] < l.length
  at_ : ∀ j (h : j < l.length), j < i → x.getD (l[j]).toNat 0 = (j : Int)
def InvP (l : List Int) (i : Nat) (x : List Int) : Prop := InvI l i x ∧ ∀ q, q < l.length → (∀ j (h : j < l.length), j < i → l[j] ≠ (q : Int)) → x.getD q 0 = -1
def InvD (l : List Int) (i : Nat) (x : List Int) (h : List Bool) : Prop := InvI l i x ∧ h.length = l.length ∧ ∀ q, q < l.length → (h.getD q false = true ↔ ∃ j, ∃ hj : j < l.length, j < i ∧ l[j] = (q : Int))
theorem inv_nodup {l : List Int} {i : Nat} {x : List Int} (h : InvI l i x) {a b : Nat} (ha : a < l.length) (hb : b < l.length) (hai : a < i) (hbi : b < i) (e : l[a] = l[b]) : a = b := by
  have h1 := h.at_ a ha hai
  have h2 := h.at_ b hb hbi
  rw [e, h2] at h1; omega
theorem inv_good {l : List Int} {x : List Int} (h : InvI l l.length x) : GoodE l ∧ InvOf l x := by
  refine ⟨⟨l.map Int.toNat, ?_, ?_⟩, h.len, fun j hj => h.at_ j hj hj⟩
  · rw [List.map_map]
    refine List.ext_getElem (by simp) fun j h1 h2 => ?_
    rw [List.getElem_map]
    have := h.rng j h1 h1
    show _ = ((l[j].toNat : Nat) : Int)
    omega
  · have hnd : (l.map Int.toNat).Nodup := by
      refine List.pairwise_iff_getElem.2 fun a b ha hb hab e => ?_
      rw [List.getElem_map, List.getElem_map] at e
      rw [List.length_map] at ha hb
      have r1 := h.rng a ha ha
      have r2 := h.rng b hb hb
      have := inv_nodup h ha hb ha hb (by omega)
      omega
    refine pig l.length _ hnd (fun y hy => ?_) (List.length_map ..)
    obtain ⟨j, hj, e⟩ := List.getElem_of_mem hy
    rw [List.getElem_map] at e
    rw [List.length_map] at hj
    have r := h.rng j hj hj
    omega
theorem inv_step {l : List Int} {i : Nat} {x : List Int} (h : InvI l i x) (hi : i < l.length) (h0 : 0 ≤ l[i]) (h1 : l[i] < l.length) (hn : ∀ j (hj : j < l.length), j < i → l[j] ≠ l[i]) : InvI l (i + 1) (x.set (l[i]).toNat (i : Int)) := by
  have hl := h.len
  refine ⟨by rw [List.length_set]; exact hl, fun j hj hji => ?_, fun j hj hji => ?_⟩
  · rcases Nat.lt_or_ge j i with h' | h'
    · exact h.rng j hj h'
    · obtain rfl : j = i := by omega
      exact ⟨h0, h1⟩
  · rcases Nat.lt_or_ge j i with h' | h'
    · have r := h.rng j hj h'
      have hne : (l[i]).toNat ≠ (l[j]).toNat := fun e => hn j hj h' (by omega)
      rw [List.getD_eq_getElem?_getD, List.getElem?_set_ne hne, ← List.getD_eq_getElem?_getD, h.at_ j hj h']
    · obtain rfl : j = i := by omega
      rw [List.getD_eq_getElem?_getD, List.getElem?_set_self (by omega)]; rfl
theorem good_rng {l : List Int} (h : GoodE l) (i : Nat) (hi : i < l.length) : 0 ≤ l[i] ∧ l[i] < l.length := by
  obtain ⟨e, rfl, hp⟩ := h
  rw [List.length_map] at hp hi
  have := List.mem_range.1 (hp.mem_iff.1 (List.getElem_mem hi))
  simp only [List.getElem_map, List.length_map]; omega
theorem good_inj {l : List Int} (h : GoodE l) (i j : Nat) (hi : i < l.length) (hj : j < l.length) (e : l[i] = l[j]) : i = j := by
  obtain ⟨m, rfl, hp⟩ := h
  rw [List.length_map] at hp hi hj
  rw [List.getElem_map, List.getElem_map] at e
  have hnd : m.Nodup := hp.nodup_iff.2 List.nodup_range
  have e' : m[i] = m[j] := by omega
  rcases Nat.lt_trichotomy i j with h | h | h
  · exact absurd e' (List.pairwise_iff_getElem.1 hnd i j hi hj h)
  · exact h
  · exact absurd e'.symm (List.pairwise_iff_getElem.1 hnd j i hj hi h)
theorem invP_start (l : List Int) : InvP l 0 (List.replicate l.length (-1)) := ⟨⟨by simp, fun j _ h => absurd h (Nat.not_lt_zero _), fun j _ h => absurd h (Nat.not_lt_zero _)⟩, fun q hq _ => by rw [getD_get _ _ _ (by simpa using hq), List.getElem_replicate]⟩
theorem invP_step {l : List Int} {i : Nat} {x : List Int} (h : InvP l i x) (hi : i < l.length) (h0 : 0 ≤ l[i]) (h1 : l[i] < l.length) (hx : x.getD (l[i]).toNat 0 < 0) : InvP l (i + 1) (x.set (l[i]).toNat (i : Int)) := by
  have hn : ∀ j (hj : j < l.length), j < i → l[j] ≠ l[i] := fun j hj hji e => by have := h.1.at_ j hj hji; rw [e] at this; omega
  refine ⟨inv_step h.1 hi h0 h1 hn, fun q hq hno => ?_⟩
  have hne : (l[i]).toNat ≠ q := fun e => hno i hi (by omega) (by omega)
  rw [List.getD_eq_getElem?_getD, List.getElem?_set_ne hne, ← List.getD_eq_getElem?_getD]
  exact h.2 q hq fun j hj hji => hno j hj (by omega)
theorem invP_bad {l : List Int} {i : Nat} {x : List Int} (h : InvP l i x) (hi : i < l.length) (h0 : 0 ≤ l[i]) (h1 : l[i] < l.length) (hx : 0 ≤ x.getD (l[i]).toNat 0) : ¬ GoodE l := fun hg => by
  have := h.2 (l[i]).toNat (by omega) fun j hj hji e => by
    have := good_inj hg j i hj hi (by omega)
    omega
  omega
theorem invD_start (l : List Int) : InvD l 0 (List.replicate l.length 0) (List.replicate l.length false) := ⟨⟨by simp, fun j _ h => absurd h (Nat.not_lt_zero _), fun j _ h => absurd h (Nat.not_lt_zero _)⟩, by simp, fun q hq => by
  rw [getD_get _ _ _ (by simpa using hq), List.getElem_replicate]
  constructor
  · intro h; cases h
  · rintro ⟨j, hj, h, _⟩; exact absurd h (Nat.not_lt_zero _)⟩
theorem invD_step {l : List Int} {i : Nat} {x : List Int} {y : List Bool} (h : InvD l i x y) (hi : i < l.length) (h0 : 0 ≤ l[i]) (h1 : l[i] < l.length) (hx : y.getD (l[i]).toNat false = false) : InvD l (i + 1) (x.set (l[i]).toNat (i : Int)) (y.set (l[i]).toNat true) := by
  have hn : ∀ j (hj : j < l.length), j < i → l[j] ≠ l[i] := fun j hj hji e => by
    have := (h.2.2 (l[i]).toNat (by omega)).2 ⟨j, hj, hji, by omega⟩
    rw [hx] at this; cases this
  refine ⟨inv_step h.1 hi h0 h1 hn, by rw [List.length_set]; exact h.2.1, fun q hq => ?_⟩
  by_cases hne : (l[i]).toNat = q
  · rw [hne, List.getD_eq_getElem?_getD, List.getElem?_set_self (by rw [h.2.1]; exact hq)]
    constructor
    · intro _; exact ⟨i, hi, by omega, by omega⟩
    · intro _; rfl
  · rw [List.getD_eq_getElem?_getD, List.getElem?_set_ne hne, ← List.getD_eq_getElem?_getD, h.2.2 q hq]
    constructor
    · rintro ⟨j, hj, hji, e⟩; exact ⟨j, hj, by omega, e⟩
    · rintro ⟨j, hj, hji, e⟩
      refine ⟨j, hj, ?_, e⟩
      rcases Nat.lt_or_ge j i with h' | h'
      · exact h'
      · obtain rfl : j = i := by omega
        omega
theorem invD_bad {l : List Int} {i : Nat} {x : List Int} {y : List Bool} (h : InvD l i x y) (hi : i < l.length) (h0 : 0 ≤ l[i]) (h1 : l[i] < l.length) (hx : y.getD (l[i]).toNat false = true) : ¬ GoodE l := fun hg => by
  obtain ⟨j, hj, hji, e⟩ := (h.2.2 (l[i]).toNat (by omega)).1 hx
  have := good_inj hg j i hj hi (by omega)
  omega
/-- What Inverse hands back. -/
def InvR (l : List Int) (S : Mem) (r : Value) (S' : Mem) : Prop := (GoodE l ∧ ∃ u x, InvOf l x ∧ r = .tuple #[u, .int .i64 0] ∧ NewL gZ 3 x S u S') ∨ (¬ GoodE l ∧ r = .tuple #[.slice none 0 0, .int .i64 2] ∧ S' = S)
set_option maxHeartbeats 1000000 in
theorem or_Inverse (v : Value) (l : List Int) (S : Mem) (hv : Sl 1 i64s S v l) (hl : l.length ≤ 17592186043904) :
    ACall Try.prog 49 #[v] S (InvR l S) := by
  obtain ⟨a, cap, rfl, h1, h2, h3⟩ := id hv
  refine ACall.enter (args := [.slice a l.length cap]) (rs := [.tmp 2, .tmp 3]) 39 [(0, .slice a l.length cap)] Try.func49 rfl rfl (Nat.le_of_ble_eq_true rfl) rfl ⟨rfl, trivial⟩ ?_
  refine AWP.seq ?_
  refine AWP.region ?_
  refine rC (Calm.assign rfl) ?_
  refine rC (Calm.assign rfl) ?_
  refine arun_nil ?_
  refine athen_n ?_
  refine AWP.seq ?_
  refine AWP.region ?_
  refine ARun.build1s (lit_lt rfl) ty_sl_24 rfl rfl ?_
  intro b7 f7
  have g7 := f7
  repeat ((with_reducible replace g7 := fresh_set g7); obtain ⟨g7, _⟩ := g7)
  refine rC (Calm.move rfl) ?_
  refine rC (Calm.lenSl Try.underlying24 rfl) ?_
  refine ARun.call (lit_lt rfl) go_91 rfl (or_Repeat b7 _ l.length (-1) _ _ rfl hl own_) ?_
  rintro _ _ ⟨o, ho, rfl, rfl⟩
  rw [List.length_replicate] at *
  refine rC (Calm.assign rfl) ?_
  refine arun_nil ?_
  refine athen_n ?_
  refine AWP.sub [(0, _), (2, _), (3, _), (4, _)] ⟨rfl, rfl, rfl, rfl, trivial⟩ ?_
  have ho2 := ho.unset
  refine AWP.less (outM S o 3 ((List.replicate l.length (-1)).map gZ)) (outM_more _ _ _ (Mem.less_set _ _ _ f7.1)) ?_
  refine AWP.seq ?_
  refine AWP.seq ?_
  refine AWP.region ?_
  refine rC (Calm.move rfl) ?_
  refine rC (Calm.lenSl Try.underlying24 rfl) ?_
  refine rC (Calm.move rfl) ?_
  refine arun_nil ?_
  refine athen_n ?_
  refine AWP.block ?_
  refine AWP.loop (X := Nat × List Int) (fun x => [(0, .slice a l.length cap), (4, outV o l.length), (11, .slice a l.length cap), (12, .int .i64 l.length), (13, .int .i64 x.1)]) (fun x => outM S o 3 (x.2.map gZ)) (fun x => x.1 ≤ l.length ∧ InvP l x.1 x.2) (fun x => l.length - x.1) ((0, List.replicate l.length (-1))) ⟨rfl, rfl, rfl, rfl, rfl, trivial⟩ (Mem.Less.refl _) (⟨Nat.zero_le _, invP_start l⟩) ?_
  rintro ⟨i, x⟩ ⟨hi, hI⟩
  (try dsimp only at *)
  have hxl := hI.1.len
  by_cases hc : i < l.length
  · refine AWP.seq ?_
    refine AWP.region ?_
    refine rC (Calm.bin rfl rfl b_lss) ?_
    refine arun_nil ?_
    refine athen_n ?_
    refine AWP.seq ?_
    refine AWP.condT rfl (by first | rfl | (simp; done) | (simp; omega)) ?_
    obtain ⟨b, off, rfl, hk⟩ := h3.resolve_left (fun h => by rw [h] at hc; exact absurd hc (Nat.not_lt_zero _))
    obtain ⟨q, c, rfl⟩ := ho2.some (by omega)
    obtain ⟨fq, _⟩ := ho2.own q c rfl
    have hki : Mem.Knows (outM S (some (q, c)) 3 (x.map gZ)) ⟨b, off + i * 1, none⟩ [.int .i64 l[i]] := (hk i hc).less (outM_over ho2)
    by_cases c0 : l[i] < 0
    · refine AWP.skip ?_
      refine athen_n ?_
      refine AWP.seq ?_
      refine AWP.block ?_
      refine AWP.seq ?_
      refine AWP.region ?_
      refine rC (Calm.move rfl) ?_
      refine rC (Calm.indexS Try.underlying24 ty_size_3 rfl rfl (by omega) (by omega)) ?_
      refine rC (ld_ ty_plain_3 rfl) ?_
      refine rC (Calm.assign rfl) ?_
      refine rC (Calm.assign rfl) ?_
      refine arun_nil ?_
      refine athen_n ?_
      refine AWP.sub [(0, _), (4, _), (11, _), (12, _), (13, _), (14, _), (5, _), (6, _)] ⟨rfl, rfl, rfl, rfl, rfl, rfl, rfl, rfl, trivial⟩ ?_
      refine AWP.seq ?_
      refine AWP.seq ?_
      refine AWP.region ?_
      refine rC (Calm.move rfl) ?_
      refine rC (Calm.bin rfl rfl b_lss) ?_
      refine rC (Calm.move rfl) ?_
      first | refine rS 20 ?_ | refine rU 20 ?_ | refine rG 20 (Calm.move rfl) ?_
      first | refine rS 20 ?_ | refine rU 20 ?_ | refine rG 20 (Calm.move rfl) ?_
      first | refine rS 20 ?_ | refine rU 20 ?_ | refine rG 20 (Calm.lenSl Try.underlying24 rfl) ?_
      first | refine rS 20 ?_ | refine rU 20 ?_ | refine rG 20 (Calm.bin rfl rfl b_geq) ?_
      refine rC ((by first | exact Calm.pickT rfl rfl | exact Calm.pickF rfl rfl)) ?_
      refine rC (Calm.move rfl) ?_
      first | refine rS 26 ?_ | refine rU 26 ?_ | refine rG 26 (Calm.move rfl) ?_
      first | refine rS 26 ?_ | refine rU 26 ?_ | refine rG 26 (Calm.move rfl) ?_
      first | refine rS 26 ?_ | refine rU 26 ?_ | refine rG 26 (Calm.indexS Try.underlying24 ty_size_3 rfl rfl (by omega) (by omega)) ?_
      first | refine rS 26 ?_ | refine rU 26 ?_ | refine rG 26 (ld_ ty_plain_3 rfl) ?_
      first | refine rS 26 ?_ | refine rU 26 ?_ | refine rG 26 (Calm.bin rfl rfl b_geq) ?_
      refine rC ((by first | exact Calm.pickT rfl rfl | exact Calm.pickF rfl rfl)) ?_
      refine arun_nil ?_
      refine athen_n ?_
      refine AWP.sub [(0, _), (4, _), (11, _), (12, _), (13, _), (14, _), (5, _), (6, _), (32, _)] ⟨rfl, rfl, rfl, rfl, rfl, rfl, rfl, rfl, rfl, trivial⟩ ?_
      refine AWP.condT rfl (by first | rfl | (simp; done) | (simp; omega)) ?_
      refine AWP.seq ?_
      refine AWP.region ?_
      refine rC (Calm.assign rfl) ?_
      refine rC (Calm.assign rfl) ?_
      refine arun_nil ?_
      refine athen_n ?_
      refine AWP.ret ?_
      refine athen_ret ?_
      refine ain_ret ?_
      refine athen_ret ?_
      refine athen_ret ?_
      refine ain_ret ?_
      refine athen_ret ?_
      refine ⟨_, S, ⟨_, _, rfl, ⟨_, _, rfl, rfl, rfl⟩, rfl⟩, outM_over ho2, ?_⟩
      exact .inr ⟨fun hg => by have := good_rng hg i hc; omega, rfl, rfl⟩
    · by_cases c1 : (l.length : Int) ≤ l[i]
      · refine AWP.skip ?_
        refine athen_n ?_
        refine AWP.seq ?_
        refine AWP.block ?_
        refine AWP.seq ?_
        refine AWP.region ?_
        refine rC (Calm.move rfl) ?_
        refine rC (Calm.indexS Try.underlying24 ty_size_3 rfl rfl (by omega) (by omega)) ?_
        refine rC (ld_ ty_plain_3 rfl) ?_
        refine rC (Calm.assign rfl) ?_
        refine rC (Calm.assign rfl) ?_
        refine arun_nil ?_
        refine athen_n ?_
        refine AWP.sub [(0, _), (4, _), (11, _), (12, _), (13, _), (14, _), (5, _), (6, _)] ⟨rfl, rfl, rfl, rfl, rfl, rfl, rfl, rfl, trivial⟩ ?_
        refine AWP.seq ?_
        refine AWP.seq ?_
        refine AWP.region ?_
        refine rC (Calm.move rfl) ?_
        refine rC (Calm.bin rfl rfl b_lss) ?_
        refine rC (Calm.move rfl) ?_
        first | refine rS 20 ?_ | refine rU 20 ?_ | refine rG 20 (Calm.move rfl) ?_
        first | refine rS 20 ?_ | refine rU 20 ?_ | refine rG 20 (Calm.move rfl) ?_
        first | refine rS 20 ?_ | refine rU 20 ?_ | refine rG 20 (Calm.lenSl Try.underlying24 rfl) ?_
        first | refine rS 20 ?_ | refine rU 20 ?_ | refine rG 20 (Calm.bin rfl rfl b_geq) ?_
        refine rC ((by first | exact Calm.pickT rfl rfl | exact Calm.pickF rfl rfl)) ?_
        refine rC (Calm.move rfl) ?_
        first | refine rS 26 ?_ | refine rU 26 ?_ | refine rG 26 (Calm.move rfl) ?_
        first | refine rS 26 ?_ | refine rU 26 ?_ | refine rG 26 (Calm.move rfl) ?_
        first | refine rS 26 ?_ | refine rU 26 ?_ | refine rG 26 (Calm.indexS Try.underlying24 ty_size_3 rfl rfl (by omega) (by omega)) ?_
        first | refine rS 26 ?_ | refine rU 26 ?_ | refine rG 26 (ld_ ty_plain_3 rfl) ?_
        first | refine rS 26 ?_ | refine rU 26 ?_ | refine rG 26 (Calm.bin rfl rfl b_geq) ?_
        refine rC ((by first | exact Calm.pickT rfl rfl | exact Calm.pickF rfl rfl)) ?_
        refine arun_nil ?_
        refine athen_n ?_
        refine AWP.sub [(0, _), (4, _), (11, _), (12, _), (13, _), (14, _), (5, _), (6, _), (32, _)] ⟨rfl, rfl, rfl, rfl, rfl, rfl, rfl, rfl, rfl, trivial⟩ ?_
        refine AWP.condT rfl (by first | rfl | (simp; done) | (simp; omega)) ?_
        refine AWP.seq ?_
        refine AWP.region ?_
        refine rC (Calm.assign rfl) ?_
        refine rC (Calm.assign rfl) ?_
        refine arun_nil ?_
        refine athen_n ?_
        refine AWP.ret ?_
        refine athen_ret ?_
        refine ain_ret ?_
        refine athen_ret ?_
        refine athen_ret ?_
        refine ain_ret ?_
        refine athen_ret ?_
        refine ⟨_, S, ⟨_, _, rfl, ⟨_, _, rfl, rfl, rfl⟩, rfl⟩, outM_over ho2, ?_⟩
        exact .inr ⟨fun hg => by have := good_rng hg i hc; omega, rfl, rfl⟩
      · obtain ⟨k, hk2⟩ : ∃ k, k = (l[i]).toNat := ⟨_, rfl⟩
        have hkx : x.getD (l[i]).toNat 0 = x[k]'(by omega) := by rw [← hk2]; exact getD_get _ _ _ (by omega)
        refine AWP.skip ?_
        refine athen_n ?_
        refine AWP.seq ?_
        refine AWP.block ?_
        refine AWP.seq ?_
        refine AWP.region ?_
        refine rC (Calm.move rfl) ?_
        refine rC (Calm.indexS Try.underlying24 ty_size_3 rfl rfl (by omega) (by omega)) ?_
        refine rC (ld_ ty_plain_3 rfl) ?_
        refine rC (Calm.assign rfl) ?_
        refine rC (Calm.assign rfl) ?_
        refine arun_nil ?_
        refine athen_n ?_
        refine AWP.sub [(0, _), (4, _), (11, _), (12, _), (13, _), (14, _), (5, _), (6, _)] ⟨rfl, rfl, rfl, rfl, rfl, rfl, rfl, rfl, trivial⟩ ?_
        refine AWP.seq ?_
        refine AWP.seq ?_
        refine AWP.region ?_
        refine rC (Calm.move rfl) ?_
        refine rC (Calm.bin rfl rfl b_lss) ?_
        refine rC (Calm.move rfl) ?_
        first | refine rS 20 ?_ | refine rU 20 ?_ | refine rG 20 (Calm.move rfl) ?_
        first | refine rS 20 ?_ | refine rU 20 ?_ | refine rG 20 (Calm.move rfl) ?_
        first | refine rS 20 ?_ | refine rU 20 ?_ | refine rG 20 (Calm.lenSl Try.underlying24 rfl) ?_
        first | refine rS 20 ?_ | refine rU 20 ?_ | refine rG 20 (Calm.bin rfl rfl b_geq) ?_
        refine rC ((by first | exact Calm.pickT rfl rfl | exact Calm.pickF rfl rfl)) ?_
        refine rC (Calm.move rfl) ?_
        first | refine rS 26 ?_ | refine rU 26 ?_ | refine rG 26 (Calm.move rfl) ?_
        first | refine rS 26 ?_ | refine rU 26 ?_ | refine rG 26 (Calm.move rfl) ?_
        first | refine rS 26 ?_ | refine rU 26 ?_ | refine rG 26 (Calm.indexS Try.underlying24 ty_size_3 rfl rfl (by omega) (by omega)) ?_
        first | refine rS 26 ?_ | refine rU 26 ?_ | refine rG 26 (Calm.as (show gZ (x[k]'(by omega)) = .int .i64 (x[k]'(by omega)) from rfl) (Calm.load ty_plain_3 rfl (rd_list (g := gZ) k (by omega) (Mem.own_set_same _ _ _) (by omega)))) ?_
        first | refine rS 26 ?_ | refine rU 26 ?_ | refine rG 26 (Calm.bin rfl rfl b_geq) ?_
        refine rC ((by first | exact Calm.pickT rfl rfl | exact Calm.pickF rfl rfl)) ?_
        refine arun_nil ?_
        refine athen_n ?_
        refine AWP.sub [(0, _), (4, _), (11, _), (12, _), (13, _), (14, _), (5, _), (6, _), (32, _)] ⟨rfl, rfl, rfl, rfl, rfl, rfl, rfl, rfl, rfl, trivial⟩ ?_
        by_cases c2 : 0 ≤ x[k]'(by omega)
        · refine AWP.condT rfl (by first | rfl | (simp; done) | (simp; omega)) ?_
          refine AWP.seq ?_
          refine AWP.region ?_
          refine rC (Calm.assign rfl) ?_
          refine rC (Calm.assign rfl) ?_
          refine arun_nil ?_
          refine athen_n ?_
          refine AWP.ret ?_
          refine athen_ret ?_
          refine ain_ret ?_
          refine athen_ret ?_
          refine athen_ret ?_
          refine ain_ret ?_
          refine athen_ret ?_
          refine ⟨_, S, ⟨_, _, rfl, ⟨_, _, rfl, rfl, rfl⟩, rfl⟩, outM_over ho2, ?_⟩
          exact .inr ⟨invP_bad hI hc (by omega) (by omega) (by rw [hkx]; exact c2), rfl, rfl⟩
        · refine AWP.condF rfl (by first | rfl | (simp; done) | (simp; omega)) ?_
          refine AWP.skip ?_
          refine athen_n ?_
          refine AWP.region ?_
          refine rC (Calm.move rfl) ?_
          refine rC (Calm.move rfl) ?_
          refine rC (Calm.move rfl) ?_
          refine rC (Calm.indexS Try.underlying24 ty_size_3 rfl rfl (by omega) (by omega)) ?_
          refine ARun.store1 rfl rfl ty_size_3 rfl (Mem.own_set_same _ _ _) (by rw [List.length_map]; omega) rfl ?_
          (try simp only [Mem.set_set, List.set_cons_zero, List.set_cons_succ, Nat.zero_add, Nat.reduceAdd])
          refine arun_nil ?_
          refine ain_n ?_
          refine athen_n ?_
          refine AWP.sub [(0, _), (4, _), (11, _), (12, _), (13, _), (14, _), (5, _), (6, _), (32, _)] ⟨rfl, rfl, rfl, rfl, rfl, rfl, rfl, rfl, rfl, trivial⟩ ?_
          simp only [Nat.zero_add, Nat.mul_one]
          refine AWP.region ?_
          refine rC (Calm.bin rfl rfl b_add_i64) ?_
          refine rC (Calm.move rfl) ?_
          refine arun_nil ?_
          refine athen_n ?_
          refine ⟨(i + 1, x.set (l[i]).toNat (i : Int)), ?_, ?_, ?_, ?_⟩
          all_goals (try dsimp only)
          · exact ⟨sq_, sq_, sq_, sq_, sq_, trivial⟩
          · rw [List.map_set]; show (S.set q _).Less ((S.set q _).set q _); rw [Mem.set_set]; exact Mem.Less.refl _
          · exact ⟨hc, invP_step hI hc (by omega) (by omega) (by rw [hkx]; omega)⟩
          · omega
  · obtain rfl : i = l.length := by omega
    refine AWP.seq ?_
    refine AWP.region ?_
    refine rC (Calm.bin rfl rfl b_lss) ?_
    refine arun_nil ?_
    refine athen_n ?_
    refine AWP.seq ?_
    refine AWP.condF rfl (by first | rfl | (simp; done) | (simp; omega)) ?_
    obtain ⟨hg, hx⟩ := inv_good hI.1
    refine AWP.exit ?_
    refine athen_exit ?_
    refine athen_exit ?_
    refine ain_same ?_
    refine athen_n ?_
    refine AWP.seq ?_
    refine AWP.region ?_
    refine rC (Calm.move rfl) ?_
    refine rC (Calm.assign rfl) ?_
    refine rC (Calm.assign rfl) ?_
    refine arun_nil ?_
    refine athen_n ?_
    refine AWP.sub [(0, _), (4, _), (11, _), (12, _), (13, _), (14, _), (2, _), (3, _)] ⟨rfl, rfl, rfl, rfl, rfl, rfl, rfl, rfl, trivial⟩ ?_
    refine AWP.ret ?_
    refine ⟨_, _, ⟨_, _, rfl, ⟨_, _, rfl, rfl, rfl⟩, rfl⟩, Mem.Less.refl _, ?_⟩
    exact .inl ⟨hg, _, x, hx, rfl, o, by rw [hxl]; exact ho2, by rw [hxl], rfl⟩
end Go.Proofs.Ytgidjbpgkeemiaa
