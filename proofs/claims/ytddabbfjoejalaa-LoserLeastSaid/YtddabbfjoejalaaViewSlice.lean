/-
  A view of memory, the fourth part: slices that are made and that grow; bytes and texts. No program in sight.
-/
import Derived.Test.YtddabbfjoejalaaViewCall
namespace Go.Proofs.Ytddabbfjoejalaa
open Go.RowKit
set_option linter.unusedVariables false
namespace Mv
/-- A slice's type: its elements', how many cells and bytes one has, and its zero. -/
def slT (P : Program) (T : TypeId) : Option (TypeId × Nat × Nat × List Value) := match P.underlying T with
  | some (.slice e) => match P.info? e with
    | some i => match i.zero with
      | some z => some (e, i.size, i.bytes, z.cells.toList)
      | none => none
    | none => none
  | _ => none
theorem slT_spec {P : Program} {T e : TypeId} {n y : Nat} {z : List Value} (h : slT P T = some (e, n, y, z)) : P.underlying T = some (.slice e) ∧ ∃ i v, P.info? e = some i ∧ i.zero = some v ∧ i.size = n ∧ i.bytes = y ∧ v.cells.toList = z := by
  unfold slT at h
  cases e1 : P.underlying T with
  | none => simp [e1] at h
  | some d =>
    cases d <;> simp [e1] at h
    rename_i e'
    cases e2 : P.info? e' with
    | none => simp [e2] at h
    | some i =>
      cases e3 : i.zero with
      | none => simp [e2, e3] at h
      | some v =>
        simp [e2, e3] at h
        obtain ⟨rfl, rfl, rfl, rfl⟩ := h
        exact ⟨rfl, i, v, e2, e3, rfl, rfl, rfl⟩
theorem del_set (S : Mem) (b : Nat) (r : Blk) : (S.del b).set b r = S.set b r := by
  unfold Mem.del Mem.set; congr 1; funext k; by_cases h : k = b <;> simp [h]
theorem fresh_del {S : Mem} {b : Nat} {r : Blk} (h : ∀ a v, S.ro a = some v → S.own a.block = none) (hb : S.own b = some r) : Fresh (S.del b) b := ⟨by simp [Mem.del], fun a v ha e => by
  have := h a v ha; rw [e, hb] at this; cases this⟩
theorem less_del (S : Mem) (b c : Nat) (r : Blk) : ((S.del b).set c r).Less (S.set c r) := ⟨fun k r' hk => by
  by_cases h : k = c
  · subst h; simpa [Mem.set] using hk
  · rw [Mem.own_set_other _ _ h] at hk ⊢
    simp only [Mem.del] at hk
    split at hk
    · cases hk
    · exact hk, rfl⟩
theorem Less.del (S : Mem) (b : Nat) : (S.del b).Less S := ⟨fun k r' hk => by
  simp only [Mem.del] at hk
  split at hk
  · cases hk
  · exact hk, rfl⟩
theorem Less.set {S S' : Mem} (h : S'.Less S) (b : Nat) (r : Blk) : (S'.set b r).Less (S.set b r) := ⟨fun k r' hk => by
  by_cases e : k = b
  · subst e; rw [Mem.own_set_same] at hk ⊢; exact hk
  · rw [Mem.own_set_other _ _ e] at hk ⊢; exact h.1 k r' hk, h.2⟩
theorem del_fresh (S : Mem) (b : Nat) (h : S.own b = none) : S.del b = S := by
  cases S; unfold Mem.del; congr 1; funext k; by_cases e : k = b
  · subst e; simpa using h.symm
  · simp [e]
theorem Fresh.del {S : Mem} {b c : Nat} (h : Fresh S b) : Fresh (S.del c) b := h.less (Less.del S c)

section
variable {P : Program} {N : Nat} {ops : Array Oper} {E : Env} {S : Mem} {K : Env → Mem → Prop}
variable {dst : Option Nat} {ty : TypeId} {pos : String} {aft : Array Edge} {gd : Option (Nat × Bool)}
/-- A new block, of which the first cells are known. -/
theorem Step.allocP {w : World} (h : View S w) (T : TypeId) (cs : Array Value) (known : List Value) (room : Nat) (hk : known <+: cs.toList) (hr : room ≤ cs.size) : Step S w (S.set w.heap.size ⟨T, known, room⟩) (w.alloc (.cells cs T)) := by
  have hs := Step.alloc h T cs
  refine ⟨⟨fun b r hb => ?_, fun a v ha => ?_⟩, hs.os, hs.tape, hs.output, hs.size, hs.block, fun k hk => ?_, hs.ro⟩
  · by_cases e : b = w.heap.size
    · subst e
      rw [Mem.own_set_same] at hb
      cases hb
      exact ⟨cs, (0, 0), heap_alloc_new w _, hk, hr, fun j _ x => by simp at x⟩
    · rw [Mem.own_set_other _ _ e] at hb
      exact hs.view.own b r (by rw [Mem.own_set_other _ _ e]; exact hb)
  · obtain ⟨h1, h2⟩ := hs.view.ro a v ha
    refine ⟨h1, ?_⟩
    by_cases e : a.block = w.heap.size
    · rw [e, Mem.own_set_same] at h2; cases h2
    · rw [Mem.own_set_other _ _ e] at h2 ⊢; exact h2
  · by_cases e : k = w.heap.size
    · exact .inr (by omega)
    · rw [Mem.own_set_other _ _ e] at hk; exact .inl hk
def madeL (z : List Value) (n : Nat) : List Value := (madeCells z.toArray n).toList
theorem madeL_length (z : List Value) (n : Nat) : (madeL z n).length = n := by simp [madeL, size_madeCells]
theorem madeL_one (v : Value) (n : Nat) : madeL [v] n = List.replicate n v := by
  apply List.ext_getElem
  · simp [madeL_length]
  · intro i h1 h2
    simp [madeL, madeCells, Nat.mod_one]
theorem ARun.makeSlice {os : List Oper} {T e : TypeId} {n y : Nat} {z : List Value} {x1 x2 : Operand} {k1 k2 : IntKind} {l c : Int} {d : Nat} (hn : d < N) (hT : slT P T = some (e, n, y, z)) (hx : ev E x1 = some (.int k1 l)) (hy : ev E x2 = some (.int k2 c))
    (h0 : 0 ≤ l) (hlc : l ≤ c) (hb : (y : Int) * c ≤ 281474976710656) (h63 : c ≤ 9223372036854775807)
    (h : ∀ b, Fresh S b → ARun P N ops os K ((d, .slice (some ⟨b, 0, none⟩) l.toNat c.toNat) :: E) (S.set b ⟨e, madeL z (c.toNat * n), c.toNat * n⟩)) : ARun P N ops (⟨some d, .makeSlice T x1 x2, ty, pos, aft, none⟩ :: os) K E S := fun a w g hv => by
  rw [if_pos (by simp [Region.wanted])]
  obtain ⟨hu, i, v, e1, e2, rfl, rfl, rfl⟩ := slT_spec hT
  unfold Oper.wp
  have : (execOp a.eval ⟨some d, .makeSlice T x1 x2, ty, pos, aft, none⟩).run P w = .ok (.value (.slice (some ⟨w.heap.size, 0, none⟩) l.toNat c.toNat)) (w.alloc (.cells (madeCells v.cells (c.toNat * i.size)) e)) := by
    simp only [execOp, g.ev hx, g.ev hy]
    rw [Sem.run_bind, run_make (P := P) w T e i v hu e1 e2 k1 k2 l c h0 hlc hb h63]
    rfl
  rw [this]
  refine ⟨_, _, h _ hv.freshAt, g.put hn _, ?_⟩
  exact Step.allocP hv e _ _ _ (by unfold madeL; simp) (by simp [size_madeCells])
/-- A new slice of one element. -/
theorem ARun.build1 {os : List Oper} {T e : TypeId} {n y : Nat} {z : List Value} {x : Operand} {u : Value} {d : Nat} (hn : d < N) (hT : slT P T = some (e, n, y, z)) (hz : z.length = n) (hp : 0 < n) (hn24 : n ≤ 16777216) (hx : ev E x = some u) (hu : u.cells.size = n)
    (h : ∀ b, Fresh S b → ARun P N ops os K ((d, .slice (some ⟨b, 0, none⟩) 1 1) :: E) (S.set b ⟨e, u.cells.toList, n⟩)) : ARun P N ops (⟨some d, .buildSlice T 1 #[(0, x)], ty, pos, aft, none⟩ :: os) K E S := fun a w g hv => by
  rw [if_pos (by simp [Region.wanted])]
  obtain ⟨hus, i, v, e1, e2, rfl, rfl, rfl⟩ := slT_spec hT
  have hz' : v.cells.size = i.size := by simpa using hz
  unfold Oper.wp
  have hfold : ∀ (cs : List Value) (k : Nat) (acc : Array Value), k + cs.length = acc.size → (cs.zipIdx.foldl (fun (bs : Array Value) (p : Value × Nat) => bs.setIfInBounds (k + p.2) p.1) acc).toList = acc.toList.take k ++ cs := by
    intro cs k acc hl
    have key : ∀ (cs : List Value) (m : Nat) (acc : Array Value), k + m + cs.length = acc.size → ((cs.zipIdx m).foldl (fun (bs : Array Value) (p : Value × Nat) => bs.setIfInBounds (k + p.2) p.1) acc).toList = acc.toList.take (k + m) ++ cs := by
      intro cs
      induction cs with
      | nil => intro m acc hl; simp at hl ⊢; rw [List.take_of_length_le (by simp; omega)]
      | cons c cs ih =>
        intro m acc hl
        simp only [List.length_cons] at hl
        rw [List.zipIdx_cons, List.foldl_cons, ih (m + 1) _ (by simp; omega)]
        simp only [Array.toList_setIfInBounds]
        rw [List.set_eq_take_append_cons_drop, if_pos (by simp; omega)]
        have e1 : (acc.toList.take (k + m)).length = k + m := by simp; omega
        rw [List.take_append, e1, List.take_of_length_le (by omega), show k + (m + 1) - (k + m) = 1 from by omega]
        simp
    exact key cs 0 acc hl
  have hrun : (execOp a.eval ⟨some d, .buildSlice T 1 #[(0, x)], ty, pos, aft, none⟩).run P w = .ok (.value (.slice (some ⟨w.heap.size, 0, none⟩) 1 1)) (w.alloc (.cells u.cells e)) := by
    have hz1 : (zeroValue e).run P w = .ok v w := by simp [zeroValue, typeInfo, e1, e2]
    have hne : ¬ (i.size = 0) := by omega
    have hle : ¬ (16777216 < i.size) := by omega
    have hf := hfold u.cells.toList 0 ((Array.range i.size).map (v.cells[· % v.cells.size]!)) (by simp [hu])
    simp only [List.take_zero, List.nil_append, Nat.zero_add] at hf
    have hf' : Array.foldl (fun (bs : Array Value) (p : Value × Nat) => bs.setIfInBounds p.2 p.1) ((Array.range i.size).map (v.cells[· % v.cells.size]!)) u.cells.zipIdx = u.cells := by
      apply Array.ext'
      rw [← hf, ← Array.foldl_toList, Array.toList_zipIdx]
    simp [execOp, g.ev hx, Instr.buildSlice, run_underlying hus w, sizeOf, typeInfo, e1, hne, hle, hz1, Instr.fill, hu, newRow]
    have hst : i.size = u.cells.zipIdx.size := by simp [hu]
    rw [hst] at hf' ⊢
    rw [hf']
  rw [hrun]
  refine ⟨_, _, h _ hv.freshAt, g.put hn _, ?_⟩
  exact Step.allocP hv e u.cells _ _ List.prefix_rfl (by omega)
theorem ARun.appendRun {os : List Oper} {T e : TypeId} {n y : Nat} {z : List Value} {x1 x2 : Operand} {b k c : Nat} {xs news : List Value} {a2 : Addr} {m c2 d : Nat} (hn : d < N) (hT : slT P T = some (e, n, y, z)) (hz : z.length = n)
    (hx : ev E x1 = some (.slice (some ⟨b, 0, none⟩) k c)) (hb : S.own b = some ⟨e, xs, c * n⟩) (hxs : xs.length = k * n)
    (hy : ev E x2 = some (.slice (some a2) m c2)) (hnews : S.rds a2 news) (hnl : news.length = m * n) (h1 : ∀ v ∈ news, v.oneCell' = true) (hfit : (k + m) * y ≤ 140737488355328) (h63 : k + m ≤ 9223372036854775807)
    (h : ∀ b' c', Fresh (S.del b) b' → k + m ≤ c' → ARun P N ops os K ((d, .slice (some ⟨b', 0, none⟩) (k + m) c') :: E) ((S.del b).set b' ⟨e, xs ++ news, c' * n⟩)) :
    ARun P N ops (⟨some d, .call ⟨.builtin .append, #[x1, x2], #[T, T]⟩, ty, pos, aft, none⟩ :: os) K E S := fun a w g hv => by
  rw [if_pos (by simp [Region.wanted])]
  obtain ⟨hu, i, v, e1, e2, rfl, rfl, rfl⟩ := slT_spec hT
  have hz' : v.cells.size = i.size := by simpa using hz
  have hex : (execOp a.eval ⟨some d, .call ⟨.builtin .append, #[x1, x2], #[T, T]⟩, ty, pos, aft, none⟩).run P w = ((Builtin.append_ #[T, T] ty #[.slice (some ⟨b, 0, none⟩) k c, .slice (some a2) m c2]).run P w).andThen fun v w' => .ok (.value v) w' := by
    simp [execOp, resolve, invoke, builtin, g.ev hx, g.ev hy]
  unfold Oper.wp
  rw [hex]
  by_cases hroom : k + m ≤ c
  · obtain ⟨q1, q2⟩ := store_cells (P := P) hv hb (vs := news) (o := k * i.size) (by simp [hxs]) (.inr (by simp only [hnl]; rw [← Nat.add_mul]; exact Nat.mul_le_mul_right _ hroom)) h1
    have hf := run_firstCells_some (P := P) w i.size m a2 m c2 news hnl (fun j u hj => hv.rd (hnews j u hj))
    have hr : (Builtin.append_ #[T, T] ty #[.slice (some ⟨b, 0, none⟩) k c, .slice (some a2) m c2]).run P w = .ok (.slice (some ⟨b, 0, none⟩) (k + m) c) (w.setCells b (k * i.size) news) := by
      simp [Builtin.append_, run_underlying hu, sizeOf, typeInfo, e1, Builtin.lenOf, hroom, hf, addr_add, q1]
    rw [hr]
    have hsp : spl xs (k * i.size) news = xs ++ news := by
      unfold spl
      rw [List.take_of_length_le (by omega), List.drop_of_length_le (by omega), List.append_nil]
    simp only [hsp] at q2
    refine ⟨_, _, h b c (fresh_del (fun a v ha => (hv.ro a v ha).2) hb) hroom, g.put hn _, ?_⟩
    rw [del_set]; exact q2
  · have hfit' : Builtin.nextslicecap (k + m) c * i.bytes ≤ 281474976710656 := growslice_fits (by omega) hfit
    have hr := run_append_grow (P := P) w T ty e i v hu e1 e2 ⟨b, 0, none⟩ k c xs hxs (fun j u hj => hv.rd (by rw [addr_add, Nat.zero_add, rd_own hb]; exact hj)) a2 m c2 news hnl (fun j u hj => hv.rd (hnews j u hj)) (by omega) (by omega) hfit'
    rw [hr]
    have hge := grownCap_ge w (k + m) c e
    have hvd : View S w.drew := hv.drawn _
    have hst := Step.allocP hvd e (xs.toArray ++ news.toArray ++ Builtin.zeroCells v.cells (grownCap w (k + m) c e - (k + m))) (xs ++ news) (grownCap w (k + m) c e * i.size) (by simp [List.append_assoc]) (by
      simp only [Array.size_append, List.size_toArray, size_zeroCells, hz', hxs, hnl, ← Nat.add_mul]
      exact Nat.mul_le_mul_right _ (by omega))
    refine ⟨_, _, h w.heap.size (grownCap w (k + m) c e) (hv.freshAt.less (Less.del S b)) hge, g.put hn _, ?_⟩
    exact ((Step.drawn hv _).trans hst).less (less_del S b _ _)
theorem ARun.appendNil {os : List Oper} {T e : TypeId} {n y : Nat} {z : List Value} {x1 x2 : Operand} {news : List Value} {a2 : Addr} {m c2 d : Nat} (hn : d < N) (hT : slT P T = some (e, n, y, z)) (hz : z.length = n)
    (hx : ev E x1 = some (.slice none 0 0)) (hy : ev E x2 = some (.slice (some a2) m c2)) (hnews : S.rds a2 news) (hnl : news.length = m * n) (hm : 0 < m) (hfit : m * y ≤ 140737488355328) (h63 : m ≤ 9223372036854775807)
    (h : ∀ b' c', Fresh S b' → m ≤ c' → ARun P N ops os K ((d, .slice (some ⟨b', 0, none⟩) m c') :: E) (S.set b' ⟨e, news, c' * n⟩)) :
    ARun P N ops (⟨some d, .call ⟨.builtin .append, #[x1, x2], #[T, T]⟩, ty, pos, aft, none⟩ :: os) K E S := fun a w g hv => by
  rw [if_pos (by simp [Region.wanted])]
  obtain ⟨hu, i, v, e1, e2, rfl, rfl, rfl⟩ := slT_spec hT
  have hz' : v.cells.size = i.size := by simpa using hz
  have hex : (execOp a.eval ⟨some d, .call ⟨.builtin .append, #[x1, x2], #[T, T]⟩, ty, pos, aft, none⟩).run P w = ((Builtin.append_ #[T, T] ty #[.slice none 0 0, .slice (some a2) m c2]).run P w).andThen fun v w' => .ok (.value v) w' := by
    simp [execOp, resolve, invoke, builtin, g.ev hx, g.ev hy]
  unfold Oper.wp
  rw [hex, run_append_nil (P := P) w T ty e i v hu e1 e2 a2 m c2 news hnl (fun j u hj => hv.rd (hnews j u hj)) hm (by omega) (by omega)]
  have hge := grownCap_ge w m 0 e
  have hvd : View S w.drew := hv.drawn _
  have hst := Step.allocP hvd e (news.toArray ++ Builtin.zeroCells v.cells (grownCap w m 0 e - m)) news (grownCap w m 0 e * i.size) (by simp) (by
    simp only [Array.size_append, List.size_toArray, size_zeroCells, hz', hnl, ← Nat.add_mul]
    exact Nat.mul_le_mul_right _ (by omega))
  exact ⟨_, _, h w.heap.size (grownCap w m 0 e) hv.freshAt hge, g.put hn _, (Step.drawn hv _).trans hst⟩
/-- Nothing is put behind. -/
theorem ARun.appendNone {os : List Oper} {T e : TypeId} {n y : Nat} {z : List Value} {x1 x2 : Operand} {A : Option Addr} {k c d c2 : Nat} {a2 : Option Addr} (hn : d < N) (hT : slT P T = some (e, n, y, z)) (hk : k ≤ c)
    (hx : ev E x1 = some (.slice A k c)) (hy : ev E x2 = some (.slice a2 0 c2)) (h : ARun P N ops os K ((d, .slice A k c) :: E) S) :
    ARun P N ops (⟨some d, .call ⟨.builtin .append, #[x1, x2], #[T, T]⟩, ty, pos, aft, none⟩ :: os) K E S := fun a w g hv => by
  rw [if_pos (by simp [Region.wanted])]
  obtain ⟨hu, i, v, e1, e2, rfl, rfl, rfl⟩ := slT_spec hT
  have hf : (Builtin.firstCells i.size 0 (.slice a2 0 c2)).run P w = .ok #[] w := by
    cases a2 <;> simp [Builtin.firstCells, loadCells, loadCellsFrom]
  have hr : (execOp a.eval ⟨some d, .call ⟨.builtin .append, #[x1, x2], #[T, T]⟩, ty, pos, aft, none⟩).run P w = .ok (.value (.slice A k c)) w := by
    cases A <;> simp [execOp, resolve, invoke, builtin, g.ev hx, g.ev hy, Builtin.append_, run_underlying hu, sizeOf, typeInfo, e1, Builtin.lenOf, hk, hf, storeCells]
  unfold Oper.wp
  rw [hr]
  exact ⟨_, _, h, g.put hn _, Step.refl hv⟩

/-! ### Bytes and texts -/
def bytesT (P : Program) (T : TypeId) : Option TypeId := match P.underlying T with
  | some (.slice e) => match P.underlying e with
    | some (.int .u8) => some e
    | _ => none
  | _ => none
def strT (P : Program) (T : TypeId) : Bool := match P.underlying T with | some .string => true | _ => false
theorem bytesT_spec {T e : TypeId} (h : bytesT P T = some e) : P.underlying T = some (.slice e) ∧ P.underlying e = some (.int .u8) := by
  unfold bytesT at h
  cases e1 : P.underlying T with
  | none => simp [e1] at h
  | some d =>
    cases d <;> simp [e1] at h
    rename_i e'
    cases e2 : P.underlying e' with
    | none => simp [e2] at h
    | some d2 =>
      cases d2 <;> simp [e2] at h
      rename_i k
      cases k <;> simp at h
      subst h
      exact ⟨rfl, e2⟩
theorem strT_spec {T : TypeId} (h : strT P T = true) : P.underlying T = some .string := by
  unfold strT at h
  cases e1 : P.underlying T with
  | none => simp [e1] at h
  | some d => cases d <;> simp_all
def cellsB (l : List UInt8) : List Value := l.map fun c => .int .u8 (nb c)
theorem cellsB_length (l : List UInt8) : (cellsB l).length = l.length := by simp [cellsB]
/-- 'string(b)' of bytes that are known. -/
theorem Calm.toStr {s t e : TypeId} {x : Operand} {a : Addr} {n cap : Nat} {l : List UInt8} (hs : bytesT P s = some e) (ht : strT P t = true) (hx : ev E x = some (.slice (some a) n cap)) (hn : l.length = n) (hl : S.rds a (cellsB l)) :
    ACalm P N ⟨dst, .convert s t x, ty, pos, aft, gd⟩ E S (.string (bs l)) := fun c w g hv => by
  obtain ⟨h1, h2⟩ := bytesT_spec hs
  subst hn
  have := run_convert_bytes_back (P := P) w s t e a cap l h1 h2 (strT_spec ht) (fun j hj => hv.rd (hl j _ (by simp [cellsB, hj, nb])))
  simp only [execOp, g.ev hx]
  rw [Sem.run_bind, this]
  rfl
theorem Calm.toStrNil {s t e : TypeId} {x : Operand} {n cap : Nat} (hs : bytesT P s = some e) (ht : strT P t = true) (hx : ev E x = some (.slice none n cap)) :
    ACalm P N ⟨dst, .convert s t x, ty, pos, aft, gd⟩ E S (.string (bs [])) := fun c w g hv => by
  obtain ⟨h1, h2⟩ := bytesT_spec hs
  simp [execOp, g.ev hx, convert, run_underlying h1, run_underlying h2, run_underlying (strT_spec ht), Conv.bytesToString]
  rfl
/-- '[]byte(s)'. -/
theorem ARun.toBytes {os : List Oper} {s t e : TypeId} {x : Operand} {u : ByteArray} {d : Nat} (hn : d < N) (hs : strT P s = true) (ht : bytesT P t = some e) (hx : ev E x = some (.string u))
    (h : ∀ b c, Fresh S b → u.size ≤ c → ARun P N ops os K ((d, .slice (some ⟨b, 0, none⟩) u.size c) :: E) (S.set b ⟨e, cellsB u.data.toList, c⟩)) : ARun P N ops (⟨some d, .convert s t x, ty, pos, aft, none⟩ :: os) K E S := fun a w g hv => by
  rw [if_pos (by simp [Region.wanted])]
  obtain ⟨h1, h2⟩ := bytesT_spec ht
  have hr := Lib.run_convert_string_bytes (P := P) w s t e u (strT_spec hs) h1 h2
  unfold Oper.wp
  have hex : (execOp a.eval ⟨some d, .convert s t x, ty, pos, aft, none⟩).run P w = .ok (.value (.slice (some ⟨w.heap.size, 0, none⟩) u.size (grownCap w u.size 0 e))) (Lib.bytesWorld w e u) := by
    simp only [execOp, g.ev hx]
    rw [Sem.run_bind, hr]
    rfl
  rw [hex]
  have hge := grownCap_ge w u.size 0 e
  have hb := conv_below w e u
  have hs0 := Step.below hv hb
  refine ⟨_, _, h w.heap.size _ hv.freshAt hge, g.put hn _, ⟨⟨fun k r hk => ?_, fun ad v ha => ?_⟩, hs0.os, hs0.tape, hs0.output, hs0.size, hs0.block, fun k hk => ?_, rfl⟩⟩
  · by_cases e0 : k = w.heap.size
    · subst e0
      rw [Mem.own_set_same] at hk
      cases hk
      have husz : u.size = u.data.size := rfl
      refine ⟨_, _, Lib.bytesWorld_at_new w e u, ?_, ?_, fun j hj x => ?_⟩
      · simp [Lib.bytesCells, cellsB, nb]
      · simp only [Lib.bytesCells, Array.size_append, Array.size_map, Array.size_replicate]; omega
      · simp at x; omega
    · rw [Mem.own_set_other _ _ e0] at hk
      exact hs0.view.own k r hk
  · obtain ⟨q1, q2⟩ := hs0.view.ro ad v ha
    refine ⟨q1, ?_⟩
    have hlt := World.block_lt_of_cell? _ _ (hv.ro ad v ha).1
    rw [Mem.own_set_other _ _ (by omega)]; exact q2
  · by_cases e0 : k = w.heap.size
    · exact .inr (by omega)
    · rw [Mem.own_set_other _ _ e0] at hk; exact .inl hk
end
end Mv
end Go.Proofs.Ytddabbfjoejalaa
