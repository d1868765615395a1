/-
  A view of memory, the tenth part: slices that are known, as lists; slices and arrays that are built; calls of function values; texts. No program in sight.
-/
import Derived.Test.YtddabbfjoejalaaViewAuto
import Derived.Deep.Slices
namespace Go.Proofs.Ytddabbfjoejalaa
open Go.RowKit
set_option linter.unusedVariables false
namespace Mv
theorem Mem.Less.own {S S' : Mem} {b : Nat} {r : Blk} (h : S.Less S') (hb : S.own b = some r) : S'.own b = some r := h.1 b r hb
theorem okO_own {S : Mem} {b c n : Nat} (h : Fresh S b) (hc : n ≤ c) : OkO S (some (b, c)) n := ⟨fun h => (by cases h), fun b1 c1 e => (by cases e; exact ⟨h, hc⟩)⟩
theorem OkO.some {S : Mem} {o : Option (Nat × Nat)} {n : Nat} (h : OkO S o n) (hn : 0 < n) : ∃ b c, o = .some (b, c) := by
  cases o with
  | none => have := h.nil rfl; omega
  | some q => exact ⟨q.1, q.2, rfl⟩
theorem rds_outM (S : Mem) (b c : Nat) (e : TypeId) (cs : List Value) : (outM S (.some (b, c)) e cs).rds ⟨b, 0, none⟩ cs := rds_own (r := ⟨e, cs, c⟩) (Mem.own_set_same _ _ _)
/-! ### Slices as lists: 'f x' are the cells of an element, n of them -/
def Sl {α : Type} (n : Nat) (f : α → List Value) (S : Mem) (v : Value) (l : List α) : Prop :=
  ∃ a cap, v = .slice a l.length cap ∧ l.length ≤ cap ∧ l.length ≤ 9223372036854775807 ∧ (l = [] ∨ ∃ b off, a = some ⟨b, off, none⟩ ∧ ∀ i (h : i < l.length), S.Knows ⟨b, off + i * n, none⟩ (f l[i]))
theorem Sl.less {α : Type} {n : Nat} {f : α → List Value} {S S' : Mem} {v : Value} {l : List α} (h : Sl n f S v l) (hl : S.Less S') : Sl n f S' v l := by
  obtain ⟨a, cap, h1, h2, h3, h4⟩ := h
  refine ⟨a, cap, h1, h2, h3, ?_⟩
  rcases h4 with h4 | ⟨b, off, h5, h6⟩
  · exact .inl h4
  · exact .inr ⟨b, off, h5, fun i h => (h6 i h).less hl⟩
theorem Sl.nil {α : Type} (n : Nat) (f : α → List Value) (S : Mem) : Sl n f S (.slice none 0 0) [] := ⟨none, 0, rfl, by simp, by simp, .inl rfl⟩
theorem Mem.own_knows {S : Mem} {b : Nat} {r : Blk} (h : S.own b = some r) (k : Nat) (cs : List Value) (hc : ∀ j v, cs[j]? = some v → r.cells[k + j]? = some v) : S.Knows ⟨b, k, none⟩ cs := by
  refine Mem.rds.knows fun j v hj => ?_
  rw [addr_add, rd_own h]; exact hc j v hj
theorem flat_get {α : Type} {n : Nat} {f : α → List Value} (hn : ∀ x, (f x).length = n) : ∀ (l : List α) (i : Nat) (h : i < l.length) (j : Nat) (v : Value), (f l[i])[j]? = some v → (l.flatMap f)[i * n + j]? = some v
  | x :: l, 0, h, j, v, hj => by
    have hlt : j < (f x).length := (List.getElem?_eq_some_iff.1 hj).1
    simp only [List.getElem_cons_zero] at hj
    rw [List.flatMap_cons, Nat.zero_mul, Nat.zero_add, List.getElem?_append_left hlt]; exact hj
  | x :: l, i + 1, h, j, v, hj => by
    have ih := flat_get hn l i (by simpa using h) j v (by simpa using hj)
    rw [List.flatMap_cons, List.getElem?_append_right (by rw [hn]; rw [Nat.succ_mul]; omega), hn, show (i + 1) * n + j - n = i * n + j from by rw [Nat.succ_mul]; omega]
    exact ih
theorem Sl.own {α : Type} {n : Nat} {f : α → List Value} {S : Mem} {b : Nat} {r : Blk} {l : List α} {cap len : Nat} (hb : S.own b = some r) (hn : ∀ x, (f x).length = n) (hr : l.flatMap f <+: r.cells) (hlen : l.length = len) (hc : len ≤ cap) (hm : len ≤ 9223372036854775807) :
    Sl n f S (.slice (some ⟨b, 0, none⟩) len cap) l := by
  subst hlen
  refine ⟨_, cap, rfl, hc, hm, .inr ⟨b, 0, rfl, fun i hi => ?_⟩⟩
  refine Mem.own_knows hb _ _ fun j v hj => ?_
  have := flat_get hn l i hi j v hj
  rw [Nat.zero_add]
  exact prefix_get hr this
theorem Sl.own1 {α : Type} {g : α → Value} {S : Mem} {b : Nat} {r : Blk} {l : List α} {cap len : Nat} (hb : S.own b = some r) (hr : l.map g <+: r.cells) (hlen : l.length = len) (hc : len ≤ cap) (hm : len ≤ 9223372036854775807) :
    Sl 1 (fun x => [g x]) S (.slice (some ⟨b, 0, none⟩) len cap) l :=
  Sl.own hb (fun _ => rfl) (by
    have : l.flatMap (fun x => [g x]) = l.map g := by clear hr hlen; induction l with | nil => rfl | cons x l ih => simp [List.flatMap_cons, ih]
    rw [this]; exact hr) hlen hc hm
/-- A slice of slices (or of whatever else is known by its value). -/
def SlOf {α : Type} (R : Mem → Value → α → Prop) (S : Mem) (v : Value) (l : List α) : Prop :=
  ∃ hs : List Value, hs.length = l.length ∧ Sl 1 (fun x => [x]) S v hs ∧ ∀ i (h : i < l.length) (h' : i < hs.length), R S hs[i] l[i]
theorem SlOf.less {α : Type} {R : Mem → Value → α → Prop} (hR : ∀ S S' v x, R S v x → S.Less S' → R S' v x) {S S' : Mem} {v : Value} {l : List α} (h : SlOf R S v l) (hl : S.Less S') : SlOf R S' v l := by
  obtain ⟨hs, h1, h2, h3⟩ := h
  exact ⟨hs, h1, h2.less hl, fun i h h' => hR _ _ _ _ (h3 i h h') hl⟩
theorem SlOf.nil {α : Type} (R : Mem → Value → α → Prop) (S : Mem) : SlOf R S (.slice none 0 0) ([] : List α) := ⟨[], rfl, Sl.nil _ _ _, fun i h => by cases h⟩

/-- A slice of slices that grows: its headers are hs, what it holds is xs; M is what is known beside it. -/
structure GrowI {α : Type} (R : Mem → Value → α → Prop) (S M : Mem) (o : Option (Nat × Nat)) (hs : List Value) (xs : List α) : Prop where
  less : S.Less M
  ok : OkO M o hs.length
  len : hs.length = xs.length
  at_ : ∀ i (h : i < xs.length) (h' : i < hs.length), R M hs[i] xs[i]
theorem GrowI.nil {α : Type} (R : Mem → Value → α → Prop) (S : Mem) : GrowI R S S none [] ([] : List α) := ⟨Mem.Less.refl _, okO_nil S, rfl, fun i h => by cases h⟩
theorem GrowI.step {α : Type} {R : Mem → Value → α → Prop} (hR : ∀ S S' v x, R S v x → S.Less S' → R S' v x) {S M M' : Mem} {o : Option (Nat × Nat)} {hs : List Value} {xs : List α} (h : GrowI R S M o hs xs) (hl : M.Less M') {hdr : Value} {x : α} (hr : R M' hdr x) {o' : Option (Nat × Nat)} (ho : OkO M' o' (hs.length + 1)) :
    GrowI R S M' o' (hs ++ [hdr]) (xs ++ [x]) := by
  refine ⟨h.less.trans hl, by rw [List.length_append]; exact ho, by simp [h.len], fun i hi hi' => ?_⟩
  by_cases e : i < xs.length
  · have e' : i < hs.length := by rw [h.len]; exact e
    rw [List.getElem_append_left e, List.getElem_append_left e']
    exact hR _ _ _ _ (h.at_ i e e') hl
  · have e1 : i = xs.length := by simp at hi; omega
    subst e1
    simp only [List.getElem_append_right (Nat.le_refl _), Nat.sub_self, List.getElem_cons_zero]
    rw [List.getElem_append_right (by rw [h.len]; exact Nat.le_refl _)]
    simpa [h.len] using hr
theorem sl_outV {α : Type} {g : α → Value} {M : Mem} {o : Option (Nat × Nat)} {e : TypeId} {l : List α} {n : Nat} (h : OkO M o n) (hn : l.length = n) (hm : n ≤ 9223372036854775807) : Sl 1 (fun x => [g x]) (outM M o e (l.map g)) (outV o n) l := by
  cases o with
  | none => have := h.nil rfl; subst this; obtain rfl : l = [] := List.eq_nil_of_length_eq_zero hn; exact Sl.nil _ _ _
  | some q => exact Sl.own1 (r := ⟨e, l.map g, q.2⟩) (Mem.own_set_same _ _ _) List.prefix_rfl hn (h.own _ _ rfl).2 hm
theorem GrowI.slOf {α : Type} {R : Mem → Value → α → Prop} (hR : ∀ S S' v x, R S v x → S.Less S' → R S' v x) {S M : Mem} {o : Option (Nat × Nat)} {hs : List Value} {xs : List α} {e : TypeId} (h : GrowI R S M o hs xs) (hm : hs.length ≤ 9223372036854775807) :
    SlOf R (outM M o e hs) (outV o hs.length) xs :=
  ⟨hs, h.len, by have := sl_outV (g := fun x : Value => x) (e := e) h.ok rfl hm; rwa [List.map_id'] at this, fun i hi hi' => hR _ _ _ _ (h.at_ i hi hi') (outM_over h.ok)⟩

/-! ### Closers for what is known so -/
theorem kn_ {p : Prop} (h : p := by first | assumption | ((refine Mem.Knows.less (by assumption) ?_); exact less_)) : p := h
section
variable {P : Program} {N : Nat} {E : Env} {S : Mem} {dst : Option Nat} {T ty : TypeId} {pos : String} {aft : Array Edge} {gd : Option (Nat × Bool)} {x : Operand} {a : Addr} {v : Value}
theorem ld_ (hT : plainT P T = true) (hx : ev E x = some (.pointer (some a))) (h : (S.rd a = some v ∨ S.Knows a [v]) := by first | exact .inl rd_ | exact .inr kn_) : ACalm P N ⟨dst, .load T x, ty, pos, aft, gd⟩ E S v :=
  h.elim (fun h => Calm.load hT hx h) (fun h => Calm.loadK hT hx h)
theorem ldA_ {cs : List Value} (hT : aggT P T = true) (hs : sizeT P T = some cs.length) (hx : ev E x = some (.pointer (some a))) (h : (S.rds a cs ∨ S.Knows a cs) := by first | exact .inl rds_ | exact .inr kn_) : ACalm P N ⟨dst, .load T x, ty, pos, aft, gd⟩ E S (.agg cs.toArray) :=
  h.elim (fun h => Calm.loadA hT hs hx h) (fun h => Calm.loadAK hT hs hx h)
end

/-! ### What is built -/
def bldF (f : Nat → Option (Nat × Nat)) : List Value → List (Nat × Value) → Option (List Value)
  | cs, [] => some cs
  | cs, (i, v) :: rest => match f i with
    | some (off, n) => if v.cells.size = n ∧ off + n ≤ cs.length then bldF f (spl cs off v.cells.toList) rest else none
    | none => none
theorem fill_bldF (f : Nat → Option (Nat × Nat)) : ∀ (parts : List (Nat × Value)) (cells : Array Value) (cs : List Value), bldF f cells.toList parts = some cs → Instr.fill f cells parts = some cs.toArray := by
  intro parts
  induction parts with
  | nil => intro cells cs h; simp [bldF] at h; subst h; simp [Instr.fill]
  | cons p rest ih =>
    obtain ⟨i, v⟩ := p
    intro cells cs h
    simp only [bldF] at h
    cases e : f i with
    | none => simp [e] at h
    | some on =>
      obtain ⟨off, n⟩ := on
      simp only [e] at h
      split at h
      · rename_i hc
        obtain ⟨h1, h2⟩ := hc
        have hsz : off + v.cells.size ≤ cells.size := by rw [h1]; simpa using h2
        simp only [Instr.fill, e]
        have hn : (v.cells.size ≠ n || decide (off + v.cells.size > cells.size)) = false := by simp [h1]; omega
        simp only [hn, Bool.false_eq_true, if_false]
        have hf := foldl_spl off v.cells.toList 0 cells (by simp; omega)
        rw [Nat.add_zero] at hf
        have e2 : Array.foldl (fun (bs : Array Value) (p : Value × Nat) => bs.setIfInBounds (off + p.2) p.1) cells v.cells.zipIdx = (spl cells.toList off v.cells.toList).toArray := by
          apply Array.ext'
          rw [← Array.foldl_toList, Array.toList_zipIdx, hf]
        refine (congrArg (fun x => Instr.fill f x rest) e2).trans ?_
        exact ih _ _ (by simpa using h)
      · cases h
def zrep (z : List Value) (n : Nat) : List Value := (List.range n).map fun j => z[j % z.length]!
/-- An array's type: its elements' size, its zero. -/
def arrT (P : Program) (T : TypeId) : Option (Nat × List Value) := match P.underlying T with
  | some (.array _ e) => match P.info? e, (P.info? T).bind (·.zero) with
    | some i, some z => some (i.size, z.cells.toList)
    | _, _ => none
  | _ => none
section
variable {P : Program} {N : Nat} {ops : Array Oper} {E : Env} {S : Mem} {K : Env → Mem → Prop}
variable {dst : Option Nat} {ty : TypeId} {pos : String} {aft : Array Edge} {gd : Option (Nat × Bool)}
theorem parts_eq {c : Act} (g : Good N E c) {parts : List (Nat × Operand)} {vs : List Value} (hx : evs E (parts.map (·.2)) = some vs) : (parts.toArray.map fun (p : Nat × Operand) => (p.1, c.eval p.2)).toList = (parts.map (·.1)).zip vs := by
  rw [← g.evs hx]
  simp only [List.map_toArray, List.map_map]
  exact zip_parts c.eval parts
theorem Calm.buildArr {T : TypeId} {n : Nat} {z : List Value} {parts : List (Nat × Operand)} {vs cs : List Value} (hT : arrT P T = some (n, z)) (hx : evs E (parts.map (·.2)) = some vs) (hb : bldF (fun i => some (i * n, n)) z ((parts.map (·.1)).zip vs) = some cs) :
    ACalm P N ⟨dst, .build T parts.toArray, ty, pos, aft, gd⟩ E S (.agg cs.toArray) := fun c w g hv => by
  unfold arrT at hT
  cases e : P.underlying T with
  | none => simp [e] at hT
  | some d =>
    cases d <;> simp [e] at hT
    rename_i len el
    cases e1 : P.info? el with
    | none => simp [e1] at hT
    | some i =>
      cases e2 : (P.info? T).bind (·.zero) with
      | none => simp [e1, e2] at hT
      | some zv =>
        simp [e1, e2] at hT
        obtain ⟨rfl, rfl⟩ := hT
        have hz : (zeroValue T).run P w = .ok zv w := by
          cases e3 : P.info? T with
          | none => simp [e3] at e2
          | some i => simp [e3] at e2; simp [zeroValue, typeInfo, e3, e2]
        have hfill := fill_bldF (fun k => some (k * i.size, i.size)) _ zv.cells cs hb
        simp only [execOp, Instr.build]
        simp only [Sem.run_bind, hz, Result.andThen_ok, run_underlying e w, run_sizeT (show sizeT P el = some i.size by simp [sizeT, e1]) w]
        rw [parts_eq g hx, hfill]
        rfl
/-- A new slice of elements that are told. -/
theorem ARun.buildN {os : List Oper} {T e : TypeId} {n y len : Nat} {z : List Value} {parts : List (Nat × Operand)} {vs cs : List Value} {d : Nat} (hn : d < N) (hT : slT P T = some (e, n, y, z)) (hp : (0 < len * n && len * n ≤ 16777216) = true) (hx : evs E (parts.map (·.2)) = some vs)
    (hb : bldF (fun i => some (i * n, n)) (zrep z (len * n)) ((parts.map (·.1)).zip vs) = some cs) (hcl : cs.length = len * n)
    (h : ∀ b, Fresh S b → ARun P N ops os K ((d, .slice (some ⟨b, 0, none⟩) len len) :: E) (S.set b ⟨e, cs, len * n⟩)) : ARun P N ops (⟨some d, .buildSlice T len parts.toArray, ty, pos, aft, none⟩ :: os) K E S := fun a w g hv => by
  rw [if_pos (by simp [Region.wanted])]
  obtain ⟨hus, i, v, e1, e2, rfl, rfl, rfl⟩ := slT_spec hT
  simp only [Bool.and_eq_true, decide_eq_true_eq] at hp
  have hz1 : (zeroValue e).run P w = .ok v w := by simp [zeroValue, typeInfo, e1, e2]
  have hne : ¬ (len * i.size = 0) := by omega
  have hle : ¬ (len * i.size > 2 ^ 24) := by omega
  have hzr : ((Array.range (len * i.size)).map (v.cells[· % v.cells.size]!)).toList = zrep v.cells.toList (len * i.size) := by
    simp only [zrep, Array.toList_map, Array.toList_range]
    refine List.map_congr_left fun j _ => ?_
    simp only [Array.length_toList]
    rw [getElem!_def, getElem!_def, Array.getElem?_toList]
  have hfill := fill_bldF (fun k => some (k * i.size, i.size)) ((parts.map (·.1)).zip vs) ((Array.range (len * i.size)).map (v.cells[· % v.cells.size]!)) cs (by rw [hzr]; exact hb)
  have hrun : (execOp a.eval ⟨some d, .buildSlice T len parts.toArray, ty, pos, aft, none⟩).run P w = .ok (.value (.slice (some ⟨w.heap.size, 0, none⟩) len len)) (w.alloc (.cells cs.toArray e)) := by
    simp only [execOp, Instr.buildSlice]
    simp only [Sem.run_bind, run_underlying hus w, Result.andThen_ok, run_sizeT (show sizeT P e = some i.size by simp [sizeT, e1]) w, hle, hne, if_false, hz1, Sem.run_pure]
    rw [parts_eq g hx, hfill]
    simp [newRow]
  unfold Oper.wp
  rw [hrun]
  refine ⟨_, _, h _ hv.freshAt, g.put hn _, ?_⟩
  exact Step.allocP hv e cs.toArray cs _ (by simp) (by simp [hcl])
theorem madeL_prefix (z : List Value) {m n : Nat} (h : m ≤ n) : madeL z m <+: madeL z n := by
  have e : madeL z m = (madeL z n).take m := by
    apply List.ext_getElem
    · simp [madeL_length]; omega
    · intro i h1 h2
      rw [madeL_length] at h1
      simp only [List.getElem_take]
      simp [madeL, madeCells]
  rw [e]; exact List.take_prefix _ _
/-- A new slice with room: its own elements are known. -/
theorem ARun.makeSliceP {os : List Oper} {T e : TypeId} {n y : Nat} {z : List Value} {x1 x2 : Operand} {k1 k2 : IntKind} {l c : Int} {d : Nat} (hn : d < N) (hT : slT P T = some (e, n, y, z)) (hx : ev E x1 = some (.int k1 l)) (hy : ev E x2 = some (.int k2 c))
    (h0 : 0 ≤ l) (hlc : l ≤ c) (hb : (y : Int) * c ≤ 281474976710656) (h63 : c ≤ 9223372036854775807)
    (h : ∀ b, Fresh S b → ARun P N ops os K ((d, .slice (some ⟨b, 0, none⟩) l.toNat c.toNat) :: E) (S.set b ⟨e, madeL z (l.toNat * n), c.toNat * n⟩)) : ARun P N ops (⟨some d, .makeSlice T x1 x2, ty, pos, aft, none⟩ :: os) K E S := fun a w g hv => by
  rw [if_pos (by simp [Region.wanted])]
  obtain ⟨hu, i, v, e1, e2, rfl, rfl, rfl⟩ := slT_spec hT
  unfold Oper.wp
  have : (execOp a.eval ⟨some d, .makeSlice T x1 x2, ty, pos, aft, none⟩).run P w = .ok (.value (.slice (some ⟨w.heap.size, 0, none⟩) l.toNat c.toNat)) (w.alloc (.cells (madeCells v.cells (c.toNat * i.size)) e)) := by
    simp only [execOp, g.ev hx, g.ev hy]
    rw [Sem.run_bind, run_make (P := P) w T e i v hu e1 e2 k1 k2 l c h0 hlc hb h63]
    rfl
  rw [this]
  refine ⟨_, _, h _ hv.freshAt, g.put hn _, ?_⟩
  refine Step.allocP hv e _ _ _ ?_ (by simp [size_madeCells])
  have hm : l.toNat * i.size ≤ c.toNat * i.size := Nat.mul_le_mul_right _ (by omega)
  have := madeL_prefix v.cells.toList hm
  unfold madeL at this ⊢
  simpa using this
/-- A piece, from its beginning on, of an array behind a pointer. -/
theorem Calm.sliceArr {T e : TypeId} {x : Operand} {hi : Option Operand} {b o len n h : Nat} (hT : P.underlying T = some (.array len e)) (he : sizeT P e = some n) (hx : ev E x = some (.pointer (some ⟨b, o, none⟩))) (hh : bnd E hi len len h) :
    ACalm P N ⟨dst, .slice T x none hi none, ty, pos, aft, gd⟩ E S (.slice (some ⟨b, o, none⟩) h len) := fun c w g hv => by
  have e1 : (Instr.sliceBounds false len len none (hi.map c.eval) none).run P w = .ok (0, h, len) w := by
    unfold Instr.sliceBounds
    cases hi with
    | none => have hh' : h = len := hh; subst hh'; simp
    | some i' => obtain ⟨k', j', g1', g2', g3', rfl⟩ := hh; simp [g.ev g1', bound_in _ _ rfl g2' g3' w]
  simp only [execOp, g.ev hx, Instr.sliceAt, Sem.run_bind, run_underlying hT w, Instr.sureAddr, e1, Option.map_none, Result.andThen_ok, run_sizeT he w, Sem.run_pure, Nat.zero_mul, Nat.sub_zero]
  split <;> rfl
/-- A function value. -/
theorem Calm.makeFunc {fn : Fn} {first captured : List Operand} {vs us : List Value} (h1 : evs E first = some vs) (h2 : evs E captured = some us) : ACalm P N ⟨dst, .makeFunc fn first.toArray captured.toArray, ty, pos, aft, gd⟩ E S (.func fn vs.toArray us.toArray) := fun c w g hv => by
  simp [execOp, Instr.makeFunc, g.evs h1, g.evs h2]
/-- A call of a function value. -/
theorem ARun.callV {os : List Oper} {f : FuncId} {x : Operand} {xs : List Operand} {ats : Array TypeId} {vs first cap : List Value} {d : Nat} {R : Value → Mem → Prop} (hn : d < N) (hf : goFn P f = true) (hv : ev E x = some (.func (.func f) first.toArray cap.toArray)) (hx : evs E xs = some vs) (hc : ACall P f (first ++ vs ++ cap).toArray S R)
    (h : ∀ v S', R v S' → ARun P N ops os K ((d, v) :: E) S') : ARun P N ops (⟨some d, .call ⟨.value x, xs.toArray, ats⟩, ty, pos, aft, none⟩ :: os) K E S := fun a w g hw => by
  rw [if_pos (by simp [Region.wanted])]
  unfold Oper.wp
  have he : (execOp a.eval ⟨some d, .call ⟨.value x, xs.toArray, ats⟩, ty, pos, aft, none⟩).run P w = (callFunc f (first ++ vs ++ cap).toArray).run P w := by
    simp only [execOp, resolve, Deferred.ofValue, g.ev hv, Sem.run_bind, Sem.run_pure, Result.andThen_ok, invoke]
    congr 2
    rw [← g.evs hx]; simp
  rw [he, run_callFunc hf]
  simp only [Oper.upon]
  refine (hc w hw).mono fun e w' ⟨v, S', he, hr, s⟩ => ?_
  subst he
  exact ⟨_, _, h v S' hr, g.put hn v, s⟩

theorem Calm.indexStrN {T : TypeId} {x i : Operand} {s : ByteArray} {k : IntKind} {j : Nat} (hT : P.underlying T = some .string) (hx : ev E x = some (.string s)) (hi : ev E i = some (.int k (j : Int))) (h1 : j < s.size) :
    ACalm P N ⟨dst, .index T x i, ty, pos, aft, gd⟩ E S (.int .u8 (nb (at8 s.data.toList j))) := by
  have := Calm.indexStr (S := S) (N := N) (dst := dst) (ty := ty) (pos := pos) (aft := aft) (gd := gd) hT hx hi (by omega) (by omega)
  simpa using this
theorem Calm.as {o : Oper} {v v' : Value} (e : v = v') (h : ACalm P N o E S v) : ACalm P N o E S v' := e ▸ h
theorem Calm.indexStrC {T : TypeId} {x i : Operand} {s : ByteArray} {k : IntKind} {j : Nat} {c : UInt8} (hc : c = at8 s.data.toList j) (hT : P.underlying T = some .string) (hx : ev E x = some (.string s)) (hi : ev E i = some (.int k (j : Int))) (h1 : j < s.size) :
    ACalm P N ⟨dst, .index T x i, ty, pos, aft, gd⟩ E S (.int .u8 (nb c)) := by rw [hc]; exact Calm.indexStrN hT hx hi h1
theorem bin_andE {t : TypeId} {x y : Operand} {k : IntKind} {a b c : Int} (h : bits .and k a b = c) : Bin P .and t x y (.int k a) (.int k b) (.int k c) := h ▸ bin_and a b
theorem bin_orE {t : TypeId} {x y : Operand} {k : IntKind} {a b c : Int} (h : bits .or k a b = c) : Bin P .or t x y (.int k a) (.int k b) (.int k c) := h ▸ bin_or a b
theorem bin_xorE {t : TypeId} {x y : Operand} {k : IntKind} {a b c : Int} (h : bits .xor k a b = c) : Bin P .xor t x y (.int k a) (.int k b) (.int k c) := h ▸ bin_xor a b
theorem rds_prefix {b : Nat} {r : Blk} {cs : List Value} (h : S.own b = some r) (hc : cs <+: r.cells) : S.rds ⟨b, 0, none⟩ cs := fun j v hj => by
  rw [addr_add, rd_own h, Nat.zero_add]; exact prefix_get hc hj
/-- An operation whose guard says yes is met as one without a guard. -/
theorem rUn {os : List Oper} {d : Option Nat} {op : Op} {j : Nat} {t : Bool} (dj : Nat) (h : ARun P N ops (⟨d, op, ty, pos, aft, none⟩ :: os) K E S) (hb : lk E dj = some (.bool t) := by exact rfl) (hj : (ops[j]?).bind (·.dst) = some dj := by exact rfl) (hjn : dj < N := by exact lit_lt rfl) :
    ARun P N ops (⟨d, op, ty, pos, aft, some (j, t)⟩ :: os) K E S := fun a w g hv => by
  cases e : ops[j]? with
  | none => simp [e] at hj
  | some og =>
    simp [e] at hj
    have h1 := h a w g hv
    rw [if_pos (by simp [Region.wanted])] at h1
    rw [if_pos (by simp [Region.wanted, yielded_of g e hj hjn hb])]
    exact h1
/-! ### Texts -/
theorem bytes_list (a : ByteArray) : a.toList = a.data.toList := by rw [ByteArray.toList_eq]
theorem bin_str_add {t : TypeId} {x y : Operand} {a b : ByteArray} (h : a.size + b.size ≤ 9223372036854775807) : Bin P .add t x y (.string a) (.string b) (.string (a ++ b)) := fun w => by
  have : ¬ (((a.size + b.size : Nat) : Int) > IntKind.i64.max) := by
    have e : IntKind.i64.max = 9223372036854775807 := rfl
    rw [e]; omega
  simp only [eqGuard, binOp, Op.stringOp, if_neg this]
  simp
theorem bin_str_lss {t : TypeId} {x y : Operand} (a b : ByteArray) : Bin P .lss t x y (.string a) (.string b) (.bool (Op.bytesLess a.data.toList b.data.toList)) := fun w => by
  simp [eqGuard, binOp, Op.stringOp, bytes_list]
theorem bin_str_geq {t : TypeId} {x y : Operand} (a b : ByteArray) : Bin P .geq t x y (.string a) (.string b) (.bool (!Op.bytesLess a.data.toList b.data.toList)) := fun w => by
  simp [eqGuard, binOp, Op.stringOp, bytes_list]
theorem str_beq (a b : ByteArray) : (a.data.toList == b.data.toList) = decide (a = b) := by
  rw [Bool.eq_iff_iff]; simp [← bytes_list, str_inj]
theorem bin_str_leq {t : TypeId} {x y : Operand} (a b : ByteArray) : Bin P .leq t x y (.string a) (.string b) (.bool (Op.bytesLess a.data.toList b.data.toList || decide (a = b))) := fun w => by
  simp only [eqGuard, binOp, Op.stringOp, bytes_list, str_beq]; simp
theorem bin_str_gtr {t : TypeId} {x y : Operand} (a b : ByteArray) : Bin P .gtr t x y (.string a) (.string b) (.bool (!(Op.bytesLess a.data.toList b.data.toList || decide (a = b)))) := fun w => by
  simp only [eqGuard, binOp, Op.stringOp, bytes_list, str_beq]; simp
theorem size_append (a b : ByteArray) : (a ++ b).size = a.size + b.size := by simp
theorem size_bs (l : List UInt8) : (bs l).size = l.length := bs_size l
theorem bs_append (l m : List UInt8) : bs l ++ bs m = bs (l ++ m) := by
  apply ByteArray.ext; apply Array.ext'; simp [bs]
theorem data_append (a b : ByteArray) : (a ++ b).data.toList = a.data.toList ++ b.data.toList := by rw [ByteArray.data_append, Array.toList_append]
theorem size_data (a : ByteArray) : a.data.toList.length = a.size := Array.length_toList
theorem data_extract (a : ByteArray) (i j : Nat) : (a.extract i j).data.toList = (a.data.toList.take j).drop i := by
  rw [ByteArray.data_extract, Array.toList_extract, List.extract_eq_take_drop, ← List.drop_take]
theorem str_ext {a b : ByteArray} (h : a.data.toList = b.data.toList) : a = b := by cases a; cases b; simpa using h
end
end Mv
end Go.Proofs.Ytddabbfjoejalaa
