/-
  A view of memory, the seventh part: structs that are built, min and max, texts and bools that are held against each other. No program in sight.
-/
import Derived.Test.YtddabbfjoejalaaViewBin
namespace Go.Proofs.Ytddabbfjoejalaa
open Go.RowKit
set_option linter.unusedVariables false
namespace Mv
/-- Less is known, but for some blocks. -/
def LessB (B : List Nat) (S' S : Mem) : Prop := (∀ k r, k ∉ B → S'.own k = some r → S.own k = some r) ∧ S'.ro = S.ro
theorem less_of {S' S : Mem} (h : LessB [] S' S) : S'.Less S := ⟨fun k r hk => h.1 k r (by simp) hk, h.2⟩
theorem LessB.refl (B : List Nat) (S : Mem) : LessB B S S := ⟨fun _ _ _ h => h, rfl⟩
theorem LessB.of {B : List Nat} {S' S : Mem} (h : S'.Less S) : LessB B S' S := ⟨fun k r _ hr => h.1 k r hr, h.2⟩
theorem LessB.set {B : List Nat} {S' M : Mem} {b : Nat} {r : Blk} (hb : M.own b = some r) (h : LessB (b :: B) S' M) : LessB B (S'.set b r) M := ⟨fun k r' hk hr => by
  by_cases e : k = b
  · subst e; rw [Mem.own_set_same] at hr; cases hr; exact hb
  · rw [Mem.own_set_other _ _ e] at hr; exact h.1 k r' (by simp [e, hk]) hr, h.2⟩
theorem LessB.delL {B : List Nat} {S' M : Mem} {b : Nat} (h : LessB (b :: B) S' M) : LessB B (S'.del b) M := ⟨fun k r' hk hr => by
  simp only [Mem.del] at hr
  split at hr
  · cases hr
  · rename_i e; exact h.1 k r' (by simp [e, hk]) hr, h.2⟩
theorem LessB.skip {B : List Nat} {S' M : Mem} {b : Nat} {r : Blk} (hb : b ∈ B ∨ S'.own b = none) (h : LessB B S' M) : LessB B S' (M.set b r) := ⟨fun k r' hk hr => by
  by_cases e : k = b
  · subst e
    rcases hb with hb | hb
    · exact absurd hb hk
    · rw [hb] at hr; cases hr
  · rw [Mem.own_set_other _ _ e]; exact h.1 k r' hk hr, h.2⟩
theorem LessB.skipDel {B : List Nat} {S' M : Mem} {b : Nat} (hb : b ∈ B ∨ S'.own b = none) (h : LessB B S' M) : LessB B S' (M.del b) := ⟨fun k r' hk hr => by
  by_cases e : k = b
  · subst e
    rcases hb with hb | hb
    · exact absurd hb hk
    · rw [hb] at hr; cases hr
  · rw [Mem.own_del_other _ e]; exact h.1 k r' hk hr, h.2⟩
theorem rd_own' {S : Mem} {b j : Nat} {r : Blk} {v : Value} (h : S.own b = some r) (hj : r.cells[j]? = some v) : S.rd ⟨b, j, none⟩ = some v := (rd_own h j).trans hj
theorem bnd_zero {E : Env} {i : Operand} {k : IntKind} (df y : Nat) (h : ev E i = some (.int k 0)) : bnd E (some i) df y 0 := ⟨k, 0, h, by omega, by omega, rfl⟩
theorem wrap_nb_i64 (c : UInt8) : IntKind.i64.wrap (nb c) = nb c := IntWalk.i64_in _ (by have := nb_nonneg c; have := nb_le c; omega)
theorem wrap_nb_u64 (c : UInt8) : IntKind.u64.wrap (nb c) = nb c := IntWalk.u64_in _ (by have := nb_nonneg c; have := nb_le c; omega)
theorem wrap_nb_u32 (c : UInt8) : IntKind.u32.wrap (nb c) = nb c := IntWalk.u32_in _ (by have := nb_nonneg c; have := nb_le c; omega)
theorem wrap_nb_u8 (c : UInt8) : IntKind.u8.wrap (nb c) = nb c := IntWalk.u8_in _ (by have := nb_nonneg c; have := nb_le c; omega)
theorem bnot_dec_true {p : Prop} [Decidable p] (h : ¬ p) : (!decide p) = true := by simp [h]
theorem bnot_dec_false {p : Prop} [Decidable p] (h : p) : (!decide p) = false := by simp [h]
/-- Where the parts of a struct lie, and its zero. -/
def bldT (P : Program) (T : TypeId) : Option (List (Nat × Nat) × List Value) := match P.underlying T with
  | some (.struct fs) => match fs.toList.mapM fun (f : Field) => (P.info? f.type).map fun i => (f.offset, i.size) with
    | some ps => match (P.info? T).bind (·.zero) with
      | some z => some (ps, z.cells.toList)
      | none => none
    | none => none
  | _ => none
def bldL (ps : List (Nat × Nat)) : List Value → List (Nat × Value) → Option (List Value)
  | cs, [] => some cs
  | cs, (i, v) :: rest => match ps[i]? with
    | some (off, n) => if v.cells.size = n ∧ off + n ≤ cs.length then bldL ps (spl cs off v.cells.toList) rest else none
    | none => none
theorem foldl_spl (k : Nat) : ∀ (cs : List Value) (m : Nat) (acc : Array Value), k + m + cs.length ≤ acc.size → ((cs.zipIdx m).foldl (fun (bs : Array Value) (p : Value × Nat) => bs.setIfInBounds (k + p.2) p.1) acc).toList = spl acc.toList (k + m) cs := by
  intro cs
  induction cs with
  | nil => intro m acc hl; simp [spl]
  | cons c cs ih =>
    intro m acc hl
    simp only [List.length_cons] at hl
    rw [List.zipIdx_cons, List.foldl_cons, ih (m + 1) _ (by simp; omega)]
    simp only [spl, Array.toList_setIfInBounds, List.length_cons]
    rw [List.set_eq_take_append_cons_drop, if_pos (by simp; omega)]
    have e1 : (acc.toList.take (k + m)).length = k + m := by simp; omega
    have e2 : List.take (k + (m + 1)) (acc.toList.take (k + m) ++ c :: acc.toList.drop (k + m + 1)) = acc.toList.take (k + m) ++ [c] := by
      rw [List.take_append, e1, show k + (m + 1) - (k + m) = 1 from by omega, List.take_of_length_le (by omega)]; simp
    have e3 : List.drop (k + (m + 1) + cs.length) (acc.toList.take (k + m) ++ c :: acc.toList.drop (k + m + 1)) = acc.toList.drop (k + m + (cs.length + 1)) := by
      rw [List.drop_append, e1, List.drop_of_length_le (by omega), List.nil_append, show k + (m + 1) + cs.length - (k + m) = cs.length + 1 from by omega, List.drop_succ_cons, List.drop_drop]
      congr 1; omega
    rw [e2, e3]; simp
theorem fill_bldL (ps : List (Nat × Nat)) : ∀ (parts : List (Nat × Value)) (cells : Array Value) (cs : List Value), bldL ps cells.toList parts = some cs → Instr.fill (fun i => ps[i]?) cells parts = some cs.toArray := by
  intro parts
  induction parts with
  | nil => intro cells cs h; simp [bldL] at h; subst h; simp [Instr.fill]
  | cons p rest ih =>
    obtain ⟨i, v⟩ := p
    intro cells cs h
    simp only [bldL] at h
    cases e : ps[i]? with
    | none => simp [e] at h
    | some on =>
      obtain ⟨off, n⟩ := on
      simp only [e] at h
      split at h
      · rename_i hc
        obtain ⟨h1, h2⟩ := hc
        have hsz : off + v.cells.size ≤ cells.size := by rw [h1]; simpa using h2
        simp only [Instr.fill, e]
        have hn : (v.cells.size ≠ n || decide (off + v.cells.size > cells.size)) = false := by simp [h1]; omega
        simp only [hn, Bool.false_eq_true, if_false]
        have hf := foldl_spl off v.cells.toList 0 cells (by simp; omega)
        rw [Nat.add_zero] at hf
        have e2 : Array.foldl (fun (bs : Array Value) (p : Value × Nat) => bs.setIfInBounds (off + p.2) p.1) cells v.cells.zipIdx = (spl cells.toList off v.cells.toList).toArray := by
          apply Array.ext'
          rw [← Array.foldl_toList, Array.toList_zipIdx, hf]
        refine (congrArg (fun x => Instr.fill (fun i => ps[i]?) x rest) e2).trans ?_
        exact ih _ _ (by simpa using h)
      · cases h
section
variable {P : Program} {N : Nat} {ops : Array Oper} {E : Env} {S : Mem}
variable {dst : Option Nat} {ty : TypeId} {pos : String} {aft : Array Edge} {gd : Option (Nat × Bool)}
theorem run_mapM_places {fs : List Field} {ps : List (Nat × Nat)} (h : fs.mapM (fun (f : Field) => (P.info? f.type).map fun i => (f.offset, i.size)) = some ps) (w : World) :
    (fs.mapM fun (f : Field) => (do pure (f.offset, ← sizeOf f.type) : Sem (Nat × Nat))).run P w = .ok ps w := by
  induction fs generalizing ps with
  | nil => simp at h; subst h; simp
  | cons f fs ih =>
    rw [List.mapM_cons] at h
    cases e1 : P.info? f.type with
    | none => simp [e1] at h
    | some i =>
      cases e2 : (fs.mapM fun (f : Field) => (P.info? f.type).map fun i => (f.offset, i.size)) with
      | none => simp [e1, e2] at h
      | some ps' =>
        simp [e1, e2] at h
        subst h
        rw [List.mapM_cons, Sem.run_bind, Sem.run_bind]
        simp [sizeOf, typeInfo, e1]
        have := ih e2
        simp [sizeOf, typeInfo] at this
        simp [this]
theorem zip_parts (f : Operand → Value) (l : List (Nat × Operand)) : l.map (fun p => (p.1, f p.2)) = (l.map (·.1)).zip (l.map (f ∘ fun x => x.2)) := by
  induction l with
  | nil => rfl
  | cons p l ih => simp only [List.map_cons, List.zip_cons_cons, ih]; rfl
theorem Calm.build {T : TypeId} {ps : List (Nat × Nat)} {z : List Value} {parts : List (Nat × Operand)} {vs cs : List Value} (hT : bldT P T = some (ps, z)) (hx : evs E (parts.map (·.2)) = some vs) (hb : bldL ps z ((parts.map (·.1)).zip vs) = some cs) :
    ACalm P N ⟨dst, .build T parts.toArray, ty, pos, aft, gd⟩ E S (.agg cs.toArray) := fun c w g hv => by
  unfold bldT at hT
  cases e : P.underlying T with
  | none => simp [e] at hT
  | some d =>
    cases d <;> simp [e] at hT
    rename_i fs
    cases e1 : (fs.toList.mapM fun (f : Field) => (P.info? f.type).map fun i => (f.offset, i.size)) with
    | none => simp [e1] at hT
    | some ps' =>
      cases e2 : (P.info? T).bind (·.zero) with
      | none => simp [e1, e2] at hT
      | some zv =>
        simp [e1, e2] at hT
        obtain ⟨rfl, rfl⟩ := hT
        have hz : (zeroValue T).run P w = .ok zv w := by
          cases e3 : P.info? T with
          | none => simp [e3] at e2
          | some i => simp [e3] at e2; simp [zeroValue, typeInfo, e3, e2]
        have hpl : (fs.mapM fun (f : Field) => (do pure (f.offset, ← sizeOf f.type) : Sem (Nat × Nat))).run P w = .ok ps'.toArray w := by
          have := run_mapM_places (P := P) e1 w
          rw [← Array.toArray_toList (xs := fs), List.mapM_toArray, Sem.run_map, this]; rfl
        have hev := g.evs hx
        have hparts : (parts.toArray.map fun (p : Nat × Operand) => (p.1, c.eval p.2)).toList = (parts.map (·.1)).zip vs := by
          rw [← hev]
          simp only [List.map_toArray, List.map_map]
          exact zip_parts c.eval parts
        have hfill := fill_bldL ps' _ zv.cells cs hb
        simp only [execOp, Instr.build]
        simp only [Sem.run_bind, hz, Result.andThen_ok, run_underlying e w]
        rw [hpl]
        simp only [Result.andThen_ok]
        have hfun : (fun (i : Nat) => ps'.toArray[i]?) = fun (i : Nat) => ps'[i]? := by funext i; simp
        rw [hparts, hfun, hfill]
        rfl
theorem Calm.minL {x y : Operand} {k k' : IntKind} {a b : Int} {ats : Array TypeId} (hx : ev E x = some (.int k a)) (hy : ev E y = some (.int k' b)) (h : a ≤ b) : ACalm P N ⟨dst, .call ⟨.builtin .min, #[x, y], ats⟩, ty, pos, aft, gd⟩ E S (.int k a) := fun c w g hv => by
  have h1 := run_min_int2 (P := P) (w := w) ats ty k k' a b
  simp only [execOp, resolve, invoke, builtin, List.map_toArray, List.map_cons, List.map_nil, g.ev hx, g.ev hy, Sem.run_bind, Sem.run_pure, Result.andThen_ok, h1]
  congr 3
  split <;> omega
theorem Calm.minR {x y : Operand} {k k' : IntKind} {a b : Int} {ats : Array TypeId} (hx : ev E x = some (.int k a)) (hy : ev E y = some (.int k' b)) (h : b ≤ a) : ACalm P N ⟨dst, .call ⟨.builtin .min, #[x, y], ats⟩, ty, pos, aft, gd⟩ E S (.int k b) := fun c w g hv => by
  have h1 := run_min_int2 (P := P) (w := w) ats ty k k' a b
  simp only [execOp, resolve, invoke, builtin, List.map_toArray, List.map_cons, List.map_nil, g.ev hx, g.ev hy, Sem.run_bind, Sem.run_pure, Result.andThen_ok, h1]
  congr 3
  split <;> omega
theorem Calm.maxL {x y : Operand} {k k' : IntKind} {a b : Int} {ats : Array TypeId} (hx : ev E x = some (.int k a)) (hy : ev E y = some (.int k' b)) (h : b ≤ a) : ACalm P N ⟨dst, .call ⟨.builtin .max, #[x, y], ats⟩, ty, pos, aft, gd⟩ E S (.int k a) := fun c w g hv => by
  have h1 := run_max_int2 (P := P) (w := w) ats ty k k' a b
  simp only [execOp, resolve, invoke, builtin, List.map_toArray, List.map_cons, List.map_nil, g.ev hx, g.ev hy, Sem.run_bind, Sem.run_pure, Result.andThen_ok, h1]
  congr 3
  split <;> omega
theorem Calm.maxR {x y : Operand} {k k' : IntKind} {a b : Int} {ats : Array TypeId} (hx : ev E x = some (.int k a)) (hy : ev E y = some (.int k' b)) (h : a ≤ b) : ACalm P N ⟨dst, .call ⟨.builtin .max, #[x, y], ats⟩, ty, pos, aft, gd⟩ E S (.int k b) := fun c w g hv => by
  have h1 := run_max_int2 (P := P) (w := w) ats ty k k' a b
  simp only [execOp, resolve, invoke, builtin, List.map_toArray, List.map_cons, List.map_nil, g.ev hx, g.ev hy, Sem.run_bind, Sem.run_pure, Result.andThen_ok, h1]
  congr 3
  split <;> omega
theorem Calm.minE {x y : Operand} {k k' : IntKind} {a b c : Int} {ats : Array TypeId} (h : c = min a b) (hx : ev E x = some (.int k a)) (hy : ev E y = some (.int k' b)) : ACalm P N ⟨dst, .call ⟨.builtin .min, #[x, y], ats⟩, ty, pos, aft, gd⟩ E S (.int k c) := by
  by_cases hab : a ≤ b
  · rw [show c = a from by omega]; exact Calm.minL hx hy hab
  · rw [show c = b from by omega]; exact Calm.minR hx hy (by omega)
/-- A store of one cell. -/
theorem ARun.store1 {os : List Oper} {K : Env → Mem → Prop} {T : TypeId} {x y : Operand} {b o : Nat} {r : Blk} {v : Value} (hx : ev E x = some (.pointer (some ⟨b, o, none⟩))) (hy : ev E y = some v) (hs : sizeT P T = some 1) (hv1 : v.cells = #[v]) (hb : S.own b = some r) (hl : o < r.cells.length) (h1 : v.oneCell' = true)
    (h : ARun P N ops os K E (S.set b ⟨r.elem, r.cells.set o v, r.room⟩)) : ARun P N ops (⟨none, .store T x y, ty, pos, aft, none⟩ :: os) K E S := by
  refine ARun.store hx hy (by rw [hv1]; exact hs) hb (by rw [hv1]; exact hl) (by rw [hv1]; simp [h1]) ?_
  rw [hv1]
  simpa [spl_one _ _ _ hl] using h
theorem set_del_same' {M M' : Mem} {b : Nat} {r : Blk} (h : M.del b = M') : (M.set b r).del b = M' := by
  rw [← h]; unfold Mem.set Mem.del; congr 1; funext k; by_cases e : k = b <;> simp [e]
theorem set_del_ne' {M M' : Mem} {b k : Nat} {r : Blk} (hne : k ≠ b) (h : M.del b = M') : (M.set k r).del b = M'.set k r := by
  rw [← h]; unfold Mem.set Mem.del; congr 1; funext j; by_cases e : j = b
  · subst e; simp [Ne.symm hne]
  · simp [e]
theorem del_base {S : Mem} {b : Nat} (h : Fresh S b) : S.del b = S := del_fresh S b h.1
/-- append, where an element is one cell. -/
theorem ARun.append1 {os : List Oper} {K : Env → Mem → Prop} {T e : TypeId} {y : Nat} {z : Value} {x1 x2 : Operand} {b k c : Nat} {xs news : List Value} {a2 : Addr} {m c2 d : Nat} (hn : d < N) (hT : slT P T = some (e, 1, y, [z]))
    (hx : ev E x1 = some (.slice (some ⟨b, 0, none⟩) k c)) (hb : S.own b = some ⟨e, xs, c⟩) (hxs : xs.length = k)
    (hy : ev E x2 = some (.slice (some a2) m c2)) (hnews : S.rds a2 news) (hnl : news.length = m) (h1 : ∀ v ∈ news, v.oneCell' = true) (hfit : (k + m) * y ≤ 140737488355328) (h63 : k + m ≤ 9223372036854775807)
    {S1 : Mem} (hdel : S.del b = S1)
    (h : ∀ b' c', Fresh S1 b' → k + m ≤ c' → ARun P N ops os K ((d, .slice (some ⟨b', 0, none⟩) (k + m) c') :: E) (S1.set b' ⟨e, xs ++ news, c'⟩)) :
    ARun P N ops (⟨some d, .call ⟨.builtin .append, #[x1, x2], #[T, T]⟩, ty, pos, aft, none⟩ :: os) K E S :=
  ARun.appendRun hn hT rfl hx (by rw [Nat.mul_one]; exact hb) (by omega) hy hnews (by omega) h1 hfit h63 (fun b' c' h2 h3 => by rw [hdel] at h2 ⊢; have := h b' c' h2 h3; rwa [Nat.mul_one])
theorem ARun.appendNil1 {os : List Oper} {K : Env → Mem → Prop} {T e : TypeId} {y : Nat} {z : Value} {x1 x2 : Operand} {news : List Value} {a2 : Addr} {m c2 d : Nat} (hn : d < N) (hT : slT P T = some (e, 1, y, [z]))
    (hx : ev E x1 = some (.slice none 0 0)) (hy : ev E x2 = some (.slice (some a2) m c2)) (hnews : S.rds a2 news) (hnl : news.length = m) (hm : 0 < m) (hfit : m * y ≤ 140737488355328) (h63 : m ≤ 9223372036854775807)
    (h : ∀ b' c', Fresh S b' → m ≤ c' → ARun P N ops os K ((d, .slice (some ⟨b', 0, none⟩) m c') :: E) (S.set b' ⟨e, news, c'⟩)) :
    ARun P N ops (⟨some d, .call ⟨.builtin .append, #[x1, x2], #[T, T]⟩, ty, pos, aft, none⟩ :: os) K E S :=
  ARun.appendNil hn hT rfl hx hy hnews (by omega) hm hfit h63 (fun b' c' h2 h3 => by have := h b' c' h2 h3; rwa [Nat.mul_one])
/-- A store that writes a block over whole. -/
theorem ARun.storeAll {os : List Oper} {K : Env → Mem → Prop} {T : TypeId} {x y : Operand} {b : Nat} {r : Blk} {cs : List Value} (hx : ev E x = some (.pointer (some ⟨b, 0, none⟩))) (hy : ev E y = some (.agg cs.toArray)) (hs : sizeT P T = some cs.length) (hb : S.own b = some r) (hl : r.cells.length = cs.length) (h1 : cs.all (·.oneCell') = true)
    (h : ARun P N ops os K E (S.set b ⟨r.elem, cs, r.room⟩)) : ARun P N ops (⟨none, .store T x y, ty, pos, aft, none⟩ :: os) K E S := by
  refine ARun.store hx hy (by simpa [Value.cells] using hs) hb (by simp [Value.cells, hl]) (by simpa [Value.cells] using h1) ?_
  have e : spl r.cells 0 (Value.agg cs.toArray).cells.toList = cs := by
    simp only [Value.cells, spl, List.take_zero, List.nil_append]
    rw [List.drop_of_length_le (by simp [hl]), List.append_nil]
  rw [e]; exact h
theorem ARun.box1 {os : List Oper} {K : Env → Mem → Prop} {T : TypeId} {x : Operand} {v : Value} {d : Nat} (hn : d < N) (hx : ev E x = some v) (hv : v.cells = #[v])
    (h : ∀ b, Fresh S b → ARun P N ops os K ((d, .pointer (some ⟨b, 0, none⟩)) :: E) (S.set b ⟨T, [v], 1⟩)) : ARun P N ops (⟨some d, .box T x, ty, pos, aft, none⟩ :: os) K E S :=
  ARun.box hn hx fun b hb => by rw [hv]; exact h b hb
theorem ARun.build1s {os : List Oper} {K : Env → Mem → Prop} {T e : TypeId} {y : Nat} {z u : Value} {x : Operand} {d : Nat} (hn : d < N) (hT : slT P T = some (e, 1, y, [z])) (hx : ev E x = some u) (hu : u.cells = #[u])
    (h : ∀ b, Fresh S b → ARun P N ops os K ((d, .slice (some ⟨b, 0, none⟩) 1 1) :: E) (S.set b ⟨e, [u], 1⟩)) : ARun P N ops (⟨some d, .buildSlice T 1 #[(0, x)], ty, pos, aft, none⟩ :: os) K E S :=
  ARun.build1 hn hT rfl (by decide) (by decide) hx (by rw [hu]; rfl) fun b hb => by rw [hu]; exact h b hb
theorem ARun.boxA {os : List Oper} {K : Env → Mem → Prop} {T : TypeId} {x : Operand} {cs : List Value} {d : Nat} (hn : d < N) (hx : ev E x = some (.agg cs.toArray))
    (h : ∀ b, Fresh S b → ARun P N ops os K ((d, .pointer (some ⟨b, 0, none⟩)) :: E) (S.set b ⟨T, cs, cs.length⟩)) : ARun P N ops (⟨some d, .box T x, ty, pos, aft, none⟩ :: os) K E S :=
  ARun.box hn hx fun b hb => by
    have := h b hb
    simpa [Value.cells] using this
/-- append to a slice that has no room: what was there stays as it is. -/
theorem ARun.appendCopy {os : List Oper} {K : Env → Mem → Prop} {T e : TypeId} {n y : Nat} {z : List Value} {x1 x2 : Operand} {k : Nat} {xs news : List Value} {a a2 : Addr} {m c2 d : Nat} (hn : d < N) (hT : slT P T = some (e, n, y, z)) (hz : z.length = n)
    (hx : ev E x1 = some (.slice (some a) k k)) (hxr : S.rds a xs) (hxs : xs.length = k * n)
    (hy : ev E x2 = some (.slice (some a2) m c2)) (hnews : S.rds a2 news) (hnl : news.length = m * n) (hm : 0 < m) (hfit : (k + m) * y ≤ 140737488355328) (h63 : k + m ≤ 9223372036854775807)
    (h : ∀ b' c', Fresh S b' → k + m ≤ c' → ARun P N ops os K ((d, .slice (some ⟨b', 0, none⟩) (k + m) c') :: E) (S.set b' ⟨e, xs ++ news, c' * n⟩)) :
    ARun P N ops (⟨some d, .call ⟨.builtin .append, #[x1, x2], #[T, T]⟩, ty, pos, aft, none⟩ :: os) K E S := fun ac w g hv => by
  rw [if_pos (by simp [Region.wanted])]
  obtain ⟨hu, i, v, e1, e2, rfl, rfl, rfl⟩ := slT_spec hT
  have hz' : v.cells.size = i.size := by simpa using hz
  have hex : (execOp ac.eval ⟨some d, .call ⟨.builtin .append, #[x1, x2], #[T, T]⟩, ty, pos, aft, none⟩).run P w = ((Builtin.append_ #[T, T] ty #[.slice (some a) k k, .slice (some a2) m c2]).run P w).andThen fun v w' => .ok (.value v) w' := by
    simp [execOp, resolve, invoke, builtin, g.ev hx, g.ev hy]
  unfold Oper.wp
  have hfit' : Builtin.nextslicecap (k + m) k * i.bytes ≤ 281474976710656 := growslice_fits (by omega) hfit
  rw [hex, run_append_grow (P := P) w T ty e i v hu e1 e2 a k k xs hxs (fun j u hj => hv.rd (hxr j u hj)) a2 m c2 news hnl (fun j u hj => hv.rd (hnews j u hj)) (by omega) (by omega) hfit']
  have hge := grownCap_ge w (k + m) k e
  have hvd : View S w.drew := hv.drawn _
  have hst := Step.allocP hvd e (xs.toArray ++ news.toArray ++ Builtin.zeroCells v.cells (grownCap w (k + m) k e - (k + m))) (xs ++ news) (grownCap w (k + m) k e * i.size) (by simp [List.append_assoc]) (by
    simp only [Array.size_append, List.size_toArray, size_zeroCells, hz', hxs, hnl, ← Nat.add_mul]
    exact Nat.mul_le_mul_right _ (by omega))
  exact ⟨_, _, h w.heap.size (grownCap w (k + m) k e) hv.freshAt hge, g.put hn _, (Step.drawn hv _).trans hst⟩
theorem ARun.appendCopy1 {os : List Oper} {K : Env → Mem → Prop} {T e : TypeId} {y : Nat} {z : Value} {x1 x2 : Operand} {k : Nat} {xs news : List Value} {a a2 : Addr} {m c2 d : Nat} (hn : d < N) (hT : slT P T = some (e, 1, y, [z]))
    (hx : ev E x1 = some (.slice (some a) k k)) (hxr : S.rds a xs) (hxs : xs.length = k)
    (hy : ev E x2 = some (.slice (some a2) m c2)) (hnews : S.rds a2 news) (hnl : news.length = m) (hm : 0 < m) (hfit : (k + m) * y ≤ 140737488355328) (h63 : k + m ≤ 9223372036854775807)
    (h : ∀ b' c', Fresh S b' → k + m ≤ c' → ARun P N ops os K ((d, .slice (some ⟨b', 0, none⟩) (k + m) c') :: E) (S.set b' ⟨e, xs ++ news, c'⟩)) :
    ARun P N ops (⟨some d, .call ⟨.builtin .append, #[x1, x2], #[T, T]⟩, ty, pos, aft, none⟩ :: os) K E S :=
  ARun.appendCopy hn hT rfl hx hxr (by omega) hy hnews (by omega) hm hfit h63 (fun b' c' h2 h3 => by have := h b' c' h2 h3; rwa [Nat.mul_one])
/-- A call that leaves what it knows as it is leaves all else as it is. -/
theorem ACall.pure_more {f : FuncId} {args : Array Value} {S0 : Mem} {R : Value → Prop} (hl : S0.Less S) (h : ACall P f args S0 fun v S' => R v ∧ S' = S0) : ACall P f args S fun v S' => R v ∧ S' = S := fun w hv =>
  (h w (hv.less hl)).mono fun e w' ⟨v, S', he, ⟨hR, hS⟩, s⟩ => by
    subst hS
    refine ⟨v, S, he, ⟨hR, rfl⟩, ⟨⟨fun b r hb => ?_, fun a u ha => ?_⟩, s.os, s.tape, s.output, s.size, fun k hk hn => ?_, fun k hk => .inl hk, rfl⟩⟩
    · cases e0 : S'.own b with
      | none => rw [s.block b (hv.lt hb) e0]; exact hv.own b r hb
      | some r0 =>
        have h1 := hl.1 _ _ e0
        obtain rfl : r0 = r := Option.some.inj (h1.symm.trans hb)
        exact s.view.own b r0 e0
    · obtain ⟨h1, h2⟩ := hv.ro a u ha
      refine ⟨?_, h2⟩
      have hlt := World.block_lt_of_cell? _ _ h1
      refine (World.cell?_of_block (w := w) (s.block _ hlt ?_)).trans h1
      cases e0 : S'.own a.block with
      | none => rfl
      | some r0 => have := hl.1 _ _ e0; rw [h2] at this; cases this
    · refine s.block k hk ?_
      cases e0 : S'.own k with
      | none => rfl
      | some r0 => have := hl.1 _ _ e0; rw [hn] at this; cases this
/-- Wherever this memory is known, so many cells from an address on hold this. -/
def Mem.Knows (S : Mem) (a : Addr) (cs : List Value) : Prop := ∀ w, View S w → ∀ j v, cs[j]? = some v → w.cell? (a.add j) = some v
theorem Mem.rds.knows {S : Mem} {a : Addr} {cs : List Value} (h : S.rds a cs) : S.Knows a cs := fun w hv j v hj => hv.rd (h j v hj)
theorem Mem.Knows.less {S S' : Mem} {a : Addr} {cs : List Value} (h : S'.Knows a cs) (hl : S'.Less S) : S.Knows a cs := fun w hv => h w (hv.less hl)
theorem Calm.loadK {T : TypeId} {x : Operand} {a : Addr} {v : Value} (hT : plainT P T = true) (hx : ev E x = some (.pointer (some a))) (hr : S.Knows a [v]) : ACalm P N ⟨dst, .load T x, ty, pos, aft, gd⟩ E S v := fun c w g hv => by
  have h0 := hr w hv 0 v rfl
  have e : a.add 0 = a := by simp [Addr.add]
  rw [e] at h0
  simp [execOp, g.ev hx, Instr.loadAt, Instr.sureAddr, loadVar, run_isAgg_f hT w, h0]
theorem Calm.loadAK {T : TypeId} {x : Operand} {a : Addr} {cs : List Value} (hT : aggT P T = true) (hs : sizeT P T = some cs.length) (hx : ev E x = some (.pointer (some a))) (hr : S.Knows a cs) : ACalm P N ⟨dst, .load T x, ty, pos, aft, gd⟩ E S (.agg cs.toArray) := fun c w g hv => by
  have hl := run_loadCells_list (P := P) w a cs (hr w hv)
  simp [execOp, g.ev hx, Instr.loadAt, Instr.sureAddr, loadVar, run_isAgg_t hT w, run_sizeT hs w, hl]
/-- A guarded operation whose guard was passed over itself. -/
theorem ARun.skipU {K : Env → Mem → Prop} {o : Oper} {os : List Oper} {d : Nat} (j : Nat) (t : Bool) (dj : Nat) (hg : o.guard = some (j, t)) (hj : (ops[j]?).bind (·.dst) = some dj) (hjn : dj < N) (hb : lk E dj = some undef) (hd : o.dst = some d) (hn : d < N) (h : ARun P N ops os K ((d, undef) :: E) S) : ARun P N ops (o :: os) K E S := fun a w g hv => by
  cases e : ops[j]? with
  | none => simp [e] at hj
  | some og =>
    simp [e] at hj
    have h1 := g.at_ dj _ hb
    have h2 : a.tmps[dj]? = some undef := by
      rw [Array.getD_eq_getD_getElem?] at h1
      have : dj < a.tmps.size := by rw [g.size]; exact hjn
      rw [Array.getElem?_eq_getElem this] at h1 ⊢
      simpa using h1
    have hy : yielded ops a.tmps j = none := by simp [yielded, e, hj, h2, undef]
    rw [if_neg (by simp [Region.wanted, hg, hy])]
    exact ⟨_, _, h, by rw [hd]; exact g.put hn _, Step.refl hv⟩
theorem draw_skipU {l : List Oper} {W : List Nat} {S0 : Mem} {K : Env → Mem → Prop} {i : Nat} {is : List (Nat × Bool)} {o : Oper} {d : Nat} (j : Nat) (t : Bool) (dj : Nat) (ho : l[i]? = some o) (hg : o.guard = some (j, t)) (hj : (l.toArray[j]?).bind (·.dst) = some dj) (hjn : dj < N) (hb : lk E dj = some undef) (hd : o.dst = some d) (hn : d < N) (hl : S0.Less S)
    (h : DrawRun P N l W S0 is K ((d, undef) :: E) S) : DrawRun P N l W S0 ((i, true) :: is) K E S := by
  cases e : l.toArray[j]? with
  | none => rw [e] at hj; simp at hj
  | some og =>
    rw [e] at hj
    have hj' : og.dst = some dj := by simpa using hj
    refine ⟨o, d, undef, ho, hd, hn, .inr hl, fun a w g hv => .inr ⟨?_, rfl⟩, h⟩
    have h1 := g.at_ dj _ hb
    have h2 : a.tmps[dj]? = some undef := by
      rw [Array.getD_eq_getD_getElem?] at h1
      have : dj < a.tmps.size := by rw [g.size]; exact hjn
      rw [Array.getElem?_eq_getElem this] at h1 ⊢
      simpa using h1
    have hy : yielded l.toArray a.tmps j = none := by simp only [yielded, e]; simp [hj', h2, undef]
    simp [Region.wanted, hg, hy]
theorem str_inj (a b : ByteArray) : a.toList = b.toList ↔ a = b := ⟨fun h => by rw [ByteArray.toList_eq, ByteArray.toList_eq] at h; cases a; cases b; simpa using h, fun h => by rw [h]⟩
theorem bin_bool_eql {t : TypeId} {x y : Operand} (a b : Bool) (ht : P.underlying t = some .bool) : Bin P .eql t x y (.bool a) (.bool b) (.bool (a == b)) := fun w => by
  simp only [eqGuard, Sem.run_bind]; simp [run_eql_bool w t a b ht]
theorem bin_bool_neq {t : TypeId} {x y : Operand} (a b : Bool) (ht : P.underlying t = some .bool) : Bin P .neq t x y (.bool a) (.bool b) (.bool (!(a == b))) := fun w => by
  simp only [eqGuard, Sem.run_bind]; simp [run_neq_bool w t a b ht]
theorem bin_str_eql {t : TypeId} {x y : Operand} (a b : ByteArray) : Bin P .eql t x y (.string a) (.string b) (.bool (decide (a = b))) := fun w => by
  simp [eqGuard, binOp, Op.stringOp]
  rw [Bool.eq_iff_iff]; simp [str_inj]
theorem bin_str_neq {t : TypeId} {x y : Operand} (a b : ByteArray) : Bin P .neq t x y (.string a) (.string b) (.bool (!decide (a = b))) := fun w => by
  simp [eqGuard, binOp, Op.stringOp]
  rw [Bool.eq_iff_iff]; simp [str_inj]
end
end Mv
end Go.Proofs.Ytddabbfjoejalaa
