/-
  A view of memory, the twelfth part: slices that are copied, compared with nil, made of nothing. No program in sight.
-/
import Derived.Test.YtddabbfjoejalaaViewLaw
import Derived.Test.YtddabbfjoejalaaViewOwn
import Derived.Lib.LazyBuf
namespace Go.Proofs.Ytddabbfjoejalaa
open Go.RowKit
set_option linter.unusedVariables false
namespace Mv
abbrev icells (l : List Int) : List Value := l.map fun x => .int .i64 x
theorem icells_set (l : List Int) (j : Nat) (x : Int) : (l.map fun x => Value.int .i64 x).set j (.int .i64 x) = (l.set j x).map fun x => Value.int .i64 x := by rw [List.map_set]
def i64s (x : Int) : List Value := [.int .i64 x]
theorem kn_cell {S : Mem} {b : Nat} {r : Blk} {v : Value} (h : S.own b = some r) (j : Nat) (hj : r.cells[j]? = some v) : S.Knows ⟨b, 0 + j * 1, none⟩ [v] :=
  Mem.own_knows h _ _ fun i u hi => by
    cases i with
    | zero => simp at hi; subst hi; simpa using hj
    | succ i => simp at hi
theorem kn_int {S : Mem} {b : Nat} {e : TypeId} {room : Nat} {l : List Int} (h : S.own b = some ⟨e, l.map (fun x => Value.int .i64 x), room⟩) (j : Nat) {x : Int} (hj : l[j]? = some x) : S.Knows ⟨b, 0 + j * 1, none⟩ [.int .i64 x] :=
  kn_cell h j (by simp [hj])
theorem Sl.at1 {α : Type} {n : Nat} {f : α → List Value} {S : Mem} {b off : Nat} {len cap : Nat} {l : List α} (h : Sl n f S (.slice (some ⟨b, off, none⟩) len cap) l) (i : Nat) (hi : i < l.length) : S.Knows ⟨b, off + i * n, none⟩ (f l[i]) := by
  obtain ⟨a, c, e1, _, _, e4⟩ := h
  rcases e4 with e4 | ⟨b', off', e5, e6⟩
  · subst e4; cases hi
  · subst e5
    simp only [Value.slice.injEq, Option.some.injEq, Addr.mk.injEq] at e1
    obtain ⟨⟨rfl, rfl, _⟩, _⟩ := e1
    exact e6 i hi
theorem Sl.all {α : Type} {g : α → Value} {S : Mem} {b off : Nat} {len cap : Nat} {l : List α} (h : Sl 1 (fun x => [g x]) S (.slice (some ⟨b, off, none⟩) len cap) l) : S.Knows ⟨b, off, none⟩ (l.map g) := fun w hv j v hj => by
  have hjl : j < l.length := by have := (List.getElem?_eq_some_iff.1 hj).1; simpa using this
  have h1 := h.at1 j hjl w hv 0 (g l[j]) rfl
  rw [addr_add] at h1 ⊢
  rw [List.getElem?_map, List.getElem?_eq_getElem hjl] at hj
  simp only [Option.map_some, Option.some.injEq] at hj
  rw [← hj]; simpa using h1
section
variable {P : Program} {N : Nat} {ops : Array Oper} {E : Env} {S : Mem} {K : Env → Mem → Prop}
variable {ty : TypeId} {pos : String} {aft : Array Edge}
theorem bin_nil_eql {t e : TypeId} {x y : Operand} {a : Option Addr} {n c : Nat} (h : P.underlying t = some (.slice e)) : Bin P .eql t x y (.slice a n c) (.slice none 0 0) (.bool a.isNone) := fun w => by
  have := _root_.Go.run_eql_slice_nil (P := P) w t e a n c h
  simpa [eqGuard] using this
theorem bin_nil_neq {t e : TypeId} {x y : Operand} {a : Option Addr} {n c : Nat} (h : P.underlying t = some (.slice e)) : Bin P .neq t x y (.slice a n c) (.slice none 0 0) (.bool (!a.isNone)) := fun w => by
  have := _root_.Go.run_neq_slice_nil (P := P) w t e a n c h
  simpa [eqGuard] using this
/-- A new slice of nothing. -/
theorem ARun.build0 {os : List Oper} {T e : TypeId} {n y : Nat} {z : List Value} {d : Nat} (hn : d < N) (hT : slT P T = some (e, n, y, z))
    (h : ∀ b, Fresh S b → ARun P N ops os K ((d, .slice (some ⟨b, 0, none⟩) 0 0) :: E) (S.set b ⟨e, [], 0⟩)) : ARun P N ops (⟨some d, .buildSlice T 0 #[], ty, pos, aft, none⟩ :: os) K E S := fun a w g hv => by
  rw [if_pos (by simp [Region.wanted])]
  obtain ⟨hus, i, v, e1, e2, rfl, rfl, rfl⟩ := slT_spec hT
  have hrun : (execOp a.eval ⟨some d, .buildSlice T 0 #[], ty, pos, aft, none⟩).run P w = .ok (.value (.slice (some ⟨w.heap.size, 0, none⟩) 0 0)) (w.alloc (.cells #[] e)) := by
    have hle : ¬ (0 > 2 ^ 24) := by decide
    simp only [execOp, Instr.buildSlice]
    simp only [Sem.run_bind, run_underlying hus w, Result.andThen_ok, run_sizeT (show sizeT P e = some i.size by simp [sizeT, e1]) w, Nat.zero_mul, hle, if_false, if_true, Sem.run_pure]
    simp [Instr.fill, newRow]
    congr 2; apply Array.ext'; simp
  unfold Oper.wp
  rw [hrun]
  exact ⟨_, _, h _ hv.freshAt, g.put hn _, Step.allocP hv e #[] [] 0 (by simp) (by simp)⟩
theorem ARun.append1K {os : List Oper} {T e : TypeId} {y : Nat} {z : Value} {x1 x2 : Operand} {b k c : Nat} {xs news : List Value} {a2 : Addr} {m c2 d : Nat} (hn : d < N) (hT : slT P T = some (e, 1, y, [z]))
    (hx : ev E x1 = some (.slice (some ⟨b, 0, none⟩) k c)) (hb : S.own b = some ⟨e, xs, c⟩) (hxs : xs.length = k)
    (hy : ev E x2 = some (.slice (some a2) m c2)) (hnews : S.Knows a2 news) (hnl : news.length = m) (h1 : ∀ v ∈ news, v.oneCell' = true) (hfit : (k + m) * y ≤ 140737488355328) (h63 : k + m ≤ 9223372036854775807)
    (h : ∀ b' c', Fresh (S.del b) b' → k + m ≤ c' → ARun P N ops os K ((d, .slice (some ⟨b', 0, none⟩) (k + m) c') :: E) ((S.del b).set b' ⟨e, xs ++ news, c'⟩)) :
    ARun P N ops (⟨some d, .call ⟨.builtin .append, #[x1, x2], #[T, T]⟩, ty, pos, aft, none⟩ :: os) K E S := fun a w g hv => by
  -- memory with the second slice read only
  let S2 : Mem := ⟨S.own, S.ro⟩
  rw [if_pos (by simp [Region.wanted])]
  obtain ⟨hu, i, v, e1, e2, hi1, hi2, hi3⟩ := slT_spec hT
  have hz' : v.cells.size = i.size := by
    have := congrArg List.length hi3
    simp at this; omega
  have hex : (execOp a.eval ⟨some d, .call ⟨.builtin .append, #[x1, x2], #[T, T]⟩, ty, pos, aft, none⟩).run P w = ((Builtin.append_ #[T, T] ty #[.slice (some ⟨b, 0, none⟩) k c, .slice (some a2) m c2]).run P w).andThen fun v w' => .ok (.value v) w' := by
    simp [execOp, resolve, invoke, builtin, g.ev hx, g.ev hy]
  unfold Oper.wp
  rw [hex]
  have hb' : S.own b = some ⟨e, xs, c * i.size⟩ := by rw [hi1, Nat.mul_one]; exact hb
  by_cases hroom : k + m ≤ c
  · obtain ⟨q1, q2⟩ := store_cells (P := P) hv hb' (vs := news) (o := k * i.size) (by simp [hxs, hi1]) (.inr (by simp only [hnl, hi1]; omega)) h1
    have hf := run_firstCells_some (P := P) w i.size m a2 m c2 news (by rw [hnl, hi1, Nat.mul_one]) (fun j u hj => hnews w hv j u hj)
    have hr : (Builtin.append_ #[T, T] ty #[.slice (some ⟨b, 0, none⟩) k c, .slice (some a2) m c2]).run P w = .ok (.slice (some ⟨b, 0, none⟩) (k + m) c) (w.setCells b (k * i.size) news) := by
      simp [Builtin.append_, run_underlying hu, sizeOf, typeInfo, e1, Builtin.lenOf, hroom, hf, addr_add, q1]
    rw [hr]
    have hsp : spl xs (k * i.size) news = xs ++ news := by
      unfold spl
      rw [List.take_of_length_le (by rw [hi1]; omega), List.drop_of_length_le (by rw [hi1]; omega), List.append_nil]
    rw [hsp, hi1] at q2
    have q2' : Step S w (S.set b ⟨e, xs ++ news, c⟩) (w.setCells b (k * 1) news) := by have := q2; simpa only [Nat.mul_one] using this
    refine ⟨_, _, h b c (fresh_del (fun a v ha => (hv.ro a v ha).2) hb) hroom, g.put hn _, ?_⟩
    rw [del_set, hi1]; exact q2'
  · have hfit' : Builtin.nextslicecap (k + m) c * i.bytes ≤ 281474976710656 := growslice_fits (by omega) (by rw [hi2]; exact hfit)
    have hr := run_append_grow (P := P) w T ty e i v hu e1 e2 ⟨b, 0, none⟩ k c xs (by rw [hxs, hi1, Nat.mul_one]) (fun j u hj => hv.rd (by rw [addr_add, Nat.zero_add, rd_own hb]; exact hj)) a2 m c2 news (by rw [hnl, hi1, Nat.mul_one]) (fun j u hj => hnews w hv j u hj) (by omega) (by omega) hfit'
    rw [hr]
    have hge := grownCap_ge w (k + m) c e
    have hvd : View S w.drew := hv.drawn _
    have hst := Step.allocP hvd e (xs.toArray ++ news.toArray ++ Builtin.zeroCells v.cells (grownCap w (k + m) c e - (k + m))) (xs ++ news) (grownCap w (k + m) c e) (by simp [List.append_assoc]) (by
      simp only [Array.size_append, List.size_toArray, size_zeroCells, hz', hxs, hnl, hi1, Nat.mul_one]
      omega)
    refine ⟨_, _, h w.heap.size (grownCap w (k + m) c e) (hv.freshAt.less (Less.del S b)) hge, g.put hn _, ?_⟩
    exact ((Step.drawn hv _).trans hst).less (less_del S b _ _)
end
/-- A call leaves a block alone that it does not know of. -/
theorem ACall.frame {P : Program} {f : FuncId} {args : Array Value} {S : Mem} {R : Value → Mem → Prop} (h : ACall P f args S R) {b : Nat} {r : Blk} (hf : Fresh S b) :
    ACall P f args (S.set b r) fun v S'' => ∃ S', R v S' ∧ Fresh S' b ∧ S'' = S'.set b r := fun w hv => by
  have hb : b < w.heap.size := hv.lt (Mem.own_set_same S b r)
  refine (h w (hv.less (Mem.less_set S b r hf.1))).mono fun e w' ⟨v, S', he, hR, st⟩ => ?_
  have hn : S'.own b = none := by
    cases e0 : S'.own b with
    | none => rfl
    | some r0 => rcases st.dom b (by rw [e0]; simp) with x | x
                 · exact absurd hf.1 x
                 · omega
  have hfr : Fresh S' b := ⟨hn, fun a v ha => by rw [st.ro] at ha; exact hf.2 a v ha⟩
  refine ⟨v, S'.set b r, he, ⟨S', hR, hfr, rfl⟩, ⟨⟨fun k r' hk => ?_, fun a u ha => ?_⟩, st.os, st.tape, st.output, st.size, fun k hk hnk => ?_, fun k hk => ?_, st.ro⟩⟩
  · by_cases e : k = b
    · subst e
      rw [st.block k hb hf.1]
      exact hv.own k r' (by rw [Mem.own_set_same] at hk ⊢; exact hk)
    · rw [Mem.own_set_other _ _ e] at hk; exact st.view.own k r' hk
  · obtain ⟨h1, h2⟩ := st.view.ro a u ha
    refine ⟨h1, ?_⟩
    rw [Mem.own_set_other _ _ (hfr.2 a u ha)]; exact h2
  · by_cases e : k = b
    · subst e; rw [Mem.own_set_same] at hnk; cases hnk
    · rw [Mem.own_set_other _ _ e] at hnk; exact st.block k hk hnk
  · by_cases e : k = b
    · subst e; left; rw [Mem.own_set_same]; simp
    · rw [Mem.own_set_other _ _ e] at hk ⊢; exact st.dom k hk
/-- What a copy of a slice is. -/
def CloneR {α : Type} (g : α → Value) (e : TypeId) (l : List α) (S : Mem) (r : Value) (S' : Mem) : Prop :=
  (l = [] ∧ S' = S ∧ ∃ a, r = .slice a 0 0) ∨ (∃ b c, Fresh S b ∧ l.length ≤ c ∧ S' = S.set b ⟨e, l.map g, c⟩ ∧ r = .slice (some ⟨b, 0, none⟩) l.length c)
theorem ARun.appendClone {P : Program} {N : Nat} {ops : Array Oper} {E : Env} {S S0 : Mem} {K : Env → Mem → Prop} {ty : TypeId} {pos : String} {aft : Array Edge} {α : Type} {os : List Oper} {T e : TypeId} {y : Nat} {z : Value} {x1 x2 : Operand} {b d : Nat} {v : Value} {l : List α} {g : α → Value} (hn : d < N) (hT : slT P T = some (e, 1, y, [z]))
    (hx : ev E x1 = some (.slice (some ⟨b, 0, none⟩) 0 0)) (hb : S.own b = some ⟨e, [], 0⟩) (hdel : S.del b = S0) (hy : ev E x2 = some v) (hv : Sl 1 (fun x => [g x]) S0 v l) (h1 : ∀ x, (g x).oneCell' = true) (hfit : l.length * y ≤ 140737488355328)
    (h : ∀ r S', CloneR g e l S0 r S' → ARun P N ops os K ((d, r) :: E) S') :
    ARun P N ops (⟨some d, .call ⟨.builtin .append, #[x1, x2], #[T, T]⟩, ty, pos, aft, none⟩ :: os) K E S := by
  have hl0 : S0.Less S := by rw [← hdel]; exact Less.del S b
  obtain ⟨a, cap, rfl, q1, q2, q3⟩ := id hv
  by_cases hl : l = []
  · subst hl
    refine AOp.toLess (K := fun E' S' => ARun P N ops os K E' S') ?_
    exact ARun.appendNone (os := []) hn hT (Nat.le_refl 0) hx hy ⟨S0, hl0, h _ S0 (.inl ⟨rfl, rfl, _, rfl⟩)⟩
  · obtain ⟨b1, off, rfl, _⟩ := q3.resolve_left hl
    refine ARun.append1K hn hT hx hb rfl hy ((Sl.all hv).less hl0) (by simp) (fun v hv => by obtain ⟨x, _, rfl⟩ := List.mem_map.1 hv; exact h1 x) (by simpa using hfit) (by simpa using q2) fun b' c' hf hc => ?_
    rw [hdel] at hf ⊢
    rw [List.nil_append, Nat.zero_add]
    exact h _ _ (.inr ⟨b', c', hf, by omega, rfl, rfl⟩)
theorem CloneR.less {α : Type} {g : α → Value} {e : TypeId} {l : List α} {S S' : Mem} {r : Value} (h : CloneR g e l S r S') : S.Less S' := by
  rcases h with ⟨_, rfl, _⟩ | ⟨b, c, hf, _, rfl, _⟩
  · exact Mem.Less.refl _
  · exact Mem.less_set _ _ _ hf.1
theorem CloneR.sl {α : Type} {g : α → Value} {e : TypeId} {l : List α} {S S' : Mem} {r : Value} (h : CloneR g e l S r S') (hl : l.length ≤ 9223372036854775807) : Sl 1 (fun x => [g x]) S' r l := by
  rcases h with ⟨rfl, _, a, rfl⟩ | ⟨b, c, hf, hc, rfl, rfl⟩
  · exact ⟨a, 0, rfl, Nat.le_refl _, by simp, .inl rfl⟩
  · exact Sl.own1 (r := ⟨e, l.map g, c⟩) (Mem.own_set_same _ _ _) List.prefix_rfl rfl hc hl
end Mv
end Go.Proofs.Ytddabbfjoejalaa
