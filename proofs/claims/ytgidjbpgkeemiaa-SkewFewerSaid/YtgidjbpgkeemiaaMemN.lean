/-
  A view of memory: slices of things of several cells: appended, copied, cleared, cut. No program in sight.
-/
import Derived.Test.YtgidjbpgkeemiaaMem
import Derived.Lib.Overlaps
namespace Go.Proofs.Ytgidjbpgkeemiaa
open Go.RowKit
set_option linter.unusedVariables false
set_option linter.unusedSimpArgs false
namespace Mv
/-! ### Less is known of blocks -/
def Mem.Shr (S' S : Mem) : Prop := (∀ b r', S'.own b = some r' → ∃ r, S.own b = some r ∧ r.elem = r'.elem ∧ r'.cells <+: r.cells ∧ r'.room ≤ r.room) ∧ S'.ro = S.ro
theorem View.shr {S S' : Mem} {w : World} (h : View S w) (hl : S'.Shr S) : View S' w :=
  ⟨fun b r' hb => by
    obtain ⟨r, h1, h2, h3, h4⟩ := hl.1 b r' hb
    obtain ⟨cur, fz, e1, e2, e3, e4⟩ := h.own b r h1
    exact ⟨cur, fz, by rw [← h2]; exact e1, h3.trans e2, Nat.le_trans h4 e3, by rw [← h2]; exact e4⟩, fun a v ha => by
    rw [hl.2] at ha
    refine ⟨(h.ro a v ha).1, ?_⟩
    cases e : S'.own a.block with
    | none => rfl
    | some r =>
      obtain ⟨r0, h1, _⟩ := hl.1 _ _ e
      rw [(h.ro a v ha).2] at h1; cases h1⟩
theorem Step.shrL {S S0 S' : Mem} {w w' : World} (h : Step S0 w S' w') (hl : S0.Shr S) (hs : ∀ k, S.own k ≠ none → S0.own k ≠ none) : Step S w S' w' :=
  ⟨h.view, h.os, h.tape, h.output, h.size, fun k hk hn => h.block k hk (by
    cases e : S0.own k with
    | none => rfl
    | some r => obtain ⟨r0, h1, _⟩ := hl.1 _ _ e; rw [hn] at h1; cases h1), fun k hk => by
    rcases h.dom k hk with x | x
    · left
      intro e
      cases e0 : S0.own k with
      | none => exact x e0
      | some r => obtain ⟨r0, h1, _⟩ := hl.1 _ _ e0; rw [e] at h1; cases h1
    · exact .inr x, h.ro.trans hl.2⟩
theorem shr_set {S : Mem} {b : Nat} {e : TypeId} {cs cs' : List Value} {m m' : Nat} (h : cs' <+: cs) (hm : m' ≤ m) : (S.set b ⟨e, cs', m'⟩).Shr (S.set b ⟨e, cs, m⟩) :=
  ⟨fun k r' hk => by
    by_cases x : k = b
    · subst x
      rw [Mem.own_set_same] at hk ⊢
      cases hk
      exact ⟨_, rfl, rfl, h, hm⟩
    · rw [Mem.own_set_other _ _ x] at hk ⊢
      exact ⟨r', hk, rfl, List.prefix_rfl, Nat.le_refl _⟩, rfl⟩
theorem dom_set {S : Mem} {b : Nat} {r r' : Blk} : ∀ k, (S.set b r).own k ≠ none → (S.set b r').own k ≠ none := fun k hk => by
  by_cases x : k = b
  · subst x; rw [Mem.own_set_same]; simp
  · rw [Mem.own_set_other _ _ x] at hk ⊢; exact hk
theorem AWP.cut {P : Program} {N : Nat} {c : Code} {Q : Exit → Env → Mem → Prop} {E : Env} {S : Mem} {b : Nat} {e : TypeId} {cs cs' : List Value} {m m' : Nat} (h : cs' <+: cs) (hm : m' ≤ m) (hA : AWP P N c Q E (S.set b ⟨e, cs', m'⟩)) : AWP P N c Q E (S.set b ⟨e, cs, m⟩) := fun a w hg hv =>
  wp_mono (hA a w hg (hv.shr (shr_set h hm))) fun _ _ _ ⟨E', S', hq, hg', hs⟩ => ⟨E', S', hq, hg', hs.shrL (shr_set h hm) dom_set⟩
/-- The own memory of a slice of things of n cells. -/
def outN (n : Nat) (S : Mem) (o : Option (Nat × Nat)) (e : TypeId) (cs : List Value) : Mem := match o with
  | none => S
  | some (b, c) => S.set b ⟨e, cs, c * n⟩
theorem outN_over {n : Nat} {S : Mem} {o : Option (Nat × Nat)} {k : Nat} {e : TypeId} {cs : List Value} (h : OkO S o k) : S.Less (outN n S o e cs) := by
  cases o with
  | none => exact Mem.Less.refl _
  | some q => exact Mem.less_set _ _ _ (h.own q.1 q.2 rfl).1.1
theorem fresh_outN {n : Nat} {S : Mem} {o : Option (Nat × Nat)} {e : TypeId} {cs : List Value} {b : Nat} (h : Fresh (outN n S o e cs) b) : Fresh S b ∧ ∀ q c, o = some (q, c) → b ≠ q := by
  cases o with
  | none => exact ⟨h, fun q c x => by cases x⟩
  | some q => obtain ⟨h1, h2⟩ := fresh_set h; exact ⟨h1, fun q' c x => by cases x; exact h2⟩
section
variable {P : Program} {N : Nat} {ops : Array Oper} {E : Env} {S : Mem} {K : Env → Mem → Prop}
variable {ty : TypeId} {pos : String} {aft : Array Edge} {gd : Option (Nat × Bool)}
/-- append to a block of one's own, of what is known. -/
theorem ARun.appendRunK {os : List Oper} {T e : TypeId} {n y : Nat} {z : List Value} {x1 x2 : Operand} {b k c : Nat} {xs news : List Value} {a2 : Addr} {m c2 d : Nat} (hn : d < N) (hT : slT P T = some (e, n, y, z)) (hz : z.length = n)
    (hx : ev E x1 = some (.slice (some ⟨b, 0, none⟩) k c)) (hb : S.own b = some ⟨e, xs, c * n⟩) (hxs : xs.length = k * n)
    (hy : ev E x2 = some (.slice (some a2) m c2)) (hnews : S.Knows a2 news) (hnl : news.length = m * n) (h1 : ∀ v ∈ news, v.oneCell' = true) (hfit : (k + m) * y ≤ 140737488355328) (h63 : k + m ≤ 9223372036854775807)
    (h : ∀ b' c', Fresh (S.del b) b' → k + m ≤ c' → ARun P N ops os K ((d, .slice (some ⟨b', 0, none⟩) (k + m) c') :: E) ((S.del b).set b' ⟨e, xs ++ news, c' * n⟩)) :
    ARun P N ops (⟨some d, .call ⟨.builtin .append, #[x1, x2], #[T, T]⟩, ty, pos, aft, none⟩ :: os) K E S := fun a w g hv => by
  rw [if_pos (by simp [Region.wanted])]
  obtain ⟨hu, i, v, e1, e2, rfl, rfl, rfl⟩ := slT_spec hT
  have hz' : v.cells.size = i.size := by simpa using hz
  have hex : (execOp a.eval ⟨some d, .call ⟨.builtin .append, #[x1, x2], #[T, T]⟩, ty, pos, aft, none⟩).run P w = ((Builtin.append_ #[T, T] ty #[.slice (some ⟨b, 0, none⟩) k c, .slice (some a2) m c2]).run P w).andThen fun v w' => .ok (.value v) w' := by
    simp [execOp, resolve, invoke, builtin, g.ev hx, g.ev hy]
  unfold Oper.wp
  rw [hex]
  by_cases hroom : k + m ≤ c
  · obtain ⟨q1, q2⟩ := store_cells (P := P) hv hb (vs := news) (o := k * i.size) (by simp [hxs]) (.inr (by simp only [hnl]; rw [← Nat.add_mul]; exact Nat.mul_le_mul_right _ hroom)) h1
    have hf := run_firstCells_some (P := P) w i.size m a2 m c2 news hnl (fun j u hj => hnews w hv j u hj)
    have hr : (Builtin.append_ #[T, T] ty #[.slice (some ⟨b, 0, none⟩) k c, .slice (some a2) m c2]).run P w = .ok (.slice (some ⟨b, 0, none⟩) (k + m) c) (w.setCells b (k * i.size) news) := by
      simp [Builtin.append_, run_underlying hu, sizeOf, typeInfo, e1, Builtin.lenOf, hroom, hf, addr_add, q1]
    rw [hr]
    have hsp : spl xs (k * i.size) news = xs ++ news := by
      unfold spl
      rw [List.take_of_length_le (by omega), List.drop_of_length_le (by omega), List.append_nil]
    simp only [hsp] at q2
    refine ⟨_, _, h b c (fresh_del (fun a v ha => (hv.ro a v ha).2) hb) hroom, g.put hn _, ?_⟩
    rw [del_set]; exact q2
  · have hfit' : Builtin.nextslicecap (k + m) c * i.bytes ≤ 281474976710656 := growslice_fits (by omega) hfit
    have hr := run_append_grow (P := P) w T ty e i v hu e1 e2 ⟨b, 0, none⟩ k c xs hxs (fun j u hj => hv.rd (by rw [addr_add, Nat.zero_add, rd_own hb]; exact hj)) a2 m c2 news hnl (fun j u hj => hnews w hv j u hj) (by omega) (by omega) hfit'
    rw [hr]
    have hge := grownCap_ge w (k + m) c e
    have hvd : View S w.drew := hv.drawn _
    have hst := Step.allocP hvd e (xs.toArray ++ news.toArray ++ Builtin.zeroCells v.cells (grownCap w (k + m) c e - (k + m))) (xs ++ news) (grownCap w (k + m) c e * i.size) (by simp [List.append_assoc]) (by
      simp only [Array.size_append, List.size_toArray, size_zeroCells, hz', hxs, hnl, ← Nat.add_mul]
      exact Nat.mul_le_mul_right _ (by omega))
    refine ⟨_, _, h w.heap.size (grownCap w (k + m) c e) (hv.freshAt.less (Less.del S b)) hge, g.put hn _, ?_⟩
    exact ((Step.drawn hv _).trans hst).less (less_del S b _ _)
theorem ARun.appendNilK {os : List Oper} {T e : TypeId} {n y : Nat} {z : List Value} {x1 x2 : Operand} {news : List Value} {a2 : Addr} {m c2 d : Nat} (hn : d < N) (hT : slT P T = some (e, n, y, z)) (hz : z.length = n)
    (hx : ev E x1 = some (.slice none 0 0)) (hy : ev E x2 = some (.slice (some a2) m c2)) (hnews : S.Knows a2 news) (hnl : news.length = m * n) (hm : 0 < m) (hfit : m * y ≤ 140737488355328) (h63 : m ≤ 9223372036854775807)
    (h : ∀ b' c', Fresh S b' → m ≤ c' → ARun P N ops os K ((d, .slice (some ⟨b', 0, none⟩) m c') :: E) (S.set b' ⟨e, news, c' * n⟩)) :
    ARun P N ops (⟨some d, .call ⟨.builtin .append, #[x1, x2], #[T, T]⟩, ty, pos, aft, none⟩ :: os) K E S := fun a w g hv => by
  rw [if_pos (by simp [Region.wanted])]
  obtain ⟨hu, i, v, e1, e2, rfl, rfl, rfl⟩ := slT_spec hT
  have hz' : v.cells.size = i.size := by simpa using hz
  have hex : (execOp a.eval ⟨some d, .call ⟨.builtin .append, #[x1, x2], #[T, T]⟩, ty, pos, aft, none⟩).run P w = ((Builtin.append_ #[T, T] ty #[.slice none 0 0, .slice (some a2) m c2]).run P w).andThen fun v w' => .ok (.value v) w' := by
    simp [execOp, resolve, invoke, builtin, g.ev hx, g.ev hy]
  unfold Oper.wp
  rw [hex, run_append_nil (P := P) w T ty e i v hu e1 e2 a2 m c2 news hnl (fun j u hj => hnews w hv j u hj) hm (by omega) (by omega)]
  have hge := grownCap_ge w m 0 e
  have hvd : View S w.drew := hv.drawn _
  have hst := Step.allocP hvd e (news.toArray ++ Builtin.zeroCells v.cells (grownCap w m 0 e - m)) news (grownCap w m 0 e * i.size) (by simp) (by
    simp only [Array.size_append, List.size_toArray, size_zeroCells, hz', hnl, ← Nat.add_mul]
    exact Nat.mul_le_mul_right _ (by omega))
  exact ⟨_, _, h w.heap.size (grownCap w m 0 e) hv.freshAt hge, g.put hn _, (Step.drawn hv _).trans hst⟩
/-- append within the room that there is. -/
theorem ARun.appendRoom {os : List Oper} {T e : TypeId} {n y : Nat} {z : List Value} {x1 x2 : Operand} {b o k c : Nat} {r : Blk} {news : List Value} {a2 : Addr} {m c2 d : Nat} (hn : d < N) (hT : slT P T = some (e, n, y, z))
    (hx : ev E x1 = some (.slice (some ⟨b, o, none⟩) k c)) (hb : S.own b = some r) (ho : o + k * n ≤ r.cells.length)
    (hy : ev E x2 = some (.slice (some a2) m c2)) (hnews : S.Knows a2 news) (hnl : news.length = m * n) (h1 : ∀ v ∈ news, v.oneCell' = true) (hroom : k + m ≤ c) (hfit : o + k * n + news.length ≤ r.cells.length ∨ o + k * n + news.length ≤ r.room)
    (h : ARun P N ops os K ((d, .slice (some ⟨b, o, none⟩) (k + m) c) :: E) (S.set b ⟨r.elem, spl r.cells (o + k * n) news, r.room⟩)) :
    ARun P N ops (⟨some d, .call ⟨.builtin .append, #[x1, x2], #[T, T]⟩, ty, pos, aft, none⟩ :: os) K E S := fun a w g hv => by
  rw [if_pos (by simp [Region.wanted])]
  obtain ⟨hu, i, v, e1, e2, rfl, rfl, rfl⟩ := slT_spec hT
  have hex : (execOp a.eval ⟨some d, .call ⟨.builtin .append, #[x1, x2], #[T, T]⟩, ty, pos, aft, none⟩).run P w = ((Builtin.append_ #[T, T] ty #[.slice (some ⟨b, o, none⟩) k c, .slice (some a2) m c2]).run P w).andThen fun v w' => .ok (.value v) w' := by
    simp [execOp, resolve, invoke, builtin, g.ev hx, g.ev hy]
  unfold Oper.wp
  rw [hex]
  obtain ⟨q1, q2⟩ := store_cells (P := P) hv hb (vs := news) (o := o + k * i.size) ho hfit h1
  have hf := run_firstCells_some (P := P) w i.size m a2 m c2 news hnl (fun j u hj => hnews w hv j u hj)
  have hr : (Builtin.append_ #[T, T] ty #[.slice (some ⟨b, o, none⟩) k c, .slice (some a2) m c2]).run P w = .ok (.slice (some ⟨b, o, none⟩) (k + m) c) (w.setCells b (o + k * i.size) news) := by
    simp [Builtin.append_, run_underlying hu, sizeOf, typeInfo, e1, Builtin.lenOf, hroom, hf, addr_add, q1]
  rw [hr]
  exact ⟨_, _, h, g.put hn _, q2⟩
/-- copy into a block of one's own. -/
theorem ARun.copyK {os : List Oper} {T T2 e : TypeId} {n y : Nat} {z : List Value} {x1 x2 : Operand} {b o k c : Nat} {r : Blk} {news : List Value} {a2 : Addr} {m c2 q d : Nat} (hn : d < N) (hT : slT P T = some (e, n, y, z))
    (hx : ev E x1 = some (.slice (some ⟨b, o, none⟩) k c)) (hb : S.own b = some r) (ho : o ≤ r.cells.length)
    (hy : ev E x2 = some (.slice (some a2) m c2)) (hq : q = min m k) (hnews : S.Knows a2 news) (hnl : news.length = q * n) (h1 : ∀ v ∈ news, v.oneCell' = true) (hfit : o + news.length ≤ r.cells.length ∨ o + news.length ≤ r.room)
    (h : ARun P N ops os K ((d, .int .i64 (q : Int)) :: E) (S.set b ⟨r.elem, spl r.cells o news, r.room⟩)) :
    ARun P N ops (⟨some d, .call ⟨.builtin .copy, #[x1, x2], #[T, T2]⟩, ty, pos, aft, none⟩ :: os) K E S := fun a w g hv => by
  rw [if_pos (by simp [Region.wanted])]
  obtain ⟨hu, i, v, e1, e2, rfl, rfl, rfl⟩ := slT_spec hT
  have hex : (execOp a.eval ⟨some d, .call ⟨.builtin .copy, #[x1, x2], #[T, T2]⟩, ty, pos, aft, none⟩).run P w = ((Builtin.copy_ #[T, T2] ty #[.slice (some ⟨b, o, none⟩) k c, .slice (some a2) m c2]).run P w).andThen fun v w' => .ok (.value v) w' := by
    simp [execOp, resolve, invoke, builtin, g.ev hx, g.ev hy]
  unfold Oper.wp
  rw [hex]
  obtain ⟨q1, q2⟩ := store_cells (P := P) hv hb (vs := news) (o := o) ho hfit h1
  have hf := run_firstCells_some (P := P) w i.size q a2 m c2 news hnl (fun j u hj => hnews w hv j u hj)
  have hq' : Nat.min m k = q := hq.symm
  have hr : (Builtin.copy_ #[T, T2] ty #[.slice (some ⟨b, o, none⟩) k c, .slice (some a2) m c2]).run P w = .ok (.int .i64 (q : Int)) (w.setCells b o news) := by
    simp [Builtin.copy_, run_underlying hu, sizeOf, typeInfo, e1, Builtin.lenOf, hq', hf, q1, goInt]
  rw [hr]
  exact ⟨_, _, h, g.put hn _, q2⟩
/-- clear of a part of a block of one's own. -/
theorem ARun.clearK {os : List Oper} {T e : TypeId} {n y : Nat} {z : List Value} {x1 : Operand} {b o k c : Nat} {r : Blk} (hT : slT P T = some (e, n, y, z)) (hz : z.length = n) (hz1 : ∀ v ∈ z, v.oneCell' = true)
    (hx : ev E x1 = some (.slice (some ⟨b, o, none⟩) k c)) (hb : S.own b = some r) (ho : o ≤ r.cells.length) (hfit : o + k * n ≤ r.cells.length ∨ o + k * n ≤ r.room)
    (h : ∀ zs : List Value, zs.length = k * n → ARun P N ops os K E (S.set b ⟨r.elem, spl r.cells o zs, r.room⟩)) :
    ARun P N ops (⟨none, .call ⟨.builtin .clear, #[x1], #[T]⟩, ty, pos, aft, none⟩ :: os) K E S := fun a w g hv => by
  rw [if_pos (by simp [Region.wanted])]
  obtain ⟨hu, i, v, e1, e2, rfl, rfl, rfl⟩ := slT_spec hT
  have hz' : v.cells.size = i.size := by simpa using hz
  have hex : (execOp a.eval ⟨none, .call ⟨.builtin .clear, #[x1], #[T]⟩, ty, pos, aft, none⟩).run P w = ((Builtin.clear_ #[T] ty #[.slice (some ⟨b, o, none⟩) k c]).run P w).andThen fun v w' => .ok (.value v) w' := by
    simp [execOp, resolve, invoke, builtin, g.ev hx]
  unfold Oper.wp
  rw [hex]
  have hzl : (Builtin.zeroCells v.cells k).toList.length = k * i.size := by rw [Array.length_toList, size_zeroCells, hz']
  have h1 : ∀ u ∈ (Builtin.zeroCells v.cells k).toList, u.oneCell' = true := fun u hu => by
    simp only [Builtin.zeroCells, Array.toList_map, List.mem_map, Array.toList_range, List.mem_range] at hu
    obtain ⟨j, hj, rfl⟩ := hu
    have hp : 0 < v.cells.size := by
      rcases Nat.eq_zero_or_pos v.cells.size with h0 | h0
      · rw [h0] at hj; omega
      · exact h0
    have hlt : j % v.cells.size < v.cells.size := Nat.mod_lt _ hp
    have e0 : v.cells[j % v.cells.size]! = v.cells[j % v.cells.size] := getElem!_pos v.cells _ hlt
    rw [e0]
    exact hz1 _ (by simp)
  obtain ⟨q1, q2⟩ := store_cells (P := P) hv hb (vs := (Builtin.zeroCells v.cells k).toList) (o := o) ho (by rw [hzl]; exact hfit) h1
  have hr : (Builtin.clear_ #[T] ty #[.slice (some ⟨b, o, none⟩) k c]).run P w = .ok (.tuple #[]) (w.setCells b o (Builtin.zeroCells v.cells k).toList) := by
    by_cases hk : k = 0
    · subst hk
      have : (Builtin.zeroCells v.cells 0).toList = [] := by apply List.eq_nil_of_length_eq_zero; rw [hzl]; simp
      rw [this]
      simp [Builtin.clear_, run_underlying hu, World.setCells]
    · obtain ⟨k', rfl⟩ : ∃ k', k = k' + 1 := ⟨k - 1, by omega⟩
      have hzv : (zeroValue e).run P w = .ok v w := by simp [zeroValue, typeInfo, e1, e2]
      simp [Builtin.clear_, run_underlying hu, hzv, q1]
  rw [hr]
  exact ⟨_, _, h _ hzl, g.put0 _, q2⟩
theorem Calm.cap {T e : TypeId} {x : Operand} {a : Option Addr} {k c : Nat} {dst : Option Nat} (hT : P.underlying T = some (.slice e)) (hx : ev E x = some (.slice a k c)) : ACalm P N ⟨dst, .call ⟨.builtin .cap, #[x], #[T]⟩, ty, pos, aft, gd⟩ E S (.int .i64 (c : Int)) := fun ac w g hv => by
  simp [execOp, resolve, invoke, builtin, g.ev hx, Builtin.cap_, run_underlying hT, goInt]
end
/-! ### Appending to a slice of one's own -/
/-- The first m things of a slice that is known. -/
def Src (M : Mem) (v : Value) (m : Nat) (news : List Value) : Prop := ∃ A c, v = .slice A m c ∧ (m = 0 ∨ ∃ a, A = some a ∧ M.Knows a news)
theorem Src.less {M M' : Mem} {v : Value} {m : Nat} {news : List Value} (h : Src M v m news) (hl : M.Less M') : Src M' v m news := by
  obtain ⟨A, c, e, h⟩ := h
  exact ⟨A, c, e, h.imp id fun ⟨a, e2, k⟩ => ⟨a, e2, k.less hl⟩⟩
theorem flat_length {α : Type} {n : Nat} {f : α → List Value} (hn : ∀ x, (f x).length = n) (l : List α) : (l.flatMap f).length = l.length * n := by
  induction l with
  | nil => simp
  | cons x l ih => rw [List.flatMap_cons, List.length_append, hn, ih, List.length_cons, Nat.succ_mul, Nat.add_comm]
theorem flat_split {α : Type} {n : Nat} {f : α → List Value} (hn : ∀ x, (f x).length = n) : ∀ (l : List α) (j : Nat) (v : Value), (l.flatMap f)[j]? = some v → ∃ (i q : Nat) (h : i < l.length), j = i * n + q ∧ q < n ∧ (f l[i])[q]? = some v
  | [], j, v, h => by simp at h
  | x :: l, j, v, h => by
    rw [List.flatMap_cons] at h
    by_cases hj : j < (f x).length
    · rw [List.getElem?_append_left hj] at h
      rw [hn] at hj
      exact ⟨0, j, by simp, by omega, hj, h⟩
    · rw [List.getElem?_append_right (by omega)] at h
      rw [hn] at hj h
      obtain ⟨i, q, hi, e, hq, hv⟩ := flat_split hn l (j - n) v h
      exact ⟨i + 1, q, by simpa using hi, by rw [Nat.succ_mul]; omega, hq, by simpa using hv⟩
theorem Sl.allN {α : Type} {n : Nat} {f : α → List Value} (hn : ∀ x, (f x).length = n) {S : Mem} {b off : Nat} {len cap : Nat} {l : List α} (h : Sl n f S (.slice (some ⟨b, off, none⟩) len cap) l) : S.Knows ⟨b, off, none⟩ (l.flatMap f) := fun w hv j v hj => by
  obtain ⟨i, q, hi, rfl, hq, hx⟩ := flat_split hn l j v hj
  have := h.at1 i hi w hv q v hx
  rw [addr_add] at this ⊢
  rw [← this]; congr 2; omega
theorem Sl.src {α : Type} {n : Nat} {f : α → List Value} (hn : ∀ x, (f x).length = n) {S : Mem} {v : Value} {l : List α} (h : Sl n f S v l) : Src S v l.length (l.flatMap f) := by
  obtain ⟨a, c, rfl, _, _, h4⟩ := id h
  refine ⟨a, c, rfl, ?_⟩
  rcases h4 with rfl | ⟨b, off, rfl, _⟩
  · left; rfl
  · right; exact ⟨_, rfl, Sl.allN hn h⟩
theorem src_own {S : Mem} {b c : Nat} {r : Blk} {news : List Value} {m : Nat} (h : S.own b = some r) (hc : news <+: r.cells) : Src S (.slice (some ⟨b, 0, none⟩) m c) m news := ⟨_, c, rfl, .inr ⟨_, rfl, (rds_prefix h hc).knows⟩⟩
structure AppN (n : Nat) (M S : Mem) (o : Option (Nat × Nat)) (e : TypeId) (cs : List Value) : Prop where
  nil : o = none → cs = [] ∧ S.Less M
  own : ∀ b c, o = some (b, c) → M.own b = some ⟨e, cs, c * n⟩ ∧ S.Less (M.del b)
theorem appN_self {n : Nat} {S : Mem} {o : Option (Nat × Nat)} {k : Nat} {e : TypeId} {cs : List Value} (h : OkO S o k) (hn : cs.length = k * n) : AppN n (outN n S o e cs) S o e cs := by
  refine ⟨fun ho => ?_, fun b c ho => ?_⟩
  · subst ho
    exact ⟨List.eq_nil_of_length_eq_zero (by rw [hn, h.nil rfl, Nat.zero_mul]), Mem.Less.refl _⟩
  · subst ho
    refine ⟨Mem.own_set_same _ _ _, ?_⟩
    rw [show (outN n S (some (b, c)) e cs).del b = S from set_del_same' (del_base (h.own b c rfl).1)]
    exact Mem.Less.refl _
theorem AppN.temp {n : Nat} {M S : Mem} {o : Option (Nat × Nat)} {e : TypeId} {cs : List Value} {t : Nat} {r : Blk} (h : AppN n M S o e cs) (ht : Fresh M t) : AppN n (M.set t r) S o e cs := by
  refine ⟨fun ho => ⟨(h.nil ho).1, (h.nil ho).2.trans (Mem.less_set _ _ _ ht.1)⟩, fun b c ho => ?_⟩
  obtain ⟨h1, h2⟩ := h.own b c ho
  have hne := ht.ne h1
  refine ⟨(Mem.own_set_other _ _ hne).trans h1, h2.trans ⟨fun k r' hk => ?_, rfl⟩⟩
  have hkb : k ≠ b := fun e => by subst e; simp [Mem.del] at hk
  rw [Mem.own_del_other _ hkb] at hk ⊢
  exact (Mem.own_set_other _ _ (Ne.symm (ht.ne' hk))).trans hk
section
variable {P : Program} {N : Nat} {ops : Array Oper} {E : Env} {S M : Mem} {K : Env → Mem → Prop}
variable {ty : TypeId} {pos : String} {aft : Array Edge} {gd : Option (Nat × Bool)}
theorem ARun.appendOK {os : List Oper} {T e : TypeId} {n y : Nat} {z : List Value} {x1 x2 : Operand} {o : Option (Nat × Nat)} {k m d : Nat} {cs news : List Value} {v : Value} (hn : d < N) (hT : slT P T = some (e, n, y, z)) (hz : z.length = n)
    (hx : ev E x1 = some (outV o k)) (hcs : cs.length = k * n) (hok : OkO S o k) (happ : AppN n M S o e cs) (hy : ev E x2 = some v) (hv : Src M v m news) (hnl : news.length = m * n) (h1 : ∀ v ∈ news, v.oneCell' = true) (hfit : (k + m) * y ≤ 140737488355328) (h63 : k + m ≤ 9223372036854775807)
    (h : ∀ o', OkO S o' (k + m) → ARun P N ops os K ((d, outV o' (k + m)) :: E) (outN n S o' e (cs ++ news))) :
    ARun P N ops (⟨some d, .call ⟨.builtin .append, #[x1, x2], #[T, T]⟩, ty, pos, aft, none⟩ :: os) K E M := by
  obtain ⟨A, c2, rfl, hv⟩ := hv
  by_cases hm : m = 0
  · subst hm
    obtain rfl : news = [] := List.eq_nil_of_length_eq_zero (by rw [hnl, Nat.zero_mul])
    have h2 := h o hok
    rw [Nat.add_zero, List.append_nil] at h2
    refine AOp.toLess (K := fun E' S' => ARun P N ops os K E' S') ?_
    cases o with
    | none =>
      have h0 := hok.nil rfl; subst h0
      exact ARun.appendNone (os := []) hn hT (Nat.le_refl 0) hx hy ⟨S, (happ.nil rfl).2, h2⟩
    | some q =>
      obtain ⟨b, c⟩ := q
      obtain ⟨p1, p2⟩ := happ.own b c rfl
      refine ARun.appendNone (os := []) hn hT (hok.own b c rfl).2 hx hy ⟨_, ?_, h2⟩
      refine ⟨fun k' r hk => ?_, p2.2⟩
      by_cases ek : k' = b
      · subst ek; rw [show (outN n S (some (k', c)) e cs).own k' = _ from Mem.own_set_same _ _ _] at hk; rw [p1]; exact hk
      · rw [show (outN n S (some (b, c)) e cs).own k' = _ from Mem.own_set_other _ _ ek] at hk
        have := p2.1 _ _ hk
        rwa [Mem.own_del_other _ ek] at this
  · obtain ⟨a2, rfl, hk⟩ := hv.resolve_left hm
    cases o with
    | none =>
      have h0 := hok.nil rfl; subst h0
      obtain ⟨q1, q2⟩ := happ.nil rfl
      subst q1
      refine AOp.toLess (K := fun E' S' => ARun P N ops os K E' S') ?_
      refine ARun.appendNilK (os := []) hn hT hz hx hy hk hnl (by omega) (by simpa using hfit) (by omega) fun b c hb hc => ?_
      refine ⟨S.set b ⟨e, news, c * n⟩, Less.set q2 _ _, ?_⟩
      have := h (some (b, c)) ⟨(fun x => by cases x), fun b' c' x => by cases x; exact ⟨hb.less q2, by omega⟩⟩
      simpa [outN, outV] using this
    | some q =>
      obtain ⟨b0, c0⟩ := q
      obtain ⟨q1, q2⟩ := happ.own b0 c0 rfl
      refine AOp.toLess (K := fun E' S' => ARun P N ops os K E' S') ?_
      refine ARun.appendRunK (os := []) hn hT hz hx q1 hcs hy hk hnl h1 hfit h63 fun b c hb hc => ?_
      refine ⟨S.set b ⟨e, cs ++ news, c * n⟩, Less.set q2 _ _, ?_⟩
      exact h (some (b, c)) ⟨(fun x => by cases x), fun b' c' x => by cases x; exact ⟨hb.less q2, hc⟩⟩
end
/-- A slice of one's own, as what is known. -/
theorem sl_outN {α : Type} {n : Nat} {f : α → List Value} (hn : ∀ x, (f x).length = n) {S : Mem} {o : Option (Nat × Nat)} {e : TypeId} {l : List α} {k : Nat} (h : OkO S o k) (hl : l.length = k) (hm : k ≤ 9223372036854775807) : Sl n f (outN n S o e (l.flatMap f)) (outV o k) l := by
  subst hl
  cases o with
  | none => obtain rfl : l = [] := List.eq_nil_of_length_eq_zero (h.nil rfl); exact Sl.nil _ _ _
  | some q => exact Sl.own (r := ⟨e, l.flatMap f, q.2 * n⟩) (Mem.own_set_same _ _ _) hn List.prefix_rfl rfl (h.own _ _ rfl).2 hm
/-- What a copy of a slice is: a slice of one's own, or nil. -/
def OwnR {α : Type} (n : Nat) (f : α → List Value) (e : TypeId) (l : List α) (S : Mem) (r : Value) (S' : Mem) : Prop := ∃ o, OkO S o l.length ∧ r = outV o l.length ∧ S' = outN n S o e (l.flatMap f)
theorem outV_slice (o : Option (Nat × Nat)) (n : Nat) : ∃ a c, outV o n = .slice a (if o = none then 0 else n) c := by
  cases o with
  | none => exact ⟨none, 0, rfl⟩
  | some q => exact ⟨_, q.2, rfl⟩
section
variable {P : Program} {N : Nat} {ops : Array Oper} {E : Env} {S : Mem} {K : Env → Mem → Prop}
variable {ty : TypeId} {pos : String} {aft : Array Edge} {gd : Option (Nat × Bool)}
/-- slices.overlaps of two slices of two blocks: no. -/
theorem ARun.overlapsNo {os : List Oper} {f : FuncId} {fn : Func} {T tR e : TypeId} {n : Nat} {xs : List Operand} {ats : Array TypeId} {t b o1 o2 la ca lb cb d : Nat} {r r2 : Blk} (hn : d < N) (hf : P.funcs[f]? = some fn) (hname : (fn.name == "runtime.NumGoroutine") = false) (hb : fn.body.isNone = true)
    (hx' : Extern.findNext fn = none) (he : Extern.find fn = some (Extern.SlicesOverlaps.overlaps #[T, T] #[tR])) (ht : P.underlying T = some (.slice e)) (hz : sizeT P e = some n) (hx : evs E xs = some [.slice (some ⟨t, o1, none⟩) la ca, .slice (some ⟨b, o2, none⟩) lb cb])
    (h1 : S.own t = some r) (hne : r.elem ≠ 5) (ho1 : o1 < r.cells.length) (h2 : S.own b = some r2) (hr2 : 0 < r2.cells.length) (htb : t ≠ b)
    (h : ARun P N ops os K ((d, .bool false) :: E) S) : ARun P N ops (⟨some d, .call ⟨.value (.func f), xs.toArray, ats⟩, ty, pos, aft, none⟩ :: os) K E S := fun a w g hv => by
  rw [if_pos (by simp [Region.wanted])]
  unfold Oper.wp
  have hc : execOp a.eval ⟨some d, .call ⟨.value (.func f), xs.toArray, ats⟩, ty, pos, aft, none⟩ = callFunc f #[.slice (some ⟨t, o1, none⟩) la ca, .slice (some ⟨b, o2, none⟩) lb cb] := by
    rw [execOp_call_go]
    simp [g.evs hx]
  obtain ⟨cur, fz, e1, e2, e3, e4⟩ := hv.own t r h1
  obtain ⟨cur2, fz2, k1, k2, k3, k4⟩ := hv.own b r2 h2
  have hl1 : r.cells.length ≤ cur.size := by have := e2.length_le; simpa using this
  have hl2 : r2.cells.length ≤ cur2.size := by have := k2.length_le; simpa using this
  have hr := Lib.run_overlaps_apart (P := P) w T tR e ht n (fun w => run_sizeT hz w) ⟨t, o1, none⟩ ⟨b, o2, none⟩ la ca lb cb htb r.elem r2.elem cur.size cur2.size (by simp [World.shape?, e1]) (by simp [World.shape?, k1]) (by omega)
    (by have := e4 o1 (.inl (by omega)); simpa [World.frozen?, e1] using this) (by have := e4 cur.size (.inr ⟨rfl, hne⟩); simpa [World.frozen?, e1] using this)
  rw [hc, run_callFunc_extern hf hname hb hx' he, hr]
  exact ⟨_, _, h, g.put hn _, Step.refl hv⟩
/-- append of so many zeros, where a new block is needed. -/
theorem ARun.appendMake {os : List Oper} {T Ti e : TypeId} {n y : Nat} {z : List Value} {x1 x2 : Operand} {k c m : Nat} {xs : List Value} {A : Addr} {d : Nat} (hn : d < N) (hT : slT P T = some (e, n, y, z)) (hz : z.length = n) (hTi : P.underlying Ti = some (.int .i64))
    (hx : ev E x1 = some (.slice (some A) k c)) (hxs : xs.length = k * n) (hk : S.Knows A xs) (hy : ev E x2 = some (.int .i64 (m : Int))) (hgrow : c < k + m) (hfit : (k + m) * y ≤ 140737488355328) (h63 : k + m ≤ 9223372036854775807)
    (h : ∀ b' c' zs, Fresh S b' → k + m ≤ c' → zs.length = m * n → ARun P N ops os K ((d, .slice (some ⟨b', 0, none⟩) (k + m) c') :: E) (S.set b' ⟨e, xs ++ zs, c' * n⟩)) :
    ARun P N ops (⟨some d, .call ⟨.builtin .append, #[x1, x2], #[T, Ti]⟩, ty, pos, aft, none⟩ :: os) K E S := fun a w g hv => by
  rw [if_pos (by simp [Region.wanted])]
  obtain ⟨hu, i, v, e1, e2, rfl, rfl, rfl⟩ := slT_spec hT
  have hz' : v.cells.size = i.size := by simpa using hz
  have hex : (execOp a.eval ⟨some d, .call ⟨.builtin .append, #[x1, x2], #[T, Ti]⟩, ty, pos, aft, none⟩).run P w = ((Builtin.append_ #[T, Ti] ty #[.slice (some A) k c, .int .i64 (m : Int)]).run P w).andThen fun v w' => .ok (.value v) w' := by
    simp [execOp, resolve, invoke, builtin, g.ev hx, g.ev hy]
  unfold Oper.wp
  rw [hex]
  have hfit' : Builtin.nextslicecap (k + m) c * i.bytes ≤ 281474976710656 := growslice_fits (by omega) hfit
  have hf := run_firstCells_some (P := P) w i.size k A k c xs hxs (fun j u hj => hk w hv j u hj)
  have hw : IntKind.i64.wrap (m : Int) = (m : Int) := IntWalk.i64_in _ (by omega)
  have hfo := run_firstCells_some (P := P) w.drew i.size k A k c xs hxs (fun j u hj => by have := hk w hv j u hj; simpa using this)
  have hm0 : ¬ ((m : Int) < 0) := by omega
  have hmx : max (m : Int) 0 = (m : Int) := by omega
  have hmy : m * i.bytes ≤ 140737488355328 := Nat.le_trans (Nat.mul_le_mul_right _ (by omega)) hfit
  have hmb : ¬ (281474976710656 < (m : Int) * (i.bytes : Int)) := by
    have : ((m * i.bytes : Nat) : Int) ≤ 140737488355328 := by omega
    rw [Int.natCast_mul] at this; omega
  have hnc : ¬ (k + m ≤ c) := by omega
  have h63' : ¬ (9223372036854775807 < ((k : Int) + (m : Int))) := by omega
  have h48' : ¬ (281474976710656 < Builtin.nextslicecap (k + m) c * i.bytes) := by omega
  obtain ⟨za, hza, hzl⟩ : ∃ za : Array Value, (if m * i.size = 0 then (#[] : Array Value) else Builtin.zeroCells v.cells m) = za ∧ za.size = m * i.size := by
    by_cases h0 : m * i.size = 0
    · exact ⟨#[], by rw [if_pos h0], by simp [h0]⟩
    · exact ⟨_, by rw [if_neg h0], by rw [size_zeroCells, hz']⟩
  have hr : (Builtin.append_ #[T, Ti] ty #[.slice (some A) k c, .int .i64 (m : Int)]).run P w = .ok (.slice (some ⟨w.heap.size, 0, none⟩) (k + m) (grownCap w (k + m) c e)) (w.drew.alloc (.cells (xs.toArray ++ za ++ Builtin.zeroCells v.cells (grownCap w (k + m) c e - (k + m))) e)) := by
    subst hza
    by_cases h0 : m * i.size = 0
    · have h0' := h0
      simp [Builtin.append_, run_underlying hu, run_underlying hTi, sizeOf, typeInfo, zeroValue, e1, e2, asInt, asIntOf, hw, hmx, hm0, hmb, hnc, h63', h48', h0', Question.forced, hfo, newRow, grownCap]
    · have h0' := h0
      simp [Builtin.append_, run_underlying hu, run_underlying hTi, sizeOf, typeInfo, zeroValue, e1, e2, asInt, asIntOf, hw, hmx, hm0, hmb, hnc, h63', h48', h0', Question.forced, hfo, newRow, grownCap]
  rw [hr]
  have hge := grownCap_ge w (k + m) c e
  have hvd : View S w.drew := hv.drawn _
  have hst := Step.allocP hvd e (xs.toArray ++ za ++ Builtin.zeroCells v.cells (grownCap w (k + m) c e - (k + m))) (xs ++ za.toList) (grownCap w (k + m) c e * i.size) (by simp [List.append_assoc]) (by
    simp only [Array.size_append, List.size_toArray, size_zeroCells, hz', hxs, hzl, ← Nat.add_mul]
    exact Nat.mul_le_mul_right _ (by omega))
  exact ⟨_, _, h w.heap.size (grownCap w (k + m) c e) za.toList hv.freshAt hge (by simpa using hzl), g.put hn _, (Step.drawn hv _).trans hst⟩
end
section
variable {P : Program} {N : Nat} {E : Env} {S : Mem} {dst : Option Nat} {ty : TypeId} {pos : String} {aft : Array Edge} {gd : Option (Nat × Bool)}
theorem Calm.sliceLo {T e : TypeId} {x lo : Operand} {kd : IntKind} {j : Int} {b o len cap n : Nat} (l : Nat) (hT : P.underlying T = some (.slice e)) (he : sizeT P e = some n) (hx : ev E x = some (.slice (some ⟨b, o, none⟩) len cap)) (hlo : ev E lo = some (.int kd j)) (hj : j = (l : Int)) (h1 : l ≤ len) (h2 : l < cap) :
    ACalm P N ⟨dst, .slice T x (some lo) none none, ty, pos, aft, gd⟩ E S (.slice (some ⟨b, o + l * n, none⟩) (len - l) (cap - l)) := by
  subst hj
  have := Calm.sliceSl (S := S) (N := N) (dst := dst) (ty := ty) (pos := pos) (aft := aft) (gd := gd) hT he hx (bnd_none cap cap) (by simp) (bnd_none len cap) (bnd_some 0 len hlo (by omega) (by omega))
  rw [Int.toNat_natCast, if_neg (by omega)] at this
  exact this
theorem Calm.sliceHi {T e : TypeId} {x hi : Operand} {kd : IntKind} {j : Int} {b o len cap n : Nat} (h : Nat) (hT : P.underlying T = some (.slice e)) (he : sizeT P e = some n) (hx : ev E x = some (.slice (some ⟨b, o, none⟩) len cap)) (hhi : ev E hi = some (.int kd j)) (hj : j = (h : Int)) (h1 : h ≤ cap) :
    ACalm P N ⟨dst, .slice T x none (some hi) none, ty, pos, aft, gd⟩ E S (.slice (some ⟨b, o, none⟩) h cap) := by
  subst hj
  have := Calm.sliceHead (S := S) (N := N) (dst := dst) (ty := ty) (pos := pos) (aft := aft) (gd := gd) hT he hx (bnd_none cap cap) (by simp) (bnd_some len cap hhi (by omega) (by omega))
  rw [Int.toNat_natCast] at this
  exact this
end
end Mv
end Go.Proofs.Ytgidjbpgkeemiaa
