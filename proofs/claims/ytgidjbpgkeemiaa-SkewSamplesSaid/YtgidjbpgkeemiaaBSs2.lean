/-
  Texts that belong together: MemN, Shelf, LoserMath, OrdMath, Ord1, Draw, Ord2, Ord3, SkewMath, SkewMath2, SkewMath3, Sk1, Sk2, Sort0, SortX, SortB.
-/
import Derived.Test.YtgidjbpgkeemiaaBSs1
import Derived.Lib.Overlaps
import Derived.Shelf.Small.Bits
import Derived.Shelf.Bits.Mul64
import Derived.Test.YtgidjbpgkeemiaaProg
import Derived.Sort.AssemblyPlain
import Derived.Sort.LotD5
namespace Go.Proofs.Ytgidjbpgkeemiaa
open Go.RowKit
set_option linter.unusedVariables false
set_option linter.unusedSimpArgs false
namespace Mv
/-! ### Less is known of blocks -/
def Mem.Shr (S' S : Mem) : Prop := (∀ b r', S'.own b = some r' → ∃ r, S.own b = some r ∧ r.elem = r'.elem ∧ r'.cells <+: r.cells ∧ r'.room ≤ r.room) ∧ S'.ro = S.ro
theorem View.shr {S S' : Mem} {w : World} (h : View S w) (hl : S'.Shr S) : View S' w :=
  ⟨fun b r' hb => by
    obtain ⟨r, h1, h2, h3, h4⟩ := hl.1 b r' hb
    obtain ⟨cur, fz, e1, e2, e3, e4⟩ := h.own b r h1
    exact ⟨cur, fz, by rw [← h2]; exact e1, h3.trans e2, Nat.le_trans h4 e3, by rw [← h2]; exact e4⟩, fun a v ha => by
    rw [hl.2] at ha
    refine ⟨(h.ro a v ha).1, ?_⟩
    cases e : S'.own a.block with
    | none => rfl
    | some r =>
      obtain ⟨r0, h1, _⟩ := hl.1 _ _ e
      rw [(h.ro a v ha).2] at h1; cases h1⟩
/-- The own memory of a slice of things of n cells. -/
def outN (n : Nat) (S : Mem) (o : Option (Nat × Nat)) (e : TypeId) (cs : List Value) : Mem := match o with
  | none => S
  | some (b, c) => S.set b ⟨e, cs, c * n⟩
section
variable {P : Program} {N : Nat} {ops : Array Oper} {E : Env} {S : Mem} {K : Env → Mem → Prop}
variable {ty : TypeId} {pos : String} {aft : Array Edge} {gd : Option (Nat × Bool)}
/-- append to a block of one's own, of what is known. -/
theorem ARun.appendRunK {os : List Oper} {T e : TypeId} {n y : Nat} {z : List Value} {x1 x2 : Operand} {b k c : Nat} {xs news : List Value} {a2 : Addr} {m c2 d : Nat} (hn : d < N) (hT : slT P T = some (e, n, y, z)) (hz : z.length = n)
    (hx : ev E x1 = some (.slice (some ⟨b, 0, none⟩) k c)) (hb : S.own b = some ⟨e, xs, c * n⟩) (hxs : xs.length = k * n)
    (hy : ev E x2 = some (.slice (some a2) m c2)) (hnews : S.Knows a2 news) (hnl : news.length = m * n) (h1 : ∀ v ∈ news, v.oneCell' = true) (hfit : (k + m) * y ≤ 140737488355328) (h63 : k + m ≤ 9223372036854775807)
    (h : ∀ b' c', Fresh (S.del b) b' → k + m ≤ c' → ARun P N ops os K ((d, .slice (some ⟨b', 0, none⟩) (k + m) c') :: E) ((S.del b).set b' ⟨e, xs ++ news, c' * n⟩)) :
    ARun P N ops (⟨some d, .call ⟨.builtin .append, #[x1, x2], #[T, T]⟩, ty, pos, aft, none⟩ :: os) K E S := fun a w g hv => by
  rw [if_pos (by simp [Region.wanted])]
  obtain ⟨hu, i, v, e1, e2, rfl, rfl, rfl⟩ := slT_spec hT
  have hz' : v.cells.size = i.size := by simpa using hz
  have hex : (execOp a.eval ⟨some d, .call ⟨.builtin .append, #[x1, x2], #[T, T]⟩, ty, pos, aft, none⟩).run P w = ((Builtin.append_ #[T, T] ty #[.slice (some ⟨b, 0, none⟩) k c, .slice (some a2) m c2]).run P w).andThen fun v w' => .ok (.value v) w' := by
    simp [execOp, resolve, invoke, builtin, g.ev hx, g.ev hy]
  unfold Oper.wp
  rw [hex]
  by_cases hroom : k + m ≤ c
  · obtain ⟨q1, q2⟩ := store_cells (P := P) hv hb (vs := news) (o := k * i.size) (by simp [hxs]) (.inr (by simp only [hnl]; rw [← Nat.add_mul]; exact Nat.mul_le_mul_right _ hroom)) h1
    have hf := run_firstCells_some (P := P) w i.size m a2 m c2 news hnl (fun j u hj => hnews w hv j u hj)
    have hr : (Builtin.append_ #[T, T] ty #[.slice (some ⟨b, 0, none⟩) k c, .slice (some a2) m c2]).run P w = .ok (.slice (some ⟨b, 0, none⟩) (k + m) c) (w.setCells b (k * i.size) news) := by
      simp [Builtin.append_, run_underlying hu, sizeOf, typeInfo, e1, Builtin.lenOf, hroom, hf, addr_add, q1]
    rw [hr]
    have hsp : spl xs (k * i.size) news = xs ++ news := by
      unfold spl
      rw [List.take_of_length_le (by omega), List.drop_of_length_le (by omega), List.append_nil]
    simp only [hsp] at q2
    refine ⟨_, _, h b c (fresh_del (fun a v ha => (hv.ro a v ha).2) hb) hroom, g.put hn _, ?_⟩
    rw [del_set]; exact q2
  · have hfit' : Builtin.nextslicecap (k + m) c * i.bytes ≤ 281474976710656 := growslice_fits (by omega) hfit
    have hr := run_append_grow (P := P) w T ty e i v hu e1 e2 ⟨b, 0, none⟩ k c xs hxs (fun j u hj => hv.rd (by rw [addr_add, Nat.zero_add, rd_own hb]; exact hj)) a2 m c2 news hnl (fun j u hj => hnews w hv j u hj) (by omega) (by omega) hfit'
    rw [hr]
    have hge := grownCap_ge w (k + m) c e
    have hvd : View S w.drew := hv.drawn _
    have hst := Step.allocP hvd e (xs.toArray ++ news.toArray ++ Builtin.zeroCells v.cells (grownCap w (k + m) c e - (k + m))) (xs ++ news) (grownCap w (k + m) c e * i.size) (by simp [List.append_assoc]) (by
      simp only [Array.size_append, List.size_toArray, size_zeroCells, hz', hxs, hnl, ← Nat.add_mul]
      exact Nat.mul_le_mul_right _ (by omega))
    refine ⟨_, _, h w.heap.size (grownCap w (k + m) c e) (hv.freshAt.less (Less.del S b)) hge, g.put hn _, ?_⟩
    exact ((Step.drawn hv _).trans hst).less (less_del S b _ _)
theorem ARun.appendNilK {os : List Oper} {T e : TypeId} {n y : Nat} {z : List Value} {x1 x2 : Operand} {news : List Value} {a2 : Addr} {m c2 d : Nat} (hn : d < N) (hT : slT P T = some (e, n, y, z)) (hz : z.length = n)
    (hx : ev E x1 = some (.slice none 0 0)) (hy : ev E x2 = some (.slice (some a2) m c2)) (hnews : S.Knows a2 news) (hnl : news.length = m * n) (hm : 0 < m) (hfit : m * y ≤ 140737488355328) (h63 : m ≤ 9223372036854775807)
    (h : ∀ b' c', Fresh S b' → m ≤ c' → ARun P N ops os K ((d, .slice (some ⟨b', 0, none⟩) m c') :: E) (S.set b' ⟨e, news, c' * n⟩)) :
    ARun P N ops (⟨some d, .call ⟨.builtin .append, #[x1, x2], #[T, T]⟩, ty, pos, aft, none⟩ :: os) K E S := fun a w g hv => by
  rw [if_pos (by simp [Region.wanted])]
  obtain ⟨hu, i, v, e1, e2, rfl, rfl, rfl⟩ := slT_spec hT
  have hz' : v.cells.size = i.size := by simpa using hz
  have hex : (execOp a.eval ⟨some d, .call ⟨.builtin .append, #[x1, x2], #[T, T]⟩, ty, pos, aft, none⟩).run P w = ((Builtin.append_ #[T, T] ty #[.slice none 0 0, .slice (some a2) m c2]).run P w).andThen fun v w' => .ok (.value v) w' := by
    simp [execOp, resolve, invoke, builtin, g.ev hx, g.ev hy]
  unfold Oper.wp
  rw [hex, run_append_nil (P := P) w T ty e i v hu e1 e2 a2 m c2 news hnl (fun j u hj => hnews w hv j u hj) hm (by omega) (by omega)]
  have hge := grownCap_ge w m 0 e
  have hvd : View S w.drew := hv.drawn _
  have hst := Step.allocP hvd e (news.toArray ++ Builtin.zeroCells v.cells (grownCap w m 0 e - m)) news (grownCap w m 0 e * i.size) (by simp) (by
    simp only [Array.size_append, List.size_toArray, size_zeroCells, hz', hnl, ← Nat.add_mul]
    exact Nat.mul_le_mul_right _ (by omega))
  exact ⟨_, _, h w.heap.size (grownCap w m 0 e) hv.freshAt hge, g.put hn _, (Step.drawn hv _).trans hst⟩
/-- copy into a block of one's own. -/
theorem ARun.copyK {os : List Oper} {T T2 e : TypeId} {n y : Nat} {z : List Value} {x1 x2 : Operand} {b o k c : Nat} {r : Blk} {news : List Value} {a2 : Addr} {m c2 q d : Nat} (hn : d < N) (hT : slT P T = some (e, n, y, z))
    (hx : ev E x1 = some (.slice (some ⟨b, o, none⟩) k c)) (hb : S.own b = some r) (ho : o ≤ r.cells.length)
    (hy : ev E x2 = some (.slice (some a2) m c2)) (hq : q = min m k) (hnews : S.Knows a2 news) (hnl : news.length = q * n) (h1 : ∀ v ∈ news, v.oneCell' = true) (hfit : o + news.length ≤ r.cells.length ∨ o + news.length ≤ r.room)
    (h : ARun P N ops os K ((d, .int .i64 (q : Int)) :: E) (S.set b ⟨r.elem, spl r.cells o news, r.room⟩)) :
    ARun P N ops (⟨some d, .call ⟨.builtin .copy, #[x1, x2], #[T, T2]⟩, ty, pos, aft, none⟩ :: os) K E S := fun a w g hv => by
  rw [if_pos (by simp [Region.wanted])]
  obtain ⟨hu, i, v, e1, e2, rfl, rfl, rfl⟩ := slT_spec hT
  have hex : (execOp a.eval ⟨some d, .call ⟨.builtin .copy, #[x1, x2], #[T, T2]⟩, ty, pos, aft, none⟩).run P w = ((Builtin.copy_ #[T, T2] ty #[.slice (some ⟨b, o, none⟩) k c, .slice (some a2) m c2]).run P w).andThen fun v w' => .ok (.value v) w' := by
    simp [execOp, resolve, invoke, builtin, g.ev hx, g.ev hy]
  unfold Oper.wp
  rw [hex]
  obtain ⟨q1, q2⟩ := store_cells (P := P) hv hb (vs := news) (o := o) ho hfit h1
  have hf := run_firstCells_some (P := P) w i.size q a2 m c2 news hnl (fun j u hj => hnews w hv j u hj)
  have hq' : Nat.min m k = q := hq.symm
  have hr : (Builtin.copy_ #[T, T2] ty #[.slice (some ⟨b, o, none⟩) k c, .slice (some a2) m c2]).run P w = .ok (.int .i64 (q : Int)) (w.setCells b o news) := by
    simp [Builtin.copy_, run_underlying hu, sizeOf, typeInfo, e1, Builtin.lenOf, hq', hf, q1, goInt]
  rw [hr]
  exact ⟨_, _, h, g.put hn _, q2⟩
/-- clear of a part of a block of one's own. -/
theorem ARun.clearK {os : List Oper} {T e : TypeId} {n y : Nat} {z : List Value} {x1 : Operand} {b o k c : Nat} {r : Blk} (hT : slT P T = some (e, n, y, z)) (hz : z.length = n) (hz1 : ∀ v ∈ z, v.oneCell' = true)
    (hx : ev E x1 = some (.slice (some ⟨b, o, none⟩) k c)) (hb : S.own b = some r) (ho : o ≤ r.cells.length) (hfit : o + k * n ≤ r.cells.length ∨ o + k * n ≤ r.room)
    (h : ∀ zs : List Value, zs.length = k * n → ARun P N ops os K E (S.set b ⟨r.elem, spl r.cells o zs, r.room⟩)) :
    ARun P N ops (⟨none, .call ⟨.builtin .clear, #[x1], #[T]⟩, ty, pos, aft, none⟩ :: os) K E S := fun a w g hv => by
  rw [if_pos (by simp [Region.wanted])]
  obtain ⟨hu, i, v, e1, e2, rfl, rfl, rfl⟩ := slT_spec hT
  have hz' : v.cells.size = i.size := by simpa using hz
  have hex : (execOp a.eval ⟨none, .call ⟨.builtin .clear, #[x1], #[T]⟩, ty, pos, aft, none⟩).run P w = ((Builtin.clear_ #[T] ty #[.slice (some ⟨b, o, none⟩) k c]).run P w).andThen fun v w' => .ok (.value v) w' := by
    simp [execOp, resolve, invoke, builtin, g.ev hx]
  unfold Oper.wp
  rw [hex]
  have hzl : (Builtin.zeroCells v.cells k).toList.length = k * i.size := by rw [Array.length_toList, size_zeroCells, hz']
  have h1 : ∀ u ∈ (Builtin.zeroCells v.cells k).toList, u.oneCell' = true := fun u hu => by
    simp only [Builtin.zeroCells, Array.toList_map, List.mem_map, Array.toList_range, List.mem_range] at hu
    obtain ⟨j, hj, rfl⟩ := hu
    have hp : 0 < v.cells.size := by
      rcases Nat.eq_zero_or_pos v.cells.size with h0 | h0
      · rw [h0] at hj; omega
      · exact h0
    have hlt : j % v.cells.size < v.cells.size := Nat.mod_lt _ hp
    have e0 : v.cells[j % v.cells.size]! = v.cells[j % v.cells.size] := getElem!_pos v.cells _ hlt
    rw [e0]
    exact hz1 _ (by simp)
  obtain ⟨q1, q2⟩ := store_cells (P := P) hv hb (vs := (Builtin.zeroCells v.cells k).toList) (o := o) ho (by rw [hzl]; exact hfit) h1
  have hr : (Builtin.clear_ #[T] ty #[.slice (some ⟨b, o, none⟩) k c]).run P w = .ok (.tuple #[]) (w.setCells b o (Builtin.zeroCells v.cells k).toList) := by
    by_cases hk : k = 0
    · subst hk
      have : (Builtin.zeroCells v.cells 0).toList = [] := by apply List.eq_nil_of_length_eq_zero; rw [hzl]; simp
      rw [this]
      simp [Builtin.clear_, run_underlying hu, World.setCells]
    · obtain ⟨k', rfl⟩ : ∃ k', k = k' + 1 := ⟨k - 1, by omega⟩
      have hzv : (zeroValue e).run P w = .ok v w := by simp [zeroValue, typeInfo, e1, e2]
      simp [Builtin.clear_, run_underlying hu, hzv, q1]
  rw [hr]
  exact ⟨_, _, h _ hzl, g.put0 _, q2⟩
theorem Calm.cap {T e : TypeId} {x : Operand} {a : Option Addr} {k c : Nat} {dst : Option Nat} (hT : P.underlying T = some (.slice e)) (hx : ev E x = some (.slice a k c)) : ACalm P N ⟨dst, .call ⟨.builtin .cap, #[x], #[T]⟩, ty, pos, aft, gd⟩ E S (.int .i64 (c : Int)) := fun ac w g hv => by
  simp [execOp, resolve, invoke, builtin, g.ev hx, Builtin.cap_, run_underlying hT, goInt]
end
/-! ### Appending to a slice of one's own -/
/-- The first m things of a slice that is known. -/
def Src (M : Mem) (v : Value) (m : Nat) (news : List Value) : Prop := ∃ A c, v = .slice A m c ∧ (m = 0 ∨ ∃ a, A = some a ∧ M.Knows a news)
theorem Src.less {M M' : Mem} {v : Value} {m : Nat} {news : List Value} (h : Src M v m news) (hl : M.Less M') : Src M' v m news := by
  obtain ⟨A, c, e, h⟩ := h
  exact ⟨A, c, e, h.imp id fun ⟨a, e2, k⟩ => ⟨a, e2, k.less hl⟩⟩
theorem flat_split {α : Type} {n : Nat} {f : α → List Value} (hn : ∀ x, (f x).length = n) : ∀ (l : List α) (j : Nat) (v : Value), (l.flatMap f)[j]? = some v → ∃ (i q : Nat) (h : i < l.length), j = i * n + q ∧ q < n ∧ (f l[i])[q]? = some v
  | [], j, v, h => by simp at h
  | x :: l, j, v, h => by
    rw [List.flatMap_cons] at h
    by_cases hj : j < (f x).length
    · rw [List.getElem?_append_left hj] at h
      rw [hn] at hj
      exact ⟨0, j, by simp, by omega, hj, h⟩
    · rw [List.getElem?_append_right (by omega)] at h
      rw [hn] at hj h
      obtain ⟨i, q, hi, e, hq, hv⟩ := flat_split hn l (j - n) v h
      exact ⟨i + 1, q, by simpa using hi, by rw [Nat.succ_mul]; omega, hq, by simpa using hv⟩
theorem Sl.allN {α : Type} {n : Nat} {f : α → List Value} (hn : ∀ x, (f x).length = n) {S : Mem} {b off : Nat} {len cap : Nat} {l : List α} (h : Sl n f S (.slice (some ⟨b, off, none⟩) len cap) l) : S.Knows ⟨b, off, none⟩ (l.flatMap f) := fun w hv j v hj => by
  obtain ⟨i, q, hi, rfl, hq, hx⟩ := flat_split hn l j v hj
  have := h.at1 i hi w hv q v hx
  rw [addr_add] at this ⊢
  rw [← this]; congr 2; omega
theorem Sl.src {α : Type} {n : Nat} {f : α → List Value} (hn : ∀ x, (f x).length = n) {S : Mem} {v : Value} {l : List α} (h : Sl n f S v l) : Src S v l.length (l.flatMap f) := by
  obtain ⟨a, c, rfl, _, _, h4⟩ := id h
  refine ⟨a, c, rfl, ?_⟩
  rcases h4 with rfl | ⟨b, off, rfl, _⟩
  · left; rfl
  · right; exact ⟨_, rfl, Sl.allN hn h⟩
structure AppN (n : Nat) (M S : Mem) (o : Option (Nat × Nat)) (e : TypeId) (cs : List Value) : Prop where
  nil : o = none → cs = [] ∧ S.Less M
  own : ∀ b c, o = some (b, c) → M.own b = some ⟨e, cs, c * n⟩ ∧ S.Less (M.del b)
theorem appN_self {n : Nat} {S : Mem} {o : Option (Nat × Nat)} {k : Nat} {e : TypeId} {cs : List Value} (h : OkO S o k) (hn : cs.length = k * n) : AppN n (outN n S o e cs) S o e cs := by
  refine ⟨fun ho => ?_, fun b c ho => ?_⟩
  · subst ho
    exact ⟨List.eq_nil_of_length_eq_zero (by rw [hn, h.nil rfl, Nat.zero_mul]), Mem.Less.refl _⟩
  · subst ho
    refine ⟨Mem.own_set_same _ _ _, ?_⟩
    rw [show (outN n S (some (b, c)) e cs).del b = S from set_del_same' (del_base (h.own b c rfl).1)]
    exact Mem.Less.refl _
section
variable {P : Program} {N : Nat} {ops : Array Oper} {E : Env} {S M : Mem} {K : Env → Mem → Prop}
variable {ty : TypeId} {pos : String} {aft : Array Edge} {gd : Option (Nat × Bool)}
theorem ARun.appendOK {os : List Oper} {T e : TypeId} {n y : Nat} {z : List Value} {x1 x2 : Operand} {o : Option (Nat × Nat)} {k m d : Nat} {cs news : List Value} {v : Value} (hn : d < N) (hT : slT P T = some (e, n, y, z)) (hz : z.length = n)
    (hx : ev E x1 = some (outV o k)) (hcs : cs.length = k * n) (hok : OkO S o k) (happ : AppN n M S o e cs) (hy : ev E x2 = some v) (hv : Src M v m news) (hnl : news.length = m * n) (h1 : ∀ v ∈ news, v.oneCell' = true) (hfit : (k + m) * y ≤ 140737488355328) (h63 : k + m ≤ 9223372036854775807)
    (h : ∀ o', OkO S o' (k + m) → ARun P N ops os K ((d, outV o' (k + m)) :: E) (outN n S o' e (cs ++ news))) :
    ARun P N ops (⟨some d, .call ⟨.builtin .append, #[x1, x2], #[T, T]⟩, ty, pos, aft, none⟩ :: os) K E M := by
  obtain ⟨A, c2, rfl, hv⟩ := hv
  by_cases hm : m = 0
  · subst hm
    obtain rfl : news = [] := List.eq_nil_of_length_eq_zero (by rw [hnl, Nat.zero_mul])
    have h2 := h o hok
    rw [Nat.add_zero, List.append_nil] at h2
    refine AOp.toLess (K := fun E' S' => ARun P N ops os K E' S') ?_
    cases o with
    | none =>
      have h0 := hok.nil rfl; subst h0
      exact ARun.appendNone (os := []) hn hT (Nat.le_refl 0) hx hy ⟨S, (happ.nil rfl).2, h2⟩
    | some q =>
      obtain ⟨b, c⟩ := q
      obtain ⟨p1, p2⟩ := happ.own b c rfl
      refine ARun.appendNone (os := []) hn hT (hok.own b c rfl).2 hx hy ⟨_, ?_, h2⟩
      refine ⟨fun k' r hk => ?_, p2.2⟩
      by_cases ek : k' = b
      · subst ek; rw [show (outN n S (some (k', c)) e cs).own k' = _ from Mem.own_set_same _ _ _] at hk; rw [p1]; exact hk
      · rw [show (outN n S (some (b, c)) e cs).own k' = _ from Mem.own_set_other _ _ ek] at hk
        have := p2.1 _ _ hk
        rwa [Mem.own_del_other _ ek] at this
  · obtain ⟨a2, rfl, hk⟩ := hv.resolve_left hm
    cases o with
    | none =>
      have h0 := hok.nil rfl; subst h0
      obtain ⟨q1, q2⟩ := happ.nil rfl
      subst q1
      refine AOp.toLess (K := fun E' S' => ARun P N ops os K E' S') ?_
      refine ARun.appendNilK (os := []) hn hT hz hx hy hk hnl (by omega) (by simpa using hfit) (by omega) fun b c hb hc => ?_
      refine ⟨S.set b ⟨e, news, c * n⟩, Less.set q2 _ _, ?_⟩
      have := h (some (b, c)) ⟨(fun x => by cases x), fun b' c' x => by cases x; exact ⟨hb.less q2, by omega⟩⟩
      simpa [outN, outV] using this
    | some q =>
      obtain ⟨b0, c0⟩ := q
      obtain ⟨q1, q2⟩ := happ.own b0 c0 rfl
      refine AOp.toLess (K := fun E' S' => ARun P N ops os K E' S') ?_
      refine ARun.appendRunK (os := []) hn hT hz hx q1 hcs hy hk hnl h1 hfit h63 fun b c hb hc => ?_
      refine ⟨S.set b ⟨e, cs ++ news, c * n⟩, Less.set q2 _ _, ?_⟩
      exact h (some (b, c)) ⟨(fun x => by cases x), fun b' c' x => by cases x; exact ⟨hb.less q2, hc⟩⟩
end
section
variable {P : Program} {N : Nat} {ops : Array Oper} {E : Env} {S : Mem} {K : Env → Mem → Prop}
variable {ty : TypeId} {pos : String} {aft : Array Edge} {gd : Option (Nat × Bool)}
end
section
variable {P : Program} {N : Nat} {E : Env} {S : Mem} {dst : Option Nat} {ty : TypeId} {pos : String} {aft : Array Edge} {gd : Option (Nat × Bool)}
theorem Calm.sliceLo {T e : TypeId} {x lo : Operand} {kd : IntKind} {j : Int} {b o len cap n : Nat} (l : Nat) (hT : P.underlying T = some (.slice e)) (he : sizeT P e = some n) (hx : ev E x = some (.slice (some ⟨b, o, none⟩) len cap)) (hlo : ev E lo = some (.int kd j)) (hj : j = (l : Int)) (h1 : l ≤ len) (h2 : l < cap) :
    ACalm P N ⟨dst, .slice T x (some lo) none none, ty, pos, aft, gd⟩ E S (.slice (some ⟨b, o + l * n, none⟩) (len - l) (cap - l)) := by
  subst hj
  have := Calm.sliceSl (S := S) (N := N) (dst := dst) (ty := ty) (pos := pos) (aft := aft) (gd := gd) hT he hx (bnd_none cap cap) (by simp) (bnd_none len cap) (bnd_some 0 len hlo (by omega) (by omega))
  rw [Int.toNat_natCast, if_neg (by omega)] at this
  exact this
end
end Mv
end Go.Proofs.Ytgidjbpgkeemiaa
namespace Go.Proofs
open Go.Shelf
def Try.lays125_ren : Go.Shelf.Ren := ⟨fun | 125 => 122 | 128 => 155 | 129 => 156 | n => n, fun | 46 => 139 | 3 => 3 | 51 => 166 | 53 => 41 | 4 => 4 | 5 => 5 | 9 => 9 | n => n, fun | n => n⟩
theorem Try.lays125 : Go.Proofs.Lays.n125 Try.prog Try.lays125_ren := {
  mixed := by kernel_rfl
  f125 := Try.func122.trans (congrArg some (by kernel_rfl))
  f128 := Try.func155.trans (congrArg some (by kernel_rfl))
  f129 := Try.func156.trans (congrArg some (by kernel_rfl))
  t3 := Try.underlying3
  a3 := Try.isAgg3
  z3 := Try.sizeOf3
  v3 := Try.zeroValue3
  t4 := Try.underlying4
  a4 := Try.isAgg4
  z4 := Try.sizeOf4
  v4 := Try.zeroValue4
  t5 := Try.underlying5
  a5 := Try.isAgg5
  z5 := Try.sizeOf5
  v5 := Try.zeroValue5
  t9 := Try.underlying9
  a9 := Try.isAgg9
  z9 := Try.sizeOf9
  v9 := Try.zeroValue9
  t46 := Try.underlying139
  a46 := Try.isAgg139
  z46 := Try.sizeOf139
  v46 := Try.zeroValue139
  t51 := Try.underlying166
  a51 := Try.isAgg166
  z51 := Try.sizeOf166
  v51 := Try.zeroValue166
  t53 := Try.underlying41
  a53 := Try.isAgg41
  z53 := Try.sizeOf41
  v53 := Try.zeroValue41 }
/-- bits.Len: "Len returns the minimum number of bits required to represent x; the result is 0 for x == 0.": IT RETURNS 'Lib.bitLen x'; the world is as it was. (A uint has 64 bits in the model.) ITS CALLEE bits.Len64 IS MET BY ITS OWN CONTRACT OFF THE SHELF (lay that first). (LAID: no walk: one application.) -/
theorem Try.bits_Len (x : Int) (w : World) (h0 : 0 ≤ x) (h1 : x ≤ 18446744073709551615) :
    Calls Try.prog 122 #[.int .u64 x] w fun e w' => e = .returned (.int .i64 (Lib.bitLen x.toNat)) ∧ w' = w := Any.bits_Len Try.lays125 x w h0 h1
def Try.lays212_ren : Go.Shelf.Ren := ⟨fun | 212 => 129 | 263 => 162 | 264 => 163 | n => n, fun | 46 => 139 | 51 => 166 | 146 => 171 | 53 => 41 | 148 => 173 | n => n, fun | n => n⟩
theorem Try.lays212 : Go.Proofs.Lays.n212 Try.prog Try.lays212_ren := {
  mixed := by kernel_rfl
  f212 := Try.func129.trans (congrArg some (by kernel_rfl))
  f263 := Try.func162.trans (congrArg some (by kernel_rfl))
  f264 := Try.func163.trans (congrArg some (by kernel_rfl))
  t46 := Try.underlying139
  a46 := Try.isAgg139
  z46 := Try.sizeOf139
  v46 := Try.zeroValue139
  t51 := Try.underlying166
  a51 := Try.isAgg166
  z51 := Try.sizeOf166
  v51 := Try.zeroValue166
  t53 := Try.underlying41
  a53 := Try.isAgg41
  z53 := Try.sizeOf41
  v53 := Try.zeroValue41
  t146 := Try.underlying171
  a146 := Try.isAgg171
  z146 := Try.sizeOf171
  v146 := Try.zeroValue171
  t148 := Try.underlying173
  a148 := Try.isAgg173
  z148 := Try.sizeOf173
  v148 := Try.zeroValue173 }
open Go.RowKit Go.Lib in
/-- math/bits.Mul: "Mul returns the full-width product of x and y": on a machine of 64 bits: Mul64's. (LAID: no walk: one application.) -/
theorem Try.bits_Mul (x y : Nat) (hx : x < 18446744073709551616) (hy : y < 18446744073709551616) (w : World) :
    Calls Try.prog 129 #[.int .u64 x, .int .u64 y] w fun e w' => e = .returned (.tuple #[.int .u64 ((x * y / 18446744073709551616 : Nat) : Int), .int .u64 ((x * y % 18446744073709551616 : Nat) : Int)]) ∧ w' = w := Any.bits_Mul Try.lays212 x y hx hy w
end Go.Proofs
namespace Go.Proofs.Ytgidjbpgkeemiaa
set_option linter.unusedVariables false
namespace Loser
open Num
theorem lessB_trans (a b c : List Nat) (h1 : lessB a b = true) (h2 : lessB b c = true) : lessB a c = true := by
  induction a generalizing b c with
  | nil => cases b with
    | nil => simp [lessB] at h1
    | cons y b => cases c with
      | nil => simp [lessB] at h2
      | cons z c => rfl
  | cons x a ih =>
    cases b with
    | nil => simp [lessB] at h1
    | cons y b =>
      cases c with
      | nil => simp [lessB] at h2
      | cons z c =>
        simp only [lessB, Bool.or_eq_true, decide_eq_true_eq, Bool.and_eq_true] at h1 h2 ⊢
        rcases h1 with h1 | ⟨h1, h1'⟩ <;> rcases h2 with h2 | ⟨h2, h2'⟩
        · left; omega
        · left; omega
        · left; omega
        · right; exact ⟨by omega, ih b c h1' h2'⟩
def key (ks : List (List Nat)) (a : Nat) : List Nat := ks.getD a []
end Loser
end Go.Proofs.Ytgidjbpgkeemiaa
namespace Go.Proofs.Ytgidjbpgkeemiaa
open Num Loser
set_option linter.unusedVariables false
namespace Ord
/-! ### A list's ends -/
/-- The end at a is less than that at b. -/
def sl (l : List Nat) (a b : Nat) : Bool := lessB (l.drop a) (l.drop b)
theorem sl_irrefl (l : List Nat) (a : Nat) : sl l a a = false := lessB_irrefl _
theorem sl_asymm (l : List Nat) (a b : Nat) (h : sl l a b = true) : sl l b a = false := lessB_asymm _ _ h
theorem sl_trans (l : List Nat) (a b c : Nat) (h1 : sl l a b = true) (h2 : sl l b c = true) : sl l a c = true := lessB_trans _ _ _ h1 h2
theorem sl_total (l : List Nat) (a b : Nat) (ha : a < l.length) (hb : b < l.length) (h1 : sl l a b = false) (h2 : sl l b a = false) : a = b := by
  have h := congrArg List.length (lessB_total _ _ h1 h2)
  simp only [List.length_drop] at h; omega
/-- Step by step: first the number, then what is behind it. -/
theorem sl_step (l : List Nat) (a b : Nat) (ha : a < l.length) (hb : b < l.length) : sl l a b = (decide (l[a] < l[b]) || (decide (l[a] = l[b]) && sl l (a + 1) (b + 1))) := by
  unfold sl
  rw [List.drop_eq_getElem_cons ha, List.drop_eq_getElem_cons hb, lessB]
theorem sl_end (l : List Nat) (a b : Nat) (ha : l.length ≤ a) : sl l a b = decide (b < l.length) := by
  unfold sl
  rw [List.drop_eq_nil_of_le ha]
  by_cases hb : b < l.length
  · rw [List.drop_eq_getElem_cons hb]; simp [lessB, hb]
  · rw [List.drop_eq_nil_of_le (by omega)]; simp [lessB, hb]
theorem sl_no (l : List Nat) (a b : Nat) (hb : l.length ≤ b) : sl l a b = false := by
  unfold sl
  rw [List.drop_eq_nil_of_le hb]
  cases l.drop a <;> rfl

/-! ### Sorted: there is one -/
/-- Two lists of the same things, each in order by a strict order, are one. -/
theorem sorted_one (R : Nat → Nat → Prop) (hi : ∀ a, ¬R a a) (ht : ∀ a b c, R a b → R b c → R a c) : ∀ (x y : List Nat), x.Perm y → x.Pairwise R → y.Pairwise R → x = y := by
  intro x
  induction x with
  | nil => intro y h _ _; exact (List.nil_perm.1 h).symm
  | cons a x ih =>
    intro y h hx hy
    cases y with
    | nil => exact absurd h.symm (List.not_perm_nil_cons _ _)
    | cons b y =>
      obtain ⟨hx1, hx2⟩ := List.pairwise_cons.1 hx
      obtain ⟨hy1, hy2⟩ := List.pairwise_cons.1 hy
      have e : a = b := by
        rcases List.mem_cons.1 (h.mem_iff.1 (List.mem_cons_self (a := a) (l := x))) with e | e
        · exact e
        · rcases List.mem_cons.1 (h.mem_iff.2 (List.mem_cons_self (a := b) (l := y))) with e' | e'
          · exact e'.symm
          · exact absurd (ht _ _ _ (hx1 b e') (hy1 a e)) (hi a)
      subst e
      rw [ih y ((List.perm_cons a).1 h) hx2 hy2]
/-- Ends in order. -/
def SortedE (l e : List Nat) : Prop := e.Perm (List.range l.length) ∧ e.Pairwise (fun a b => sl l a b = true)
theorem sortedE_one {l e e' : List Nat} (h : SortedE l e) (h' : SortedE l e') : e = e' :=
  sorted_one (fun a b => sl l a b = true) (fun a h => by rw [sl_irrefl] at h; cases h) (fun a b c => sl_trans l a b c) _ _ (h.1.trans h'.1.symm) h.2 h'.2
theorem SortedE.len {l e : List Nat} (h : SortedE l e) : e.length = l.length := by rw [h.1.length_eq, List.length_range]
theorem SortedE.lt {l e : List Nat} (h : SortedE l e) {a : Nat} (ha : a ∈ e) : a < l.length := List.mem_range.1 (h.1.mem_iff.1 ha)

/-! ### The document's: each end is put where it belongs -/
/-- The place that is reached from at on downwards. -/
def insAt (l out : List Nat) (i : Nat) : Nat → Nat
  | 0 => 0
  | at' + 1 => if sl l i (out.getD at' 0) then insAt l out i at' else at' + 1
def insE (l out : List Nat) (i : Nat) : List Nat := out.take (insAt l out i out.length) ++ i :: out.drop (insAt l out i out.length)
def endsR (l : List Nat) : Nat → List Nat
  | 0 => []
  | i + 1 => insE l (endsR l i) i
theorem insAt_le (l out : List Nat) (i : Nat) : ∀ n, insAt l out i n ≤ n
  | 0 => Nat.le_refl _
  | n + 1 => by
    rw [insAt]; split
    · exact Nat.le_succ_of_le (insAt_le l out i n)
    · exact Nat.le_refl _
theorem insAt_hi (l out : List Nat) (i : Nat) : ∀ n k, insAt l out i n ≤ k → k < n → sl l i (out.getD k 0) = true
  | 0, k, _, h => absurd h (Nat.not_lt_zero _)
  | n + 1, k, h1, h2 => by
    rw [insAt] at h1; split at h1
    · rename_i hs
      rcases Nat.lt_or_ge k n with h | h
      · exact insAt_hi l out i n k h1 h
      · obtain rfl : k = n := by omega
        exact hs
    · omega
theorem insAt_lo (l out : List Nat) (i : Nat) : ∀ n, 0 < insAt l out i n → sl l i (out.getD (insAt l out i n - 1) 0) = false
  | 0, h => absurd h (Nat.not_lt_zero _)
  | n + 1, h => by
    rw [insAt] at h ⊢; split at h
    · rename_i hs; rw [if_pos hs]; exact insAt_lo l out i n h
    · rename_i hs; rw [if_neg hs]; simpa using hs
theorem endsR_perm (l : List Nat) : ∀ i, (endsR l i).Perm (List.range i)
  | 0 => List.Perm.refl _
  | i + 1 => by
    rw [endsR, insE, List.range_succ]
    refine List.perm_middle.trans ?_
    rw [List.take_append_drop]
    exact ((endsR_perm l i).cons i).trans (List.perm_append_singleton i _).symm
theorem endsR_sorted (l : List Nat) : ∀ i, i ≤ l.length → (endsR l i).Pairwise (fun a b => sl l a b = true)
  | 0, _ => List.Pairwise.nil
  | i + 1, hi => by
    have ih := endsR_sorted l i (by omega)
    have hp := endsR_perm l i
    have hmem : ∀ a ∈ endsR l i, a < i := fun a ha => List.mem_range.1 (hp.mem_iff.1 ha)
    rw [endsR, insE]
    generalize endsR l i = out at *
    have hat := insAt_le l out i out.length
    have hhi := insAt_hi l out i out.length
    have hlo := insAt_lo l out i out.length
    generalize insAt l out i out.length = k at *
    have e := List.take_append_drop k out
    have hpw : (out.take k ++ out.drop k).Pairwise (fun a b => sl l a b = true) := by rw [e]; exact ih
    obtain ⟨p1, p2, p3⟩ := List.pairwise_append.1 hpw
    have hlow : ∀ a ∈ out.take k, sl l a i = true := by
      intro a ha
      have hm : a ∈ out := List.mem_of_mem_take ha
      obtain ⟨j, hj, rfl⟩ := List.getElem_of_mem ha
      have hk : j < k ∧ j < out.length := by rw [List.length_take] at hj; omega
      have h0 := hlo (by omega)
      have hlast : sl l out[k - 1] i = true := by
        have hn : out[k - 1] ≠ i := fun h => by have := hmem out[k - 1] (List.getElem_mem _); omega
        rw [List.getD_eq_getElem?_getD, List.getElem?_eq_getElem (by omega), Option.getD_some] at h0
        cases hc : sl l out[k - 1] i with
        | true => rfl
        | false => exact absurd (sl_total l _ _ (by have := hmem out[k - 1] (List.getElem_mem _); omega) (by omega) hc h0) hn
      simp only [List.getElem_take]
      rcases Nat.lt_or_ge j (k - 1) with h | h
      · exact sl_trans l _ _ _ (List.pairwise_iff_getElem.1 ih j (k - 1) hk.2 (by omega) h) hlast
      · obtain rfl : j = k - 1 := by omega
        exact hlast
    have hhigh : ∀ a ∈ out.drop k, sl l i a = true := by
      intro a ha
      obtain ⟨j, hj, rfl⟩ := List.getElem_of_mem ha
      have hk : j + k < out.length := by simp at hj; omega
      have := hhi (k + j) (by omega) (by omega)
      rw [List.getD_eq_getElem?_getD, List.getElem?_eq_getElem (by omega), Option.getD_some] at this
      simpa only [List.getElem_drop] using this
    refine List.pairwise_append.2 ⟨p1, List.pairwise_cons.2 ⟨hhigh, p2⟩, fun a ha b hb => ?_⟩
    rcases List.mem_cons.1 hb with rfl | hb
    · exact hlow a ha
    · exact p3 a ha b hb
theorem endsR_ok (l : List Nat) : SortedE l (endsR l l.length) := ⟨endsR_perm l _, endsR_sorted l _ (Nat.le_refl _)⟩

/-! ### Right: each is less than the next one by its first number, or by the place of what is behind that -/
/-- The place of what is behind, and one; 0: nothing is behind. -/
def behind (n : Nat) (at_ : Nat → Nat) (a : Nat) : Nat := if a + 1 < n then at_ (a + 1) + 1 else 0
def stepR (l : List Nat) (at_ : Nat → Nat) (a b : Nat) : Prop := l.getD a 0 < l.getD b 0 ∨ l.getD a 0 = l.getD b 0 ∧ behind l.length at_ a < behind l.length at_ b
theorem stepR_trans (l : List Nat) (at_ : Nat → Nat) (a b c : Nat) (h1 : stepR l at_ a b) (h2 : stepR l at_ b c) : stepR l at_ a c := by
  unfold stepR at *; omega
theorem chain_lt {R : Nat → Nat → Prop} (ht : ∀ a b c, R a b → R b c → R a c) (e : List Nat) (h : ∀ k (hk : k + 1 < e.length), R (e[k]'(by omega)) e[k + 1]) : ∀ (i j : Nat) (hj : j < e.length) (hij : i < j), R (e[i]'(by omega)) e[j] := by
  intro i j
  induction j with
  | zero => intro _ h; omega
  | succ j ih =>
    intro hj hij
    rcases Nat.lt_or_ge i j with h' | h'
    · exact ht _ _ _ (ih (by omega) h') (h j hj)
    · obtain rfl : i = j := by omega
      exact h i hj
/-- All steps hold: the ends are in order. -/
theorem right_sorted (l e : List Nat) (at_ : Nat → Nat) (hp : e.Perm (List.range l.length)) (hat : ∀ k (hk : k < e.length), at_ e[k] = k) (h : ∀ k (hk : k + 1 < e.length), stepR l at_ (e[k]'(by omega)) e[k + 1]) : SortedE l e := by
  have hlen : e.length = l.length := by rw [hp.length_eq, List.length_range]
  have hch := chain_lt (stepR_trans l at_) e h
  have hlt : ∀ k (hk : k < e.length), e[k] < l.length := fun k hk => List.mem_range.1 (hp.mem_iff.1 (List.getElem_mem hk))
  have hall : ∀ a, a < l.length → at_ a < e.length ∧ e.getD (at_ a) 0 = a := by
    intro a ha
    obtain ⟨k, hk, rfl⟩ := List.getElem_of_mem (hp.mem_iff.2 (List.mem_range.2 ha))
    rw [hat k hk]; exact ⟨hk, by rw [List.getD_eq_getElem?_getD, List.getElem?_eq_getElem hk]; rfl⟩
  have key : ∀ m a b, a < l.length → b < l.length → l.length - a ≤ m → at_ a < at_ b → sl l a b = true := by
    intro m
    induction m with
    | zero => intro a b ha _ hm; omega
    | succ m ih =>
      intro a b ha hb hm hab
      obtain ⟨ha1, ha2⟩ := hall a ha
      obtain ⟨hb1, hb2⟩ := hall b hb
      have hs := hch (at_ a) (at_ b) hb1 hab
      rw [List.getD_eq_getElem?_getD, List.getElem?_eq_getElem ha1, Option.getD_some] at ha2
      rw [List.getD_eq_getElem?_getD, List.getElem?_eq_getElem hb1, Option.getD_some] at hb2
      rw [ha2, hb2] at hs
      rw [sl_step l a b ha hb]
      unfold stepR at hs
      rw [List.getD_eq_getElem?_getD, List.getElem?_eq_getElem ha, Option.getD_some, List.getD_eq_getElem?_getD, List.getElem?_eq_getElem hb, Option.getD_some] at hs
      rcases hs with hs | ⟨hs, hs2⟩
      · simp [hs]
      · have : sl l (a + 1) (b + 1) = true := by
          unfold behind at hs2
          by_cases h1 : a + 1 < l.length
          · rw [if_pos h1] at hs2
            by_cases h2 : b + 1 < l.length
            · rw [if_pos h2] at hs2
              exact ih (a + 1) (b + 1) h1 h2 (by omega) (by omega)
            · rw [if_neg h2] at hs2; omega
          · rw [if_neg h1] at hs2
            rw [sl_end l _ _ (by omega)]
            by_cases h2 : b + 1 < l.length
            · simpa using h2
            · rw [if_neg h2] at hs2; omega
        simp [hs, this]
  refine ⟨hp, List.pairwise_iff_getElem.2 fun i j hi hj hij => ?_⟩
  exact key _ _ _ (hlt i hi) (hlt j hj) (Nat.le_refl _) (by rw [hat i hi, hat j hj]; exact hij)
/-- In order: all steps hold. -/
theorem sorted_right (l e : List Nat) (at_ : Nat → Nat) (hs : SortedE l e) (hat : ∀ k (hk : k < e.length), at_ e[k] = k) (k : Nat) (hk : k + 1 < e.length) : stepR l at_ (e[k]'(by omega)) e[k + 1] := by
  have hlt : ∀ k (hk : k < e.length), e[k] < l.length := fun k hk => hs.lt (List.getElem_mem hk)
  have hall : ∀ a, a < l.length → ∃ k, ∃ hk : k < e.length, e[k] = a ∧ at_ a = k := by
    intro a ha
    obtain ⟨k, hk, rfl⟩ := List.getElem_of_mem (hs.1.mem_iff.2 (List.mem_range.2 ha))
    exact ⟨k, hk, rfl, hat k hk⟩
  have hsl := List.pairwise_iff_getElem.1 hs.2 k (k + 1) (by omega) hk (by omega)
  have ha := hlt k (by omega)
  have hb := hlt (k + 1) hk
  generalize e[k] = a at *
  generalize e[k + 1] = b at *
  rw [sl_step l a b ha hb] at hsl
  unfold stepR
  rw [List.getD_eq_getElem?_getD, List.getElem?_eq_getElem ha, Option.getD_some, List.getD_eq_getElem?_getD, List.getElem?_eq_getElem hb, Option.getD_some]
  simp only [Bool.or_eq_true, decide_eq_true_eq, Bool.and_eq_true] at hsl
  rcases hsl with h | ⟨h, h2⟩
  · exact .inl h
  · refine .inr ⟨h, ?_⟩
    unfold behind
    by_cases h1 : b + 1 < l.length
    · rw [if_pos h1]
      by_cases h3 : a + 1 < l.length
      · rw [if_pos h3]
        obtain ⟨i, hi, ei, e1⟩ := hall (a + 1) h3
        obtain ⟨j, hj, ej, e2⟩ := hall (b + 1) h1
        rw [e1, e2]
        rcases Nat.lt_trichotomy i j with h4 | h4 | h4
        · omega
        · subst h4; rw [← ei, ← ej, sl_irrefl] at h2; cases h2
        · have := sl_asymm l _ _ (List.pairwise_iff_getElem.1 hs.2 j i hj hi h4)
          rw [ei, ej] at this; rw [this] at h2; cases h2
      · rw [if_neg h3]; omega
    · rw [sl_no l _ _ (by omega)] at h2; cases h2

/-! ### Doubling -/
/-- By the first k numbers. -/
def pl (l : List Nat) (k a b : Nat) : Bool := lessB ((l.drop a).take k) ((l.drop b).take k)
theorem lessB_append : ∀ (x y u v : List Nat), (x.length < y.length → u = []) → (y.length < x.length → v = []) → lessB (x ++ u) (y ++ v) = (lessB x y || (decide (x = y) && lessB u v))
  | [], [], u, v, _, _ => by simp [lessB]
  | [], y :: ys, u, v, h, _ => by rw [h (by simp)]; simp [lessB]
  | x :: xs, [], u, v, _, h => by rw [h (by simp)]; simp [lessB]
  | x :: xs, y :: ys, u, v, h1, h2 => by
    have ih := lessB_append xs ys u v (fun h => h1 (by simpa using h)) (fun h => h2 (by simpa using h))
    simp only [List.cons_append, lessB, ih, List.cons.injEq, Bool.decide_and]
    by_cases h : x = y <;> by_cases h' : x < y <;> simp [h, h'] <;> omega
def RK (l : List Nat) (k : Nat) (r : Nat → Nat) : Prop := ∀ a b, a < l.length → b < l.length → (r a < r b ↔ pl l k a b = true)
def beh (n : Nat) (r : Nat → Nat) (k a : Nat) : Nat := if a + k < n then r (a + k) + 1 else 0
theorem RK.eq {l : List Nat} {k : Nat} {r : Nat → Nat} (h : RK l k r) {a b : Nat} (ha : a < l.length) (hb : b < l.length) : r a = r b ↔ (l.drop a).take k = (l.drop b).take k := by
  have h1 := h a b ha hb
  have h2 := h b a hb ha
  unfold pl at h1 h2
  constructor
  · intro e
    refine lessB_total _ _ ?_ ?_
    · cases hc : lessB ((l.drop a).take k) ((l.drop b).take k) with
      | false => rfl
      | true => have := h1.2 hc; omega
    · cases hc : lessB ((l.drop b).take k) ((l.drop a).take k) with
      | false => rfl
      | true => have := h2.2 hc; omega
  · intro e
    rw [e, lessB_irrefl] at h1
    rw [e, lessB_irrefl] at h2
    have h3 : ¬ r a < r b := fun h => Bool.noConfusion (h1.1 h)
    have h4 : ¬ r b < r a := fun h => Bool.noConfusion (h2.1 h)
    omega
theorem pl_double (l : List Nat) (k : Nat) (hk : 0 < k) (r : Nat → Nat) (h : RK l k r) (a b : Nat) (ha : a < l.length) (hb : b < l.length) :
    pl l (k + k) a b = true ↔ r a < r b ∨ r a = r b ∧ beh l.length r k a < beh l.length r k b := by
  have e : ∀ c, (l.drop c).take (k + k) = (l.drop c).take k ++ (l.drop (c + k)).take k := fun c => by rw [List.take_add, List.drop_drop]
  have hu : ∀ c d, ((l.drop c).take k).length < ((l.drop d).take k).length → (l.drop (c + k)).take k = [] := fun c d hlt => by
    rw [List.drop_eq_nil_of_le (by simp only [List.length_take, List.length_drop] at hlt; omega), List.take_nil]
  have hpl : pl l (k + k) a b = (pl l k a b || (decide ((l.drop a).take k = (l.drop b).take k) && pl l k (a + k) (b + k))) := by
    unfold pl; rw [e, e, lessB_append _ _ _ _ (hu a b) (hu b a)]
  rw [hpl]
  simp only [Bool.or_eq_true, Bool.and_eq_true, decide_eq_true_eq]
  rw [← h a b ha hb, ← h.eq ha hb]
  have hbeh : pl l k (a + k) (b + k) = true ↔ beh l.length r k a < beh l.length r k b := by
    unfold beh
    by_cases h2 : b + k < l.length
    · rw [if_pos h2]
      by_cases h1 : a + k < l.length
      · rw [if_pos h1, ← h _ _ h1 h2]; omega
      · rw [if_neg h1]
        unfold pl
        obtain ⟨k', rfl⟩ : ∃ k', k = k' + 1 := ⟨k - 1, by omega⟩
        rw [List.drop_eq_nil_of_le (by omega), List.take_nil, List.drop_eq_getElem_cons h2, List.take_succ_cons]
        simp [lessB]
    · rw [if_neg h2]
      unfold pl
      rw [(show l.drop (b + k) = [] from List.drop_eq_nil_of_le (by omega)), List.take_nil]
      constructor
      · intro h'; cases hc : ((l.drop (a + k)).take k) <;> rw [hc] at h' <;> cases h'
      · intro h'; omega
  rw [hbeh]
/-- Beyond the list's end: the order of ends. -/
theorem pl_all (l : List Nat) (k a b : Nat) (hk : l.length ≤ k) : pl l k a b = sl l a b := by
  unfold pl sl
  rw [List.take_of_length_le (by simp; omega), List.take_of_length_le (by simp; omega)]

/-! ### The ranks that a sorted list gives -/
/-- How many steps up there are among the first i steps. -/
def ups (R : Nat → Nat → Bool) (e : List Nat) : Nat → Nat
  | 0 => 0
  | i + 1 => ups R e i + (if R (e.getD i 0) (e.getD (i + 1) 0) then 1 else 0)
theorem ups_mono (R : Nat → Nat → Bool) (e : List Nat) (i : Nat) : ∀ j, i ≤ j → ups R e i ≤ ups R e j
  | 0, h => by obtain rfl : i = 0 := by omega
               exact Nat.le_refl _
  | j + 1, h => by
    rcases Nat.lt_or_ge i (j + 1) with h' | h'
    · exact Nat.le_trans (ups_mono R e i j (by omega)) (Nat.le_add_right _ _)
    · obtain rfl : i = j + 1 := by omega
      exact Nat.le_refl _
/-- R: a weak order; e: in order by it. -/
theorem ups_lt (R : Nat → Nat → Bool) (hi : ∀ a, R a a = false) (ht : ∀ a b c, R a b = true → R b c = true → R a c = true) (hn : ∀ a b c, R a b = false → R b c = false → R a c = false)
    (e : List Nat) (hs : ∀ i j, i < j → j < e.length → R (e.getD j 0) (e.getD i 0) = false) : ∀ i j, i ≤ j → j < e.length → (ups R e i < ups R e j ↔ R (e.getD i 0) (e.getD j 0) = true) := by
  intro i j
  induction j with
  | zero =>
    intro h _; obtain rfl : i = 0 := by omega
    rw [hi]; simp
  | succ j ih =>
    intro h hj
    rcases Nat.lt_or_ge i (j + 1) with h' | h'
    · have ih' := ih (by omega) (by omega)
      have hm := ups_mono R e i j (by omega)
      have s1 : R (e.getD j 0) (e.getD i 0) = false := by
        rcases Nat.lt_or_ge i j with h2 | h2
        · exact hs i j h2 (by omega)
        · obtain rfl : i = j := by omega
          exact hi _
      have s2 := hs j (j + 1) (by omega) hj
      rw [ups]
      cases hc : R (e.getD j 0) (e.getD (j + 1) 0) with
      | true =>
        refine ⟨fun _ => ?_, fun _ => by simp; omega⟩
        cases hd : R (e.getD i 0) (e.getD (j + 1) 0) with
        | true => rfl
        | false => rw [hn _ _ _ s1 hd] at hc; cases hc
      | false =>
        simp only [Bool.false_eq_true, if_false, Nat.add_zero]
        rw [ih']
        constructor
        · intro hx
          cases hd : R (e.getD i 0) (e.getD (j + 1) 0) with
          | true => rfl
          | false => rw [hn _ _ _ hd s2] at hx; cases hx
        · intro hx
          cases hd : R (e.getD i 0) (e.getD j 0) with
          | true => rfl
          | false => rw [hn _ _ _ hd hc] at hx; cases hx
    · obtain rfl : i = j + 1 := by omega
      rw [hi]; simp

theorem lessB_neg (a b c : List Nat) (h1 : lessB a b = false) (h2 : lessB b c = false) : lessB a c = false := by
  cases h : lessB a c with
  | false => rfl
  | true =>
    cases h3 : lessB b a with
    | true => rw [lessB_trans _ _ _ h3 h] at h2; cases h2
    | false => rw [← lessB_total _ _ h1 h3, h] at h2; cases h2
theorem rk_new (l : List Nat) (k : Nat) (e : List Nat) (hp : e.Perm (List.range l.length)) (hs : ∀ i j, i < j → j < e.length → pl l k (e.getD j 0) (e.getD i 0) = false) (r : Nat → Nat)
    (hr : ∀ i, i < e.length → r (e.getD i 0) = ups (pl l k) e i) : RK l k r := by
  have hall : ∀ a, a < l.length → ∃ i, i < e.length ∧ e.getD i 0 = a := by
    intro a ha
    obtain ⟨i, hi, rfl⟩ := List.getElem_of_mem (hp.mem_iff.2 (List.mem_range.2 ha))
    exact ⟨i, hi, by rw [List.getD_eq_getElem?_getD, List.getElem?_eq_getElem hi]; rfl⟩
  have hlt := ups_lt (pl l k) (fun _ => lessB_irrefl _) (fun _ _ _ => lessB_trans _ _ _) (fun _ _ _ => lessB_neg _ _ _) e hs
  intro a b ha hb
  obtain ⟨i, hi, rfl⟩ := hall a ha
  obtain ⟨j, hj, rfl⟩ := hall b hb
  rw [hr i hi, hr j hj]
  rcases Nat.lt_or_ge j i with h | h
  · rw [hs j i h hi]
    have := ups_mono (pl l k) e j i (by omega)
    constructor
    · intro h'; omega
    · intro h'; cases h'
  · exact hlt i j h hj
theorem pl_sorted (l : List Nat) (k : Nat) (hk : l.length ≤ k) (e : List Nat) (hp : e.Perm (List.range l.length)) (hs : ∀ i j, i < j → j < e.length → pl l k (e.getD j 0) (e.getD i 0) = false) : SortedE l e := by
  refine ⟨hp, List.pairwise_iff_getElem.2 fun i j hi hj hij => ?_⟩
  have h := hs i j hij hj
  rw [pl_all l k _ _ hk, List.getD_eq_getElem?_getD, List.getElem?_eq_getElem hj, List.getD_eq_getElem?_getD, List.getElem?_eq_getElem hi, Option.getD_some, Option.getD_some] at h
  have hlt : ∀ k (hk : k < e.length), e[k] < l.length := fun k hk => List.mem_range.1 (hp.mem_iff.1 (List.getElem_mem hk))
  cases hc : sl l e[i] e[j] with
  | true => rfl
  | false =>
    have he := sl_total l _ _ (hlt j hj) (hlt i hi) h hc
    have hnd : e.Nodup := hp.nodup_iff.2 List.nodup_range
    exact absurd he.symm (List.pairwise_iff_getElem.1 hnd i j hi hj hij)
/-- Ranks by the number itself are ranks by the first one. -/
theorem rk_one (l : List Nat) (r : Nat → Nat) (h : ∀ a b (ha : a < l.length) (hb : b < l.length), r a < r b ↔ l[a] < l[b]) : RK l 1 r := by
  intro a b ha hb
  rw [h a b ha hb]
  unfold pl
  rw [List.drop_eq_getElem_cons ha, List.drop_eq_getElem_cons hb]
  show _ ↔ lessB [l[a]] [l[b]] = true
  simp [lessB]

/-! ### What two ends have in common -/
end Ord
end Go.Proofs.Ytgidjbpgkeemiaa
namespace Go.Proofs.Ytgidjbpgkeemiaa
open Go.RowKit
open Mv Num
set_option linter.unusedVariables false
set_option linter.unusedSimpArgs false
set_option maxRecDepth 4000
def gI (k : Nat) : Value := .int .i64 (k : Int)
def gU (k : Nat) : Value := .int .u64 (k : Int)
def gZ (x : Int) : Value := .int .i64 x
theorem getD_get {α : Type} (l : List α) (i : Nat) (z : α) (h : i < l.length) : l.getD i z = l[i] := by rw [List.getD_eq_getElem?_getD, List.getElem?_eq_getElem h]; rfl
def cmpU (x y : Nat) : Int := if x < y then -1 else if y < x then 1 else 0
theorem cmpU_neg (x y : Nat) : cmpU x y < 0 ↔ x < y := by unfold cmpU; split <;> (try split) <;> omega
theorem cmpU_zero (x y : Nat) : cmpU x y = 0 ↔ x = y := by unfold cmpU; split <;> (try split) <;> omega
theorem sl_own2 {S : Mem} {b : Nat} {T : TypeId} {x y : Int} (h : S.own b = some ⟨T, [.int .i64 x, .int .i64 y], 2⟩) : Sl 1 i64s S (.slice (some ⟨b, 0, none⟩) 2 2) [x, y] := Sl.own1 (g := gZ) (l := [x, y]) h List.prefix_rfl rfl (Nat.le_refl _) (by decide)
theorem sl_own3 {S : Mem} {b : Nat} {T : TypeId} {x y z : Int} (h : S.own b = some ⟨T, [.int .i64 x, .int .i64 y, .int .i64 z], 3⟩) : Sl 1 i64s S (.slice (some ⟨b, 0, none⟩) 3 3) [x, y, z] := Sl.own1 (g := gZ) (l := [x, y, z]) h List.prefix_rfl rfl (Nat.le_refl _) (by decide)
theorem so_Mul (x y : Nat) (h : x * y < 18446744073709551616) (hx : x < 18446744073709551616) (hy : y < 18446744073709551616) (S : Mem) : ACall Try.prog 129 #[.int .u64 (x : Int), .int .u64 (y : Int)] S fun r S' => r = .tuple #[.int .u64 0, .int .u64 ((x * y : Nat) : Int)] ∧ S' = S := by
  refine ACall.of_same fun w => ?_
  have e := Try.bits_Mul x y hx hy w
  rw [Nat.div_eq_of_lt h, Nat.mod_eq_of_lt h] at e
  exact e
theorem spl_rep (k n q : Nat) (a z : Int) (hk : k ≤ n) (hq : k + q ≤ n) : spl ((List.replicate k a ++ List.replicate (n - k) z).map gZ) k ((List.replicate q a).map gZ) = (List.replicate (k + q) a ++ List.replicate (n - (k + q)) z).map gZ := by
  unfold spl
  simp only [List.map_append, List.map_replicate, List.length_replicate]
  rw [List.take_append_of_le_length (by simp), List.take_of_length_le (by simp), List.drop_append, List.drop_of_length_le (by simp), List.nil_append, List.drop_replicate, List.length_replicate, List.append_assoc, ← List.append_assoc, List.replicate_append_replicate]
  congr 2
  omega
theorem rep_one {a : Int} {n j : Nat} {v : Value} (h : ((List.replicate (min 1 n) a).map gZ)[j]? = some v) : [Value.int .i64 a][j]? = some v := by
  obtain ⟨hl, e⟩ := List.getElem?_eq_some_iff.1 h
  have hj : j = 0 := by simp at hl; omega
  subst hj
  simp at e
  rw [← e]; rfl
theorem rep_in {a z : Int} {q k n j : Nat} {v : Value} (h : ((List.replicate q a).map gZ)[j]? = some v) (hq : q ≤ k) : ((List.replicate k a ++ List.replicate (n - k) z).map gZ)[j]? = some v := by
  obtain ⟨hl, e⟩ := List.getElem?_eq_some_iff.1 h
  simp at hl e
  rw [List.map_append, List.getElem?_append_left (by simp; omega), List.getElem?_map, List.getElem?_replicate, if_pos (by omega), ← e]; rfl
set_option maxHeartbeats 1000000 in
theorem or_Repeat (bx : Nat) (iN : Int) (n : Nat) (a : Int) (T : TypeId) (S : Mem) (eN : iN = n) (hn : n ≤ 17592186043904) (hb : S.own bx = some ⟨T, [.int .i64 a], 1⟩) :
    ACall Try.prog 91 #[.slice (some ⟨bx, 0, none⟩) 1 1, .int .i64 iN] S (NewL gZ 3 (List.replicate n a) S) := by
  subst eN
  refine ACall.enter (args := [.slice (some ⟨bx, 0, none⟩) 1 1, .int .i64 (n : Int)]) (rs := [.tmp 4]) 48 [(0, .slice (some ⟨bx, 0, none⟩) 1 1), (1, .int .i64 (n : Int))] Try.func91 rfl rfl (Nat.le_of_ble_eq_true rfl) rfl ⟨rfl, rfl, trivial⟩ ?_
  refine AWP.seq ?_
  refine AWP.region ?_
  refine rC (Calm.assign rfl) ?_
  refine arun_nil ?_
  refine athen_n ?_
  refine AWP.seq ?_
  refine AWP.seq ?_
  refine AWP.region ?_
  refine rC (Calm.move rfl) ?_
  refine rC (Calm.bin rfl rfl b_lss) ?_
  refine arun_nil ?_
  refine athen_n ?_
  refine AWP.sub [(0, _), (1, _), (4, _), (10, _)] ⟨rfl, rfl, rfl, rfl, trivial⟩ ?_
  refine AWP.condF rfl (by first | rfl | (simp; done) | (simp; omega)) ?_
  refine AWP.skip ?_
  refine athen_n ?_
  refine AWP.seq ?_
  refine AWP.region ?_
  refine rC (Calm.move rfl) ?_
  refine rC (Calm.lenSl Try.underlying24 rfl) ?_
  refine rC (Calm.conv rfl (by first | exact conv_intW Try.underlying3 Try.underlying139 (IntWalk.u64_in _ (by omega)) | exact conv_int Try.underlying3 Try.underlying139)) ?_
  refine rC (Calm.move rfl) ?_
  refine rC (Calm.conv rfl (by first | exact conv_intW Try.underlying3 Try.underlying139 (IntWalk.u64_in _ (by omega)) | exact conv_int Try.underlying3 Try.underlying139)) ?_
  refine ARun.call (lit_lt rfl) go_129 rfl (so_Mul 1 n (by omega) (by omega) (by omega) _) ?_
  rintro _ S1 ⟨rfl, h1⟩
  rw [h1]; clear h1 S1
  rw [Nat.one_mul]
  refine rC (Calm.move rfl) ?_
  refine rC (Calm.extract rfl rfl) ?_
  refine rC (Calm.extract rfl rfl) ?_
  refine rC (Calm.assign rfl) ?_
  refine rC (Calm.assign rfl) ?_
  refine arun_nil ?_
  refine athen_n ?_
  refine AWP.sub [(0, _), (1, _), (4, _), (10, _), (5, _), (6, _)] ⟨rfl, rfl, rfl, rfl, rfl, rfl, trivial⟩ ?_
  refine AWP.seq ?_
  refine AWP.seq ?_
  refine AWP.region ?_
  refine rC (Calm.move rfl) ?_
  refine rC (Calm.bin rfl rfl b_gtr) ?_
  refine rC (Calm.move rfl) ?_
  first | refine rS 23 ?_ | refine rU 23 ?_ | refine rG 23 (Calm.move rfl) ?_
  first | refine rS 23 ?_ | refine rU 23 ?_ | refine rG 23 (Calm.bin rfl rfl b_gtr) ?_
  refine rC ((by first | exact Calm.pickT rfl rfl | exact Calm.pickF rfl rfl)) ?_
  refine arun_nil ?_
  refine athen_n ?_
  refine AWP.sub [(0, _), (1, _), (4, _), (10, _), (5, _), (6, _), (26, _)] ⟨rfl, rfl, rfl, rfl, rfl, rfl, rfl, trivial⟩ ?_
  refine AWP.condF rfl (by first | rfl | (simp; done) | (simp; omega)) ?_
  have hz : madeL [Value.int .i64 0] ((n : Int).toNat * 1) = (List.replicate 0 a ++ List.replicate (n - 0) 0).map gZ := by rw [Int.toNat_natCast, Nat.mul_one, madeL_one, List.replicate_zero, List.nil_append, Nat.sub_zero, List.map_replicate]; rfl
  refine AWP.skip ?_
  refine athen_n ?_
  refine AWP.seq ?_
  refine AWP.region ?_
  refine rC (Calm.move rfl) ?_
  refine rC (Calm.conv rfl (by first | exact conv_intW Try.underlying139 Try.underlying3 (IntWalk.i64_in _ (by omega)) | exact conv_int Try.underlying139 Try.underlying3)) ?_
  refine ARun.makeSlice (lit_lt rfl) ty_sl_24 rfl rfl (by omega) (by omega) (by omega) (by omega) ?_
  intro b30 f30
  have g30 := f30
  repeat ((with_reducible replace g30 := fresh_set g30); obtain ⟨g30, _⟩ := g30)
  have := g30.ne hb; have := g30.ne' hb
  refine rC (Calm.assign rfl) ?_
  refine arun_nil ?_
  refine athen_n ?_
  refine AWP.sub [(0, _), (1, _), (4, _), (10, _), (5, _), (6, _), (26, _), (7, _)] ⟨rfl, rfl, rfl, rfl, rfl, rfl, rfl, rfl, trivial⟩ ?_
  refine AWP.seq ?_
  refine AWP.region ?_
  refine rC (Calm.move rfl) ?_
  refine rC (Calm.move rfl) ?_
  rw [hz, Int.toNat_natCast, Nat.mul_one]
  refine ARun.copyK (n := 1) (q := min 1 n) (news := (List.replicate (min 1 n) a).map gZ) (lit_lt rfl) ty_sl_24 rfl (Mem.own_set_same _ _ _) (Nat.zero_le _) rfl rfl (Mem.own_knows (r := ⟨T, [.int .i64 a], 1⟩) own_ 0 _ (fun j v hj => by rw [Nat.zero_add]; exact rep_one hj)) (by simp) (fun v hv => by obtain ⟨y, _, rfl⟩ := List.mem_map.1 hv; rfl) (.inl (by simp only [List.length_map, List.length_append, List.length_replicate]; omega)) ?_
  rw [spl_rep 0 n (min 1 n) a 0 (Nat.zero_le _) (by omega), Nat.zero_add, Mem.set_set]
  refine rC (Calm.assign rfl) ?_
  refine arun_nil ?_
  refine athen_n ?_
  refine AWP.sub [(0, _), (1, _), (4, _), (10, _), (5, _), (6, _), (26, _), (7, _), (8, _)] ⟨rfl, rfl, rfl, rfl, rfl, rfl, rfl, rfl, rfl, trivial⟩ ?_
  refine AWP.seq ?_
  refine AWP.block ?_
  refine AWP.loop (X := Nat) (fun k => [(7, .slice (some ⟨b30, 0, none⟩) n n), (8, .int .i64 k)]) (fun k => S.set b30 ⟨3, (List.replicate k a ++ List.replicate (n - k) 0).map gZ, n⟩) (fun k => min 1 n ≤ k ∧ k ≤ n) (fun k => n - k) (min 1 n) ⟨sq_, sq_, trivial⟩ (Mem.Less.refl _) (⟨Nat.le_refl _, by omega⟩) ?_
  rintro k ⟨h1, h2⟩
  (try dsimp only at *)
  by_cases hk : k < n
  · refine AWP.seq ?_
    refine AWP.seq ?_
    refine AWP.region ?_
    refine rC (Calm.move rfl) ?_
    refine rC (Calm.move rfl) ?_
    refine rC (Calm.lenSl Try.underlying24 rfl) ?_
    refine rC (Calm.bin rfl rfl b_lss) ?_
    refine arun_nil ?_
    refine athen_n ?_
    refine AWP.sub [(7, _), (8, _), (37, _)] ⟨rfl, rfl, rfl, trivial⟩ ?_
    refine AWP.condT rfl (by first | rfl | (simp; done) | (simp; omega)) ?_
    refine AWP.skip ?_
    refine athen_n ?_
    refine AWP.block ?_
    refine AWP.draw [(0, true), (1, true), (2, true), (3, true), (4, true), (5, true), (6, true), (7, false), (8, true), (9, true)] [7] mixed (by kernel_rfl) ?_
    refine dP (hc := fun _ => Calm.move rfl) (h := ?_)
    refine dP (hc := fun _ => Calm.move rfl) (h := ?_)
    refine dP (hc := fun _ => Calm.move rfl) (h := ?_)
    refine dP (hc := fun _ => Calm.sliceLo k Try.underlying24 ty_size_3 rfl rfl rfl (by omega) (by omega)) (h := ?_)
    refine dP (hc := fun _ => Calm.move rfl) (h := ?_)
    refine dP (hc := fun _ => Calm.move rfl) (h := ?_)
    refine dP (hc := fun _ => (by first | exact Calm.sliceHead Try.underlying24 ty_size_3 rfl (bnd_none _ _) (fun _ => rfl) (bnd_some _ _ rfl (by omega) (by omega)) | exact Calm.sliceNil Try.underlying24 ty_size_3 rfl (bnd_none _ _) (by simp) (bnd_zero _ _ rfl) (bnd_none _ _))) (h := ?_)
    refine draw_only rfl ?_
    refine ARun.copyK (n := 1) (q := min k (n - k)) (news := (List.replicate (min k (n - k)) a).map gZ) (lit_lt rfl) ty_sl_24 rfl (Mem.own_set_same _ _ _) (by simp only [List.length_map, List.length_append, List.length_replicate]; omega) rfl (by omega) (Mem.own_knows (Mem.own_set_same _ _ _) 0 _ (fun j v hj => by rw [Nat.zero_add]; exact rep_in hj (by omega))) (by simp) (fun v hv => by obtain ⟨y, _, rfl⟩ := List.mem_map.1 hv; rfl) (.inl (by simp only [List.length_map, List.length_append, List.length_replicate]; omega)) ?_
    rw [show 0 + k * 1 = k by omega, spl_rep k n (min k (n - k)) a 0 h2 (by omega), Mem.set_set]
    refine arun_nil ⟨fun h => absurd h (by decide), ?_⟩
    refine dP (hc := fun _ => Calm.bin rfl rfl b_add_i64) (h := ?_)
    refine dP (hc := fun _ => Calm.assign rfl) (h := ?_)
    refine draw_nil ?_
    refine ain_n ?_
    refine athen_n ?_
    refine ⟨k + min k (n - k), ?_, ?_, ?_, ?_⟩
    all_goals (try dsimp only)
    · exact ⟨sq_, sq_, trivial⟩
    · exact Mem.Less.refl _
    · exact ⟨by omega, by omega⟩
    · omega
  · refine AWP.seq ?_
    refine AWP.seq ?_
    refine AWP.region ?_
    refine rC (Calm.move rfl) ?_
    refine rC (Calm.move rfl) ?_
    refine rC (Calm.lenSl Try.underlying24 rfl) ?_
    refine rC (Calm.bin rfl rfl b_lss) ?_
    refine arun_nil ?_
    refine athen_n ?_
    refine AWP.sub [(7, _), (8, _), (37, _)] ⟨rfl, rfl, rfl, trivial⟩ ?_
    refine AWP.condF rfl (by first | rfl | (simp; done) | (simp; omega)) ?_
    obtain rfl : k = n := by omega
    rw [Nat.sub_self, List.replicate_zero, List.append_nil]
    refine AWP.exit ?_
    refine athen_exit ?_
    refine athen_exit ?_
    refine ain_same ?_
    refine athen_n ?_
    refine AWP.seq ?_
    refine AWP.region ?_
    refine rC (Calm.move rfl) ?_
    refine rC (Calm.assign rfl) ?_
    refine arun_nil ?_
    refine athen_n ?_
    refine AWP.sub [(7, _), (8, _), (37, _), (4, _)] ⟨rfl, rfl, rfl, rfl, trivial⟩ ?_
    refine AWP.ret ?_
    refine ⟨_, _, ⟨_, _, rfl, rfl, rfl⟩, Mem.Less.refl _, ?_⟩
    exact ⟨some (b30, k), okO_own f30 (by simp), by simp [outV, one], rfl⟩
/-! ### Where each number is -/
theorem pig_le : ∀ (n : Nat) (l : List Nat), l.Nodup → (∀ x ∈ l, x < n) → l.length ≤ n
  | 0, l, _, h => by
    cases l with
    | nil => exact Nat.le_refl _
    | cons x l => exact absurd (h x (List.mem_cons_self ..)) (Nat.not_lt_zero _)
  | n + 1, l, hn, h => by
    by_cases hm : n ∈ l
    · have := pig_le n (l.erase n) (hn.erase n) fun x hx => by
        have h1 := h x (List.mem_of_mem_erase hx)
        have h2 : x ≠ n := fun e => by subst e; exact absurd hx (List.Nodup.not_mem_erase hn)
        omega
      rw [List.length_erase_of_mem hm] at this
      omega
    · have := pig_le n l hn fun x hx => by
        have h1 := h x hx
        have h2 : x ≠ n := fun e => by subst e; exact hm hx
        omega
      omega
theorem pig : ∀ (n : Nat) (l : List Nat), l.Nodup → (∀ x ∈ l, x < n) → l.length = n → l.Perm (List.range n)
  | 0, l, _, _, hl => by rw [List.length_eq_zero_iff.1 hl]; exact List.Perm.refl _
  | n + 1, l, hn, h, hl => by
    by_cases hm : n ∈ l
    · have := pig n (l.erase n) (hn.erase n) (fun x hx => by
        have h1 := h x (List.mem_of_mem_erase hx)
        have h2 : x ≠ n := fun e => by subst e; exact absurd hx (List.Nodup.not_mem_erase hn)
        omega) (by rw [List.length_erase_of_mem hm]; omega)
      refine (List.perm_cons_erase hm).trans ?_
      rw [List.range_succ]
      exact (this.cons n).trans (List.perm_append_singleton n _).symm
    · have := pig_le n l hn fun x hx => by
        have h1 := h x hx
        have h2 : x ≠ n := fun e => by subst e; exact hm hx
        omega
      omega
/-- Numbers from 0 on, each once. -/
def GoodE (l : List Int) : Prop := ∃ e : List Nat, l = e.map (fun k : Nat => (k : Int)) ∧ e.Perm (List.range l.length)
def InvOf (l : List Int) (x : List Int) : Prop := x.length = l.length ∧ ∀ j (h : j < l.length), x.getD (l[j]).toNat 0 = (j : Int)
/-- The first i of a list, told. -/
structure InvI (l : List Int) (i : Nat) (x : List Int) : Prop where
  len : x.length = l.length
  rng : ∀ j (h : j < l.length), j < i → 0 ≤ l[j] ∧ l[j] < l.length
  at_ : ∀ j (h : j < l.length), j < i → x.getD (l[j]).toNat 0 = (j : Int)
def InvP (l : List Int) (i : Nat) (x : List Int) : Prop := InvI l i x ∧ ∀ q, q < l.length → (∀ j (h : j < l.length), j < i → l[j] ≠ (q : Int)) → x.getD q 0 = -1
theorem inv_nodup {l : List Int} {i : Nat} {x : List Int} (h : InvI l i x) {a b : Nat} (ha : a < l.length) (hb : b < l.length) (hai : a < i) (hbi : b < i) (e : l[a] = l[b]) : a = b := by
  have h1 := h.at_ a ha hai
  have h2 := h.at_ b hb hbi
  rw [e, h2] at h1; omega
theorem inv_good {l : List Int} {x : List Int} (h : InvI l l.length x) : GoodE l ∧ InvOf l x := by
  refine ⟨⟨l.map Int.toNat, ?_, ?_⟩, h.len, fun j hj => h.at_ j hj hj⟩
  · rw [List.map_map]
    refine List.ext_getElem (by simp) fun j h1 h2 => ?_
    rw [List.getElem_map]
    have := h.rng j h1 h1
    show _ = ((l[j].toNat : Nat) : Int)
    omega
  · have hnd : (l.map Int.toNat).Nodup := by
      refine List.pairwise_iff_getElem.2 fun a b ha hb hab e => ?_
      rw [List.getElem_map, List.getElem_map] at e
      rw [List.length_map] at ha hb
      have r1 := h.rng a ha ha
      have r2 := h.rng b hb hb
      have := inv_nodup h ha hb ha hb (by omega)
      omega
    refine pig l.length _ hnd (fun y hy => ?_) (List.length_map ..)
    obtain ⟨j, hj, e⟩ := List.getElem_of_mem hy
    rw [List.getElem_map] at e
    rw [List.length_map] at hj
    have r := h.rng j hj hj
    omega
theorem inv_step {l : List Int} {i : Nat} {x : List Int} (h : InvI l i x) (hi : i < l.length) (h0 : 0 ≤ l[i]) (h1 : l[i] < l.length) (hn : ∀ j (hj : j < l.length), j < i → l[j] ≠ l[i]) : InvI l (i + 1) (x.set (l[i]).toNat (i : Int)) := by
  have hl := h.len
  refine ⟨by rw [List.length_set]; exact hl, fun j hj hji => ?_, fun j hj hji => ?_⟩
  · rcases Nat.lt_or_ge j i with h' | h'
    · exact h.rng j hj h'
    · obtain rfl : j = i := by omega
      exact ⟨h0, h1⟩
  · rcases Nat.lt_or_ge j i with h' | h'
    · have r := h.rng j hj h'
      have hne : (l[i]).toNat ≠ (l[j]).toNat := fun e => hn j hj h' (by omega)
      rw [List.getD_eq_getElem?_getD, List.getElem?_set_ne hne, ← List.getD_eq_getElem?_getD, h.at_ j hj h']
    · obtain rfl : j = i := by omega
      rw [List.getD_eq_getElem?_getD, List.getElem?_set_self (by omega)]; rfl
theorem good_rng {l : List Int} (h : GoodE l) (i : Nat) (hi : i < l.length) : 0 ≤ l[i] ∧ l[i] < l.length := by
  obtain ⟨e, rfl, hp⟩ := h
  rw [List.length_map] at hp hi
  have := List.mem_range.1 (hp.mem_iff.1 (List.getElem_mem hi))
  simp only [List.getElem_map, List.length_map]; omega
theorem good_inj {l : List Int} (h : GoodE l) (i j : Nat) (hi : i < l.length) (hj : j < l.length) (e : l[i] = l[j]) : i = j := by
  obtain ⟨m, rfl, hp⟩ := h
  rw [List.length_map] at hp hi hj
  rw [List.getElem_map, List.getElem_map] at e
  have hnd : m.Nodup := hp.nodup_iff.2 List.nodup_range
  have e' : m[i] = m[j] := by omega
  rcases Nat.lt_trichotomy i j with h | h | h
  · exact absurd e' (List.pairwise_iff_getElem.1 hnd i j hi hj h)
  · exact h
  · exact absurd e'.symm (List.pairwise_iff_getElem.1 hnd j i hj hi h)
theorem invP_start (l : List Int) : InvP l 0 (List.replicate l.length (-1)) := ⟨⟨by simp, fun j _ h => absurd h (Nat.not_lt_zero _), fun j _ h => absurd h (Nat.not_lt_zero _)⟩, fun q hq _ => by rw [getD_get _ _ _ (by simpa using hq), List.getElem_replicate]⟩
theorem invP_step {l : List Int} {i : Nat} {x : List Int} (h : InvP l i x) (hi : i < l.length) (h0 : 0 ≤ l[i]) (h1 : l[i] < l.length) (hx : x.getD (l[i]).toNat 0 < 0) : InvP l (i + 1) (x.set (l[i]).toNat (i : Int)) := by
  have hn : ∀ j (hj : j < l.length), j < i → l[j] ≠ l[i] := fun j hj hji e => by have := h.1.at_ j hj hji; rw [e] at this; omega
  refine ⟨inv_step h.1 hi h0 h1 hn, fun q hq hno => ?_⟩
  have hne : (l[i]).toNat ≠ q := fun e => hno i hi (by omega) (by omega)
  rw [List.getD_eq_getElem?_getD, List.getElem?_set_ne hne, ← List.getD_eq_getElem?_getD]
  exact h.2 q hq fun j hj hji => hno j hj (by omega)
theorem invP_bad {l : List Int} {i : Nat} {x : List Int} (h : InvP l i x) (hi : i < l.length) (h0 : 0 ≤ l[i]) (h1 : l[i] < l.length) (hx : 0 ≤ x.getD (l[i]).toNat 0) : ¬ GoodE l := fun hg => by
  have := h.2 (l[i]).toNat (by omega) fun j hj hji e => by
    have := good_inj hg j i hj hi (by omega)
    omega
  omega
/-- What Inverse hands back. -/
def InvR (l : List Int) (S : Mem) (r : Value) (S' : Mem) : Prop := (GoodE l ∧ ∃ u x, InvOf l x ∧ r = .tuple #[u, .int .i64 0] ∧ NewL gZ 3 x S u S') ∨ (¬ GoodE l ∧ r = .tuple #[.slice none 0 0, .int .i64 2] ∧ S' = S)
set_option maxHeartbeats 1000000 in
theorem or_Inverse (v : Value) (l : List Int) (S : Mem) (hv : Sl 1 i64s S v l) (hl : l.length ≤ 17592186043904) :
    ACall Try.prog 49 #[v] S (InvR l S) := by
  obtain ⟨a, cap, rfl, h1, h2, h3⟩ := id hv
  refine ACall.enter (args := [.slice a l.length cap]) (rs := [.tmp 2, .tmp 3]) 39 [(0, .slice a l.length cap)] Try.func49 rfl rfl (Nat.le_of_ble_eq_true rfl) rfl ⟨rfl, trivial⟩ ?_
  refine AWP.seq ?_
  refine AWP.region ?_
  refine rC (Calm.assign rfl) ?_
  refine rC (Calm.assign rfl) ?_
  refine arun_nil ?_
  refine athen_n ?_
  refine AWP.seq ?_
  refine AWP.region ?_
  refine ARun.build1s (lit_lt rfl) ty_sl_24 rfl rfl ?_
  intro b7 f7
  have g7 := f7
  repeat ((with_reducible replace g7 := fresh_set g7); obtain ⟨g7, _⟩ := g7)
  refine rC (Calm.move rfl) ?_
  refine rC (Calm.lenSl Try.underlying24 rfl) ?_
  refine ARun.call (lit_lt rfl) go_91 rfl (or_Repeat b7 _ l.length (-1) _ _ rfl hl own_) ?_
  rintro _ _ ⟨o, ho, rfl, rfl⟩
  rw [List.length_replicate] at *
  refine rC (Calm.assign rfl) ?_
  refine arun_nil ?_
  refine athen_n ?_
  refine AWP.sub [(0, _), (2, _), (3, _), (4, _)] ⟨rfl, rfl, rfl, rfl, trivial⟩ ?_
  have ho2 := ho.unset
  refine AWP.less (outM S o 3 ((List.replicate l.length (-1)).map gZ)) (outM_more _ _ _ (Mem.less_set _ _ _ f7.1)) ?_
  refine AWP.seq ?_
  refine AWP.seq ?_
  refine AWP.region ?_
  refine rC (Calm.move rfl) ?_
  refine rC (Calm.lenSl Try.underlying24 rfl) ?_
  refine rC (Calm.move rfl) ?_
  refine arun_nil ?_
  refine athen_n ?_
  refine AWP.block ?_
  refine AWP.loop (X := Nat × List Int) (fun x => [(0, .slice a l.length cap), (4, outV o l.length), (11, .slice a l.length cap), (12, .int .i64 l.length), (13, .int .i64 x.1)]) (fun x => outM S o 3 (x.2.map gZ)) (fun x => x.1 ≤ l.length ∧ InvP l x.1 x.2) (fun x => l.length - x.1) ((0, List.replicate l.length (-1))) ⟨rfl, rfl, rfl, rfl, rfl, trivial⟩ (Mem.Less.refl _) (⟨Nat.zero_le _, invP_start l⟩) ?_
  rintro ⟨i, x⟩ ⟨hi, hI⟩
  (try dsimp only at *)
  have hxl := hI.1.len
  by_cases hc : i < l.length
  · refine AWP.seq ?_
    refine AWP.region ?_
    refine rC (Calm.bin rfl rfl b_lss) ?_
    refine arun_nil ?_
    refine athen_n ?_
    refine AWP.seq ?_
    refine AWP.condT rfl (by first | rfl | (simp; done) | (simp; omega)) ?_
    obtain ⟨b, off, rfl, hk⟩ := h3.resolve_left (fun h => by rw [h] at hc; exact absurd hc (Nat.not_lt_zero _))
    obtain ⟨q, c, rfl⟩ := ho2.some (by omega)
    obtain ⟨fq, _⟩ := ho2.own q c rfl
    have hki : Mem.Knows (outM S (some (q, c)) 3 (x.map gZ)) ⟨b, off + i * 1, none⟩ [.int .i64 l[i]] := (hk i hc).less (outM_over ho2)
    by_cases c0 : l[i] < 0
    · refine AWP.skip ?_
      refine athen_n ?_
      refine AWP.seq ?_
      refine AWP.block ?_
      refine AWP.seq ?_
      refine AWP.region ?_
      refine rC (Calm.move rfl) ?_
      refine rC (Calm.indexS Try.underlying24 ty_size_3 rfl rfl (by omega) (by omega)) ?_
      refine rC (ld_ ty_plain_3 rfl) ?_
      refine rC (Calm.assign rfl) ?_
      refine rC (Calm.assign rfl) ?_
      refine arun_nil ?_
      refine athen_n ?_
      refine AWP.sub [(0, _), (4, _), (11, _), (12, _), (13, _), (14, _), (5, _), (6, _)] ⟨rfl, rfl, rfl, rfl, rfl, rfl, rfl, rfl, trivial⟩ ?_
      refine AWP.seq ?_
      refine AWP.seq ?_
      refine AWP.region ?_
      refine rC (Calm.move rfl) ?_
      refine rC (Calm.bin rfl rfl b_lss) ?_
      refine rC (Calm.move rfl) ?_
      first | refine rS 20 ?_ | refine rU 20 ?_ | refine rG 20 (Calm.move rfl) ?_
      first | refine rS 20 ?_ | refine rU 20 ?_ | refine rG 20 (Calm.move rfl) ?_
      first | refine rS 20 ?_ | refine rU 20 ?_ | refine rG 20 (Calm.lenSl Try.underlying24 rfl) ?_
      first | refine rS 20 ?_ | refine rU 20 ?_ | refine rG 20 (Calm.bin rfl rfl b_geq) ?_
      refine rC ((by first | exact Calm.pickT rfl rfl | exact Calm.pickF rfl rfl)) ?_
      refine rC (Calm.move rfl) ?_
      first | refine rS 26 ?_ | refine rU 26 ?_ | refine rG 26 (Calm.move rfl) ?_
      first | refine rS 26 ?_ | refine rU 26 ?_ | refine rG 26 (Calm.move rfl) ?_
      first | refine rS 26 ?_ | refine rU 26 ?_ | refine rG 26 (Calm.indexS Try.underlying24 ty_size_3 rfl rfl (by omega) (by omega)) ?_
      first | refine rS 26 ?_ | refine rU 26 ?_ | refine rG 26 (ld_ ty_plain_3 rfl) ?_
      first | refine rS 26 ?_ | refine rU 26 ?_ | refine rG 26 (Calm.bin rfl rfl b_geq) ?_
      refine rC ((by first | exact Calm.pickT rfl rfl | exact Calm.pickF rfl rfl)) ?_
      refine arun_nil ?_
      refine athen_n ?_
      refine AWP.sub [(0, _), (4, _), (11, _), (12, _), (13, _), (14, _), (5, _), (6, _), (32, _)] ⟨rfl, rfl, rfl, rfl, rfl, rfl, rfl, rfl, rfl, trivial⟩ ?_
      refine AWP.condT rfl (by first | rfl | (simp; done) | (simp; omega)) ?_
      refine AWP.seq ?_
      refine AWP.region ?_
      refine rC (Calm.assign rfl) ?_
      refine rC (Calm.assign rfl) ?_
      refine arun_nil ?_
      refine athen_n ?_
      refine AWP.ret ?_
      refine athen_ret ?_
      refine ain_ret ?_
      refine athen_ret ?_
      refine athen_ret ?_
      refine ain_ret ?_
      refine athen_ret ?_
      refine ⟨_, S, ⟨_, _, rfl, ⟨_, _, rfl, rfl, rfl⟩, rfl⟩, outM_over ho2, ?_⟩
      exact .inr ⟨fun hg => by have := good_rng hg i hc; omega, rfl, rfl⟩
    · by_cases c1 : (l.length : Int) ≤ l[i]
      · refine AWP.skip ?_
        refine athen_n ?_
        refine AWP.seq ?_
        refine AWP.block ?_
        refine AWP.seq ?_
        refine AWP.region ?_
        refine rC (Calm.move rfl) ?_
        refine rC (Calm.indexS Try.underlying24 ty_size_3 rfl rfl (by omega) (by omega)) ?_
        refine rC (ld_ ty_plain_3 rfl) ?_
        refine rC (Calm.assign rfl) ?_
        refine rC (Calm.assign rfl) ?_
        refine arun_nil ?_
        refine athen_n ?_
        refine AWP.sub [(0, _), (4, _), (11, _), (12, _), (13, _), (14, _), (5, _), (6, _)] ⟨rfl, rfl, rfl, rfl, rfl, rfl, rfl, rfl, trivial⟩ ?_
        refine AWP.seq ?_
        refine AWP.seq ?_
        refine AWP.region ?_
        refine rC (Calm.move rfl) ?_
        refine rC (Calm.bin rfl rfl b_lss) ?_
        refine rC (Calm.move rfl) ?_
        first | refine rS 20 ?_ | refine rU 20 ?_ | refine rG 20 (Calm.move rfl) ?_
        first | refine rS 20 ?_ | refine rU 20 ?_ | refine rG 20 (Calm.move rfl) ?_
        first | refine rS 20 ?_ | refine rU 20 ?_ | refine rG 20 (Calm.lenSl Try.underlying24 rfl) ?_
        first | refine rS 20 ?_ | refine rU 20 ?_ | refine rG 20 (Calm.bin rfl rfl b_geq) ?_
        refine rC ((by first | exact Calm.pickT rfl rfl | exact Calm.pickF rfl rfl)) ?_
        refine rC (Calm.move rfl) ?_
        first | refine rS 26 ?_ | refine rU 26 ?_ | refine rG 26 (Calm.move rfl) ?_
        first | refine rS 26 ?_ | refine rU 26 ?_ | refine rG 26 (Calm.move rfl) ?_
        first | refine rS 26 ?_ | refine rU 26 ?_ | refine rG 26 (Calm.indexS Try.underlying24 ty_size_3 rfl rfl (by omega) (by omega)) ?_
        first | refine rS 26 ?_ | refine rU 26 ?_ | refine rG 26 (ld_ ty_plain_3 rfl) ?_
        first | refine rS 26 ?_ | refine rU 26 ?_ | refine rG 26 (Calm.bin rfl rfl b_geq) ?_
        refine rC ((by first | exact Calm.pickT rfl rfl | exact Calm.pickF rfl rfl)) ?_
        refine arun_nil ?_
        refine athen_n ?_
        refine AWP.sub [(0, _), (4, _), (11, _), (12, _), (13, _), (14, _), (5, _), (6, _), (32, _)] ⟨rfl, rfl, rfl, rfl, rfl, rfl, rfl, rfl, rfl, trivial⟩ ?_
        refine AWP.condT rfl (by first | rfl | (simp; done) | (simp; omega)) ?_
        refine AWP.seq ?_
        refine AWP.region ?_
        refine rC (Calm.assign rfl) ?_
        refine rC (Calm.assign rfl) ?_
        refine arun_nil ?_
        refine athen_n ?_
        refine AWP.ret ?_
        refine athen_ret ?_
        refine ain_ret ?_
        refine athen_ret ?_
        refine athen_ret ?_
        refine ain_ret ?_
        refine athen_ret ?_
        refine ⟨_, S, ⟨_, _, rfl, ⟨_, _, rfl, rfl, rfl⟩, rfl⟩, outM_over ho2, ?_⟩
        exact .inr ⟨fun hg => by have := good_rng hg i hc; omega, rfl, rfl⟩
      · obtain ⟨k, hk2⟩ : ∃ k, k = (l[i]).toNat := ⟨_, rfl⟩
        have hkx : x.getD (l[i]).toNat 0 = x[k]'(by omega) := by rw [← hk2]; exact getD_get _ _ _ (by omega)
        refine AWP.skip ?_
        refine athen_n ?_
        refine AWP.seq ?_
        refine AWP.block ?_
        refine AWP.seq ?_
        refine AWP.region ?_
        refine rC (Calm.move rfl) ?_
        refine rC (Calm.indexS Try.underlying24 ty_size_3 rfl rfl (by omega) (by omega)) ?_
        refine rC (ld_ ty_plain_3 rfl) ?_
        refine rC (Calm.assign rfl) ?_
        refine rC (Calm.assign rfl) ?_
        refine arun_nil ?_
        refine athen_n ?_
        refine AWP.sub [(0, _), (4, _), (11, _), (12, _), (13, _), (14, _), (5, _), (6, _)] ⟨rfl, rfl, rfl, rfl, rfl, rfl, rfl, rfl, trivial⟩ ?_
        refine AWP.seq ?_
        refine AWP.seq ?_
        refine AWP.region ?_
        refine rC (Calm.move rfl) ?_
        refine rC (Calm.bin rfl rfl b_lss) ?_
        refine rC (Calm.move rfl) ?_
        first | refine rS 20 ?_ | refine rU 20 ?_ | refine rG 20 (Calm.move rfl) ?_
        first | refine rS 20 ?_ | refine rU 20 ?_ | refine rG 20 (Calm.move rfl) ?_
        first | refine rS 20 ?_ | refine rU 20 ?_ | refine rG 20 (Calm.lenSl Try.underlying24 rfl) ?_
        first | refine rS 20 ?_ | refine rU 20 ?_ | refine rG 20 (Calm.bin rfl rfl b_geq) ?_
        refine rC ((by first | exact Calm.pickT rfl rfl | exact Calm.pickF rfl rfl)) ?_
        refine rC (Calm.move rfl) ?_
        first | refine rS 26 ?_ | refine rU 26 ?_ | refine rG 26 (Calm.move rfl) ?_
        first | refine rS 26 ?_ | refine rU 26 ?_ | refine rG 26 (Calm.move rfl) ?_
        first | refine rS 26 ?_ | refine rU 26 ?_ | refine rG 26 (Calm.indexS Try.underlying24 ty_size_3 rfl rfl (by omega) (by omega)) ?_
        first | refine rS 26 ?_ | refine rU 26 ?_ | refine rG 26 (Calm.as (show gZ (x[k]'(by omega)) = .int .i64 (x[k]'(by omega)) from rfl) (Calm.load ty_plain_3 rfl (rd_list (g := gZ) k (by omega) (Mem.own_set_same _ _ _) (by omega)))) ?_
        first | refine rS 26 ?_ | refine rU 26 ?_ | refine rG 26 (Calm.bin rfl rfl b_geq) ?_
        refine rC ((by first | exact Calm.pickT rfl rfl | exact Calm.pickF rfl rfl)) ?_
        refine arun_nil ?_
        refine athen_n ?_
        refine AWP.sub [(0, _), (4, _), (11, _), (12, _), (13, _), (14, _), (5, _), (6, _), (32, _)] ⟨rfl, rfl, rfl, rfl, rfl, rfl, rfl, rfl, rfl, trivial⟩ ?_
        by_cases c2 : 0 ≤ x[k]'(by omega)
        · refine AWP.condT rfl (by first | rfl | (simp; done) | (simp; omega)) ?_
          refine AWP.seq ?_
          refine AWP.region ?_
          refine rC (Calm.assign rfl) ?_
          refine rC (Calm.assign rfl) ?_
          refine arun_nil ?_
          refine athen_n ?_
          refine AWP.ret ?_
          refine athen_ret ?_
          refine ain_ret ?_
          refine athen_ret ?_
          refine athen_ret ?_
          refine ain_ret ?_
          refine athen_ret ?_
          refine ⟨_, S, ⟨_, _, rfl, ⟨_, _, rfl, rfl, rfl⟩, rfl⟩, outM_over ho2, ?_⟩
          exact .inr ⟨invP_bad hI hc (by omega) (by omega) (by rw [hkx]; exact c2), rfl, rfl⟩
        · refine AWP.condF rfl (by first | rfl | (simp; done) | (simp; omega)) ?_
          refine AWP.skip ?_
          refine athen_n ?_
          refine AWP.region ?_
          refine rC (Calm.move rfl) ?_
          refine rC (Calm.move rfl) ?_
          refine rC (Calm.move rfl) ?_
          refine rC (Calm.indexS Try.underlying24 ty_size_3 rfl rfl (by omega) (by omega)) ?_
          refine ARun.store1 rfl rfl ty_size_3 rfl (Mem.own_set_same _ _ _) (by rw [List.length_map]; omega) rfl ?_
          (try simp only [Mem.set_set, List.set_cons_zero, List.set_cons_succ, Nat.zero_add, Nat.reduceAdd])
          refine arun_nil ?_
          refine ain_n ?_
          refine athen_n ?_
          refine AWP.sub [(0, _), (4, _), (11, _), (12, _), (13, _), (14, _), (5, _), (6, _), (32, _)] ⟨rfl, rfl, rfl, rfl, rfl, rfl, rfl, rfl, rfl, trivial⟩ ?_
          simp only [Nat.zero_add, Nat.mul_one]
          refine AWP.region ?_
          refine rC (Calm.bin rfl rfl b_add_i64) ?_
          refine rC (Calm.move rfl) ?_
          refine arun_nil ?_
          refine athen_n ?_
          refine ⟨(i + 1, x.set (l[i]).toNat (i : Int)), ?_, ?_, ?_, ?_⟩
          all_goals (try dsimp only)
          · exact ⟨sq_, sq_, sq_, sq_, sq_, trivial⟩
          · rw [List.map_set]; show (S.set q _).Less ((S.set q _).set q _); rw [Mem.set_set]; exact Mem.Less.refl _
          · exact ⟨hc, invP_step hI hc (by omega) (by omega) (by rw [hkx]; omega)⟩
          · omega
  · obtain rfl : i = l.length := by omega
    refine AWP.seq ?_
    refine AWP.region ?_
    refine rC (Calm.bin rfl rfl b_lss) ?_
    refine arun_nil ?_
    refine athen_n ?_
    refine AWP.seq ?_
    refine AWP.condF rfl (by first | rfl | (simp; done) | (simp; omega)) ?_
    obtain ⟨hg, hx⟩ := inv_good hI.1
    refine AWP.exit ?_
    refine athen_exit ?_
    refine athen_exit ?_
    refine ain_same ?_
    refine athen_n ?_
    refine AWP.seq ?_
    refine AWP.region ?_
    refine rC (Calm.move rfl) ?_
    refine rC (Calm.assign rfl) ?_
    refine rC (Calm.assign rfl) ?_
    refine arun_nil ?_
    refine athen_n ?_
    refine AWP.sub [(0, _), (4, _), (11, _), (12, _), (13, _), (14, _), (2, _), (3, _)] ⟨rfl, rfl, rfl, rfl, rfl, rfl, rfl, rfl, trivial⟩ ?_
    refine AWP.ret ?_
    refine ⟨_, _, ⟨_, _, rfl, ⟨_, _, rfl, rfl, rfl⟩, rfl⟩, Mem.Less.refl _, ?_⟩
    exact .inl ⟨hg, _, x, hx, rfl, o, by rw [hxl]; exact ho2, by rw [hxl], rfl⟩
end Go.Proofs.Ytgidjbpgkeemiaa
namespace Go.Proofs.Ytgidjbpgkeemiaa
open Go.RowKit
set_option linter.unusedVariables false
namespace Mv
section
variable {P : Program} {N : Nat} {l : List Oper} {W : List Nat} {S0 : Mem} {K : Env → Mem → Prop}
/-- From here on, whatever comes up. -/
def DG (P : Program) (N : Nat) (l : List Oper) (W : List Nat) (S0 : Mem) (K : Env → Mem → Prop) (n : Nat) (listed : Array Bool) (E : Env) (S : Mem) : Prop :=
  ∀ w0 a w, Closed l.toArray listed → Good N E a → View S w → Step S0 w0 S w → wpAnyG P l.toArray (Q0 N K S0 w0) (fun i => W.contains i) (View S0) n listed a w
theorem DG.nil {listed : Array Bool} {E : Env} {S : Mem} (hr : Region.ready .any l.toArray listed = []) (h : K E S) : DG P N l W S0 K 0 listed E S :=
  fun w0 a w _ g hv hs => ⟨hr, E, S, h, g, hs⟩
/-- Each of those that may come up. -/
theorem DG.fork {n : Nat} {listed : Array Bool} {E : Env} {S : Mem} (is : List Nat) (hr : (Region.ready .any l.toArray listed == is) = true) (hne : is ≠ [])
    (h : ∀ i ∈ is, ∃ o, l[i]? = some o ∧ AOp P N l.toArray o (fun E' S' => (W.contains i = false → S0.Less S') ∧ DG P N l W S0 K n (listed.setIfInBounds i true) E' S') E S) : DG P N l W S0 K (n + 1) listed E S := fun w0 a w hcl g hv hs => by
  have hr := beq_iff_eq.1 hr
  refine ⟨fun h0 => absurd (hr.symm.trans h0) hne, fun j hj => ?_⟩
  have hj' := hj
  rw [hr] at hj
  obtain ⟨o, ho, hop⟩ := h j hj
  have h1 := hop a w g hv
  unfold wpOp
  have ho' : l.toArray[j]? = some o := by simpa using ho
  simp only [ho']
  have next : ∀ a1 w1, Post N (fun E' S' => (W.contains j = false → S0.Less S') ∧ DG P N l W S0 K n (listed.setIfInBounds j true) E' S') S w a1 w1 → (W.contains j = false → View S0 w → View S0 w1) ∧ wpAnyG P l.toArray (Q0 N K S0 w0) (fun i => W.contains i) (View S0) n (listed.setIfInBounds j true) a1 w1 := fun a1 w1 ⟨E1, S1, ⟨k1, k2⟩, g1, s1⟩ =>
    ⟨fun hw _ => s1.view.less (k1 hw), k2 w0 a1 w1 (closed_put hcl hj') g1 s1.view (hs.trans s1)⟩
  split
  · rename_i hw; rw [if_pos hw] at h1
    exact .inl (upon_noQ (Oper.wp_mono next h1))
  · rename_i hw; rw [if_neg hw] at h1
    exact next _ _ h1
theorem DG.fork1 {n : Nat} {listed : Array Bool} {E : Env} {S : Mem} (i : Nat) (hr : (Region.ready .any l.toArray listed == [i]) = true)
    (h : ∃ o, l[i]? = some o ∧ AOp P N l.toArray o (fun E' S' => (W.contains i = false → S0.Less S') ∧ DG P N l W S0 K n (listed.setIfInBounds i true) E' S') E S) : DG P N l W S0 K (n + 1) listed E S :=
  DG.fork [i] hr (by simp) fun j hj => by
    have e : j = i := by simpa using hj
    rw [e]; exact h
theorem DG.fork2 {n : Nat} {listed : Array Bool} {E : Env} {S : Mem} (i j : Nat) (hr : (Region.ready .any l.toArray listed == [i, j]) = true)
    (h : ∃ o, l[i]? = some o ∧ AOp P N l.toArray o (fun E' S' => (W.contains i = false → S0.Less S') ∧ DG P N l W S0 K n (listed.setIfInBounds i true) E' S') E S)
    (k : ∃ o, l[j]? = some o ∧ AOp P N l.toArray o (fun E' S' => (W.contains j = false → S0.Less S') ∧ DG P N l W S0 K n (listed.setIfInBounds j true) E' S') E S) : DG P N l W S0 K (n + 1) listed E S :=
  DG.fork [i, j] hr (by simp) fun q hq => by
    rcases List.mem_cons.1 hq with rfl | hq
    · exact h
    · obtain rfl : q = j := by simpa using hq
      exact k
/-- One that only looks is taken first. -/
theorem DG.first {n : Nat} {listed : Array Bool} {E : Env} {S : Mem} (i : Nat) (hsel : Region.noSelect l.toArray = true) (hc1 : mayFirst l W listed i = true)
    (h : ∃ o d v, l[i]? = some o ∧ o.dst = some d ∧ d < N ∧ (pureOp o = true ∨ S0.Less S) ∧ ACalmG P N l.toArray o E (if pureOp o then noMem else S0) v ∧ DG P N l W S0 K n (listed.setIfInBounds i true) ((d, v) :: E) S) : DG P N l W S0 K (n + 1) listed E S := fun w0 a w hcl g hv hs => by
  obtain ⟨o, d, v, ho, hd, hn, hless, hcalm, hrest⟩ := h
  simp only [mayFirst, Bool.and_eq_true, Bool.or_eq_true] at hc1
  obtain ⟨⟨hr, hf⟩, hp⟩ := hc1
  have ho' : l.toArray[i]? = some o := by simpa using ho
  have hri : i ∈ Region.ready .any l.toArray listed := by simpa using hr
  let D : World → Prop := fun w' => if pureOp o = true then True else View S0 w'
  have hDw : D w := by
    simp only [D]
    split
    · trivial
    · rename_i hx
      exact hv.less (hless.resolve_left hx)
  have hmem : ∀ w', D w' → View (if pureOp o then noMem else S0) w' := fun w' h => by
    simp only [D] at h
    split
    · exact view_noMem _
    · rename_i hx; rw [if_neg hx] at h; exact h
  refine wpAnyG_first (D := D) (v := v) ho' (Region.noSelect_spec hsel) (fun c a w h => h) ?_ n listed a w hcl (Region.free_spec ho' hf) hri ?_ hDw ?_
  · intro j w1 w2 listed' hcl' hun hj hD1 hpres
    simp only [D] at hD1 ⊢
    split
    · trivial
    · rename_i hx
      rw [if_neg hx] at hD1
      refine hpres ?_ hD1
      rcases hp with hp | hp
      · rw [ho] at hp; exact absurd (by simpa using hp) hx
      · cases hwc : W.contains j with
        | false => rfl
        | true =>
          have h1 := List.all_eq_true.1 hp j (by simpa using hwc)
          obtain ⟨hju, oj, hoj, hall⟩ := mem_ready.1 hj
          have h2 := waitsFor_spec h1 listed' hcl' fun o2 ho2 e he hb => by
            obtain rfl : oj = o2 := Option.some.inj (hoj.symm.trans ho2)
            exact hall e he hb
          rcases Nat.lt_or_ge i listed'.size with hlt | hge
          · simp [hlt] at hun h2; rw [hun] at h2; cases h2
          · simp [Array.getElem?_eq_none hge] at h2
  · by_cases hw : Region.wanted o (yielded l.toArray a.tmps) = true
    · refine .inl ⟨hw, fun w' hD' => ?_⟩
      rcases hcalm a w' g (hmem w' hD') with h1 | h1
      · exact h1.2
      · rw [hw] at h1; cases h1.1
    · rcases hcalm a w g (hmem w hDw) with h1 | h1
      · exact absurd h1.1 hw
      · exact .inr h1
  · rw [hd]
    exact hrest w0 _ w (closed_put hcl hri) (g.put hn v) hv hs
theorem DG.pure {n : Nat} {listed : Array Bool} {E : Env} {S : Mem} {o : Oper} {d : Nat} {v : Value} (i : Nat) (hsel : Region.noSelect l.toArray = true) (hc1 : mayFirst l W listed i = true) (ho : l[i]? = some o) (hp : pureOp o = true) (hg : o.guard = none) (hd : o.dst = some d) (hn : d < N)
    (hc : ∀ S', ACalm P N o E S' v) (h : DG P N l W S0 K n (listed.setIfInBounds i true) ((d, v) :: E) S) : DG P N l W S0 K (n + 1) listed E S :=
  DG.first i hsel hc1 ⟨o, d, v, ho, hd, hn, .inl hp, fun a w g hv => .inl ⟨by simp [Region.wanted, hg], hc _ a w g hv⟩, h⟩
theorem DG.look {n : Nat} {listed : Array Bool} {E : Env} {S : Mem} {o : Oper} {d : Nat} {v : Value} (i : Nat) (hsel : Region.noSelect l.toArray = true) (hc1 : mayFirst l W listed i = true) (ho : l[i]? = some o) (hp : pureOp o = false) (hg : o.guard = none) (hd : o.dst = some d) (hn : d < N) (hl : S0.Less S)
    (hc : ACalm P N o E S0 v) (h : DG P N l W S0 K n (listed.setIfInBounds i true) ((d, v) :: E) S) : DG P N l W S0 K (n + 1) listed E S :=
  DG.first i hsel hc1 ⟨o, d, v, ho, hd, hn, .inr hl, fun a w g hv => .inl ⟨by simp [Region.wanted, hg], by rw [hp] at hv; exact hc a w g hv⟩, h⟩
theorem DG.only {n : Nat} {listed : Array Bool} {E : Env} {S : Mem} {o : Oper} (i : Nat) (hr : (Region.ready .any l.toArray listed == [i]) = true) (ho : l[i]? = some o)
    (h : ARun P N l.toArray [o] (fun E' S' => (W.contains i = false → S0.Less S') ∧ DG P N l W S0 K n (listed.setIfInBounds i true) E' S') E S) : DG P N l W S0 K (n + 1) listed E S := DG.fork1 i hr ⟨o, ho, h⟩
theorem DG.two {n : Nat} {listed : Array Bool} {E : Env} {S : Mem} {o o' : Oper} (i j : Nat) (hr : (Region.ready .any l.toArray listed == [i, j]) = true) (ho : l[i]? = some o)
    (h : ARun P N l.toArray [o] (fun E' S' => (W.contains i = false → S0.Less S') ∧ DG P N l W S0 K n (listed.setIfInBounds i true) E' S') E S) (ho' : l[j]? = some o')
    (h' : ARun P N l.toArray [o'] (fun E' S' => (W.contains j = false → S0.Less S') ∧ DG P N l W S0 K n (listed.setIfInBounds j true) E' S') E S) : DG P N l W S0 K (n + 1) listed E S := DG.fork2 i j hr ⟨o, ho, h⟩ ⟨o', ho', h'⟩
theorem DG.end_ {listed : Array Bool} {E : Env} {S : Mem} (hr : (Region.ready .any l.toArray listed).isEmpty = true) (h : K E S) : DG P N l W S0 K 0 listed E S := DG.nil (by simpa using hr) h
theorem AWP.drawG {id : Nat} {Q : Exit → Env → Mem → Prop} {E : Env} {S : Mem} (W : List Nat) (hm : P.follows .mixedOrders = true)
    (h : DG P N l W S (Q .normal) l.length (Array.replicate l.length false) E S) : AWP P N (.region id l.toArray true) Q E S := fun a w g hv => by
  refine wp_mono (Q := Q0 N (Q .normal) S w) ?_ (fun e a' w' x => by cases e <;> first | exact x | exact x.elim)
  refine wp_region_any hm ?_
  refine wpAny_of_G (W := fun i => W.contains i) (C := View S) _ _ _ _ ?_
  have hst : Step S w S { w with drawn := w.drawn + 1 } := Step.drawn hv _
  have := h w a _ (closed_start _ _) g hst.view hst
  simpa using this
end
end Mv
end Go.Proofs.Ytgidjbpgkeemiaa
namespace Go.Proofs.Ytgidjbpgkeemiaa
open Go.RowKit
open Mv Num
set_option linter.unusedVariables false
set_option linter.unusedSimpArgs false
set_option maxRecDepth 4000
/-- Ends that are in order. -/
def RightE (l : List Nat) (ends : List Int) : Prop := ∃ e : List Nat, ends = e.map (fun k : Nat => (k : Int)) ∧ Ord.SortedE l e
theorem right_good {l : List Nat} {ends : List Int} (h : RightE l ends) : GoodE ends ∧ ends.length = l.length := by
  obtain ⟨e, rfl, h⟩ := h
  have hl := h.len
  exact ⟨⟨e, rfl, by rw [List.length_map, hl]; exact h.1⟩, by rw [List.length_map, hl]⟩
/-- What is behind a place, or -1. -/
def behZ (n : Nat) (x : List Int) (a : Nat) : Int := if a + 1 < n then x.getD (a + 1) 0 else -1
def cfR (l : List Nat) (x : List Int) (a b : Nat) : Int := orL [cmpU (l.getD a 0) (l.getD b 0), cmpZ (behZ l.length x a) (behZ l.length x b)]
theorem inv_nat {e : List Nat} {x : List Int} (hp : e.Perm (List.range e.length)) (hx : InvOf (e.map (fun k : Nat => (k : Int))) x) (q : Nat) (hq : q < e.length) : ∃ k, ∃ h : k < e.length, e[k] = q ∧ x.getD q 0 = (k : Int) := by
  obtain ⟨j, hj, ej⟩ := List.getElem_of_mem (hp.mem_iff.2 (List.mem_range.2 hq))
  have := hx.2 j (by rw [List.length_map]; exact hj)
  rw [List.getElem_map, Int.toNat_natCast, ej] at this
  exact ⟨j, hj, ej, this⟩
theorem cfR_neg {l e : List Nat} {x : List Int} (hp : e.Perm (List.range e.length)) (hx : InvOf (e.map (fun k : Nat => (k : Int))) x) (hl : e.length = l.length) (a b : Nat) : cfR l x a b < 0 ↔ Ord.stepR l (fun q => (x.getD q 0).toNat) a b := by
  unfold cfR orL orL orL Ord.stepR
  have h1 := cmpU_neg (l.getD a 0) (l.getD b 0)
  have h2 := cmpU_zero (l.getD a 0) (l.getD b 0)
  have h3 := cmpZ_neg (behZ l.length x a) (behZ l.length x b)
  have hb : ∀ a, behZ l.length x a = ((Ord.behind l.length (fun q => (x.getD q 0).toNat) a : Nat) : Int) - 1 := fun a => by
    unfold behZ Ord.behind
    split
    · obtain ⟨k, hk, _, e1⟩ := inv_nat hp hx (a + 1) (by omega)
      dsimp only; rw [e1]; omega
    · rfl
  have ha := hb a
  have hb' := hb b
  split
  · split <;> omega
  · omega
theorem right_iff {l e : List Nat} {x : List Int} (hp : e.Perm (List.range e.length)) (hx : InvOf (e.map (fun k : Nat => (k : Int))) x) (hl : e.length = l.length) :
    RightE l (e.map (fun k : Nat => (k : Int))) ↔ ∀ k (hk : k + 1 < e.length), cfR l x (e[k]'(by omega)) e[k + 1] < 0 := by
  have hat : ∀ k (hk : k < e.length), (x.getD e[k] 0).toNat = k := fun k hk => by
    have := hx.2 k (by rw [List.length_map]; exact hk)
    rw [List.getElem_map, Int.toNat_natCast] at this
    rw [this]; omega
  constructor
  · rintro ⟨e', h1, h2⟩ k hk
    have he : e = e' := by
      have := congrArg (List.map Int.toNat) h1
      simpa [List.map_map, Function.comp_def] using this
    subst he
    rw [cfR_neg hp hx hl]
    exact Ord.sorted_right l e _ h2 hat k hk
  · intro h
    exact ⟨e, rfl, Ord.right_sorted l e _ (by rw [hl] at hp; exact hp) hat fun k hk => (cfR_neg hp hx hl _ _).1 (h k hk)⟩
theorem or_beh (ii : Int) (i c2 c5 : Nat) (v u : Value) (l : List Nat) (x : List Int) (ei : ii = i) (S : Mem) (k2 : S.Knows ⟨c2, 0, none⟩ [v]) (k5 : S.Knows ⟨c5, 0, none⟩ [u]) (hv : RowR S v l) (hu : Sl 1 i64s S u x) (hx : x.length = l.length) (hi : i < l.length) :
    ACall Try.prog 92 #[.int .i64 ii, .pointer (some ⟨c2, 0, none⟩), .pointer (some ⟨c5, 0, none⟩)] S fun r S' => r = .int .i64 (behZ l.length x i) ∧ S' = S := by
  subst ei
  obtain ⟨va, vc, rfl, v1, v2, v3⟩ := id hv
  obtain ⟨ua, uc, rfl, u1, u2, u3⟩ := id hu
  unfold behZ
  by_cases hc : i + 1 < l.length
  · rw [if_pos hc]
    obtain ⟨ub, uo, rfl, hku⟩ := u3.resolve_left (fun h => by rw [h] at hx; simp at hx; omega)
    have kk : S.Knows ⟨ub, uo + (i + 1) * 1, none⟩ [.int .i64 (x.getD (i + 1) 0)] := by rw [getD_get x (i + 1) 0 (by omega)]; exact hku (i + 1) (by omega)
    refine ACall.enter (args := [.int .i64 (i : Int), .pointer (some ⟨c2, 0, none⟩), .pointer (some ⟨c5, 0, none⟩)]) (rs := [.tmp 4]) 15 [(0, .int .i64 (i : Int)), (1, .pointer (some ⟨c2, 0, none⟩)), (2, .pointer (some ⟨c5, 0, none⟩))] Try.func92 rfl rfl (Nat.le_of_ble_eq_true rfl) rfl ⟨rfl, rfl, rfl, trivial⟩ ?_
    refine AWP.seq ?_
    refine AWP.region ?_
    refine rC (Calm.assign rfl) ?_
    refine arun_nil ?_
    refine athen_n ?_
    refine AWP.seq ?_
    refine AWP.seq ?_
    refine AWP.region ?_
    refine rC (Calm.move rfl) ?_
    refine rC (Calm.bin rfl rfl b_add_i64) ?_
    refine rC (ld_ ty_plain_22 rfl) ?_
    refine rC (Calm.lenSl Try.underlying22 rfl) ?_
    refine rC (Calm.bin rfl rfl b_lss) ?_
    refine arun_nil ?_
    refine athen_n ?_
    refine AWP.sub [(0, _), (1, _), (2, _), (4, _), (9, _)] ⟨rfl, rfl, rfl, rfl, rfl, trivial⟩ ?_
    refine AWP.condT rfl (by first | rfl | (simp; done) | (simp; omega)) ?_
    refine AWP.seq ?_
    refine AWP.region ?_
    refine rC (ld_ ty_plain_24 rfl) ?_
    refine rC (Calm.move rfl) ?_
    refine rC (Calm.bin rfl rfl b_add_i64) ?_
    refine rC (Calm.indexS Try.underlying24 ty_size_3 rfl rfl (by omega) (by omega)) ?_
    refine rC (ld_ ty_plain_3 rfl) ?_
    refine rC (Calm.assign rfl) ?_
    refine arun_nil ?_
    refine athen_n ?_
    refine AWP.sub [(0, _), (1, _), (2, _), (4, _), (9, _)] ⟨rfl, rfl, rfl, rfl, rfl, trivial⟩ ?_
    refine AWP.ret ?_
    refine athen_ret ?_
    refine ⟨_, S, ⟨_, _, rfl, rfl, rfl⟩, less_, ?_⟩
    exact ⟨rfl, rfl⟩
  · rw [if_neg hc]
    refine ACall.enter (args := [.int .i64 (i : Int), .pointer (some ⟨c2, 0, none⟩), .pointer (some ⟨c5, 0, none⟩)]) (rs := [.tmp 4]) 15 [(0, .int .i64 (i : Int)), (1, .pointer (some ⟨c2, 0, none⟩)), (2, .pointer (some ⟨c5, 0, none⟩))] Try.func92 rfl rfl (Nat.le_of_ble_eq_true rfl) rfl ⟨rfl, rfl, rfl, trivial⟩ ?_
    refine AWP.seq ?_
    refine AWP.region ?_
    refine rC (Calm.assign rfl) ?_
    refine arun_nil ?_
    refine athen_n ?_
    refine AWP.seq ?_
    refine AWP.seq ?_
    refine AWP.region ?_
    refine rC (Calm.move rfl) ?_
    refine rC (Calm.bin rfl rfl b_add_i64) ?_
    refine rC (ld_ ty_plain_22 rfl) ?_
    refine rC (Calm.lenSl Try.underlying22 rfl) ?_
    refine rC (Calm.bin rfl rfl b_lss) ?_
    refine arun_nil ?_
    refine athen_n ?_
    refine AWP.sub [(0, _), (1, _), (2, _), (4, _), (9, _)] ⟨rfl, rfl, rfl, rfl, rfl, trivial⟩ ?_
    refine AWP.condF rfl (by first | rfl | (simp; done) | (simp; omega)) ?_
    refine AWP.skip ?_
    refine athen_n ?_
    refine AWP.seq ?_
    refine AWP.region ?_
    refine rC (Calm.assign rfl) ?_
    refine arun_nil ?_
    refine athen_n ?_
    refine AWP.ret ?_
    refine ⟨_, S, ⟨_, _, rfl, rfl, rfl⟩, less_, ?_⟩
    exact ⟨rfl, rfl⟩
set_option maxHeartbeats 2000000 in
theorem or_Right (v ve : Value) (l : List Nat) (ends : List Int) (S : Mem) (hv : RowR S v l) (hve : Sl 1 i64s S ve ends) (hl : ends.length ≤ 17592186043904) :
    ACall Try.prog 53 #[v, ve] S fun r S' => (∃ t, r = .bool t ∧ (t = true ↔ RightE l ends)) ∧ S' = S := by
  obtain ⟨va, vc, rfl, v1, v2, v3⟩ := id hv
  obtain ⟨ea, ec, rfl, e1, e2, e3⟩ := id hve
  by_cases hg : GoodE ends
  · by_cases hlen : ends.length = l.length
    · obtain ⟨e, rfl, hp⟩ := hg
      rw [List.length_map] at hp hlen
      have hlm : (e.map (fun k : Nat => (k : Int))).length = e.length := List.length_map ..
      rw [hlm] at e1 e2 hl hve
      have hke : ∀ i (h : i < e.length), ∃ b off, ea = some ⟨b, off, none⟩ ∧ S.Knows ⟨b, off + i * 1, none⟩ [.int .i64 (e[i] : Int)] := fun i h => by
        obtain ⟨b, off, rfl, hk⟩ := e3.resolve_left (fun h' => by rw [List.map_eq_nil_iff] at h'; subst h'; exact absurd h (Nat.not_lt_zero _))
        have := hk i (by rw [hlm]; exact h)
        rw [List.getElem_map] at this
        exact ⟨b, off, rfl, this⟩
      rw [hlm]
      have hInv := or_Inverse _ _ S hve (by rw [hlm]; exact hl)
      refine ACall.enter (args := [.slice va l.length vc, .slice ea e.length ec]) (rs := [.tmp 4]) 62 [(0, .slice va l.length vc), (1, .slice ea e.length ec)] Try.func53 rfl rfl (Nat.le_of_ble_eq_true rfl) rfl ⟨rfl, rfl, trivial⟩ ?_
      refine AWP.seq ?_
      refine AWP.region ?_
      refine ARun.box1 (lit_lt rfl) rfl rfl ?_
      intro b2 f2
      have g2 := f2
      repeat ((with_reducible replace g2 := fresh_set g2); obtain ⟨g2, _⟩ := g2)
      (try simp only [List.length_cons, List.length_nil, Nat.zero_add, Nat.reduceAdd])
      refine rC (Calm.assign rfl) ?_
      refine arun_nil ?_
      refine athen_n ?_
      refine AWP.seq ?_
      refine AWP.region ?_
      refine rC (Calm.move rfl) ?_
      refine ARun.call (lit_lt rfl) go_49 rfl ((hInv.frame f2)) ?_
      rintro _ _ ⟨S1, hR, f2', rfl⟩
      obtain ⟨_, u, x, hx, rfl, hNew⟩ := hR.resolve_right (fun h => h.1 ⟨e, rfl, by rw [hlm]; exact hp⟩)
      have hxl : x.length = e.length := by rw [hx.1, hlm]
      obtain ⟨hS1, hu⟩ := hNew.rd (by omega)
      clear hNew
      obtain ⟨ua, uc, rfl, _⟩ := id hu
      have hiff := right_iff hp hx hlen
      refine rC (Calm.move rfl) ?_
      refine rC (Calm.extract rfl rfl) ?_
      refine rC (Calm.extract rfl rfl) ?_
      refine ARun.alloc (lit_lt rfl) ty_zero_24 ?_
      intro b5 f5
      have g5 := f5
      repeat ((with_reducible replace g5 := fresh_set g5); obtain ⟨g5, _⟩ := g5)
      (try simp only [List.length_cons, List.length_nil, Nat.zero_add, Nat.reduceAdd])
      refine ARun.store1 rfl rfl ty_size_24 rfl own_ lens_ rfl ?_
      (try simp only [Mem.set_set, List.set_cons_zero, List.set_cons_succ, Nat.zero_add, Nat.reduceAdd])
      refine rC (Calm.assign rfl) ?_
      refine arun_nil ?_
      refine athen_n ?_
      refine AWP.sub [(0, _), (1, _), (2, _), (4, _), (5, _), (6, _)] ⟨rfl, rfl, rfl, rfl, rfl, rfl, trivial⟩ ?_
      refine AWP.seq ?_
      refine AWP.seq ?_
      refine AWP.region ?_
      refine rC (Calm.move rfl) ?_
      refine rC (Calm.bin rfl rfl b_neq) ?_
      refine rC (Calm.move rfl) ?_
      first | refine rS 19 ?_ | refine rU 19 ?_ | refine rG 19 (Calm.move rfl) ?_
      first | refine rS 19 ?_ | refine rU 19 ?_ | refine rG 19 (Calm.lenSl Try.underlying24 rfl) ?_
      first | refine rS 19 ?_ | refine rU 19 ?_ | refine rG 19 (ld_ ty_plain_22 rfl) ?_
      first | refine rS 19 ?_ | refine rU 19 ?_ | refine rG 19 (Calm.lenSl Try.underlying22 rfl) ?_
      first | refine rS 19 ?_ | refine rU 19 ?_ | refine rG 19 (Calm.bin rfl rfl b_neq) ?_
      refine rC ((by first | exact Calm.pickT rfl rfl | exact Calm.pickF rfl rfl)) ?_
      refine arun_nil ?_
      refine athen_n ?_
      refine AWP.sub [(0, _), (1, _), (2, _), (4, _), (5, _), (6, _), (25, _)] ⟨rfl, rfl, rfl, rfl, rfl, rfl, rfl, trivial⟩ ?_
      refine AWP.condF rfl (by first | rfl | (simp; done) | (simp; omega)) ?_
      obtain ⟨B, hB⟩ : ∃ B, B = (S1.set b2 ⟨22, [.slice va l.length vc], 1⟩).set b5 ⟨24, [.slice ua x.length uc], 1⟩ := ⟨_, rfl⟩
      have hSB : S1.Less B := by rw [hB]; exact less_
      have o2 : B.own b2 = some ⟨22, [.slice va l.length vc], 1⟩ := by rw [hB]; exact own_
      have o5 : B.own b5 = some ⟨24, [.slice ua x.length uc], 1⟩ := by rw [hB]; exact own_
      have hSS : S.Less B := hS1.trans hSB
      have k2 : B.Knows ⟨b2, 0, none⟩ [.slice va l.length vc] := Mem.own_knows o2 0 _ (fun j v hj => by rw [Nat.zero_add]; exact hj)
      have k5 : B.Knows ⟨b5, 0, none⟩ [.slice ua x.length uc] := Mem.own_knows o5 0 _ (fun j v hj => by rw [Nat.zero_add]; exact hj)
      replace hu := hu.less hSB
      refine AWP.less B (by rw [hB]; exact Mem.Less.refl _) ?_
      clear hB f5 g5 f2' hSB
      refine AWP.skip ?_
      refine athen_n ?_
      refine AWP.seq ?_
      refine AWP.region ?_
      refine rC (Calm.makeFunc rfl rfl) ?_
      refine rC (Calm.assign rfl) ?_
      refine arun_nil ?_
      refine athen_n ?_
      refine AWP.sub [(0, _), (1, _), (2, _), (4, _), (5, _), (6, _), (25, _), (7, _)] ⟨rfl, rfl, rfl, rfl, rfl, rfl, rfl, rfl, trivial⟩ ?_
      refine AWP.seq ?_
      refine AWP.seq ?_
      refine AWP.region ?_
      refine rC (Calm.assign rfl) ?_
      refine arun_nil ?_
      refine athen_n ?_
      refine AWP.block ?_
      refine AWP.loop (X := Nat) (fun i => [(1, .slice ea e.length ec), (2, .pointer (some ⟨b2, 0, none⟩)), (7, .func (.func 92) #[] #[.pointer (some ⟨b2, 0, none⟩), .pointer (some ⟨b5, 0, none⟩)]), (8, .int .i64 i)]) (fun _ => B) (fun i => 1 ≤ i ∧ (i ≤ e.length ∨ i = 1) ∧ ∀ k (hk : k + 1 < e.length), k + 1 < i → cfR l x (e[k]'(by omega)) e[k + 1] < 0) (fun i => e.length - i) (1) ⟨rfl, rfl, rfl, rfl, trivial⟩ (Mem.Less.refl _) (⟨Nat.le_refl _, .inr rfl, fun k hk h => by omega⟩) ?_
      rintro i ⟨q1, q2, q3⟩
      (try dsimp only at *)
      by_cases hi : i < e.length
      · obtain ⟨i, rfl⟩ : ∃ q, i = q + 1 := ⟨i - 1, by omega⟩
        refine AWP.seq ?_
        refine AWP.seq ?_
        refine AWP.region ?_
        refine rC (Calm.move rfl) ?_
        refine rC (Calm.move rfl) ?_
        refine rC (Calm.lenSl Try.underlying24 rfl) ?_
        refine rC (Calm.bin rfl rfl b_lss) ?_
        refine arun_nil ?_
        refine athen_n ?_
        refine AWP.sub [(1, _), (2, _), (7, _), (8, _), (30, _)] ⟨rfl, rfl, rfl, rfl, rfl, trivial⟩ ?_
        refine AWP.condT rfl (by first | rfl | (simp; done) | (simp; omega)) ?_
        obtain ⟨eb, eo, rfl, ke1⟩ := hke (i + 1) hi
        obtain ⟨eb', eo', ee, ke0⟩ := hke i (by omega)
        cases ee
        obtain ⟨a, ha⟩ : ∃ a, a = e[i]'(by omega) := ⟨_, rfl⟩
        obtain ⟨b, hb⟩ : ∃ b, b = e[i + 1] := ⟨_, rfl⟩
        have ha1 : a < l.length := by rw [ha, ← hlen]; exact List.mem_range.1 (hp.mem_iff.1 (List.getElem_mem _))
        have hb1 : b < l.length := by rw [hb, ← hlen]; exact List.mem_range.1 (hp.mem_iff.1 (List.getElem_mem _))
        rw [← ha] at ke0
        rw [← hb] at ke1
        replace ke0 : B.Knows ⟨eb, eo + (((i + 1 : Nat) : Int) - 1).toNat * 1, none⟩ [.int .i64 (a : Int)] := by rw [show (((i + 1 : Nat) : Int) - 1).toNat = i by omega]; exact ke0.less hSS
        replace ke1 := ke1.less hSS
        obtain ⟨vb, vo, rfl, hkv⟩ := v3.resolve_left (fun h => by rw [h] at ha1; exact absurd ha1 (Nat.not_lt_zero _))
        have kv1 : B.Knows ⟨vb, vo + a * 1, none⟩ [.int .u64 (l.getD a 0 : Int)] := by rw [getD_get l a 0 ha1]; exact (hkv a ha1).less hSS
        have kv2 : B.Knows ⟨vb, vo + b * 1, none⟩ [.int .u64 (l.getD b 0 : Int)] := by rw [getD_get l b 0 hb1]; exact (hkv b hb1).less hSS
        refine AWP.skip ?_
        refine athen_n ?_
        refine AWP.seq ?_
        refine AWP.block ?_
        refine AWP.seq ?_
        refine AWP.draw [(0, true), (1, true), (2, true), (3, true), (4, true), (5, true), (6, true), (7, true), (8, true), (9, true), (10, true)] [] mixed (by kernel_rfl) ?_
        refine dP (hc := fun _ => Calm.move rfl) (h := ?_)
        refine dP (hc := fun _ => Calm.move rfl) (h := ?_)
        refine dP (hc := fun _ => Calm.bin rfl rfl b_sub_i64) (h := ?_)
        refine dP (hc := fun _ => Calm.indexS Try.underlying24 ty_size_3 rfl rfl (by omega) (by omega)) (h := ?_)
        refine dC (hc := ld_ ty_plain_3 rfl) (h := ?_)
        refine dP (hc := fun _ => Calm.move rfl) (h := ?_)
        refine dP (hc := fun _ => Calm.move rfl) (h := ?_)
        refine dP (hc := fun _ => Calm.indexS Try.underlying24 ty_size_3 rfl rfl (by omega) (by omega)) (h := ?_)
        refine dC (hc := ld_ ty_plain_3 rfl) (h := ?_)
        refine dP (hc := fun _ => Calm.assign rfl) (h := ?_)
        refine dP (hc := fun _ => Calm.assign rfl) (h := ?_)
        refine draw_nil ?_
        refine athen_n ?_
        refine AWP.sub [(1, _), (2, _), (7, _), (8, _), (30, _), (9, _), (10, _)] ⟨rfl, rfl, rfl, rfl, rfl, rfl, rfl, trivial⟩ ?_
        refine AWP.seq ?_
        refine AWP.draw [(0, true), (1, true), (2, true), (3, true), (4, true), (5, true), (6, true), (7, true), (9, true), (10, true), (12, true), (13, true), (8, false), (11, false), (14, false), (15, false), (16, false), (17, false), (18, true)] [] mixed (by kernel_rfl) ?_
        refine dC (hc := ld_ ty_plain_22 rfl) (h := ?_)
        refine dP (hc := fun _ => Calm.move rfl) (h := ?_)
        refine dP (hc := fun _ => Calm.indexS Try.underlying22 ty_size_41 rfl rfl (by omega) (by omega)) (h := ?_)
        refine dC (hc := ld_ ty_plain_41 rfl) (h := ?_)
        refine dC (hc := ld_ ty_plain_22 rfl) (h := ?_)
        refine dP (hc := fun _ => Calm.move rfl) (h := ?_)
        refine dP (hc := fun _ => Calm.indexS Try.underlying22 ty_size_41 rfl rfl (by omega) (by omega)) (h := ?_)
        refine dC (hc := ld_ ty_plain_41 rfl) (h := ?_)
        refine dP (hc := fun _ => Calm.move rfl) (h := ?_)
        refine dP (hc := fun _ => Calm.move rfl) (h := ?_)
        refine dP (hc := fun _ => Calm.move rfl) (h := ?_)
        refine dP (hc := fun _ => Calm.move rfl) (h := ?_)
        refine draw_only rfl ?_
        refine ARun.call (lit_lt rfl) go_94 rfl (numV_cmp2 (l.getD a 0) (l.getD b 0) _) ?_
        rintro _ S9 ⟨rfl, h9⟩
        rw [h9]; clear h9 S9
        refine arun_nil ⟨fun _ => less_, ?_⟩
        refine draw_only rfl ?_
        refine ARun.callV (lit_lt rfl) go_92 rfl rfl (or_beh _ a b2 b5 _ _ l x rfl _ k2 k5 (hv.less hSS) hu (by omega) ha1) ?_
        rintro _ S9 ⟨rfl, h9⟩
        rw [h9]; clear h9 S9
        refine arun_nil ⟨fun _ => less_, ?_⟩
        refine draw_only rfl ?_
        refine ARun.callV (lit_lt rfl) go_92 rfl rfl (or_beh _ b b2 b5 _ _ l x rfl _ k2 k5 (hv.less hSS) hu (by omega) hb1) ?_
        rintro _ S9 ⟨rfl, h9⟩
        rw [h9]; clear h9 S9
        refine arun_nil ⟨fun _ => less_, ?_⟩
        refine draw_only rfl ?_
        refine ARun.call (lit_lt rfl) go_95 rfl (si_cmp (behZ l.length x a) (behZ l.length x b) _) ?_
        rintro _ S9 ⟨rfl, h9⟩
        rw [h9]; clear h9 S9
        refine arun_nil ⟨fun _ => less_, ?_⟩
        refine draw_only rfl ?_
        refine ARun.buildN (cs := [_, _]) (lit_lt rfl) ty_sl_24 rfl rfl rfl rfl ?_
        intro b58 f58
        have g58 := f58
        repeat ((with_reducible replace g58 := fresh_set g58); obtain ⟨g58, _⟩ := g58)
        refine arun_nil ⟨fun _ => less_, ?_⟩
        refine draw_only rfl ?_
        refine ARun.call (lit_lt rfl) go_93 rfl (si_Or _ _ _ (sl_own2 own_)) ?_
        rintro _ _ ⟨rfl, rfl⟩
        have hcf : cfR l x a b = orL [if l.getD a 0 < l.getD b 0 then -1 else if l.getD b 0 < l.getD a 0 then 1 else 0, cmpZ (behZ l.length x a) (behZ l.length x b)] := rfl
        rw [← hcf]
        refine arun_nil ⟨fun _ => less_, ?_⟩
        refine dP (hc := fun _ => Calm.assign rfl) (h := ?_)
        refine draw_nil ?_
        refine athen_n ?_
        refine AWP.sub [(1, _), (2, _), (7, _), (8, _), (30, _), (9, _), (10, _), (11, _)] ⟨rfl, rfl, rfl, rfl, rfl, rfl, rfl, rfl, trivial⟩ ?_
        by_cases hneg : cfR l x a b < 0
        · refine AWP.seq ?_
          refine AWP.region ?_
          refine rC (Calm.move rfl) ?_
          refine rC (Calm.bin rfl rfl b_geq) ?_
          refine arun_nil ?_
          refine athen_n ?_
          refine AWP.sub [(1, _), (2, _), (7, _), (8, _), (30, _), (9, _), (10, _), (11, _), (61, _)] ⟨rfl, rfl, rfl, rfl, rfl, rfl, rfl, rfl, rfl, trivial⟩ ?_
          refine AWP.condF rfl (by first | rfl | (simp; done) | (simp; omega)) ?_
          refine AWP.skip ?_
          refine ain_n ?_
          refine athen_n ?_
          refine AWP.region ?_
          refine rC (Calm.move rfl) ?_
          refine rC (Calm.bin rfl rfl b_add_i64) ?_
          refine rC (Calm.assign rfl) ?_
          refine arun_nil ?_
          refine athen_n ?_
          refine ⟨i + 1 + 1, ?_, ?_, ?_, ?_⟩
          all_goals (try dsimp only)
          · exact ⟨sq_, sq_, sq_, sq_, trivial⟩
          · exact less_
          · exact ⟨by omega, by omega, fun k hk h => by rcases Nat.lt_or_ge (k + 1) (i + 1) with h' | h'; exact q3 k hk h'; obtain rfl : k = i := (by omega); rw [← ha, ← hb]; exact hneg⟩
          · omega
        · refine AWP.seq ?_
          refine AWP.region ?_
          refine rC (Calm.move rfl) ?_
          refine rC (Calm.bin rfl rfl b_geq) ?_
          refine arun_nil ?_
          refine athen_n ?_
          refine AWP.sub [(1, _), (2, _), (7, _), (8, _), (30, _), (9, _), (10, _), (11, _), (61, _)] ⟨rfl, rfl, rfl, rfl, rfl, rfl, rfl, rfl, rfl, trivial⟩ ?_
          refine AWP.condT rfl (by first | rfl | (simp; done) | (simp; omega)) ?_
          refine AWP.seq ?_
          refine AWP.region ?_
          refine rC (Calm.assign rfl) ?_
          refine arun_nil ?_
          refine athen_n ?_
          refine AWP.ret ?_
          refine ain_ret ?_
          refine athen_ret ?_
          refine athen_ret ?_
          refine ain_ret ?_
          refine athen_ret ?_
          refine ⟨_, S, ⟨_, _, rfl, rfl, rfl⟩, hSS.trans less_, ?_⟩
          exact ⟨⟨false, rfl, by constructor; (intro h; cases h); (intro h; have := (hiff.1 h) i hi; rw [← ha, ← hb] at this; exact absurd this hneg)⟩, rfl⟩
      · refine AWP.seq ?_
        refine AWP.seq ?_
        refine AWP.region ?_
        refine rC (Calm.move rfl) ?_
        refine rC (Calm.move rfl) ?_
        refine rC (Calm.lenSl Try.underlying24 rfl) ?_
        refine rC (Calm.bin rfl rfl b_lss) ?_
        refine arun_nil ?_
        refine athen_n ?_
        refine AWP.sub [(1, _), (2, _), (7, _), (8, _), (30, _)] ⟨rfl, rfl, rfl, rfl, rfl, trivial⟩ ?_
        refine AWP.condF rfl (by first | rfl | (simp; done) | (simp; omega)) ?_
        refine AWP.exit ?_
        refine athen_exit ?_
        refine athen_exit ?_
        refine ain_same ?_
        refine athen_n ?_
        refine AWP.seq ?_
        refine AWP.region ?_
        refine rC (Calm.assign rfl) ?_
        refine arun_nil ?_
        refine athen_n ?_
        refine AWP.ret ?_
        refine ⟨_, S, ⟨_, _, rfl, rfl, rfl⟩, hSS, ?_⟩
        exact ⟨⟨true, rfl, by constructor; (intro _; exact hiff.2 fun k hk => q3 k hk (by omega)); (intro _; rfl)⟩, rfl⟩
    · have hInv := or_Inverse _ _ S hve hl
      refine ACall.enter (args := [.slice va l.length vc, .slice ea ends.length ec]) (rs := [.tmp 4]) 62 [(0, .slice va l.length vc), (1, .slice ea ends.length ec)] Try.func53 rfl rfl (Nat.le_of_ble_eq_true rfl) rfl ⟨rfl, rfl, trivial⟩ ?_
      refine AWP.seq ?_
      refine AWP.region ?_
      refine ARun.box1 (lit_lt rfl) rfl rfl ?_
      intro b2 f2
      have g2 := f2
      repeat ((with_reducible replace g2 := fresh_set g2); obtain ⟨g2, _⟩ := g2)
      (try simp only [List.length_cons, List.length_nil, Nat.zero_add, Nat.reduceAdd])
      refine rC (Calm.assign rfl) ?_
      refine arun_nil ?_
      refine athen_n ?_
      refine AWP.seq ?_
      refine AWP.region ?_
      refine rC (Calm.move rfl) ?_
      refine ARun.call (lit_lt rfl) go_49 rfl ((hInv.frame f2)) ?_
      rintro _ _ ⟨S1, hR, f2', rfl⟩
      obtain ⟨_, u, x, hx, rfl, hNew⟩ := hR.resolve_right (fun h => h.1 hg)
      obtain ⟨hS1, hu⟩ := hNew.rd (by have := hx.1; omega)
      obtain ⟨ua, uc, rfl, _⟩ := id hu
      refine rC (Calm.move rfl) ?_
      refine rC (Calm.extract rfl rfl) ?_
      refine rC (Calm.extract rfl rfl) ?_
      refine ARun.alloc (lit_lt rfl) ty_zero_24 ?_
      intro b5 f5
      have g5 := f5
      repeat ((with_reducible replace g5 := fresh_set g5); obtain ⟨g5, _⟩ := g5)
      (try simp only [List.length_cons, List.length_nil, Nat.zero_add, Nat.reduceAdd])
      refine ARun.store1 rfl rfl ty_size_24 rfl own_ lens_ rfl ?_
      (try simp only [Mem.set_set, List.set_cons_zero, List.set_cons_succ, Nat.zero_add, Nat.reduceAdd])
      refine rC (Calm.assign rfl) ?_
      refine arun_nil ?_
      refine athen_n ?_
      refine AWP.sub [(0, _), (1, _), (2, _), (4, _), (5, _), (6, _)] ⟨rfl, rfl, rfl, rfl, rfl, rfl, trivial⟩ ?_
      refine AWP.seq ?_
      refine AWP.seq ?_
      refine AWP.region ?_
      refine rC (Calm.move rfl) ?_
      refine rC (Calm.bin rfl rfl b_neq) ?_
      refine rC (Calm.move rfl) ?_
      first | refine rS 19 ?_ | refine rU 19 ?_ | refine rG 19 (Calm.move rfl) ?_
      first | refine rS 19 ?_ | refine rU 19 ?_ | refine rG 19 (Calm.lenSl Try.underlying24 rfl) ?_
      first | refine rS 19 ?_ | refine rU 19 ?_ | refine rG 19 (ld_ ty_plain_22 rfl) ?_
      first | refine rS 19 ?_ | refine rU 19 ?_ | refine rG 19 (Calm.lenSl Try.underlying22 rfl) ?_
      first | refine rS 19 ?_ | refine rU 19 ?_ | refine rG 19 (Calm.bin rfl rfl b_neq) ?_
      refine rC ((by first | exact Calm.pickT rfl rfl | exact Calm.pickF rfl rfl)) ?_
      refine arun_nil ?_
      refine athen_n ?_
      refine AWP.sub [(0, _), (1, _), (2, _), (4, _), (5, _), (6, _), (25, _)] ⟨rfl, rfl, rfl, rfl, rfl, rfl, rfl, trivial⟩ ?_
      refine AWP.condT rfl (by first | rfl | (simp; done) | (simp; omega)) ?_
      refine AWP.seq ?_
      refine AWP.region ?_
      refine rC (Calm.assign rfl) ?_
      refine arun_nil ?_
      refine athen_n ?_
      refine AWP.ret ?_
      refine athen_ret ?_
      refine ⟨_, S, ⟨_, _, rfl, rfl, rfl⟩, hS1.trans less_, ?_⟩
      exact ⟨⟨false, rfl, by constructor; (intro h; cases h); (intro h; exact absurd (right_good h).2 hlen)⟩, rfl⟩
  · have hInv := or_Inverse _ _ S hve hl
    refine ACall.enter (args := [.slice va l.length vc, .slice ea ends.length ec]) (rs := [.tmp 4]) 62 [(0, .slice va l.length vc), (1, .slice ea ends.length ec)] Try.func53 rfl rfl (Nat.le_of_ble_eq_true rfl) rfl ⟨rfl, rfl, trivial⟩ ?_
    refine AWP.seq ?_
    refine AWP.region ?_
    refine ARun.box1 (lit_lt rfl) rfl rfl ?_
    intro b2 f2
    have g2 := f2
    repeat ((with_reducible replace g2 := fresh_set g2); obtain ⟨g2, _⟩ := g2)
    (try simp only [List.length_cons, List.length_nil, Nat.zero_add, Nat.reduceAdd])
    refine rC (Calm.assign rfl) ?_
    refine arun_nil ?_
    refine athen_n ?_
    refine AWP.seq ?_
    refine AWP.region ?_
    refine rC (Calm.move rfl) ?_
    refine ARun.call (lit_lt rfl) go_49 rfl ((hInv.frame f2)) ?_
    rintro _ _ ⟨S1, hR, f2', rfl⟩
    obtain ⟨_, rfl, hS1⟩ := hR.resolve_left (fun h => hg h.1)
    subst hS1
    refine rC (Calm.move rfl) ?_
    refine rC (Calm.extract rfl rfl) ?_
    refine rC (Calm.extract rfl rfl) ?_
    refine ARun.alloc (lit_lt rfl) ty_zero_24 ?_
    intro b5 f5
    have g5 := f5
    repeat ((with_reducible replace g5 := fresh_set g5); obtain ⟨g5, _⟩ := g5)
    (try simp only [List.length_cons, List.length_nil, Nat.zero_add, Nat.reduceAdd])
    refine ARun.store1 rfl rfl ty_size_24 rfl own_ lens_ rfl ?_
    (try simp only [Mem.set_set, List.set_cons_zero, List.set_cons_succ, Nat.zero_add, Nat.reduceAdd])
    refine rC (Calm.assign rfl) ?_
    refine arun_nil ?_
    refine athen_n ?_
    refine AWP.sub [(0, _), (1, _), (2, _), (4, _), (5, _), (6, _)] ⟨rfl, rfl, rfl, rfl, rfl, rfl, trivial⟩ ?_
    refine AWP.seq ?_
    refine AWP.seq ?_
    refine AWP.region ?_
    refine rC (Calm.move rfl) ?_
    refine rC (Calm.bin rfl rfl b_neq) ?_
    refine rC (Calm.move rfl) ?_
    first | refine rS 19 ?_ | refine rU 19 ?_ | refine rG 19 (Calm.move rfl) ?_
    first | refine rS 19 ?_ | refine rU 19 ?_ | refine rG 19 (Calm.lenSl Try.underlying24 rfl) ?_
    first | refine rS 19 ?_ | refine rU 19 ?_ | refine rG 19 (ld_ ty_plain_22 rfl) ?_
    first | refine rS 19 ?_ | refine rU 19 ?_ | refine rG 19 (Calm.lenSl Try.underlying22 rfl) ?_
    first | refine rS 19 ?_ | refine rU 19 ?_ | refine rG 19 (Calm.bin rfl rfl b_neq) ?_
    refine rC ((by first | exact Calm.pickT rfl rfl | exact Calm.pickF rfl rfl)) ?_
    refine arun_nil ?_
    refine athen_n ?_
    refine AWP.sub [(0, _), (1, _), (2, _), (4, _), (5, _), (6, _), (25, _)] ⟨rfl, rfl, rfl, rfl, rfl, rfl, rfl, trivial⟩ ?_
    refine AWP.condT rfl (by first | rfl | (simp; done) | (simp; omega)) ?_
    refine AWP.seq ?_
    refine AWP.region ?_
    refine rC (Calm.assign rfl) ?_
    refine arun_nil ?_
    refine athen_n ?_
    refine AWP.ret ?_
    refine athen_ret ?_
    refine ⟨_, S1, ⟨_, _, rfl, rfl, rfl⟩, less_, ?_⟩
    exact ⟨⟨false, rfl, by constructor; (intro h; cases h); (intro h; exact absurd (right_good h).1 hg)⟩, rfl⟩
/-- A slice from a place on. -/
theorem Sl.drop1 {α : Type} {f : α → List Value} {S : Mem} {b o n cap : Nat} {l : List α} (h : Sl 1 f S (.slice (some ⟨b, o, none⟩) n cap) l) (k : Nat) (hk : k ≤ n) : Sl 1 f S (.slice (some ⟨b, if cap = k then o else o + k * 1, none⟩) (n - k) (cap - k)) (l.drop k) := by
  obtain ⟨a, c, e, h1, h2, h3⟩ := h
  cases e
  refine ⟨_, cap - k, by rw [List.length_drop], by rw [List.length_drop]; omega, by rw [List.length_drop]; omega, ?_⟩
  by_cases hl : k < l.length
  · obtain ⟨b', o', e', hkn⟩ := h3.resolve_left (fun h => by rw [h] at hl; exact absurd hl (Nat.not_lt_zero _))
    cases e'
    refine .inr ⟨b, _, rfl, fun i hi => ?_⟩
    have hne : ¬ cap = k := by omega
    rw [if_neg hne, List.getElem_drop]
    rw [List.length_drop] at hi
    have := hkn (k + i) (by omega)
    rw [show o + k * 1 + i * 1 = o + (k + i) * 1 by omega]
    exact this
  · exact .inl (List.drop_eq_nil_of_le (by omega))
end Go.Proofs.Ytgidjbpgkeemiaa
namespace Go.Proofs.Ytgidjbpgkeemiaa
open Go.RowKit
open Mv Num
set_option linter.unusedVariables false
set_option linter.unusedSimpArgs false
set_option maxRecDepth 4000
theorem outN_one (S : Mem) (o : Option (Nat × Nat)) (e : TypeId) (cs : List Value) : outN 1 S o e cs = outM S o e cs := by
  cases o with
  | none => rfl
  | some q => show S.set q.1 ⟨e, cs, q.2 * 1⟩ = S.set q.1 ⟨e, cs, q.2⟩; rw [Nat.mul_one]
theorem appN1 {S : Mem} {o : Option (Nat × Nat)} {k : Nat} {e : TypeId} {cs : List Value} (h : OkO S o k) (hn : cs.length = k) : AppN 1 (outM S o e cs) S o e cs := by
  rw [← outN_one]; exact appN_self h (by rw [hn, Nat.mul_one])
theorem flat_one {α : Type} (g : α → Value) (L : List α) : L.flatMap (fun x => [g x]) = L.map g := by
  induction L with
  | nil => rfl
  | cons x l ih => rw [List.flatMap_cons, List.map_cons, ih]; rfl
theorem src_sl {α : Type} {g : α → Value} {S : Mem} {v : Value} {L : List α} (h : Sl 1 (fun x => [g x]) S v L) : Src S v L.length (L.map g) := by
  have := Sl.src (n := 1) (fun _ => rfl) h
  rw [flat_one] at this; exact this
theorem one_cells {α : Type} {g : α → Value} (hg : ∀ x, (g x).oneCell' = true) (L : List α) : ∀ v ∈ L.map g, v.oneCell' = true := fun v hv => by obtain ⟨x, _, rfl⟩ := List.mem_map.1 hv; exact hg x
/-- What Ends hands back. -/
def EndsR (l : List Nat) (S : Mem) (r : Value) (S' : Mem) : Prop := (l.length ≤ 4096 ∧ ∃ u, r = .tuple #[u, .int .i64 0] ∧ RdL gI (Ord.endsR l l.length) S u S') ∨ (4096 < l.length ∧ r = .tuple #[.slice none 0 0, .int .i64 1] ∧ S' = S)
end Go.Proofs.Ytgidjbpgkeemiaa
namespace Go.Proofs.Ytgidjbpgkeemiaa
open Num Loser
set_option linter.unusedVariables false
namespace Skew
/-! ### The samples' places -/
def endP (n : Nat) : Nat := if n % 3 = 1 then n + 1 else n
def restP (r m : Nat) : List Nat := (List.range m).filter (fun i => decide (i % 3 = r))
def places (n : Nat) : List Nat := restP 1 (endP n) ++ restP 2 (endP n)
theorem restP_succ (r m : Nat) : restP r (m + 1) = restP r m ++ (if m % 3 = r then [m] else []) := by
  unfold restP
  rw [List.range_succ, List.filter_append]
  congr 1
  by_cases h : m % 3 = r <;> simp [h]
theorem restP_length (r : Nat) (hr : r < 3) : ∀ m, (restP r m).length = (m + 2 - r) / 3
  | 0 => by
    have : restP r 0 = [] := rfl
    rw [this]; show 0 = _; omega
  | m + 1 => by
    rw [restP_succ, List.length_append, restP_length r hr m]
    by_cases h : m % 3 = r
    · rw [if_pos h]; show _ + 1 = _; omega
    · rw [if_neg h]; show _ + 0 = _; omega
theorem places_length (n : Nat) : (places n).length = (endP n + 1) / 3 + endP n / 3 := by
  unfold places
  rw [List.length_append, restP_length 1 (by omega), restP_length 2 (by omega)]
  omega
theorem places_few (n : Nat) : (places n).length ≤ 2 * n / 3 + 1 := by
  rw [places_length]; unfold endP; split <;> omega
/-- The k-th place that leaves a rest. -/
theorem restP_at (r : Nat) (hr : r < 3) (m k : Nat) (hk : k < (restP r m).length) : (restP r m)[k] = 3 * k + r := by
  induction m with
  | zero => exact absurd hk (Nat.not_lt_zero _)
  | succ m ih =>
    have hl := restP_length r hr m
    simp only [restP_succ] at hk ⊢
    rw [List.getElem_append]
    split
    · rename_i h; exact ih h
    · rename_i h
      by_cases he : m % 3 = r
      · simp only [he, if_true, List.length_append, List.length_singleton] at hk ⊢
        rw [List.getElem_singleton]; omega
      · simp only [he, if_false, List.append_nil] at hk; omega
/-! ### Names -/
def firstK (K : Nat → List Nat) (j : Nat) : Bool := (List.range j).all (fun z => decide (K z ≠ K j))
theorem first_one (K : Nat → List Nat) : ∀ (m a : Nat), a < m → (List.range m).countP (fun j => firstK K j && decide (K j = K a)) = 1
  | 0, _, h => absurd h (Nat.not_lt_zero _)
  | m + 1, a, ha => by
    rw [List.range_succ, List.countP_append]
    by_cases hx : ∃ b, b < m ∧ K b = K a
    · obtain ⟨b, hb, e⟩ := hx
      rw [← e, first_one K m b hb]
      have : (firstK K m && decide (K m = K b)) = false := by
        by_cases h : K m = K b
        · have : firstK K m = false := by
            unfold firstK
            rw [List.all_eq_false]
            exact ⟨b, List.mem_range.2 hb, by simp [h]⟩
          rw [this]; rfl
        · simp [h]
      simp [this]
    · have hno : ∀ b, b < m → K b ≠ K a := fun b hb e => hx ⟨b, hb, e⟩
      obtain rfl : a = m := by
        rcases Nat.lt_or_ge a m with h | h
        · exact absurd rfl (hno a h)
        · omega
      have h1 : (List.range a).countP (fun j => firstK K j && decide (K j = K a)) = 0 := by
        rw [List.countP_eq_zero]
        intro j hj
        simp [hno j (List.mem_range.1 hj)]
      have h2 : firstK K a = true := by
        unfold firstK
        rw [List.all_eq_true]
        intro z hz
        simp [hno z (List.mem_range.1 hz)]
      rw [h1]; simp [h2]
theorem countP_two {p q r : Nat → Bool} : ∀ (l : List Nat), (∀ j ∈ l, p j = (q j || r j) ∧ (q j = true → r j = false)) → l.countP p = l.countP q + l.countP r
  | [], _ => rfl
  | x :: l, h => by
    have ih := countP_two (p := p) (q := q) (r := r) l (fun j hj => h j (List.mem_cons_of_mem _ hj))
    obtain ⟨h1, h2⟩ := h x (List.mem_cons_self (a := x) (l := l))
    rw [List.countP_cons, List.countP_cons, List.countP_cons, ih, h1]
    cases hq : q x with
    | true => rw [h2 hq]; simp; omega
    | false => cases r x <;> simp <;> omega
/-- How many steps up there are in order: how many unlike ones are less. -/
theorem ups_names (K : Nat → List Nat) (m : Nat) (e : List Nat) (hp : e.Perm (List.range m)) (hs : ∀ i j, i < j → j < e.length → lessB (K (e.getD j 0)) (K (e.getD i 0)) = false) :
    ∀ i, i < e.length → Ord.ups (fun a b => lessB (K a) (K b)) e i = (List.range m).countP (fun j => firstK K j && lessB (K j) (K (e.getD i 0))) := by
  have hall : ∀ a, a < m → ∃ i, i < e.length ∧ e.getD i 0 = a := by
    intro a ha
    obtain ⟨i, hi, rfl⟩ := List.getElem_of_mem (hp.mem_iff.2 (List.mem_range.2 ha))
    exact ⟨i, hi, by rw [List.getD_eq_getElem?_getD, List.getElem?_eq_getElem hi]; rfl⟩
  have hlt : ∀ i, i < e.length → e.getD i 0 < m := fun i hi => by
    rw [List.getD_eq_getElem?_getD, List.getElem?_eq_getElem hi]; exact List.mem_range.1 (hp.mem_iff.1 (List.getElem_mem hi))
  intro i
  induction i with
  | zero =>
    intro h0
    symm; rw [Ord.ups, List.countP_eq_zero]
    intro j hj
    obtain ⟨q, hq, rfl⟩ := hall j (List.mem_range.1 hj)
    rcases Nat.eq_zero_or_pos q with rfl | h
    · simp [lessB_irrefl]
    · rw [hs 0 q h hq, Bool.and_false]; exact Bool.noConfusion
  | succ i ih =>
    intro hi
    have ih' := ih (by omega)
    have hr := hs i (i + 1) (by omega) hi
    rw [Ord.ups, ih']
    cases hc : lessB (K (e.getD i 0)) (K (e.getD (i + 1) 0)) with
    | false =>
      have he := lessB_total _ _ hc hr
      rw [he]; simp
    | true =>
      rw [if_pos rfl]
      refine Eq.symm ((countP_two (q := fun j => firstK K j && lessB (K j) (K (e.getD i 0))) (r := fun j => firstK K j && decide (K j = K (e.getD i 0))) _ fun j hj => ?_).trans (by rw [first_one K m _ (hlt i (by omega))]))
      obtain ⟨q, hq, rfl⟩ := hall j (List.mem_range.1 hj)
      have key : lessB (K (e.getD q 0)) (K (e.getD (i + 1) 0)) = (lessB (K (e.getD q 0)) (K (e.getD i 0)) || decide (K (e.getD q 0) = K (e.getD i 0))) := by
        rcases Nat.lt_trichotomy q i with h | h | h
        · have hq' := hs q i h (by omega)
          cases h1 : lessB (K (e.getD q 0)) (K (e.getD i 0)) with
          | true => rw [lessB_trans _ _ _ h1 hc]; rfl
          | false => rw [lessB_total _ _ h1 hq', hc]; simp
        · subst h; rw [hc]; simp
        · have h1 := hs i q h hq
          have h2 : lessB (K (e.getD q 0)) (K (e.getD (i + 1) 0)) = false := by
            rcases Nat.lt_or_ge (i + 1) q with h3 | h3
            · exact hs (i + 1) q h3 hq
            · obtain rfl : q = i + 1 := by omega
              exact lessB_irrefl _
          have h4 : K (e.getD q 0) ≠ K (e.getD i 0) := fun h => by rw [h, hc] at h2; cases h2
          rw [h1, h2, decide_eq_false h4]; rfl
      refine ⟨by rw [key, Bool.and_or_distrib_left], fun h => ?_⟩
      simp only [Bool.and_eq_true] at h
      have : K (e.getD q 0) ≠ K (e.getD i 0) := fun h' => by rw [h', lessB_irrefl] at h; exact Bool.noConfusion h.2
      show (_ && decide _) = false
      rw [decide_eq_false this, Bool.and_false]

/-! ### Numbers from 1 on: 0 behind the end -/
def at0 (l : List Nat) (i : Nat) : Nat := l.getD i 0
theorem sl_at0 (l : List Nat) (h1 : ∀ x ∈ l, 1 ≤ x) (a b : Nat) : Ord.sl l a b = (decide (at0 l a < at0 l b) || (decide (at0 l a = at0 l b) && Ord.sl l (a + 1) (b + 1))) := by
  have hin : ∀ i (h : i < l.length), at0 l i = l[i] ∧ 1 ≤ at0 l i := fun i h => by
    have e : at0 l i = l[i] := by unfold at0; rw [List.getD_eq_getElem?_getD, List.getElem?_eq_getElem h]; rfl
    exact ⟨e, by rw [e]; exact h1 _ (List.getElem_mem h)⟩
  have hout : ∀ i, l.length ≤ i → at0 l i = 0 := fun i h => by unfold at0; rw [List.getD_eq_getElem?_getD, List.getElem?_eq_none h]; rfl
  by_cases ha : a < l.length
  · obtain ⟨ea, ga⟩ := hin a ha
    by_cases hb : b < l.length
    · rw [Ord.sl_step l a b ha hb, ea, (hin b hb).1]
    · rw [Ord.sl_no l a b (by omega), hout b (by omega), decide_eq_false (by omega), decide_eq_false (by omega)]; rfl
  · rw [hout a (by omega), Ord.sl_end l a b (by omega)]
    by_cases hb : b < l.length
    · have := (hin b hb).2
      rw [decide_eq_true hb, decide_eq_true (by omega : 0 < at0 l b)]; rfl
    · rw [hout b (by omega), Ord.sl_no l (a + 1) (b + 1) (by omega), decide_eq_false hb]; simp
def tri (l : List Nat) (i : Nat) : List Nat := [at0 l i, at0 l (i + 1), at0 l (i + 2)]
theorem sl_tri (l : List Nat) (h1 : ∀ x ∈ l, 1 ≤ x) (a b : Nat) : Ord.sl l a b = (lessB (tri l a) (tri l b) || (decide (tri l a = tri l b) && Ord.sl l (a + 3) (b + 3))) := by
  rw [sl_at0 l h1 a b, sl_at0 l h1 (a + 1) (b + 1), sl_at0 l h1 (a + 2) (b + 2)]
  simp only [tri, lessB, List.cons.injEq, and_true, Bool.decide_and]
  cases Ord.sl l (a + 2 + 1) (b + 2 + 1) <;> simp [Bool.or_assoc, Bool.and_or_distrib_left]
end Skew
end Go.Proofs.Ytgidjbpgkeemiaa
namespace Go.Proofs.Ytgidjbpgkeemiaa
open Num Loser
set_option linter.unusedVariables false
namespace Skew
/-! ### The places, told -/
def numP (n : Nat) : Nat := (places n).length
def plc (n k : Nat) : Nat := (places n).getD k 0
theorem numP_eq (n : Nat) : numP n = (endP n + 1) / 3 + endP n / 3 := places_length n
theorem plc_eq (n k : Nat) (hk : k < numP n) : plc n k = if k < (endP n + 1) / 3 then 3 * k + 1 else 3 * (k - (endP n + 1) / 3) + 2 := by
  have h1 : (restP 1 (endP n)).length = (endP n + 1) / 3 := by rw [restP_length 1 (by omega)]; omega
  unfold plc numP at *
  rw [List.getD_eq_getElem?_getD, List.getElem?_eq_getElem hk, Option.getD_some]
  unfold places at hk ⊢
  rw [List.getElem_append]
  split
  · rename_i h; rw [if_pos (by omega), restP_at 1 (by omega)]
  · rename_i h; rw [if_neg (by omega), restP_at 2 (by omega), h1]
theorem endP_or (n : Nat) : endP n = n ∧ n % 3 ≠ 1 ∨ endP n = n + 1 ∧ n % 3 = 1 := by unfold endP; split <;> omega
theorem plc_lt (n k : Nat) (hk : k < numP n) : plc n k < endP n ∧ plc n k % 3 ≠ 0 ∧ plc n k ≤ n := by
  have h := plc_eq n k hk
  rw [numP_eq] at hk
  have hE := endP_or n
  generalize endP n = E at *
  split at h <;> omega
theorem plc_inj (n k k' : Nat) (hk : k < numP n) (hk' : k' < numP n) (h : plc n k = plc n k') : k = k' := by
  have h1 := plc_eq n k hk
  have h2 := plc_eq n k' hk'
  split at h1 <;> split at h2 <;> omega
theorem plc_next (n k : Nat) (hk : k < numP n) (h : plc n k + 2 < n) : (k + 1 < numP n ∧ plc n (k + 1) = plc n k + 3) ∨ (k + 1 = numP n ∧ plc n k + 3 = n) := by
  have h1 := plc_eq n k hk
  have hm := numP_eq n
  by_cases hk1 : k + 1 < numP n
  · refine .inl ⟨hk1, ?_⟩
    have h2 := plc_eq n (k + 1) hk1
    have hE := endP_or n
    generalize endP n = E at *
    split at h1 <;> split at h2 <;> omega
  · refine .inr ⟨by omega, ?_⟩
    have hE := endP_or n
    generalize endP n = E at *
    split at h1 <;> omega
theorem plc_onto (n i : Nat) (hi : i < endP n) (h3 : i % 3 ≠ 0) : ∃ k, k < numP n ∧ plc n k = i := by
  have hm := numP_eq n
  by_cases h : i % 3 = 1
  · have hk : i / 3 < numP n := by omega
    exact ⟨i / 3, hk, by rw [plc_eq n _ hk, if_pos (by omega)]; omega⟩
  · have hk : (endP n + 1) / 3 + i / 3 < numP n := by omega
    exact ⟨(endP n + 1) / 3 + i / 3, hk, by rw [plc_eq n _ hk, if_neg (by omega)]; omega⟩

/-! ### Names -/
def nameOf (K : Nat → List Nat) (m k : Nat) : Nat := 1 + (List.range m).countP (fun j => firstK K j && lessB (K j) (K k))
theorem first_ex (K : Nat → List Nat) (m a : Nat) (ha : a < m) : ∃ j, j < m ∧ firstK K j = true ∧ K j = K a := by
  have h := first_one K m a ha
  have h0 : 0 < (List.range m).countP (fun j => firstK K j && decide (K j = K a)) := by omega
  obtain ⟨j, hj, h1⟩ := List.countP_pos_iff.1 h0
  simp only [Bool.and_eq_true, decide_eq_true_eq] at h1
  exact ⟨j, List.mem_range.1 hj, h1.1, h1.2⟩
theorem name_up (K : Nat → List Nat) (m a b : Nat) (ha : a < m) (h : lessB (K a) (K b) = true) : nameOf K m a < nameOf K m b := by
  unfold nameOf
  have e := countP_two (p := fun j => firstK K j && lessB (K j) (K b)) (q := fun j => firstK K j && lessB (K j) (K a)) (r := fun j => firstK K j && (lessB (K j) (K b) && !lessB (K j) (K a))) (List.range m) (fun j _ => by
    refine ⟨?_, fun h' => ?_⟩
    · show (firstK K j && lessB (K j) (K b)) = _
      cases hf : firstK K j with
      | false => rfl
      | true =>
        cases hl : lessB (K j) (K a) with
        | true => rw [lessB_trans _ _ _ hl h]; rfl
        | false => simp
    · simp only [Bool.and_eq_true] at h'
      show (firstK K j && (lessB (K j) (K b) && !lessB (K j) (K a))) = false
      rw [h'.2]; simp)
  obtain ⟨j, hj, hf, hK⟩ := first_ex K m a ha
  have hp : 0 < (List.range m).countP (fun j => firstK K j && (lessB (K j) (K b) && !lessB (K j) (K a))) :=
    List.countP_pos_iff.2 ⟨j, List.mem_range.2 hj, by show (firstK K j && (lessB (K j) (K b) && !lessB (K j) (K a))) = true; rw [hf, hK, h, lessB_irrefl]; rfl⟩
  omega
theorem name_lt (K : Nat → List Nat) (m a b : Nat) (ha : a < m) (hb : b < m) : nameOf K m a < nameOf K m b ↔ lessB (K a) (K b) = true := by
  refine ⟨fun h => ?_, name_up K m a b ha⟩
  cases h1 : lessB (K a) (K b) with
  | true => rfl
  | false =>
    cases h2 : lessB (K b) (K a) with
    | true => have := name_up K m b a hb h2; omega
    | false =>
      have := lessB_total _ _ h1 h2
      unfold nameOf at h; rw [this] at h; omega
theorem name_eq (K : Nat → List Nat) (m a b : Nat) (ha : a < m) (hb : b < m) : nameOf K m a = nameOf K m b ↔ K a = K b := by
  constructor
  · intro h
    refine lessB_total _ _ ?_ ?_
    · cases hc : lessB (K a) (K b) with
      | false => rfl
      | true => have := name_up K m a b ha hc; omega
    · cases hc : lessB (K b) (K a) with
      | false => rfl
      | true => have := name_up K m b a hb hc; omega
  · intro h; unfold nameOf; rw [h]
/-- The reduced list. -/
def tkey (l : List Nat) (k : Nat) : List Nat := tri l (plc l.length k)
def red (l : List Nat) : List Nat := (List.range (numP l.length)).map (nameOf (tkey l) (numP l.length))
theorem red_length (l : List Nat) : (red l).length = numP l.length := by simp [red]
theorem red_at (l : List Nat) (k : Nat) (hk : k < (red l).length) : (red l)[k] = nameOf (tkey l) (numP l.length) k := by simp [red]
theorem red_pos (l : List Nat) : ∀ x ∈ red l, 1 ≤ x := by
  intro x hx
  simp only [red, List.mem_map] at hx
  obtain ⟨k, _, rfl⟩ := hx
  unfold nameOf; omega
theorem name_le (K : Nat → List Nat) (m k : Nat) (hk : k < m) : nameOf K m k ≤ m := by
  unfold nameOf
  have : (List.range m).countP (fun j => firstK K j && lessB (K j) (K k)) < m := by
    have h1 := List.countP_le_length (p := fun j => firstK K j && lessB (K j) (K k)) (l := List.range m)
    rw [List.length_range] at h1
    refine Nat.lt_of_le_of_ne h1 fun h2 => ?_
    have h3 := List.countP_eq_length.1 (h2.trans (List.length_range (n := m)).symm) k (List.mem_range.2 hk)
    rw [lessB_irrefl, Bool.and_false] at h3; cases h3
  omega
theorem red_le (l : List Nat) : ∀ x ∈ red l, x ≤ numP l.length := by
  intro x hx
  simp only [red, List.mem_map, List.mem_range] at hx
  obtain ⟨k, hk, rfl⟩ := hx
  exact name_le _ _ _ hk
/-- Triples that have a 0 are of one place. -/
theorem tri_zero (l : List Nat) (h1 : ∀ x ∈ l, 1 ≤ x) (a b : Nat) (ha : a ≤ l.length) (hb : b ≤ l.length) (hne : a ≠ b) (h : tri l a = tri l b) : a + 2 < l.length ∧ b + 2 < l.length := by
  have hin : ∀ i, i < l.length → 1 ≤ at0 l i := fun i h => by
    unfold at0; rw [List.getD_eq_getElem?_getD, List.getElem?_eq_getElem h]; exact h1 _ (List.getElem_mem h)
  have hout : ∀ i, l.length ≤ i → at0 l i = 0 := fun i h => by unfold at0; rw [List.getD_eq_getElem?_getD, List.getElem?_eq_none h]; rfl
  simp only [tri, List.cons.injEq, and_true] at h
  obtain ⟨e0, e1, e2⟩ := h
  have d : ∀ i j, at0 l i = at0 l j → (i < l.length ↔ j < l.length) := by
    intro i j e
    constructor
    · intro hi
      rcases Nat.lt_or_ge j l.length with h | h
      · exact h
      · have := hin i hi; have := hout j h; omega
    · intro hj
      rcases Nat.lt_or_ge i l.length with h | h
      · exact h
      · have := hin j hj; have := hout i h; omega
  have d0 := d _ _ e0
  have d1 := d _ _ e1
  have d2 := d _ _ e2
  omega
/-- The reduced list's ends stand as the samples' ends do. -/
theorem sl_red (l : List Nat) (h1 : ∀ x ∈ l, 1 ≤ x) : ∀ (d k k' : Nat), k < numP l.length → k' < numP l.length → l.length ≤ plc l.length k + d → Ord.sl (red l) k k' = Ord.sl l (plc l.length k) (plc l.length k')
  | d, k, k', hk, hk', hd => by
    have hl := red_length l
    rw [Ord.sl_step (red l) k k' (by omega) (by omega), sl_tri l h1, red_at, red_at]
    have e1 : decide (nameOf (tkey l) (numP l.length) k < nameOf (tkey l) (numP l.length) k') = lessB (tri l (plc l.length k)) (tri l (plc l.length k')) := by
      rw [Bool.eq_iff_iff, decide_eq_true_eq]; exact name_lt _ _ _ _ hk hk'
    have e2 : decide (nameOf (tkey l) (numP l.length) k = nameOf (tkey l) (numP l.length) k') = decide (tri l (plc l.length k) = tri l (plc l.length k')) := by
      rw [Bool.eq_iff_iff, decide_eq_true_eq, decide_eq_true_eq]; exact name_eq _ _ _ _ hk hk'
    rw [e1, e2]
    by_cases ht : tri l (plc l.length k) = tri l (plc l.length k')
    · congr 2
      by_cases hne : k = k'
      · subst hne; rw [Ord.sl_irrefl, Ord.sl_irrefl]
      · have hp := plc_lt l.length k hk
        have hp' := plc_lt l.length k' hk'
        have hpn : plc l.length k ≠ plc l.length k' := fun h => hne (plc_inj _ _ _ hk hk' h)
        obtain ⟨z1, z2⟩ := tri_zero l h1 _ _ hp.2.2 hp'.2.2 hpn ht
        rcases plc_next _ _ hk z1 with ⟨n1, n2⟩ | ⟨n1, n2⟩
        · rcases plc_next _ _ hk' z2 with ⟨m1, m2⟩ | ⟨m1, m2⟩
          · match d with
            | 0 => omega
            | d + 1 => rw [sl_red l h1 d (k + 1) (k' + 1) n1 m1 (by omega), n2, m2]
          · rw [m1, Ord.sl_no (red l) _ _ (by omega), m2, Ord.sl_no l _ _ (Nat.le_refl _)]
        · rcases plc_next _ _ hk' z2 with ⟨m1, m2⟩ | ⟨m1, m2⟩
          · rw [n1, n2, Ord.sl_end (red l) _ _ (by omega), Ord.sl_end l _ _ (Nat.le_refl _), decide_eq_true (by omega), decide_eq_true (by omega)]
          · omega
    · rw [decide_eq_false ht]; rfl
/-! ### How many names -/
def many (l : List Nat) : Nat := (red l).foldl max 0
theorem foldl_max_le (x : Nat) : ∀ (l : List Nat) (a : Nat), l.foldl max a ≤ x ↔ a ≤ x ∧ ∀ y ∈ l, y ≤ x
  | [], a => by simp
  | b :: l, a => by
    rw [List.foldl_cons, foldl_max_le x l]
    simp only [List.mem_cons, forall_eq_or_imp, Nat.max_le, and_assoc]
theorem many_of (l : List Nat) (x : Nat) (h : ∀ y ∈ red l, y ≤ x) (hx : x ∈ red l ∨ x = 0) : many l = x := by
  have h1 : many l ≤ x := (foldl_max_le x _ _).2 ⟨Nat.zero_le _, h⟩
  have h2 := (foldl_max_le (many l) (red l) 0).1 (Nat.le_refl _)
  rcases hx with hx | hx
  · have := h2.2 x hx; omega
  · omega
/-- What the program counts. -/
theorem many_ups (l e : List Nat) (hp : e.Perm (List.range (numP l.length))) (hs : ∀ i j, i < j → j < e.length → lessB (tkey l (e.getD j 0)) (tkey l (e.getD i 0)) = false) (h0 : 0 < e.length) :
    many l = 1 + Ord.ups (fun a b => lessB (tkey l a) (tkey l b)) e (e.length - 1) := by
  have hn := ups_names (tkey l) _ e hp hs
  have hall : ∀ a, a < numP l.length → ∃ i, i < e.length ∧ e.getD i 0 = a := by
    intro a ha
    obtain ⟨i, hi, rfl⟩ := List.getElem_of_mem (hp.mem_iff.2 (List.mem_range.2 ha))
    exact ⟨i, hi, by rw [List.getD_eq_getElem?_getD, List.getElem?_eq_getElem hi]; rfl⟩
  have hlt : ∀ i, i < e.length → e.getD i 0 < numP l.length := fun i hi => by
    rw [List.getD_eq_getElem?_getD, List.getElem?_eq_getElem hi]; exact List.mem_range.1 (hp.mem_iff.1 (List.getElem_mem hi))
  refine many_of l _ (fun y hy => ?_) (.inl ?_)
  · simp only [red, List.mem_map, List.mem_range] at hy
    obtain ⟨k, hk, rfl⟩ := hy
    obtain ⟨i, hi, rfl⟩ := hall k hk
    unfold nameOf
    rw [← hn i hi]
    have := Ord.ups_mono (fun a b => lessB (tkey l a) (tkey l b)) e i (e.length - 1) (by omega)
    omega
  · simp only [red, List.mem_map, List.mem_range]
    exact ⟨e.getD (e.length - 1) 0, hlt _ (by omega), by unfold nameOf; rw [← hn _ (by omega)]⟩
theorem ups_le (R : Nat → Nat → Bool) (e : List Nat) : ∀ i, Ord.ups R e i ≤ i
  | 0 => Nat.le_refl _
  | i + 1 => by rw [Ord.ups]; have := ups_le R e i; split <;> omega
theorem ups_all (R : Nat → Nat → Bool) (e : List Nat) : ∀ i, Ord.ups R e i = i → ∀ j, j ≤ i → Ord.ups R e j = j
  | 0, h, j, hj => by obtain rfl : j = 0 := by omega
                      rfl
  | i + 1, h, j, hj => by
    rw [Ord.ups] at h
    have hle := ups_le R e i
    rcases Nat.lt_or_ge j (i + 1) with h' | h'
    · refine ups_all R e i ?_ j (by omega)
      split at h <;> omega
    · obtain rfl : j = i + 1 := by omega
      rw [Ord.ups]; exact h
/-- All names are unlike: the names tell the order. -/
theorem bottom (l e o : List Nat) (hp : e.Perm (List.range (numP l.length))) (hs : ∀ i j, i < j → j < e.length → lessB (tkey l (e.getD j 0)) (tkey l (e.getD i 0)) = false) (hm : many l = numP l.length)
    (ho : o.length = numP l.length) (hat : ∀ k, k < numP l.length → o.getD ((red l).getD k 0 - 1) 0 = k) : Ord.SortedE (red l) o := by
  have hel : e.length = numP l.length := by rw [hp.length_eq, List.length_range]
  have hn := ups_names (tkey l) _ e hp hs
  have hlt : ∀ i, i < e.length → e.getD i 0 < numP l.length := fun i hi => by
    rw [List.getD_eq_getElem?_getD, List.getElem?_eq_getElem hi]; exact List.mem_range.1 (hp.mem_iff.1 (List.getElem_mem hi))
  have hname : ∀ i, i < e.length → nameOf (tkey l) (numP l.length) (e.getD i 0) = i + 1 := by
    intro i hi
    have hmu := many_ups l e hp hs (by omega)
    have := ups_all (fun a b => lessB (tkey l a) (tkey l b)) e (e.length - 1) (by omega) i (by omega)
    unfold nameOf; rw [← hn i hi, this]; omega
  have hoe : o = e := by
    refine List.ext_getElem (by omega) fun i h1 h2 => ?_
    have := hat (e.getD i 0) (hlt i h2)
    rw [List.getD_eq_getElem?_getD (l := red l), List.getElem?_eq_getElem (by rw [red_length]; exact hlt i h2), Option.getD_some, red_at, hname i h2, Nat.add_sub_cancel] at this
    rw [List.getD_eq_getElem?_getD, List.getElem?_eq_getElem h1, Option.getD_some, List.getD_eq_getElem?_getD, List.getElem?_eq_getElem h2, Option.getD_some] at this
    exact this
  subst hoe
  refine ⟨by rw [red_length]; exact hp, List.pairwise_iff_getElem.2 fun i j hi hj hij => ?_⟩
  have hi' : o[i] = o.getD i 0 := by rw [List.getD_eq_getElem?_getD, List.getElem?_eq_getElem hi]; rfl
  have hj' : o[j] = o.getD j 0 := by rw [List.getD_eq_getElem?_getD, List.getElem?_eq_getElem hj]; rfl
  rw [hi', hj', Ord.sl_step (red l) _ _ (by rw [red_length]; exact hlt i hi) (by rw [red_length]; exact hlt j hj), red_at, red_at, hname i hi, hname j hj, decide_eq_true (by omega)]
  rfl
end Skew
end Go.Proofs.Ytgidjbpgkeemiaa
namespace Go.Proofs.Ytgidjbpgkeemiaa
open Num Loser
set_option linter.unusedVariables false
namespace Skew
/-! ### Ranks -/
/-- Of the first i ends of the reduced list's the places have their ranks, from 1 on; all else has 0. -/
structure RkI (n : Nat) (e : List Nat) (i : Nat) (r : List Int) : Prop where
  len : r.length = n + 3
  at_ : ∀ j, j < i → r.getD (plc n (e.getD j 0)) 0 = ((j + 1 : Nat) : Int)
  no : ∀ p, (∀ j, j < i → plc n (e.getD j 0) ≠ p) → r.getD p 0 = 0
theorem getD_set (r : List Int) (k p : Nat) (x : Int) (hk : k < r.length) : (r.set k x).getD p 0 = if p = k then x else r.getD p 0 := by
  rw [List.getD_eq_getElem?_getD, List.getD_eq_getElem?_getD, List.getElem?_set]
  by_cases h : p = k
  · subst h; rw [if_pos rfl, if_pos hk, if_pos rfl]; rfl
  · rw [if_neg (Ne.symm h), if_neg h]
theorem RkI.start (n : Nat) (e : List Nat) : RkI n e 0 (List.replicate (n + 3) 0) :=
  ⟨by simp, fun j h => absurd h (Nat.not_lt_zero _), fun p _ => by
    rw [List.getD_eq_getElem?_getD]
    by_cases h : p < n + 3
    · simp [h]
    · simp [h]⟩
theorem RkI.step {n : Nat} {e : List Nat} {i : Nat} {r : List Int} (h : RkI n e i r) (hp : e.Perm (List.range (numP n))) (hi : i < e.length) : RkI n e (i + 1) (r.set (plc n (e.getD i 0)) ((i + 1 : Nat) : Int)) := by
  have hlt : ∀ i, i < e.length → e.getD i 0 < numP n := fun i hi => by
    rw [List.getD_eq_getElem?_getD, List.getElem?_eq_getElem hi]; exact List.mem_range.1 (hp.mem_iff.1 (List.getElem_mem hi))
  have hb := (plc_lt n _ (hlt i hi)).2.2
  have hnd : e.Nodup := hp.nodup_iff.2 List.nodup_range
  have hne : ∀ j, j < i → plc n (e.getD j 0) ≠ plc n (e.getD i 0) := fun j hj heq => by
    have := plc_inj n _ _ (hlt j (by omega)) (hlt i hi) heq
    rw [List.getD_eq_getElem?_getD, List.getElem?_eq_getElem (by omega), List.getD_eq_getElem?_getD, List.getElem?_eq_getElem hi, Option.getD_some, Option.getD_some] at this
    exact absurd this (List.pairwise_iff_getElem.1 hnd j i (by omega) hi hj)
  refine ⟨by rw [List.length_set]; exact h.len, fun j hj => ?_, fun p hp' => ?_⟩
  · rw [getD_set _ _ _ _ (by rw [h.len]; omega)]
    rcases Nat.lt_or_ge j i with h' | h'
    · rw [if_neg (hne j h'), h.at_ j h']
    · obtain rfl : j = i := by omega
      rw [if_pos rfl]
  · rw [getD_set _ _ _ _ (by rw [h.len]; omega), if_neg (fun e => hp' i (by omega) e.symm), h.no p (fun j hj => hp' j (by omega))]
def Rk (l e : List Nat) (r : List Int) : Prop := RkI l.length e e.length r
/-- A place whose rank counts: a sample, or the end. -/
theorem rk_lt (l e : List Nat) (r : List Int) (h1 : ∀ x ∈ l, 1 ≤ x) (he : Ord.SortedE (red l) e) (hr : Rk l e r) (p q : Nat) (hp : p ≤ l.length) (hq : q ≤ l.length) (hp3 : p = l.length ∨ p % 3 ≠ 0) (hq3 : q = l.length ∨ q % 3 ≠ 0) (hne : p ≠ q) :
    r.getD p 0 < r.getD q 0 ↔ Ord.sl l p q = true := by
  have hel : e.length = numP l.length := by rw [he.len, red_length]
  have hlt : ∀ i, i < e.length → e.getD i 0 < numP l.length := fun i hi => by
    rw [List.getD_eq_getElem?_getD, List.getElem?_eq_getElem hi, ← red_length]; exact he.lt (List.getElem_mem hi)
  have hall : ∀ a, a < numP l.length → ∃ i, i < e.length ∧ e.getD i 0 = a := by
    intro a ha
    obtain ⟨i, hi, rfl⟩ := List.getElem_of_mem (he.1.mem_iff.2 (List.mem_range.2 (by rw [red_length]; exact ha)))
    exact ⟨i, hi, by rw [List.getD_eq_getElem?_getD, List.getElem?_eq_getElem hi]; rfl⟩
  have hs : ∀ p, p ≤ l.length → (p = l.length ∨ p % 3 ≠ 0) → (∃ j, j < e.length ∧ plc l.length (e.getD j 0) = p ∧ r.getD p 0 = ((j + 1 : Nat) : Int)) ∨ (p = l.length ∧ r.getD p 0 = 0) := by
    intro p hp hp3
    by_cases hx : p < endP l.length ∧ p % 3 ≠ 0
    · obtain ⟨k, hk, rfl⟩ := plc_onto _ _ hx.1 hx.2
      obtain ⟨j, hj, rfl⟩ := hall k hk
      exact .inl ⟨j, hj, rfl, hr.at_ j hj⟩
    · have hpn : p = l.length := by
        rcases hp3 with h | h
        · exact h
        · unfold endP at hx; split at hx <;> omega
      refine .inr ⟨hpn, hr.no p fun j hj he' => ?_⟩
      have := plc_lt l.length _ (hlt j hj)
      rw [he'] at this
      exact hx ⟨this.1, this.2.1⟩
  rcases hs p hp hp3 with ⟨i, hi, ep, ri⟩ | ⟨ep, ri⟩
  · rcases hs q hq hq3 with ⟨j, hj, eq, rj⟩ | ⟨eq, rj⟩
    · rw [ri, rj, ← ep, ← eq, ← sl_red l h1 l.length _ _ (hlt i hi) (hlt j hj) (by omega)]
      have hpw := List.pairwise_iff_getElem.1 he.2
      have gi : e.getD i 0 = e[i] := by rw [List.getD_eq_getElem?_getD, List.getElem?_eq_getElem hi]; rfl
      have gj : e.getD j 0 = e[j] := by rw [List.getD_eq_getElem?_getD, List.getElem?_eq_getElem hj]; rfl
      rw [gi, gj]
      rcases Nat.lt_trichotomy i j with h | h | h
      · rw [hpw i j hi hj h]; constructor
        · intro _; rfl
        · intro _; omega
      · subst h; exact absurd (ep.symm.trans eq) hne
      · rw [Ord.sl_asymm _ _ _ (hpw j i hj hi h)]; constructor
        · intro h'; omega
        · intro h'; cases h'
    · rw [ri, rj, eq, Ord.sl_no l _ _ (Nat.le_refl _)]; constructor
      · intro h'; omega
      · intro h'; cases h'
  · rcases hs q hq hq3 with ⟨j, hj, eq, rj⟩ | ⟨eq, rj⟩
    · rw [ri, rj, ep, Ord.sl_end l _ _ (Nat.le_refl _)]; constructor
      · intro _; rw [decide_eq_true_eq]; omega
      · intro _; omega
    · exact absurd (ep.trans eq.symm) hne
/-- By one number and a rank: ends that leave no rest, and one that leaves 1. -/
theorem sl_one (l e : List Nat) (r : List Int) (h1 : ∀ x ∈ l, 1 ≤ x) (he : Ord.SortedE (red l) e) (hr : Rk l e r) (a b : Nat) (ha : a < l.length) (hb : b < l.length) (ha3 : a % 3 ≠ 2) (hb3 : b % 3 ≠ 2) (hne : a ≠ b) :
    Ord.sl l a b = true ↔ at0 l a < at0 l b ∨ at0 l a = at0 l b ∧ r.getD (a + 1) 0 < r.getD (b + 1) 0 := by
  rw [rk_lt l e r h1 he hr (a + 1) (b + 1) (by omega) (by omega) (by omega) (by omega) (by omega), sl_at0 l h1 a b]
  simp
theorem sl_two (l e : List Nat) (r : List Int) (h1 : ∀ x ∈ l, 1 ≤ x) (he : Ord.SortedE (red l) e) (hr : Rk l e r) (a b : Nat) (ha : a < l.length) (hb : b < l.length) (ha3 : a % 3 ≠ 1) (hb3 : b % 3 ≠ 1) (hne : a ≠ b) :
    Ord.sl l a b = true ↔ at0 l a < at0 l b ∨ at0 l a = at0 l b ∧ (at0 l (a + 1) < at0 l (b + 1) ∨ at0 l (a + 1) = at0 l (b + 1) ∧ r.getD (a + 2) 0 < r.getD (b + 2) 0) := by
  have hin : ∀ i, i < l.length → 1 ≤ at0 l i := fun i h => by
    unfold at0; rw [List.getD_eq_getElem?_getD, List.getElem?_eq_getElem h]; exact h1 _ (List.getElem_mem h)
  have hout : ∀ i, l.length ≤ i → at0 l i = 0 := fun i h => by unfold at0; rw [List.getD_eq_getElem?_getD, List.getElem?_eq_none h]; rfl
  rw [sl_at0 l h1 a b, sl_at0 l h1 (a + 1) (b + 1)]
  have hlast : at0 l (a + 1) = at0 l (b + 1) → (Ord.sl l (a + 2) (b + 2) = true ↔ r.getD (a + 2) 0 < r.getD (b + 2) 0) := by
    intro heq
    have ha1 : a + 1 < l.length := by
      rcases Nat.lt_or_ge (a + 1) l.length with h | h
      · exact h
      · have := hout _ h
        rcases Nat.lt_or_ge (b + 1) l.length with h' | h'
        · have := hin _ h'; omega
        · omega
    have hb1 : b + 1 < l.length := by
      rcases Nat.lt_or_ge (b + 1) l.length with h | h
      · exact h
      · have := hout _ h; have := hin _ ha1; omega
    exact (rk_lt l e r h1 he hr (a + 2) (b + 2) (by omega) (by omega) (by omega) (by omega) (by omega)).symm
  simp only [Bool.or_eq_true, decide_eq_true_eq, Bool.and_eq_true]
  constructor
  · rintro (h | ⟨h, h2 | ⟨h2, h3⟩⟩)
    · exact .inl h
    · exact .inr ⟨h, .inl h2⟩
    · exact .inr ⟨h, .inr ⟨h2, (hlast h2).1 h3⟩⟩
  · rintro (h | ⟨h, h2 | ⟨h2, h3⟩⟩)
    · exact .inl h
    · exact .inr ⟨h, .inl h2⟩
    · exact .inr ⟨h, .inr ⟨h2, (hlast h2).2 h3⟩⟩

/-! ### The merge -/
def mg (l : List Nat) : List Nat → List Nat → List Nat
  | [], zs => zs
  | k :: ks, zs => if l.length ≤ plc l.length k then mg l ks zs else zs.takeWhile (fun z => !Ord.sl l (plc l.length k) z) ++ plc l.length k :: mg l ks (zs.dropWhile (fun z => !Ord.sl l (plc l.length k) z))
def smp (l : List Nat) (e : List Nat) : List Nat := (e.map (plc l.length)).filter (fun p => decide (p < l.length))
theorem smp_cons (l : List Nat) (k : Nat) (ks : List Nat) : smp l (k :: ks) = if l.length ≤ plc l.length k then smp l ks else plc l.length k :: smp l ks := by
  unfold smp
  rw [List.map_cons, List.filter_cons]
  by_cases h : l.length ≤ plc l.length k
  · rw [if_pos h, if_neg (by simp; omega)]
  · rw [if_neg h, if_pos (by simp; omega)]
theorem mg_perm (l : List Nat) : ∀ (ks zs : List Nat), (mg l ks zs).Perm (smp l ks ++ zs)
  | [], zs => List.Perm.refl _
  | k :: ks, zs => by
    rw [mg, smp_cons]
    split
    · exact mg_perm l ks zs
    · refine (List.perm_middle).trans ?_
      rw [List.cons_append]
      refine List.Perm.cons _ ?_
      refine ((mg_perm l ks _).append_left _).trans ?_
      refine (List.perm_append_comm_assoc _ _ _).trans ?_
      rw [List.takeWhile_append_dropWhile]
theorem mg_sorted (l : List Nat) : ∀ (ks zs : List Nat), (smp l ks).Pairwise (fun a b => Ord.sl l a b = true) → zs.Pairwise (fun a b => Ord.sl l a b = true) → (∀ a ∈ smp l ks, ∀ z ∈ zs, Ord.sl l a z = false → Ord.sl l z a = true) →
    (mg l ks zs).Pairwise (fun a b => Ord.sl l a b = true)
  | [], zs, _, h, _ => h
  | k :: ks, zs, ha, hz, hx => by
    rw [mg]
    rw [smp_cons] at ha hx
    split
    · rename_i hk; rw [if_pos hk] at ha hx
      exact mg_sorted l ks zs ha hz hx
    · rename_i hk; rw [if_neg hk] at ha hx
      obtain ⟨ha1, ha2⟩ := List.pairwise_cons.1 ha
      have hsplit := List.takeWhile_append_dropWhile (p := fun z => !Ord.sl l (plc l.length k) z) (l := zs)
      have hT : ∀ z ∈ zs.takeWhile (fun z => !Ord.sl l (plc l.length k) z), Ord.sl l z (plc l.length k) = true := by
        intro z hzm
        have hm : z ∈ zs := by rw [← hsplit]; exact List.mem_append_left _ hzm
        have hb := List.all_takeWhile (p := fun z => !Ord.sl l (plc l.length k) z) (l := zs)
        have := List.all_eq_true.1 hb z hzm
        refine hx _ (List.mem_cons_self ..) z hm ?_
        simpa using this
      have hpz := hz
      rw [← hsplit] at hpz
      obtain ⟨p1, p2, p3⟩ := List.pairwise_append.1 hpz
      have hD : ∀ z ∈ zs.dropWhile (fun z => !Ord.sl l (plc l.length k) z), Ord.sl l (plc l.length k) z = true := by
        intro z hzm
        cases hd : zs.dropWhile (fun z => !Ord.sl l (plc l.length k) z) with
        | nil => rw [hd] at hzm; cases hzm
        | cons d D =>
          have h0 : Ord.sl l (plc l.length k) d = true := by
            have := List.head?_dropWhile_not (fun z => !Ord.sl l (plc l.length k) z) zs
            rw [hd] at this
            simpa using this
          rw [hd] at hzm p2
          rcases List.mem_cons.1 hzm with rfl | hzm
          · exact h0
          · exact Ord.sl_trans l _ _ _ h0 ((List.pairwise_cons.1 p2).1 z hzm)
      have hmem : ∀ y ∈ mg l ks (zs.dropWhile (fun z => !Ord.sl l (plc l.length k) z)), y ∈ smp l ks ∨ y ∈ zs.dropWhile (fun z => !Ord.sl l (plc l.length k) z) := fun y hy => List.mem_append.1 ((mg_perm l ks _).mem_iff.1 hy)
      have hsub : ∀ z ∈ zs.dropWhile (fun z => !Ord.sl l (plc l.length k) z), z ∈ zs := fun z h => by rw [← hsplit]; exact List.mem_append_right _ h
      have ih := mg_sorted l ks (zs.dropWhile (fun z => !Ord.sl l (plc l.length k) z)) ha2 p2 (fun a h z hz' => hx a (List.mem_cons_of_mem _ h) z (hsub z hz'))
      have hk2 : ∀ y ∈ mg l ks (zs.dropWhile (fun z => !Ord.sl l (plc l.length k) z)), Ord.sl l (plc l.length k) y = true := fun y hy => by
        rcases hmem y hy with h | h
        · exact ha1 y h
        · exact hD y h
      refine List.pairwise_append.2 ⟨p1, List.pairwise_cons.2 ⟨hk2, ih⟩, fun z hzt y hy => ?_⟩
      rcases List.mem_cons.1 hy with rfl | hy
      · exact hT z hzt
      · exact Ord.sl_trans l _ _ _ (hT z hzt) (hk2 y hy)
theorem perm_of_mem {a b : List Nat} (ha : a.Nodup) (hb : b.Nodup) (h : ∀ x, x ∈ a ↔ x ∈ b) : a.Perm b := by
  rw [List.perm_iff_count]
  intro x
  have hc : ∀ c : List Nat, c.Nodup → c.count x = if x ∈ c then 1 else 0 := fun c hc => by
    split
    · rename_i hm
      have h1 := List.nodup_iff_count.1 hc x
      have h2 := List.count_pos_iff.2 hm
      omega
    · rename_i hm; exact List.count_eq_zero.2 hm
  rw [hc a ha, hc b hb]
  simp only [h x]
/-- Expanded: all ends in order. -/
theorem mg_ok (l e zs : List Nat) (h1 : ∀ x ∈ l, 1 ≤ x) (he : Ord.SortedE (red l) e) (hz : zs.Perm (restP 0 l.length)) (hzs : zs.Pairwise (fun a b => Ord.sl l a b = true)) : Ord.SortedE l (mg l e zs) := by
  have hlt : ∀ k ∈ e, k < numP l.length := fun k hk => by rw [← red_length]; exact he.lt hk
  have hmz : ∀ z, z ∈ zs ↔ z < l.length ∧ z % 3 = 0 := fun z => by
    rw [hz.mem_iff]; unfold restP; simp
  have hms : ∀ p, p ∈ smp l e ↔ p < l.length ∧ p % 3 ≠ 0 := fun p => by
    unfold smp
    simp only [List.mem_filter, List.mem_map, decide_eq_true_eq]
    constructor
    · rintro ⟨⟨k, hk, rfl⟩, h⟩; exact ⟨h, (plc_lt _ _ (hlt k hk)).2.1⟩
    · rintro ⟨h, h3⟩
      obtain ⟨k, hk, rfl⟩ := plc_onto l.length p (by unfold endP; split <;> omega) h3
      exact ⟨⟨k, he.1.mem_iff.2 (List.mem_range.2 (by rw [red_length]; exact hk)), rfl⟩, h⟩
  have hpe : (e.map (plc l.length)).Pairwise (fun a b => Ord.sl l a b = true) := by
    rw [List.pairwise_map]
    refine List.Pairwise.imp_of_mem ?_ he.2
    intro a b ha hb hab
    rw [← sl_red l h1 l.length a b (hlt a ha) (hlt b hb) (by omega)]; exact hab
  have hsm : (smp l e).Pairwise (fun a b => Ord.sl l a b = true) := hpe.filter _
  have hnd : ∀ c : List Nat, c.Pairwise (fun a b => Ord.sl l a b = true) → c.Nodup := fun c hc => by
    refine List.Pairwise.imp ?_ hc
    intro a b h heq; subst heq; rw [Ord.sl_irrefl] at h; cases h
  refine ⟨(mg_perm l e zs).trans (perm_of_mem (List.nodup_append.2 ⟨hnd _ hsm, hnd _ hzs, fun a ha b hb => by have := (hms a).1 ha; have := (hmz b).1 hb; omega⟩) List.nodup_range fun x => ?_), mg_sorted l e zs hsm hzs fun a ha z hz' h => ?_⟩
  · rw [List.mem_append, hms, hmz, List.mem_range]; omega
  · have h2 := (hms a).1 ha
    have h3 := (hmz z).1 hz'
    cases hc : Ord.sl l z a with
    | true => rfl
    | false => have := Ord.sl_total l a z h2.1 h3.1 h hc; omega
/-- The places that leave no rest, sorted. -/
theorem rest_sorted (l e : List Nat) (r : List Int) (h1 : ∀ x ∈ l, 1 ≤ x) (he : Ord.SortedE (red l) e) (hr : Rk l e r) (zs : List Nat) (hz : zs.Perm (restP 0 l.length))
    (hs : ∀ i j, i < j → j < zs.length → ¬ (at0 l (zs.getD j 0) < at0 l (zs.getD i 0) ∨ at0 l (zs.getD j 0) = at0 l (zs.getD i 0) ∧ r.getD (zs.getD j 0 + 1) 0 < r.getD (zs.getD i 0 + 1) 0)) : zs.Pairwise (fun a b => Ord.sl l a b = true) := by
  have hmz : ∀ z, z ∈ zs ↔ z < l.length ∧ z % 3 = 0 := fun z => by
    rw [hz.mem_iff]; unfold restP; simp
  have hnd : zs.Nodup := hz.nodup_iff.2 (by unfold restP; exact List.nodup_range.filter _)
  refine List.pairwise_iff_getElem.2 fun i j hi hj hij => ?_
  have h := hs i j hij hj
  have gi : zs.getD i 0 = zs[i] := by rw [List.getD_eq_getElem?_getD, List.getElem?_eq_getElem hi]; rfl
  have gj : zs.getD j 0 = zs[j] := by rw [List.getD_eq_getElem?_getD, List.getElem?_eq_getElem hj]; rfl
  rw [gi, gj] at h
  have mi := (hmz _).1 (List.getElem_mem hi)
  have mj := (hmz _).1 (List.getElem_mem hj)
  have hne : zs[i] ≠ zs[j] := List.pairwise_iff_getElem.1 hnd i j hi hj hij
  rw [← sl_one l e r h1 he hr _ _ mj.1 mi.1 (by omega) (by omega) (Ne.symm hne)] at h
  cases hc : Ord.sl l zs[i] zs[j] with
  | true => rfl
  | false =>
    cases hd : Ord.sl l zs[j] zs[i] with
    | true => exact absurd hd h
    | false => exact absurd (Ord.sl_total l _ _ mi.1 mj.1 hc hd) hne
/-! ### Levels -/
theorem few (n : Nat) (h : 4 ≤ n) : numP n < n := by
  have := places_few n
  unfold numP; omega
theorem small_unlike (l : List Nat) (h1 : ∀ x ∈ l, 1 ≤ x) (h : l.length ≤ 3) : many l = numP l.length := by
  have hl := red_length l
  have hn := numP_eq l.length
  unfold endP at hn
  rcases Nat.lt_trichotomy l.length 3 with h3 | h3 | h3
  · rcases Nat.eq_zero_or_pos l.length with h0 | h0
    · have hm : numP l.length = 0 := by rw [hn]; split <;> omega
      exact many_of l _ (red_le l) (.inr hm)
    · have hm : numP l.length = 1 := by rw [hn]; split <;> omega
      refine many_of l _ (red_le l) (.inl ?_)
      have hx : (red l)[0]'(by omega) ∈ red l := List.getElem_mem _
      have h1 := red_le l _ hx
      have h2 := red_pos l _ hx
      rw [hm] at h1 ⊢
      have : (red l)[0]'(by omega) = 1 := by omega
      rw [this] at hx; exact hx
  · have hm : numP l.length = 2 := by rw [hn]; split <;> omega
    have hk : tkey l 0 ≠ tkey l 1 := by
      unfold tkey
      rw [plc_eq _ 0 (by omega), plc_eq _ 1 (by omega)]
      unfold endP
      rw [h3]
      intro e
      obtain ⟨x, y, z, rfl⟩ : ∃ x y z, l = [x, y, z] := by
        match l, h3 with
        | [x, y, z], _ => exact ⟨x, y, z, rfl⟩
      have hz : 1 ≤ z := h1 z (by simp)
      simp [tri, at0] at e
      omega
    have e := name_eq (tkey l) (numP l.length) 0 1 (by omega) (by omega)
    have hx0 : (red l)[0]'(by omega) ∈ red l := List.getElem_mem _
    have hx1 : (red l)[1]'(by omega) ∈ red l := List.getElem_mem _
    have a1 := red_le l _ hx0
    have a2 := red_pos l _ hx0
    have b1 := red_le l _ hx1
    have b2 := red_pos l _ hx1
    have hne : (red l)[0]'(by omega) ≠ (red l)[1]'(by omega) := by
      rw [red_at, red_at]; exact fun h => hk (e.1 h)
    refine many_of l _ (red_le l) (.inl ?_)
    rw [hm] at a1 b1 ⊢
    by_cases h : (red l)[0]'(by omega) = 2
    · rw [h] at hx0; exact hx0
    · have : (red l)[1]'(by omega) = 2 := by omega
      rw [this] at hx1; exact hx1
  · omega
theorem less_long (l : List Nat) (h1 : ∀ x ∈ l, 1 ≤ x) (h : many l ≠ numP l.length) : (red l).length < l.length := by
  rw [red_length]
  refine few _ ?_
  rcases Nat.lt_or_ge l.length 4 with h' | h'
  · exact absurd (small_unlike l h1 (by omega)) h
  · exact h'
end Skew
end Go.Proofs.Ytgidjbpgkeemiaa
namespace Go.Proofs.Ytgidjbpgkeemiaa
open Go.RowKit
open Mv Num Loser Skew
set_option linter.unusedVariables false
set_option linter.unusedSimpArgs false
set_option maxRecDepth 4000


namespace Skew
def bad (x : Nat) : Bool := decide (x < 1) || decide (1099511627776 ≤ x)
def chkL (l : List Nat) : Int := if 4096 < l.length ∨ l.any bad = true then 1 else 0
theorem chk_ok {l : List Nat} (h : chkL l = 0) : l.length ≤ 4096 ∧ (∀ x ∈ l, 1 ≤ x) ∧ ∀ x ∈ l, x < 1099511627776 := by
  unfold chkL at h
  split at h
  · omega
  · rename_i hn
    have h2 : l.any bad = false := by cases hb : l.any bad with
      | false => rfl
      | true => exact absurd (Or.inr hb) hn
    rw [List.any_eq_false] at h2
    have h3 : ∀ x ∈ l, 1 ≤ x ∧ x < 1099511627776 := fun x hx => by have := h2 x hx; unfold bad at this; simp at this; omega
    exact ⟨by omega, fun x hx => (h3 x hx).1, fun x hx => (h3 x hx).2⟩
theorem chk_no {l : List Nat} (h : chkL l ≠ 0) : chkL l = 1 := by unfold chkL at *; split at h <;> simp_all
theorem restP_step (r i : Nat) (h : i % 3 = r) : restP r (i + 3) = restP r i ++ [i] := by
  rw [restP_succ, restP_succ, restP_succ, if_pos h, if_neg (by omega), if_neg (by omega), List.append_nil, List.append_nil]
theorem restP_over (r E : Nat) (hr : r < 3) : ∀ (i : Nat), E ≤ i → i < E + 3 → i % 3 = r → restP r i = restP r E := by
  intro i h1 h2 h3
  rcases (by omega : i = E ∨ i = E + 1 ∨ i = E + 2) with h | h | h
  · rw [h]
  · rw [h, restP_succ, if_neg (by omega), List.append_nil]
  · rw [h, restP_succ, restP_succ, if_neg (by omega), if_neg (by omega), List.append_nil, List.append_nil]
theorem restP_small (r : Nat) (hr : r < 3) : restP r r = [] := by
  have : ∀ m, m ≤ r → restP r m = [] := by
    intro m
    induction m with
    | zero => intro _; rfl
    | succ m ih => intro h; rw [restP_succ, ih (by omega), if_neg (by omega)]; rfl
  exact this r (Nat.le_refl _)
def accP (E : Nat) : Nat → List Nat
  | 0 => []
  | 1 => []
  | 2 => restP 1 E
  | _ => restP 1 E ++ restP 2 E
theorem acc_step (E r : Nat) (h1 : 1 ≤ r) (h2 : r < 3) : accP E r ++ restP r E = accP E (r + 1) := by
  rcases (by omega : r = 1 ∨ r = 2) with rfl | rfl
  · rfl
  · rfl
theorem acc_len (E r : Nat) (hE : E ≤ 1048577) (hr : r < 3) : (accP E r).length ≤ r + 1048577 := by
  rcases (by omega : r = 0 ∨ r = 1 ∨ r = 2) with rfl | rfl | rfl
  · show 0 ≤ _; omega
  · show 0 ≤ _; omega
  · show (restP 1 E).length ≤ _; rw [restP_length 1 (by omega)]; omega
theorem acc_len3 (E : Nat) (hE : E ≤ 1048577) : (accP E 3).length ≤ 9223372036854775807 := by
  show (restP 1 E ++ restP 2 E).length ≤ _
  rw [List.length_append, restP_length 1 (by omega), restP_length 2 (by omega)]; omega
end Skew
theorem sk_chk1 (x : Nat) (S : Mem) : ACall Try.prog 66 #[.int .u64 (x : Int)] S fun r S' => r = .bool (bad x) ∧ S' = S := by
  unfold bad
  by_cases h : x < 1
  · have h0 := h
    rw [decide_eq_true h]
    refine ACall.enter (args := [.int .u64 (x : Int)]) (rs := [.tmp 2]) 9 [(0, .int .u64 (x : Int))] Try.func66 rfl rfl (Nat.le_of_ble_eq_true rfl) rfl ⟨rfl, trivial⟩ ?_
    refine AWP.seq ?_
    refine AWP.region ?_
    refine rC (Calm.assign rfl) ?_
    refine arun_nil ?_
    refine athen_n ?_
    refine AWP.seq ?_
    refine AWP.region ?_
    refine rC (Calm.move rfl) ?_
    refine rC (Calm.bin rfl rfl b_lss) ?_
    refine rC (Calm.move rfl) ?_
    first | refine rS 5 ?_ | refine rU 5 ?_ | refine rG 5 (Calm.move rfl) ?_
    first | refine rS 5 ?_ | refine rU 5 ?_ | refine rG 5 (Calm.bin rfl rfl b_geq) ?_
    refine rC ((by first | exact Calm.pickT rfl rfl | exact Calm.pickF rfl rfl)) ?_
    refine rC (Calm.assign rfl) ?_
    refine arun_nil ?_
    refine athen_n ?_
    refine AWP.sub [(0, _), (2, _)] ⟨rfl, rfl, trivial⟩ ?_
    refine AWP.ret ?_
    refine ⟨_, S, ⟨_, _, rfl, rfl, rfl⟩, less_, ?_⟩
    exact ⟨rfl, rfl⟩
  · have h0 := h
    rw [decide_eq_false h]
    by_cases h2 : 1099511627776 ≤ x
    · have h3 := h2
      rw [decide_eq_true h2]
      refine ACall.enter (args := [.int .u64 (x : Int)]) (rs := [.tmp 2]) 9 [(0, .int .u64 (x : Int))] Try.func66 rfl rfl (Nat.le_of_ble_eq_true rfl) rfl ⟨rfl, trivial⟩ ?_
      refine AWP.seq ?_
      refine AWP.region ?_
      refine rC (Calm.assign rfl) ?_
      refine arun_nil ?_
      refine athen_n ?_
      refine AWP.seq ?_
      refine AWP.region ?_
      refine rC (Calm.move rfl) ?_
      refine rC (Calm.bin rfl rfl b_lss) ?_
      refine rC (Calm.move rfl) ?_
      first | refine rS 5 ?_ | refine rU 5 ?_ | refine rG 5 (Calm.move rfl) ?_
      first | refine rS 5 ?_ | refine rU 5 ?_ | refine rG 5 (Calm.bin rfl rfl b_geq) ?_
      refine rC ((by first | exact Calm.pickT rfl rfl | exact Calm.pickF rfl rfl)) ?_
      refine rC (Calm.assign rfl) ?_
      refine arun_nil ?_
      refine athen_n ?_
      refine AWP.sub [(0, _), (2, _)] ⟨rfl, rfl, trivial⟩ ?_
      refine AWP.ret ?_
      refine ⟨_, S, ⟨_, _, rfl, rfl, rfl⟩, less_, ?_⟩
      exact ⟨rfl, rfl⟩
    · have h3 := h2
      rw [decide_eq_false h2]
      refine ACall.enter (args := [.int .u64 (x : Int)]) (rs := [.tmp 2]) 9 [(0, .int .u64 (x : Int))] Try.func66 rfl rfl (Nat.le_of_ble_eq_true rfl) rfl ⟨rfl, trivial⟩ ?_
      refine AWP.seq ?_
      refine AWP.region ?_
      refine rC (Calm.assign rfl) ?_
      refine arun_nil ?_
      refine athen_n ?_
      refine AWP.seq ?_
      refine AWP.region ?_
      refine rC (Calm.move rfl) ?_
      refine rC (Calm.bin rfl rfl b_lss) ?_
      refine rC (Calm.move rfl) ?_
      first | refine rS 5 ?_ | refine rU 5 ?_ | refine rG 5 (Calm.move rfl) ?_
      first | refine rS 5 ?_ | refine rU 5 ?_ | refine rG 5 (Calm.bin rfl rfl b_geq) ?_
      refine rC ((by first | exact Calm.pickT rfl rfl | exact Calm.pickF rfl rfl)) ?_
      refine rC (Calm.assign rfl) ?_
      refine arun_nil ?_
      refine athen_n ?_
      refine AWP.sub [(0, _), (2, _)] ⟨rfl, rfl, trivial⟩ ?_
      refine AWP.ret ?_
      refine ⟨_, S, ⟨_, _, rfl, rfl, rfl⟩, less_, ?_⟩
      exact ⟨rfl, rfl⟩
theorem sk_index (v : Value) (l : List Nat) (S : Mem) (hl : RowR S v l) :
    ACall Try.prog 103 #[v, .func (.func 66) #[] #[]] S fun r S' => (∃ n : Int, r = .int .i64 n ∧ decide (0 ≤ n) = l.any bad) ∧ S' = S := by
  obtain ⟨a, cap, rfl, h1, h2, h3⟩ := id hl
  refine ACall.enter (args := [.slice a l.length cap, .func (.func 66) #[] #[]]) (rs := [.tmp 4]) 19 [(0, .slice a l.length cap), (1, .func (.func 66) #[] #[])] Try.func103 rfl rfl (Nat.le_of_ble_eq_true rfl) rfl ⟨rfl, rfl, trivial⟩ ?_
  refine AWP.seq ?_
  refine AWP.region ?_
  refine rC (Calm.assign rfl) ?_
  refine arun_nil ?_
  refine athen_n ?_
  refine AWP.seq ?_
  refine AWP.seq ?_
  refine AWP.region ?_
  refine rC (Calm.move rfl) ?_
  refine rC (Calm.lenSl Try.underlying22 rfl) ?_
  refine rC (Calm.move rfl) ?_
  refine arun_nil ?_
  refine athen_n ?_
  refine AWP.sub [(0, _), (1, _), (4, _), (7, _), (8, _)] ⟨rfl, rfl, rfl, rfl, rfl, trivial⟩ ?_
  refine AWP.block ?_
  refine AWP.loop (X := Nat) (fun x => [(0, .slice a l.length cap), (1, .func (.func 66) #[] #[]), (7, .int .i64 l.length), (8, .int .i64 x)]) (fun x => S) (fun x => x ≤ l.length ∧ (l.drop x).any bad = l.any bad) (fun x => l.length - x) (0) ⟨rfl, rfl, rfl, rfl, trivial⟩ (Mem.Less.refl _) (⟨Nat.zero_le _, rfl⟩) ?_
  rintro i ⟨hi, hall⟩
  (try dsimp only at *)
  refine AWP.seq ?_
  refine AWP.region ?_
  refine rC (Calm.bin rfl rfl b_lss) ?_
  refine arun_nil ?_
  refine athen_n ?_
  refine AWP.seq ?_
  refine AWP.condB rfl (fun hc => ?_) (fun hc => ?_)
  · have hc : i < l.length := by have := of_decide_eq_true hc; omega
    obtain ⟨b, off, rfl, hk⟩ := h3.resolve_left (fun e => by subst e; simp at hc)
    have hki := hk i hc
    unfold u64s at hki
    rw [List.drop_eq_getElem_cons hc, List.any_cons] at hall
    refine AWP.skip ?_
    refine athen_n ?_
    refine AWP.seq ?_
    refine AWP.block ?_
    refine AWP.seq ?_
    refine AWP.region ?_
    refine rC (Calm.move rfl) ?_
    refine rC (Calm.assign rfl) ?_
    refine arun_nil ?_
    refine athen_n ?_
    refine AWP.sub [(0, _), (1, _), (7, _), (8, _), (9, _), (5, _)] ⟨rfl, rfl, rfl, rfl, rfl, rfl, trivial⟩ ?_
    refine AWP.seq ?_
    refine AWP.region ?_
    refine rC (Calm.move rfl) ?_
    refine rC (Calm.move rfl) ?_
    refine rC (Calm.move rfl) ?_
    refine rC (Calm.indexS Try.underlying22 ty_size_41 rfl rfl (by omega) (by omega)) ?_
    refine rC (ld_ ty_plain_41 rfl) ?_
    refine ARun.callV (lit_lt rfl) go_66 rfl rfl (sk_chk1 l[i] _) ?_
    rintro _ S1 ⟨rfl, h1⟩
    rw [h1]; clear h1 S1
    refine arun_nil ?_
    refine athen_n ?_
    refine AWP.sub [(0, _), (1, _), (7, _), (8, _), (9, _), (5, _), (16, _)] ⟨rfl, rfl, rfl, rfl, rfl, rfl, rfl, trivial⟩ ?_
    refine AWP.condB rfl (fun hb => ?_) (fun hb => ?_)
    · refine AWP.seq ?_
      refine AWP.region ?_
      refine rC (Calm.move rfl) ?_
      refine rC (Calm.assign rfl) ?_
      refine arun_nil ?_
      refine athen_n ?_
      refine AWP.sub [(0, _), (1, _), (7, _), (8, _), (9, _), (5, _), (16, _), (4, _)] ⟨rfl, rfl, rfl, rfl, rfl, rfl, rfl, rfl, trivial⟩ ?_
      refine AWP.ret ?_
      refine ain_ret ?_
      refine athen_ret ?_
      refine athen_ret ?_
      refine ain_ret ?_
      refine athen_ret ?_
      refine ⟨_, S, ⟨_, _, rfl, rfl, rfl⟩, less_, ?_⟩
      exact ⟨⟨i, rfl, by rw [← hall, hb, decide_eq_true (by omega)]; rfl⟩, rfl⟩
    · refine AWP.skip ?_
      refine ain_n ?_
      refine athen_n ?_
      refine AWP.region ?_
      refine rC (Calm.bin rfl rfl b_add_i64) ?_
      refine rC (Calm.move rfl) ?_
      refine arun_nil ?_
      refine athen_n ?_
      refine ⟨i + 1, ?_, ?_, ?_, ?_⟩
      all_goals (try dsimp only)
      · exact ⟨rfl, rfl, rfl, rfl, trivial⟩
      · exact less_
      · exact ⟨hc, by rw [hb, Bool.false_or] at hall; exact hall⟩
      · omega
  · have hc : i = l.length := by have := of_decide_eq_false hc; omega
    refine AWP.exit ?_
    refine athen_exit ?_
    refine athen_exit ?_
    refine ain_same ?_
    refine athen_n ?_
    refine AWP.seq ?_
    refine AWP.region ?_
    refine rC (Calm.assign rfl) ?_
    refine arun_nil ?_
    refine athen_n ?_
    refine AWP.ret ?_
    refine ⟨_, S, ⟨_, _, rfl, rfl, rfl⟩, less_, ?_⟩
    exact ⟨⟨-1, rfl, by rw [← hall, List.drop_eq_nil_of_le (by omega)]; rfl⟩, rfl⟩
theorem sk_contains (v : Value) (l : List Nat) (S : Mem) (hl : RowR S v l) :
    ACall Try.prog 65 #[v, .func (.func 66) #[] #[]] S fun r S' => r = .bool (l.any bad) ∧ S' = S := by
  refine ACall.enter (args := [v, .func (.func 66) #[] #[]]) (rs := [.tmp 4]) 9 [(0, v), (1, .func (.func 66) #[] #[])] Try.func65 rfl rfl (Nat.le_of_ble_eq_true rfl) rfl ⟨rfl, rfl, trivial⟩ ?_
  refine AWP.seq ?_
  refine AWP.region ?_
  refine rC (Calm.assign rfl) ?_
  refine arun_nil ?_
  refine athen_n ?_
  refine AWP.seq ?_
  refine AWP.region ?_
  refine rC (Calm.move rfl) ?_
  refine rC (Calm.move rfl) ?_
  refine ARun.call (lit_lt rfl) go_103 rfl (sk_index v l _ hl) ?_
  rintro _ S1 ⟨⟨n, rfl, hn⟩, h1⟩
  rw [h1]; clear h1 S1
  refine rC (Calm.bin rfl rfl (bin_bool (bin_geq _ _) hn)) ?_
  refine rC (Calm.assign rfl) ?_
  refine arun_nil ?_
  refine athen_n ?_
  refine AWP.sub [(0, _), (1, _), (4, _)] ⟨rfl, rfl, rfl, trivial⟩ ?_
  refine AWP.ret ?_
  refine ⟨_, S, ⟨_, _, rfl, rfl, rfl⟩, less_, ?_⟩
  exact ⟨rfl, rfl⟩
theorem sk_Check (v : Value) (l : List Nat) (S : Mem) (hl : RowR S v l) :
    ACall Try.prog 24 #[v] S fun r S' => r = .int .i64 (chkL l) ∧ S' = S := by
  obtain ⟨a, cap, rfl, h1, h2, h3⟩ := id hl
  unfold chkL
  by_cases h : 4096 < l.length
  · rw [if_pos (.inl h)]
    refine ACall.enter (args := [.slice a l.length cap]) (rs := [.tmp 2]) 10 [(0, .slice a l.length cap)] Try.func24 rfl rfl (Nat.le_of_ble_eq_true rfl) rfl ⟨rfl, trivial⟩ ?_
    refine AWP.seq ?_
    refine AWP.region ?_
    refine rC (Calm.assign rfl) ?_
    refine arun_nil ?_
    refine athen_n ?_
    refine AWP.seq ?_
    refine AWP.seq ?_
    refine AWP.region ?_
    refine rC (Calm.move rfl) ?_
    refine rC (Calm.lenSl Try.underlying22 rfl) ?_
    refine rC (Calm.bin rfl rfl b_gtr) ?_
    refine rC (Calm.move rfl) ?_
    first | refine rS 6 ?_ | refine rU 6 ?_ | refine rG 6 (Calm.move rfl) ?_
    first | refine rS 6 ?_ | refine rU 6 ?_
    refine rC ((by first | exact Calm.pickT rfl rfl | exact Calm.pickF rfl rfl)) ?_
    refine arun_nil ?_
    refine athen_n ?_
    refine AWP.sub [(0, _), (2, _), (9, _)] ⟨rfl, rfl, rfl, trivial⟩ ?_
    refine AWP.condT rfl (by first | rfl | (simp; done) | (simp; omega)) ?_
    refine AWP.seq ?_
    refine AWP.region ?_
    refine rC (Calm.assign rfl) ?_
    refine arun_nil ?_
    refine athen_n ?_
    refine AWP.ret ?_
    refine athen_ret ?_
    refine ⟨_, S, ⟨_, _, rfl, rfl, rfl⟩, less_, ?_⟩
    exact ⟨rfl, rfl⟩
  · have hn := h
    refine ACall.enter (args := [.slice a l.length cap]) (rs := [.tmp 2]) 10 [(0, .slice a l.length cap)] Try.func24 rfl rfl (Nat.le_of_ble_eq_true rfl) rfl ⟨rfl, trivial⟩ ?_
    refine AWP.seq ?_
    refine AWP.region ?_
    refine rC (Calm.assign rfl) ?_
    refine arun_nil ?_
    refine athen_n ?_
    refine AWP.seq ?_
    refine AWP.seq ?_
    refine AWP.region ?_
    refine rC (Calm.move rfl) ?_
    refine rC (Calm.lenSl Try.underlying22 rfl) ?_
    refine rC (Calm.bin rfl rfl b_gtr) ?_
    refine rC (Calm.move rfl) ?_
    first | refine rS 6 ?_ | refine rU 6 ?_ | refine rG 6 (Calm.move rfl) ?_
    refine ARun.callG 3 false 6 rfl (lit_lt rfl) rfl (lit_lt rfl) go_65 rfl (sk_contains _ l _ hl) ?_
    rintro _ S1 ⟨rfl, h1⟩
    rw [h1]; clear h1 S1
    refine rC ((by first | exact Calm.pickT rfl rfl | exact Calm.pickF rfl rfl)) ?_
    refine arun_nil ?_
    refine athen_n ?_
    refine AWP.sub [(0, _), (2, _), (9, _)] ⟨rfl, rfl, rfl, trivial⟩ ?_
    refine AWP.condB rfl (fun hb => ?_) (fun hb => ?_)
    · refine AWP.seq ?_
      refine AWP.region ?_
      refine rC (Calm.assign rfl) ?_
      refine arun_nil ?_
      refine athen_n ?_
      refine AWP.ret ?_
      refine athen_ret ?_
      refine ⟨_, S, ⟨_, _, rfl, rfl, rfl⟩, less_, ?_⟩
      exact ⟨by rw [if_pos (.inr hb)]; rfl, rfl⟩
    · refine AWP.skip ?_
      refine athen_n ?_
      refine AWP.seq ?_
      refine AWP.region ?_
      refine rC (Calm.assign rfl) ?_
      refine arun_nil ?_
      refine athen_n ?_
      refine AWP.ret ?_
      refine ⟨_, S, ⟨_, _, rfl, rfl, rfl⟩, less_, ?_⟩
      exact ⟨by rw [if_neg (by rw [hb]; simp; omega)]; rfl, rfl⟩
theorem at0_in (l : List Nat) (i : Nat) (h : i < l.length) : at0 l i = l[i] := by unfold at0; rw [List.getD_eq_getElem?_getD, List.getElem?_eq_getElem h]; rfl
theorem at0_out (l : List Nat) (i : Nat) (h : ¬ i < l.length) : at0 l i = 0 := by unfold at0; rw [List.getD_eq_getElem?_getD, List.getElem?_eq_none (by omega)]; rfl
theorem sk_at (v : Value) (l : List Nat) (ii : Int) (i : Nat) (ei : ii = i) (S : Mem) (hl : RowR S v l) :
    ACall Try.prog 98 #[v, .int .i64 ii] S fun r S' => r = gU (at0 l i) ∧ S' = S := by
  subst ei
  unfold gU
  obtain ⟨a, cap, rfl, h1, h2, h3⟩ := id hl
  by_cases hc : i < l.length
  · rw [at0_in l i hc]
    obtain ⟨b, off, rfl, hk⟩ := h3.resolve_left (fun e => by subst e; simp at hc)
    have hki := hk i hc
    unfold u64s at hki
    refine ACall.enter (args := [.slice (some ⟨b, off, none⟩) l.length cap, .int .i64 (i : Int)]) (rs := [.tmp 4]) 13 [(0, .slice (some ⟨b, off, none⟩) l.length cap), (1, .int .i64 (i : Int))] Try.func98 rfl rfl (Nat.le_of_ble_eq_true rfl) rfl ⟨rfl, rfl, trivial⟩ ?_
    refine AWP.seq ?_
    refine AWP.region ?_
    refine rC (Calm.assign rfl) ?_
    refine arun_nil ?_
    refine athen_n ?_
    refine AWP.seq ?_
    refine AWP.seq ?_
    refine AWP.region ?_
    refine rC (Calm.move rfl) ?_
    refine rC (Calm.move rfl) ?_
    refine rC (Calm.lenSl Try.underlying72 rfl) ?_
    refine rC (Calm.bin rfl rfl b_lss) ?_
    refine arun_nil ?_
    refine athen_n ?_
    refine AWP.sub [(0, _), (1, _), (4, _), (8, _)] ⟨rfl, rfl, rfl, rfl, trivial⟩ ?_
    refine AWP.condT rfl (by first | rfl | (simp; done) | (simp; omega)) ?_
    refine AWP.seq ?_
    refine AWP.region ?_
    refine rC (Calm.move rfl) ?_
    refine rC (Calm.move rfl) ?_
    refine rC (Calm.indexS Try.underlying72 ty_size_41 rfl rfl (by omega) (by omega)) ?_
    refine rC (ld_ ty_plain_41 rfl) ?_
    refine rC (Calm.assign rfl) ?_
    refine arun_nil ?_
    refine athen_n ?_
    refine AWP.sub [(0, _), (1, _), (4, _), (8, _)] ⟨rfl, rfl, rfl, rfl, trivial⟩ ?_
    refine AWP.ret ?_
    refine athen_ret ?_
    refine ⟨_, S, ⟨_, _, rfl, rfl, rfl⟩, less_, ?_⟩
    exact ⟨rfl, rfl⟩
  · rw [at0_out l i hc]
    refine ACall.enter (args := [.slice a l.length cap, .int .i64 (i : Int)]) (rs := [.tmp 4]) 13 [(0, .slice a l.length cap), (1, .int .i64 (i : Int))] Try.func98 rfl rfl (Nat.le_of_ble_eq_true rfl) rfl ⟨rfl, rfl, trivial⟩ ?_
    refine AWP.seq ?_
    refine AWP.region ?_
    refine rC (Calm.assign rfl) ?_
    refine arun_nil ?_
    refine athen_n ?_
    refine AWP.seq ?_
    refine AWP.seq ?_
    refine AWP.region ?_
    refine rC (Calm.move rfl) ?_
    refine rC (Calm.move rfl) ?_
    refine rC (Calm.lenSl Try.underlying72 rfl) ?_
    refine rC (Calm.bin rfl rfl b_lss) ?_
    refine arun_nil ?_
    refine athen_n ?_
    refine AWP.sub [(0, _), (1, _), (4, _), (8, _)] ⟨rfl, rfl, rfl, rfl, trivial⟩ ?_
    refine AWP.condF rfl (by first | rfl | (simp; done) | (simp; omega)) ?_
    refine AWP.skip ?_
    refine athen_n ?_
    refine AWP.seq ?_
    refine AWP.region ?_
    refine rC (Calm.assign rfl) ?_
    refine arun_nil ?_
    refine athen_n ?_
    refine AWP.ret ?_
    refine ⟨_, S, ⟨_, _, rfl, rfl, rfl⟩, less_, ?_⟩
    exact ⟨rfl, rfl⟩
/-- A triple as a value. -/
def triV (l : List Nat) (i : Nat) : Value := .agg #[gU (at0 l i), gU (at0 l (i + 1)), gU (at0 l (i + 2))]
theorem sk_triple (v : Value) (l : List Nat) (ii : Int) (i : Nat) (ei : ii = i) (S : Mem) (hl : RowR S v l) (hi : i ≤ 1048576) :
    ACall Try.prog 61 #[v, .int .i64 ii] S fun r S' => r = triV l i ∧ S' = S := by
  subst ei
  refine ACall.enter (args := [v, .int .i64 (i : Int)]) (rs := [.cell 4 71]) 17 [(0, v), (1, .int .i64 (i : Int))] Try.func61 rfl rfl (Nat.le_of_ble_eq_true rfl) rfl ⟨rfl, rfl, trivial⟩ ?_
  refine AWP.seq ?_
  refine AWP.region ?_
  refine ARun.alloc (lit_lt rfl) ty_zero_71 ?_
  intro b4 f4
  have g4 := f4
  repeat ((with_reducible replace g4 := fresh_set g4); obtain ⟨g4, _⟩ := g4)
  (try simp only [List.length_cons, List.length_nil, Nat.zero_add, Nat.reduceAdd])
  refine arun_nil ?_
  refine athen_n ?_
  refine AWP.seq ?_
  refine AWP.region ?_
  refine rC (Calm.move rfl) ?_
  refine rC (Calm.move rfl) ?_
  refine ARun.call (lit_lt rfl) go_98 rfl (sk_at v l _ i om_ _ (hl.less less_)) ?_
  rintro _ _ ⟨rfl, rfl⟩
  refine rC (Calm.move rfl) ?_
  refine rC (Calm.move rfl) ?_
  refine rC (Calm.bin rfl rfl b_add_i64) ?_
  refine ARun.call (lit_lt rfl) go_98 rfl (sk_at v l _ (i + 1) om_ _ (hl.less less_)) ?_
  rintro _ _ ⟨rfl, rfl⟩
  refine rC (Calm.move rfl) ?_
  refine rC (Calm.move rfl) ?_
  refine rC (Calm.bin rfl rfl b_add_i64) ?_
  refine ARun.call (lit_lt rfl) go_98 rfl (sk_at v l _ (i + 2) om_ _ (hl.less less_)) ?_
  rintro _ _ ⟨rfl, rfl⟩
  refine rC (Calm.buildArr (cs := [_, _, _]) ty_arr_71 rfl rfl) ?_
  first | refine ARun.storeAll rfl rfl ty_size_71 own_ rfl rfl ?_ | refine ARun.store rfl rfl ty_size_71 own_ lens_ rfl ?_
  (try simp only [Mem.set_set, List.set_cons_zero, List.set_cons_succ, Nat.zero_add, Nat.reduceAdd])
  refine arun_nil ?_
  refine athen_n ?_
  refine AWP.sub [(0, _), (1, _), (4, _)] ⟨rfl, rfl, rfl, trivial⟩ ?_
  refine AWP.ret ?_
  refine ⟨_, S, ⟨_, _, _, rfl, .inr ⟨ty_agg_71, [_, _, _], ty_size_71, rds_, rfl⟩, rfl, rfl⟩, less_, ?_⟩
  exact ⟨rfl, rfl⟩
set_option maxHeartbeats 1000000 in
theorem sk_Places (ii : Int) (n : Nat) (ei : ii = n) (hn : n ≤ 1048576) (S : Mem) :
    ACall Try.prog 59 #[.int .i64 ii] S (RdL gI (places n) S) := by
  subst ei
  have hE := endP_or n
  have hp : places n = accP (endP n) 3 := rfl
  rw [hp]
  generalize endP n = E at *
  refine ACall.enter (args := [.int .i64 (n : Int)]) (rs := [.tmp 2]) 28 [(0, .int .i64 (n : Int))] Try.func59 rfl rfl (Nat.le_of_ble_eq_true rfl) rfl ⟨rfl, trivial⟩ ?_
  refine AWP.seq ?_
  refine AWP.region ?_
  refine rC (Calm.assign rfl) ?_
  refine arun_nil ?_
  refine athen_n ?_
  refine AWP.seq ?_
  refine AWP.region ?_
  refine rC (Calm.move rfl) ?_
  refine rC (Calm.assign rfl) ?_
  refine arun_nil ?_
  refine athen_n ?_
  refine AWP.sub [(0, _), (2, _), (3, _)] ⟨rfl, rfl, rfl, trivial⟩ ?_
  refine AWP.seq ?_
  refine AWP.seq ?_
  refine AWP.region ?_
  refine rC (Calm.move rfl) ?_
  refine rC (Calm.bin rfl rfl b_rem) ?_
  refine rC (Calm.bin rfl rfl b_eql) ?_
  refine arun_nil ?_
  refine athen_n ?_
  refine AWP.sub [(0, _), (2, _), (3, _), (10, _)] ⟨rfl, rfl, rfl, rfl, trivial⟩ ?_
  refine AWP.join (X := Unit) (fun _ => [(3, .int .i64 (E : Int))]) (fun _ => S) (fun _ => E ≤ n + 1) ?_ ?_
  · by_cases h1 : n % 3 = 1
    · refine AWP.condT rfl (by first | rfl | (simp; done) | (simp; omega)) ?_
      refine AWP.region ?_
      refine rC (Calm.move rfl) ?_
      refine rC (Calm.bin rfl rfl b_add_i64) ?_
      refine rC (Calm.assign rfl) ?_
      refine arun_nil ?_
      refine ⟨(), ?_, ?_, ?_⟩
      all_goals (try dsimp only)
      · omega
      · exact ⟨sq_, trivial⟩
      · exact Mem.Less.refl _
    · refine AWP.condF rfl (by first | rfl | (simp; done) | (simp; omega)) ?_
      refine AWP.skip ?_
      refine ⟨(), ?_, ?_, ?_⟩
      all_goals (try dsimp only)
      · omega
      · exact ⟨sq_, trivial⟩
      · exact Mem.Less.refl _
  rintro _ _
  intro _ _ hs_ hl_
  (try dsimp only at *)
  refine athen_n ?_
  refine AWP.sub _ hs_ (AWP.less _ hl_ ?_)
  clear hs_ hl_
  refine AWP.seq ?_
  refine AWP.region ?_
  refine rC (Calm.assign rfl) ?_
  refine arun_nil ?_
  refine athen_n ?_
  refine AWP.seq ?_
  refine AWP.seq ?_
  refine AWP.region ?_
  refine rC (Calm.assign rfl) ?_
  refine arun_nil ?_
  refine athen_n ?_
  refine AWP.block ?_
  refine AWP.loop (X := Nat × List Nat × Option (Nat × Nat)) (fun x => [(3, .int .i64 (E : Int)), (4, outV x.2.2 x.2.1.length), (5, .int .i64 x.1)]) (fun x => outM S x.2.2 3 (x.2.1.map gI)) (fun x => 1 ≤ x.1 ∧ x.1 ≤ 3 ∧ x.2.1 = accP E x.1 ∧ OkO S x.2.2 x.2.1.length) (fun x => 3 - x.1) ((1, [], none)) ⟨rfl, rfl, rfl, trivial⟩ (Mem.Less.refl _) (⟨Nat.le_refl _, by dsimp only; omega, rfl, okO_nil _⟩) ?_
  rintro ⟨r, L, o⟩ ⟨h1, h2, hL, ho⟩
  (try dsimp only at *)
  by_cases hr : r < 3
  · refine AWP.seq ?_
    refine AWP.seq ?_
    refine AWP.region ?_
    refine rC (Calm.move rfl) ?_
    refine rC (Calm.bin rfl rfl b_lss) ?_
    refine arun_nil ?_
    refine athen_n ?_
    refine AWP.sub [(3, _), (4, _), (5, _), (14, _)] ⟨rfl, rfl, rfl, rfl, trivial⟩ ?_
    refine AWP.condT rfl (by first | rfl | (simp; done) | (simp; omega)) ?_
    refine AWP.skip ?_
    refine athen_n ?_
    refine AWP.seq ?_
    refine AWP.block ?_
    refine AWP.seq ?_
    refine AWP.region ?_
    refine rC (Calm.move rfl) ?_
    refine rC (Calm.assign rfl) ?_
    refine arun_nil ?_
    refine athen_n ?_
    refine AWP.sub [(3, _), (4, _), (5, _), (14, _), (6, _)] ⟨rfl, rfl, rfl, rfl, rfl, trivial⟩ ?_
    refine AWP.block ?_
    refine AWP.loop (X := Nat × List Nat × Option (Nat × Nat)) (fun x => [(3, .int .i64 (E : Int)), (4, outV x.2.2 x.2.1.length), (5, .int .i64 r), (6, .int .i64 x.1)]) (fun x => outM S x.2.2 3 (x.2.1.map gI)) (fun x => x.1 % 3 = r % 3 ∧ x.1 < E + 3 ∧ x.2.1 = accP E r ++ restP r x.1 ∧ x.2.1.length ≤ x.1 + 1048577 ∧ OkO S x.2.2 x.2.1.length) (fun x => E + 3 - x.1) ((r, L, o)) ⟨rfl, rfl, rfl, rfl, trivial⟩ (Mem.Less.refl _) (⟨rfl, by dsimp only; omega, by dsimp only; rw [hL, restP_small r hr, List.append_nil], by dsimp only; rw [hL]; exact acc_len E r (by omega) hr, ho⟩) ?_
    rintro ⟨i, L2, o2⟩ ⟨k1, k2, k3, k5, k4⟩
    (try dsimp only at *)
    by_cases hi : i < E
    · refine AWP.seq ?_
      refine AWP.seq ?_
      refine AWP.region ?_
      refine rC (Calm.move rfl) ?_
      refine rC (Calm.move rfl) ?_
      refine rC (Calm.bin rfl rfl b_lss) ?_
      refine arun_nil ?_
      refine athen_n ?_
      refine AWP.sub [(3, _), (4, _), (5, _), (6, _), (20, _)] ⟨rfl, rfl, rfl, rfl, rfl, trivial⟩ ?_
      refine AWP.condT rfl (by first | rfl | (simp; done) | (simp; omega)) ?_
      refine AWP.skip ?_
      refine athen_n ?_
      refine AWP.seq ?_
      refine AWP.block ?_
      refine AWP.region ?_
      refine rC (Calm.move rfl) ?_
      refine rC (Calm.move rfl) ?_
      refine ARun.build1s (lit_lt rfl) ty_sl_24 rfl rfl ?_
      intro b25 f25
      have g25 := f25
      repeat ((with_reducible replace g25 := fresh_set g25); obtain ⟨g25, _⟩ := g25)
      refine ARun.appendO (lit_lt rfl) ty_sl_24 rfl map_len (appO_of k4 map_len f25) rfl (news := [_]) rds_ rfl (by omega) (by simp [Value.oneCell']) (by omega) (by omega) ?_
      intro b26 c26 ho2
      refine rC (Calm.assign rfl) ?_
      refine arun_nil ?_
      refine ain_n ?_
      refine athen_n ?_
      refine AWP.sub [(3, _), (4, _), (5, _), (6, _), (20, _)] ⟨rfl, rfl, rfl, rfl, rfl, trivial⟩ ?_
      refine AWP.region ?_
      refine rC (Calm.move rfl) ?_
      refine rC (Calm.bin rfl rfl b_add_i64) ?_
      refine rC (Calm.assign rfl) ?_
      refine arun_nil ?_
      refine athen_n ?_
      refine ⟨(i + 3, L2 ++ [i], some (b26, c26)), ?_, ?_, ?_, ?_⟩
      all_goals (try dsimp only)
      · exact ⟨sq_, sq_, sq_, sq_, trivial⟩
      · exact push_less rfl
      · exact ⟨by omega, by omega, by rw [k3, restP_step r i (by omega), List.append_assoc], by rw [List.length_append]; show L2.length + 1 ≤ _; omega, push_ok ho2 rfl⟩
      · omega
    · refine AWP.seq ?_
      refine AWP.seq ?_
      refine AWP.region ?_
      refine rC (Calm.move rfl) ?_
      refine rC (Calm.move rfl) ?_
      refine rC (Calm.bin rfl rfl b_lss) ?_
      refine arun_nil ?_
      refine athen_n ?_
      refine AWP.sub [(3, _), (4, _), (5, _), (6, _), (20, _)] ⟨rfl, rfl, rfl, rfl, rfl, trivial⟩ ?_
      refine AWP.condF rfl (by first | rfl | (simp; done) | (simp; omega)) ?_
      refine AWP.exit ?_
      refine athen_exit ?_
      refine athen_exit ?_
      refine ain_same ?_
      refine ain_n ?_
      refine athen_n ?_
      refine AWP.region ?_
      refine rC (Calm.move rfl) ?_
      refine rC (Calm.bin rfl rfl b_add_i64) ?_
      refine rC (Calm.assign rfl) ?_
      refine arun_nil ?_
      refine athen_n ?_
      refine ⟨(r + 1, L2, o2), ?_, ?_, ?_, ?_⟩
      all_goals (try dsimp only)
      · exact ⟨sq_, sq_, sq_, trivial⟩
      · exact Mem.Less.refl _
      · exact ⟨by omega, by omega, by rw [k3, restP_over r E hr i (by omega) k2 (by omega), acc_step E r h1 hr], k4⟩
      · omega
  · obtain rfl : r = 3 := by omega
    refine AWP.seq ?_
    refine AWP.seq ?_
    refine AWP.region ?_
    refine rC (Calm.move rfl) ?_
    refine rC (Calm.bin rfl rfl b_lss) ?_
    refine arun_nil ?_
    refine athen_n ?_
    refine AWP.sub [(3, _), (4, _), (5, _), (14, _)] ⟨rfl, rfl, rfl, rfl, trivial⟩ ?_
    refine AWP.condF rfl (by first | rfl | (simp; done) | (simp; omega)) ?_
    rw [← hL]
    refine AWP.exit ?_
    refine athen_exit ?_
    refine athen_exit ?_
    refine ain_same ?_
    refine athen_n ?_
    refine AWP.seq ?_
    refine AWP.region ?_
    refine rC (Calm.move rfl) ?_
    refine rC (Calm.assign rfl) ?_
    refine arun_nil ?_
    refine athen_n ?_
    refine AWP.sub [(3, _), (4, _), (5, _), (14, _), (2, _)] ⟨rfl, rfl, rfl, rfl, rfl, trivial⟩ ?_
    refine AWP.ret ?_
    refine ⟨_, _, ⟨_, _, rfl, rfl, rfl⟩, Mem.Less.refl _, ?_⟩
    exact RdL.of_out ho rfl (by rw [hL]; exact acc_len3 E (by omega))
end Go.Proofs.Ytgidjbpgkeemiaa
namespace Go.Proofs.Ytgidjbpgkeemiaa
open Go.RowKit
open Mv Num Loser Skew
set_option linter.unusedVariables false
set_option linter.unusedSimpArgs false
set_option maxRecDepth 4000
namespace Skew
def smpL (l : List Nat) : List Nat := if chkL l = 0 then places l.length else []
def triL (l : List Nat) : List (List Nat) := if chkL l = 0 then (places l.length).map (tri l) else []
theorem places_le (n : Nat) (hn : n ≤ 4096) : (places n).length ≤ 3000 := by have := places_few n; omega
theorem places_lt {n k : Nat} (hk : k < (places n).length) : (places n)[k] ≤ n := by
  have h := (plc_lt n k hk).2.2
  unfold plc at h
  rw [List.getD_eq_getElem?_getD, List.getElem?_eq_getElem hk] at h
  exact h
end Skew
theorem sl_nilI (S : Mem) : Sl 1 (fun x => [gI x]) S (.slice none 0 0) ([] : List Nat) := Sl.nil _ _ _
theorem sk_Samples (v : Value) (l : List Nat) (S : Mem) (hl : RowR S v l) :
    ACall Try.prog 15 #[v] S fun r S' => ∃ u, r = .tuple #[u, .int .i64 (chkL l)] ∧ RdL gI (smpL l) S u S' := by
  obtain ⟨a, cap, rfl, h1, h2, h3⟩ := id hl
  by_cases hc : chkL l = 0
  · have hlen := (chk_ok hc).1
    have es : smpL l = places l.length := if_pos hc
    rw [es]
    refine ACall.enter (args := [.slice a l.length cap]) (rs := [.tmp 2, .tmp 3]) 13 [(0, .slice a l.length cap)] Try.func15 rfl rfl (Nat.le_of_ble_eq_true rfl) rfl ⟨rfl, trivial⟩ ?_
    refine AWP.seq ?_
    refine AWP.region ?_
    refine rC (Calm.assign rfl) ?_
    refine rC (Calm.assign rfl) ?_
    refine arun_nil ?_
    refine athen_n ?_
    refine AWP.seq ?_
    refine AWP.seq ?_
    refine AWP.region ?_
    refine rC (Calm.move rfl) ?_
    refine ARun.call (lit_lt rfl) go_24 rfl (sk_Check _ l _ hl) ?_
    rintro _ S1 ⟨rfl, h1⟩
    rw [h1]; clear h1 S1
    rw [hc]
    refine rC (Calm.assign rfl) ?_
    refine arun_nil ?_
    refine athen_n ?_
    refine AWP.sub [(0, _), (2, _), (3, _), (4, _)] ⟨rfl, rfl, rfl, rfl, trivial⟩ ?_
    refine AWP.seq ?_
    refine AWP.region ?_
    refine rC (Calm.move rfl) ?_
    refine rC (Calm.bin rfl rfl b_neq) ?_
    refine arun_nil ?_
    refine athen_n ?_
    refine AWP.sub [(0, _), (2, _), (3, _), (4, _), (8, _)] ⟨rfl, rfl, rfl, rfl, rfl, trivial⟩ ?_
    refine AWP.condF rfl (by first | rfl | (simp; done) | (simp; omega)) ?_
    refine AWP.skip ?_
    refine athen_n ?_
    refine AWP.seq ?_
    refine AWP.region ?_
    refine rC (Calm.move rfl) ?_
    refine rC (Calm.lenSl Try.underlying22 rfl) ?_
    refine ARun.call (lit_lt rfl) go_59 rfl (sk_Places _ l.length rfl (by omega) S) ?_
    rintro u S1 hP
    refine rC (Calm.assign rfl) ?_
    refine rC (Calm.assign rfl) ?_
    refine arun_nil ?_
    refine athen_n ?_
    refine AWP.sub [(0, _), (2, _), (3, _), (4, _), (8, _)] ⟨rfl, rfl, rfl, rfl, rfl, trivial⟩ ?_
    refine AWP.ret ?_
    refine ⟨_, S1, ⟨_, _, rfl, ⟨_, _, rfl, rfl, rfl⟩, rfl⟩, Mem.Less.refl _, ?_⟩
    exact ⟨u, rfl, hP⟩
  · have es : smpL l = [] := if_neg hc
    rw [es]
    have e1 := chk_no hc
    refine ACall.enter (args := [.slice a l.length cap]) (rs := [.tmp 2, .tmp 3]) 13 [(0, .slice a l.length cap)] Try.func15 rfl rfl (Nat.le_of_ble_eq_true rfl) rfl ⟨rfl, trivial⟩ ?_
    refine AWP.seq ?_
    refine AWP.region ?_
    refine rC (Calm.assign rfl) ?_
    refine rC (Calm.assign rfl) ?_
    refine arun_nil ?_
    refine athen_n ?_
    refine AWP.seq ?_
    refine AWP.seq ?_
    refine AWP.region ?_
    refine rC (Calm.move rfl) ?_
    refine ARun.call (lit_lt rfl) go_24 rfl (sk_Check _ l _ hl) ?_
    rintro _ S1 ⟨rfl, h1⟩
    rw [h1]; clear h1 S1
    rw [e1]
    refine rC (Calm.assign rfl) ?_
    refine arun_nil ?_
    refine athen_n ?_
    refine AWP.sub [(0, _), (2, _), (3, _), (4, _)] ⟨rfl, rfl, rfl, rfl, trivial⟩ ?_
    refine AWP.seq ?_
    refine AWP.region ?_
    refine rC (Calm.move rfl) ?_
    refine rC (Calm.bin rfl rfl b_neq) ?_
    refine arun_nil ?_
    refine athen_n ?_
    refine AWP.sub [(0, _), (2, _), (3, _), (4, _), (8, _)] ⟨rfl, rfl, rfl, rfl, rfl, trivial⟩ ?_
    refine AWP.condT rfl (by first | rfl | (simp; done) | (simp; omega)) ?_
    refine AWP.seq ?_
    refine AWP.region ?_
    refine rC (Calm.move rfl) ?_
    refine rC (Calm.assign rfl) ?_
    refine rC (Calm.assign rfl) ?_
    refine arun_nil ?_
    refine athen_n ?_
    refine AWP.sub [(0, _), (2, _), (3, _), (4, _), (8, _)] ⟨rfl, rfl, rfl, rfl, rfl, trivial⟩ ?_
    refine AWP.ret ?_
    refine athen_ret ?_
    refine ⟨_, S, ⟨_, _, rfl, ⟨_, _, rfl, rfl, rfl⟩, rfl⟩, less_, ?_⟩
    exact ⟨_, rfl, Mem.Less.refl _, sl_nilI _⟩
set_option maxHeartbeats 1000000 in
theorem sk_Triples (v : Value) (l : List Nat) (S : Mem) (hl : RowR S v l) :
    ACall Try.prog 17 #[v] S fun r S' => ∃ u, r = .tuple #[u, .int .i64 (chkL l)] ∧ S.Less S' ∧ SlOf RowR S' u (triL l) := by
  by_cases hc : chkL l = 0
  · have hlen := (chk_ok hc).1
    have es : smpL l = places l.length := if_pos hc
    have et : triL l = (places l.length).map (tri l) := if_pos hc
    have hS := sk_Samples v l S hl
    rw [es, hc] at hS
    rw [et, hc]
    have hpl := places_le l.length hlen
    generalize hps : places l.length = ps at *
    refine ACall.enter (args := [v]) (rs := [.tmp 2, .tmp 3]) 37 [(0, v)] Try.func17 rfl rfl (Nat.le_of_ble_eq_true rfl) rfl ⟨rfl, trivial⟩ ?_
    refine AWP.seq ?_
    refine AWP.region ?_
    refine rC (Calm.assign rfl) ?_
    refine rC (Calm.assign rfl) ?_
    refine arun_nil ?_
    refine athen_n ?_
    refine AWP.seq ?_
    refine AWP.region ?_
    refine rC (Calm.move rfl) ?_
    refine ARun.call (lit_lt rfl) go_15 rfl (hS) ?_
    rintro _ S1 ⟨u, rfl, hSS, hu⟩
    obtain ⟨pa, pc, rfl, p1, p2, p3⟩ := id hu
    refine rC (Calm.move rfl) ?_
    refine rC (Calm.extract rfl rfl) ?_
    refine rC (Calm.extract rfl rfl) ?_
    refine rC (Calm.assign rfl) ?_
    refine rC (Calm.assign rfl) ?_
    refine arun_nil ?_
    refine athen_n ?_
    refine AWP.sub [(0, _), (2, _), (3, _), (4, _), (5, _)] ⟨rfl, rfl, rfl, rfl, rfl, trivial⟩ ?_
    refine AWP.seq ?_
    refine AWP.seq ?_
    refine AWP.region ?_
    refine rC (Calm.move rfl) ?_
    refine rC (Calm.bin rfl rfl b_neq) ?_
    refine arun_nil ?_
    refine athen_n ?_
    refine AWP.sub [(0, _), (2, _), (3, _), (4, _), (5, _), (16, _)] ⟨rfl, rfl, rfl, rfl, rfl, rfl, trivial⟩ ?_
    refine AWP.condF rfl (by first | rfl | (simp; done) | (simp; omega)) ?_
    refine AWP.skip ?_
    refine athen_n ?_
    refine AWP.seq ?_
    refine AWP.region ?_
    refine rC (Calm.move rfl) ?_
    refine rC (Calm.lenSl Try.underlying24 rfl) ?_
    refine ARun.makeSlice (lit_lt rfl) ty_sl_28 rfl rfl (by omega) (by omega) (by omega) (by omega) ?_
    intro b20 f20
    have g20 := f20
    repeat ((with_reducible replace g20 := fresh_set g20); obtain ⟨g20, _⟩ := g20)
    refine rC (Calm.assign rfl) ?_
    refine arun_nil ?_
    refine athen_n ?_
    refine AWP.sub [(0, _), (2, _), (3, _), (4, _), (5, _), (16, _), (6, _)] ⟨rfl, rfl, rfl, rfl, rfl, rfl, rfl, trivial⟩ ?_
    simp only [Nat.mul_one, madeL_one, Int.toNat_natCast]
    refine AWP.seq ?_
    refine AWP.seq ?_
    refine AWP.region ?_
    refine rC (Calm.move rfl) ?_
    refine rC (Calm.lenSl Try.underlying24 rfl) ?_
    refine rC (Calm.move rfl) ?_
    refine arun_nil ?_
    refine athen_n ?_
    refine AWP.block ?_
    refine AWP.loop (X := Nat × Mem × List Value) (fun x => [(0, v), (6, .slice (some ⟨b20, 0, none⟩) ps.length ps.length), (21, .slice pa ps.length pc), (22, .int .i64 ps.length), (23, .int .i64 x.1)]) (fun x => x.2.1.set b20 ⟨22, x.2.2 ++ List.replicate (ps.length - x.1) (.slice none 0 0), ps.length⟩) (fun x => x.1 ≤ ps.length ∧ S1.Less x.2.1 ∧ Fresh x.2.1 b20 ∧ x.2.2.length = x.1 ∧ ∀ j (h' : j < x.2.2.length), RowR x.2.1 x.2.2[j] (tri l (ps.getD j 0))) (fun x => ps.length - x.1) ((0, S1, [])) ⟨rfl, rfl, rfl, rfl, rfl, trivial⟩ (Mem.Less.refl _) (⟨Nat.zero_le _, Mem.Less.refl _, f20, rfl, fun j h => absurd h (Nat.not_lt_zero _)⟩) ?_
    rintro ⟨i, M, hs⟩ ⟨q1, q2, q3, q4, q5⟩
    (try dsimp only at *)
    by_cases hi : i < ps.length
    · refine AWP.seq ?_
      refine AWP.region ?_
      refine rC (Calm.bin rfl rfl b_lss) ?_
      refine arun_nil ?_
      refine athen_n ?_
      refine AWP.seq ?_
      refine AWP.condT rfl (by first | rfl | (simp; done) | (simp; omega)) ?_
      obtain ⟨pb, po, rfl, hk⟩ := p3.resolve_left (fun e => by rw [e] at hi; exact absurd hi (Nat.not_lt_zero _))
      have hki : Mem.Knows (M.set b20 ⟨22, hs ++ List.replicate (ps.length - i) (.slice none 0 0), ps.length⟩) ⟨pb, po + i * 1, none⟩ [.int .i64 (ps[i] : Int)] := (hk i hi).less (q2.trans (Mem.less_set _ _ _ q3.1))
      have hpi : ps[i] ≤ l.length := by simp only [← hps]; exact places_lt (by rw [hps]; exact hi)
      refine AWP.skip ?_
      refine athen_n ?_
      refine AWP.seq ?_
      refine AWP.block ?_
      refine AWP.seq ?_
      refine AWP.region ?_
      refine rC (Calm.move rfl) ?_
      refine rC (Calm.indexS Try.underlying24 ty_size_3 rfl rfl (by omega) (by omega)) ?_
      refine rC (ld_ ty_plain_3 rfl) ?_
      refine rC (Calm.assign rfl) ?_
      refine rC (Calm.assign rfl) ?_
      refine arun_nil ?_
      refine athen_n ?_
      refine AWP.sub [(0, _), (6, _), (21, _), (22, _), (23, _), (24, _), (7, _), (8, _)] ⟨rfl, rfl, rfl, rfl, rfl, rfl, rfl, rfl, trivial⟩ ?_
      refine AWP.seq ?_
      refine AWP.region ?_
      refine rC (Calm.move rfl) ?_
      refine rC (Calm.move rfl) ?_
      refine ARun.call (lit_lt rfl) go_61 rfl (sk_triple v l _ ps[i] rfl _ (hl.less (hSS.trans (q2.trans (Mem.less_set _ _ _ q3.1)))) (by omega)) ?_
      rintro _ _ ⟨rfl, rfl⟩
      unfold triV
      refine ARun.alloc (lit_lt rfl) ty_zero_71 ?_
      intro b9 f9
      have g9 := f9
      repeat ((with_reducible replace g9 := fresh_set g9); obtain ⟨g9, _⟩ := g9)
      (try simp only [List.length_cons, List.length_nil, Nat.zero_add, Nat.reduceAdd])
      first | refine ARun.storeAll rfl rfl ty_size_71 own_ rfl rfl ?_ | refine ARun.store rfl rfl ty_size_71 own_ lens_ rfl ?_
      (try simp only [Mem.set_set, List.set_cons_zero, List.set_cons_succ, Nat.zero_add, Nat.reduceAdd])
      refine arun_nil ?_
      refine athen_n ?_
      refine AWP.sub [(0, _), (6, _), (21, _), (22, _), (23, _), (24, _), (7, _), (8, _), (9, _)] ⟨rfl, rfl, rfl, rfl, rfl, rfl, rfl, rfl, rfl, trivial⟩ ?_
      refine AWP.region ?_
      refine rC (Calm.move rfl) ?_
      refine rC (Calm.move rfl) ?_
      refine rC (Calm.sliceArr Try.underlying71 ty_size_41 rfl (bnd_none _ _)) ?_
      refine rC (Calm.indexS Try.underlying28 ty_size_22 rfl rfl (by omega) (by omega)) ?_
      refine ARun.store1 rfl rfl ty_size_22 rfl own_ lens_ rfl ?_
      (try simp only [Mem.set_set, List.set_cons_zero, List.set_cons_succ, Nat.zero_add, Nat.reduceAdd])
      refine arun_nil ?_
      refine ain_n ?_
      refine athen_n ?_
      refine AWP.sub [(0, _), (6, _), (21, _), (22, _), (23, _), (24, _), (7, _), (8, _), (9, _)] ⟨rfl, rfl, rfl, rfl, rfl, rfl, rfl, rfl, rfl, trivial⟩ ?_
      simp only [Nat.zero_add, Nat.mul_one, Int.toNat_natCast, fill_set _ _ _ _ _ q4 hi]
      have epi : ps.getD hs.length 0 = ps[i] := by rw [q4, List.getD_eq_getElem?_getD, List.getElem?_eq_getElem hi]; rfl
      refine AWP.region ?_
      refine rC (Calm.bin rfl rfl b_add_i64) ?_
      refine rC (Calm.move rfl) ?_
      refine arun_nil ?_
      refine athen_n ?_
      refine ⟨(i + 1, M.set b9 ⟨71, (tri l ps[i]).map gU, 3⟩, hs ++ [.slice (some ⟨b9, 0, none⟩) 3 3]), ?_, ?_, ?_, ?_⟩
      all_goals (try dsimp only)
      · exact ⟨rfl, rfl, rfl, rfl, sq_, trivial⟩
      · exact less_
      · exact ⟨hi, q2.trans less_, fresh_more q3 (by first | assumption | (apply Ne.symm; assumption)), by rw [List.length_append, q4]; rfl, heads_step rowR_less q5 less_ (by rw [epi]; exact Sl.own1 (g := gU) (l := tri l ps[i]) (Mem.own_set_same _ _ _) List.prefix_rfl rfl (Nat.le_refl _) (by decide))⟩
      · omega
    · obtain rfl : i = ps.length := by omega
      refine AWP.seq ?_
      refine AWP.region ?_
      refine rC (Calm.bin rfl rfl b_lss) ?_
      refine arun_nil ?_
      refine athen_n ?_
      refine AWP.seq ?_
      refine AWP.condF rfl (by first | rfl | (simp; done) | (simp; omega)) ?_
      refine AWP.exit ?_
      refine athen_exit ?_
      refine athen_exit ?_
      refine ain_same ?_
      refine athen_n ?_
      refine AWP.seq ?_
      refine AWP.region ?_
      refine rC (Calm.move rfl) ?_
      refine rC (Calm.assign rfl) ?_
      refine rC (Calm.assign rfl) ?_
      refine arun_nil ?_
      refine athen_n ?_
      refine AWP.sub [(0, _), (6, _), (21, _), (22, _), (23, _), (24, _), (2, _), (3, _)] ⟨rfl, rfl, rfl, rfl, rfl, rfl, rfl, rfl, trivial⟩ ?_
      refine AWP.ret ?_
      refine ⟨_, _, ⟨_, _, rfl, ⟨_, _, rfl, rfl, rfl⟩, rfl⟩, Mem.Less.refl _, ?_⟩
      exact ⟨_, rfl, hSS.trans (q2.trans (Mem.less_set _ _ _ q3.1)), heads_slOf rowR_less q5 (by rw [List.length_map]; exact q4) (fun j h => by rw [List.length_map] at h; rw [List.getElem_map, List.getD_eq_getElem?_getD, List.getElem?_eq_getElem h]; rfl) (by rw [Nat.sub_self, List.replicate_zero, List.append_nil]; exact Mem.own_set_same _ _ _) (Mem.less_set _ _ _ q3.1) q4 (Nat.le_refl _) (by omega)⟩
  · have es : smpL l = [] := if_neg hc
    have et : triL l = [] := if_neg hc
    have e1 := chk_no hc
    have hS := sk_Samples v l S hl
    rw [es, e1] at hS
    rw [et, e1]
    refine ACall.enter (args := [v]) (rs := [.tmp 2, .tmp 3]) 37 [(0, v)] Try.func17 rfl rfl (Nat.le_of_ble_eq_true rfl) rfl ⟨rfl, trivial⟩ ?_
    refine AWP.seq ?_
    refine AWP.region ?_
    refine rC (Calm.assign rfl) ?_
    refine rC (Calm.assign rfl) ?_
    refine arun_nil ?_
    refine athen_n ?_
    refine AWP.seq ?_
    refine AWP.region ?_
    refine rC (Calm.move rfl) ?_
    refine ARun.call (lit_lt rfl) go_15 rfl (hS) ?_
    rintro _ S1 ⟨u, rfl, hSS, hu⟩
    refine rC (Calm.move rfl) ?_
    refine rC (Calm.extract rfl rfl) ?_
    refine rC (Calm.extract rfl rfl) ?_
    refine rC (Calm.assign rfl) ?_
    refine rC (Calm.assign rfl) ?_
    refine arun_nil ?_
    refine athen_n ?_
    refine AWP.sub [(0, _), (2, _), (3, _), (4, _), (5, _)] ⟨rfl, rfl, rfl, rfl, rfl, trivial⟩ ?_
    refine AWP.seq ?_
    refine AWP.seq ?_
    refine AWP.region ?_
    refine rC (Calm.move rfl) ?_
    refine rC (Calm.bin rfl rfl b_neq) ?_
    refine arun_nil ?_
    refine athen_n ?_
    refine AWP.sub [(0, _), (2, _), (3, _), (4, _), (5, _), (16, _)] ⟨rfl, rfl, rfl, rfl, rfl, rfl, trivial⟩ ?_
    refine AWP.condT rfl (by first | rfl | (simp; done) | (simp; omega)) ?_
    refine AWP.seq ?_
    refine AWP.region ?_
    refine rC (Calm.move rfl) ?_
    refine rC (Calm.assign rfl) ?_
    refine rC (Calm.assign rfl) ?_
    refine arun_nil ?_
    refine athen_n ?_
    refine AWP.sub [(0, _), (2, _), (3, _), (4, _), (5, _), (16, _)] ⟨rfl, rfl, rfl, rfl, rfl, rfl, trivial⟩ ?_
    refine AWP.ret ?_
    refine athen_ret ?_
    refine ⟨_, S, ⟨_, _, rfl, ⟨_, _, rfl, rfl, rfl⟩, rfl⟩, hSS, ?_⟩
    exact ⟨_, rfl, Mem.Less.refl _, SlOf.nil _ _⟩
end Go.Proofs.Ytgidjbpgkeemiaa
namespace Go.Proofs.Ytgidjbpgkeemiaa
open Go.RowKit
open Mv
set_option linter.unusedVariables false
namespace Srt
theorem rw_ {p : Prop} (h : p := by first | omega | (simp only [Array.size_setIfInBounds]; omega)) : p := h
theorem sb_ {p : Prop} (h : p := by first | rfl | (refine some_int ?_; first | omega | (dsimp only; omega))) : p := h
section
variable {P : Program} {N : Nat} {ops : Array Oper} {E : Env} {S : Mem} {K : Env → Mem → Prop} {ty : TypeId} {pos : String} {aft : Array Edge}
theorem ARun.storeRow {α : Type} {os : List Oper} {T e : TypeId} {x y : Operand} {b o room : Nat} (enc : α → Value) {d : Array α} {v : α} (k : Nat) (hx : ev E x = some (.pointer (some ⟨b, o, none⟩))) (hy : ev E y = some (enc v)) (hs : sizeT P T = some 1)
    (h1 : (enc v).cells = #[enc v] ∧ (enc v).oneCell' = true) (hb : S.own b = some ⟨e, d.toList.map enc, room⟩) (hk : k < d.size) (ho : o = k) (h : ARun P N ops os K E (S.set b ⟨e, (d.setIfInBounds k v).toList.map enc, room⟩)) :
    ARun P N ops (⟨none, .store T x y, ty, pos, aft, none⟩ :: os) K E S := by
  subst ho
  refine ARun.store1 hx hy hs h1.1 hb (by simpa using hk) h1.2 ?_
  have : (d.toList.map enc).set o (enc v) = (d.setIfInBounds o v).toList.map enc := by simp
  rw [this]; exact h
end
/-- A function that tells what is less, as a value. -/
structure CmpC {α : Type} (P : Program) (enc : α → Value) (cf : α → α → Int) (okP : α → Prop) (g : Nat) (cb : List Value) (S : Mem) : Prop where
  one : ∀ x, (enc x).cells = #[enc x] ∧ (enc x).oneCell' = true
  go : goFn P g = true
  cmp : ∀ x y, okP x → okP y → ACall P g ([] ++ [enc x, enc y] ++ cb).toArray S fun r S' => r = .int .i64 (cf x y) ∧ S' = S
theorem CmpC.call {α : Type} {P : Program} {enc : α → Value} {cf : α → α → Int} {okP : α → Prop} {g : Nat} {cb : List Value} {S S' : Mem} (C : CmpC P enc cf okP g cb S) (hl : S.Less S') {x y : α} (hx : okP x) (hy : okP y) :
    ACall P g ([] ++ [enc x, enc y] ++ cb).toArray S' fun r S'' => r = .int .i64 (cf x y) ∧ S'' = S' := ACall.pure_more hl (C.cmp x y hx hy)
def lq {α : Type} (cf : α → α → Int) (x y : α) : Bool := decide (cf x y < 0)

variable {α : Type} [Inhabited α]
theorem rd_row {S : Mem} {b : Nat} {T : TypeId} {enc : α → Value} {d : Array α} {room o k : Nat} (h : S.own b = some ⟨T, d.toList.map enc, room⟩) (hk : k < d.size) (ho : o = k) : S.rd ⟨b, o, none⟩ = some (enc d[k]!) := by
  rw [rd_own h, ho, getElem!_pos d k hk]; simp [hk]
/-- A row at work: its length, and what holds of each thing in it. -/
structure Rw (okP : α → Prop) (n : Nat) (d : Array α) : Prop where
  size : d.size = n
  ok : ∀ i, i < n → okP d[i]!
theorem Rw.swp {okP : α → Prop} {n : Nat} {d : Array α} (h : Rw okP n d) (i j : Nat) (hi : i < n) (hj : j < n) : Rw okP n (Go.Sort.swp d i j) := by
  refine ⟨by rw [Go.Sort.size_swp, h.size], fun k hk => ?_⟩
  have hs := h.size
  by_cases h1 : k = j
  · subst h1; rw [Go.Sort.swp_right d i k (by omega)]; exact h.ok i hi
  · by_cases h2 : k = i
    · subst h2; rw [Go.Sort.swp_left d k j (by omega) h1]; exact h.ok j hj
    · rw [Go.Sort.swp_other d i j k h2 h1]; exact h.ok k hk
/-! ### The plain sort's steps -/
section
variable (lt : α → α → Bool)
theorem ins_go {a j : Nat} {d : Array α} (h1 : a < j + 1) (h2 : lt d[j + 1]! d[j]! = true) : Go.Sort.insInner lt a j (Go.Sort.swp d (j + 1) j) = Go.Sort.insInner lt a (j + 1) d := by
  rw [Go.Sort.insInner.eq_def lt a (j + 1) d]; simp only []; rw [if_pos (by simp [h1, h2])]
theorem ins_no {a j : Nat} {d : Array α} (h2 : lt d[j + 1]! d[j]! = false) : d = Go.Sort.insInner lt a (j + 1) d := by
  rw [Go.Sort.insInner]; rw [if_neg (by simp [h2])]
theorem ins_end {a j : Nat} {d : Array α} (h1 : ¬ a < j) : d = Go.Sort.insInner lt a j d := by
  cases j with
  | zero => rfl
  | succ j => rw [Go.Sort.insInner]; rw [if_neg (by simp; omega)]
theorem outer_go {a b i : Nat} {d : Array α} (h : i < b) : Go.Sort.insOuter lt a b (i + 1) (Go.Sort.insInner lt a i d) = Go.Sort.insOuter lt a b i d := by
  rw [Go.Sort.insOuter.eq_def lt a b i d, if_pos h]
theorem outer_end {a b i : Nat} {d : Array α} (h : ¬ i < b) : d = Go.Sort.insOuter lt a b i d := by
  rw [Go.Sort.insOuter, if_neg h]
/-- The child that is looked at. -/
def child (hi first root : Nat) (d : Array α) : Nat := if 2 * root + 2 < hi ∧ lt d[first + (2 * root + 1)]! d[first + (2 * root + 2)]! = true then 2 * root + 2 else 2 * root + 1
theorem sift_leaf {hi first root : Nat} {d : Array α} (h : hi ≤ 2 * root + 1) : d = Go.Sort.siftDown lt hi first root d := by
  rw [Go.Sort.siftDown, dif_pos h]
theorem sift_stop {hi first root : Nat} {d : Array α} (h : ¬ hi ≤ 2 * root + 1) (h2 : lt d[first + root]! d[first + child lt hi first root d]! = false) : d = Go.Sort.siftDown lt hi first root d := by
  rw [Go.Sort.siftDown, dif_neg h]
  unfold child at h2
  by_cases hc : 2 * root + 2 < hi ∧ lt d[first + (2 * root + 1)]! d[first + (2 * root + 2)]! = true
  · rw [if_pos hc] at h2
    rw [if_pos (by simp; exact hc), if_pos (by simp [h2])]
  · rw [if_neg hc] at h2
    rw [if_neg (fun h => hc (by simp only [Bool.and_eq_true, decide_eq_true_eq] at h; exact h)), if_pos (by simp [h2])]
theorem sift_go {hi first root : Nat} {d : Array α} (h : ¬ hi ≤ 2 * root + 1) (h2 : lt d[first + root]! d[first + child lt hi first root d]! = true) :
    Go.Sort.siftDown lt hi first (child lt hi first root d) (Go.Sort.swp d (first + root) (first + child lt hi first root d)) = Go.Sort.siftDown lt hi first root d := by
  rw [Go.Sort.siftDown.eq_def lt hi first root d, dif_neg h]
  unfold child at *
  by_cases hc : 2 * root + 2 < hi ∧ lt d[first + (2 * root + 1)]! d[first + (2 * root + 2)]! = true
  · rw [if_pos hc] at h2 ⊢
    rw [if_pos (by simp; exact hc), if_neg (by simp [h2]), dif_pos hc.1]
  · rw [if_neg hc] at h2 ⊢
    rw [if_neg (fun h => hc (by simp only [Bool.and_eq_true, decide_eq_true_eq] at h; exact h)), if_neg (by simp [h2])]
theorem up_go {p : α → Bool} {d : Array α} {i j : Nat} (h : i ≤ j) (h2 : p d[i]! = true) : Go.Sort.scanUp p d j (i + 1) = Go.Sort.scanUp p d j i := by
  rw [Go.Sort.scanUp.eq_def p d j i, if_pos (by simp [h, h2])]
theorem up_end {p : α → Bool} {d : Array α} {i j : Nat} (h : ¬ i ≤ j) : i = Go.Sort.scanUp p d j i := by
  rw [Go.Sort.scanUp, if_neg (by simp; omega)]
theorem up_no {p : α → Bool} {d : Array α} {i j : Nat} (h : p d[i]! = false) : i = Go.Sort.scanUp p d j i := by
  rw [Go.Sort.scanUp, if_neg (by simp [h])]
theorem down_go {p : α → Bool} {d : Array α} {i j : Nat} (h : i ≤ j + 1) (h2 : p d[j + 1]! = true) : Go.Sort.scanDown p d i j = Go.Sort.scanDown p d i (j + 1) := by
  rw [Go.Sort.scanDown.eq_def p d i (j + 1)]; simp only []; rw [if_pos (by simp [h, h2])]
theorem down_end {p : α → Bool} {d : Array α} {i j : Nat} (h : ¬ i ≤ j) : j = Go.Sort.scanDown p d i j := by
  cases j with
  | zero => rfl
  | succ j => rw [Go.Sort.scanDown]; rw [if_neg (by simp; omega)]
theorem down_no {p : α → Bool} {d : Array α} {i j : Nat} (h0 : 0 < j) (h : p d[j]! = false) : j = Go.Sort.scanDown p d i j := by
  cases j with
  | zero => omega
  | succ j => rw [Go.Sort.scanDown]; rw [if_neg (by simp [h])]
theorem part_stop {a i j i2 j2 : Nat} {d : Array α} (h1 : i2 = Go.Sort.scanUp (fun x => lt x d[a]!) d j i) (h2 : j2 = Go.Sort.scanDown (fun x => !lt x d[a]!) d i2 j) (h : j2 < i2) : (j2, d) = Go.Sort.partLoop lt a i j d := by
  rw [Go.Sort.partLoop_eq, ← h1, ← h2, if_pos h]
theorem part_go {a i j i2 j2 : Nat} {d : Array α} (h1 : i2 = Go.Sort.scanUp (fun x => lt x d[a]!) d j i) (h2 : j2 = Go.Sort.scanDown (fun x => !lt x d[a]!) d i2 j) (h : ¬ j2 < i2) : Go.Sort.partLoop lt a (i2 + 1) (j2 - 1) (Go.Sort.swp d i2 j2) = Go.Sort.partLoop lt a i j d := by
  rw [Go.Sort.partLoop_eq lt a i j d, ← h1, ← h2, if_neg h]
theorem parteq_stop {a i j i2 j2 : Nat} {d : Array α} (h1 : i2 = Go.Sort.scanUp (fun x => !lt d[a]! x) d j i) (h2 : j2 = Go.Sort.scanDown (fun x => lt d[a]! x) d i2 j) (h : j2 < i2) : (i2, d) = Go.Sort.partEqLoop lt a i j d := by
  rw [Go.Sort.partEqLoop_eq, ← h1, ← h2, if_pos h]
theorem parteq_go {a i j i2 j2 : Nat} {d : Array α} (h1 : i2 = Go.Sort.scanUp (fun x => !lt d[a]! x) d j i) (h2 : j2 = Go.Sort.scanDown (fun x => lt d[a]! x) d i2 j) (h : ¬ j2 < i2) : Go.Sort.partEqLoop lt a (i2 + 1) (j2 - 1) (Go.Sort.swp d i2 j2) = Go.Sort.partEqLoop lt a i j d := by
  rw [Go.Sort.partEqLoop_eq lt a i j d, ← h1, ← h2, if_neg h]
theorem ss_go {d : Array α} {b i : Nat} (h : i < b) (h2 : lt d[i]! d[i - 1]! = false) : Go.Sort.scanSorted lt d b (i + 1) = Go.Sort.scanSorted lt d b i := by
  rw [Go.Sort.scanSorted.eq_def lt d b i, if_pos (by simp [h, h2])]
theorem ss_end {d : Array α} {b i : Nat} (h : ¬ i < b) : i = Go.Sort.scanSorted lt d b i := by
  rw [Go.Sort.scanSorted, if_neg (by simp; omega)]
theorem ss_no {d : Array α} {b i : Nat} (h2 : lt d[i]! d[i - 1]! = true) : i = Go.Sort.scanSorted lt d b i := by
  rw [Go.Sort.scanSorted, if_neg (by simp [h2])]
theorem sd_go {j : Nat} {d : Array α} (h2 : lt d[j + 1]! d[j]! = true) : Go.Sort.shiftDown lt j (Go.Sort.swp d (j + 1) j) = Go.Sort.shiftDown lt (j + 1) d := by
  rw [Go.Sort.shiftDown.eq_def lt (j + 1) d]; simp only []; rw [if_neg (by simp [h2])]
theorem sd_no {j : Nat} {d : Array α} (h2 : lt d[j + 1]! d[j]! = false) : d = Go.Sort.shiftDown lt (j + 1) d := by
  rw [Go.Sort.shiftDown]; rw [if_pos (by simp [h2])]
theorem su_go {b j : Nat} {d : Array α} (h : j < b) (h2 : lt d[j]! d[j - 1]! = true) : Go.Sort.shiftUp lt b (j + 1) (Go.Sort.swp d j (j - 1)) = Go.Sort.shiftUp lt b j d := by
  rw [Go.Sort.shiftUp.eq_def lt b j d, if_pos h, if_neg (by simp [h2])]
theorem su_no {b j : Nat} {d : Array α} (h2 : lt d[j]! d[j - 1]! = false) : d = Go.Sort.shiftUp lt b j d := by
  rw [Go.Sort.shiftUp]; split
  · rw [if_pos (by simp [h2])]
  · rfl
theorem su_end {b j : Nat} {d : Array α} (h : ¬ j < b) : d = Go.Sort.shiftUp lt b j d := by
  rw [Go.Sort.shiftUp, if_neg h]
theorem rev_go {i j : Nat} {d : Array α} (h : i < j) : Go.Sort.reverseLoop (i + 1) (j - 1) (Go.Sort.swp d i j) = Go.Sort.reverseLoop i j d := by
  rw [Go.Sort.reverseLoop.eq_def i j d, if_pos h]
theorem rev_end {i j : Nat} {d : Array α} (h : ¬ i < j) : d = Go.Sort.reverseLoop i j d := by
  rw [Go.Sort.reverseLoop, if_neg h]
end
end Srt
end Go.Proofs.Ytgidjbpgkeemiaa
namespace Go.Proofs.Ytgidjbpgkeemiaa
open Go.RowKit
open Mv
set_option linter.unusedVariables false
namespace Srt
open Go.Sort (swp scanUp scanDown partLoop partition partEqLoop partitionEqual)
theorem nt_ {p : Bool} (h : (!p) = true) : p = false := by cases p <;> simp_all
theorem nf_ {p : Bool} (h : (!p) = false) : p = true := by cases p <;> simp_all
def ltN (x y : Nat) : Bool := decide (x < y)
theorem lq_ {α : Type} {cf : α → α → Int} {x y : α} : lq cf x y = decide (cf x y < 0) := rfl
def PartR (α : Type) [Inhabited α] (M : Array α → Mem) (okP : α → Prop) (n : Nat) (q : Nat × Bool × Array α) (a e : Nat) (r : Value) (S' : Mem) : Prop :=
  r = .tuple #[.int .i64 (q.1 : Int), .bool q.2.1] ∧ S' = M q.2.2 ∧ Rw okP n q.2.2 ∧ a ≤ q.1 ∧ q.1 < e
def PartEqR (α : Type) [Inhabited α] (M : Array α → Mem) (okP : α → Prop) (n : Nat) (q : Nat × Array α) (a e : Nat) (r : Value) (S' : Mem) : Prop :=
  r = .int .i64 (q.1 : Int) ∧ S' = M q.2 ∧ Rw okP n q.2 ∧ a < q.1 ∧ q.1 ≤ e
section
variable {α : Type} [Inhabited α] (lt : α → α → Bool)
theorem part_res1 {M : Array α → Mem} {okP : α → Prop} {n a p J i j : Nat} {d d0 : Array α} (hd : d0 = swp d a p) (hU : i = scanUp (fun x => lt x d0[a]!) d0 J (a + 1)) (hD : j = scanDown (fun x => !lt x d0[a]!) d0 i J) (hx : j < i)
    (R : Rw okP n (swp d0 j a)) (h1 : a ≤ j) (h2 : j ≤ J) : PartR α M okP n (partition lt d a (J + 1) p) a (J + 1) (.tuple #[.int .i64 (j : Int), .bool true]) (M (swp d0 j a)) := by
  have e : partition lt d a (J + 1) p = (j, true, swp d0 j a) := by
    unfold partition
    simp only [Nat.add_sub_cancel, ← hd, ← hU, ← hD]
    rw [if_pos hx]
  rw [e]; exact ⟨rfl, rfl, R, h1, by show j < J + 1; omega⟩
theorem part_res2 {M : Array α → Mem} {okP : α → Prop} {n a p J i j j3 : Nat} {d d0 d3 : Array α} (hd : d0 = swp d a p) (hU : i = scanUp (fun x => lt x d0[a]!) d0 J (a + 1)) (hD : j = scanDown (fun x => !lt x d0[a]!) d0 i J) (hx : ¬ j < i)
    (h3 : (j3, d3) = partLoop lt a (i + 1) (j - 1) (swp d0 i j)) (R : Rw okP n (swp d3 j3 a)) (h1 : a ≤ j3) (h2 : j3 ≤ J) : PartR α M okP n (partition lt d a (J + 1) p) a (J + 1) (.tuple #[.int .i64 (j3 : Int), .bool false]) (M (swp d3 j3 a)) := by
  have e : partition lt d a (J + 1) p = (j3, false, swp d3 j3 a) := by
    unfold partition
    simp only [Nat.add_sub_cancel, ← hd, ← hU, ← hD]
    rw [if_neg hx, ← h3]
  rw [e]; exact ⟨rfl, rfl, R, h1, by show j3 < J + 1; omega⟩
theorem parteq_res {M : Array α → Mem} {okP : α → Prop} {n a p J i : Nat} {d d0 d3 : Array α} (hd : d0 = swp d a p) (h3 : (i, d3) = partEqLoop lt a (a + 1) J d0) (R : Rw okP n d3) (h1 : a + 1 ≤ i) (h2 : i ≤ J + 1) :
    PartEqR α M okP n (partitionEqual lt d a (J + 1) p) a (J + 1) (.int .i64 (i : Int)) (M d3) := by
  have e : partitionEqual lt d a (J + 1) p = (i, d3) := by
    unfold partitionEqual
    rw [Nat.add_sub_cancel, ← hd, ← h3]
  rw [e]; exact ⟨rfl, rfl, R, h1, h2⟩
end
end Srt
end Go.Proofs.Ytgidjbpgkeemiaa
namespace Go.Proofs.Ytgidjbpgkeemiaa
open Go.RowKit
open Mv Srt
set_option linter.unusedVariables false
set_option linter.unusedSimpArgs false
set_option maxRecDepth 4000
theorem bitLen_bits (x : Nat) (h : x < 2 ^ 64) : Lib.bitLen x = Go.Sort.bitsLen x := by
  induction x using Nat.strongRecOn with
  | _ x ih =>
    by_cases h0 : x = 0
    · subst h0; rfl
    · rw [Lib.bitLen_half x h0 h, ih (x / 2) (by omega) (by omega)]
      unfold Go.Sort.bitsLen
      rw [if_neg h0, Nat.log2_def x]
      by_cases h2 : 2 ≤ x
      · rw [if_pos h2, if_neg (by omega)]; omega
      · obtain rfl : x = 1 := by omega
        simp
theorem so_Len (x : Nat) (hx : x < 9223372036854775808) (S : Mem) : ACall Try.prog 122 #[.int .u64 (x : Int)] S fun r S' => r = .int .i64 (Go.Sort.bitsLen x : Nat) ∧ S' = S := by
  refine ACall.of_same fun w => ?_
  have h := Try.bits_Len (x : Int) w (by omega) (by omega)
  rw [Int.toNat_natCast, bitLen_bits x (by omega)] at h
  exact h
theorem bitsLen_small (L : Nat) (h : L ≤ 1048576) : Go.Sort.bitsLen L ≤ 21 := (Go.Sort.bitsLen_le_iff L 21).2 (by omega)
set_option maxHeartbeats 1000000 in
theorem so_pow (iL : Int) (L : Nat) (eL : iL = L) (hL : L ≤ 1048576) (S : Mem) : ACall Try.prog 179 #[.int .i64 iL] S fun r S' => r = .int .u64 ((1 <<< Go.Sort.bitsLen L : Nat) : Int) ∧ S' = S := by
  subst eL
  have hb := bitsLen_small L hL
  have hp : IntKind.u64.wrap (1 * 2 ^ ((Go.Sort.bitsLen L : Nat) : Int).toNat) = ((1 <<< Go.Sort.bitsLen L : Nat) : Int) := by
    rw [Int.toNat_natCast, Nat.one_shiftLeft, Int.one_mul]
    have h1 : (2 : Nat) ^ Go.Sort.bitsLen L ≤ 2 ^ 21 := Nat.pow_le_pow_right (by omega) hb
    have h2 : ((2 : Int) ^ Go.Sort.bitsLen L) = ((2 ^ Go.Sort.bitsLen L : Nat) : Int) := by simp
    rw [h2]
    generalize 2 ^ Go.Sort.bitsLen L = M at *
    exact IntWalk.u64_in _ (by omega)
  generalize hK : Go.Sort.bitsLen L = K at *
  refine ACall.enter (args := [.int .i64 L]) (rs := [.tmp 2]) 7 [(0, .int .i64 L)] Try.func179 rfl rfl (Nat.le_of_ble_eq_true rfl) rfl ⟨rfl, trivial⟩ ?_
  refine AWP.seq ?_
  refine AWP.region ?_
  refine rC (Calm.assign rfl) ?_
  refine arun_nil ?_
  refine athen_n ?_
  refine AWP.seq ?_
  refine AWP.region ?_
  refine rC (Calm.move rfl) ?_
  refine rC (Calm.conv rfl (by first | exact conv_intW Try.underlying3 Try.underlying139 (IntWalk.u64_in _ (by omega)) | exact conv_int Try.underlying3 Try.underlying139)) ?_
  refine ARun.call (lit_lt rfl) go_122 rfl ((hK ▸ so_Len L (by omega) S)) ?_
  rintro _ S1 ⟨rfl, h1⟩
  rw [h1]; clear h1 S1
  refine rC (Calm.as (congrArg (Value.int .u64) hp) (Calm.bin rfl rfl (bin_shl (by omega) (by show ((K : Nat) : Int) ≤ 64; omega)))) ?_
  refine rC (Calm.assign rfl) ?_
  refine arun_nil ?_
  refine athen_n ?_
  refine AWP.sub [(0, _), (2, _)] ⟨rfl, rfl, trivial⟩ ?_
  refine AWP.ret ?_
  refine ⟨_, S, ⟨_, _, rfl, rfl, rfl⟩, less_, ?_⟩
  exact ⟨rfl, rfl⟩
theorem xor_nat64 (a b : Nat) (ha : a < 18446744073709551616) (hb : b < 18446744073709551616) : bits .xor .u64 (a : Int) (b : Int) = ((a ^^^ b : Nat) : Int) := by
  have h : a ^^^ b < 2 ^ 64 := Nat.xor_lt_two_pow (by omega) (by omega)
  show IntKind.u64.wrap (((BitVec.ofInt 64 (a : Int)) ^^^ (BitVec.ofInt 64 (b : Int))).toNat : Int) = _
  rw [BitVec.ofInt_natCast, BitVec.ofInt_natCast, BitVec.toNat_xor, BitVec.toNat_ofNat, BitVec.toNat_ofNat, Nat.mod_eq_of_lt (by omega), Nat.mod_eq_of_lt (by omega)]
  exact IntWalk.u64_in _ (by omega)
theorem wrap_u64 (n : Nat) : IntKind.u64.wrap (n : Int) = ((n % 18446744073709551616 : Nat) : Int) := by
  simp [IntKind.wrap, IntKind.bits, IntKind.signed]
def xorB (x : Nat) : Blk := ⟨188, [.int .u64 (x : Int)], 1⟩
set_option maxHeartbeats 1000000 in
theorem so_next (c : Nat) (r : UInt64) (S : Mem) (hc : Fresh S c) :
    ACall Try.prog 180 #[.pointer (some ⟨c, 0, none⟩)] (S.set c (xorB r.toNat)) fun v S' => v = .int .u64 (((Go.Sort.xorNext r).toNat : Nat) : Int) ∧ S' = S.set c (xorB (Go.Sort.xorNext r).toNat) := by
  have hx : r.toNat < 18446744073709551616 := r.toNat_lt
  rw [Go.Sort.xorNext_toNat]
  unfold Go.Sort.xorNextN
  generalize r.toNat = x at *
  have p : (18446744073709551616 : Nat) = 2 ^ 64 := by decide
  obtain ⟨y, hy⟩ : ∃ y, y = x ^^^ (x * 8192 % 18446744073709551616) := ⟨_, rfl⟩
  have y1 : y < 18446744073709551616 := by rw [hy, p]; exact Nat.xor_lt_two_pow (by omega) (by omega)
  obtain ⟨z, hz⟩ : ∃ z, z = y ^^^ (y / 128) := ⟨_, rfl⟩
  have z1 : z < 18446744073709551616 := by rw [hz, p]; exact Nat.xor_lt_two_pow (by omega) (by omega)
  have e1 : ∀ (t : TypeId) (a b : Operand), Bin Try.prog .shl t a b (.int .u64 (x : Int)) (.int .u64 13) (.int .u64 ((x * 8192 % 18446744073709551616 : Nat) : Int)) := fun t a b => by
    have h := bin_shl (P := Try.prog) (t := t) (x := a) (y := b) (k := .u64) (k' := .u64) (a := (x : Int)) (b := 13) (by decide) (by decide)
    have e : IntKind.u64.wrap ((x : Int) * 2 ^ (13 : Int).toNat) = ((x * 8192 % 18446744073709551616 : Nat) : Int) := wrap_u64 (x * 8192)
    rw [e] at h; exact h
  have e2 : ∀ (t : TypeId) (a b : Operand), Bin Try.prog .shr t a b (.int .u64 (y : Int)) (.int .u64 7) (.int .u64 ((y / 128 : Nat) : Int)) := fun t a b =>
    bin_shr (P := Try.prog) (t := t) (x := a) (y := b) (k := .u64) (k' := .u64) (a := (y : Int)) (b := 7) (by decide) (by decide)
  have e3 : ∀ (t : TypeId) (a b : Operand), Bin Try.prog .shl t a b (.int .u64 (z : Int)) (.int .u64 17) (.int .u64 ((z * 131072 % 18446744073709551616 : Nat) : Int)) := fun t a b => by
    have h := bin_shl (P := Try.prog) (t := t) (x := a) (y := b) (k := .u64) (k' := .u64) (a := (z : Int)) (b := 17) (by decide) (by decide)
    have e : IntKind.u64.wrap ((z : Int) * 2 ^ (17 : Int).toNat) = ((z * 131072 % 18446744073709551616 : Nat) : Int) := wrap_u64 (z * 131072)
    rw [e] at h; exact h
  have x1 := xor_nat64 x (x * 8192 % 18446744073709551616) hx (Nat.mod_lt _ (by decide))
  have x2 := xor_nat64 y (y / 128) y1 (by omega)
  have x3 := xor_nat64 z (z * 131072 % 18446744073709551616) z1 (Nat.mod_lt _ (by decide))
  rw [← hy] at x1
  rw [← hz] at x2
  simp only [← hy, ← hz]
  clear hy hz
  unfold xorB
  refine ACall.enter (args := [.pointer (some ⟨c, 0, none⟩)]) (rs := [.tmp 2]) 33 [(0, .pointer (some ⟨c, 0, none⟩))] Try.func180 rfl rfl (Nat.le_of_ble_eq_true rfl) rfl ⟨rfl, trivial⟩ ?_
  refine AWP.seq ?_
  refine AWP.region ?_
  refine rC (Calm.assign rfl) ?_
  refine arun_nil ?_
  refine athen_n ?_
  refine AWP.seq ?_
  refine AWP.draw [(0, true), (1, true), (2, true), (3, true), (4, true), (5, true), (6, true), (7, true), (8, true), (9, false)] [9] mixed (by kernel_rfl) ?_
  refine dP (hc := fun _ => Calm.move rfl) (h := ?_)
  refine dP (hc := fun _ => Calm.nilCheck rfl) (h := ?_)
  refine dC (hc := ld_ ty_plain_188 rfl) (h := ?_)
  refine dP (hc := fun _ => Calm.move rfl) (h := ?_)
  refine dP (hc := fun _ => Calm.nilCheck rfl) (h := ?_)
  refine dC (hc := ld_ ty_plain_188 rfl) (h := ?_)
  refine dP (hc := fun _ => Calm.bin rfl rfl (e1 _ _ _)) (h := ?_)
  refine dP (hc := fun _ => Calm.bin rfl rfl (bin_xorE x1)) (h := ?_)
  refine dP (hc := fun _ => Calm.nilCheck rfl) (h := ?_)
  refine draw_only rfl ?_
  refine ARun.store1 rfl rfl ty_size_188 rfl own_ lens_ rfl ?_
  (try simp only [Mem.set_set, List.set_cons_zero, List.set_cons_succ, Nat.zero_add, Nat.reduceAdd])
  refine arun_nil ⟨fun h => absurd h (by decide), ?_⟩
  refine draw_nil ?_
  refine athen_n ?_
  refine AWP.sub [(0, _), (2, _)] ⟨rfl, rfl, trivial⟩ ?_
  refine AWP.seq ?_
  refine AWP.draw [(0, true), (1, true), (2, true), (3, true), (4, true), (5, true), (6, true), (7, true), (8, true), (9, false)] [9] mixed (by kernel_rfl) ?_
  refine dP (hc := fun _ => Calm.move rfl) (h := ?_)
  refine dP (hc := fun _ => Calm.nilCheck rfl) (h := ?_)
  refine dC (hc := ld_ ty_plain_188 rfl) (h := ?_)
  refine dP (hc := fun _ => Calm.move rfl) (h := ?_)
  refine dP (hc := fun _ => Calm.nilCheck rfl) (h := ?_)
  refine dC (hc := ld_ ty_plain_188 rfl) (h := ?_)
  refine dP (hc := fun _ => Calm.bin rfl rfl (e2 _ _ _)) (h := ?_)
  refine dP (hc := fun _ => Calm.bin rfl rfl (bin_xorE x2)) (h := ?_)
  refine dP (hc := fun _ => Calm.nilCheck rfl) (h := ?_)
  refine draw_only rfl ?_
  refine ARun.store1 rfl rfl ty_size_188 rfl own_ lens_ rfl ?_
  (try simp only [Mem.set_set, List.set_cons_zero, List.set_cons_succ, Nat.zero_add, Nat.reduceAdd])
  refine arun_nil ⟨fun h => absurd h (by decide), ?_⟩
  refine draw_nil ?_
  refine athen_n ?_
  refine AWP.sub [(0, _), (2, _)] ⟨rfl, rfl, trivial⟩ ?_
  refine AWP.seq ?_
  refine AWP.draw [(0, true), (1, true), (2, true), (3, true), (4, true), (5, true), (6, true), (7, true), (8, true), (9, false)] [9] mixed (by kernel_rfl) ?_
  refine dP (hc := fun _ => Calm.move rfl) (h := ?_)
  refine dP (hc := fun _ => Calm.nilCheck rfl) (h := ?_)
  refine dC (hc := ld_ ty_plain_188 rfl) (h := ?_)
  refine dP (hc := fun _ => Calm.move rfl) (h := ?_)
  refine dP (hc := fun _ => Calm.nilCheck rfl) (h := ?_)
  refine dC (hc := ld_ ty_plain_188 rfl) (h := ?_)
  refine dP (hc := fun _ => Calm.bin rfl rfl (e3 _ _ _)) (h := ?_)
  refine dP (hc := fun _ => Calm.bin rfl rfl (bin_xorE x3)) (h := ?_)
  refine dP (hc := fun _ => Calm.nilCheck rfl) (h := ?_)
  refine draw_only rfl ?_
  refine ARun.store1 rfl rfl ty_size_188 rfl own_ lens_ rfl ?_
  (try simp only [Mem.set_set, List.set_cons_zero, List.set_cons_succ, Nat.zero_add, Nat.reduceAdd])
  refine arun_nil ⟨fun h => absurd h (by decide), ?_⟩
  refine draw_nil ?_
  refine athen_n ?_
  refine AWP.sub [(0, _), (2, _)] ⟨rfl, rfl, trivial⟩ ?_
  refine AWP.seq ?_
  refine AWP.region ?_
  refine rC (Calm.move rfl) ?_
  refine rC (Calm.nilCheck rfl) ?_
  refine rC (ld_ ty_plain_188 rfl) ?_
  refine rC (Calm.assign rfl) ?_
  refine arun_nil ?_
  refine athen_n ?_
  refine AWP.sub [(0, _), (2, _)] ⟨rfl, rfl, trivial⟩ ?_
  refine AWP.ret ?_
  refine ⟨_, _, ⟨_, _, rfl, rfl, rfl⟩, Mem.Less.refl _, ?_⟩
  exact ⟨rfl, rfl⟩
end Go.Proofs.Ytgidjbpgkeemiaa
