/-
  A view of memory, the second part: the operations, calls, what a function returns. No program in sight.
-/
import Derived.Test.YtddabbfjoejalaaView
import Derived.BigCall
namespace Go.Proofs.Ytddabbfjoejalaa
open Go.RowKit
set_option linter.unusedVariables false
namespace Mv
theorem addr_add (b o j : Nat) : (⟨b, o, none⟩ : Addr).add j = ⟨b, o + j, none⟩ := by unfold Addr.add; split <;> simp_all
theorem rd_set_same (S : Mem) (b j : Nat) (r : Blk) : (S.set b r).rd ⟨b, j, none⟩ = r.cells[j]? := by simp [Mem.rd, Mem.set]
theorem rd_set_ne (S : Mem) {b : Nat} (r : Blk) {a : Addr} (h : a.block ≠ b) : (S.set b r).rd a = S.rd a := by simp [Mem.rd, Mem.set, h]
theorem rd_own {S : Mem} {b : Nat} {r : Blk} (h : S.own b = some r) (j : Nat) : S.rd ⟨b, j, none⟩ = r.cells[j]? := by simp [Mem.rd, h]
/-- Nothing of the memory that is known lies in block b. -/
def Fresh (S : Mem) (b : Nat) : Prop := S.own b = none ∧ ∀ a v, S.ro a = some v → a.block ≠ b
theorem Fresh.own {S : Mem} {b : Nat} (h : Fresh S b) : S.own b = none := h.1
theorem Fresh.ne {S : Mem} {b p : Nat} {r : Blk} (h : Fresh S b) (hp : S.own p = some r) : p ≠ b := fun e => by subst e; rw [h.1] at hp; cases hp
theorem Fresh.ne' {S : Mem} {b p : Nat} {r : Blk} (h : Fresh S b) (hp : S.own p = some r) : b ≠ p := (h.ne hp).symm
theorem Fresh.ne_rd {S : Mem} {b : Nat} {a : Addr} {v : Value} (h : Fresh S b) (hp : S.rd a = some v) : a.block ≠ b := fun e => by
  unfold Mem.rd at hp
  rw [e, h.1] at hp
  exact h.2 a v hp e
theorem View.freshAt {S : Mem} {w : World} (h : View S w) : Fresh S w.heap.size := ⟨h.fresh, fun a v ha e => by
  have := World.block_lt_of_cell? _ _ (h.ro a v ha).1
  omega⟩
theorem Fresh.less {S S' : Mem} {b : Nat} (h : Fresh S b) (hl : S'.Less S) : Fresh S' b := by
  refine ⟨?_, fun a v ha => h.2 a v (by rw [← hl.2]; exact ha)⟩
  cases e : S'.own b with
  | none => rfl
  | some r => have := hl.1 _ _ e; rw [h.1] at this; cases this
theorem fresh_set {S : Mem} {b c : Nat} {r : Blk} (h : Fresh (S.set c r) b) : Fresh S b ∧ b ≠ c := by
  obtain ⟨h1, h2⟩ := h
  have hne : b ≠ c := fun e => by subst e; simp [Mem.set] at h1
  exact ⟨⟨by simpa [Mem.set, hne] using h1, h2⟩, hne⟩

/-! ### What a type is -/
def plainT (P : Program) (T : TypeId) : Bool := match P.underlying T with | none => false | some (.struct _) | some (.array _ _) => false | some _ => true
def aggT (P : Program) (T : TypeId) : Bool := match P.underlying T with | some (.struct _) | some (.array _ _) => true | _ => false
def sizeT (P : Program) (T : TypeId) : Option Nat := (P.info? T).map (·.size)
def fieldT (P : Program) (T : TypeId) (f : Nat) : Option (Nat × Nat) := match P.underlying T with
  | some (.struct fs) => match (fs[f]? : Option Field) with
    | some g => match P.info? g.type with
      | some i => some (g.offset, i.size)
      | none => none
    | none => none
  | _ => none
theorem run_isAgg_f {P : Program} {T : TypeId} (h : plainT P T = true) (w : World) : (isAgg T).run P w = .ok false w := by
  unfold plainT at h
  cases e : P.underlying T with
  | none => simp [e] at h
  | some d =>
    unfold isAgg
    rw [Sem.run_bind, run_underlying e w]
    cases d <;> simp_all
theorem run_isAgg_t {P : Program} {T : TypeId} (h : aggT P T = true) (w : World) : (isAgg T).run P w = .ok true w := by
  unfold aggT at h
  cases e : P.underlying T with
  | none => simp [e] at h
  | some d =>
    unfold isAgg
    rw [Sem.run_bind, run_underlying e w]
    cases d <;> simp_all
theorem run_sizeT {P : Program} {T : TypeId} {n : Nat} (h : sizeT P T = some n) (w : World) : (sizeOf T).run P w = .ok n w := by
  unfold sizeT at h
  cases e : P.info? T with
  | none => simp [e] at h
  | some i => simp [e] at h; simp [sizeOf, typeInfo, e, h]

section
variable {P : Program} {N : Nat} {ops : Array Oper} {E : Env} {S : Mem} {K : Env → Mem → Prop}
/-- An operation that only looks. -/
def ACalm (P : Program) (N : Nat) (o : Oper) (E : Env) (S : Mem) (v : Value) : Prop := ∀ a w, Good N E a → View S w → (execOp a.eval o).run P w = .ok (.value v) w
theorem ARun.calm {o : Oper} {os : List Oper} {d : Nat} {v : Value} (hg : o.guard = none) (hd : o.dst = some d) (hn : d < N) (hc : ACalm P N o E S v) (h : ARun P N ops os K ((d, v) :: E) S) : ARun P N ops (o :: os) K E S := fun a w g hv => by
  rw [if_pos (by simp [Region.wanted, hg])]
  unfold Oper.wp
  rw [hc a w g hv]
  exact ⟨_, _, h, by rw [hd]; exact g.put hn v, Step.refl hv⟩
theorem yielded_of {N : Nat} {E : Env} {a : Act} (g : Good N E a) {j d : Nat} {og : Oper} (hj : ops[j]? = some og) (hd : og.dst = some d) (hn : d < N) {b : Bool} (hb : lk E d = some (.bool b)) : yielded ops a.tmps j = some b := by
  have h1 := g.at_ d _ hb
  have h2 : a.tmps[d]? = some (Value.bool b) := by
    rw [Array.getD_eq_getD_getElem?] at h1
    have : d < a.tmps.size := by rw [g.size]; exact hn
    rw [Array.getElem?_eq_getElem this] at h1 ⊢
    simpa using h1
  simp [yielded, hj, hd, h2]
/-- A guarded operation that runs. -/
theorem ARun.calmG {o : Oper} {os : List Oper} {d : Nat} {v : Value} (j : Nat) (t : Bool) (dj : Nat) (hg : o.guard = some (j, t)) (hj : (ops[j]?).bind (·.dst) = some dj) (hjn : dj < N) (hb : lk E dj = some (.bool t)) (hd : o.dst = some d) (hn : d < N) (hc : ACalm P N o E S v) (h : ARun P N ops os K ((d, v) :: E) S) : ARun P N ops (o :: os) K E S := fun a w g hv => by
  cases e : ops[j]? with
  | none => simp [e] at hj
  | some og =>
    simp [e] at hj
    rw [if_pos (by simp [Region.wanted, hg, yielded_of g e hj hjn hb])]
    unfold Oper.wp
    rw [hc a w g hv]
    exact ⟨_, _, h, by rw [hd]; exact g.put hn v, Step.refl hv⟩
/-- A guarded operation that is passed over. -/
theorem ARun.skipG {o : Oper} {os : List Oper} {d : Nat} (j : Nat) (t u : Bool) (dj : Nat) (hg : o.guard = some (j, t)) (hj : (ops[j]?).bind (·.dst) = some dj) (hjn : dj < N) (hb : lk E dj = some (.bool u)) (hne : (u == t) = false) (hd : o.dst = some d) (hn : d < N) (h : ARun P N ops os K ((d, undef) :: E) S) : ARun P N ops (o :: os) K E S := fun a w g hv => by
  cases e : ops[j]? with
  | none => simp [e] at hj
  | some og =>
    simp [e] at hj
    rw [if_neg (by simp [Region.wanted, hg, yielded_of g e hj hjn hb]; intro x; subst x; simp at hne)]
    exact ⟨_, _, h, by rw [hd]; exact g.put hn _, Step.refl hv⟩

/-! #### Operations that only look -/
variable {dst : Option Nat} {ty : TypeId} {pos : String} {aft : Array Edge} {gd : Option (Nat × Bool)}
theorem Calm.move {x : Operand} {v : Value} (hx : ev E x = some v) : ACalm P N ⟨dst, .move x, ty, pos, aft, gd⟩ E S v := fun a w g hv => by
  simp [execOp, g.ev hx]
theorem Calm.assign {x : Operand} {v : Value} (hx : ev E x = some v) : ACalm P N ⟨dst, .assign x, ty, pos, aft, gd⟩ E S v := fun a w g hv => by
  simp [execOp, g.ev hx]
theorem Calm.pickT {c x y : Operand} {v : Value} (hc : ev E c = some (.bool true)) (hx : ev E x = some v) : ACalm P N ⟨dst, .pick c x y, ty, pos, aft, gd⟩ E S v := fun a w g hv => by
  simp [execOp, g.ev hc, g.ev hx, asBool]
theorem Calm.pickF {c x y : Operand} {v : Value} (hc : ev E c = some (.bool false)) (hx : ev E y = some v) : ACalm P N ⟨dst, .pick c x y, ty, pos, aft, gd⟩ E S v := fun a w g hv => by
  simp [execOp, g.ev hc, g.ev hx, asBool]
/-- The value of an operator, in whatever world. -/
def Bin (P : Program) (op : BinOp) (xt : TypeId) (x y : Operand) (vx vy v : Value) : Prop := ∀ w, (do eqGuard op xt x y vx vy; binOp op xt vx vy : Sem Value).run P w = .ok v w
theorem Calm.bin {op : BinOp} {xt yt : TypeId} {x y : Operand} {vx vy v : Value} (hx : ev E x = some vx) (hy : ev E y = some vy) (h : Bin P op xt x y vx vy v) : ACalm P N ⟨dst, .binOp op xt x y yt, ty, pos, aft, gd⟩ E S v := fun a w g hv => by
  have := h w
  simp only [execOp, g.ev hx, g.ev hy]
  rw [Sem.run_bind, this]
  rfl
def Una (P : Program) (op : UnOp) (vx v : Value) : Prop := ∀ w, (Op.unary op vx).run P w = .ok v w
theorem Calm.un {op : UnOp} {xt : TypeId} {x : Operand} {vx v : Value} (hx : ev E x = some vx) (h : Una P op vx v) : ACalm P N ⟨dst, .unOp op xt x, ty, pos, aft, gd⟩ E S v := fun a w g hv => by
  simp only [execOp, g.ev hx]
  rw [Sem.run_bind, h w]
  rfl
def Conv (P : Program) (src dst : TypeId) (vx v : Value) : Prop := ∀ w, (convert src dst vx).run P w = .ok v w
theorem Calm.conv {s t : TypeId} {x : Operand} {vx v : Value} (hx : ev E x = some vx) (h : Conv P s t vx v) : ACalm P N ⟨dst, .convert s t x, ty, pos, aft, gd⟩ E S v := fun a w g hv => by
  simp only [execOp, g.ev hx]
  rw [Sem.run_bind, h w]
  rfl
theorem Calm.extract {x : Operand} {i : Nat} {vs : Array Value} {v : Value} (hx : ev E x = some (.tuple vs)) (h : vs[i]? = some v) : ACalm P N ⟨dst, .extract x i, ty, pos, aft, gd⟩ E S v := fun a w g hv => by
  simp [execOp, g.ev hx, Instr.extract, h]
theorem Calm.nilCheck {x : Operand} {a : Addr} (hx : ev E x = some (.pointer (some a))) : ACalm P N ⟨dst, .nilCheck x, ty, pos, aft, gd⟩ E S (.pointer (some a)) := fun a w g hv => by
  simp [execOp, g.ev hx]
theorem Calm.load {T : TypeId} {x : Operand} {a : Addr} {v : Value} (hT : plainT P T = true) (hx : ev E x = some (.pointer (some a))) (hr : S.rd a = some v) : ACalm P N ⟨dst, .load T x, ty, pos, aft, gd⟩ E S v := fun c w g hv => by
  simp [execOp, g.ev hx, Instr.loadAt, Instr.sureAddr, loadVar, run_isAgg_f hT w, hv.rd hr]
/-- So many cells from an address on. -/
def Mem.rds (S : Mem) (a : Addr) (cs : List Value) : Prop := ∀ j v, cs[j]? = some v → S.rd (a.add j) = some v
theorem rds_nil (S : Mem) (a : Addr) : S.rds a [] := fun j v h => by simp at h
theorem rds_cons {S : Mem} {b o : Nat} {v : Value} {cs : List Value} (h : S.rd ⟨b, o, none⟩ = some v) (hs : S.rds ⟨b, o + 1, none⟩ cs) : S.rds ⟨b, o, none⟩ (v :: cs) := fun j u hj => by
  cases j with
  | zero => simp at hj; subst hj; rw [addr_add]; exact h
  | succ j => simp at hj; have := hs j u hj; rw [addr_add] at this ⊢; rw [show o + (j + 1) = o + 1 + j from by omega]; exact this
theorem rds_own {S : Mem} {b : Nat} {r : Blk} (h : S.own b = some r) : S.rds ⟨b, 0, none⟩ r.cells := fun j v hj => by
  rw [addr_add, rd_own h, Nat.zero_add]; exact hj
theorem View.rds {w : World} (h : View S w) {a : Addr} {cs : List Value} (hr : S.rds a cs) : (loadCells a cs.length).run P w = .ok cs.toArray w :=
  run_loadCells_list w a cs fun j v hj => h.rd (hr j v hj)
theorem Calm.loadA {T : TypeId} {x : Operand} {a : Addr} {cs : List Value} (hT : aggT P T = true) (hs : sizeT P T = some cs.length) (hx : ev E x = some (.pointer (some a))) (hr : S.rds a cs) : ACalm P N ⟨dst, .load T x, ty, pos, aft, gd⟩ E S (.agg cs.toArray) := fun c w g hv => by
  simp [execOp, g.ev hx, Instr.loadAt, Instr.sureAddr, loadVar, run_isAgg_t hT w, run_sizeT hs w, hv.rds (P := P) hr]
theorem Calm.fieldAddr {T : TypeId} {x : Operand} {f b o off n : Nat} (hf : fieldT P T f = some (off, n + 1)) (hx : ev E x = some (.pointer (some ⟨b, o, none⟩))) : ACalm P N ⟨dst, .fieldAddr T x f, ty, pos, aft, gd⟩ E S (.pointer (some ⟨b, o + off, none⟩)) := fun c w g hv => by
  unfold fieldT at hf
  cases e : P.underlying T with
  | none => simp [e] at hf
  | some d =>
    cases d <;> simp [e] at hf
    rename_i fs
    cases e1 : fs[f]? with
    | none => simp [e1] at hf
    | some gf =>
      simp [e1] at hf
      cases e2 : P.info? gf.type with
      | none => simp [e2] at hf
      | some i =>
        simp [e2] at hf
        simp [execOp, g.ev hx, Instr.fieldAt, run_underlying e w, e1, Instr.sureAddr, fieldPlace, sizeOf, typeInfo, e2, hf.2, addr_add, hf.1]
/-- An index of a slice. -/
theorem Calm.indexS {T e : TypeId} {x i : Operand} {b o len cap n : Nat} {k : IntKind} {j : Int} (hT : P.underlying T = some (.slice e)) (he : sizeT P e = some n) (hx : ev E x = some (.slice (some ⟨b, o, none⟩) len cap)) (hi : ev E i = some (.int k j)) (h0 : 0 ≤ j) (h1 : j < len) :
    ACalm P N ⟨dst, .indexAddr T x i, ty, pos, aft, gd⟩ E S (.pointer (some ⟨b, o + j.toNat * n, none⟩)) := fun c w g hv => by
  simp [execOp, g.ev hx, g.ev hi, Instr.indexAt, asIntOf, run_underlying hT w, run_sizeT he w, h0, h1, addr_add]
/-- An index of an array behind a pointer. -/
theorem Calm.indexP {T e : TypeId} {x i : Operand} {b o len n : Nat} {k : IntKind} {j : Int} (hT : P.underlying T = some (.array len e)) (he : sizeT P e = some n) (hx : ev E x = some (.pointer (some ⟨b, o, none⟩))) (hi : ev E i = some (.int k j)) (h0 : 0 ≤ j) (h1 : j < len) :
    ACalm P N ⟨dst, .indexAddr T x i, ty, pos, aft, gd⟩ E S (.pointer (some ⟨b, o + j.toNat * n, none⟩)) := fun c w g hv => by
  simp [execOp, g.ev hx, g.ev hi, Instr.indexAt, asIntOf, run_underlying hT w, run_sizeT he w, h0, h1, addr_add, Instr.sureAddr]
/-- A byte of a text. -/
theorem Calm.indexStr {T : TypeId} {x i : Operand} {s : ByteArray} {k : IntKind} {j : Int} (hT : P.underlying T = some .string) (hx : ev E x = some (.string s)) (hi : ev E i = some (.int k j)) (h0 : 0 ≤ j) (h1 : j < s.size) :
    ACalm P N ⟨dst, .index T x i, ty, pos, aft, gd⟩ E S (.int .u8 (nb (at8 s.data.toList j.toNat))) := fun c w g hv => by
  have hlt : j.toNat < s.size := by omega
  have e := at8_str s j.toNat hlt
  simp [execOp, g.ev hx, g.ev hi, Instr.index, asIntOf, run_underlying hT w, h0, hlt, ← e]
/-- A piece of a text. -/
theorem bound_in {x : Value} {k : IntKind} {j : Int} (y : Nat) (c : BoundsCode) (h : x = .int k j) (h0 : 0 ≤ j) (h1 : j ≤ y) (w : World) : (Instr.sliceBound x y c).run P w = .ok j.toNat w := by
  subst h; simp [Instr.sliceBound, asIntOf, h0, h1]
def bnd (E : Env) (x : Option Operand) (df y r : Nat) : Prop := match x with
  | none => r = df
  | some i => ∃ k j, ev E i = some (.int k j) ∧ 0 ≤ j ∧ j ≤ y ∧ r = j.toNat
theorem bnd_none {E : Env} (df y : Nat) : bnd E none df y df := rfl
theorem bnd_some {E : Env} {i : Operand} {k : IntKind} {j : Int} (df y : Nat) (h : ev E i = some (.int k j)) (h0 : 0 ≤ j) (h1 : j ≤ y) : bnd E (some i) df y j.toNat := ⟨k, j, h, h0, h1, rfl⟩
theorem run_bounds {lo hi mx : Option Operand} {isS : Bool} {len cap l h m : Nat} {c : Act} (g : Good N E c) (hm : bnd E mx cap cap m) (hx : mx.isSome = true → hi.isSome = true) (hh : bnd E hi len m h) (hl : bnd E lo 0 h l) (w : World) :
    (Instr.sliceBounds isS len cap (lo.map c.eval) (hi.map c.eval) (mx.map c.eval)).run P w = .ok (l, h, m) w := by
  unfold Instr.sliceBounds
  cases mx with
  | none =>
    have hm' : m = cap := hm
    subst hm'
    cases hi with
    | none =>
      have hh' : h = len := hh
      subst hh'
      cases lo with
      | none => have hl' : l = 0 := hl; subst hl'; simp
      | some i => obtain ⟨k, j, g1, g2, g3, rfl⟩ := hl; simp [g.ev g1, bound_in _ _ rfl g2 g3 w]
    | some i' =>
      obtain ⟨k', j', g1', g2', g3', rfl⟩ := hh
      cases lo with
      | none => have hl' : l = 0 := hl; subst hl'; simp [g.ev g1', bound_in _ _ rfl g2' g3' w]
      | some i => obtain ⟨k, j, g1, g2, g3, rfl⟩ := hl; simp [g.ev g1, g.ev g1', bound_in _ _ rfl g2 g3 w, bound_in _ _ rfl g2' g3' w]
  | some i2 =>
    obtain ⟨k2, j2, y1, y2, y3, rfl⟩ := hm
    cases hi with
    | none => simp at hx
    | some i' =>
      obtain ⟨k', j', g1', g2', g3', rfl⟩ := hh
      cases lo with
      | none => have hl' : l = 0 := hl; subst hl'; simp [g.ev y1, g.ev g1', bound_in _ _ rfl g2' g3' w, bound_in _ _ rfl y2 y3 w]
      | some i => obtain ⟨k, j, g1, g2, g3, rfl⟩ := hl; simp [g.ev y1, g.ev g1, g.ev g1', bound_in _ _ rfl g2 g3 w, bound_in _ _ rfl g2' g3' w, bound_in _ _ rfl y2 y3 w]
theorem Calm.sliceStr {T : TypeId} {x : Operand} {lo hi : Option Operand} {s : ByteArray} {l h : Nat} (hT : P.underlying T = some .string) (hx : ev E x = some (.string s))
    (hh : bnd E hi s.size s.size h) (hl : bnd E lo 0 h l) :
    ACalm P N ⟨dst, .slice T x lo hi none, ty, pos, aft, gd⟩ E S (.string (s.extract l h)) := fun c w g hv => by
  have e1 := run_bounds (P := P) (isS := false) (mx := none) (cap := s.size) g (bnd_none s.size s.size) (by simp) hh hl w
  simp only [Option.map_none] at e1
  simp [execOp, g.ev hx, Instr.sliceAt, run_underlying hT w, Instr.slice, e1]
/-- A piece of a slice; 'm': where its capacity ends. -/
theorem Calm.sliceSl {T e : TypeId} {x : Operand} {lo hi mx : Option Operand} {b o len cap n l h m : Nat} (hT : P.underlying T = some (.slice e)) (he : sizeT P e = some n) (hx : ev E x = some (.slice (some ⟨b, o, none⟩) len cap))
    (hm : bnd E mx cap cap m) (hmx : mx.isSome = true → hi.isSome = true) (hh : bnd E hi len m h) (hl : bnd E lo 0 h l) :
    ACalm P N ⟨dst, .slice T x lo hi mx, ty, pos, aft, gd⟩ E S (.slice (some ⟨b, if m = l then o else o + l * n, none⟩) (h - l) (m - l)) := fun c w g hv => by
  have e1 := run_bounds (P := P) (isS := true) g hm hmx hh hl w
  simp only [execOp, g.ev hx, Instr.sliceAt, Sem.run_bind, run_underlying hT w, Instr.slice, e1, Result.andThen_ok, run_sizeT he w, Sem.run_pure, Option.map_some, addr_add]
  split <;> rfl
theorem Calm.sliceHead {T e : TypeId} {x : Operand} {hi mx : Option Operand} {b o len cap n h m : Nat} (hT : P.underlying T = some (.slice e)) (he : sizeT P e = some n) (hx : ev E x = some (.slice (some ⟨b, o, none⟩) len cap))
    (hm : bnd E mx cap cap m) (hmx : mx.isSome = true → hi.isSome = true) (hh : bnd E hi len m h) :
    ACalm P N ⟨dst, .slice T x none hi mx, ty, pos, aft, gd⟩ E S (.slice (some ⟨b, o, none⟩) h m) := by
  have := Calm.sliceSl (S := S) (N := N) (dst := dst) (ty := ty) (pos := pos) (aft := aft) (gd := gd) hT he hx hm hmx hh (bnd_none 0 h)
  simpa using this
theorem Calm.sliceNil {T e : TypeId} {x : Operand} {lo hi mx : Option Operand} {n : Nat} (hT : P.underlying T = some (.slice e)) (he : sizeT P e = some n) (hx : ev E x = some (.slice none 0 0))
    (hm : bnd E mx 0 0 0) (hmx : mx.isSome = true → hi.isSome = true) (hh : bnd E hi 0 0 0) (hl : bnd E lo 0 0 0) :
    ACalm P N ⟨dst, .slice T x lo hi mx, ty, pos, aft, gd⟩ E S (.slice none 0 0) := fun c w g hv => by
  have e1 := run_bounds (P := P) (isS := true) g hm hmx hh hl w
  simp only [execOp, g.ev hx, Instr.sliceAt, Sem.run_bind, run_underlying hT w, Instr.slice, e1, Result.andThen_ok, run_sizeT he w, Sem.run_pure, Option.map_none]
  rfl
/-- A pure builtin. -/
theorem Calm.lenStr {T : TypeId} {x : Operand} {s : ByteArray} (hT : P.underlying T = some .string) (hx : ev E x = some (.string s)) :
    ACalm P N ⟨dst, .call ⟨.builtin .len, #[x], #[T]⟩, ty, pos, aft, gd⟩ E S (.int .i64 s.size) := fun c w g hv => by
  simp [execOp, resolve, invoke, builtin, Builtin.len_, g.ev hx, run_underlying hT w, goInt]
theorem Calm.lenSl {T e : TypeId} {x : Operand} {a : Option Addr} {len cap : Nat} (hT : P.underlying T = some (.slice e)) (hx : ev E x = some (.slice a len cap)) :
    ACalm P N ⟨dst, .call ⟨.builtin .len, #[x], #[T]⟩, ty, pos, aft, gd⟩ E S (.int .i64 len) := fun c w g hv => by
  simp [execOp, resolve, invoke, builtin, Builtin.len_, g.ev hx, run_underlying hT w, goInt]
/-- Any operation whose run is known. -/
theorem Calm.run {o : Oper} {v : Value} (h : ∀ a w, Good N E a → View S w → (execOp a.eval o).run P w = .ok (.value v) w) : ACalm P N o E S v := h

/-! #### Operations that do something -/
theorem View.alloc {w : World} (h : View S w) (T : TypeId) (cs : Array Value) (hf : Fresh S w.heap.size) : View (S.set w.heap.size ⟨T, cs.toList, cs.size⟩) (w.alloc (.cells cs T)) := by
  constructor
  · intro b r hb
    by_cases e : b = w.heap.size
    · subst e
      rw [Mem.own_set_same] at hb
      cases hb
      exact ⟨cs, (0, 0), heap_alloc_new w _, List.prefix_rfl, Nat.le_refl _, fun j _ x => by simp at x⟩
    · rw [Mem.own_set_other _ _ e] at hb
      have hlt := h.lt hb
      rw [Below.heap_alloc w _ b hlt]
      exact h.own b r hb
  · intro a v ha
    obtain ⟨h1, h2⟩ := h.ro a v ha
    have hlt := World.block_lt_of_cell? _ _ h1
    refine ⟨cell_later ((Below.refl _ _).alloc (Nat.le_refl _) _) h1, ?_⟩
    rw [Mem.own_set_other _ _ (by omega)]
    exact h2
theorem Step.alloc {w : World} (h : View S w) (T : TypeId) (cs : Array Value) : Step S w (S.set w.heap.size ⟨T, cs.toList, cs.size⟩) (w.alloc (.cells cs T)) :=
  ⟨h.alloc T cs h.freshAt, rfl, rfl, rfl, by rw [World.size_alloc]; omega, fun k hk _ => Below.heap_alloc w _ k hk, fun k hk => by
    by_cases e : k = w.heap.size
    · exact .inr (by omega)
    · rw [Mem.own_set_other _ _ e] at hk; exact .inl hk, rfl⟩
theorem ARun.box {os : List Oper} {T : TypeId} {x : Operand} {v : Value} {d : Nat} (hn : d < N) (hx : ev E x = some v)
    (h : ∀ b, Fresh S b → ARun P N ops os K ((d, .pointer (some ⟨b, 0, none⟩)) :: E) (S.set b ⟨T, v.cells.toList, v.cells.size⟩)) : ARun P N ops (⟨some d, .box T x, ty, pos, aft, none⟩ :: os) K E S := fun a w g hv => by
  rw [if_pos (by simp [Region.wanted])]
  unfold Oper.wp
  have : (execOp a.eval ⟨some d, .box T x, ty, pos, aft, none⟩).run P w = .ok (.value (.pointer (some ⟨w.heap.size, 0, none⟩))) (w.alloc (.cells v.cells T)) := by
    simp [execOp, g.ev hx, Instr.box, newVar, newRow]
  rw [this]
  exact ⟨_, _, h _ hv.freshAt, g.put hn _, Step.alloc hv T v.cells⟩
def zeroT (P : Program) (T : TypeId) : Option (List Value) := ((P.info? T).bind (·.zero)).map fun z => z.cells.toList
theorem run_zeroT {T : TypeId} {z : List Value} (h : zeroT P T = some z) (w : World) : ∃ v, (zeroValue T).run P w = .ok v w ∧ v.cells.toList = z := by
  unfold zeroT at h
  cases e : P.info? T with
  | none => simp [e] at h
  | some i =>
    cases e2 : i.zero with
    | none => simp [e, e2] at h
    | some v => simp [e, e2] at h; exact ⟨v, by simp [zeroValue, typeInfo, e, e2], h⟩
theorem ARun.alloc {os : List Oper} {T : TypeId} {z : List Value} {d : Nat} (hn : d < N) (hz : zeroT P T = some z)
    (h : ∀ b, Fresh S b → ARun P N ops os K ((d, .pointer (some ⟨b, 0, none⟩)) :: E) (S.set b ⟨T, z, z.length⟩)) : ARun P N ops (⟨some d, .alloc T, ty, pos, aft, none⟩ :: os) K E S := fun a w g hv => by
  rw [if_pos (by simp [Region.wanted])]
  obtain ⟨v, h1, h2⟩ := run_zeroT hz w
  unfold Oper.wp
  have : (execOp a.eval ⟨some d, .alloc T, ty, pos, aft, none⟩).run P w = .ok (.value (.pointer (some ⟨w.heap.size, 0, none⟩))) (w.alloc (.cells v.cells T)) := by
    simp [execOp, Instr.alloc, newVar, newRow, h1]
  rw [this]
  refine ⟨_, _, h _ hv.freshAt, g.put hn _, ?_⟩
  rw [← h2, Array.length_toList]
  exact Step.alloc hv T v.cells
/-- Cells are written over, from a place on. -/
def spl (cs : List Value) (k : Nat) (vs : List Value) : List Value := cs.take k ++ vs ++ cs.drop (k + vs.length)
theorem spl_length (cs : List Value) (k : Nat) (vs : List Value) (h : k + vs.length ≤ cs.length) : (spl cs k vs).length = cs.length := by simp [spl]; omega
theorem spl_one (cs : List Value) (k : Nat) (v : Value) (h : k < cs.length) : spl cs k [v] = cs.set k v := by
  unfold spl
  rw [List.set_eq_take_append_cons_drop, if_pos h]; simp
theorem prefix_spl {cs : List Value} {cur : List Value} (h : cs <+: cur) (k : Nat) (vs : List Value) (hk : k ≤ cs.length) (hf : k + vs.length ≤ cur.length) : spl cs k vs <+: spl cur k vs := by
  obtain ⟨t, rfl⟩ := h
  unfold spl
  rw [List.take_append_of_le_length hk, List.append_assoc, List.append_assoc, List.prefix_append_right_inj, List.prefix_append_right_inj, List.drop_append]
  exact List.prefix_append _ _
theorem heap_setCell_same (w : World) (b o : Nat) (v : Value) (cur : Array Value) (e : TypeId) (fz : Nat × Nat) (h : w.heap[b]? = some (.cells cur e fz)) : (w.setCell ⟨b, o, none⟩ v).heap[b]? = some (.cells (cur.setIfInBounds o v) e fz) := by
  simp [World.setCell, Array.getElem?_modify, h]
theorem heap_setCells_same (b : Nat) (e : TypeId) (fz : Nat × Nat) : ∀ (vs : List Value) (o : Nat) (w : World) (cur : Array Value), w.heap[b]? = some (.cells cur e fz) → o + vs.length ≤ cur.size → ∃ cur', (w.setCells b o vs).heap[b]? = some (.cells cur' e fz) ∧ cur'.toList = spl cur.toList o vs
  | [], o, w, cur, h, _ => ⟨cur, h, by simp [spl]⟩
  | v :: vs, o, w, cur, h, hl => by
    simp only [List.length_cons] at hl
    obtain ⟨cur', h1, h2⟩ := heap_setCells_same b e fz vs (o + 1) _ _ (heap_setCell_same w b o v cur e fz h) (by simp; omega)
    refine ⟨cur', h1, ?_⟩
    rw [h2]
    simp only [spl, Array.toList_setIfInBounds, List.length_cons]
    rw [List.set_eq_take_append_cons_drop, if_pos (by simp; omega)]
    have e1 : (cur.toList.take o).length = o := by simp; omega
    have e2 : List.take (o + 1) (cur.toList.take o ++ v :: cur.toList.drop (o + 1)) = cur.toList.take o ++ [v] := by
      rw [List.take_append, e1]
      simp
      rw [List.take_of_length_le (by simp; omega)]
    have e3 : List.drop (o + 1 + vs.length) (cur.toList.take o ++ v :: cur.toList.drop (o + 1)) = cur.toList.drop (o + (vs.length + 1)) := by
      rw [List.drop_append, e1, List.drop_of_length_le (by simp; omega), List.nil_append, show o + 1 + vs.length - o = vs.length + 1 from by omega, List.drop_succ_cons, List.drop_drop]
      congr 1; omega
    rw [e2, e3]; simp
theorem heap_setCells_other (b k : Nat) (hk : k ≠ b) : ∀ (vs : List Value) (o : Nat) (w : World), (w.setCells b o vs).heap[k]? = w.heap[k]?
  | [], _, _ => rfl
  | v :: vs, o, w => by rw [World.setCells, heap_setCells_other b k hk vs, Below.heap_setCell _ _ _ _ hk]
theorem setCells_rest (b : Nat) : ∀ (vs : List Value) (o : Nat) (w : World), (w.setCells b o vs).os = w.os ∧ (w.setCells b o vs).tape = w.tape ∧ (w.setCells b o vs).output = w.output ∧ (w.setCells b o vs).heap.size = w.heap.size
  | [], _, _ => ⟨rfl, rfl, rfl, rfl⟩
  | v :: vs, o, w => by
    have := setCells_rest b vs (o + 1) (w.setCell ⟨b, o, none⟩ v)
    rw [World.size_setCell] at this
    exact this
/-- Cells of a block that is known are written over. -/
theorem store_cells {w : World} (hv : View S w) {b o : Nat} {r : Blk} {vs : List Value} (hb : S.own b = some r) (ho : o ≤ r.cells.length) (hl : o + vs.length ≤ r.cells.length ∨ o + vs.length ≤ r.room) (h1 : ∀ v ∈ vs, v.oneCell' = true) :
    (storeCells ⟨b, o, none⟩ vs).run P w = .ok () (w.setCells b o vs) ∧ Step S w (S.set b ⟨r.elem, spl r.cells o vs, r.room⟩) (w.setCells b o vs) := by
  obtain ⟨cur, fz, e1, e2, e3, e4⟩ := hv.own b r hb
  have hcur : r.cells.length ≤ cur.size := by have := e2.length_le; simpa using this
  have hfit : o + vs.length ≤ cur.size := by omega
  have hrun := run_storeCells_cells (P := P) b o vs 0 w (fun j hj => by simp [World.cell?, e1]; omega) (fun j hj => by
    simp only [World.frozen?, e1]
    have := e4 (o + j) (by omega)
    simpa using this) h1
  rw [Nat.add_zero] at hrun
  obtain ⟨cur', g1, g2⟩ := heap_setCells_same b r.elem fz vs o w cur e1 hfit
  obtain ⟨q1, q2, q3, q4⟩ := setCells_rest b vs o w
  have hs' : cur'.size = cur.size := by rw [← Array.length_toList, g2, spl_length _ _ _ (by simpa using hfit), Array.length_toList]
  refine ⟨hrun, ⟨⟨fun k r' hk => ?_, fun a v ha => ?_⟩, q1, q2, q3, by omega, fun k hk hn => ?_, fun k hk => ?_, rfl⟩⟩
  · by_cases e : k = b
    · subst e
      rw [Mem.own_set_same] at hk
      cases hk
      exact ⟨cur', fz, g1, by rw [g2]; exact prefix_spl e2 o vs ho (by simpa using hfit), by rw [hs']; exact e3, fun j hj => e4 j (by omega)⟩
    · rw [Mem.own_set_other _ _ e] at hk
      rw [heap_setCells_other b k e]
      exact hv.own k r' hk
  · obtain ⟨h1, h2⟩ := hv.ro a v ha
    have hne : a.block ≠ b := fun e => by rw [e, hb] at h2; cases h2
    refine ⟨(World.cell?_of_block (w := w) (heap_setCells_other b _ hne vs o w)).trans h1, ?_⟩
    rw [Mem.own_set_other _ _ hne]; exact h2
  · have hne : k ≠ b := fun e => by rw [e, hb] at hn; cases hn
    exact heap_setCells_other b k hne vs o w
  · by_cases e : k = b
    · subst e; exact .inl (by rw [hb]; simp)
    · rw [Mem.own_set_other _ _ e] at hk; exact .inl hk
theorem ARun.store {os : List Oper} {T : TypeId} {x y : Operand} {b o : Nat} {r : Blk} {v : Value} (hx : ev E x = some (.pointer (some ⟨b, o, none⟩))) (hy : ev E y = some v) (hs : sizeT P T = some v.cells.size) (hb : S.own b = some r) (hl : o + v.cells.size ≤ r.cells.length) (h1 : v.cells.all (·.oneCell') = true)
    (h : ARun P N ops os K E (S.set b ⟨r.elem, spl r.cells o v.cells.toList, r.room⟩)) : ARun P N ops (⟨none, .store T x y, ty, pos, aft, none⟩ :: os) K E S := fun a w g hv => by
  rw [if_pos (by simp [Region.wanted])]
  obtain ⟨h2, h3⟩ := store_cells (P := P) hv hb (vs := v.cells.toList) (o := o) (by omega) (.inl (by simpa using hl)) (fun u hu => (Array.all_eq_true_iff_forall_mem.1 h1) u (by simpa using hu))
  unfold Oper.wp
  have : (execOp a.eval ⟨none, .store T x y, ty, pos, aft, none⟩).run P w = .ok .skip (w.setCells b o v.cells.toList) := by
    simp [execOp, g.ev hx, g.ev hy, Instr.storeAt, Instr.sureAddr, storeVar, run_sizeT hs w, h2]
  rw [this]
  exact ⟨_, _, h, g.put0 _, h3⟩
end
end Mv
end Go.Proofs.Ytddabbfjoejalaa
