/-
  A view of memory, the sixth part: the values of operators. No program in sight.
-/
import Derived.Test.YtddabbfjoejalaaViewDraw
namespace Go.Proofs.Ytddabbfjoejalaa
open Go.RowKit
set_option linter.unusedVariables false
namespace Mv
section
variable {P : Program} {t : TypeId} {x y : Operand} {k : IntKind}
theorem bin_add (a b : Int) : Bin P .add t x y (.int k a) (.int k b) (.int k (k.wrap (a + b))) := fun w => by simp [eqGuard, binOp, Op.intArith]
theorem bin_sub (a b : Int) : Bin P .sub t x y (.int k a) (.int k b) (.int k (k.wrap (a - b))) := fun w => by simp [eqGuard, binOp, Op.intArith]
theorem bin_mul (a b : Int) : Bin P .mul t x y (.int k a) (.int k b) (.int k (k.wrap (a * b))) := fun w => by simp [eqGuard, binOp, Op.intArith]
theorem bin_addW {a b c : Int} (h : k.wrap (a + b) = c) : Bin P .add t x y (.int k a) (.int k b) (.int k c) := h ▸ bin_add a b
theorem bin_subW {a b c : Int} (h : k.wrap (a - b) = c) : Bin P .sub t x y (.int k a) (.int k b) (.int k c) := h ▸ bin_sub a b
theorem bin_mulW {a b c : Int} (h : k.wrap (a * b) = c) : Bin P .mul t x y (.int k a) (.int k b) (.int k c) := h ▸ bin_mul a b
theorem bin_quo {a b : Int} (hb : b ≠ 0) : Bin P .quo t x y (.int k a) (.int k b) (.int k (k.wrap (a.tdiv b))) := fun w => by simp [eqGuard, binOp, Op.intDiv, hb]
theorem bin_rem {a b : Int} (hb : b ≠ 0) : Bin P .rem t x y (.int k a) (.int k b) (.int k (a.tmod b)) := fun w => by simp [eqGuard, binOp, Op.intDiv, hb]
theorem bin_remN {a b : Int} (hb : b ≠ 0) (ha : 0 ≤ a) : Bin P .rem t x y (.int k a) (.int k b) (.int k (a % b)) := by rw [← Int.tmod_eq_emod_of_nonneg ha]; exact bin_rem hb
theorem bin_quoN {a b c : Int} (hb : b ≠ 0) (h : k.wrap (a.tdiv b) = c) : Bin P .quo t x y (.int k a) (.int k b) (.int k c) := h ▸ bin_quo hb
theorem bin_lss (a b : Int) : Bin P .lss t x y (.int k a) (.int k b) (.bool (decide (a < b))) := fun w => by simp [eqGuard, binOp, Op.intCmp]
theorem bin_leq (a b : Int) : Bin P .leq t x y (.int k a) (.int k b) (.bool (decide (a ≤ b))) := fun w => by simp [eqGuard, binOp, Op.intCmp]
theorem bin_gtr (a b : Int) : Bin P .gtr t x y (.int k a) (.int k b) (.bool (decide (b < a))) := fun w => by simp [eqGuard, binOp, Op.intCmp]
theorem bin_geq (a b : Int) : Bin P .geq t x y (.int k a) (.int k b) (.bool (decide (b ≤ a))) := fun w => by simp [eqGuard, binOp, Op.intCmp]
theorem bin_eql (a b : Int) : Bin P .eql t x y (.int k a) (.int k b) (.bool (decide (a = b))) := fun w => by simp [eqGuard, binOp, Op.intCmp]; rw [Bool.eq_iff_iff]; simp
theorem bin_neq (a b : Int) : Bin P .neq t x y (.int k a) (.int k b) (.bool (!decide (a = b))) := fun w => by simp [eqGuard, binOp, Op.intCmp]; rw [Bool.eq_iff_iff]; simp
/-- A comparison whose answer is known. -/
theorem bin_bool {op : BinOp} {vx vy : Value} {b c : Bool} (h : Bin P op t x y vx vy (.bool b)) (e : b = c) : Bin P op t x y vx vy (.bool c) := e ▸ h
theorem bin_and (a b : Int) : Bin P .and t x y (.int k a) (.int k b) (.int k (bits .and k a b)) := fun w => by
  simp only [eqGuard, binOp, Op.intBits, bits]; simp
theorem bin_or (a b : Int) : Bin P .or t x y (.int k a) (.int k b) (.int k (bits .or k a b)) := fun w => by
  simp only [eqGuard, binOp, Op.intBits, bits]; simp
theorem bin_xor (a b : Int) : Bin P .xor t x y (.int k a) (.int k b) (.int k (bits .xor k a b)) := fun w => by
  simp only [eqGuard, binOp, Op.intBits, bits]; simp
theorem bin_shl {a b : Int} {k' : IntKind} (h0 : 0 ≤ b) (h1 : b ≤ k.bits) : Bin P .shl t x y (.int k a) (.int k' b) (.int k (k.wrap (a * 2 ^ b.toNat))) := fun w => by
  have hn : ¬ b < 0 := by omega
  have hm : min b.toNat k.bits = b.toNat := by omega
  simp [eqGuard, binOp, Op.shift, hn, hm]
theorem bin_shr {a b : Int} {k' : IntKind} (h0 : 0 ≤ b) (h1 : b ≤ k.bits) : Bin P .shr t x y (.int k a) (.int k' b) (.int k (a / 2 ^ b.toNat)) := fun w => by
  have hn : ¬ b < 0 := by omega
  have hm : min b.toNat k.bits = b.toNat := by omega
  have hp : (0 : Int) ≤ 2 ^ b.toNat := Int.pow_nonneg (by omega)
  simp [eqGuard, binOp, Op.shift, hn, hm, Int.fdiv_eq_ediv_of_nonneg _ hp]
theorem bin_shrBig {a b : Int} {k' : IntKind} (h0 : (k.bits : Int) ≤ b) : Bin P .shr t x y (.int k a) (.int k' b) (.int k (a / 2 ^ k.bits)) := fun w => by
  have hn : ¬ b < 0 := by omega
  have hm : min b.toNat k.bits = k.bits := by omega
  have hp : (0 : Int) ≤ 2 ^ k.bits := Int.pow_nonneg (by omega)
  simp [eqGuard, binOp, Op.shift, hn, hm, Int.fdiv_eq_ediv_of_nonneg _ hp]
theorem una_not (b : Bool) : Una P .not (.bool b) (.bool !b) := fun w => by simp [Op.unary]
theorem conv_int {s d : TypeId} {k k' : IntKind} {n : Int} {ds : TypeDesc} (hs : P.underlying s = some ds) (hd : P.underlying d = some (.int k')) : Mv.Conv P s d (.int k n) (.int k' (k'.wrap n)) := fun w => by
  simp only [convert, Sem.run_bind, run_underlying hs, run_underlying hd, Result.andThen_ok]
  cases ds <;> simp [Go.Conv.intToInt]
theorem conv_intW {s d : TypeId} {k k' : IntKind} {n m : Int} {ds : TypeDesc} (hs : P.underlying s = some ds) (hd : P.underlying d = some (.int k')) (h : k'.wrap n = m) : Mv.Conv P s d (.int k n) (.int k' m) := h ▸ conv_int hs hd
end

/-! ### Through the exits -/
section
variable {P : Program} {N : Nat} {next : Env → Mem → Prop} {Q : Exit → Env → Mem → Prop} {E : Env} {S : Mem} {id : Nat}
theorem athen_n (h : next E S) : Athen next Q .normal E S := h
theorem athen_exit (h : Q (.exit id) E S) : Athen next Q (.exit id) E S := h
theorem athen_ret (h : Q .ret E S) : Athen next Q .ret E S := h
theorem ain_n (h : Q .normal E S) : AinBlock id Q .normal E S := h
theorem ain_ret (h : Q .ret E S) : AinBlock id Q .ret E S := h
theorem ain_same (h : Q .normal E S) : AinBlock id Q (.exit id) E S := by simpa [AinBlock] using h
theorem ain_other {j : Nat} (hj : (j == id) = false) (h : Q (.exit j) E S) : AinBlock id Q (.exit j) E S := by
  have : j ≠ id := by simpa using hj
  simpa [AinBlock, this] using h
theorem arun_nil {ops : Array Oper} {K : Env → Mem → Prop} (h : K E S) : ARun P N ops [] K E S := h
theorem draw_nil {l : List Oper} {W : List Nat} {S0 : Mem} {K : Env → Mem → Prop} (h : K E S) : DrawRun P N l W S0 [] K E S := h
theorem draw_calm {l : List Oper} {W : List Nat} {S0 : Mem} {K : Env → Mem → Prop} {i : Nat} {is : List (Nat × Bool)} {o : Oper} {d : Nat} {v : Value} (ho : l[i]? = some o) (hg : o.guard = none) (hd : o.dst = some d) (hn : d < N) (hl : S0.Less S)
    (hc : ∀ S', (pureOp o = true ∨ S' = S0) → ACalm P N o E S' v) (h : DrawRun P N l W S0 is K ((d, v) :: E) S) : DrawRun P N l W S0 ((i, true) :: is) K E S :=
  ⟨o, d, v, ho, hd, hn, .inr hl, fun a w g hv => .inl ⟨by simp [Region.wanted, hg], hc _ (by split <;> simp_all) a w g hv⟩, h⟩
theorem draw_pure {l : List Oper} {W : List Nat} {S0 : Mem} {K : Env → Mem → Prop} {i : Nat} {is : List (Nat × Bool)} {o : Oper} {d : Nat} {v : Value} (ho : l[i]? = some o) (hp : pureOp o = true) (hg : o.guard = none) (hd : o.dst = some d) (hn : d < N)
    (hc : ∀ S', ACalm P N o E S' v) (h : DrawRun P N l W S0 is K ((d, v) :: E) S) : DrawRun P N l W S0 ((i, true) :: is) K E S :=
  ⟨o, d, v, ho, hd, hn, .inl hp, fun a w g hv => .inl ⟨by simp [Region.wanted, hg], hc _ a w g hv⟩, h⟩
theorem draw_calmG {l : List Oper} {W : List Nat} {S0 : Mem} {K : Env → Mem → Prop} {i : Nat} {is : List (Nat × Bool)} {o : Oper} {d : Nat} {v : Value} (j : Nat) (t : Bool) (dj : Nat) (ho : l[i]? = some o) (hg : o.guard = some (j, t)) (hj : (l.toArray[j]?).bind (·.dst) = some dj) (hjn : dj < N) (hb : lk E dj = some (.bool t)) (hd : o.dst = some d) (hn : d < N) (hl : S0.Less S)
    (hc : ∀ S', (pureOp o = true ∨ S' = S0) → ACalm P N o E S' v) (h : DrawRun P N l W S0 is K ((d, v) :: E) S) : DrawRun P N l W S0 ((i, true) :: is) K E S := by
  cases e : l.toArray[j]? with
  | none => rw [e] at hj; simp at hj
  | some og =>
    rw [e] at hj
    exact ⟨o, d, v, ho, hd, hn, .inr hl, fun a w g hv => .inl ⟨by simp [Region.wanted, hg, yielded_of g e (by simpa using hj) hjn hb], hc _ (by split <;> simp_all) a w g hv⟩, h⟩
theorem draw_skipG {l : List Oper} {W : List Nat} {S0 : Mem} {K : Env → Mem → Prop} {i : Nat} {is : List (Nat × Bool)} {o : Oper} {d : Nat} (j : Nat) (t u : Bool) (dj : Nat) (ho : l[i]? = some o) (hg : o.guard = some (j, t)) (hj : (l.toArray[j]?).bind (·.dst) = some dj) (hjn : dj < N) (hb : lk E dj = some (.bool u)) (hne : (u == t) = false) (hd : o.dst = some d) (hn : d < N) (hl : S0.Less S)
    (h : DrawRun P N l W S0 is K ((d, undef) :: E) S) : DrawRun P N l W S0 ((i, true) :: is) K E S := by
  cases e : l.toArray[j]? with
  | none => rw [e] at hj; simp at hj
  | some og =>
    rw [e] at hj
    exact ⟨o, d, undef, ho, hd, hn, .inr hl, fun a w g hv => .inr ⟨by simp [Region.wanted, hg, yielded_of g e (by simpa using hj) hjn hb]; intro x; subst x; simp at hne, rfl⟩, h⟩
/-- An operation that comes up alone: it is met as in a region that has one order. -/
theorem draw_only {l : List Oper} {W : List Nat} {S0 : Mem} {K : Env → Mem → Prop} {i : Nat} {is : List (Nat × Bool)} {o : Oper} (ho : l[i]? = some o)
    (h : ARun P N l.toArray [o] (fun E' S' => (W.contains i = false → S0.Less S') ∧ DrawRun P N l W S0 is K E' S') E S) : DrawRun P N l W S0 ((i, false) :: is) K E S := ⟨o, ho, h⟩
theorem aop_less {ops : Array Oper} {o : Oper} {K : Env → Mem → Prop} {S' : Mem} (hl : S'.Less S) (h : AOp P N ops o K E S') : AOp P N ops o K E S := fun a w hg hv => by
  have h1 := h a w hg (hv.less hl)
  have next : ∀ a1 w1, Post N K S' w a1 w1 → Post N K S w a1 w1 := fun a1 w1 ⟨E1, S1, k, g, s⟩ => ⟨E1, S1, k, g, s.lessL hl⟩
  split
  · rename_i hw; rw [if_pos hw] at h1; exact Oper.wp_mono next h1
  · rename_i hw; rw [if_neg hw] at h1; exact next _ _ h1
theorem arun_less {ops : Array Oper} {o : Oper} {os : List Oper} {K : Env → Mem → Prop} {S' : Mem} (hl : S'.Less S) (h : ARun P N ops (o :: os) K E S') : ARun P N ops (o :: os) K E S := aop_less hl h
end
theorem lit_lt {a b : Nat} (h : a.blt b = true) : a < b := by simpa using h
end Mv
end Go.Proofs.Ytddabbfjoejalaa
