/-
  A view of memory, the third part: calls, a function's beginning and end, slices that are made and that grow. No program in sight.
-/
import Derived.Test.YtddabbfjoejalaaViewOps
import Derived.Laws.MakeOwn
namespace Go.Proofs.Ytddabbfjoejalaa
open Go.RowKit
set_option linter.unusedVariables false
namespace Mv
section
variable {P : Program} {N : Nat} {ops : Array Oper} {E : Env} {S : Mem} {K : Env → Mem → Prop}
variable {dst : Option Nat} {ty : TypeId} {pos : String} {aft : Array Edge} {gd : Option (Nat × Bool)}
/-- A call: what it returns, what memory is then. -/
def ACall (P : Program) (f : FuncId) (args : Array Value) (S : Mem) (R : Value → Mem → Prop) : Prop :=
  ∀ w, View S w → Calls P f args w fun e w' => ∃ v S', e = .returned v ∧ R v S' ∧ Step S w S' w'
theorem ACall.mono {f : FuncId} {args : Array Value} {R R' : Value → Mem → Prop} (h : ACall P f args S R) (hr : ∀ v S', R v S' → R' v S') : ACall P f args S R' := fun w hv =>
  (h w hv).mono fun _ _ ⟨v, S', e, r, s⟩ => ⟨v, S', e, hr _ _ r, s⟩
theorem ACall.less {f : FuncId} {args : Array Value} {R : Value → Mem → Prop} {S0 : Mem} (hl : S0.Less S) (h : ACall P f args S0 R) : ACall P f args S R := fun w hv =>
  (h w (hv.less hl)).mono fun _ _ ⟨v, S', e, r, s⟩ => ⟨v, S', e, r, s.lessL hl⟩
/-- A contract of a call that touches nothing. -/
theorem ACall.of_calls {f : FuncId} {args : Array Value} {v : Value} (h : ∀ w, Calls P f args w fun e w' => e = .returned v ∧ Below w.heap.size w w') : ACall P f args S fun v' S' => v' = v ∧ S' = S := fun w hv =>
  (h w).mono fun _ _ ⟨he, hb⟩ => ⟨v, S, he, ⟨rfl, rfl⟩, Step.below hv hb⟩
theorem ACall.of_same {f : FuncId} {args : Array Value} {v : Value} (h : ∀ w, Calls P f args w fun e w' => e = .returned v ∧ w' = w) : ACall P f args S fun v' S' => v' = v ∧ S' = S :=
  ACall.of_calls fun w => (h w).mono fun _ _ ⟨he, hw⟩ => ⟨he, by rw [hw]; exact Below.refl _ _⟩
theorem ACall.calls {f : FuncId} {args : Array Value} {v : Value} {w : World} (h : ACall P f args ⟨fun _ => none, fun _ => none⟩ fun v' S' => v' = v) : Calls P f args w fun e w' => e = .returned v ∧ Below w.heap.size w w' :=
  (h w ⟨fun _ _ h => (by cases h), fun _ _ h => (by cases h)⟩).mono fun _ _ ⟨v', S', he, hr, s⟩ => ⟨by rw [he, hr], s.toBelow fun _ => rfl⟩
/-- A named Go function: it has a text, and is no question of the runtime's. -/
def goFn (P : Program) (f : FuncId) : Bool := match (P.funcs[f]? : Option Func) with
  | some fn => fn.body.isSome && !(fn.name == "runtime.NumGoroutine")
  | none => false
theorem run_callFunc {f : FuncId} (h : goFn P f = true) (args : Array Value) (w : World) : (callFunc f args).run P w = .ok (.enter f args) w := by
  unfold goFn at h
  cases e : P.funcs[f]? with
  | none => simp [e] at h
  | some fn =>
    simp [e] at h
    cases hb : fn.body with
    | none => simp [hb] at h
    | some c => simp [callFunc, e, h.2, hb]
theorem ARun.call {os : List Oper} {f : FuncId} {xs : List Operand} {ats : Array TypeId} {vs : List Value} {d : Nat} {R : Value → Mem → Prop} (hn : d < N) (hf : goFn P f = true) (hx : evs E xs = some vs) (hc : ACall P f vs.toArray S R)
    (h : ∀ v S', R v S' → ARun P N ops os K ((d, v) :: E) S') : ARun P N ops (⟨some d, .call ⟨.value (.func f), xs.toArray, ats⟩, ty, pos, aft, none⟩ :: os) K E S := fun a w g hv => by
  rw [if_pos (by simp [Region.wanted])]
  unfold Oper.wp
  have he : execOp a.eval ⟨some d, .call ⟨.value (.func f), xs.toArray, ats⟩, ty, pos, aft, none⟩ = callFunc f vs.toArray := by
    rw [execOp_call_go]
    simp [g.evs hx]
  rw [he, run_callFunc hf]
  simp only [Oper.upon]
  refine (hc w hv).mono fun e w' ⟨v, S', he, hr, s⟩ => ?_
  subst he
  exact ⟨_, _, h v S' hr, g.put hn v, s⟩
/-- The same behind a guard that says yes. -/
theorem ARun.callG {os : List Oper} {f : FuncId} {xs : List Operand} {ats : Array TypeId} {vs : List Value} {d : Nat} {R : Value → Mem → Prop} (j : Nat) (t : Bool) (dj : Nat) (hj : (ops[j]?).bind (·.dst) = some dj) (hjn : dj < N) (hb : lk E dj = some (.bool t))
    (hn : d < N) (hf : goFn P f = true) (hx : evs E xs = some vs) (hc : ACall P f vs.toArray S R)
    (h : ∀ v S', R v S' → ARun P N ops os K ((d, v) :: E) S') : ARun P N ops (⟨some d, .call ⟨.value (.func f), xs.toArray, ats⟩, ty, pos, aft, some (j, t)⟩ :: os) K E S := fun a w g hv => by
  cases e : ops[j]? with
  | none => simp [e] at hj
  | some og =>
    simp [e] at hj
    rw [if_pos (by simp [Region.wanted, yielded_of g e hj hjn hb])]
    unfold Oper.wp
    have he : execOp a.eval ⟨some d, .call ⟨.value (.func f), xs.toArray, ats⟩, ty, pos, aft, some (j, t)⟩ = callFunc f vs.toArray := by
      rw [execOp_call_go]
      simp [g.evs hx]
    rw [he, run_callFunc hf]
    simp only [Oper.upon]
    refine (hc w hv).mono fun e w' ⟨v, S', he, hr, s⟩ => ?_
    subst he
    exact ⟨_, _, h v S' hr, g.put hn v, s⟩

/-! ### A function's beginning and end -/
/-- What a result reads. -/
def ResV (P : Program) : List ResultVar → Env → Mem → List Value → Prop
  | [], _, _, vs => vs = []
  | .tmp t :: rs, E, S, vs => ∃ v us, lk E t = some v ∧ ResV P rs E S us ∧ vs = v :: us
  | .cell t T :: rs, E, S, vs => ∃ a v us, lk E t = some (.pointer (some a)) ∧ ((plainT P T = true ∧ S.rd a = some v) ∨ (aggT P T = true ∧ ∃ cs, sizeT P T = some cs.length ∧ S.rds a cs ∧ v = .agg cs.toArray)) ∧ ResV P rs E S us ∧ vs = v :: us
def one (vs : List Value) : Value := match vs with
  | [v] => v
  | vs => .tuple vs.toArray
def Aret (P : Program) (rs : List ResultVar) (R : Value → Mem → Prop) : Exit → Env → Mem → Prop
  | .normal, E, S => ∃ vs S', ResV P rs E S vs ∧ S'.Less S ∧ R (one vs) S'
  | .ret, E, S => ∃ vs S', ResV P rs E S vs ∧ S'.Less S ∧ R (one vs) S'
  | _, _, _ => False
def rvS (tmps : Array Value) : ResultVar → Sem Value
  | .tmp t => pure (tmps.getD t undef)
  | .cell x t => do loadVar t (← asAddr (tmps.getD x undef))
theorem results_eq (fn : Func) (tmps : Array Value) : results fn tmps = (fn.results.mapM (rvS tmps) >>= fun vs => pure (if h : vs.size = 1 then vs[0] else .tuple vs)) := by
  unfold results
  congr 1
  try (congr 1; funext r; cases r <;> rfl)
theorem run_results_list {E : Env} {S : Mem} {a : Act} {w : World} (g : Good N E a) (hv : View S w) : ∀ (rs : List ResultVar) (vs : List Value), ResV P rs E S vs →
    (rs.mapM (rvS a.tmps)).run P w = .ok vs w := by
  intro rs
  induction rs with
  | nil => intro vs h; cases h; simp
  | cons r rs ih =>
    intro vs h
    cases r with
    | tmp t =>
      obtain ⟨v, us, h1, h2, rfl⟩ := h
      rw [List.mapM_cons, Sem.run_bind]
      simp only [rvS, Sem.run_pure, Result.andThen_ok, Sem.run_bind, ih us h2, g.at_ t v h1]
    | cell x T =>
      obtain ⟨ad, v, us, h1, h3, h2, rfl⟩ := h
      have hl : (loadVar T ad).run P w = .ok v w := by
        rcases h3 with ⟨hp, hr⟩ | ⟨hp, cs, hs, hr, rfl⟩
        · simp [loadVar, run_isAgg_f hp w, hv.rd hr]
        · simp [loadVar, run_isAgg_t hp w, run_sizeT hs w, hv.rds (P := P) hr]
      rw [List.mapM_cons, Sem.run_bind]
      simp only [rvS, Sem.run_pure, Result.andThen_ok, Sem.run_bind, ih us h2, g.at_ x _ h1, asAddr, hl]
theorem ResV.length {rs : List ResultVar} {E : Env} {S : Mem} : ∀ {vs : List Value}, ResV P rs E S vs → vs.length = rs.length := by
  induction rs with
  | nil => intro vs h; cases h; rfl
  | cons r rs ih =>
    intro vs h
    cases r with
    | tmp t => obtain ⟨v, us, _, h2, rfl⟩ := h; simp [ih h2]
    | cell x T => obtain ⟨_, v, us, _, _, h2, rfl⟩ := h; simp [ih h2]
theorem run_results {fn : Func} {rs : List ResultVar} (hrs : fn.results = rs.toArray) {E : Env} {S : Mem} {a : Act} {w : World} {vs : List Value} (g : Good N E a) (hv : View S w) (h : ResV P rs E S vs) : (results fn a.tmps).run P w = .ok (one vs) w := by
  have h1 := run_results_list g hv rs vs h
  rw [results_eq, hrs, List.mapM_toArray, Sem.run_bind, Sem.run_map, h1]
  simp only [Result.andThen_ok, Sem.run_pure]
  congr 1
  match vs with
  | [] => rfl
  | [v] => rfl
  | v :: u :: us => rfl
def SubA : Env → List Value → Prop
  | [], _ => True
  | (k, v) :: E, args => args[k]? = some v ∧ SubA E args
theorem SubA.lk {E : Env} {args : List Value} (h : SubA E args) {d : Nat} {v : Value} (hd : Mv.lk E d = some v) : args[d]? = some v := by
  induction E with
  | nil => cases hd
  | cons p E ih =>
    obtain ⟨k, u⟩ := p
    simp only [Mv.lk] at hd
    split at hd
    · rename_i e; subst e; cases hd; exact h.1
    · exact ih h.2 hd
/-- A function is entered. -/
theorem ACall.enter {f : FuncId} {fn : Func} {c : Code} {args : List Value} {rs : List ResultVar} {R : Value → Mem → Prop} (n : Nat) (E0 : Env) (hf : P.funcs[f]? = some fn) (hb : fn.body = some c) (hn : fn.ntmps = n) (hl : args.length ≤ n) (hr : fn.results = rs.toArray) (hE : SubA E0 args)
    (h : AWP P n c (Aret P rs R) E0 S) : ACall P f args.toArray S R := fun w hv => by
  refine calls_of_wp hf hb (wp_mono (h _ w ⟨?_, rfl, fun d v hd => ?_⟩ hv) fun e a' w' ⟨E', S', k, g, s⟩ => ?_)
  · simp only [Array.size_append, List.size_toArray, Array.size_replicate]; omega
  · have := hE.lk hd
    have hlt : d < args.length := by
      rcases Nat.lt_or_ge d args.length with h | h
      · exact h
      · rw [List.getElem?_eq_none h] at this; cases this
    simp only [Array.getD_eq_getD_getElem?, Array.getElem?_append, List.size_toArray, hlt, if_true, List.getElem?_toArray, this, Option.getD_some]
  · cases e with
    | normal =>
      obtain ⟨vs, S2, h1, h2, h3⟩ := k
      exact ⟨g.defers, one vs, run_results hr g s.view h1, one vs, S2, rfl, h3, s.less h2⟩
    | ret =>
      obtain ⟨vs, S2, h1, h2, h3⟩ := k
      exact ⟨g.defers, one vs, run_results hr g s.view h1, one vs, S2, rfl, h3, s.less h2⟩
    | exit id => exact k.elim
    | goto l => exact k.elim
    | panic c => exact k.elim
    | outgrown => exact k.elim
end
end Mv
end Go.Proofs.Ytddabbfjoejalaa
