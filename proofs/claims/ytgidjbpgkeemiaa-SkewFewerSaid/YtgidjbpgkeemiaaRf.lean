/-
  A function that ranges over a function, in the view of memory: the code ahead of the range by the view, the range by the kit's law. No program in sight.
-/
import Derived.RangeFuncNested
import Derived.RangeFuncBound
import Derived.RangeFuncCalls
import Derived.RangeFuncLeaves
import Derived.Shelf.RegionOpen
import Derived.WalkKit
import Derived.OwnWalkIn
import Derived.TacticsInMore
import Derived.LoopNIn
import Derived.LoopIn
import Derived.Test.YtgidjbpgkeemiaaSeq
namespace Go.Proofs.Ytgidjbpgkeemiaa
open Go.RowKit Go.Shelf
set_option linter.unusedVariables false
namespace Mv
/-- A block that holds no cells has changed, or a new one has come. -/
theorem Step.grown {S S' : Mem} {w W W' : World} {row : Option Nat} (h : Step S w S' W) (hg : W.grownBy W' row) (hr : ∀ r, row = some r → w.heap.size ≤ r ∧ ∃ o : Obj, W.heap[r]? = some o ∧ o.isCells = false) : Step S w S' W' := by
  have hc : ∀ (b : Nat) (cur : Array Value) (e : TypeId) (fz : Nat × Nat), W.heap[b]? = some (.cells cur e fz) → W'.heap[b]? = W.heap[b]? := fun b cur e fz hb =>
    hg.block b (Array.getElem?_eq_some_iff.1 hb).1 (fun e' => by obtain ⟨_, o, ho, hn⟩ := hr b e'.symm; rw [hb] at ho; cases ho; cases hn)
  refine ⟨⟨fun b r hb => ?_, fun a v ha => ?_⟩, hg.os.trans h.os, hg.tape.trans h.tape, hg.output.trans h.output, Nat.le_trans h.size hg.size, fun k hk hn => ?_, h.dom, h.ro⟩
  · obtain ⟨cur, fz, h1, h2⟩ := h.view.own b r hb
    exact ⟨cur, fz, (hc b _ _ _ h1).trans h1, h2⟩
  · obtain ⟨h1, h2⟩ := h.view.ro a v ha
    exact ⟨cell_kept h1 hg (fun r e => (hr r e).2), h2⟩
  · exact (hg.block k (Nat.lt_of_lt_of_le hk h.size) (fun e => by have := (hr k e.symm).1; omega)).trans (h.block k hk hn)
/-- What is no cells lies as it lay. -/
theorem Step.others {S S' : Mem} {w w' : World} (hv : View S w) (h : Step S w S' w') : KeepsOthers w w' :=
  ⟨h.size, fun k o hk ho => (h.block k (Array.getElem?_eq_some_iff.1 hk).1 (by
    cases e : S.own k with
    | none => rfl
    | some r => obtain ⟨cur, fz, h1, _⟩ := hv.own k r e; rw [hk] at h1; cases h1; cases ho)).trans hk⟩
theorem View.box {S : Mem} {w : World} (h : View S w) {b : Nat} {T : TypeId} {v : Value} (hb : S.own b = some ⟨T, [v], 1⟩) : w.cell? ⟨b, 0, none⟩ = some v ∧ w.frozen? ⟨b, 0, none⟩ = false := by
  obtain ⟨cur, fz, h1, h2, h3, h4⟩ := h.own b _ hb
  refine ⟨h.rd (a := ⟨b, 0, none⟩) (by unfold Mem.rd; simp [hb]), ?_⟩
  have := h4 0 (.inl (by have := h3; simp only at this; omega))
  simp only [World.frozen?, h1]
  simpa using this
theorem Step.boxset {S : Mem} {w : World} (h : View S w) {b : Nat} {T : TypeId} {v : Value} (hb : S.own b = some ⟨T, [v], 1⟩) (u : Value) (hu : u.oneCell' = true) : Step S w (S.set b ⟨T, [u], 1⟩) (w.setCell ⟨b, 0, none⟩ u) := by
  have := (store_cells (P := default) h (vs := [u]) (o := 0) hb (by simp) (.inl (by simp)) (by simpa using hu)).2
  simpa [spl, World.setCells] using this
/-- Code of a function that ranges over a function: what is asked of the world at its end. -/
def AWPM (P : Program) (N : Nat) (c : Code) (Q : Mem → World → Exit → Act → World → Prop) (E : Env) (S : Mem) : Prop :=
  ∀ S0 w0 a w, Step S0 w0 S w → Good N E a → c.wpIn Fence.wide 6 P (Q S0 w0) a w
section
variable {P : Program} {N : Nat} {Q : Mem → World → Exit → Act → World → Prop} {E : Env} {S : Mem}
theorem AWPM.seq {x y : Code} (h : AWP P N x (Athen (AWPM P N y Q) fun _ _ _ => False) E S) : AWPM P N (.seq x y) Q E S := fun S0 w0 a w hs hg => by
  refine wpIn_seq (wpIn_mono (wpIn_wide.2 (h a w hg hs.view)) fun e a1 w1 ⟨E1, S1, k, g, s⟩ => ?_)
  cases e with
  | normal => exact k S0 w0 a1 w1 (hs.trans s) g
  | exit id => exact k.elim
  | goto l => exact k.elim
  | ret => exact k.elim
  | panic c => exact k.elim
  | outgrown => exact k.elim
theorem AWPM.seqM {x y : Code} (h : AWPM P N x (fun S0 w0 => Exit.then (y.wpIn Fence.wide 6 P (Q S0 w0)) (Q S0 w0)) E S) : AWPM P N (.seq x y) Q E S := fun S0 w0 a w hs hg => wpIn_seq (h S0 w0 a w hs hg)
theorem AWPM.sub (E' : Env) (hs : Sub E' E) {c : Code} (h : AWPM P N c Q E' S) : AWPM P N c Q E S := fun S0 w0 a w hv hg => h S0 w0 a w hv (hg.sub hs)
theorem AWPM.less (S' : Mem) (hl : S'.Less S) {c : Code} (h : AWPM P N c Q E S') : AWPM P N c Q E S := fun S0 w0 a w hv hg => h S0 w0 a w (hv.less hl) hg
end
/-- A function that ranges over a function is entered. -/
theorem ACall.enterM {P : Program} {S : Mem} {f : FuncId} {fn : Func} {c : Code} {args : List Value} {rs : List ResultVar} {R : Value → Mem → Prop} (n : Nat) (E0 : Env) (hf : P.funcs[f]? = some fn) (hb : fn.body = some c) (hn : fn.ntmps = n) (hl : args.length ≤ n) (hr : fn.results = rs.toArray) (hE : SubA E0 args)
    (h : AWPM P n c (fun S0 w0 => bodyPostM Fence.wide 6 P fn (fun e w' => ∃ v S', e = .returned v ∧ R v S' ∧ Step S0 w0 S' w')) E0 S) : ACall P f args.toArray S R := fun w hv => by
  refine (callsIn_wide (n := 6)).1 (callsIn_of_wp_marks hf hb trivial (h S w _ w (Step.refl hv) ⟨?_, rfl, fun d v hd => ?_⟩) rfl)
  · simp only [Array.size_append, List.size_toArray, Array.size_replicate]; omega
  · have := hE.lk hd
    have hlt : d < args.length := by
      rcases Nat.lt_or_ge d args.length with h | h
      · exact h
      · rw [List.getElem?_eq_none h] at this; cases this
    simp only [Array.getD_eq_getD_getElem?, Array.getElem?_append, List.size_toArray, hlt, if_true, List.getElem?_toArray, this, Option.getD_some]
theorem tmps_lit (t : Array Value) (n : Nat) (h : t.size = n) : t = ((List.range n).map fun i => t.getD i undef).toArray := by
  subst h
  apply Array.ext
  · simp
  · intro i h1 h2
    simp [h1]
/-- A range over a function, in the view: what memory is behind so many rounds; the iterator's promise; one round's code. -/
theorem range_view {P : Program} {g : Operand} {ps : Array Tmp} {assign body : Code} {Q : Exit → Act → World → Prop} {a : Act} {w w0 : World} {S0 : Mem} {gf : Nat} {lb : Array Value} (n : Nat) (encs : Nat → Array Value) (I : Nat → Mem → Prop) (a₁ : Nat → Act)
    (hg : a.eval g = .func (.func gf) #[] lb) (eg : ∀ args w, (callFunc gf args).run P w = .ok (.enter gf args) w) (hps : ∀ k, (encs k).size = ps.size)
    (h0 : ∃ S, I 0 S ∧ Step S0 w0 S w)
    (hit : ∀ (l : Nat) (J : Nat → World → Prop) (W : World), (∀ k W, J k W → ∃ S, I k S ∧ View S W) → (∀ k W, k < n → J k W → YieldAt Fence.wide 4 P l (encs k) W fun e W' => e = .returned (.bool true) ∧ J (k + 1) W') → J 0 W →
      CallsIn Fence.wide 5 P gf (#[.func (.yield l) #[] #[]] ++ lb) W fun e W' => (∃ v, e = .returned v) ∧ J n W')
    (hassign : ∀ (l k : Nat) (W : World) (K : Act → World → Prop), K (a₁ k) W → assign.wpIn (Fence.wide.inRound l) 4 P (Exit.then K (fun _ _ _ => False)) { tmps := (ps.zip (encs k)).foldl (fun t (p, v) => t.setIfInBounds p v) a.tmps, defers := [] } W)
    (hbody : ∀ (l k : Nat) (S : Mem) (W : World), k < n → I k S → View S W → body.wpIn (Fence.wide.inRound l) 4 P (fun e _ W' => e = .normal ∧ ∃ S', I (k + 1) S' ∧ Step S W S' W') (a₁ k) W)
    (hdone : ∀ (D : Nat) (S : Mem) (W : World), I n S → Step S0 w0 S W → w0.heap.size ≤ D → W.heap[D]? = some (.deferred (some [])) → Q .normal { a with defers := { target := .collected D, args := #[] } :: a.defers } W) :
    (Code.rangeFunc g ps assign body).wpIn Fence.wide 6 P Q a w := by
  obtain ⟨Sw, hI0, hs0⟩ := h0
  have hle := hs0.size
  refine wpIn_rangeFunc fun fn hfn => ?_
  obtain ⟨rec, hrec⟩ : ∃ rec : LoopState → Loop, rec = fun st => { state := st, pending := none, fn, tmps := a.tmps, params := ps, assign, body, defers := w.heap.size } := ⟨_, rfl⟩
  have put : ∀ {S : Mem} {W : World} {l : Nat} {o : Obj} (o' : Obj), Step S0 w0 S W → w.heap.size ≤ l → W.heap[l]? = some o → o.isCells = false → Step S0 w0 S (W.putObj l o') := fun o' h hl ho hc =>
    h.grown (grownBy_putObj' _ _ o') fun r e => by cases e; exact ⟨Nat.le_trans hle hl, _, ho, hc⟩
  obtain ⟨J, hJ⟩ : ∃ J : Nat → World → Prop, J = fun k W => ∃ S, I k S ∧ Step S0 w0 S W ∧ W.heap[w.heap.size + 1]? = some (.loop (rec .ready)) ∧ W.heap[w.heap.size]? = some (.deferred (some [])) := ⟨_, rfl⟩
  obtain ⟨Wl, hWl⟩ : ∃ Wl, Wl = (w.alloc (.deferred (some []))).alloc (.loop (rec .ready)) := ⟨_, rfl⟩
  refine ⟨w.heap.size + 1, [{ target := .collected w.heap.size, args := #[] }], Wl, { target := .fn (.func gf) lb, args := #[.func (.yield (w.heap.size + 1)) #[] #[]] }, Wl, gf, #[.func (.yield (w.heap.size + 1)) #[] #[]] ++ lb, Wl, by rw [hWl, hrec]; exact run_enterLoop_outer _ _ _ _ _, ?_, fun _ _ => trivial, ?_, fun _ => by omega, ?_⟩
  · simp only [resolve, hg]
    simp [go_sem]
  · simp [invoke, go_sem, eg]
  · refine (hit (w.heap.size + 1) J _ (fun k W hk => by rw [hJ] at hk; obtain ⟨S, h1, h2, _⟩ := hk; exact ⟨S, h1, h2.view⟩) ?_ ?_).mono ?_
    · intro k W hk hj
      rw [hJ] at hj
      obtain ⟨S, h1, h2, hl, hd⟩ := hj
      have hlt : w.heap.size + 1 < W.heap.size := (Array.getElem?_eq_some_iff.1 hl).1
      have hy := run_yield (P := P) (args := encs k) hl (by rw [hrec]; exact hps k)
      rw [hrec] at hy
      refine ⟨fn, _, assign, body, hy, roundIn_of_wpIn hfn (hassign _ k W _ ⟨_, run_beginRound hl (by rw [hrec]), ?_⟩)⟩
      obtain ⟨W1, hW1⟩ : ∃ W1, W1 = W.putObj (w.heap.size + 1) (.loop { rec .ready with state := .busy }) := ⟨_, rfl⟩
      have l1 : W1.heap[w.heap.size + 1]? = some (.loop { rec .ready with state := .busy }) := by rw [hW1]; exact World.putObj_heap_same hlt
      have d1 : W1.heap[w.heap.size]? = some (.deferred (some [])) := by rw [hW1]; exact (World.putObj_heap_other (by omega)).trans hd
      have s1 : Step S0 w0 S W1 := by rw [hW1]; exact put _ h2 (by omega) hl rfl
      rw [← hW1]
      refine wpIn_mono (hbody _ k S W1 hk h1 s1.view) fun e a3 W3 hp => ?_
      obtain ⟨rfl, S3, i3, s3⟩ := hp
      have ho := s3.others s1.view
      have l3 := ho.same _ _ l1 rfl
      have d3 := ho.same _ _ d1 rfl
      have hlt3 : w.heap.size + 1 < W3.heap.size := (Array.getElem?_eq_some_iff.1 l3).1
      refine ⟨_, _, run_endRound (P := P) none l3, rfl, ?_⟩
      rw [hJ]
      refine ⟨S3, i3, put _ (s1.trans s3) (by omega) l3 rfl, ?_, (World.putObj_heap_other (by omega)).trans d3⟩
      rw [World.putObj_heap_same hlt3, hrec]
      rfl
    · rw [hJ, hWl]
      refine ⟨Sw, hI0, (hs0.grown (World.grownBy_alloc w _ none) (fun r e => by cases e)).grown (World.grownBy_alloc _ _ none) (fun r e => by cases e), ?_, ?_⟩
      · rw [hrec]; have := World.alloc_heap_new (w.alloc (.deferred (some []))) (.loop { state := .ready, pending := none, fn, tmps := a.tmps, params := ps, assign, body, defers := w.heap.size }); rwa [World.size_alloc] at this
      · exact (Below.heap_alloc _ _ _ (by simp)).trans (World.alloc_heap_new w _)
    · rintro e W2 ⟨⟨v, rfl⟩, hj⟩
      rw [hJ] at hj
      obtain ⟨S, h1, h2, hl, hd⟩ := hj
      refine ⟨none, _, by have := run_endLoop (P := P) hl (by rw [hrec]; simp); rw [hrec] at this; exact this, ?_⟩
      exact hdone _ S _ h1 (put _ h2 (by omega) hl rfl) hle ((World.putObj_heap_other (by omega)).trans hd)
end Mv
end Go.Proofs.Ytgidjbpgkeemiaa
