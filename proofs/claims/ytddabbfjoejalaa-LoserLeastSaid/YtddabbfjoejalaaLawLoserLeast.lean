/- The statement LoserLeast: for every input the law returns true, and each argument reads as before. No condition. -/
import Derived.Test.YtddabbfjoejalaaRows
import Derived.Test.YtddabbfjoejalaaVLos10
import Derived.ProofKit
import Derived.OpenShut
import Derived.ShutString
import Derived.ChangeOld
import Derived.SliceStrings
import Derived.Lib.SmallJoins
import Derived.SizedLaws
namespace Go.Proofs.Ytddabbfjoejalaa
namespace lawLoserLeast
open Go.ChangeShapes Go.WideShapes Go.ChangeAt Go.RowKit
open Go.ChangeMaps (open_string)
open Go.Joins (open_agg2)
set_option linter.unusedVariables false
set_option linter.unusedSimpArgs false
theorem own : ownKnob Try.prog.godebug = none := by kernel_rfl
theorem laidOut : laidOutB Try.prog = true := by kernel_rfl
set_option maxRecDepth 100000 in
theorem lifted (os : Os) (started : os.Started) (H : Type) (enc : TypeId × Value → H) :
    ReturnsInHanded {} Try.checked os 6 .any (Rows.loserLeastSpec.pre6 enc Try.prog Try.f6 Rows.loserLeastRow.domain false) (Rows.loserLeastSpec.post enc Try.prog Try.f6 false true false false) := by
  refine returnsInHanded_of_change_sized (C := Try.checked) own started (by kernel_rfl) Try.func6
    (ChangeSpec.witness6 (enc := enc) (C := Try.checked) false ⟨#[], #[.agg #[.slice none 0 0, .slice none 0 0]], []⟩ 8 (by kernel_rfl) (by kernel_rfl) (by kernel_rfl) (by kernel_rfl)) ?_
  intro W base args ds gs before hval0 hW hcnd hz _
  have hval : ∀ (j : Nat) t v, Try.f6.params[j]? = some t → args[j]? = some v → Value.okWide Try.prog W .any base t v := hval0
  have hW' := hW
  obtain ⟨p, q, hA0, hV, rfl, hfz, hnd⟩ := hW
  have hA : DataW.TrodAll enc Try.prog W 0 (fun _ => true) true Try.f6.params.toList args.toList ds p := hA0
  rw [Try.params6] at hA hval
  obtain ⟨v0, vs0, d0, ds0, p0, q0, hargs, rfl, rfl, h0, r0⟩ := trodAll_cons hA
  obtain ⟨rfl, rfl, rfl⟩ := trodAll_nil r0
  obtain rfl : args = #[v0] := by cases args; simp_all
  obtain ⟨rfl, rfl⟩ := trodVars_none hV
  have k0 := h0
  have lt0 : ∀ x ∈ p0, x.block < W.heap.size := by obtain ⟨m, hm⟩ := k0; exact DataW.trod_lt m _ _ _ hm
  obtain ⟨ca0, cb0, ya0, yb0, m0, rfl, rfl, rfl, hya0, hyb0⟩ := open_agg2 Try.underlying25 (by kernel_rfl) (by kernel_rfl : Try.prog.cellsOf 25 = 2) (hval 0 25 v0 rfl rfl) h0
  obtain ⟨pa0, la0, qa0, ea0⟩ := Mv.trod_slice_cells Try.underlying22 hya0
  obtain ⟨pb0, lb0, qb0, eb0⟩ := Mv.trod_slice_cells Try.underlying23 hyb0
  simp only [List.cons.injEq, and_true] at ea0 eb0
  subst ea0 eb0
  have sm0 : Mv.Small Try.prog 25 (DataW.agg [ya0.1, yb0.1]) := Mv.small_arg hz (j := 0) rfl rfl
  obtain ⟨xs0, w0, wb0, wl0, wr0⟩ := Mv.rows_sized Try.underlying22 (by kernel_rfl) Try.underlying32 Try.underlying59 (by kernel_rfl) (d := ya0.1) (ps := ya0.2) ⟨m0, hya0⟩
  obtain ⟨ys0, u0, ub0, ul0⟩ := Mv.sl_ints_sized Try.underlying23 Try.underlying3 (by kernel_rfl) (d := yb0.1) (ps := yb0.2) ⟨m0, hyb0⟩
  have sma0 : Mv.Small Try.prog 22 ya0.1 := Mv.small_part Try.underlying25 sm0 (j := 0) rfl rfl
  have smb0 : Mv.Small Try.prog 23 yb0.1 := Mv.small_part Try.underlying25 sm0 (j := 1) rfl rfl
  have zl0 := Mv.reach24 (wl0 sma0) (by kernel_rfl)
  have zr0 : ∀ x ∈ xs0, x.length ≤ 17592186043904 := fun x hx => Mv.reach8 (wr0 sma0 x hx) (by kernel_rfl)
  have zt0 := Mv.reach8 (ul0 smb0) (by kernel_rfl)
  clear hA0 hval0
  refine (walk_LoserLeast pa0 la0 qa0 xs0 pb0 lb0 qb0 ys0 W w0 zl0 zr0 u0 zt0).mono fun e W' ⟨he, bel⟩ => ?_
  subst he
  exact ⟨_, rfl, _, _, _, [], _, [], hW', trodAll_mk1 (shut_bool Try.underlying4 _), (trodAll_cons_mk (Below.trod laidOut (by kernel_rfl) (of_decide_eq_true (by kernel_rfl)) k0 bel lt0) trodAll_mk0), rfl, bel.frame _, fun h => by cases h⟩

theorem over : Rows.loserLeastRow.holds Try.pinned (OpenSpec.ofChange Rows.loserLeastSpec) :=
  OpenClaim.holds_of_wide 6 Try.f6 rfl rfl rfl rfl rfl rfl rfl ⟨rfl, rfl, rfl, rfl, rfl⟩ rfl rfl rfl rfl rfl (by kernel_rfl) Try.func6 (by kernel_rfl)
    (of_decide_eq_true (by kernel_rfl)) (by unfold Func.isWrapper; first | (rw [if_pos (by decide +kernel)]; kernel_rfl) | (rw [if_neg (by decide +kernel)]; exact ⟨rfl, rfl⟩))
    (fun os started H enc _ => lifted os started H enc)
/-- The statement. -/
theorem proved : Rows.LoserLeastSaid := over
#print axioms proved
end lawLoserLeast
end Go.Proofs.Ytddabbfjoejalaa
