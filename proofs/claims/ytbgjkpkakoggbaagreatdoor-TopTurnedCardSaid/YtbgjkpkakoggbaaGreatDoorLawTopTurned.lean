/- The statement TopTurned: for every input the law returns true, and each argument reads as before. Condition: the package variables that the row lists read as the program's text lays them; the card ties them to that text (the copy of the project that the seat holds). -/
import Derived.Test.YtbgjkpkakoggbaaGreatDoorRows
import Derived.Test.YtbgjkpkakoggbaaGreatDoorBTu9
import Derived.Test.YtbgjkpkakoggbaaGreatDoorCards
import Derived.Test.YtbgjkpkakoggbaaGreatDoorTie
import Derived.SevenTiedAt
import Derived.ProofKit
import Derived.OpenShut
import Derived.ShutString
import Derived.ChangeOld
import Derived.SliceStrings
import Derived.Lib.SmallJoins
import Derived.SizedLaws
namespace Go.Proofs.YtbgjkpkakoggbaaGreatDoor
open _root_.Go.Proofs.Tryz
namespace lawTopTurned
open Go.ChangeShapes Go.WideShapes Go.ChangeAt Go.RowKit
open Go.ChangeMaps (open_string)
open Go.Joins (open_agg2)
set_option linter.unusedVariables false
set_option linter.unusedSimpArgs false
theorem own : ownKnob prog.godebug = none := by kernel_rfl
theorem laidOut : laidOutB prog = true := by kernel_rfl
set_option maxRecDepth 100000 in
theorem lifted (os : Os) (started : os.Started) (H : Type) (enc : tx × tu → H) :
    ReturnsInHanded {} Tryz.checked os 3 .any (fun w args => (Rows.topTurnedSpec.pre enc prog Tryz.f3 Rows.topTurnedRow.domain false w args ∧ laidMetH prog Rows.topTurnedRow.laid w) ∧ sizedMet enc prog Tryz.f3 (OpenSpec.ofChange Rows.topTurnedSpec) false w args) (Rows.topTurnedSpec.post enc prog Tryz.f3 false true false false) := by
  refine returnsInHanded_of_change_and (C := Tryz.checked) (X := fun w _ => laidMetH prog Rows.topTurnedRow.laid w) (fun _ _ _ hh h => h.of_heap hh) own started (by kernel_rfl) func3
    (ChangeSpec.witness_shaped (enc := enc) (C := Tryz.checked) (os := os) (X := fun w _ => laidMetH prog Rows.topTurnedRow.laid w) false (zmb os) #[.string ByteArray.empty, .int .i64 0, .int .i64 0] 8 rfl (zil os _) (by kernel_rfl) (by kernel_rfl) (by kernel_rfl) (znd os _ rfl)) ?_
  intro W base args ds gs before hval0 hW hcnd hz hL _
  have hval : ∀ (j : Nat) t v, Tryz.f3.params[j]? = some t → args[j]? = some v → Value.okWide prog W .any base t v := hval0
  have hW' := hW
  obtain ⟨p, q, hA0, hV, rfl, hfz, hnd⟩ := hW
  have hA : DataW.TrodAll enc prog W 0 (fun _ => true) true Tryz.f3.params.toList args.toList ds p := hA0
  rw [Tryz.params3] at hA hval
  obtain ⟨v0, vs0, d0, ds0, p0, q0, hargs, rfl, rfl, h0, r0⟩ := trodAll_cons hA
  obtain ⟨v1, vs1, d1, ds1, p1, q1, rfl, rfl, rfl, h1, r1⟩ := trodAll_cons r0
  obtain ⟨v2, vs2, d2, ds2, p2, q2, rfl, rfl, rfl, h2, r2⟩ := trodAll_cons r1
  obtain ⟨rfl, rfl, rfl⟩ := trodAll_nil r2
  obtain rfl : args = #[v0, v1, v2] := by cases args; simp_all
  obtain ⟨rfl, rfl⟩ := trodVars_none hV
  have k0 := h0
  have lt0 : ∀ x ∈ p0, x.block < W.heap.size := by obtain ⟨m, hm⟩ := k0; exact DataW.trod_lt m _ _ _ hm
  obtain ⟨a0, rfl, e0, f0, w0⟩ := open_string underlying9 (hval 0 9 v0 rfl rfl) h0
  have k1 := h1
  have lt1 : ∀ x ∈ p1, x.block < W.heap.size := by obtain ⟨m, hm⟩ := k1; exact DataW.trod_lt m _ _ _ hm
  obtain ⟨a1, rfl, e1, f1, w1⟩ := open_int underlying3 (hval 1 3 v1 rfl rfl) h1
  have k2 := h2
  have lt2 : ∀ x ∈ p2, x.block < W.heap.size := by obtain ⟨m, hm⟩ := k2; exact DataW.trod_lt m _ _ _ hm
  obtain ⟨a2, rfl, e2, f2, w2⟩ := open_int underlying3 (hval 2 3 v2 rfl rfl) h2
  have z0 : a0.size < 140737488355328 := by have h := sized_string hz (j := 0) rfl (by rw [e0]; rfl); have h2 := reachBytes_lt; rw [Array.length_toList] at h; show a0.data.size < 140737488355328; omega
  clear hA0 hval0
  refine (zgP a0 a1 a2 W (zjA hL rfl rfl)).mono fun e W' ⟨he, bel⟩ => ?_
  subst he
  exact ⟨_, rfl, _, _, _, [], _, [], hW', trodAll_mk1 (shut_bool underlying4 _), (trodAll_cons_mk (Below.trod laidOut (by kernel_rfl) (of_decide_eq_true (by kernel_rfl)) k0 bel lt0) (trodAll_cons_mk (Below.trod laidOut (by kernel_rfl) (of_decide_eq_true (by kernel_rfl)) k1 bel lt1) (trodAll_cons_mk (Below.trod laidOut (by kernel_rfl) (of_decide_eq_true (by kernel_rfl)) k2 bel lt2) trodAll_mk0))), rfl, bel.frame _, fun h => by cases h⟩

theorem e1 : Tryz.pinned.checked.prog.inPlace 3 = Rows.topTurnedRow.inPlace := by kernel_rfl
theorem e2 : Tryz.pinned.checked.prog.unfollowed 3 = Rows.topTurnedRow.unfollowed := by kernel_rfl
theorem e3 : Tryz.pinned.checked.prog.recurses 3 = Rows.topTurnedRow.recurses := by kernel_rfl
theorem e4 : Tryz.pinned.checked.prog.varsNamed 3 = Rows.topTurnedRow.named := by kernel_rfl
theorem e5 : laidOutB Tryz.pinned.checked.prog = true := by kernel_rfl
theorem e6 : mapsRowed Tryz.pinned.checked.prog = true := by kernel_rfl
theorem e7 : namedTie Tryz.pinned.checked.prog Rows.topTurnedRow.named Rows.topTurnedSpec.vars = true := by kernel_rfl
theorem closed : joinedFacts Tryz.pinned.checked.prog 3 Tryz.f3 Rows.topTurnedSpec Rows.topTurnedRow = true := by
  unfold joinedFacts
  rw [e1, e2, e3, e4, e5, e6, e7]
  kernel_rfl
theorem inst : Tryz.f3.isInstance Tryz.pinned.checked.prog Rows.topTurnedRow.origin Rows.topTurnedRow.targs := of_decide_eq_true (by kernel_rfl)
theorem wrap : Tryz.f3.isWrapper Tryz.pinned.checked.prog Rows.topTurnedRow.wrapper Rows.topTurnedRow.mainSum := by unfold Func.isWrapper; first | (rw [if_pos (by decide +kernel)]; kernel_rfl) | (rw [if_neg (by decide +kernel)]; exact ⟨rfl, rfl⟩)
theorem name : Tryz.pinned.checked.prog.funcNamed Rows.topTurnedRow.func = some 3 := by kernel_rfl
theorem over : Rows.topTurnedRow.holds Tryz.pinned (OpenSpec.ofChange Rows.topTurnedSpec) :=
  OpenClaim.holds_of_wide 3 Tryz.f3 rfl rfl rfl rfl rfl rfl rfl ⟨rfl, rfl, rfl, rfl, rfl⟩ rfl rfl rfl rfl rfl name func3 closed inst wrap
    (fun os started H enc _ => lifted os started H enc)
theorem plain (f : tA) (fn : Func) (hf : Tryz.pinned.checked.prog.funcNamed "wringer/wringertop.TopTurned" = some f) (hfn : Tryz.pinned.checked.prog.funcs[f]? = some fn) :
    true = Tryz.pinned.checked.prog.looks [] ∧ ∀ (j : Nat) t, fn.params[j]? = some t → Tryz.pinned.checked.prog.wantsStandIn t = false := by
  obtain rfl : f = 3 := Option.some.inj ((show prog.funcNamed "wringer/wringertop.TopTurned" = some 3 by kernel_rfl).symm.trans hf) |>.symm
  obtain rfl : fn = Tryz.f3 := (Option.some.inj (func3.symm.trans hfn)).symm
  refine ⟨by kernel_rfl, fun j t ht => ?_⟩
  rw [Tryz.params3] at ht
  have hm : t ∈ [9, 3, 3] := by simpa using Array.mem_of_getElem? ht
  have hall : ([9, 3, 3].all fun u => !prog.wantsStandIn u) = true := by kernel_rfl
  exact (show prog.wantsStandIn t = false by simpa using List.all_eq_true.1 hall t hm)
/-- The statement: the tied card. -/
theorem proved : Rows.TopTurnedCardSaid :=
  Claim7.holds_tied_plain_at .later [] _ _ _ _ over (fun _ h => by cases h) (by kernel_rfl) (fun _ h => by cases h) topTurned_row_tie rfl ⟨rfl, rfl⟩ (by kernel_rfl) rfl plain (by kernel_rfl)
#print axioms proved
end lawTopTurned
end Go.Proofs.YtbgjkpkakoggbaaGreatDoor
