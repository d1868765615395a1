/-
  Sel: bitstrings, rows and lists of bools that come in.
-/
import Derived.Test.YtddabbfjoejalaaSel12
import Derived.Test.YtddabbfjoejalaaMem
namespace Go.Proofs.Ytddabbfjoejalaa
open Go.RowKit
open Mv Bits Sel
set_option linter.unusedVariables false
set_option maxRecDepth 20000
theorem opens_Bitstr : OpensF Try.prog 47 2 (fun y : ByteArray × Int => [.string y.1, .int .i64 y.2]) (fun y => y.1.size ≤ 140737488351232 ∧ (Lit.int .i64 y.2).wf = true) :=
  OpensFL.struct Try.underlying47 (by kernel_rfl) (OpensFL.cons (opensF_string Try.underlying9 (by kernel_rfl)) rfl (OpensFL.one (opensF_int Try.underlying3 (by kernel_rfl)) rfl))
def BitstrV (S : Mem) (cs : List Value) (y : ByteArray × Int) : Prop := cs = [.string y.1, .int .i64 y.2] ∧ y.1.size ≤ 140737488351232 ∧ (Lit.int .i64 y.2).wf = true
theorem opens_BitstrV : Opens Try.prog 47 2 BitstrV := opens_Bitstr.opens
/-- Rows over memory. -/
def RowsV (S : Mem) (cs : List Value) (y : ByteArray × Int × List Int) : Prop := ∃ hc, cs = [.string y.1, .int .i64 y.2.1, hc] ∧ Sl 1 i64s S hc y.2.2 ∧ y.1.size ≤ 140737488351232 ∧ (Lit.int .i64 y.2.1).wf = true
theorem opens_RowsV : Opens Try.prog 49 3 RowsV :=
  (OpensL.struct (n := 2 + 1) Try.underlying49 (by kernel_rfl) (OpensL.cons opens_BitstrV rfl (OpensL.one (opens_slice Try.underlying23 (by kernel_rfl) rfl (opensF_int Try.underlying3 (by kernel_rfl))) rfl))).mono
    fun S cs y ⟨c0, c1, e, ⟨e0, g1, g2⟩, v, e1, hv, _⟩ => by
      subst e e0 e1
      exact ⟨(y.1.1, y.1.2, y.2), v, rfl, hv, g1, g2⟩
def BoolsV (S : Mem) (cs : List Value) (l : List Bool) : Prop := ∃ v, cs = [v] ∧ Sl 1 bools S v l ∧ l.length ≤ 140737488351232
theorem opens_BoolsV : Opens Try.prog 43 1 BoolsV :=
  (opens_slice Try.underlying43 (by kernel_rfl) (b := 1) (by kernel_rfl) (opensF_bool Try.underlying4 (by kernel_rfl))).mono
    fun S cs y ⟨v, e, hv, _, hl⟩ => ⟨y, v, e, hv, by omega⟩
end Go.Proofs.Ytddabbfjoejalaa
