/-
  Disk: disks, names, writes and lists of bools that come in.
-/
import Derived.Test.YtkeiphkccnfhoaaDisk22
namespace Go.Proofs.Ytkeiphkccnfhoaa
open Go.RowKit
open Mv Disk
set_option linter.unusedVariables false
set_option maxRecDepth 20000
theorem opens_Ext : OpensF Try.prog 54 2 extF (fun y => y.1.size ≤ 140737488351232 ∧ y.2.size ≤ 140737488351232) :=
  OpensFL.struct Try.underlying54 (by kernel_rfl) (OpensFL.cons (opensF_string Try.underlying9 (by kernel_rfl)) rfl (OpensFL.one (opensF_string Try.underlying9 (by kernel_rfl)) rfl))
theorem opens_Wr : OpensF Try.prog 51 3 wrF (fun y => y.1.size ≤ 140737488351232 ∧ (Lit.int .i64 y.2.1).wf = true ∧ y.2.2.size ≤ 140737488351232) :=
  OpensFL.struct (n := 1 + (1 + 1)) Try.underlying51 (by kernel_rfl) (OpensFL.cons (opensF_string Try.underlying9 (by kernel_rfl)) rfl (OpensFL.cons (opensF_int Try.underlying3 (by kernel_rfl)) rfl (OpensFL.one (opensF_string Try.underlying9 (by kernel_rfl)) rfl)))
/-- A disk that comes in. -/
def DkV (S : Mem) (cs : List Value) (d : D) : Prop := DkR S (.agg cs.toArray) d ∧ Dz d
theorem wfi {n : Int} (h : (Lit.int .i64 n).wf = true) : -9223372036854775808 ≤ n ∧ n ≤ 9223372036854775807 := by simp [Lit.wf, IntKind.min, IntKind.max, IntKind.signed, IntKind.bits] at h; omega
theorem opens_DkV : Opens Try.prog 25 5 DkV :=
  (OpensL.struct (n := 1 + (1 + (1 + (1 + 1)))) Try.underlying25 (by kernel_rfl) (OpensL.cons (opensF_int Try.underlying3 (by kernel_rfl)).opens rfl
    (OpensL.cons (opens_slice Try.underlying22 (by kernel_rfl) (b := 32) (by kernel_rfl) opens_Ext) rfl
    (OpensL.cons (opens_slice Try.underlying23 (by kernel_rfl) (b := 40) (by kernel_rfl) opens_Wr) rfl
    (OpensL.cons (opensF_int Try.underlying3 (by kernel_rfl)).opens rfl
    (OpensL.one (opensF_bool Try.underlying4 (by kernel_rfl)).opens rfl)))))).mono
    fun S cs y ⟨c0, c1, e, ⟨e0, g0⟩, c2, c3, e1, ⟨v1, e2, s1, p1, l1⟩, c4, c5, e3, ⟨v2, e4, s2, p2, l2⟩, c6, c7, e5, ⟨e6, g6⟩, e7, _⟩ => by
      subst e e0 e1 e2 e3 e4 e5 e6 e7
      obtain ⟨a1, k1, rfl, _⟩ := id s1
      obtain ⟨a2, k2, rfl, _⟩ := id s2
      refine ⟨⟨y.1, y.2.1, y.2.2.1, y.2.2.2.1, y.2.2.2.2⟩, ⟨a1, k1, a2, k2, rfl, s1, s2⟩, (wfi g0).1, (wfi g0).2, (wfi g6).1, (wfi g6).2, by simp only; omega, by simp only; omega, fun x hx => p1 x hx, fun w hw => ?_⟩
      obtain ⟨h1, h2, h3⟩ := p2 w hw
      exact ⟨h1, (wfi h2).1, (wfi h2).2, h3⟩

def BoolsV (S : Mem) (cs : List Value) (l : List Bool) : Prop := ∃ v, cs = [v] ∧ Sl 1 bools S v l
theorem opens_BoolsV : Opens Try.prog 40 1 BoolsV :=
  (opens_slice Try.underlying40 (by kernel_rfl) (b := 1) (by kernel_rfl) (opensF_bool Try.underlying4 (by kernel_rfl))).mono
    fun S cs y ⟨v, e, hv, _, hl⟩ => ⟨y, v, e, hv⟩
def NamesV (S : Mem) (cs : List Value) (l : List ByteArray) : Prop := ∃ v, cs = [v] ∧ Sl 1 strs S v l
theorem opens_NamesV : Opens Try.prog 26 1 NamesV :=
  (opens_slice Try.underlying26 (by kernel_rfl) (b := 16) (by kernel_rfl) (opensF_string Try.underlying9 (by kernel_rfl))).mono
    fun S cs y ⟨v, e, hv, _, hl⟩ => ⟨y, v, e, hv⟩
def WritesV (S : Mem) (cs : List Value) (l : List Wr) : Prop := ∃ v, cs = [v] ∧ Sl 3 wrF S v l ∧ ∀ w ∈ l, w.1.size ≤ 140737488351232 ∧ (Lit.int .i64 w.2.1).wf = true ∧ w.2.2.size ≤ 140737488351232
theorem opens_WritesV : Opens Try.prog 23 1 WritesV :=
  (opens_slice Try.underlying23 (by kernel_rfl) (b := 40) (by kernel_rfl) opens_Wr).mono
    fun S cs y ⟨v, e, hv, hp, hl⟩ => ⟨y, v, e, hv, hp⟩
end Go.Proofs.Ytkeiphkccnfhoaa
