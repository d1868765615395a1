/-
  Plain mathematics of a disk, third part: what waits is done.
-/
import Derived.Test.YtkeiphkccnfhoaaDiskMath2
namespace Go.Proofs.Ytkeiphkccnfhoaa
open Go.RowKit
set_option linter.unusedVariables false
set_option linter.unusedSimpArgs false
namespace Disk
open Mv
/-- A sector is put into a text. -/
def putS (x : ByteArray) (w : Wr) : ByteArray := bs (x.data.toList.take (64 * w.2.1.toNat) ++ w.2.2.data.toList ++ x.data.toList.drop (64 * w.2.1.toNat + 64))
theorem putS_size {x : ByteArray} {w : Wr} (h1 : 64 * w.2.1.toNat + 64 ≤ x.size) (h2 : w.2.2.size = 64) : (putS x w).size = x.size := by
  unfold putS
  rw [size_bs]
  simp only [List.length_append, List.length_take, List.length_drop, size_data, h2]
  omega
def accW (kp : Nat → Bool) (x : Ext) (l : List Wr) : Nat → Option ByteArray
  | 0 => none
  | n + 1 => match l[n]? with
    | some w => if w.1 = x.1 ∧ kp n = true then some (putS ((accW kp x l n).getD x.2) w) else accW kp x l n
    | none => accW kp x l n
theorem accW_succ (kp : Nat → Bool) (x : Ext) (l : List Wr) (n : Nat) (h : n < l.length) : accW kp x l (n + 1) = if l[n].1 = x.1 ∧ kp n = true then some (putS ((accW kp x l n).getD x.2) l[n]) else accW kp x l n := by
  rw [accW, List.getElem?_eq_getElem h]
/-- All that waits for an extent fits. -/
def Fit (x : Ext) (l : List Wr) : Prop := ∀ w ∈ l, w.1 = x.1 → 0 ≤ w.2.1 ∧ 64 * w.2.1.toNat + 64 ≤ x.2.size ∧ w.2.2.size = 64
theorem acc_size {kp : Nat → Bool} {x : Ext} {l : List Wr} (hf : Fit x l) : ∀ n, n ≤ l.length → ((accW kp x l n).getD x.2).size = x.2.size
  | 0, _ => rfl
  | n + 1, h => by
    have ih := acc_size (kp := kp) hf n (by omega)
    rw [accW_succ kp x l n (by omega)]
    split
    · rename_i hc
      obtain ⟨_, h1, h2⟩ := hf _ (List.getElem_mem (by omega : n < l.length)) hc.1
      simp only [Option.getD_some]
      rw [putS_size (by rw [ih]; exact h1) h2]; exact ih
    · exact ih
def doneX (kp : Nat → Bool) (l : List Wr) (x : Ext) : Ext := (x.1, (accW kp x l l.length).getD x.2)
def settleD (d : D) (kp : Nat → Bool) : D := { d with ext := d.ext.map (doneX kp d.waits), waits := [] }
/-- The first i of them done. -/
def mixE (kp : Nat → Bool) (w : List Wr) (l : List Ext) (i : Nat) : List Ext := (l.take i).map (doneX kp w) ++ l.drop i
theorem mixE_len (kp : Nat → Bool) (w : List Wr) (l : List Ext) (i : Nat) : (mixE kp w l i).length = l.length := by unfold mixE; simp; omega
theorem mixE_zero (kp : Nat → Bool) (w : List Wr) (l : List Ext) : mixE kp w l 0 = l := by simp [mixE]
theorem mixE_all (kp : Nat → Bool) (w : List Wr) (l : List Ext) : mixE kp w l l.length = l.map (doneX kp w) := by simp [mixE]
theorem mixE_at (kp : Nat → Bool) (w : List Wr) (l : List Ext) (i : Nat) (h : i < l.length) : mixE kp w l i = (l.take i).map (doneX kp w) ++ l[i] :: l.drop (i + 1) := by unfold mixE; rw [List.drop_eq_getElem_cons h]
theorem mixE_get (kp : Nat → Bool) (w : List Wr) (l : List Ext) (i : Nat) (h : i < l.length) (h' : i < (mixE kp w l i).length) : (mixE kp w l i)[i] = l[i] := by
  simp only [mixE_at kp w l i h]
  rw [List.getElem_append_right (by simp; omega)]
  simp [Nat.min_eq_left (Nat.le_of_lt h)]
theorem mixE_succ (kp : Nat → Bool) (w : List Wr) (l : List Ext) (i : Nat) (h : i < l.length) : mixE kp w l (i + 1) = (mixE kp w l i).set i (doneX kp w l[i]) := by
  rw [mixE_at kp w l i h, List.set_append_right _ _ (by simp; omega)]
  unfold mixE
  rw [take_get h, List.map_append, List.append_assoc, List.length_map, List.length_take, Nat.min_eq_left (Nat.le_of_lt h), Nat.sub_self]
  rfl
theorem right_fit {d : D} (h : Right d) {x : Ext} (hx : x ∈ d.ext) : Fit x d.waits := fun w hw e => by
  obtain ⟨y, hy, e2, h0, h1, h2⟩ := h.wr w hw
  have : y = x := asc_inj h.ex.asc hy hx (e2.trans e)
  subst this
  have := (eok_sec (h.ex.ok y hy)).2
  exact ⟨h0, by omega, h2⟩
end Disk
end Go.Proofs.Ytkeiphkccnfhoaa
