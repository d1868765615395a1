/-
  A view of memory, the ninth part: closing tactics under short names (automatic arguments). Printed by auto-gen.py.
-/
import Derived.Test.YtddabbfjoejalaaViewOwn
namespace Go.Proofs.Ytddabbfjoejalaa
open Go.RowKit
set_option linter.unusedVariables false
namespace Mv
theorem ne_ {p : Prop} (h : p := by (first | assumption | (apply Ne.symm; assumption))) : p := h
theorem rd_ {p : Prop} (h : p := by (repeat ((with_reducible refine (rd_set_ne _ _ ?_).trans ?_); (first | assumption | (apply Ne.symm; assumption)))); (first | ((with_reducible refine (rd_set_same _ _ _ _).trans ?_); rfl) | ((with_reducible apply rd_own'); (with_reducible assumption); rfl) | with_reducible assumption)) : p := h
theorem rds_ {p : Prop} (h : p := by first | with_reducible assumption | ((repeat (apply rds_cons; ((repeat ((with_reducible refine (rd_set_ne _ _ ?_).trans ?_); (first | assumption | (apply Ne.symm; assumption)))); (first | ((with_reducible refine (rd_set_same _ _ _ _).trans ?_); rfl) | ((with_reducible apply rd_own'); (with_reducible assumption); rfl) | with_reducible assumption)))); exact rds_nil _ _)) : p := h
theorem own_ {p : Prop} (h : p := by (repeat first | ((with_reducible refine (Mem.own_set_other _ _ ?_).trans ?_); (first | assumption | (apply Ne.symm; assumption))) | ((with_reducible refine (Mem.own_del_other _ ?_).trans ?_); (first | assumption | (apply Ne.symm; assumption)))); (first | with_reducible exact Mem.own_set_same _ _ _ | with_reducible assumption | exact Mem.own_set_same _ _ _)) : p := h
theorem del_ {p : Prop} (h : p := by (repeat first | (with_reducible apply set_del_same') | ((with_reducible apply set_del_ne'); (first | assumption | (apply Ne.symm; assumption)))); (with_reducible apply del_base); with_reducible assumption) : p := h
theorem lens_ {p : Prop} (h : p := by first | decide | (simp; done) | (simp; omega) | omega) : p := h
theorem less_ {p : Prop} (h : p := by first | with_reducible exact Mem.Less.refl _ | ((with_reducible refine Mem.less_set _ _ _ (Fresh.own ?_)); with_reducible assumption) | (refine less_of ?_; (repeat first | with_reducible exact LessB.refl _ _ | ((with_reducible refine LessB.set ?_ ?_); ((repeat first | ((with_reducible refine (Mem.own_set_other _ _ ?_).trans ?_); (first | assumption | (apply Ne.symm; assumption))) | ((with_reducible refine (Mem.own_del_other _ ?_).trans ?_); (first | assumption | (apply Ne.symm; assumption)))); (first | with_reducible exact Mem.own_set_same _ _ _ | with_reducible assumption | exact Mem.own_set_same _ _ _))) | (with_reducible refine LessB.delL ?_)); (repeat first | with_reducible exact LessB.refl _ _ | ((with_reducible refine LessB.of ?_); with_reducible assumption) | ((with_reducible refine LessB.skip ?_ ?_); (first | ((refine .inl ?_); focus (simp; done)) | ((refine .inr (Fresh.own ?_)); with_reducible assumption) | ((refine .inr ?_); with_reducible assumption))) | ((with_reducible refine LessB.skipDel ?_ ?_); (first | ((refine .inl ?_); focus (simp; done)) | ((refine .inr (Fresh.own ?_)); with_reducible assumption) | ((refine .inr ?_); with_reducible assumption)))))) : p := h
theorem om_ {p : Prop} (h : p := by omega) : p := h
section
variable {P : Program} {t : TypeId} {x y : Operand} {vx vy v : Value}
theorem b_add_i64 (h : Bin P .add t x y vx vy v := by first | exact bin_addW (IntWalk.i64_in _ (by omega)) | exact bin_add _ _) : Bin P .add t x y vx vy v := h
theorem b_sub_i64 (h : Bin P .sub t x y vx vy v := by first | exact bin_subW (IntWalk.i64_in _ (by omega)) | exact bin_sub _ _) : Bin P .sub t x y vx vy v := h
theorem b_mul_i64 (h : Bin P .mul t x y vx vy v := by first | exact bin_mulW (IntWalk.i64_in _ (by omega)) | exact bin_mul _ _) : Bin P .mul t x y vx vy v := h
theorem b_quo_i64 (h : Bin P .quo t x y vx vy v := by first | exact bin_quoN (by omega) (IntWalk.i64_quo _ _ (by omega)) | exact bin_quo (by omega)) : Bin P .quo t x y vx vy v := h
theorem b_add_u64 (h : Bin P .add t x y vx vy v := by first | exact bin_addW (IntWalk.u64_in _ (by omega)) | exact bin_add _ _) : Bin P .add t x y vx vy v := h
theorem b_sub_u64 (h : Bin P .sub t x y vx vy v := by first | exact bin_subW (IntWalk.u64_in _ (by omega)) | exact bin_sub _ _) : Bin P .sub t x y vx vy v := h
theorem b_mul_u64 (h : Bin P .mul t x y vx vy v := by first | exact bin_mulW (IntWalk.u64_in _ (by omega)) | exact bin_mul _ _) : Bin P .mul t x y vx vy v := h
theorem b_quo_u64 (h : Bin P .quo t x y vx vy v := by first | exact bin_quoN (by omega) (IntWalk.u64_quo _ _ (by omega)) | exact bin_quo (by omega)) : Bin P .quo t x y vx vy v := h
theorem b_add_u32 (h : Bin P .add t x y vx vy v := by first | exact bin_addW (IntWalk.u32_in _ (by omega)) | exact bin_add _ _) : Bin P .add t x y vx vy v := h
theorem b_sub_u32 (h : Bin P .sub t x y vx vy v := by first | exact bin_subW (IntWalk.u32_in _ (by omega)) | exact bin_sub _ _) : Bin P .sub t x y vx vy v := h
theorem b_mul_u32 (h : Bin P .mul t x y vx vy v := by first | exact bin_mulW (IntWalk.u32_in _ (by omega)) | exact bin_mul _ _) : Bin P .mul t x y vx vy v := h
theorem b_quo_u32 (h : Bin P .quo t x y vx vy v := by first | exact bin_quoN (by omega) (IntWalk.u32_quo _ _ (by omega)) | exact bin_quo (by omega)) : Bin P .quo t x y vx vy v := h
theorem b_add_u8 (h : Bin P .add t x y vx vy v := by first | exact bin_addW (IntWalk.u8_in _ (by omega)) | exact bin_add _ _) : Bin P .add t x y vx vy v := h
theorem b_sub_u8 (h : Bin P .sub t x y vx vy v := by first | exact bin_subW (IntWalk.u8_in _ (by omega)) | exact bin_sub _ _) : Bin P .sub t x y vx vy v := h
theorem b_mul_u8 (h : Bin P .mul t x y vx vy v := by first | exact bin_mulW (IntWalk.u8_in _ (by omega)) | exact bin_mul _ _) : Bin P .mul t x y vx vy v := h
theorem b_quo_u8 (h : Bin P .quo t x y vx vy v := by first | exact bin_quoN (by omega) (IntWalk.u8_quo _ _ (by omega)) | exact bin_quo (by omega)) : Bin P .quo t x y vx vy v := h
theorem b_rem (h : Bin P .rem t x y vx vy v := by first | exact bin_remN (by omega) (by omega) | exact bin_rem (by omega)) : Bin P .rem t x y vx vy v := h
theorem b_shl (h : Bin P .shl t x y vx vy v := by exact bin_shl (by omega) (by simp only [IntKind.bits]; omega)) : Bin P .shl t x y vx vy v := h
theorem b_shr (h : Bin P .shr t x y vx vy v := by exact bin_shr (by omega) (by simp only [IntKind.bits]; omega)) : Bin P .shr t x y vx vy v := h
theorem b_lss (h : Bin P .lss t x y vx vy v := by first | exact bin_bool (bin_lss _ _) (decide_eq_true (by omega)) | exact bin_bool (bin_lss _ _) (decide_eq_false (by omega)) | exact bin_lss _ _) : Bin P .lss t x y vx vy v := h
theorem b_leq (h : Bin P .leq t x y vx vy v := by first | exact bin_bool (bin_leq _ _) (decide_eq_true (by omega)) | exact bin_bool (bin_leq _ _) (decide_eq_false (by omega)) | exact bin_leq _ _) : Bin P .leq t x y vx vy v := h
theorem b_gtr (h : Bin P .gtr t x y vx vy v := by first | exact bin_bool (bin_gtr _ _) (decide_eq_true (by omega)) | exact bin_bool (bin_gtr _ _) (decide_eq_false (by omega)) | exact bin_gtr _ _) : Bin P .gtr t x y vx vy v := h
theorem b_geq (h : Bin P .geq t x y vx vy v := by first | exact bin_bool (bin_geq _ _) (decide_eq_true (by omega)) | exact bin_bool (bin_geq _ _) (decide_eq_false (by omega)) | exact bin_geq _ _) : Bin P .geq t x y vx vy v := h
theorem b_eql (h : Bin P .eql t x y vx vy v := by first | exact bin_bool (bin_eql _ _) (decide_eq_true (by omega)) | exact bin_bool (bin_eql _ _) (decide_eq_false (by omega)) | exact bin_eql _ _) : Bin P .eql t x y vx vy v := h
theorem b_neq (h : Bin P .neq t x y vx vy v := by first | exact bin_bool (bin_neq _ _) (bnot_dec_true (by omega)) | exact bin_bool (bin_neq _ _) (bnot_dec_false (by omega)) | exact bin_neq _ _) : Bin P .neq t x y vx vy v := h
end
section
variable {P : Program} {N : Nat} {ops : Array Oper} {E : Env} {S : Mem} {K : Env → Mem → Prop} {os : List Oper}
variable {d : Nat} {op : Op} {ty : TypeId} {pos : String} {aft : Array Edge} {v : Value} {j : Nat} {t u : Bool}
theorem rC (hc : ACalm P N ⟨some d, op, ty, pos, aft, none⟩ E S v) (h : ARun P N ops os K ((d, v) :: E) S) (hn : d < N := by exact lit_lt rfl) : ARun P N ops (⟨some d, op, ty, pos, aft, none⟩ :: os) K E S := ARun.calm rfl rfl hn hc h
theorem rG (dj : Nat) (hc : ACalm P N ⟨some d, op, ty, pos, aft, some (j, t)⟩ E S v) (h : ARun P N ops os K ((d, v) :: E) S) (hb : lk E dj = some (.bool t) := by exact rfl) (hj : (ops[j]?).bind (·.dst) = some dj := by exact rfl) (hjn : dj < N := by exact lit_lt rfl) (hn : d < N := by exact lit_lt rfl) : ARun P N ops (⟨some d, op, ty, pos, aft, some (j, t)⟩ :: os) K E S := ARun.calmG j t dj rfl hj hjn hb rfl hn hc h
theorem rS (dj : Nat) (h : ARun P N ops os K ((d, undef) :: E) S) (hb : lk E dj = some (.bool u) := by exact rfl) (hne : (u == t) = false := by exact rfl) (hj : (ops[j]?).bind (·.dst) = some dj := by exact rfl) (hjn : dj < N := by exact lit_lt rfl) (hn : d < N := by exact lit_lt rfl) : ARun P N ops (⟨some d, op, ty, pos, aft, some (j, t)⟩ :: os) K E S := ARun.skipG j t u dj rfl hj hjn hb hne rfl hn h
theorem rU (dj : Nat) (h : ARun P N ops os K ((d, undef) :: E) S) (hb : lk E dj = some undef := by exact rfl) (hj : (ops[j]?).bind (·.dst) = some dj := by exact rfl) (hjn : dj < N := by exact lit_lt rfl) (hn : d < N := by exact lit_lt rfl) : ARun P N ops (⟨some d, op, ty, pos, aft, some (j, t)⟩ :: os) K E S := ARun.skipU j t dj rfl hj hjn hb rfl hn h
end
end Mv
end Go.Proofs.Ytddabbfjoejalaa
