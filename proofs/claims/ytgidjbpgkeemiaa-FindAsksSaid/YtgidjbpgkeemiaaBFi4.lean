/-
  Texts that belong together: SB1, SB2, SB3, SBR1, SBR2, SelMath, SelF, Sel1, Sel2, Sel3, Sel6, Sel10, Sel11, Sel12, Fd4, Fd5.
-/
import Derived.Test.YtgidjbpgkeemiaaBFi3
import Derived.Test.YtgidjbpgkeemiaaSBLib
import Derived.Test.YtgidjbpgkeemiaaBitsGet
import Derived.Test.YtgidjbpgkeemiaaBitsMath
set_option linter.unusedVariables false
set_option linter.unusedSimpArgs false
set_option linter.unusedSectionVars false
namespace Go.Proofs.Ytgidjbpgkeemiaa
open Go.RowKit
open Bits Mv
set_option maxRecDepth 20000
namespace Bits
/-- A Bitstr. -/
def bv (s : ByteArray) (N : Int) : Value := .agg #[.string s, .int .i64 N]
def two (a : Value) (e : Int) : Value := .tuple #[a, .int .i64 e]
theorem chk_right {B : List UInt8} {N : Int} (h : chk B N = 0) : right B N := by
 unfold chk at h
 split at h
 ·assumption
 ·cases h
theorem chk_two {B : List UInt8} {N : Int} (h : ¬ chk B N = 0) : chk B N = 2 := by
 unfold chk at h ⊢
 split at h
 ·exact absurd rfl h
 ·rename_i hn;rw [if_neg hn]
theorem tab_ones (l : List UInt8) (hl : ∀ j : Fin 256, nb (at8 l j.val) = (Lib.onesCount j.val : Int)) (x : Int) (h0 : 0 ≤ x) (h1 : x ≤ 255) : nb (at8 l x.toNat) = (Lib.onesCount x.toNat : Int) := hl ⟨x.toNat, by omega⟩
theorem bnot_t {p : Prop} [Decidable p] (h : (!decide p) = true) : ¬ p := by simpa using h
theorem bnot_f {p : Prop} [Decidable p] (h : (!decide p) = false) : p := by simpa using h
theorem wrM_nil (S : Mem) (p : Nat) : wrM S p none [] = S.set p ⟨129, [.slice none 0 0, .int .u64 0, .int .i64 0], 3⟩ := rfl
theorem okW_nil {S : Mem} {p : Nat} (h : Fresh S p) : OkW S p none [] := ⟨h, fun _ => by simp, fun b c e => by cases e⟩
theorem own_wrM_ok {S : Mem} {p b : Nat} {o : Option (Nat × Nat)} {L : List Bool} {r : Blk} (hk : OkW S p o L) (h : S.own b = some r) : (wrM S p o L).own b = some r :=
 own_wrM S p o L b r (hk.fp.ne h) (fun q c e=>(hk.own q c e).1.ne h) h
theorem chk_no {B : List UInt8} {N : Int} (h : ¬ right B N) : chk B N = 2 := if_neg h
theorem chk_yes {B : List UInt8} {N : Int} (h : right B N) : chk B N = 0 := if_pos h
theorem right_iff (B : List UInt8) (N : Int) (h0 : 0 ≤ N) (h1 : N ≤ 1048576) (h2 : B.length = (N.toNat + 7) / 8) : right B N ↔ (N % 8 = 0 ∨ IntKind.u8.wrap (nb (at8 B (N.toNat / 8)) * 2 ^ (N % 8).toNat) = 0) := by
 unfold right
 rw [right_last B N.toNat h2]
 have e:(N % 8).toNat=N.toNat % 8:=by omega
 have hz:=shl_zero (at8 B (N.toNat / 8)) (N.toNat % 8) (by omega)
 rw [IntKind.wrap_u8,e,hz]
 constructor
 ·rintro ⟨_,_,h | h⟩
  ·exact .inl (by omega)
  ·exact .inr h
 ·rintro (h | h)
  ·exact ⟨h0,h1,.inl (by omega)⟩
  ·exact ⟨h0,h1,.inr h⟩
end Bits
set_option maxRecDepth 100000 in
theorem bits_Ones8 (x : Int) (S : Mem) (h0 : 0 ≤ x) (h1 : x ≤ 255) : ACall Try.prog 177 #[.int .u8 x] S fun r S' => r = .int .i64 (Lib.onesCount x.toNat) ∧ S' = S := by
 refine ACall.enter (rs:=[.tmp 2]) 6 [(0,.int .u8 x)] Try.func177 rfl rfl (Nat.le_of_ble_eq_true rfl) rfl ⟨rfl,trivial⟩ ?_
 refine k_a (k_e rfl (k_a (k_m rfl ?_)))
 refine rC (Calm.indexStr (strT_spec ty_str_9) rfl rfl (by omega) (by simp [ByteArray.size];omega)) ?_
 refine rC (Calm.conv rfl (by first | exact conv_intW Try.underlying5 Try.underlying3 (IntWalk.i64_in _ (by omega)) | exact conv_intW Try.underlying5 Try.underlying3 (wrap_nb_i64 _) | exact conv_int Try.underlying5 Try.underlying3)) ?_
 refine k_e rfl ?_
 refine k_u [(0,_),(2,_)] ?_
 refine AWP.ret ?_
 refine ⟨_,_,⟨_,_,rfl,rfl,rfl⟩,less_,?_⟩
 exact ⟨val_int (tab_ones _ (by decide +kernel) x h0 h1),rfl⟩
set_option maxHeartbeats 1000000 in
theorem bitsV_Check (s : ByteArray) (N : Int) (S : Mem) (hs : s.size ≤ 9223372036854775807) :
  ACall Try.prog 139 #[.agg #[.string s,.int .i64 N]] S fun r S'=>r = .int .i64 (chk s.data.toList N)∧S'=S:=by
 by_cases h1:N<0
 ·rw [chk_no (fun h=>by have:=h.1;omega)]
  refine ACall.enter (rs:=[.tmp 2]) 40 [(0,.agg #[.string s,.int .i64 N])] Try.func139 rfl rfl (Nat.le_of_ble_eq_true rfl) rfl ⟨rfl,trivial⟩ ?_
  refine k_a ?_
  refine ARun.boxA (cs:=[_,_]) (lit_lt rfl) rfl ?_
  intro b1 f1
  have g1:=f1
  repeat ((with_reducible replace g1:=fresh_set g1);obtain ⟨g1,_⟩:=g1)
  try simp only [k_l1,k_l0,k_za,Nat.reduceAdd]
  refine k_e rfl (AWP.seq (k_a ?_))
  refine rC (Calm.fieldAddr ty_field_44_1 rfl) ?_
  refine rC (ld_ ty_plain_3 rfl) ?_
  refine rC (Calm.bin rfl rfl b_lss) ?_
  refine k_m rfl ?_
  first|refine k_q 7 ?_|refine rG 7 (Calm.fieldAddr ty_field_44_1 rfl) ?_
  first|refine k_q 7 ?_|refine rG 7 (ld_ ty_plain_3 rfl) ?_
  first|refine k_q 7 ?_|refine rG 7 (Calm.bin rfl rfl b_gtr) ?_
  first|refine k_t rfl rfl ?_|refine k_f rfl rfl ?_
  refine k_m rfl ?_
  first|refine k_q 12 ?_|refine rG 12 (Calm.fieldAddr ty_field_44_0 rfl) ?_
  first|refine k_q 12 ?_|refine rG 12 (ld_ ty_plain_9 rfl) ?_
  first|refine k_q 12 ?_|refine rG 12 (Calm.lenStr (strT_spec ty_str_9) rfl) ?_
  first|refine k_q 12 ?_|refine rG 12 (Calm.fieldAddr ty_field_44_1 rfl) ?_
  first|refine k_q 12 ?_|refine rG 12 (ld_ ty_plain_3 rfl) ?_
  first|refine k_q 12 ?_|refine rG 12 (Calm.bin rfl rfl b_add_i64) ?_
  first|refine k_q 12 ?_|refine rG 12 (Calm.bin rfl rfl b_sub_i64) ?_
  first|refine k_q 12 ?_|refine rG 12 (Calm.bin rfl rfl b_quo_i64) ?_
  first|refine k_q 12 ?_|refine rG 12 (Calm.bin rfl rfl b_neq) ?_
  first|refine k_t rfl rfl ?_|refine k_f rfl rfl ?_
  refine k_n ?_
  refine k_u [(0,_),(1,_),(2,_),(22,_)] ?_
  refine k_T rfl ?_
  refine k_a (k_e rfl ?_)
  refine k_r ?_
  refine ⟨_,S,⟨_,_,rfl,rfl,rfl⟩,less_,?_⟩
  exact ⟨rfl,rfl⟩
 by_cases h2:1048576<N
 ·rw [chk_no (fun h=>by have:=h.2.1;omega)]
  refine ACall.enter (rs:=[.tmp 2]) 40 [(0,.agg #[.string s,.int .i64 N])] Try.func139 rfl rfl (Nat.le_of_ble_eq_true rfl) rfl ⟨rfl,trivial⟩ ?_
  refine k_a ?_
  refine ARun.boxA (cs:=[_,_]) (lit_lt rfl) rfl ?_
  intro b1 f1
  have g1:=f1
  repeat ((with_reducible replace g1:=fresh_set g1);obtain ⟨g1,_⟩:=g1)
  try simp only [k_l1,k_l0,k_za,Nat.reduceAdd]
  refine k_e rfl (AWP.seq (k_a ?_))
  refine rC (Calm.fieldAddr ty_field_44_1 rfl) ?_
  refine rC (ld_ ty_plain_3 rfl) ?_
  refine rC (Calm.bin rfl rfl b_lss) ?_
  refine k_m rfl ?_
  first|refine k_q 7 ?_|refine rG 7 (Calm.fieldAddr ty_field_44_1 rfl) ?_
  first|refine k_q 7 ?_|refine rG 7 (ld_ ty_plain_3 rfl) ?_
  first|refine k_q 7 ?_|refine rG 7 (Calm.bin rfl rfl b_gtr) ?_
  first|refine k_t rfl rfl ?_|refine k_f rfl rfl ?_
  refine k_m rfl ?_
  first|refine k_q 12 ?_|refine rG 12 (Calm.fieldAddr ty_field_44_0 rfl) ?_
  first|refine k_q 12 ?_|refine rG 12 (ld_ ty_plain_9 rfl) ?_
  first|refine k_q 12 ?_|refine rG 12 (Calm.lenStr (strT_spec ty_str_9) rfl) ?_
  first|refine k_q 12 ?_|refine rG 12 (Calm.fieldAddr ty_field_44_1 rfl) ?_
  first|refine k_q 12 ?_|refine rG 12 (ld_ ty_plain_3 rfl) ?_
  first|refine k_q 12 ?_|refine rG 12 (Calm.bin rfl rfl b_add_i64) ?_
  first|refine k_q 12 ?_|refine rG 12 (Calm.bin rfl rfl b_sub_i64) ?_
  first|refine k_q 12 ?_|refine rG 12 (Calm.bin rfl rfl b_quo_i64) ?_
  first|refine k_q 12 ?_|refine rG 12 (Calm.bin rfl rfl b_neq) ?_
  first|refine k_t rfl rfl ?_|refine k_f rfl rfl ?_
  refine k_n ?_
  refine k_u [(0,_),(1,_),(2,_),(22,_)] ?_
  refine k_T rfl ?_
  refine k_a (k_e rfl ?_)
  refine k_r ?_
  refine ⟨_,S,⟨_,_,rfl,rfl,rfl⟩,less_,?_⟩
  exact ⟨rfl,rfl⟩
 have hsz:s.size=s.data.toList.length:=(Array.length_toList (xs:=s.data)).symm
 by_cases h3:(s.size:Int)=(N+7) / 8
 ·have hR:=Bits.right_iff s.data.toList N (by omega) (by omega) (by omega)
  by_cases h4:N % 8=0
  ·rw [chk_yes (hR.2 (.inl h4))]
   refine ACall.enter (rs:=[.tmp 2]) 40 [(0,.agg #[.string s,.int .i64 N])] Try.func139 rfl rfl (Nat.le_of_ble_eq_true rfl) rfl ⟨rfl,trivial⟩ ?_
   refine k_a ?_
   refine ARun.boxA (cs:=[_,_]) (lit_lt rfl) rfl ?_
   intro b1 f1
   have g1:=f1
   repeat ((with_reducible replace g1:=fresh_set g1);obtain ⟨g1,_⟩:=g1)
   try simp only [k_l1,k_l0,k_za,Nat.reduceAdd]
   refine k_e rfl (AWP.seq (k_a ?_))
   refine rC (Calm.fieldAddr ty_field_44_1 rfl) ?_
   refine rC (ld_ ty_plain_3 rfl) ?_
   refine rC (Calm.bin rfl rfl b_lss) ?_
   refine k_m rfl ?_
   first|refine k_q 7 ?_|refine rG 7 (Calm.fieldAddr ty_field_44_1 rfl) ?_
   first|refine k_q 7 ?_|refine rG 7 (ld_ ty_plain_3 rfl) ?_
   first|refine k_q 7 ?_|refine rG 7 (Calm.bin rfl rfl b_gtr) ?_
   first|refine k_t rfl rfl ?_|refine k_f rfl rfl ?_
   refine k_m rfl ?_
   first|refine k_q 12 ?_|refine rG 12 (Calm.fieldAddr ty_field_44_0 rfl) ?_
   first|refine k_q 12 ?_|refine rG 12 (ld_ ty_plain_9 rfl) ?_
   first|refine k_q 12 ?_|refine rG 12 (Calm.lenStr (strT_spec ty_str_9) rfl) ?_
   first|refine k_q 12 ?_|refine rG 12 (Calm.fieldAddr ty_field_44_1 rfl) ?_
   first|refine k_q 12 ?_|refine rG 12 (ld_ ty_plain_3 rfl) ?_
   first|refine k_q 12 ?_|refine rG 12 (Calm.bin rfl rfl b_add_i64) ?_
   first|refine k_q 12 ?_|refine rG 12 (Calm.bin rfl rfl b_sub_i64) ?_
   first|refine k_q 12 ?_|refine rG 12 (Calm.bin rfl rfl b_quo_i64) ?_
   first|refine k_q 12 ?_|refine rG 12 (Calm.bin rfl rfl b_neq) ?_
   first|refine k_t rfl rfl ?_|refine k_f rfl rfl ?_
   refine k_n ?_
   refine k_u [(0,_),(1,_),(2,_),(22,_)] ?_
   refine k_F rfl ?_
   refine k_k (AWP.seq (k_a ?_))
   refine rC (Calm.fieldAddr ty_field_44_1 rfl) ?_
   refine rC (ld_ ty_plain_3 rfl) ?_
   refine rC (Calm.bin rfl rfl b_rem) ?_
   refine k_e rfl ?_
   refine k_u [(0,_),(1,_),(2,_),(22,_),(3,_)] ?_
   refine k_a (k_m rfl ?_)
   refine rC (Calm.bin rfl rfl b_gtr) ?_
   refine k_m rfl ?_
   first|refine k_q 28 ?_|refine rG 28 (Calm.fieldAddr ty_field_44_0 rfl) ?_
   first|refine k_q 28 ?_|refine rG 28 (ld_ ty_plain_9 rfl) ?_
   first|refine k_q 28 ?_|refine rG 28 (Calm.fieldAddr ty_field_44_0 rfl) ?_
   first|refine k_q 28 ?_|refine rG 28 (ld_ ty_plain_9 rfl) ?_
   first|refine k_q 28 ?_|refine rG 28 (Calm.lenStr (strT_spec ty_str_9) rfl) ?_
   first|refine k_q 28 ?_|refine rG 28 (Calm.bin rfl rfl b_sub_i64) ?_
   first|refine k_q 28 ?_|refine rG 28 ((by first | exact Calm.indexStrN (strT_spec ty_str_9) rfl rfl (by omega) | exact Calm.indexStr (strT_spec ty_str_9) rfl rfl (by omega) (by omega))) ?_
   first|refine k_q 28 ?_|refine rG 28 (Calm.move rfl) ?_
   first|refine k_q 28 ?_|refine rG 28 (Calm.bin rfl rfl b_shl) ?_
   first|refine k_q 28 ?_|refine rG 28 (Calm.bin rfl rfl b_neq) ?_
   first|refine k_t rfl rfl ?_|refine k_f rfl rfl ?_
   refine k_n ?_
   refine k_u [(0,_),(1,_),(2,_),(22,_),(3,_),(39,_)] ?_
   refine k_F rfl ?_
   refine k_k (k_a (k_e rfl ?_))
   refine AWP.ret ?_
   refine ⟨_,S,⟨_,_,rfl,rfl,rfl⟩,less_,?_⟩
   exact ⟨rfl,rfl⟩
  ·have e1:((s.size:Int)-1).toNat=N.toNat / 8:=by omega
   refine ACall.enter (rs:=[.tmp 2]) 40 [(0,.agg #[.string s,.int .i64 N])] Try.func139 rfl rfl (Nat.le_of_ble_eq_true rfl) rfl ⟨rfl,trivial⟩ ?_
   refine k_a ?_
   refine ARun.boxA (cs:=[_,_]) (lit_lt rfl) rfl ?_
   intro b1 f1
   have g1:=f1
   repeat ((with_reducible replace g1:=fresh_set g1);obtain ⟨g1,_⟩:=g1)
   try simp only [k_l1,k_l0,k_za,Nat.reduceAdd]
   refine k_e rfl (AWP.seq (k_a ?_))
   refine rC (Calm.fieldAddr ty_field_44_1 rfl) ?_
   refine rC (ld_ ty_plain_3 rfl) ?_
   refine rC (Calm.bin rfl rfl b_lss) ?_
   refine k_m rfl ?_
   first|refine k_q 7 ?_|refine rG 7 (Calm.fieldAddr ty_field_44_1 rfl) ?_
   first|refine k_q 7 ?_|refine rG 7 (ld_ ty_plain_3 rfl) ?_
   first|refine k_q 7 ?_|refine rG 7 (Calm.bin rfl rfl b_gtr) ?_
   first|refine k_t rfl rfl ?_|refine k_f rfl rfl ?_
   refine k_m rfl ?_
   first|refine k_q 12 ?_|refine rG 12 (Calm.fieldAddr ty_field_44_0 rfl) ?_
   first|refine k_q 12 ?_|refine rG 12 (ld_ ty_plain_9 rfl) ?_
   first|refine k_q 12 ?_|refine rG 12 (Calm.lenStr (strT_spec ty_str_9) rfl) ?_
   first|refine k_q 12 ?_|refine rG 12 (Calm.fieldAddr ty_field_44_1 rfl) ?_
   first|refine k_q 12 ?_|refine rG 12 (ld_ ty_plain_3 rfl) ?_
   first|refine k_q 12 ?_|refine rG 12 (Calm.bin rfl rfl b_add_i64) ?_
   first|refine k_q 12 ?_|refine rG 12 (Calm.bin rfl rfl b_sub_i64) ?_
   first|refine k_q 12 ?_|refine rG 12 (Calm.bin rfl rfl b_quo_i64) ?_
   first|refine k_q 12 ?_|refine rG 12 (Calm.bin rfl rfl b_neq) ?_
   first|refine k_t rfl rfl ?_|refine k_f rfl rfl ?_
   refine k_n ?_
   refine k_u [(0,_),(1,_),(2,_),(22,_)] ?_
   refine k_F rfl ?_
   rw [← e1] at hR
   refine k_k (AWP.seq (k_a ?_))
   refine rC (Calm.fieldAddr ty_field_44_1 rfl) ?_
   refine rC (ld_ ty_plain_3 rfl) ?_
   refine rC (Calm.bin rfl rfl b_rem) ?_
   refine k_e rfl ?_
   refine k_u [(0,_),(1,_),(2,_),(22,_),(3,_)] ?_
   refine k_a (k_m rfl ?_)
   refine rC (Calm.bin rfl rfl b_gtr) ?_
   refine k_m rfl ?_
   first|refine k_q 28 ?_|refine rG 28 (Calm.fieldAddr ty_field_44_0 rfl) ?_
   first|refine k_q 28 ?_|refine rG 28 (ld_ ty_plain_9 rfl) ?_
   first|refine k_q 28 ?_|refine rG 28 (Calm.fieldAddr ty_field_44_0 rfl) ?_
   first|refine k_q 28 ?_|refine rG 28 (ld_ ty_plain_9 rfl) ?_
   first|refine k_q 28 ?_|refine rG 28 (Calm.lenStr (strT_spec ty_str_9) rfl) ?_
   first|refine k_q 28 ?_|refine rG 28 (Calm.bin rfl rfl b_sub_i64) ?_
   first|refine k_q 28 ?_|refine rG 28 ((by first | exact Calm.indexStrN (strT_spec ty_str_9) rfl rfl (by omega) | exact Calm.indexStr (strT_spec ty_str_9) rfl rfl (by omega) (by omega))) ?_
   first|refine k_q 28 ?_|refine rG 28 (Calm.move rfl) ?_
   first|refine k_q 28 ?_|refine rG 28 (Calm.bin rfl rfl b_shl) ?_
   first|refine k_q 28 ?_|refine rG 28 (Calm.bin rfl rfl b_neq) ?_
   first|refine k_t rfl rfl ?_|refine k_f rfl rfl ?_
   refine k_n ?_
   refine k_u [(0,_),(1,_),(2,_),(22,_),(3,_),(39,_)] ?_
   refine AWP.condB rfl (fun hc=>?_) (fun hc=>?_)
   ·refine k_a (k_e rfl ?_)
    refine k_r ?_
    refine ⟨_,S,⟨_,_,rfl,rfl,rfl⟩,less_,?_⟩
    exact ⟨by rw [chk_no (fun h=>by rcases hR.1 h with h | h;exact h4 h;exact bnot_t hc h)];rfl,rfl⟩
   ·refine k_k (k_a (k_e rfl ?_))
    refine AWP.ret ?_
    refine ⟨_,S,⟨_,_,rfl,rfl,rfl⟩,less_,?_⟩
    exact ⟨by rw [chk_yes (hR.2 (.inr (bnot_f hc)))];rfl,rfl⟩
 ·rw [chk_no (fun h=>h3 (by have:=h.2.2.1;omega))]
  refine ACall.enter (rs:=[.tmp 2]) 40 [(0,.agg #[.string s,.int .i64 N])] Try.func139 rfl rfl (Nat.le_of_ble_eq_true rfl) rfl ⟨rfl,trivial⟩ ?_
  refine k_a ?_
  refine ARun.boxA (cs:=[_,_]) (lit_lt rfl) rfl ?_
  intro b1 f1
  have g1:=f1
  repeat ((with_reducible replace g1:=fresh_set g1);obtain ⟨g1,_⟩:=g1)
  try simp only [k_l1,k_l0,k_za,Nat.reduceAdd]
  refine k_e rfl (AWP.seq (k_a ?_))
  refine rC (Calm.fieldAddr ty_field_44_1 rfl) ?_
  refine rC (ld_ ty_plain_3 rfl) ?_
  refine rC (Calm.bin rfl rfl b_lss) ?_
  refine k_m rfl ?_
  first|refine k_q 7 ?_|refine rG 7 (Calm.fieldAddr ty_field_44_1 rfl) ?_
  first|refine k_q 7 ?_|refine rG 7 (ld_ ty_plain_3 rfl) ?_
  first|refine k_q 7 ?_|refine rG 7 (Calm.bin rfl rfl b_gtr) ?_
  first|refine k_t rfl rfl ?_|refine k_f rfl rfl ?_
  refine k_m rfl ?_
  first|refine k_q 12 ?_|refine rG 12 (Calm.fieldAddr ty_field_44_0 rfl) ?_
  first|refine k_q 12 ?_|refine rG 12 (ld_ ty_plain_9 rfl) ?_
  first|refine k_q 12 ?_|refine rG 12 (Calm.lenStr (strT_spec ty_str_9) rfl) ?_
  first|refine k_q 12 ?_|refine rG 12 (Calm.fieldAddr ty_field_44_1 rfl) ?_
  first|refine k_q 12 ?_|refine rG 12 (ld_ ty_plain_3 rfl) ?_
  first|refine k_q 12 ?_|refine rG 12 (Calm.bin rfl rfl b_add_i64) ?_
  first|refine k_q 12 ?_|refine rG 12 (Calm.bin rfl rfl b_sub_i64) ?_
  first|refine k_q 12 ?_|refine rG 12 (Calm.bin rfl rfl b_quo_i64) ?_
  first|refine k_q 12 ?_|refine rG 12 (Calm.bin rfl rfl b_neq) ?_
  first|refine k_t rfl rfl ?_|refine k_f rfl rfl ?_
  refine k_n ?_
  refine k_u [(0,_),(1,_),(2,_),(22,_)] ?_
  refine k_T rfl ?_
  refine k_a (k_e rfl ?_)
  refine k_r ?_
  refine ⟨_,S,⟨_,_,rfl,rfl,rfl⟩,less_,?_⟩
  exact ⟨rfl,rfl⟩
end Go.Proofs.Ytgidjbpgkeemiaa
namespace Go.Proofs.Ytgidjbpgkeemiaa
open Go.RowKit
open Bits Mv
set_option maxRecDepth 20000
namespace Bits
theorem size_list (s : ByteArray) : s.size = s.data.toList.length := (Array.length_toList (xs := s.data)).symm
end Bits
end Go.Proofs.Ytgidjbpgkeemiaa
namespace Go.Proofs.Ytgidjbpgkeemiaa
open Go.RowKit
open Bits Mv
set_option maxRecDepth 20000
namespace Bits
/-! ### A bit that is turned -/
def flip (L : List Bool) (i : Nat) : List Bool := L.set i (!(L.getD i false))
theorem flip_length (L : List Bool) (i : Nat) : (flip L i).length = L.length := by simp [flip]
def mask (t : Nat) : UInt8 := UInt8.ofNat (2 ^ t)
theorem mask_nat (t : Nat) (h : t < 8) : (mask t).toNat = 2 ^ t := by
 unfold mask;rw [UInt8.toNat_ofNat']
 have:2 ^ t≤2 ^ 7:=Nat.pow_le_pow_right (by decide) (by omega)
 have:=Nat.two_pow_pos t
 omega
theorem tb (x i : Nat) : (x / 2 ^ i % 2 == 1) = x.testBit i := by
 rw [Nat.testBit_eq_decide_div_mod_eq,Bool.eq_iff_iff];simp
theorem bit_xor (a : UInt8) (t u : Nat) (ht : t < 8) : ((a ^^^ mask t).toNat / 2 ^ u % 2 == 1) = ((a.toNat / 2 ^ u % 2 == 1) != decide (t = u)) := by
 rw [tb,tb,UInt8.toNat_xor,mask_nat t ht,Nat.testBit_xor,Nat.testBit_two_pow]
theorem isBit_set (B : List UInt8) (j k : Nat) (c : UInt8) (hj : j < B.length) : isBit (B.set j c) k = if k / 8 = j then (c.toNat / 2 ^ (7 - k % 8) % 2 == 1) else isBit B k := by
 unfold isBit
 by_cases h:k / 8=j
 ·rw [if_pos h,h,at8_set_same _ _ _ hj]
 ·rw [if_neg h,at8_set_other _ _ _ _ h]
theorem turn_bytes (B : List UInt8) (N i : Nat) (hR : Right B N) (hi : i < N) : B.set (i / 8) (at8 B (i / 8) ^^^ mask (7 - i % 8)) = pack (flip (upto B N) i) := by
 have hj:i / 8<B.length:=by rw [hR.1];omega
 have hbit:∀ k,isBit (B.set (i / 8) (at8 B (i / 8) ^^^ mask (7-i % 8))) k=(isBit B k != decide (k=i)):=fun k=>by
  rw [isBit_set _ _ _ _ hj]
  by_cases h:k / 8=i / 8
  ·rw [if_pos h,bit_xor _ _ _ (by omega)]
   have e:decide (7-i % 8=7-k % 8)=decide (k=i):=by
    rw [Bool.eq_iff_iff];simp only [decide_eq_true_eq];omega
   rw [e];unfold isBit;rw [h]
  ·rw [if_neg h]
   have:decide (k=i)=false:=by rw [decide_eq_false_iff_not];intro x;subst x;exact h rfl
   rw [this];simp
 have hR2:Right (B.set (i / 8) (at8 B (i / 8) ^^^ mask (7-i % 8))) N:=by
  refine ⟨by rw [List.length_set];exact hR.1,fun k h1 h2=>?_⟩
  rw [List.length_set] at h2
  rw [hbit,hR.2 k h1 h2]
  have:decide (k=i)=false:=by rw [decide_eq_false_iff_not];omega
  rw [this];rfl
 refine right_ext (n:=N) hR2 ?_ ?_
 ·have:=right_pack (flip (upto B N) i)
  rwa [flip_length,upto_length] at this
 ·have h9:=upto_pack (flip (upto B N) i)
  rw [flip_length,upto_length] at h9
  rw [h9]
  apply List.ext_getElem
  ·simp [upto_length,flip_length]
  ·intro k h1 h2
   have hk:k<N:=by simpa [upto_length] using h1
   simp only [upto,List.getElem_map,List.getElem_range]
   rw [hbit]
   simp only [flip,List.getElem_set,upto,List.getElem_map,List.getElem_range]
   by_cases h:i=k
   ·subst h;simp [List.getD,hi]
   ·have:decide (k=i)=false:=by rw [decide_eq_false_iff_not];omega
    rw [this,if_neg h];simp
theorem cellsB_get (l : List UInt8) (j : Nat) (h : j < l.length) : (cellsB l)[j]? = some (.int .u8 (nb (at8 l j))) := by
 simp [cellsB,List.getElem?_map,List.getElem?_eq_getElem h,at8_get l j h]
theorem cellsB_set (l : List UInt8) (j : Nat) (c : UInt8) : (cellsB l).set j (.int .u8 (nb c)) = cellsB (l.set j c) := by
 simp [cellsB,List.map_set]
theorem mask_int (x : Int) (h0 : 0 ≤ x) (h1 : x < 8) : IntKind.u8.wrap (1 * 2 ^ x.toNat) = nb (mask x.toNat) := by
 have e:((2:Int) ^ x.toNat)=((2 ^ x.toNat:Nat):Int):=by simp
 have:2 ^ x.toNat≤2 ^ 7:=Nat.pow_le_pow_right (by decide) (by omega)
 have hp:=Nat.two_pow_pos x.toNat
 rw [Int.one_mul,e,IntWalk.u8_in _ (by omega),nb_byte,mask_nat _ (by omega)]

/-! ### Ones -/
theorem ones_byte (c : UInt8) : (Lib.onesCount c.toNat) = (numB c.toNat 8).count true := by
 have:∀ j:Fin 256,Lib.onesCount j.val=(numB j.val 8).count true:=by decide +kernel
 exact this ⟨c.toNat,c.toNat_lt⟩
theorem upto_eight (B : List UInt8) (k : Nat) : upto B (8 * (k + 1)) = upto B (8 * k) ++ numB (at8 B k).toNat 8 := by
 rw [← slc_upto,← slc_upto,show 8*(k+1)=8*k+8 from by omega,slc_add,Nat.zero_add,slc_byte B (8*k) 8 (by omega)]
 rw [show 8*k / 8=k from by omega,show 8-8*k % 8-8=0 from by omega,Nat.pow_zero,Nat.div_one]
end Bits
end Go.Proofs.Ytgidjbpgkeemiaa
namespace Go.Proofs.Ytgidjbpgkeemiaa
open Go.RowKit
open Bits Mv
set_option maxRecDepth 20000
namespace Bits
theorem is_val (B : List UInt8) (i : Int) (h0 : 0 ≤ i) : (0 ≤ nb (at8 B (i / 8).toNat) / 2 ^ (7 - i % 8).toNat) ∧ decide (nb (at8 B (i / 8).toNat) / 2 ^ (7 - i % 8).toNat % 2 = 1) = isBit B i.toNat := by
 have e1:(i / 8).toNat=i.toNat / 8:=by omega
 have e2:(7-i % 8).toNat=7-i.toNat % 8:=by omega
 have e3:nb (at8 B (i.toNat / 8)) / 2 ^ (7-i.toNat % 8)=(((at8 B (i.toNat / 8)).toNat / 2 ^ (7-i.toNat % 8):Nat):Int):=by rw [nb_byte];simp
 rw [e1,e2,e3]
 refine ⟨Int.natCast_nonneg _,?_⟩
 unfold isBit
 rw [Bool.eq_iff_iff]
 simp only [decide_eq_true_eq,beq_iff_eq]
 omega
def bl (L : List Bool) : List Value := L.map fun b => .bool b
/-- The first i bits of a list, and nothing behind. -/
def msk (L : List Bool) (i : Nat) : List Bool := L.take i ++ List.replicate (L.length - i) false
theorem msk_length (L : List Bool) (i : Nat) (h : i ≤ L.length) : (msk L i).length = L.length := by simp [msk]; omega
theorem msk_all (L : List Bool) : msk L L.length = L := by simp [msk]
theorem msk_get (L : List Bool) (i k : Nat) (h : k < L.length) : (msk L i)[k]? = some (if k < i then L.getD k false else false) := by
 unfold msk
 by_cases hk:k<i
 ·rw [List.getElem?_append_left (by simp;omega),List.getElem?_take_of_lt hk,if_pos hk];simp [List.getD,List.getElem?_eq_getElem h]
 ·rw [List.getElem?_append_right (by simp;omega),if_neg hk,List.getElem?_replicate,if_pos (by simp;omega)]
theorem msk_skip (L : List Bool) (i : Nat) (h : i < L.length) (hb : L.getD i false = false) : msk L (i + 1) = msk L i := by
 apply List.ext_getElem?
 intro k
 by_cases hk:k<L.length
 ·rw [msk_get _ _ _ hk,msk_get _ _ _ hk]
  by_cases e:k=i
  ·subst e;rw [if_pos (by omega),if_neg (by omega),hb]
  ·by_cases h1:k<i
   ·rw [if_pos (by omega),if_pos h1]
   ·rw [if_neg (by omega),if_neg h1]
 ·rw [List.getElem?_eq_none (by rw [msk_length _ _ (by omega)];omega),List.getElem?_eq_none (by rw [msk_length _ _ (by omega)];omega)]
theorem msk_flip (L : List Bool) (i : Nat) (h : i < L.length) (hb : L.getD i false = true) : msk L (i + 1) = flip (msk L i) i := by
 have hi:(msk L i).getD i false=false:=by simp [List.getD,msk_get _ _ _ h]
 apply List.ext_getElem?
 intro k
 unfold flip
 rw [hi,List.getElem?_set]
 by_cases hk:k<L.length
 ·rw [msk_get _ _ _ hk,msk_get _ _ _ hk]
  by_cases e:i=k
  ·subst e;rw [if_pos (by omega),if_pos rfl,hb,if_pos (by rw [msk_length _ _ (by omega)];exact h)];rfl
  ·rw [if_neg e]
   by_cases h1:k<i
   ·rw [if_pos (by omega),if_pos h1]
   ·rw [if_neg (by omega),if_neg h1]
 ·rw [List.getElem?_eq_none (by rw [msk_length _ _ (by omega)];omega),if_neg (by omega),List.getElem?_eq_none (by rw [msk_length _ _ (by omega)];omega)]
theorem add_bit (c : UInt8) (t : Nat) (ht : t < 8) (h : (c.toNat / 2 ^ t % 2 == 1) = false) : IntKind.u8.wrap (nb c + nb (mask t)) = nb (c ^^^ mask t) := by
 have key:∀ (x:Fin 256) (u:Fin 8),(x.val / 2 ^ u.val % 2 == 1)=false→(x.val ^^^ 2 ^ u.val)=x.val+2 ^ u.val∧x.val+2 ^ u.val<256:=by decide +kernel
 obtain ⟨h1,h2⟩:=key ⟨c.toNat,c.toNat_lt⟩ ⟨t,ht⟩ h
 have h1:c.toNat ^^^ 2 ^ t=c.toNat+2 ^ t:=h1
 have h2:c.toNat+2 ^ t<256:=h2
 rw [nb_byte,nb_byte,nb_byte,UInt8.toNat_xor,mask_nat t ht,h1,IntWalk.u8_in _ (by omega)]
 omega
theorem of_step (L : List Bool) (i : Nat) (h : i < L.length) (hb : L.getD i false = true) :
  IntKind.u8.wrap (nb (at8 (pack (msk L i)) (i / 8))+nb (mask (7-i % 8)))=nb (at8 (pack (msk L i)) (i / 8) ^^^ mask (7-i % 8))∧(pack (msk L i)).set (i / 8) (at8 (pack (msk L i)) (i / 8) ^^^ mask (7-i % 8))=pack (msk L (i+1)):=by
 have hl:=msk_length L i (by omega)
 constructor
 ·refine add_bit _ _ (by omega) ?_
  have:=isBit_pack (msk L i) i (by rw [hl];omega)
  rw [msk_get _ _ _ h,if_neg (by omega)] at this
  exact this
 ·have hR:=right_pack (msk L i)
  rw [hl] at hR
  have h9:=upto_pack (msk L i)
  rw [hl] at h9
  rw [turn_bytes _ L.length i hR h,h9,msk_flip L i h hb]
theorem pack_zero (L : List Bool) : pack (msk L 0) = List.replicate ((L.length + 7) / 8) 0 := by
 have e:msk L 0=List.replicate L.length false:=by simp [msk]
 rw [e]
 refine at8_ext (by simp [pack_length]) fun k hk=>?_
 simp only [pack_length,List.length_replicate] at hk
 apply byte_ext
 intro j hj
 have h1:=isBit_pack (List.replicate L.length false) (8*k+j) (by simp;omega)
 have h2:((List.replicate L.length false)[8*k+j]?).getD false=false:=by
  rw [List.getElem?_replicate];split <;> rfl
 rw [h2] at h1
 unfold isBit at h1
 rw [show (8*k+j) / 8=k from by omega,show (8*k+j) % 8=j from by omega] at h1
 rw [h1,at8_get _ _ (by simpa using hk)]
 simp
end Bits
set_option maxHeartbeats 400000 in
theorem refV_Is (s : ByteArray) (N i : Int) (S : Mem) (h0 : 0 ≤ i) (h1 : i < 8 * s.size) (hs : s.size ≤ 281474976710656) :
  ACall Try.prog 175 #[.agg #[.string s,.int .i64 N],.int .i64 i] S fun r S'=>r = .bool (isBit s.data.toList i.toNat)∧S'=S:=by
 obtain ⟨hp,hd⟩:=is_val s.data.toList i h0
 refine ACall.enter (rs:=[.tmp 4]) 17 [(0,.agg #[.string s,.int .i64 N]),(1,.int .i64 i)] Try.func175 rfl rfl (Nat.le_of_ble_eq_true rfl) rfl ⟨rfl,rfl,trivial⟩ ?_
 refine k_a ?_
 refine ARun.boxA (cs:=[_,_]) (lit_lt rfl) rfl ?_
 intro b2 f2
 have g2:=f2
 repeat ((with_reducible replace g2:=fresh_set g2);obtain ⟨g2,_⟩:=g2)
 try simp only [k_l1,k_l0,k_za,Nat.reduceAdd]
 refine k_e rfl (k_a ?_)
 refine rC (Calm.fieldAddr ty_field_44_0 rfl) ?_
 refine rC (ld_ ty_plain_9 rfl) ?_
 refine k_m rfl ?_
 refine rC (Calm.bin rfl rfl b_quo_i64) ?_
 refine rC ((by first | exact Calm.indexStrN (strT_spec ty_str_9) rfl rfl (by omega) | exact Calm.indexStr (strT_spec ty_str_9) rfl rfl (by omega) (by omega))) ?_
 refine k_m rfl ?_
 refine rC (Calm.bin rfl rfl b_rem) ?_
 refine rC (Calm.bin rfl rfl b_sub_i64) ?_
 refine rC (Calm.conv rfl (by first | exact conv_intW Try.underlying3 Try.underlying139 (IntWalk.u64_in _ (by omega)) | exact conv_int Try.underlying3 Try.underlying139)) ?_
 refine rC (Calm.bin rfl rfl b_shr) ?_
 refine rC (Calm.bin rfl rfl b_rem) ?_
 refine rC (Calm.bin rfl rfl b_eql) ?_
 refine k_e rfl ?_
 refine k_u [(0,_),(1,_),(2,_),(4,_)] ?_
 refine AWP.ret ?_
 refine ⟨_,S,⟨_,_,rfl,rfl,rfl⟩,less_,?_⟩
 exact ⟨by rw [← hd];rfl,rfl⟩
set_option maxHeartbeats 1000000 in
theorem refV_Check (s : ByteArray) (N : Int) (S : Mem) (hs : s.size ≤ 9223372036854775807) :
  ACall Try.prog 142 #[.agg #[.string s,.int .i64 N]] S fun r S'=>r = .int .i64 (chk s.data.toList N)∧S'=S:=by
 by_cases h1:N<0
 ·rw [chk_no (fun h=>by have:=h.1;omega)]
  refine ACall.enter (rs:=[.tmp 2]) 35 [(0,.agg #[.string s,.int .i64 N])] Try.func142 rfl rfl (Nat.le_of_ble_eq_true rfl) rfl ⟨rfl,trivial⟩ ?_
  refine k_a ?_
  refine ARun.boxA (cs:=[_,_]) (lit_lt rfl) rfl ?_
  intro b1 f1
  have g1:=f1
  repeat ((with_reducible replace g1:=fresh_set g1);obtain ⟨g1,_⟩:=g1)
  try simp only [k_l1,k_l0,k_za,Nat.reduceAdd]
  refine k_e rfl (AWP.seq (k_a ?_))
  refine rC (Calm.fieldAddr ty_field_44_1 rfl) ?_
  refine rC (ld_ ty_plain_3 rfl) ?_
  refine rC (Calm.bin rfl rfl b_lss) ?_
  refine k_m rfl ?_
  first|refine k_q 7 ?_|refine rG 7 (Calm.fieldAddr ty_field_44_1 rfl) ?_
  first|refine k_q 7 ?_|refine rG 7 (ld_ ty_plain_3 rfl) ?_
  first|refine k_q 7 ?_|refine rG 7 (Calm.bin rfl rfl b_gtr) ?_
  first|refine k_t rfl rfl ?_|refine k_f rfl rfl ?_
  refine k_m rfl ?_
  first|refine k_q 12 ?_|refine rG 12 (Calm.fieldAddr ty_field_44_0 rfl) ?_
  first|refine k_q 12 ?_|refine rG 12 (ld_ ty_plain_9 rfl) ?_
  first|refine k_q 12 ?_|refine rG 12 (Calm.lenStr (strT_spec ty_str_9) rfl) ?_
  first|refine k_q 12 ?_|refine rG 12 (Calm.fieldAddr ty_field_44_1 rfl) ?_
  first|refine k_q 12 ?_|refine rG 12 (ld_ ty_plain_3 rfl) ?_
  first|refine k_q 12 ?_|refine rG 12 (Calm.bin rfl rfl b_add_i64) ?_
  first|refine k_q 12 ?_|refine rG 12 (Calm.bin rfl rfl b_quo_i64) ?_
  first|refine k_q 12 ?_|refine rG 12 (Calm.bin rfl rfl b_neq) ?_
  first|refine k_t rfl rfl ?_|refine k_f rfl rfl ?_
  refine k_n ?_
  refine k_u [(0,_),(1,_),(2,_),(21,_)] ?_
  refine k_T rfl ?_
  refine k_a (k_e rfl ?_)
  refine k_r ?_
  refine ⟨_,S,⟨_,_,rfl,rfl,rfl⟩,less_,?_⟩
  exact ⟨rfl,rfl⟩
 by_cases h2:1048576<N
 ·rw [chk_no (fun h=>by have:=h.2.1;omega)]
  refine ACall.enter (rs:=[.tmp 2]) 35 [(0,.agg #[.string s,.int .i64 N])] Try.func142 rfl rfl (Nat.le_of_ble_eq_true rfl) rfl ⟨rfl,trivial⟩ ?_
  refine k_a ?_
  refine ARun.boxA (cs:=[_,_]) (lit_lt rfl) rfl ?_
  intro b1 f1
  have g1:=f1
  repeat ((with_reducible replace g1:=fresh_set g1);obtain ⟨g1,_⟩:=g1)
  try simp only [k_l1,k_l0,k_za,Nat.reduceAdd]
  refine k_e rfl (AWP.seq (k_a ?_))
  refine rC (Calm.fieldAddr ty_field_44_1 rfl) ?_
  refine rC (ld_ ty_plain_3 rfl) ?_
  refine rC (Calm.bin rfl rfl b_lss) ?_
  refine k_m rfl ?_
  first|refine k_q 7 ?_|refine rG 7 (Calm.fieldAddr ty_field_44_1 rfl) ?_
  first|refine k_q 7 ?_|refine rG 7 (ld_ ty_plain_3 rfl) ?_
  first|refine k_q 7 ?_|refine rG 7 (Calm.bin rfl rfl b_gtr) ?_
  first|refine k_t rfl rfl ?_|refine k_f rfl rfl ?_
  refine k_m rfl ?_
  first|refine k_q 12 ?_|refine rG 12 (Calm.fieldAddr ty_field_44_0 rfl) ?_
  first|refine k_q 12 ?_|refine rG 12 (ld_ ty_plain_9 rfl) ?_
  first|refine k_q 12 ?_|refine rG 12 (Calm.lenStr (strT_spec ty_str_9) rfl) ?_
  first|refine k_q 12 ?_|refine rG 12 (Calm.fieldAddr ty_field_44_1 rfl) ?_
  first|refine k_q 12 ?_|refine rG 12 (ld_ ty_plain_3 rfl) ?_
  first|refine k_q 12 ?_|refine rG 12 (Calm.bin rfl rfl b_add_i64) ?_
  first|refine k_q 12 ?_|refine rG 12 (Calm.bin rfl rfl b_quo_i64) ?_
  first|refine k_q 12 ?_|refine rG 12 (Calm.bin rfl rfl b_neq) ?_
  first|refine k_t rfl rfl ?_|refine k_f rfl rfl ?_
  refine k_n ?_
  refine k_u [(0,_),(1,_),(2,_),(21,_)] ?_
  refine k_T rfl ?_
  refine k_a (k_e rfl ?_)
  refine k_r ?_
  refine ⟨_,S,⟨_,_,rfl,rfl,rfl⟩,less_,?_⟩
  exact ⟨rfl,rfl⟩
 have hsz:=size_list s
 by_cases h3:(s.size:Int)=(N+7) / 8
 ·obtain ⟨n,rfl⟩ : ∃ n:Nat,N=n:=⟨N.toNat,by omega⟩
  refine ACall.enter (rs:=[.tmp 2]) 35 [(0,.agg #[.string s,.int .i64 n])] Try.func142 rfl rfl (Nat.le_of_ble_eq_true rfl) rfl ⟨rfl,trivial⟩ ?_
  refine k_a ?_
  refine ARun.boxA (cs:=[_,_]) (lit_lt rfl) rfl ?_
  intro b1 f1
  have g1:=f1
  repeat ((with_reducible replace g1:=fresh_set g1);obtain ⟨g1,_⟩:=g1)
  try simp only [k_l1,k_l0,k_za,Nat.reduceAdd]
  refine k_e rfl (AWP.seq (k_a ?_))
  refine rC (Calm.fieldAddr ty_field_44_1 rfl) ?_
  refine rC (ld_ ty_plain_3 rfl) ?_
  refine rC (Calm.bin rfl rfl b_lss) ?_
  refine k_m rfl ?_
  first|refine k_q 7 ?_|refine rG 7 (Calm.fieldAddr ty_field_44_1 rfl) ?_
  first|refine k_q 7 ?_|refine rG 7 (ld_ ty_plain_3 rfl) ?_
  first|refine k_q 7 ?_|refine rG 7 (Calm.bin rfl rfl b_gtr) ?_
  first|refine k_t rfl rfl ?_|refine k_f rfl rfl ?_
  refine k_m rfl ?_
  first|refine k_q 12 ?_|refine rG 12 (Calm.fieldAddr ty_field_44_0 rfl) ?_
  first|refine k_q 12 ?_|refine rG 12 (ld_ ty_plain_9 rfl) ?_
  first|refine k_q 12 ?_|refine rG 12 (Calm.lenStr (strT_spec ty_str_9) rfl) ?_
  first|refine k_q 12 ?_|refine rG 12 (Calm.fieldAddr ty_field_44_1 rfl) ?_
  first|refine k_q 12 ?_|refine rG 12 (ld_ ty_plain_3 rfl) ?_
  first|refine k_q 12 ?_|refine rG 12 (Calm.bin rfl rfl b_add_i64) ?_
  first|refine k_q 12 ?_|refine rG 12 (Calm.bin rfl rfl b_quo_i64) ?_
  first|refine k_q 12 ?_|refine rG 12 (Calm.bin rfl rfl b_neq) ?_
  first|refine k_t rfl rfl ?_|refine k_f rfl rfl ?_
  refine k_n ?_
  refine k_u [(0,_),(1,_),(2,_),(21,_)] ?_
  refine k_F rfl ?_
  refine k_k (AWP.seq (k_a ?_))
  refine rC (Calm.fieldAddr ty_field_44_1 rfl) ?_
  refine rC (ld_ ty_plain_3 rfl) ?_
  refine k_e rfl ?_
  refine k_u [(0,_),(1,_),(2,_),(21,_),(3,_)] ?_
  refine AWP.block ?_
  refine AWP.loop (X:=Nat) (fun x=>[(1,.pointer (some ⟨b1,0,none⟩)),(3,.int .i64 x)]) (fun x=>S.set b1 ⟨44,[.string s,.int .i64 n],2⟩) (fun x=>n≤x ∧ ∀ k,n≤k→k<x→isBit s.data.toList k=false) (fun x=>8*s.size-x) (n) ⟨rfl,rfl,trivial⟩ less_ (⟨Nat.le_refl _,fun k a b=>by omega⟩) ?_
  rintro k ⟨hk,hb⟩
  (try dsimp only at *)
  refine AWP.seq (k_a (k_m rfl ?_))
  refine rC (Calm.fieldAddr ty_field_44_0 rfl) ?_
  refine rC (ld_ ty_plain_9 rfl) ?_
  refine rC (Calm.lenStr (strT_spec ty_str_9) rfl) ?_
  refine rC (Calm.bin rfl rfl b_mul_i64) ?_
  refine rC (Calm.bin rfl rfl b_lss) ?_
  refine k_n ?_
  refine k_u [(1,_),(3,_),(29,_)] ?_
  refine AWP.condB rfl (fun hl=>?_) (fun hl=>?_)
  ·have hl:k<8*s.size:=by have:=of_decide_eq_true hl;omega
   refine k_k (AWP.seq ?_)
   refine AWP.block ?_
   refine k_a ?_
   refine rC (ldA_ (cs:=[_,_]) ty_agg_44 ty_size_44 rfl) ?_
   refine k_m rfl ?_
   refine ARun.call (lit_lt rfl) go_175 rfl (refV_Is s n k _ (by omega) (by omega) (by omega)) ?_
   rintro _ _ ⟨rfl,rfl⟩
   rw [Int.toNat_natCast]
   refine k_n ?_
   refine k_u [(1,_),(3,_),(29,_),(34,_)] ?_
   refine AWP.condB rfl (fun hx=>?_) (fun hx=>?_)
   ·refine k_a (k_e rfl ?_)
    refine AWP.ret ?_
    refine ain_ret ?_
    refine athen_ret ?_
    refine athen_ret ?_
    refine ain_ret ?_
    refine athen_ret ?_
    refine ⟨_,S,⟨_,_,rfl,rfl,rfl⟩,less_,?_⟩
    exact ⟨by rw [chk_no (fun h=>by have:=h.2.2.2 k (by omega) (by omega);rw [this] at hx;cases hx)];rfl,rfl⟩
   ·refine AWP.skip ?_
    refine ain_n ?_
    refine athen_n ?_
    refine AWP.region ?_
    refine k_m rfl ?_
    refine rC (Calm.bin rfl rfl b_add_i64) ?_
    refine k_e rfl ?_
    refine ⟨k+1,?_,?_,?_,?_⟩
    all_goals (try dsimp only)
    ·exact ⟨rfl,some_int (by omega),trivial⟩
    ·exact Mem.Less.refl _
    ·exact ⟨by omega,fun j a b=>by by_cases e:j=k;rw [e];exact hx;exact hb j a (by omega)⟩
    ·omega
  ·have hl:8*s.size≤k:=by have:=of_decide_eq_false hl;omega
   refine AWP.exit ?_
   refine athen_exit ?_
   refine athen_exit ?_
   refine ain_same ?_
   refine athen_n ?_
   refine k_a (k_e rfl ?_)
   refine AWP.ret ?_
   refine ⟨_,S,⟨_,_,rfl,rfl,rfl⟩,less_,?_⟩
   exact ⟨by rw [chk_yes ⟨by omega,by omega,by omega,fun j a b=>hb j (by omega) (by omega)⟩];rfl,rfl⟩
 ·rw [chk_no (fun h=>h3 (by have:=h.2.2.1;omega))]
  refine ACall.enter (rs:=[.tmp 2]) 35 [(0,.agg #[.string s,.int .i64 N])] Try.func142 rfl rfl (Nat.le_of_ble_eq_true rfl) rfl ⟨rfl,trivial⟩ ?_
  refine k_a ?_
  refine ARun.boxA (cs:=[_,_]) (lit_lt rfl) rfl ?_
  intro b1 f1
  have g1:=f1
  repeat ((with_reducible replace g1:=fresh_set g1);obtain ⟨g1,_⟩:=g1)
  try simp only [k_l1,k_l0,k_za,Nat.reduceAdd]
  refine k_e rfl (AWP.seq (k_a ?_))
  refine rC (Calm.fieldAddr ty_field_44_1 rfl) ?_
  refine rC (ld_ ty_plain_3 rfl) ?_
  refine rC (Calm.bin rfl rfl b_lss) ?_
  refine k_m rfl ?_
  first|refine k_q 7 ?_|refine rG 7 (Calm.fieldAddr ty_field_44_1 rfl) ?_
  first|refine k_q 7 ?_|refine rG 7 (ld_ ty_plain_3 rfl) ?_
  first|refine k_q 7 ?_|refine rG 7 (Calm.bin rfl rfl b_gtr) ?_
  first|refine k_t rfl rfl ?_|refine k_f rfl rfl ?_
  refine k_m rfl ?_
  first|refine k_q 12 ?_|refine rG 12 (Calm.fieldAddr ty_field_44_0 rfl) ?_
  first|refine k_q 12 ?_|refine rG 12 (ld_ ty_plain_9 rfl) ?_
  first|refine k_q 12 ?_|refine rG 12 (Calm.lenStr (strT_spec ty_str_9) rfl) ?_
  first|refine k_q 12 ?_|refine rG 12 (Calm.fieldAddr ty_field_44_1 rfl) ?_
  first|refine k_q 12 ?_|refine rG 12 (ld_ ty_plain_3 rfl) ?_
  first|refine k_q 12 ?_|refine rG 12 (Calm.bin rfl rfl b_add_i64) ?_
  first|refine k_q 12 ?_|refine rG 12 (Calm.bin rfl rfl b_quo_i64) ?_
  first|refine k_q 12 ?_|refine rG 12 (Calm.bin rfl rfl b_neq) ?_
  first|refine k_t rfl rfl ?_|refine k_f rfl rfl ?_
  refine k_n ?_
  refine k_u [(0,_),(1,_),(2,_),(21,_)] ?_
  refine k_T rfl ?_
  refine k_a (k_e rfl ?_)
  refine k_r ?_
  refine ⟨_,S,⟨_,_,rfl,rfl,rfl⟩,less_,?_⟩
  exact ⟨rfl,rfl⟩
end Go.Proofs.Ytgidjbpgkeemiaa
namespace Go.Proofs.Ytgidjbpgkeemiaa
open Go.RowKit
open Bits Mv
set_option maxRecDepth 20000
namespace Bits
/-- A slice of bools that is known. -/
def IsBl (S : Mem) (a : Option Addr) (n : Nat) (L : List Bool) : Prop :=
  L.length = n ∧ n ≤ 1048640 ∧ (n = 0 ∨ ∃ b off, a = some ⟨b, off, none⟩ ∧ ∀ i, i < n → S.Knows ⟨b, off + i, none⟩ [.bool (L.getD i false)])
theorem IsBl.less {S S' : Mem} {a : Option Addr} {n : Nat} {L : List Bool} (h : IsBl S' a n L) (hl : S'.Less S) : IsBl S a n L :=
 ⟨h.1,h.2.1,h.2.2.imp id fun ⟨b,off,e,hr⟩=>⟨b,off,e,fun i hi=>(hr i hi).less hl⟩⟩
theorem cellsB_zero (n : Nat) : cellsB (List.replicate n 0) = List.replicate n (.int .u8 0) := by simp [cellsB, nb]
end Bits
set_option maxHeartbeats 1000000 in
theorem refV_Of (a : Option Addr) (n cap : Nat) (L : List Bool) (S : Mem) (hL : IsBl S a n L) :
  ACall Try.prog 115 #[.slice a n cap] S fun r S'=>r=bv (bs (pack L)) n∧S'=S:=by
 obtain ⟨hl1,hl2,hl3⟩:=hL
 refine ACall.enter (rs:=[.cell 2 44]) 37 [(0,.slice a n cap)] Try.func115 rfl rfl (Nat.le_of_ble_eq_true rfl) rfl ⟨rfl,trivial⟩ ?_
 refine k_a ?_
 refine ARun.alloc (lit_lt rfl) ty_zero_44 ?_
 intro b2 f2
 have g2:=f2
 repeat ((with_reducible replace g2:=fresh_set g2);obtain ⟨g2,_⟩:=g2)
 try simp only [k_l1,k_l0,k_za,Nat.reduceAdd]
 refine k_n (k_a (k_m rfl ?_))
 refine rC (Calm.lenSl Try.underlying40 rfl) ?_
 refine rC (Calm.bin rfl rfl b_add_i64) ?_
 refine rC (Calm.bin rfl rfl b_quo_i64) ?_
 refine ARun.makeSlice (lit_lt rfl) ty_sl_107 rfl rfl (by omega) (by omega) (by omega) (by omega) ?_
 intro b10 f10
 have g10:=f10
 repeat ((with_reducible replace g10:=fresh_set g10);obtain ⟨g10,_⟩:=g10)
 refine k_e rfl ?_
 refine k_u [(0,_),(2,_),(3,_)] ?_
 simp only [Nat.mul_one,madeL_one,show (((n:Int)+7) / 8).toNat=(n+7) / 8 from by omega]
 rw [← cellsB_zero,← hl1,← pack_zero L]
 refine AWP.seq (k_a (k_m rfl ?_))
 refine rC (Calm.lenSl Try.underlying40 rfl) ?_
 refine k_m rfl (k_n ?_)
 refine AWP.block ?_
 refine AWP.loop (X:=Nat) (fun x=>[(0,.slice a L.length cap),(2,.pointer (some ⟨b2,0,none⟩)),(3,.slice (some ⟨b10,0,none⟩) ((L.length+7) / 8) ((L.length+7) / 8)),(11,.slice a L.length cap),(12,.int .i64 L.length),(13,.int .i64 x)]) (fun x=>(S.set b2 ⟨44,[.string ByteArray.empty,.int .i64 0],2⟩).set b10 ⟨5,cellsB (pack (msk L x)),(L.length+7) / 8⟩) (fun x=>x≤L.length) (fun x=>L.length-x) (0) ⟨rfl,rfl,rfl,rfl,rfl,rfl,trivial⟩ (Mem.Less.refl _) (Nat.zero_le _) ?_
 rintro i hi
 (try dsimp only at *)
 refine k_a ?_
 refine rC (Calm.bin rfl rfl b_lss) ?_
 refine k_n (AWP.seq ?_)
 refine AWP.condB rfl (fun hl=>?_) (fun hl=>?_)
 ·have hl:i<L.length:=by have:=of_decide_eq_true hl;omega
  obtain ⟨b,off,rfl,hrow⟩:=hl3.resolve_left (by omega)
  have hki:=(hrow i (by omega)).less (show S.Less ((S.set b2 ⟨44,[.string ByteArray.empty,.int .i64 0],2⟩).set b10 ⟨5,cellsB (pack (msk L i)),(L.length+7) / 8⟩) from less_)
  refine k_k (AWP.seq ?_)
  refine AWP.block ?_
  refine k_a (k_m rfl ?_)
  refine rC (Calm.indexS Try.underlying40 ty_size_4 rfl rfl (by omega) (by omega)) ?_
  refine rC (Calm.loadK ty_plain_4 rfl (by show Mem.Knows _ ⟨b,off+((i:Int)).toNat*1,none⟩ _;rw [Int.toNat_natCast,Nat.mul_one];exact hki)) ?_
  refine k_s rfl (k_e rfl ?_)
  refine k_u [(0,_),(2,_),(3,_),(11,_),(12,_),(13,_),(14,_),(4,_),(5,_)] ?_
  refine k_a (k_m rfl (k_n ?_))
  refine AWP.condB rfl (fun hx=>?_) (fun hx=>?_)
  ·obtain ⟨q1,q2⟩:=of_step L i hl hx
   have em:=mask_int (7-(i:Int) % 8) (by omega) (by omega)
   have e1:((i:Int) / 8).toNat=i / 8:=by omega
   have e2:(7-(i:Int) % 8).toNat=7-i % 8:=by omega
   have hpl:(pack (msk L i)).length=(L.length+7) / 8:=by rw [pack_length,msk_length _ _ (by omega)]
   have q3:IntKind.u8.wrap (nb (at8 (pack (msk L i)) (i / 8))+IntKind.u8.wrap (1*2 ^ (7-(i:Int) % 8).toNat))=nb (at8 (pack (msk L i)) (i / 8) ^^^ mask (7-i % 8)):=by rw [em,e2];exact q1
   refine AWP.region ?_
   refine k_m rfl (k_m rfl ?_)
   refine rC (Calm.bin rfl rfl b_quo_i64) ?_
   refine rC (Calm.indexS Try.underlying107 ty_size_5 rfl rfl (by omega) (by omega)) ?_
   refine rC (Calm.load ty_plain_5 rfl ((rd_set_same _ _ _ _).trans (by show (cellsB (pack (msk L i)))[0+((i:Int) / 8).toNat*1]?=_;rw [e1,Nat.zero_add,Nat.mul_one];exact cellsB_get _ _ (by omega)))) ?_
   refine k_m rfl ?_
   refine rC (Calm.bin rfl rfl b_rem) ?_
   refine rC (Calm.bin rfl rfl b_sub_i64) ?_
   refine rC (Calm.conv rfl (by first | exact conv_intW Try.underlying3 Try.underlying139 (IntWalk.u64_in _ (by omega)) | exact conv_int Try.underlying3 Try.underlying139)) ?_
   refine rC (Calm.bin rfl rfl b_shl) ?_
   refine rC (Calm.bin rfl rfl (bin_addW q3)) ?_
   refine rC (Calm.indexS Try.underlying107 ty_size_5 rfl rfl (by omega) (by omega)) ?_
   refine ARun.store1 rfl rfl ty_size_5 rfl own_ (by simp only [cellsB_length];omega) rfl ?_
   try simp only [k_ms,k_sz,k_ss,k_za,Nat.reduceAdd]
   refine arun_nil ?_
   refine ain_n ?_
   refine athen_n ?_
   refine k_u [(0,_),(2,_),(3,_),(11,_),(12,_),(13,_),(14,_),(4,_),(5,_),(18,_)] ?_
   simp only [e1,Nat.zero_add,Nat.mul_one,cellsB_set,q2]
   refine AWP.region ?_
   refine rC (Calm.bin rfl rfl b_add_i64) ?_
   refine k_m rfl (k_n ?_)
   refine ⟨i+1,?_,?_,?_,?_⟩
   all_goals (try dsimp only)
   ·exact ⟨rfl,rfl,rfl,rfl,rfl,some_int (by omega),trivial⟩
   ·exact Mem.Less.refl _
   ·exact hl
   ·omega
  ·rw [← msk_skip L i hl hx]
   refine AWP.skip ?_
   refine ain_n ?_
   refine athen_n ?_
   refine AWP.region ?_
   refine rC (Calm.bin rfl rfl b_add_i64) ?_
   refine k_m rfl (k_n ?_)
   refine ⟨i+1,?_,?_,?_,?_⟩
   all_goals (try dsimp only)
   ·exact ⟨rfl,rfl,rfl,rfl,rfl,some_int (by omega),trivial⟩
   ·exact Mem.Less.refl _
   ·exact hl
   ·omega
 ·have hl:i=L.length:=by have:=of_decide_eq_false hl;omega
  subst hl
  rw [msk_all]
  refine AWP.exit ?_
  refine athen_exit ?_
  refine athen_exit ?_
  refine ain_same ?_
  refine athen_n ?_
  refine k_a (k_m rfl ?_)
  refine rC (Calm.toStr ty_bytes_107 ty_str_9 rfl (l:=pack L) (pack_length L) (rds_own' own_ rfl)) ?_
  refine k_m rfl ?_
  refine rC (Calm.lenSl Try.underlying40 rfl) ?_
  refine rC (Calm.build (cs:=[_,_]) ty_bld_44 rfl rfl) ?_
  first|refine k_A rfl rfl ty_size_44 ?_|refine k_B rfl rfl ty_size_44 ?_
  try simp only [k_ms,k_sz,k_ss,k_za,Nat.reduceAdd]
  refine k_n ?_
  refine k_u [(0,_),(2,_),(3,_),(11,_),(12,_),(13,_),(14,_)] ?_
  refine AWP.ret ?_
  refine ⟨_,S,⟨_,_,_,rfl,.inr ⟨ty_agg_44,[_,_],ty_size_44,rds_,rfl⟩,rfl,rfl⟩,less_,?_⟩
  exact ⟨rfl,rfl⟩
end Go.Proofs.Ytgidjbpgkeemiaa
namespace Go.Proofs.Ytgidjbpgkeemiaa
open Bits
namespace Sel
/-- How many of the first n bits are 1. -/
def cnt (B : List UInt8) (n : Nat) : Nat := (upto B n).count true
theorem cnt_zero (B : List UInt8) : cnt B 0 = 0 := rfl
theorem upto_snoc (B : List UInt8) (n : Nat) : upto B (n + 1) = upto B n ++ [isBit B n] := by simp [upto, List.range_succ]
theorem cnt_succ (B : List UInt8) (n : Nat) : cnt B (n + 1) = cnt B n + (if isBit B n = true then 1 else 0) := by
 unfold cnt;rw [upto_snoc,List.count_append];cases isBit B n <;> simp
theorem cnt_le (B : List UInt8) (n : Nat) : cnt B n ≤ n := by
 have:=List.count_le_length (a:=true) (l:=upto B n)
 rw [upto_length] at this;exact this
theorem cnt_mono (B : List UInt8) {a b : Nat} (h : a ≤ b) : cnt B a ≤ cnt B b := by
 induction b with
 | zero =>
  have:a=0:=by omega
  subst this;exact Nat.le_refl _
 | succ b ih =>
  by_cases e:a=b+1
  ·rw [e];exact Nat.le_refl _
  ·have:=ih (by omega);rw [cnt_succ];omega
theorem cnt_step (B : List UInt8) {a b : Nat} (h : a ≤ b) : cnt B b ≤ cnt B a + (b - a) := by
 induction b with
 | zero =>
  have:a=0:=by omega
  subst this;simp
 | succ b ih =>
  by_cases e:a=b+1
  ·rw [← e];omega
  ·have:=ih (by omega);rw [cnt_succ];split <;> omega
/-- Rows of counts: ahead of each 32nd place. -/
def rows (B : List UInt8) (N : Nat) : List Int := (List.range (N / 32 + 1)).map fun j => (cnt B (32 * j) : Int)
theorem rows_length (B : List UInt8) (N : Nat) : (rows B N).length = N / 32 + 1 := by simp [rows]
theorem rows_get (B : List UInt8) (N j : Nat) (h : j < (rows B N).length) : (rows B N)[j] = (cnt B (32 * j) : Int) := by simp [rows]
def pre (B : List UInt8) (j : Nat) : List Int := (List.range j).map fun j => (cnt B (32 * j) : Int)
theorem pre_succ (B : List UInt8) (j : Nat) : pre B (j + 1) = pre B j ++ [(cnt B (32 * j) : Int)] := by simp [pre, List.range_succ]
theorem pre_length (B : List UInt8) (j : Nat) : (pre B j).length = j := by simp [pre]
theorem pre_all (B : List UInt8) (N : Nat) : pre B (N / 32 + 1) = rows B N := rfl
theorem slc_part (B : List UInt8) (k r : Nat) (hr : r ≤ 8) : slc B (8 * k) r = numB ((at8 B k).toNat / 2 ^ (8 - r)) r := by
 have:=slc_byte B (8*k) r (by omega)
 rw [this]
 have e1:8*k / 8=k:=by omega
 have e2:8-8*k % 8-r=8-r:=by omega
 rw [e1,e2]
theorem upto_add (B : List UInt8) (a b : Nat) : upto B (a + b) = upto B a ++ slc B a b := by
 have:=slc_add B 0 a b
 rw [slc_upto,slc_upto,Nat.zero_add] at this;exact this
theorem cnt_part (B : List UInt8) (k r : Nat) (hr : r ≤ 8) : cnt B (8 * k + r) = cnt B (8 * k) + (numB ((at8 B k).toNat / 2 ^ (8 - r)) r).count true := by
 unfold cnt;rw [upto_add,List.count_append,slc_part B k r hr]
theorem numB_pad (v r : Nat) (hr : r ≤ 8) (hv : v < 2 ^ r) : (numB v 8).count true = (numB v r).count true := by
 obtain ⟨q,hq⟩ : ∃ q,8=q+r:=⟨8-r,by omega⟩
 rw [hq,numB_split,List.count_append]
 have:v / 2 ^ r=0:=Nat.div_eq_of_lt hv
 rw [this]
 have hz:(numB 0 q).count true=0:=by
  rw [List.count_eq_zero];intro h;obtain ⟨j,_,hj⟩:=List.mem_map.1 h;simp at hj
 omega
end Sel
end Go.Proofs.Ytgidjbpgkeemiaa
namespace Go.Proofs.Ytgidjbpgkeemiaa
open Go.RowKit
open Mv Num
set_option maxRecDepth 4000
def intB (l : List Int) (c : Nat) : Blk := ⟨3, l.map (fun x => Value.int .i64 x), c⟩
theorem sl_intB {S : Mem} {q : Nat} {l : List Int} {c len : Nat} (h : S.own q = some (intB l c)) (hl : l.length = len) (hc : len ≤ c) (hm : len ≤ 9223372036854775807) : Sl 1 i64s S (.slice (some ⟨q, 0, none⟩) len c) l :=
 Sl.own1 (g:=fun x:Int=>Value.int .i64 x) h List.prefix_rfl hl hc hm
set_option maxHeartbeats 1000000 in
theorem losV_EqualI (a b : List Int) (va vb : Value) (S : Mem) (ha : Sl 1 i64s S va a) (hb : Sl 1 i64s S vb b) :
  ACall Try.prog 116 #[va,vb] S fun r S'=>r = .bool (decide (a=b))∧S'=S:=by
 obtain ⟨pa,ca,rfl,ha1,ha2,ha3⟩:=ha
 obtain ⟨pb,cb,rfl,hb1,hb2,hb3⟩:=hb
 by_cases hlen:a.length=b.length
 ·have hlen0:=hlen
  refine ACall.enter (rs:=[.tmp 4]) 26 [(0,.slice pa a.length ca),(1,.slice pb b.length cb)] Try.func116 rfl rfl (Nat.le_of_ble_eq_true rfl) rfl ⟨rfl,rfl,trivial⟩ ?_
  refine k_a (k_e rfl (AWP.seq (k_a (k_m rfl ?_))))
  refine rC (Calm.lenSl Try.underlying24 rfl) ?_
  refine k_m rfl ?_
  refine rC (Calm.lenSl Try.underlying24 rfl) ?_
  refine rC (Calm.bin rfl rfl b_neq) ?_
  refine k_n ?_
  refine k_u [(0,_),(1,_),(4,_),(10,_)] ?_
  refine k_F rfl ?_
  refine k_k (AWP.seq (k_a (k_m rfl ?_)))
  refine rC (Calm.lenSl Try.underlying24 rfl) ?_
  refine k_m rfl (k_n ?_)
  refine k_u [(0,_),(1,_),(4,_),(10,_),(12,_),(13,_)] ?_
  refine AWP.block ?_
  refine AWP.loop (X:=Nat) (fun x=>[(0,.slice pa a.length ca),(1,.slice pb b.length cb),(12,.int .i64 a.length),(13,.int .i64 x)]) (fun x=>S) (fun x=>x≤a.length ∧ ∀ j (hj:j<a.length) (hj2:j<b.length),j<x→a[j]=b[j]) (fun x=>a.length-x) (0) ⟨rfl,rfl,rfl,rfl,trivial⟩ (Mem.Less.refl _) (⟨Nat.zero_le _,fun _ _ _ h=>absurd h (Nat.not_lt_zero _)⟩) ?_
  rintro i ⟨hi1,hq⟩
  (try dsimp only at *)
  refine k_a ?_
  refine rC (Calm.bin rfl rfl b_lss) ?_
  refine k_n (AWP.seq ?_)
  refine AWP.condB rfl (fun hl=>?_) (fun hl=>?_)
  ·have hl:i<a.length:=by have:=of_decide_eq_true hl;omega
   have hlb:i<b.length:=by omega
   obtain ⟨b0,off,rfl,hkn⟩:=ha3.resolve_left (by intro h;rw [h] at hl;exact absurd hl (Nat.not_lt_zero _))
   obtain ⟨b1,off1,rfl,hkn1⟩:=hb3.resolve_left (by intro h;rw [h] at hlb;exact absurd hlb (Nat.not_lt_zero _))
   have hkk:=hkn i hl
   have hkk1:=hkn1 i hlb
   by_cases c1:a[i]=b[i]
   ·refine k_k (AWP.seq ?_)
    refine AWP.block ?_
    refine k_a (k_m rfl (k_e rfl ?_))
    refine k_u [(0,_),(1,_),(12,_),(13,_),(14,_),(5,_)] ?_
    refine AWP.seq ?_
    refine AWP.draw [(0,true),(1,true),(2,true),(3,true),(4,true),(5,true),(6,true),(7,true),(8,true)] [] mixed (by kernel_rfl) ?_
    refine dP (hc:=fun _=>Calm.move rfl) (h:=?_)
    refine dP (hc:=fun _=>Calm.move rfl) (h:=?_)
    refine dP (hc:=fun _=>Calm.indexS Try.underlying24 ty_size_3 rfl rfl (by omega) (by omega)) (h:=?_)
    refine dC (hc:=ld_ ty_plain_3 rfl) (h:=?_)
    refine dP (hc:=fun _=>Calm.move rfl) (h:=?_)
    refine dP (hc:=fun _=>Calm.move rfl) (h:=?_)
    refine dP (hc:=fun _=>Calm.indexS Try.underlying24 ty_size_3 rfl rfl (by omega) (by omega)) (h:=?_)
    refine dC (hc:=ld_ ty_plain_3 rfl) (h:=?_)
    refine dP (hc:=fun _=>Calm.bin rfl rfl b_neq) (h:=?_)
    refine draw_nil ?_
    refine athen_n ?_
    refine k_u [(0,_),(1,_),(12,_),(13,_),(14,_),(5,_),(24,_)] ?_
    refine k_F rfl ?_
    refine AWP.skip ?_
    refine ain_n ?_
    refine athen_n ?_
    refine AWP.region ?_
    refine rC (Calm.bin rfl rfl b_add_i64) ?_
    refine k_m rfl (k_n ?_)
    refine ⟨i+1,?_,?_,?_,?_⟩
    all_goals (try dsimp only)
    ·exact ⟨rfl,rfl,rfl,rfl,trivial⟩
    ·exact Mem.Less.refl _
    ·exact ⟨hl,fun j hj hj2 hji=>by rcases Nat.lt_or_ge j i with h | h;exact hq j hj hj2 h;obtain rfl:j=i:=(by omega);exact c1⟩
    ·omega
   ·refine k_k (AWP.seq ?_)
    refine AWP.block ?_
    refine k_a (k_m rfl (k_e rfl ?_))
    refine k_u [(0,_),(1,_),(12,_),(13,_),(14,_),(5,_)] ?_
    refine AWP.seq ?_
    refine AWP.draw [(0,true),(1,true),(2,true),(3,true),(4,true),(5,true),(6,true),(7,true),(8,true)] [] mixed (by kernel_rfl) ?_
    refine dP (hc:=fun _=>Calm.move rfl) (h:=?_)
    refine dP (hc:=fun _=>Calm.move rfl) (h:=?_)
    refine dP (hc:=fun _=>Calm.indexS Try.underlying24 ty_size_3 rfl rfl (by omega) (by omega)) (h:=?_)
    refine dC (hc:=ld_ ty_plain_3 rfl) (h:=?_)
    refine dP (hc:=fun _=>Calm.move rfl) (h:=?_)
    refine dP (hc:=fun _=>Calm.move rfl) (h:=?_)
    refine dP (hc:=fun _=>Calm.indexS Try.underlying24 ty_size_3 rfl rfl (by omega) (by omega)) (h:=?_)
    refine dC (hc:=ld_ ty_plain_3 rfl) (h:=?_)
    refine dP (hc:=fun _=>Calm.bin rfl rfl b_neq) (h:=?_)
    refine draw_nil ?_
    refine athen_n ?_
    refine k_u [(0,_),(1,_),(12,_),(13,_),(14,_),(5,_),(24,_)] ?_
    refine k_T rfl ?_
    refine k_a (k_e rfl ?_)
    refine AWP.ret ?_
    refine ain_ret ?_
    refine athen_ret ?_
    refine athen_ret ?_
    refine ain_ret ?_
    refine athen_ret ?_
    refine ⟨_,S,⟨_,_,rfl,rfl,rfl⟩,less_,?_⟩
    exact ⟨by rw [decide_eq_false (fun e=>c1 (by subst e;rfl))];rfl,rfl⟩
  ·have hl:i=a.length:=by have:=of_decide_eq_false hl;omega
   refine AWP.exit ?_
   refine athen_exit ?_
   refine athen_exit ?_
   refine ain_same ?_
   refine athen_n ?_
   refine k_a (k_e rfl ?_)
   refine AWP.ret ?_
   refine ⟨_,S,⟨_,_,rfl,rfl,rfl⟩,less_,?_⟩
   exact ⟨by rw [decide_eq_true (List.ext_getElem hlen fun j h1 h2=>hq j h1 h2 (by omega))];rfl,rfl⟩
 ·have hlen0:=hlen
  refine ACall.enter (rs:=[.tmp 4]) 26 [(0,.slice pa a.length ca),(1,.slice pb b.length cb)] Try.func116 rfl rfl (Nat.le_of_ble_eq_true rfl) rfl ⟨rfl,rfl,trivial⟩ ?_
  refine k_a (k_e rfl (AWP.seq (k_a (k_m rfl ?_))))
  refine rC (Calm.lenSl Try.underlying24 rfl) ?_
  refine k_m rfl ?_
  refine rC (Calm.lenSl Try.underlying24 rfl) ?_
  refine rC (Calm.bin rfl rfl b_neq) ?_
  refine k_n ?_
  refine k_u [(0,_),(1,_),(4,_),(10,_)] ?_
  refine k_T rfl ?_
  refine k_a (k_e rfl ?_)
  refine k_r ?_
  refine ⟨_,S,⟨_,_,rfl,rfl,rfl⟩,less_,?_⟩
  exact ⟨by rw [decide_eq_false (fun e=>hlen (by rw [e]))];rfl,rfl⟩
theorem rlosV_SameNumbers (a b : List Int) (va vb : Value) (S : Mem) (ha : Sl 1 i64s S va a) (hb : Sl 1 i64s S vb b) :
  ACall Try.prog 21 #[va,vb] S fun r S'=>r = .bool (decide (a=b))∧S'=S:=si_SameNumbers a b va vb S ha hb
end Go.Proofs.Ytgidjbpgkeemiaa
namespace Go.Proofs.Ytgidjbpgkeemiaa
open Go.RowKit
open Mv Bits Sel
set_option maxRecDepth 20000
theorem ones_part (c : UInt8) (r : Nat) (hr : r ≤ 8) : Lib.onesCount (c.toNat / 2 ^ (8 - r)) = (numB (c.toNat / 2 ^ (8 - r)) r).count true := by
 have hc:=c.toNat_lt
 have hv:c.toNat / 2 ^ (8-r)<2 ^ r:=by
  rw [Nat.div_lt_iff_lt_mul (Nat.pow_pos (by decide)),← Nat.pow_add,show r+(8-r)=8 from by omega];omega
 have hv8:c.toNat / 2 ^ (8-r)<256:=Nat.lt_of_le_of_lt (Nat.div_le_self _ _) (by omega)
 rw [← numB_pad _ r hr hv]
 have:=ones_byte (UInt8.ofNat (c.toNat / 2 ^ (8-r)))
 rwa [UInt8.toNat_ofNat_of_lt' hv8] at this
theorem cnt_eight (B : List UInt8) (k : Nat) : cnt B (8 * (k + 1)) = cnt B (8 * k) + Lib.onesCount (at8 B k).toNat := by
 unfold cnt;rw [upto_eight,List.count_append,ones_byte]
theorem nb_shift (B : List UInt8) (b : Nat) : 0 ≤ nb (at8 B ((b : Int) / 8).toNat) / 2 ^ (8 - (b : Int) % 8).toNat ∧ nb (at8 B ((b : Int) / 8).toNat) / 2 ^ (8 - (b : Int) % 8).toNat ≤ 255 ∧ (nb (at8 B ((b : Int) / 8).toNat) / 2 ^ (8 - (b : Int) % 8).toNat).toNat = (at8 B (b / 8)).toNat / 2 ^ (8 - b % 8) := by
 have e1:((b:Int) / 8).toNat=b / 8:=by omega
 have e2:(8-(b:Int) % 8).toNat=8-b % 8:=by omega
 rw [e1,e2]
 have e3:nb (at8 B (b / 8)) / 2 ^ (8-b % 8)=(((at8 B (b / 8)).toNat / 2 ^ (8-b % 8):Nat):Int):=by rw [nb_byte];simp
 have h1:(at8 B (b / 8)).toNat / 2 ^ (8-b % 8)≤(at8 B (b / 8)).toNat:=Nat.div_le_self _ _
 have h2:=(at8 B (b / 8)).toNat_lt
 rw [e3]
 exact ⟨Int.natCast_nonneg _,by omega,Int.toNat_natCast _⟩
set_option maxHeartbeats 1000000 in
theorem selV_ones (s : ByteArray) (a b : Nat) (S : Mem) (hs : s.size ≤ 281474976710656) (ha : a % 8 = 0) (hab : a ≤ b) (hb : b ≤ 8 * s.size) :
  ACall Try.prog 145 #[.string s,.int .i64 a,.int .i64 b] S fun r S'=>r = .int .i64 (cnt s.data.toList b-cnt s.data.toList a:Nat)∧S'=S:=by
 have hcb:=Sel.cnt_le s.data.toList b
 have hca:=cnt_mono s.data.toList hab
 refine ACall.enter (rs:=[.tmp 6]) 39 [(0,.string s),(1,.int .i64 (a:Int)),(2,.int .i64 (b:Int))] Try.func145 rfl rfl (Nat.le_of_ble_eq_true rfl) rfl ⟨rfl,rfl,rfl,trivial⟩ ?_
 refine k_a (k_e rfl (k_a (k_e rfl (AWP.seq ?_))))
 refine k_a (k_m rfl ?_)
 refine rC (Calm.bin rfl rfl b_quo_i64) ?_
 refine k_e rfl ?_
 refine k_u [(0,_),(1,_),(2,_),(6,_),(7,_),(8,_)] ?_
 refine AWP.block ?_
 refine AWP.loop (X:=Nat) (fun x=>[(0,.string s),(2,.int .i64 b),(7,.int .i64 (cnt s.data.toList (8*x)-cnt s.data.toList a:Nat)),(8,.int .i64 x)]) (fun x=>S) (fun x=>a / 8≤x∧x≤b / 8) (fun x=>b / 8-x) (a / 8) ⟨rfl,rfl,some_int (by rw [show 8*(a / 8)=a from by omega];omega),some_int (by omega),trivial⟩ (Mem.Less.refl _) (⟨Nat.le_refl _,by omega⟩) ?_
 rintro k ⟨hk0,hk1⟩
 (try dsimp only at *)
 have hm1:=cnt_mono s.data.toList (a:=a) (b:=8*k) (by omega)
 have hm2:=Sel.cnt_le s.data.toList (8*k)
 by_cases hl:k<b / 8
 ·refine AWP.seq (k_a (k_m rfl (k_m rfl ?_)))
  refine rC (Calm.bin rfl rfl b_quo_i64) ?_
  refine rC (Calm.bin rfl rfl b_lss) ?_
  refine k_n ?_
  refine k_u [(0,_),(2,_),(7,_),(8,_),(15,_)] ?_
  refine k_T rfl ?_
  have h8:=cnt_eight s.data.toList k
  have hm3:=Sel.cnt_le s.data.toList (8*(k+1))
  refine k_k (AWP.seq ?_)
  refine AWP.block ?_
  refine AWP.region ?_
  refine k_m rfl (k_m rfl (k_m rfl ?_))
  refine rC ((by first | exact Calm.indexStrN (strT_spec ty_str_9) rfl rfl (by omega) | exact Calm.indexStr (strT_spec ty_str_9) rfl rfl (by omega) (by omega))) ?_
  refine ARun.call (lit_lt rfl) go_177 rfl (bits_Ones8 _ _ (nb_nonneg _) (nb_le _)) ?_
  rintro _ S1 ⟨rfl,h1⟩
  rw [h1];clear h1 S1
  have e3:(nb (at8 s.data.toList k)).toNat=(at8 s.data.toList k).toNat:=by unfold nb;omega
  rw [e3]
  refine rC (Calm.bin rfl rfl b_add_i64) ?_
  refine k_s rfl ?_
  refine arun_nil ?_
  refine ain_n ?_
  refine athen_n ?_
  refine k_u [(0,_),(2,_),(7,_),(8,_),(15,_)] ?_
  refine AWP.region ?_
  refine k_m rfl ?_
  refine rC (Calm.bin rfl rfl b_add_i64) ?_
  refine k_e rfl ?_
  refine ⟨k+1,?_,?_,?_,?_⟩
  all_goals (try dsimp only)
  ·exact ⟨rfl,rfl,some_int (by omega),some_int (by omega),trivial⟩
  ·exact Mem.Less.refl _
  ·exact ⟨by omega,hl⟩
  ·omega
 ·refine AWP.seq (k_a (k_m rfl (k_m rfl ?_)))
  refine rC (Calm.bin rfl rfl b_quo_i64) ?_
  refine rC (Calm.bin rfl rfl b_lss) ?_
  refine k_n ?_
  refine k_u [(0,_),(2,_),(7,_),(8,_),(15,_)] ?_
  refine k_F rfl ?_
  obtain rfl:k=b / 8:=by omega
  by_cases hr:0<b % 8
  ·refine AWP.exit ?_
   refine athen_exit ?_
   refine athen_exit ?_
   refine ain_same ?_
   refine athen_n ?_
   refine AWP.seq (k_a (k_m rfl ?_))
   refine rC (Calm.bin rfl rfl b_rem) ?_
   refine k_e rfl ?_
   refine k_u [(0,_),(2,_),(7,_),(8,_),(15,_),(9,_)] ?_
   refine k_a (k_m rfl ?_)
   refine rC (Calm.bin rfl rfl b_gtr) ?_
   refine k_n ?_
   refine k_u [(0,_),(2,_),(7,_),(8,_),(15,_),(9,_),(27,_)] ?_
   refine k_T rfl ?_
   have hp:=cnt_part s.data.toList (b / 8) (b % 8) (by omega)
   rw [show 8*(b / 8)+b % 8=b from by omega,← ones_part _ _ (by omega)] at hp
   obtain ⟨hx0,hx1,hx2⟩:=nb_shift s.data.toList b
   refine AWP.region ?_
   refine k_m rfl (k_m rfl (k_m rfl ?_))
   refine rC (Calm.bin rfl rfl b_quo_i64) ?_
   refine rC ((by first | exact Calm.indexStrN (strT_spec ty_str_9) rfl rfl (by omega) | exact Calm.indexStr (strT_spec ty_str_9) rfl rfl (by omega) (by omega))) ?_
   refine k_m rfl ?_
   refine rC (Calm.bin rfl rfl b_sub_i64) ?_
   refine rC (Calm.bin rfl rfl b_shr) ?_
   refine ARun.call (lit_lt rfl) go_177 rfl (bits_Ones8 _ _ hx0 hx1) ?_
   rintro _ S1 ⟨rfl,h1⟩
   rw [h1];clear h1 S1
   rw [hx2]
   refine rC (Calm.bin rfl rfl b_add_i64) ?_
   refine k_e rfl ?_
   refine k_u [(0,_),(2,_),(7,_),(8,_),(15,_),(9,_),(27,_)] ?_
   rw [show ((cnt s.data.toList (8*(b / 8))-cnt s.data.toList a:Nat):Int)+(Lib.onesCount ((at8 s.data.toList (b / 8)).toNat / 2 ^ (8-b % 8)):Int)=(cnt s.data.toList b-cnt s.data.toList a:Nat) from by omega]
   refine k_a (k_m rfl (k_e rfl ?_))
   refine k_u [(0,_),(2,_),(7,_),(8,_),(15,_),(9,_),(27,_),(6,_)] ?_
   refine AWP.ret ?_
   refine ⟨_,S,⟨_,_,rfl,rfl,rfl⟩,less_,?_⟩
   exact ⟨rfl,rfl⟩
  ·refine AWP.exit ?_
   refine athen_exit ?_
   refine athen_exit ?_
   refine ain_same ?_
   refine athen_n ?_
   refine AWP.seq (k_a (k_m rfl ?_))
   refine rC (Calm.bin rfl rfl b_rem) ?_
   refine k_e rfl ?_
   refine k_u [(0,_),(2,_),(7,_),(8,_),(15,_),(9,_)] ?_
   refine k_a (k_m rfl ?_)
   refine rC (Calm.bin rfl rfl b_gtr) ?_
   refine k_n ?_
   refine k_u [(0,_),(2,_),(7,_),(8,_),(15,_),(9,_),(27,_)] ?_
   refine k_F rfl ?_
   rw [show 8*(b / 8)=b from by omega]
   refine k_k (k_a (k_m rfl (k_e rfl ?_)))
   refine k_u [(0,_),(2,_),(7,_),(8,_),(15,_),(9,_),(27,_),(6,_)] ?_
   refine AWP.ret ?_
   refine ⟨_,S,⟨_,_,rfl,rfl,rfl⟩,less_,?_⟩
   exact ⟨rfl,rfl⟩
end Go.Proofs.Ytgidjbpgkeemiaa
namespace Go.Proofs.Ytgidjbpgkeemiaa
open Go.RowKit
open Mv Bits Sel
set_option maxRecDepth 20000
theorem selV_onesI (s : ByteArray) (x y : Int) (a b : Nat) (S : Mem) (hx : x = a) (hy : y = b) (hs : s.size ≤ 281474976710656) (ha : a % 8 = 0) (hab : a ≤ b) (hb : b ≤ 8 * s.size) :
  ACall Try.prog 145 #[.string s,.int .i64 x,.int .i64 y] S fun r S'=>r = .int .i64 (cnt s.data.toList b-cnt s.data.toList a:Nat)∧S'=S:=by
 subst hx hy;exact selV_ones s a b S hs ha hab hb
/-- Rows of counts in a block of their own. -/
def RowsR (s : ByteArray) (N : Nat) (S : Mem) (r : Value) (S' : Mem) : Prop := ∃ b c, Fresh S b ∧ (rows s.data.toList N).length ≤ c ∧ r = .slice (some ⟨b, 0, none⟩) (rows s.data.toList N).length c ∧ S' = S.set b (intB (rows s.data.toList N) c)
set_option maxHeartbeats 1000000 in
theorem selV_counts (s : ByteArray) (N : Nat) (S : Mem) (hs : s.size ≤ 281474976710656) (hN : N ≤ 1048576) (hb : N ≤ 8 * s.size) :
  ACall Try.prog 140 #[.agg #[.string s,.int .i64 N]] S (RowsR s N S):=by
 refine ACall.enter (rs:=[.tmp 2]) 29 [(0,.agg #[.string s,.int .i64 (N:Int)])] Try.func140 rfl rfl (Nat.le_of_ble_eq_true rfl) rfl ⟨rfl,trivial⟩ ?_
 refine k_a ?_
 refine ARun.boxA (cs:=[_,_]) (lit_lt rfl) rfl ?_
 intro b1 f1
 have g1:=f1
 repeat ((with_reducible replace g1:=fresh_set g1);obtain ⟨g1,_⟩:=g1)
 try simp only [k_l1,k_l0,k_za,Nat.reduceAdd]
 refine k_e rfl (k_a ?_)
 refine ARun.build1s (lit_lt rfl) ty_sl_24 rfl rfl ?_
 intro b5 f5
 have g5:=f5
 repeat ((with_reducible replace g5:=fresh_set g5);obtain ⟨g5,_⟩:=g5)
 refine k_e rfl ?_
 refine k_u [(0,_),(1,_),(2,_),(3,_)] ?_
 refine AWP.seq (k_a (k_e rfl ?_))
 refine AWP.block ?_
 refine AWP.loop (X:=Nat × Nat × Nat) (fun x=>[(1,.pointer (some ⟨b1,0,none⟩)),(3,.slice (some ⟨x.2.1,0,none⟩) (x.1+1) x.2.2),(4,.int .i64 (32*(x.1+1):Nat))]) (fun x=>(S.set b1 ⟨44,[.string s,.int .i64 N],2⟩).set x.2.1 ⟨3,(pre s.data.toList (x.1+1)).map fun x=>Value.int .i64 x,x.2.2⟩) (fun x=>32*x.1≤N∧OkO (S.set b1 ⟨44,[.string s,.int .i64 N],2⟩) (some (x.2.1,x.2.2)) (x.1+1)) (fun x=>N-32*x.1) ((0,b5,1)) ⟨rfl,rfl,rfl,trivial⟩ less_ (⟨by omega,okO_own f5 (Nat.le_refl _)⟩) ?_
 rintro ⟨j,b,c⟩ ⟨hj,ho⟩
 (try dsimp only at *)
 obtain ⟨fb,hbc⟩:=ho.own b c rfl
 obtain ⟨gb,nb1⟩:=fresh_set fb
 have nb2:=Ne.symm nb1
 have hpl:((pre s.data.toList (j+1)).map fun x=>Value.int .i64 x).length=j+1:=by rw [List.length_map,pre_length]
 by_cases hl:32*(j+1)≤N
 ·refine AWP.seq (k_a (k_m rfl ?_))
  refine rC (Calm.fieldAddr ty_field_44_1 rfl) ?_
  refine rC (ld_ ty_plain_3 rfl) ?_
  refine rC (Calm.bin rfl rfl b_leq) ?_
  refine k_n ?_
  refine k_u [(1,_),(3,_),(4,_),(9,_)] ?_
  refine k_T rfl ?_
  have hc1:=Sel.cnt_le s.data.toList (32*j)
  have hc2:=Sel.cnt_le s.data.toList (32*(j+1))
  have hc3:=cnt_mono s.data.toList (a:=32*j) (b:=32*(j+1)) (by omega)
  have k1:=kn_int (S:=(S.set b1 ⟨44,[.string s,.int .i64 N],2⟩).set b ⟨3,(pre s.data.toList (j+1)).map fun x=>Value.int .i64 x,c⟩) (b:=b) (Mem.own_set_same _ _ _) j (x:=(cnt s.data.toList (32*j):Int)) (by simp [pre])
  have k2:Mem.Knows ((S.set b1 ⟨44,[.string s,.int .i64 N],2⟩).set b ⟨3,(pre s.data.toList (j+1)).map fun x=>Value.int .i64 x,c⟩) ⟨b,0+(((j+1:Nat):Int)-1).toNat*1,none⟩ [.int .i64 (cnt s.data.toList (32*j):Int)]:=by rw [show (((j+1:Nat):Int)-1).toNat=j from by omega];exact k1
  refine k_k (AWP.seq ?_)
  refine AWP.block ?_
  refine AWP.draw [(0,true),(1,true),(2,true),(3,true),(4,true),(5,true),(6,true),(7,true),(8,true),(9,true),(10,true),(11,true),(12,false),(13,true),(14,false),(15,false),(16,true)] [15] mixed (by kernel_rfl) ?_
  refine dP (hc:=fun _=>Calm.move rfl) (h:=?_)
  refine dP (hc:=fun _=>Calm.move rfl) (h:=?_)
  refine dP (hc:=fun _=>Calm.move rfl) (h:=?_)
  refine dC (hc:=Calm.lenSl Try.underlying24 rfl) (h:=?_)
  refine dP (hc:=fun _=>Calm.bin rfl rfl b_sub_i64) (h:=?_)
  refine dP (hc:=fun _=>Calm.indexS Try.underlying24 ty_size_3 rfl rfl (by omega) (by omega)) (h:=?_)
  refine dC (hc:=ld_ ty_plain_3 rfl) (h:=?_)
  refine dP (hc:=fun _=>Calm.fieldAddr ty_field_44_0 rfl) (h:=?_)
  refine dC (hc:=ld_ ty_plain_9 rfl) (h:=?_)
  refine dP (hc:=fun _=>Calm.move rfl) (h:=?_)
  refine dP (hc:=fun _=>Calm.bin rfl rfl b_sub_i64) (h:=?_)
  refine dP (hc:=fun _=>Calm.move rfl) (h:=?_)
  refine draw_only rfl ?_
  refine ARun.call (lit_lt rfl) go_145 rfl (selV_onesI s _ _ (32*j) (32*(j+1)) _ (by omega) (by omega) hs (by omega) (by omega) (by omega)) ?_
  rintro _ S1 ⟨rfl,h1⟩
  rw [h1];clear h1 S1
  refine arun_nil ⟨fun _=>less_,?_⟩
  refine dP (hc:=fun _=>Calm.bin rfl rfl b_add_i64) (h:=?_)
  refine draw_only rfl ?_
  refine ARun.build1s (lit_lt rfl) ty_sl_24 rfl rfl ?_
  intro b26 f26
  have g26:=f26
  repeat ((with_reducible replace g26:=fresh_set g26);obtain ⟨g26,_⟩:=g26)
  refine arun_nil ⟨fun _=>less_,?_⟩
  refine draw_only rfl ?_
  refine ARun.appendO (lit_lt rfl) ty_sl_24 rfl hpl (appO_of ho hpl f26) rfl (news:=[_]) rds_ rfl (by omega) (by simp [Value.oneCell']) (by omega) (by omega) ?_
  intro b27 c27 ho2
  rw [show (cnt s.data.toList (32*j):Int)+(cnt s.data.toList (32*(j+1))-cnt s.data.toList (32*j):Nat)=(cnt s.data.toList (32*(j+1)):Int) from by omega]
  refine arun_nil ⟨fun h=>absurd h (by decide),?_⟩
  refine dP (hc:=fun _=>Calm.assign rfl) (h:=?_)
  refine draw_nil ?_
  refine ain_n ?_
  refine athen_n ?_
  refine k_u [(1,_),(3,_),(4,_),(9,_)] ?_
  refine AWP.region ?_
  refine k_m rfl ?_
  refine rC (Calm.bin rfl rfl b_add_i64) ?_
  refine k_e rfl ?_
  refine ⟨(j+1,b27,c27),?_,?_,?_,?_⟩
  all_goals (try dsimp only)
  ·exact ⟨rfl,rfl,some_int (by omega),trivial⟩
  ·rw [pre_succ s.data.toList (j+1),List.map_append];exact Mem.Less.refl _
  ·exact ⟨hl,ho2⟩
  ·omega
 ·refine AWP.seq (k_a (k_m rfl ?_))
  refine rC (Calm.fieldAddr ty_field_44_1 rfl) ?_
  refine rC (ld_ ty_plain_3 rfl) ?_
  refine rC (Calm.bin rfl rfl b_leq) ?_
  refine k_n ?_
  refine k_u [(1,_),(3,_),(4,_),(9,_)] ?_
  refine k_F rfl ?_
  have ej:pre s.data.toList (j+1)=rows s.data.toList N:=by rw [← pre_all,show N / 32=j from by omega]
  have er:(rows s.data.toList N).length=j+1:=by rw [rows_length,show N / 32=j from by omega]
  rw [ej]
  refine AWP.exit ?_
  refine athen_exit ?_
  refine athen_exit ?_
  refine ain_same ?_
  refine athen_n ?_
  refine k_a (k_m rfl (k_e rfl ?_))
  refine k_u [(1,_),(3,_),(4,_),(9,_),(2,_)] ?_
  refine AWP.ret ?_
  refine ⟨_,S.set b ⟨3,(rows s.data.toList N).map fun x=>Value.int .i64 x,c⟩,⟨_,_,rfl,rfl,rfl⟩,less_,?_⟩
  exact ⟨b,c,gb,by rw [er];exact hbc,by rw [er];rfl,rfl⟩
set_option maxHeartbeats 1000000 in
theorem rselV_counts (s : ByteArray) (N : Nat) (S : Mem) (hs : s.size ≤ 281474976710656) (hN : N ≤ 1048576) (hb : N ≤ 8 * s.size) :
  ACall Try.prog 143 #[.agg #[.string s,.int .i64 N]] S (RowsR s N S):=by
 refine ACall.enter (rs:=[.tmp 2]) 31 [(0,.agg #[.string s,.int .i64 (N:Int)])] Try.func143 rfl rfl (Nat.le_of_ble_eq_true rfl) rfl ⟨rfl,trivial⟩ ?_
 refine k_a ?_
 refine ARun.boxA (cs:=[_,_]) (lit_lt rfl) rfl ?_
 intro b1 f1
 have g1:=f1
 repeat ((with_reducible replace g1:=fresh_set g1);obtain ⟨g1,_⟩:=g1)
 try simp only [k_l1,k_l0,k_za,Nat.reduceAdd]
 refine k_e rfl (k_a (k_e rfl (k_a (k_e rfl ?_))))
 refine AWP.seq (k_a (k_e rfl ?_))
 refine AWP.block ?_
 refine AWP.loop (X:=Nat × Option (Nat × Nat)) (fun x=>[(1,.pointer (some ⟨b1,0,none⟩)),(3,outV x.2 ((x.1+31) / 32)),(4,.int .i64 (cnt s.data.toList (min x.1 N):Nat)),(5,.int .i64 x.1)]) (fun x=>outM (S.set b1 ⟨44,[.string s,.int .i64 N],2⟩) x.2 3 ((pre s.data.toList ((x.1+31) / 32)).map fun x=>Value.int .i64 x)) (fun x=>x.1≤N+1∧OkO (S.set b1 ⟨44,[.string s,.int .i64 N],2⟩) x.2 ((x.1+31) / 32)) (fun x=>N+1-x.1) ((0,none)) ⟨rfl,rfl,some_int (by simp [cnt_zero]),some_int (by omega),trivial⟩ (Mem.Less.refl _) (⟨Nat.zero_le _,okO_nil _⟩) ?_
 rintro ⟨i,o⟩ ⟨hi,ho⟩
 (try dsimp only at *)
 have hpl:((pre s.data.toList ((i+31) / 32)).map fun x=>Value.int .i64 x).length=(i+31) / 32:=by rw [List.length_map,pre_length]
 have own1:=own_outM (e:=3) (cs:=((pre s.data.toList ((i+31) / 32)).map fun x=>Value.int .i64 x)) ho (Mem.own_set_same S b1 ⟨44,[.string s,.int .i64 N],2⟩)
 have kN1:Mem.Knows (outM (S.set b1 ⟨44,[.string s,.int .i64 N],2⟩) o 3 ((pre s.data.toList ((i+31) / 32)).map fun x=>Value.int .i64 x)) ⟨b1,0+1,none⟩ [.int .i64 N]:=Mem.own_knows own1 _ _ (fun j v hj=>by cases j with | zero=>exact hj | succ j=>simp at hj)
 have kB1:Mem.Knows (outM (S.set b1 ⟨44,[.string s,.int .i64 N],2⟩) o 3 ((pre s.data.toList ((i+31) / 32)).map fun x=>Value.int .i64 x)) ⟨b1,0,none⟩ [.string s,.int .i64 N]:=Mem.own_knows own1 _ _ (fun j v hj=>by rw [Nat.zero_add];exact hj)
 by_cases hl:i≤N
 ·have hci:=Sel.cnt_le s.data.toList i
  have em:min i N=i:=by omega
  rw [em]
  refine AWP.seq (k_a (k_m rfl ?_))
  refine rC (Calm.fieldAddr ty_field_44_1 rfl) ?_
  refine rC (ld_ ty_plain_3 rfl) ?_
  refine rC (Calm.bin rfl rfl b_leq) ?_
  refine k_n ?_
  refine k_u [(1,_),(3,_),(4,_),(5,_),(9,_)] ?_
  refine k_T rfl ?_
  by_cases hm:i % 32=0
  ·refine k_k (AWP.seq ?_)
   refine AWP.block ?_
   refine AWP.seq (k_a (k_m rfl ?_))
   refine rC (Calm.bin rfl rfl b_rem) ?_
   refine rC (Calm.bin rfl rfl b_eql) ?_
   refine k_n ?_
   refine k_u [(1,_),(3,_),(4,_),(5,_),(9,_),(14,_)] ?_
   refine k_T rfl ?_
   refine AWP.region ?_
   refine k_m rfl (k_m rfl ?_)
   refine ARun.build1s (lit_lt rfl) ty_sl_24 rfl rfl ?_
   intro b17 f17
   have g17:=f17
   repeat ((with_reducible replace g17:=fresh_set g17);obtain ⟨g17,_⟩:=g17)
   refine ARun.appendO (lit_lt rfl) ty_sl_24 rfl hpl (appO_of ho hpl f17) rfl (news:=[_]) rds_ rfl (by omega) (by simp [Value.oneCell']) (by omega) (by omega) ?_
   intro b18 c18 ho2
   have eN:(i+31) / 32+1=(i+1+31) / 32:=by omega
   have eL:((pre s.data.toList ((i+31) / 32)).map fun x=>Value.int .i64 x) ++ [.int .i64 (cnt s.data.toList i:Nat)]=((pre s.data.toList ((i+1+31) / 32)).map fun x=>Value.int .i64 x):=by rw [← eN,pre_succ,List.map_append,show 32*((i+31) / 32)=i from by omega];rfl
   rw [eL]
   rw [eN] at ho2 ⊢
   have own2:=own_outM (e:=3) (cs:=((pre s.data.toList ((i+1+31) / 32)).map fun x=>Value.int .i64 x)) ho2 (Mem.own_set_same S b1 ⟨44,[.string s,.int .i64 N],2⟩)
   have kN2:Mem.Knows (outM (S.set b1 ⟨44,[.string s,.int .i64 N],2⟩) (some (b18,c18)) 3 ((pre s.data.toList ((i+1+31) / 32)).map fun x=>Value.int .i64 x)) ⟨b1,0+1,none⟩ [.int .i64 N]:=Mem.own_knows own2 _ _ (fun j v hj=>by cases j with | zero=>exact hj | succ j=>simp at hj)
   have kB2:Mem.Knows (outM (S.set b1 ⟨44,[.string s,.int .i64 N],2⟩) (some (b18,c18)) 3 ((pre s.data.toList ((i+1+31) / 32)).map fun x=>Value.int .i64 x)) ⟨b1,0,none⟩ [.string s,.int .i64 N]:=Mem.own_knows own2 _ _ (fun j v hj=>by rw [Nat.zero_add];exact hj)
   refine k_e rfl ?_
   refine k_u [(1,_),(3,_),(4,_),(5,_),(9,_),(14,_)] ?_
   by_cases hn:i<N
   ·have em2:min (i+1) N=i+1:=by omega
    refine k_a (k_m rfl ?_)
    refine rC (Calm.fieldAddr ty_field_44_1 rfl) ?_
    refine rC (ld_ ty_plain_3 rfl) ?_
    refine rC (Calm.bin rfl rfl b_lss) ?_
    refine k_m rfl ?_
    first|refine k_q 23 ?_|refine rG 23 (ldA_ (cs:=[_,_]) ty_agg_44 ty_size_44 rfl) ?_
    first|refine k_q 23 ?_|refine rG 23 (Calm.move rfl) ?_
    refine ARun.callG 4 true 23 rfl (lit_lt rfl) rfl (lit_lt rfl) go_175 rfl (refV_Is s N i _ (by omega) (by omega) hs) ?_
    rintro _ S1 ⟨rfl,h1⟩
    rw [h1,Int.toNat_natCast];clear h1 S1
    first|refine k_t rfl rfl ?_|refine k_f rfl rfl ?_
    refine k_n ?_
    refine k_u [(1,_),(3,_),(4,_),(5,_),(9,_),(14,_),(27,_)] ?_
    rcases Bool.eq_false_or_eq_true (isBit s.data.toList i) with hbt | hbt
    ·have hcs:=cnt_succ s.data.toList i;rw [hbt] at hcs;simp only [if_true,if_false,Bool.false_eq_true] at hcs
     refine AWP.condT rfl (hbt) ?_
     refine AWP.region ?_
     refine k_m rfl ?_
     refine rC (Calm.bin rfl rfl b_add_i64) ?_
     refine k_s rfl ?_
     refine arun_nil ?_
     refine ain_n ?_
     refine athen_n ?_
     refine k_u [(1,_),(3,_),(4,_),(5,_),(9,_),(14,_),(27,_)] ?_
     refine AWP.region ?_
     refine k_m rfl ?_
     refine rC (Calm.bin rfl rfl b_add_i64) ?_
     refine k_e rfl ?_
     refine ⟨(i+1,(some (b18,c18))),?_,?_,?_,?_⟩
     all_goals (try dsimp only)
     ·exact ⟨rfl,rfl,some_int (by rw [em2,hcs];omega),some_int (by omega),trivial⟩
     ·exact Mem.Less.refl _
     ·exact ⟨by omega,ho2⟩
     ·omega
    ·have hcs:=cnt_succ s.data.toList i;rw [hbt] at hcs;simp only [if_true,if_false,Bool.false_eq_true] at hcs
     refine AWP.condF rfl (hbt) ?_
     refine AWP.skip ?_
     refine ain_n ?_
     refine athen_n ?_
     refine AWP.region ?_
     refine k_m rfl ?_
     refine rC (Calm.bin rfl rfl b_add_i64) ?_
     refine k_e rfl ?_
     refine ⟨(i+1,(some (b18,c18))),?_,?_,?_,?_⟩
     all_goals (try dsimp only)
     ·exact ⟨rfl,rfl,some_int (by rw [em2,hcs];omega),some_int (by omega),trivial⟩
     ·exact Mem.Less.refl _
     ·exact ⟨by omega,ho2⟩
     ·omega
   ·have em2:min (i+1) N=i:=by omega
    refine k_a (k_m rfl ?_)
    refine rC (Calm.fieldAddr ty_field_44_1 rfl) ?_
    refine rC (ld_ ty_plain_3 rfl) ?_
    refine rC (Calm.bin rfl rfl b_lss) ?_
    refine k_m rfl ?_
    first|refine k_q 23 ?_|refine rG 23 (ldA_ (cs:=[_,_]) ty_agg_44 ty_size_44 rfl) ?_
    first|refine k_q 23 ?_|refine rG 23 (Calm.move rfl) ?_
    first | refine rS 23 ?_ | refine rU 23 ?_
    first|refine k_t rfl rfl ?_|refine k_f rfl rfl ?_
    refine k_n ?_
    refine k_u [(1,_),(3,_),(4,_),(5,_),(9,_),(14,_),(27,_)] ?_
    refine k_F rfl ?_
    refine AWP.skip ?_
    refine ain_n ?_
    refine athen_n ?_
    refine AWP.region ?_
    refine k_m rfl ?_
    refine rC (Calm.bin rfl rfl b_add_i64) ?_
    refine k_e rfl ?_
    refine ⟨(i+1,(some (b18,c18))),?_,?_,?_,?_⟩
    all_goals (try dsimp only)
    ·exact ⟨rfl,rfl,some_int (by rw [em2]),some_int (by omega),trivial⟩
    ·exact Mem.Less.refl _
    ·exact ⟨by omega,ho2⟩
    ·omega
  ·refine k_k (AWP.seq ?_)
   refine AWP.block ?_
   refine AWP.seq (k_a (k_m rfl ?_))
   refine rC (Calm.bin rfl rfl b_rem) ?_
   refine rC (Calm.bin rfl rfl b_eql) ?_
   refine k_n ?_
   refine k_u [(1,_),(3,_),(4,_),(5,_),(9,_),(14,_)] ?_
   refine k_F rfl ?_
   have eN:(i+31) / 32=(i+1+31) / 32:=by omega
   rw [eN] at ho ⊢
   have own2:=own_outM (e:=3) (cs:=((pre s.data.toList ((i+1+31) / 32)).map fun x=>Value.int .i64 x)) ho (Mem.own_set_same S b1 ⟨44,[.string s,.int .i64 N],2⟩)
   have kN2:Mem.Knows (outM (S.set b1 ⟨44,[.string s,.int .i64 N],2⟩) o 3 ((pre s.data.toList ((i+1+31) / 32)).map fun x=>Value.int .i64 x)) ⟨b1,0+1,none⟩ [.int .i64 N]:=Mem.own_knows own2 _ _ (fun j v hj=>by cases j with | zero=>exact hj | succ j=>simp at hj)
   have kB2:Mem.Knows (outM (S.set b1 ⟨44,[.string s,.int .i64 N],2⟩) o 3 ((pre s.data.toList ((i+1+31) / 32)).map fun x=>Value.int .i64 x)) ⟨b1,0,none⟩ [.string s,.int .i64 N]:=Mem.own_knows own2 _ _ (fun j v hj=>by rw [Nat.zero_add];exact hj)
   by_cases hn:i<N
   ·have em2:min (i+1) N=i+1:=by omega
    refine k_k (k_a (k_m rfl ?_))
    refine rC (Calm.fieldAddr ty_field_44_1 rfl) ?_
    refine rC (ld_ ty_plain_3 rfl) ?_
    refine rC (Calm.bin rfl rfl b_lss) ?_
    refine k_m rfl ?_
    first|refine k_q 23 ?_|refine rG 23 (ldA_ (cs:=[_,_]) ty_agg_44 ty_size_44 rfl) ?_
    first|refine k_q 23 ?_|refine rG 23 (Calm.move rfl) ?_
    refine ARun.callG 4 true 23 rfl (lit_lt rfl) rfl (lit_lt rfl) go_175 rfl (refV_Is s N i _ (by omega) (by omega) hs) ?_
    rintro _ S1 ⟨rfl,h1⟩
    rw [h1,Int.toNat_natCast];clear h1 S1
    first|refine k_t rfl rfl ?_|refine k_f rfl rfl ?_
    refine k_n ?_
    refine k_u [(1,_),(3,_),(4,_),(5,_),(9,_),(14,_),(27,_)] ?_
    rcases Bool.eq_false_or_eq_true (isBit s.data.toList i) with hbt | hbt
    ·have hcs:=cnt_succ s.data.toList i;rw [hbt] at hcs;simp only [if_true,if_false,Bool.false_eq_true] at hcs
     refine AWP.condT rfl (hbt) ?_
     refine AWP.region ?_
     refine k_m rfl ?_
     refine rC (Calm.bin rfl rfl b_add_i64) ?_
     refine k_s rfl ?_
     refine arun_nil ?_
     refine ain_n ?_
     refine athen_n ?_
     refine k_u [(1,_),(3,_),(4,_),(5,_),(9,_),(14,_),(27,_)] ?_
     refine AWP.region ?_
     refine k_m rfl ?_
     refine rC (Calm.bin rfl rfl b_add_i64) ?_
     refine k_e rfl ?_
     refine ⟨(i+1,o),?_,?_,?_,?_⟩
     all_goals (try dsimp only)
     ·exact ⟨rfl,rfl,some_int (by rw [em2,hcs];omega),some_int (by omega),trivial⟩
     ·exact Mem.Less.refl _
     ·exact ⟨by omega,ho⟩
     ·omega
    ·have hcs:=cnt_succ s.data.toList i;rw [hbt] at hcs;simp only [if_true,if_false,Bool.false_eq_true] at hcs
     refine AWP.condF rfl (hbt) ?_
     refine AWP.skip ?_
     refine ain_n ?_
     refine athen_n ?_
     refine AWP.region ?_
     refine k_m rfl ?_
     refine rC (Calm.bin rfl rfl b_add_i64) ?_
     refine k_e rfl ?_
     refine ⟨(i+1,o),?_,?_,?_,?_⟩
     all_goals (try dsimp only)
     ·exact ⟨rfl,rfl,some_int (by rw [em2,hcs];omega),some_int (by omega),trivial⟩
     ·exact Mem.Less.refl _
     ·exact ⟨by omega,ho⟩
     ·omega
   ·have em2:min (i+1) N=i:=by omega
    refine k_k (k_a (k_m rfl ?_))
    refine rC (Calm.fieldAddr ty_field_44_1 rfl) ?_
    refine rC (ld_ ty_plain_3 rfl) ?_
    refine rC (Calm.bin rfl rfl b_lss) ?_
    refine k_m rfl ?_
    first|refine k_q 23 ?_|refine rG 23 (ldA_ (cs:=[_,_]) ty_agg_44 ty_size_44 rfl) ?_
    first|refine k_q 23 ?_|refine rG 23 (Calm.move rfl) ?_
    first | refine rS 23 ?_ | refine rU 23 ?_
    first|refine k_t rfl rfl ?_|refine k_f rfl rfl ?_
    refine k_n ?_
    refine k_u [(1,_),(3,_),(4,_),(5,_),(9,_),(14,_),(27,_)] ?_
    refine k_F rfl ?_
    refine AWP.skip ?_
    refine ain_n ?_
    refine athen_n ?_
    refine AWP.region ?_
    refine k_m rfl ?_
    refine rC (Calm.bin rfl rfl b_add_i64) ?_
    refine k_e rfl ?_
    refine ⟨(i+1,o),?_,?_,?_,?_⟩
    all_goals (try dsimp only)
    ·exact ⟨rfl,rfl,some_int (by rw [em2]),some_int (by omega),trivial⟩
    ·exact Mem.Less.refl _
    ·exact ⟨by omega,ho⟩
    ·omega
 ·refine AWP.seq (k_a (k_m rfl ?_))
  refine rC (Calm.fieldAddr ty_field_44_1 rfl) ?_
  refine rC (ld_ ty_plain_3 rfl) ?_
  refine rC (Calm.bin rfl rfl b_leq) ?_
  refine k_n ?_
  refine k_u [(1,_),(3,_),(4,_),(5,_),(9,_)] ?_
  refine k_F rfl ?_
  obtain rfl:i=N+1:=by omega
  have eN:(N+1+31) / 32=N / 32+1:=by omega
  rw [eN] at ho ⊢
  obtain ⟨b,c,rfl⟩:=ho.some (by omega)
  obtain ⟨fb,hbc⟩:=ho.own b c rfl
  obtain ⟨gb,nb1⟩:=fresh_set fb
  have nb2:=Ne.symm nb1
  have er:(rows s.data.toList N).length=N / 32+1:=rows_length _ _
  refine AWP.exit ?_
  refine athen_exit ?_
  refine athen_exit ?_
  refine ain_same ?_
  refine athen_n ?_
  refine k_a (k_m rfl (k_e rfl ?_))
  refine k_u [(1,_),(3,_),(4,_),(5,_),(9,_),(2,_)] ?_
  refine AWP.ret ?_
  refine ⟨_,S.set b ⟨3,(rows s.data.toList N).map fun x=>Value.int .i64 x,c⟩,⟨_,_,rfl,rfl,rfl⟩,(show (S.set b ⟨3,(rows s.data.toList N).map fun x=>Value.int .i64 x,c⟩).Less ((S.set b1 ⟨44,[.string s,.int .i64 N],2⟩).set b ⟨3,(rows s.data.toList N).map fun x=>Value.int .i64 x,c⟩) from less_),?_⟩
  exact ⟨b,c,gb,by rw [er];exact hbc,by rw [er];rfl,rfl⟩
end Go.Proofs.Ytgidjbpgkeemiaa
namespace Go.Proofs.Ytgidjbpgkeemiaa
open Go.RowKit
open Mv Bits Sel
set_option maxRecDepth 20000
namespace Sel
end Sel
theorem chk_nat {s : ByteArray} {N : Int} (h : chk s.data.toList N = 0) : ∃ n : Nat, N = n ∧ n ≤ 1048576 ∧ n ≤ 8 * s.size ∧ s.size = (n + 7) / 8 := by
 obtain ⟨hN0,hN1,hR⟩:=chk_right h
 have hs1:s.size=(N.toNat+7) / 8:=by rw [← hR.1];exact size_list s
 exact ⟨N.toNat,by omega,by omega,by omega,hs1⟩
namespace Sel
noncomputable def makeR (s : ByteArray) (N : Int) : ByteArray × Int × List Int × Int := if chk s.data.toList N = 0 then (s, N, rows s.data.toList N.toNat, 0) else (ByteArray.empty, 0, [], 2)
end Sel
/-- Rows that are made, and an error. -/
def RwR (p : ByteArray × Int × List Int × Int) (S : Mem) (r : Value) (S' : Mem) : Prop := ∃ hc, r = .tuple #[.agg #[.string p.1, .int .i64 p.2.1, hc], .int .i64 p.2.2.2] ∧ S.Less S' ∧ Sl 1 i64s S' hc p.2.2.1
set_option maxHeartbeats 1000000 in
theorem selV_Make (s : ByteArray) (N : Int) (S : Mem) (hs : s.size ≤ 281474976710656) :
  ACall Try.prog 112 #[.agg #[.string s,.int .i64 N]] S (RwR (makeR s N) S):=by
 unfold makeR
 by_cases hck:chk s.data.toList N=0
 ·obtain ⟨n,rfl,hn1,hn2,_⟩:=chk_nat hck
  have hrl:=rows_length s.data.toList n
  rw [if_pos hck,Int.toNat_natCast]
  refine ACall.enter (rs:=[.cell 2 46,.tmp 3]) 15 [(0,.agg #[.string s,.int .i64 (n:Int)])] Try.func112 rfl rfl (Nat.le_of_ble_eq_true rfl) rfl ⟨rfl,trivial⟩ ?_
  refine k_a ?_
  refine ARun.boxA (cs:=[_,_]) (lit_lt rfl) rfl ?_
  intro b1 f1
  have g1:=f1
  repeat ((with_reducible replace g1:=fresh_set g1);obtain ⟨g1,_⟩:=g1)
  try simp only [k_l1,k_l0,k_za,Nat.reduceAdd]
  refine ARun.alloc (lit_lt rfl) ty_zero_46 ?_
  intro b2 f2
  have g2:=f2
  repeat ((with_reducible replace g2:=fresh_set g2);obtain ⟨g2,_⟩:=g2)
  try simp only [k_l1,k_l0,k_za,Nat.reduceAdd]
  refine k_e rfl (AWP.seq (k_a ?_))
  refine rC (ldA_ (cs:=[_,_]) ty_agg_44 ty_size_44 rfl) ?_
  refine ARun.call (lit_lt rfl) go_139 rfl (bitsV_Check s n _ (by omega)) ?_
  rintro _ S1 ⟨rfl,h1⟩
  rw [h1,hck];clear h1 S1
  refine k_e rfl ?_
  refine k_u [(0,_),(1,_),(2,_),(3,_),(4,_)] ?_
  refine k_a (k_m rfl ?_)
  refine rC (Calm.bin rfl rfl b_neq) ?_
  refine k_n ?_
  refine k_u [(0,_),(1,_),(2,_),(3,_),(4,_),(8,_)] ?_
  refine k_F rfl ?_
  refine k_k (AWP.seq ?_)
  refine AWP.draw [(0,true),(1,true),(2,false),(3,true),(4,false),(5,true)] [4] mixed (by kernel_rfl) ?_
  refine dC (hc:=ldA_ (cs:=[_,_]) ty_agg_44 ty_size_44 rfl) (h:=?_)
  refine dC (hc:=ldA_ (cs:=[_,_]) ty_agg_44 ty_size_44 rfl) (h:=?_)
  refine draw_only rfl ?_
  refine ARun.call (lit_lt rfl) go_140 rfl (selV_counts s n _ hs hn1 hn2) ?_
  rintro _ S1 ⟨b,c,fb,hbc,rfl,h1⟩
  rw [h1];clear h1 S1;unfold intB
  obtain ⟨fb2,nb2⟩:=fresh_set fb;obtain ⟨fb1,nb1⟩:=fresh_set fb2;have nb2':=Ne.symm nb2;have nb1':=Ne.symm nb1
  refine arun_nil ⟨fun _=>less_,?_⟩
  refine dP (hc:=fun _=>Calm.build (cs:=[_,_,_]) ty_bld_46 rfl rfl) (h:=?_)
  refine draw_only rfl ?_
  first|refine k_A rfl rfl ty_size_46 ?_|refine k_B rfl rfl ty_size_46 ?_
  try simp only [k_ms,k_sz,k_ss,k_za,Nat.reduceAdd]
  refine arun_nil ⟨fun h=>absurd h (by decide),?_⟩
  refine dP (hc:=fun _=>Calm.assign rfl) (h:=?_)
  refine draw_nil ?_
  refine athen_n ?_
  refine k_u [(0,_),(1,_),(2,_),(3,_),(4,_),(8,_)] ?_
  refine AWP.ret ?_
  refine ⟨_,S.set b ⟨3,(rows s.data.toList n).map fun x=>Value.int .i64 x,c⟩,⟨_,_,_,rfl,.inr ⟨ty_agg_46,[_,_,_],ty_size_46,rds_,rfl⟩,⟨_,_,rfl,rfl,rfl⟩,rfl⟩,less_,?_⟩
  exact ⟨_,rfl,Mem.less_set _ _ _ fb1.1,sl_intB (Mem.own_set_same _ _ _) rfl hbc (by omega)⟩
 ·rw [if_neg hck]
  have hck2:=chk_two hck
  refine ACall.enter (rs:=[.cell 2 46,.tmp 3]) 15 [(0,.agg #[.string s,.int .i64 N])] Try.func112 rfl rfl (Nat.le_of_ble_eq_true rfl) rfl ⟨rfl,trivial⟩ ?_
  refine k_a ?_
  refine ARun.boxA (cs:=[_,_]) (lit_lt rfl) rfl ?_
  intro b1 f1
  have g1:=f1
  repeat ((with_reducible replace g1:=fresh_set g1);obtain ⟨g1,_⟩:=g1)
  try simp only [k_l1,k_l0,k_za,Nat.reduceAdd]
  refine ARun.alloc (lit_lt rfl) ty_zero_46 ?_
  intro b2 f2
  have g2:=f2
  repeat ((with_reducible replace g2:=fresh_set g2);obtain ⟨g2,_⟩:=g2)
  try simp only [k_l1,k_l0,k_za,Nat.reduceAdd]
  refine k_e rfl (AWP.seq (k_a ?_))
  refine rC (ldA_ (cs:=[_,_]) ty_agg_44 ty_size_44 rfl) ?_
  refine ARun.call (lit_lt rfl) go_139 rfl (bitsV_Check s N _ (by omega)) ?_
  rintro _ S1 ⟨rfl,h1⟩
  rw [h1,hck2];clear h1 S1
  refine k_e rfl ?_
  refine k_u [(0,_),(1,_),(2,_),(3,_),(4,_)] ?_
  refine k_a (k_m rfl ?_)
  refine rC (Calm.bin rfl rfl b_neq) ?_
  refine k_n ?_
  refine k_u [(0,_),(1,_),(2,_),(3,_),(4,_),(8,_)] ?_
  refine k_T rfl ?_
  refine k_a ?_
  refine rC (Calm.build (cs:=[_,_,_]) ty_bld_46 rfl rfl) ?_
  refine k_m rfl ?_
  first|refine k_A rfl rfl ty_size_46 ?_|refine k_B rfl rfl ty_size_46 ?_
  try simp only [k_ms,k_sz,k_ss,k_za,Nat.reduceAdd]
  refine k_e rfl ?_
  refine k_u [(0,_),(1,_),(2,_),(3,_),(4,_),(8,_)] ?_
  refine k_r ?_
  refine ⟨_,S,⟨_,_,_,rfl,.inr ⟨ty_agg_46,[_,_,_],ty_size_46,rds_,rfl⟩,⟨_,_,rfl,rfl,rfl⟩,rfl⟩,less_,?_⟩
  exact ⟨_,rfl,Mem.Less.refl _,Sl.nil _ _ _⟩
set_option maxHeartbeats 1000000 in
theorem rselV_Make (s : ByteArray) (N : Int) (S : Mem) (hs : s.size ≤ 281474976710656) :
  ACall Try.prog 114 #[.agg #[.string s,.int .i64 N]] S (RwR (makeR s N) S):=by
 unfold makeR
 by_cases hck:chk s.data.toList N=0
 ·obtain ⟨n,rfl,hn1,hn2,_⟩:=chk_nat hck
  have hrl:=rows_length s.data.toList n
  rw [if_pos hck,Int.toNat_natCast]
  refine ACall.enter (rs:=[.cell 2 46,.tmp 3]) 12 [(0,.agg #[.string s,.int .i64 (n:Int)])] Try.func114 rfl rfl (Nat.le_of_ble_eq_true rfl) rfl ⟨rfl,trivial⟩ ?_
  refine k_a ?_
  refine ARun.boxA (cs:=[_,_]) (lit_lt rfl) rfl ?_
  intro b1 f1
  have g1:=f1
  repeat ((with_reducible replace g1:=fresh_set g1);obtain ⟨g1,_⟩:=g1)
  try simp only [k_l1,k_l0,k_za,Nat.reduceAdd]
  refine ARun.alloc (lit_lt rfl) ty_zero_46 ?_
  intro b2 f2
  have g2:=f2
  repeat ((with_reducible replace g2:=fresh_set g2);obtain ⟨g2,_⟩:=g2)
  try simp only [k_l1,k_l0,k_za,Nat.reduceAdd]
  refine k_e rfl (AWP.seq (k_a ?_))
  refine rC (ldA_ (cs:=[_,_]) ty_agg_44 ty_size_44 rfl) ?_
  refine ARun.call (lit_lt rfl) go_142 rfl (refV_Check s n _ (by omega)) ?_
  rintro _ S1 ⟨rfl,h1⟩
  rw [h1,hck];clear h1 S1
  refine rC (Calm.bin rfl rfl b_neq) ?_
  refine k_n ?_
  refine k_u [(0,_),(1,_),(2,_),(3,_),(6,_)] ?_
  refine k_F rfl ?_
  refine k_k (AWP.seq ?_)
  refine AWP.draw [(0,true),(1,true),(2,false),(3,true),(4,false),(5,true)] [4] mixed (by kernel_rfl) ?_
  refine dC (hc:=ldA_ (cs:=[_,_]) ty_agg_44 ty_size_44 rfl) (h:=?_)
  refine dC (hc:=ldA_ (cs:=[_,_]) ty_agg_44 ty_size_44 rfl) (h:=?_)
  refine draw_only rfl ?_
  refine ARun.call (lit_lt rfl) go_143 rfl (rselV_counts s n _ hs hn1 hn2) ?_
  rintro _ S1 ⟨b,c,fb,hbc,rfl,h1⟩
  rw [h1];clear h1 S1;unfold intB
  obtain ⟨fb2,nb2⟩:=fresh_set fb;obtain ⟨fb1,nb1⟩:=fresh_set fb2;have nb2':=Ne.symm nb2;have nb1':=Ne.symm nb1
  refine arun_nil ⟨fun _=>less_,?_⟩
  refine dP (hc:=fun _=>Calm.build (cs:=[_,_,_]) ty_bld_46 rfl rfl) (h:=?_)
  refine draw_only rfl ?_
  first|refine k_A rfl rfl ty_size_46 ?_|refine k_B rfl rfl ty_size_46 ?_
  try simp only [k_ms,k_sz,k_ss,k_za,Nat.reduceAdd]
  refine arun_nil ⟨fun h=>absurd h (by decide),?_⟩
  refine dP (hc:=fun _=>Calm.assign rfl) (h:=?_)
  refine draw_nil ?_
  refine athen_n ?_
  refine k_u [(0,_),(1,_),(2,_),(3,_),(6,_)] ?_
  refine AWP.ret ?_
  refine ⟨_,S.set b ⟨3,(rows s.data.toList n).map fun x=>Value.int .i64 x,c⟩,⟨_,_,_,rfl,.inr ⟨ty_agg_46,[_,_,_],ty_size_46,rds_,rfl⟩,⟨_,_,rfl,rfl,rfl⟩,rfl⟩,less_,?_⟩
  exact ⟨_,rfl,Mem.less_set _ _ _ fb1.1,sl_intB (Mem.own_set_same _ _ _) rfl hbc (by omega)⟩
 ·rw [if_neg hck]
  have hck2:=chk_two hck
  refine ACall.enter (rs:=[.cell 2 46,.tmp 3]) 12 [(0,.agg #[.string s,.int .i64 N])] Try.func114 rfl rfl (Nat.le_of_ble_eq_true rfl) rfl ⟨rfl,trivial⟩ ?_
  refine k_a ?_
  refine ARun.boxA (cs:=[_,_]) (lit_lt rfl) rfl ?_
  intro b1 f1
  have g1:=f1
  repeat ((with_reducible replace g1:=fresh_set g1);obtain ⟨g1,_⟩:=g1)
  try simp only [k_l1,k_l0,k_za,Nat.reduceAdd]
  refine ARun.alloc (lit_lt rfl) ty_zero_46 ?_
  intro b2 f2
  have g2:=f2
  repeat ((with_reducible replace g2:=fresh_set g2);obtain ⟨g2,_⟩:=g2)
  try simp only [k_l1,k_l0,k_za,Nat.reduceAdd]
  refine k_e rfl (AWP.seq (k_a ?_))
  refine rC (ldA_ (cs:=[_,_]) ty_agg_44 ty_size_44 rfl) ?_
  refine ARun.call (lit_lt rfl) go_142 rfl (refV_Check s N _ (by omega)) ?_
  rintro _ S1 ⟨rfl,h1⟩
  rw [h1,hck2];clear h1 S1
  refine rC (Calm.bin rfl rfl b_neq) ?_
  refine k_n ?_
  refine k_u [(0,_),(1,_),(2,_),(3,_),(6,_)] ?_
  refine k_T rfl ?_
  refine k_a ?_
  refine rC (Calm.build (cs:=[_,_,_]) ty_bld_46 rfl rfl) ?_
  first|refine k_A rfl rfl ty_size_46 ?_|refine k_B rfl rfl ty_size_46 ?_
  try simp only [k_ms,k_sz,k_ss,k_za,Nat.reduceAdd]
  refine k_e rfl ?_
  refine k_u [(0,_),(1,_),(2,_),(3,_),(6,_)] ?_
  refine k_r ?_
  refine ⟨_,S,⟨_,_,_,rfl,.inr ⟨ty_agg_46,[_,_,_],ty_size_46,rds_,rfl⟩,⟨_,_,rfl,rfl,rfl⟩,rfl⟩,less_,?_⟩
  exact ⟨_,rfl,Mem.Less.refl _,Sl.nil _ _ _⟩
end Go.Proofs.Ytgidjbpgkeemiaa
namespace Go.Proofs.Ytgidjbpgkeemiaa
open Go.RowKit
open Mv Bits Sel
set_option maxRecDepth 20000
theorem eql_bv (a b : ByteArray) (n m : Int) (w : World) : (binOp .eql 44 (.agg #[.string a, .int .i64 n]) (.agg #[.string b, .int .i64 m])).run Try.prog w = .ok (.bool (decide (a = b ∧ n = m))) w := by
 have e:(decide (a=b∧n=m))=((a.toList == b.toList) && (n == m)):=by
  rw [Bool.eq_iff_iff];simp [str_inj]
 rw [e]
 go_simp
 cases h:(a.toList == b.toList) <;> cases h2:(n == m) <;> simp_all
theorem bin_eql_Bitstr {x y : Operand} (a b : ByteArray) (n m : Int) : Bin Try.prog .eql 44 x y (.agg #[.string a, .int .i64 n]) (.agg #[.string b, .int .i64 m]) (.bool (decide (a = b ∧ n = m))) := fun w => by
 rw [Sem.run_bind,run_eqGuard_agg w .eql 44 x y _ _ (by kernel_rfl)]
 exact eql_bv a b n m w
theorem rselV_Same (s1 s2 : ByteArray) (N1 N2 : Int) (h1 h2 : Value) (c1 c2 : List Int) (S : Mem) (hv1 : Sl 1 i64s S h1 c1) (hv2 : Sl 1 i64s S h2 c2) :
  ACall Try.prog 78 #[.agg #[.string s1,.int .i64 N1,h1],.agg #[.string s2,.int .i64 N2,h2]] S fun r S'=>r = .bool (decide (s1=s2∧N1=N2) && decide (c1=c2))∧S'=S:=by
 obtain ⟨p1,d1,rfl,_⟩:=id hv1
 obtain ⟨p2,d2,rfl,_⟩:=id hv2
 by_cases he:s1=s2∧N1=N2
 ·rw [decide_eq_true he]
  refine ACall.enter (rs:=[.tmp 4]) 17 [(0,.agg #[.string s1,.int .i64 N1,.slice p1 c1.length d1]),(1,.agg #[.string s2,.int .i64 N2,.slice p2 c2.length d2])] Try.func78 rfl rfl (Nat.le_of_ble_eq_true rfl) rfl ⟨rfl,rfl,trivial⟩ ?_
  refine k_a ?_
  refine ARun.boxA (cs:=[_,_,_]) (lit_lt rfl) rfl ?_
  intro b2 f2
  have g2:=f2
  repeat ((with_reducible replace g2:=fresh_set g2);obtain ⟨g2,_⟩:=g2)
  try simp only [k_l1,k_l0,k_za,Nat.reduceAdd]
  refine ARun.boxA (cs:=[_,_,_]) (lit_lt rfl) rfl ?_
  intro b3 f3
  have g3:=f3
  repeat ((with_reducible replace g3:=fresh_set g3);obtain ⟨g3,_⟩:=g3)
  try simp only [k_l1,k_l0,k_za,Nat.reduceAdd]
  refine k_e rfl (k_a ?_)
  refine rC (Calm.fieldAddr ty_field_46_0 rfl) ?_
  refine rC (ldA_ (cs:=[_,_]) ty_agg_44 ty_size_44 rfl) ?_
  refine rC (Calm.fieldAddr ty_field_46_0 rfl) ?_
  refine rC (ldA_ (cs:=[_,_]) ty_agg_44 ty_size_44 rfl) ?_
  refine rC (Calm.bin rfl rfl (bin_bool (bin_eql_Bitstr _ _ _ _) (decide_eq_true he))) ?_
  refine k_m rfl ?_
  first|refine k_q 10 ?_|refine rG 10 (Calm.fieldAddr ty_field_46_1 rfl) ?_
  first|refine k_q 10 ?_|refine rG 10 (ld_ ty_plain_24 rfl) ?_
  first|refine k_q 10 ?_|refine rG 10 (Calm.fieldAddr ty_field_46_1 rfl) ?_
  first|refine k_q 10 ?_|refine rG 10 (ld_ ty_plain_24 rfl) ?_
  refine ARun.callG 5 true 10 rfl (lit_lt rfl) rfl (lit_lt rfl) go_21 rfl (rlosV_SameNumbers c1 c2 _ _ _ (hv1.less less_) (hv2.less less_)) ?_
  rintro _ S1 ⟨rfl,h1⟩
  rw [h1];clear h1 S1
  first|refine k_t rfl rfl ?_|refine k_f rfl rfl ?_
  refine k_e rfl ?_
  refine k_u [(0,_),(1,_),(2,_),(3,_),(4,_)] ?_
  refine AWP.ret ?_
  refine ⟨_,S,⟨_,_,rfl,rfl,rfl⟩,less_,?_⟩
  exact ⟨by rw [Bool.true_and];rfl,rfl⟩
 ·rw [decide_eq_false he]
  refine ACall.enter (rs:=[.tmp 4]) 17 [(0,.agg #[.string s1,.int .i64 N1,.slice p1 c1.length d1]),(1,.agg #[.string s2,.int .i64 N2,.slice p2 c2.length d2])] Try.func78 rfl rfl (Nat.le_of_ble_eq_true rfl) rfl ⟨rfl,rfl,trivial⟩ ?_
  refine k_a ?_
  refine ARun.boxA (cs:=[_,_,_]) (lit_lt rfl) rfl ?_
  intro b2 f2
  have g2:=f2
  repeat ((with_reducible replace g2:=fresh_set g2);obtain ⟨g2,_⟩:=g2)
  try simp only [k_l1,k_l0,k_za,Nat.reduceAdd]
  refine ARun.boxA (cs:=[_,_,_]) (lit_lt rfl) rfl ?_
  intro b3 f3
  have g3:=f3
  repeat ((with_reducible replace g3:=fresh_set g3);obtain ⟨g3,_⟩:=g3)
  try simp only [k_l1,k_l0,k_za,Nat.reduceAdd]
  refine k_e rfl (k_a ?_)
  refine rC (Calm.fieldAddr ty_field_46_0 rfl) ?_
  refine rC (ldA_ (cs:=[_,_]) ty_agg_44 ty_size_44 rfl) ?_
  refine rC (Calm.fieldAddr ty_field_46_0 rfl) ?_
  refine rC (ldA_ (cs:=[_,_]) ty_agg_44 ty_size_44 rfl) ?_
  refine rC (Calm.bin rfl rfl (bin_bool (bin_eql_Bitstr _ _ _ _) (decide_eq_false he))) ?_
  refine k_m rfl ?_
  first|refine k_q 10 ?_|refine rG 10 (Calm.fieldAddr ty_field_46_1 rfl) ?_
  first|refine k_q 10 ?_|refine rG 10 (ld_ ty_plain_24 rfl) ?_
  first|refine k_q 10 ?_|refine rG 10 (Calm.fieldAddr ty_field_46_1 rfl) ?_
  first|refine k_q 10 ?_|refine rG 10 (ld_ ty_plain_24 rfl) ?_
  first | refine rS 10 ?_ | refine rU 10 ?_
  first|refine k_t rfl rfl ?_|refine k_f rfl rfl ?_
  refine k_e rfl ?_
  refine k_u [(0,_),(1,_),(2,_),(3,_),(4,_)] ?_
  refine AWP.ret ?_
  refine ⟨_,S,⟨_,_,rfl,rfl,rfl⟩,less_,?_⟩
  exact ⟨by rw [Bool.false_and];rfl,rfl⟩
end Go.Proofs.Ytgidjbpgkeemiaa
namespace Go.Proofs.Ytgidjbpgkeemiaa
open Go.RowKit
open Mv Bits Sel
set_option maxRecDepth 20000
namespace Sel
noncomputable def ofP (L : List Bool) : ByteArray × Int × List Int × Int := if 65536 < L.length then (ByteArray.empty, 0, [], 1) else makeR (bs (pack L)) (L.length : Nat)
end Sel
set_option maxHeartbeats 1000000 in
theorem rselV_Of (a : Option Addr) (n cap : Nat) (L : List Bool) (S : Mem) (hL : IsBl S a n L) (hz : L.length ≤ 65536 → (bs (pack L)).size ≤ 281474976710656) :
  ACall Try.prog 75 #[.slice a n cap] S (RwR (ofP L) S):=by
 have hn:L.length=n:=hL.1
 unfold ofP
 by_cases hb:65536<L.length
 ·rw [if_pos hb]
  refine ACall.enter (rs:=[.cell 2 46,.tmp 3]) 13 [(0,.slice a n cap)] Try.func75 rfl rfl (Nat.le_of_ble_eq_true rfl) rfl ⟨rfl,trivial⟩ ?_
  refine k_a ?_
  refine ARun.alloc (lit_lt rfl) ty_zero_46 ?_
  intro b2 f2
  have g2:=f2
  repeat ((with_reducible replace g2:=fresh_set g2);obtain ⟨g2,_⟩:=g2)
  try simp only [k_l1,k_l0,k_za,Nat.reduceAdd]
  refine k_e rfl (AWP.seq (k_a (k_m rfl ?_)))
  refine rC (Calm.lenSl Try.underlying40 rfl) ?_
  refine rC (Calm.bin rfl rfl b_gtr) ?_
  refine k_n ?_
  refine k_u [(0,_),(2,_),(3,_),(6,_)] ?_
  refine k_T rfl ?_
  refine k_a ?_
  refine rC (Calm.build (cs:=[_,_,_]) ty_bld_46 rfl rfl) ?_
  first|refine k_A rfl rfl ty_size_46 ?_|refine k_B rfl rfl ty_size_46 ?_
  try simp only [k_ms,k_sz,k_ss,k_za,Nat.reduceAdd]
  refine k_e rfl ?_
  refine k_u [(0,_),(2,_),(3,_),(6,_)] ?_
  refine k_r ?_
  refine ⟨_,S,⟨_,_,_,rfl,.inr ⟨ty_agg_46,[_,_,_],ty_size_46,rds_,rfl⟩,⟨_,_,rfl,rfl,rfl⟩,rfl⟩,less_,?_⟩
  exact ⟨_,rfl,Mem.Less.refl _,Sl.nil _ _ _⟩
 ·rw [if_neg hb]
  have hof:=refV_Of a n cap L S hL
  rw [hn]
  refine ACall.enter (rs:=[.cell 2 46,.tmp 3]) 13 [(0,.slice a n cap)] Try.func75 rfl rfl (Nat.le_of_ble_eq_true rfl) rfl ⟨rfl,trivial⟩ ?_
  refine k_a ?_
  refine ARun.alloc (lit_lt rfl) ty_zero_46 ?_
  intro b2 f2
  have g2:=f2
  repeat ((with_reducible replace g2:=fresh_set g2);obtain ⟨g2,_⟩:=g2)
  try simp only [k_l1,k_l0,k_za,Nat.reduceAdd]
  refine k_e rfl (AWP.seq (k_a (k_m rfl ?_)))
  refine rC (Calm.lenSl Try.underlying40 rfl) ?_
  refine rC (Calm.bin rfl rfl b_gtr) ?_
  refine k_n ?_
  refine k_u [(0,_),(2,_),(3,_),(6,_)] ?_
  refine k_F rfl ?_
  refine k_k (k_a (k_m rfl ?_))
  refine ARun.call (lit_lt rfl) go_115 rfl (hof.frame f2) ?_
  rintro _ S1 ⟨M,⟨rfl,hM⟩,f2',h1⟩
  rw [h1,hM];clear h1 hM f2' S1 M;unfold bv
  refine ARun.call (lit_lt rfl) go_114 rfl ((rselV_Make (bs (pack L)) (n:Int) S (hz (by omega))).frame f2) ?_
  rintro _ S1 ⟨M,⟨hc,rfl,hM,hvv⟩,f2',rfl⟩
  obtain ⟨pm,cm,rfl,_⟩:=id hvv
  refine rC (Calm.extract rfl rfl) ?_
  refine rC (Calm.extract rfl rfl) ?_
  first|refine k_A rfl rfl ty_size_46 ?_|refine k_B rfl rfl ty_size_46 ?_
  try simp only [k_ms,k_sz,k_ss,k_za,Nat.reduceAdd]
  refine k_e rfl ?_
  refine k_u [(0,_),(2,_),(3,_),(6,_)] ?_
  refine AWP.ret ?_
  refine ⟨_,M,⟨_,_,_,rfl,.inr ⟨ty_agg_46,[_,_,_],ty_size_46,rds_,rfl⟩,⟨_,_,rfl,rfl,rfl⟩,rfl⟩,less_,?_⟩
  exact ⟨_,rfl,hM,hvv⟩
end Go.Proofs.Ytgidjbpgkeemiaa
namespace Go.Proofs.Ytgidjbpgkeemiaa
open Go.RowKit
open Mv Bits Sel
set_option maxRecDepth 20000
theorem take_bit (L : List Bool) (i : Nat) (h : i < L.length) : L.take i ++ [L.getD i false] = L.take (i + 1) := by
 rw [List.take_add_one,List.getElem?_eq_getElem h];simp [List.getD,List.getElem?_eq_getElem h]
theorem wrM_over {S : Mem} {p : Nat} {o : Option (Nat × Nat)} {L : List Bool} (h : OkW S p o L) : S.Less (wrM S p o L) := by
 unfold wrM
 cases o with
 | none=>exact Mem.less_set _ _ _ h.fp.1
 | some qc =>
  obtain ⟨q,c⟩:=qc
  obtain ⟨h1,h2,h3⟩:=h.own q c rfl
  refine (Mem.less_set S q ⟨5,bytesV L,c⟩ h1.1).trans (Mem.less_set _ _ _ ?_)
  rw [Mem.own_set_other _ _ (Ne.symm h2)];exact h.fp.1
set_option maxHeartbeats 2000000 in
theorem selV_Of (a : Option Addr) (n cap : Nat) (L : List Bool) (S : Mem) (hL : IsBl S a n L) (hn : n ≤ 65536) :
  ACall Try.prog 73 #[.slice a n cap] S (RwR (ofP L) S):=by
 obtain ⟨hl1,hl2,hl3⟩:=hL
 have hps:(bs (pack L)).size≤281474976710656:=by rw [bs_size,pack_length];omega
 have hmk:=selV_Make (bs (pack L)) (L.length:Nat)
 unfold ofP
 rw [if_neg (by omega)]
 refine ACall.enter (rs:=[.cell 2 46,.tmp 3]) 30 [(0,.slice a n cap)] Try.func73 rfl rfl (Nat.le_of_ble_eq_true rfl) rfl ⟨rfl,trivial⟩ ?_
 refine k_a ?_
 refine ARun.alloc (lit_lt rfl) ty_zero_46 ?_
 intro b2 f2
 have g2:=f2
 repeat ((with_reducible replace g2:=fresh_set g2);obtain ⟨g2,_⟩:=g2)
 try simp only [k_l1,k_l0,k_za,Nat.reduceAdd]
 refine k_e rfl (AWP.seq (k_a (k_m rfl ?_)))
 refine rC (Calm.lenSl Try.underlying40 rfl) ?_
 refine rC (Calm.bin rfl rfl b_gtr) ?_
 refine k_n ?_
 refine k_u [(0,_),(2,_),(3,_),(10,_)] ?_
 refine k_F rfl ?_
 refine k_k (k_a ?_)
 refine rC (Calm.build (cs:=[_,_,_]) ty_bld_129 rfl rfl) ?_
 refine ARun.boxA (cs:=[_,_,_]) (lit_lt rfl) rfl ?_
 intro b13 f13
 have g13:=f13
 repeat ((with_reducible replace g13:=fresh_set g13);obtain ⟨g13,_⟩:=g13)
 try simp only [k_l1,k_l0,k_za,Nat.reduceAdd]
 refine k_e rfl ?_
 refine k_u [(0,_),(2,_),(3,_),(10,_),(4,_)] ?_
 rw [← wrM_nil]
 have g13':=g13.2
 refine AWP.seq (k_a (k_m rfl ?_))
 refine rC (Calm.lenSl Try.underlying40 rfl) ?_
 refine k_m rfl (k_n ?_)
 refine AWP.block ?_
 refine AWP.loop (X:=Nat × Option (Nat × Nat)) (fun x=>[(2,.pointer (some ⟨b2,0,none⟩)),(4,.pointer (some ⟨b13,0,none⟩)),(14,.slice a n cap),(15,.int .i64 n),(16,.int .i64 x.1)]) (fun x=>wrM (S.set b2 ⟨46,[.string ByteArray.empty,.int .i64 0,.slice none 0 0],3⟩) b13 x.2 (L.take x.1)) (fun x=>x.1≤L.length∧OkW (S.set b2 ⟨46,[.string ByteArray.empty,.int .i64 0,.slice none 0 0],3⟩) b13 x.2 (L.take x.1)) (fun x=>L.length-x.1) ((0,none)) ⟨rfl,rfl,rfl,rfl,rfl,trivial⟩ (Mem.Less.refl _) (⟨Nat.zero_le _,okW_nil f13⟩) ?_
 rintro ⟨i,o⟩ ⟨hi,hok⟩
 (try dsimp only at *)
 have hb2:(wrM (S.set b2 ⟨46,[.string ByteArray.empty,.int .i64 0,.slice none 0 0],3⟩) b13 o (L.take i)).own b2=some _:=own_wrM_ok hok (Mem.own_set_same _ _ _)
 refine k_a ?_
 refine rC (Calm.bin rfl rfl b_lss) ?_
 refine k_n (AWP.seq ?_)
 refine AWP.condB rfl (fun hl=>?_) (fun hl=>?_)
 ·have hl:i<L.length:=by have:=of_decide_eq_true hl;omega
  obtain ⟨b,off,rfl,hrow⟩:=hl3.resolve_left (by omega)
  have hki:=(hrow i (by omega)).less ((Mem.less_set S b2 ⟨46,[.string ByteArray.empty,.int .i64 0,.slice none 0 0],3⟩ f2.1).trans (wrM_over hok))
  refine k_k (AWP.seq ?_)
  refine AWP.block ?_
  refine k_a ?_
  refine rC (Calm.indexS Try.underlying40 ty_size_4 rfl rfl (by omega) (by omega)) ?_
  refine rC (Calm.loadK ty_plain_4 rfl (by show Mem.Knows _ ⟨b,off+((i:Int)).toNat*1,none⟩ _;rw [Int.toNat_natCast,Nat.mul_one];exact hki)) ?_
  refine k_e rfl ?_
  refine k_u [(2,_),(4,_),(14,_),(15,_),(16,_),(17,_),(6,_)] ?_
  by_cases hx:L.getD i false=true
  ·rw [hx]
   refine k_a (k_e rfl (AWP.seq (k_a (k_m rfl ?_))))
   refine k_n ?_
   refine k_T rfl ?_
   refine AWP.region ?_
   refine k_e rfl ?_
   refine AWP.region ?_
   refine k_m rfl (k_m rfl ?_)
   refine ARun.call (lit_lt rfl) go_111 rfl (bitsV_AddI b13 1 1 (L.take i) o _ (by omega) (by omega) (by omega) (by omega) (by rw [List.length_take];omega) hok) ?_
   rintro _ S1 ⟨rfl,o',hok',h1⟩
   rw [h1];clear h1 S1
   have e:L.take i ++ numB (1:Int).toNat (1:Int).toNat=L.take (i+1):=by rw [← take_bit L i hl,hx];rfl
   rw [e] at hok' ⊢
   refine arun_nil ?_
   refine ain_n ?_
   refine athen_n ?_
   refine k_u [(2,_),(4,_),(14,_),(15,_),(16,_),(17,_),(6,_),(7,_),(20,_)] ?_
   refine AWP.region ?_
   refine rC (Calm.bin rfl rfl b_add_i64) ?_
   refine k_m rfl (k_n ?_)
   refine ⟨(i+1,o'),?_,?_,?_,?_⟩
   all_goals (try dsimp only)
   ·exact ⟨rfl,rfl,rfl,rfl,some_int (by simp),trivial⟩
   ·exact Mem.Less.refl _
   ·exact ⟨hl,hok'⟩
   ·omega
  ·rw [Bool.eq_false_iff.2 hx]
   refine k_a (k_e rfl (AWP.seq (k_a (k_m rfl ?_))))
   refine k_n ?_
   refine k_F rfl ?_
   refine k_k ?_
   refine AWP.region ?_
   refine k_m rfl (k_m rfl ?_)
   refine ARun.call (lit_lt rfl) go_111 rfl (bitsV_AddI b13 0 1 (L.take i) o _ (by omega) (by omega) (by omega) (by omega) (by rw [List.length_take];omega) hok) ?_
   rintro _ S1 ⟨rfl,o',hok',h1⟩
   rw [h1];clear h1 S1
   have e:L.take i ++ numB (0:Int).toNat (1:Int).toNat=L.take (i+1):=by rw [← take_bit L i hl,Bool.eq_false_iff.2 hx];rfl
   rw [e] at hok' ⊢
   refine arun_nil ?_
   refine ain_n ?_
   refine athen_n ?_
   refine k_u [(2,_),(4,_),(14,_),(15,_),(16,_),(17,_),(6,_),(7,_),(20,_)] ?_
   refine AWP.region ?_
   refine rC (Calm.bin rfl rfl b_add_i64) ?_
   refine k_m rfl (k_n ?_)
   refine ⟨(i+1,o'),?_,?_,?_,?_⟩
   all_goals (try dsimp only)
   ·exact ⟨rfl,rfl,rfl,rfl,some_int (by simp),trivial⟩
   ·exact Mem.Less.refl _
   ·exact ⟨hl,hok'⟩
   ·omega
 ·have hl:i=L.length:=by have:=of_decide_eq_false hl;omega
  subst hl
  rw [List.take_length] at hok ⊢
  refine AWP.exit ?_
  refine athen_exit ?_
  refine athen_exit ?_
  refine ain_same ?_
  refine athen_n ?_
  refine k_a (k_m rfl ?_)
  refine ARun.call (lit_lt rfl) go_113 rfl (bitsV_Bits b13 L o _ (by omega) hok) ?_
  rintro _ S1 ⟨rfl,h1⟩
  rw [h1];clear h1 S1
  refine ARun.call (lit_lt rfl) go_112 rfl ((hmk S hps).frame f2) ?_
  rintro _ S1 ⟨M,⟨hc,rfl,hM,hvv⟩,f2',h1⟩
  rw [h1];clear h1 S1
  obtain ⟨pm,cm,rfl,_⟩:=id hvv
  refine rC (Calm.extract rfl rfl) ?_
  refine rC (Calm.extract rfl rfl) ?_
  first|refine k_A rfl rfl ty_size_46 ?_|refine k_B rfl rfl ty_size_46 ?_
  try simp only [k_ms,k_sz,k_ss,k_za,Nat.reduceAdd]
  refine k_e rfl ?_
  refine k_u [(2,_),(4,_),(14,_),(15,_),(16,_),(17,_),(3,_)] ?_
  refine AWP.ret ?_
  refine ⟨_,M,⟨_,_,_,rfl,.inr ⟨ty_agg_46,[_,_,_],ty_size_46,rds_,rfl⟩,⟨_,_,rfl,rfl,rfl⟩,rfl⟩,less_,?_⟩
  exact ⟨_,rfl,hM,hvv⟩
end Go.Proofs.Ytgidjbpgkeemiaa
namespace Go.Proofs.Ytgidjbpgkeemiaa
open Go.RowKit
open Mv Bits Sel
set_option maxRecDepth 20000
def bools (b : Bool) : List Value := [.bool b]
theorem isBl_sl {S : Mem} {a : Option Addr} {n cap : Nat} {L : List Bool} (h : Sl 1 bools S (.slice a n cap) L) (hn : n ≤ 65536) : IsBl S a n L := by
 obtain ⟨a',c',e1,e2,e3,e4⟩:=h
 cases e1
 refine ⟨rfl,by omega,?_⟩
 rcases e4 with e4 | ⟨b,off,e5,e6⟩
 ·left;rw [e4];rfl
 ·right
  refine ⟨b,off,e5,fun i hi=>?_⟩
  have:=e6 i hi
  rw [Nat.mul_one] at this
  have e:L.getD i false=L[i]:=by simp [List.getD,List.getElem?_eq_getElem hi]
  rw [e];exact this
theorem RwR.slices {p : ByteArray × Int × List Int × Int} {S S' : Mem} {r : Value} (h : RwR p S r S') : ∃ pa ca, r = .tuple #[.agg #[.string p.1, .int .i64 p.2.1, .slice pa p.2.2.1.length ca], .int .i64 p.2.2.2] ∧ S.Less S' ∧ Sl 1 i64s S' (.slice pa p.2.2.1.length ca) p.2.2.1 := by
 obtain ⟨hc,rfl,hl,hs⟩:=h
 obtain ⟨pa,ca,rfl,_⟩:=id hs
 exact ⟨pa,ca,rfl,hl,hs⟩
theorem selV_OfS (v : Value) (L : List Bool) (S : Mem) (h : Sl 1 bools S v L) :
  ACall Try.prog 73 #[v] S (RwR (ofP L) S):=by
 obtain ⟨a,cap,rfl,h2,h3,h4⟩:=id h
 by_cases hn:L.length≤65536
 ·exact selV_Of a L.length cap L S (isBl_sl h hn) hn
 ·unfold ofP
  rw [if_pos (by omega)]
  clear h h4
  generalize L.length=n at *
  refine ACall.enter (rs:=[.cell 2 46,.tmp 3]) 30 [(0,.slice a n cap)] Try.func73 rfl rfl (Nat.le_of_ble_eq_true rfl) rfl ⟨rfl,trivial⟩ ?_
  refine k_a ?_
  refine ARun.alloc (lit_lt rfl) ty_zero_46 ?_
  intro b2 f2
  have g2:=f2
  repeat ((with_reducible replace g2:=fresh_set g2);obtain ⟨g2,_⟩:=g2)
  try simp only [k_l1,k_l0,k_za,Nat.reduceAdd]
  refine k_e rfl (AWP.seq (k_a (k_m rfl ?_)))
  refine rC (Calm.lenSl Try.underlying40 rfl) ?_
  refine rC (Calm.bin rfl rfl b_gtr) ?_
  refine k_n ?_
  refine k_u [(0,_),(2,_),(3,_),(10,_)] ?_
  refine k_T rfl ?_
  refine k_a ?_
  refine rC (Calm.build (cs:=[_,_,_]) ty_bld_46 rfl rfl) ?_
  first|refine k_A rfl rfl ty_size_46 ?_|refine k_B rfl rfl ty_size_46 ?_
  try simp only [k_ms,k_sz,k_ss,k_za,Nat.reduceAdd]
  refine k_e rfl ?_
  refine k_u [(0,_),(2,_),(3,_),(10,_)] ?_
  refine k_r ?_
  refine ⟨_,S,⟨_,_,_,rfl,.inr ⟨ty_agg_46,[_,_,_],ty_size_46,rds_,rfl⟩,⟨_,_,rfl,rfl,rfl⟩,rfl⟩,less_,?_⟩
  exact ⟨_,rfl,Mem.Less.refl _,Sl.nil _ _ _⟩
theorem rselV_OfS (v : Value) (L : List Bool) (S : Mem) (h : Sl 1 bools S v L) :
  ACall Try.prog 75 #[v] S (RwR (ofP L) S):=by
 obtain ⟨a,cap,rfl,h2,h3,h4⟩:=id h
 by_cases hn:L.length≤65536
 ·exact rselV_Of a L.length cap L S (isBl_sl h hn) (fun _=>by rw [bs_size,pack_length];omega)
 ·unfold ofP
  rw [if_pos (by omega)]
  clear h h4
  generalize L.length=n at *
  refine ACall.enter (rs:=[.cell 2 46,.tmp 3]) 13 [(0,.slice a n cap)] Try.func75 rfl rfl (Nat.le_of_ble_eq_true rfl) rfl ⟨rfl,trivial⟩ ?_
  refine k_a ?_
  refine ARun.alloc (lit_lt rfl) ty_zero_46 ?_
  intro b2 f2
  have g2:=f2
  repeat ((with_reducible replace g2:=fresh_set g2);obtain ⟨g2,_⟩:=g2)
  try simp only [k_l1,k_l0,k_za,Nat.reduceAdd]
  refine k_e rfl (AWP.seq (k_a (k_m rfl ?_)))
  refine rC (Calm.lenSl Try.underlying40 rfl) ?_
  refine rC (Calm.bin rfl rfl b_gtr) ?_
  refine k_n ?_
  refine k_u [(0,_),(2,_),(3,_),(6,_)] ?_
  refine k_T rfl ?_
  refine k_a ?_
  refine rC (Calm.build (cs:=[_,_,_]) ty_bld_46 rfl rfl) ?_
  first|refine k_A rfl rfl ty_size_46 ?_|refine k_B rfl rfl ty_size_46 ?_
  try simp only [k_ms,k_sz,k_ss,k_za,Nat.reduceAdd]
  refine k_e rfl ?_
  refine k_u [(0,_),(2,_),(3,_),(6,_)] ?_
  refine k_r ?_
  refine ⟨_,S,⟨_,_,_,rfl,.inr ⟨ty_agg_46,[_,_,_],ty_size_46,rds_,rfl⟩,⟨_,_,rfl,rfl,rfl⟩,rfl⟩,less_,?_⟩
  exact ⟨_,rfl,Mem.Less.refl _,Sl.nil _ _ _⟩
namespace Sel
def t3 : List Bool := [false, true, true]
end Sel
end Go.Proofs.Ytgidjbpgkeemiaa
namespace Go.Proofs.Ytgidjbpgkeemiaa
open Go.RowKit Go.Shelf
open Mv Num Loser Srt
set_option maxRecDepth 8000
/-! ### A column that has a text -/
theorem wk_small (s : ByteArray) (p : Nat) : ∀ (k r : Nat) (acc l : List Nat), (∀ x ∈ acc, x < 256) → Ord.walkT (numsT s) p k r acc = some l → ∀ x ∈ l, x < 256
 | 0,r,acc,l,ha,h=>by
  rw [walk_end] at h;split at h
  ·injection h with h;subst h;exact ha
  ·cases h
 | k+1,r,acc,l,ha,h=>by
  by_cases hr:r=p
  ·rw [walk_no _ _ _ _ _ hr] at h;cases h
  ·rw [walk_step _ _ _ _ _ hr,byT_getD] at h
   refine wk_small s p k _ _ l (fun x hx=>?_) h
   rcases List.mem_cons.1 hx with rfl | hx
   ·exact byT_lt _ _
   ·exact ha x hx
theorem nums_nil : numsT (bs []) = [] := by rw [nums_bs]; rfl
theorem col_nil : Fd.Col [] [] 0 := ⟨rfl, rfl, fun a h => absurd h (Nat.not_lt_zero _)⟩
theorem text_col {s : ByteArray} {pp : Int} (h : (textP s pp).2 = 0) : ∃ p : Nat, pp = p ∧ p ≤ s.size ∧ s.size ≤ 4096 ∧ Fd.Col (numsT (textP s pp).1) (numsT s) p ∧ (textP s pp).1.size = s.size := by
 unfold textP at h ⊢
 split at h
 ·cases h
 rename_i h1
 rw [if_neg h1]
 split at h
 ·rename_i h2
  rw [if_pos h2]
  obtain ⟨h3,rfl⟩:=h2
  obtain rfl:=(size_z s).2 h3
  exact ⟨0,rfl,Nat.zero_le _,by decide,by show Fd.Col (numsT (bs [])) (numsT (bs [])) 0;rw [nums_nil];exact col_nil,rfl⟩
 rename_i h2
 rw [if_neg h2]
 split at h
 ·cases h
 rename_i h3
 rw [if_neg h3]
 cases hm:Ord.walkT (numsT s) pp.toNat s.size 0 [] with
 | none=>rw [hm] at h;cases h
 | some l =>
  dsimp only
  have hl:=wk_small s pp.toNat _ _ _ l (fun x hx=>absurd hx (List.not_mem_nil)) hm
  have hc:Fd.Col l (numsT s) pp.toNat:=Fd.walk_col (by rw [numsT_length];omega) (by rw [numsT_length];exact hm)
  refine ⟨pp.toNat,by omega,by omega,by omega,by rw [nums_bs,ofN_nums l hl];exact hc,?_⟩
  rw [bs_size];unfold ofN;rw [List.length_map,← hc.len,numsT_length]
/-! ### An index -/
structure Ix where
  col : ByteArray
  pri : Int
  fir : List Int
  mks : List (List Int)
  bits : ByteArray
  n : Int
  cnts : List Int
  plcs : List Int
def IntsV (S : Mem) (v : Value) (l : List Int) : Prop := Sl 1 i64s S v l
theorem intsV_less (S S' : Mem) (v : Value) (l : List Int) (h : IntsV S v l) (hl : S.Less S') : IntsV S' v l := Sl.less h hl
def ixC (x : Ix) (v2 v3 v6 v7 : Value) : List Value := [.string x.col, .int .i64 x.pri, v2, v3, .string x.bits, .int .i64 x.n, v6, v7]
/-- The fields as they lie. -/
def IxV (S : Mem) (cs : List Value) (x : Ix) : Prop := ∃ v2 v3 v6 v7, cs = ixC x v2 v3 v6 v7 ∧ IntsV S v2 x.fir ∧ SlOf IntsV S v3 x.mks ∧ IntsV S v6 x.cnts ∧ IntsV S v7 x.plcs
theorem IxV.less {S S' : Mem} {cs : List Value} {x : Ix} (h : IxV S cs x) (hl : S.Less S') : IxV S' cs x := by
 obtain ⟨v2,v3,v6,v7,e,h1,h2,h3,h4⟩:=h
 exact ⟨v2,v3,v6,v7,e,intsV_less _ _ _ _ h1 hl,h2.less intsV_less hl,intsV_less _ _ _ _ h3 hl,intsV_less _ _ _ _ h4 hl⟩
def zix : Ix := ⟨ByteArray.empty, 0, [], [], ByteArray.empty, 0, [], []⟩
/-- Which rows are sampled, and their places. -/
def smpR (t : List Nat) : List Bool := (Fd.plc t).map (fun a => decide (a % 16 = 0))
def plcR (t : List Nat) : List Nat := (Fd.plc t).filter (fun a => decide (a % 16 = 0))
def castL (l : List Nat) : List Int := l.map (fun k : Nat => (k : Int))
/-- The index of a column that has the text t. -/
noncomputable def ixP (s : ByteArray) (p : Nat) (t : ByteArray) : Ix :=
  ⟨s, p, castL (firP s), (mksP (numsT s) p).map castL, (Sel.ofP (smpR (numsT t))).1, (Sel.ofP (smpR (numsT t))).2.1, (Sel.ofP (smpR (numsT t))).2.2.1, castL (plcR (numsT t))⟩
/-- What Make hands back. -/
def MkR (s : ByteArray) (pp : Int) (S : Mem) (r : Value) (S' : Mem) : Prop :=
  ((textP s pp).2 = 0 ∧ ∃ cs, r = .tuple #[.agg cs.toArray, .int .i64 0] ∧ S.Less S' ∧ IxV S' cs (ixP s pp.toNat (textP s pp).1)) ∨
  ((textP s pp).2 ≠ 0 ∧ r = .tuple #[.agg (ixC zix (.slice none 0 0) (.slice none 0 0) (.slice none 0 0) (.slice none 0 0)).toArray, .int .i64 ((textP s pp).2 : Nat)] ∧ S' = S)
theorem slOf_ints {S : Mem} {v : Value} {l : List (List Nat)} (h : SlOf IdxR S v l) : SlOf IntsV S v (l.map castL) := by
 obtain ⟨hs,e,h1,h2⟩:=h
 refine ⟨hs,by rw [List.length_map];exact e,h1,fun i hi hi'=>?_⟩
 rw [List.getElem_map]
 exact idx_ints (h2 i (by rw [List.length_map] at hi;exact hi) hi')
/-! ### The rows that have been told -/
theorem all_told (t : List Nat) (at_ : List Nat) (hl : at_.length = t.length + 1) (h : ∀ j, j < t.length + 1 → at_.getD (rowK t j) 0 = t.length - j) : at_ = Fd.plc t := by
 refine List.ext_getElem (by rw [hl,Fd.plc_length]) fun r h1 h2=>?_
 have hr:r≤t.length:=by omega
 have hf:=Fd.fre_le t r
 have:=h (t.length-Fd.fre t r) (by omega)
 unfold rowK at this
 rw [show t.length-(t.length-Fd.fre t r)=Fd.fre t r by omega,Fd.rw_fre t r hr,getD_get _ _ _ h1] at this
 rw [this,Fd.fre_get]
theorem all_smp (t : List Nat) (sm : List Bool) (hl : sm.length = t.length + 1) (h : ∀ j, j < t.length + 1 → sm.getD (rowK t j) false = decide ((t.length - j) % 16 = 0)) : sm = smpR t := by
 unfold smpR
 refine List.ext_getElem (by rw [hl,List.length_map,Fd.plc_length]) fun r h1 h2=>?_
 have hr:r≤t.length:=by omega
 have hf:=Fd.fre_le t r
 have:=h (t.length-Fd.fre t r) (by omega)
 unfold rowK at this
 rw [show t.length-(t.length-Fd.fre t r)=Fd.fre t r by omega,Fd.rw_fre t r hr,getD_get _ _ _ h1] at this
 rw [this,List.getElem_map,Fd.fre_get]
theorem row_inj (t : List Nat) {j k : Nat} (hj : j < t.length + 1) (hk : k < t.length + 1) (e : rowK t j = rowK t k) : j = k := by
 have:=(Fd.rw_ok t).inj (a:=t.length-j) (b:=t.length-k) (Nat.sub_le _ _) (Nat.sub_le _ _) e
 omega
theorem told_step {α : Type} (t : List Nat) (z : α) (F : Nat → α) (l : List α) (k : Nat) (hk : k < t.length + 1) (hl : l.length = t.length + 1) (h : ∀ j, j < k → l.getD (rowK t j) z = F j) : ∀ j, j < k + 1 → (l.set (rowK t k) (F k)).getD (rowK t j) z = F j := fun j hj => by
 have hr:=rowK_le t k
 by_cases e:j=k
 ·subst e
  rw [List.getD_eq_getElem?_getD,List.getElem?_set_self (by omega)];rfl
 ·have hne:rowK t k≠rowK t j:=fun e'=>e (row_inj t (by omega) hk e'.symm)
  rw [List.getD_eq_getElem?_getD,List.getElem?_set_ne hne,← List.getD_eq_getElem?_getD]
  exact h j (by omega)
theorem plcR_take (t : List Nat) (i : Nat) (hi : i < (Fd.plc t).length) : ((Fd.plc t).take (i + 1)).filter (fun a => decide (a % 16 = 0)) = ((Fd.plc t).take i).filter (fun a => decide (a % 16 = 0)) ++ (if (Fd.plc t)[i] % 16 = 0 then [(Fd.plc t)[i]] else []) := by
 rw [List.take_succ_eq_append_getElem hi,List.filter_append]
 congr 1
 by_cases h:(Fd.plc t)[i] % 16=0
 ·rw [if_pos h];simp [h]
 ·rw [if_neg h];simp [h]
/-- A book as it is made. -/
def bkC (s : ByteArray) (p : Nat) (vf vm vb vn vc vp : Value) : List Value := [.string s, .int .i64 (p : Int), vf, vm, vb, vn, vc, vp, .string ByteArray.empty, .int .i64 0, .slice none 0 0]
theorem put_rows {M : Mem} {b b' : Nat} {s : ByteArray} {p : Nat} {vf vm vb vn vc vp x y z : Value} {T : TypeId} {room : Nat} {Z : Blk} (h : b ≠ b') : ((M.set b ⟨T, bkC s p vf vm vb vn vc vp, room⟩).set b' Z).set b ⟨T, bkC s p vf vm x y z vp, room⟩ = (M.set b ⟨T, bkC s p vf vm x y z vp, room⟩).set b' Z := by
 rw [Mem.set_comm _ _ _ (Ne.symm h),Mem.set_set]
theorem bk_of {S : Mem} {b : Nat} {s : ByteArray} {p : Nat} {vf vm vb vn vc vp : Value} {T : TypeId} {room : Nat} (h : S.own b = some ⟨T, bkC s p vf vm vb vn vc vp, room⟩) (hf : IdxR S vf (firP s)) (hm : SlOf IdxR S vm (mksP (numsT s) p)) : BkK S b s p := by
 have kn:∀ (i:Nat) (v:Value),(bkC s p vf vm vb vn vc vp)[i]?=some v→S.Knows ⟨b,i,none⟩ [v]:=fun i v hv=>Mem.own_knows h i _ (fun j u hj=>by
  cases j with
  | zero=>simp at hj;rw [← hj];exact hv
  | succ j=>simp at hj)
 exact ⟨kn 0 _ rfl,kn 1 _ rfl,⟨vf,kn 2 _ rfl,hf⟩,⟨vm,kn 3 _ rfl,hm⟩⟩
theorem okO_two {M : Mem} {o : Option (Nat × Nat)} {n a b : Nat} {A B : Blk} (h : OkO M o n) (hne : ∀ q c, o = some (q, c) → a ≠ q ∧ b ≠ q) : OkO ((M.set a A).set b B) o n := (h.set fun q c e => (hne q c e).1).set fun q c e => (hne q c e).2
theorem okO_un {M : Mem} {o : Option (Nat × Nat)} {n a b : Nat} {A B : Blk} (h : OkO ((M.set a A).set b B) o n) : OkO M o n ∧ ∀ q c, o = some (q, c) → a ≠ q ∧ b ≠ q := by
 refine ⟨⟨h.nil,fun q c e=>?_⟩,fun q c e=>?_⟩
 ·obtain ⟨h1,h2⟩:=h.own q c e
  exact ⟨(fresh_set (fresh_set h1).1).1,h2⟩
 ·obtain ⟨h1,h2⟩:=h.own q c e
  exact ⟨Ne.symm (fresh_set (fresh_set h1).1).2,Ne.symm (fresh_set h1).2⟩
theorem outM_two {M : Mem} {o : Option (Nat × Nat)} {e : TypeId} {cs : List Value} {a b : Nat} {A A' B : Blk} (hab : a ≠ b) (hne : ∀ q c, o = some (q, c) → a ≠ q ∧ b ≠ q) : (outM ((M.set a A).set b B) o e cs).set a A' = outM ((M.set a A').set b B) o e cs := by
 cases o with
 | none=>show ((M.set a A).set b B).set a A'=(M.set a A').set b B;rw [Mem.set_comm _ _ _ hab,Mem.set_set,Mem.set_comm _ _ _ (Ne.symm hab)]
 | some q =>
  have h:=(hne q.1 q.2 rfl).1
  show (((M.set a A).set b B).set q.1 _).set a A'=((M.set a A').set b B).set q.1 _
  rw [Mem.set_comm _ _ _ (Ne.symm h),Mem.set_comm _ _ _ hab,Mem.set_set,Mem.set_comm _ _ _ (Ne.symm hab)]
theorem fresh_outM' {M : Mem} {o : Option (Nat × Nat)} {e : TypeId} {cs : List Value} {b : Nat} (h : Fresh M b) (hne : ∀ q c, o = some (q, c) → b ≠ q) : Fresh (outM M o e cs) b := by
 cases o with
 | none=>exact h
 | some q=>exact fresh_more h (hne q.1 q.2 rfl)
theorem outM_under {M : Mem} {o : Option (Nat × Nat)} {e : TypeId} {cs : List Value} {a b : Nat} {A B : Blk} (hne : ∀ q c, o = some (q, c) → a ≠ q ∧ b ≠ q) : outM ((M.set a A).set b B) o e cs = ((outM M o e cs).set a A).set b B := by
 cases o with
 | none=>rfl
 | some q =>
  have h:=hne q.1 q.2 rfl
  show ((M.set a A).set b B).set q.1 _=((M.set q.1 _).set a A).set b B
  rw [Mem.set_comm _ _ _ h.2,Mem.set_comm _ _ _ h.1]
theorem set4 {M : Mem} {a b c d : Nat} {A A' B B' C D : Blk} (h1 : b ≠ a) (h2 : c ≠ a) (h3 : d ≠ a) (h4 : c ≠ b) (h5 : d ≠ b) : (((((M.set a A).set b B).set c C).set d D).set a A').set b B' = (((M.set a A').set b B').set c C).set d D := by
 rw [Mem.set_comm _ _ _ h3,Mem.set_comm _ _ _ h2,Mem.set_comm _ _ _ h1,Mem.set_set,Mem.set_comm _ _ _ h5,Mem.set_comm _ _ _ h4,Mem.set_set]
theorem set_gI (l : List Nat) (i v : Nat) : (l.map gI).set i (.int .i64 (v : Int)) = (l.set i v).map gI := (List.map_set ..).symm
theorem set_gB (l : List Bool) (i : Nat) (v : Bool) : (l.map gB).set i (.bool v) = (l.set i v).map gB := (List.map_set ..).symm
theorem modc (m : Nat) : decide (((m : Nat) : Int) % 16 = 0) = decide (m % 16 = 0) := decide_eq_decide.2 (by omega)
set_option maxHeartbeats 8000000 in
theorem fd_Make (s : ByteArray) (pp : Int) (S : Mem) :
  ACall Try.prog 33 #[.string s,.int .i64 pp] S (MkR s pp S):=by
 by_cases h0:(textP s pp).2=0
 case neg =>
  refine ACall.enterR (args:=[.string s,.int .i64 pp]) (rs:=[.cell 4 48,.tmp 5]) 94 [(0,.string s),(1,.int .i64 pp)] Try.func33 rfl rfl (Nat.le_of_ble_eq_true rfl) rfl ⟨rfl,rfl,trivial⟩ ?_
  refine AWPM.seqR (rs:=[.cell 4 48,.tmp 5]) rfl ?_
  refine AWP.region ?_
  refine ARun.alloc (lit_lt rfl) ty_zero_48 ?_
  intro b4 f4
  have g4:=f4
  repeat ((with_reducible replace g4:=fresh_set g4);obtain ⟨g4,_⟩:=g4)
  try simp only [k_l1,k_l0,k_za,Nat.reduceAdd]
  refine k_e rfl ?_
  refine AWPM.seqR (rs:=[.cell 4 48,.tmp 5]) rfl ?_
  refine k_a (k_m rfl (k_m rfl ?_))
  refine ARun.call (lit_lt rfl) go_57 rfl (od_Text s pp _) ?_
  rintro _ S9 ⟨rfl,e9⟩
  rw [e9];clear e9 S9
  refine k_m rfl ?_
  refine rC (Calm.extract rfl rfl) ?_
  refine rC (Calm.extract rfl rfl) ?_
  refine k_s rfl (k_e rfl ?_)
  refine k_u [(0,_),(1,_),(4,_),(5,_),(7,_)] ?_
  refine k_a (k_m rfl ?_)
  refine rC (Calm.bin rfl rfl b_neq) ?_
  refine k_n ?_
  refine k_u [(0,_),(1,_),(4,_),(5,_),(7,_),(22,_)] ?_
  refine k_T rfl ?_
  refine k_a ?_
  refine rC (Calm.build (cs:=[_,_,_,_,_,_,_,_]) ty_bld_48 rfl rfl) ?_
  refine k_m rfl ?_
  first|refine k_A rfl rfl ty_size_48 ?_|refine k_B rfl rfl ty_size_48 ?_
  try simp only [k_ms,k_sz,k_ss,k_za,Nat.reduceAdd]
  refine k_e rfl ?_
  refine k_u [(0,_),(1,_),(4,_),(5,_),(7,_),(22,_)] ?_
  refine k_r ?_
  refine ⟨_,S,⟨_,_,_,rfl,.inr ⟨ty_agg_48,[_,_,_,_,_,_,_,_],ty_size_48,rds_,rfl⟩,⟨_,_,rfl,rfl,rfl⟩,rfl⟩,less_,?_⟩
  exact .inr ⟨h0,rfl,rfl⟩
 obtain ⟨p,rfl,hp,hs,hcol,htz⟩:=text_col h0
 obtain ⟨t,ht⟩ : ∃ t,t=numsT (textP s (p:Int)).1:=⟨_,rfl⟩
 have htl:t.length=s.size:=by rw [ht,numsT_length,htz]
 rw [← ht] at hcol
 refine ACall.enterR (args:=[.string s,.int .i64 (p:Int)]) (rs:=[.cell 4 48,.tmp 5]) 94 [(0,.string s),(1,.int .i64 (p:Int))] Try.func33 rfl rfl (Nat.le_of_ble_eq_true rfl) rfl ⟨rfl,rfl,trivial⟩ ?_
 refine AWPM.seqR (rs:=[.cell 4 48,.tmp 5]) rfl ?_
 refine AWP.region ?_
 refine ARun.alloc (lit_lt rfl) ty_zero_48 ?_
 intro b4 f4
 have g4:=f4
 repeat ((with_reducible replace g4:=fresh_set g4);obtain ⟨g4,_⟩:=g4)
 try simp only [k_l1,k_l0,k_za,Nat.reduceAdd]
 refine k_e rfl ?_
 refine AWPM.seqR (rs:=[.cell 4 48,.tmp 5]) rfl ?_
 refine k_a (k_m rfl (k_m rfl ?_))
 refine ARun.call (lit_lt rfl) go_57 rfl (od_Text s p _) ?_
 rintro _ S9 ⟨rfl,e9⟩
 rw [e9,h0];clear e9 S9
 refine k_m rfl ?_
 refine rC (Calm.extract rfl rfl) ?_
 refine rC (Calm.extract rfl rfl) ?_
 refine k_s rfl (k_e rfl ?_)
 refine k_u [(0,_),(1,_),(4,_),(5,_),(7,_)] ?_
 refine k_a (k_m rfl ?_)
 refine rC (Calm.bin rfl rfl b_neq) ?_
 refine k_n ?_
 refine k_u [(0,_),(1,_),(4,_),(5,_),(7,_),(22,_)] ?_
 refine k_F rfl ?_
 refine k_k ?_
 refine AWPM.seqR (rs:=[.cell 4 48,.tmp 5]) rfl ?_
 refine AWP.region ?_
 refine k_m rfl (k_m rfl (k_m rfl ?_))
 refine ARun.call (lit_lt rfl) go_70 rfl (((fd_firsts s S hs).frame f4)) ?_
 rintro vf _ ⟨S1,⟨hS1,hvf⟩,f4a,rfl⟩
 obtain ⟨fa,fc,rfl,_⟩:=id hvf
 refine k_m rfl (k_m rfl ?_)
 refine ARun.call (lit_lt rfl) go_71 rfl (((fd_marks s p S1 hs hp).frame f4a)) ?_
 rintro vm _ ⟨S2,⟨hS2,hvm⟩,f4b,rfl⟩
 obtain ⟨ms,mse,⟨ma,mc,rfl,_⟩,_⟩:=id hvm
 replace hvf:=idxR_less _ _ _ _ hvf hS2
 have hSS:=hS1.trans hS2
 clear hS1 hS2 f4 f4a g4
 refine rC (Calm.build (cs:=[_,_,_,_,_,_,_,_]) ty_bld_48 rfl rfl) ?_
 refine rC (Calm.build (cs:=[_,_,_,_,_,_,_,_,_,_,_]) ty_bld_91 rfl rfl) ?_
 refine ARun.boxA (cs:=[_,_,_,_,_,_,_,_,_,_,_]) (lit_lt rfl) rfl ?_
 intro b34 f34
 have g34:=f34
 repeat ((with_reducible replace g34:=fresh_set g34);obtain ⟨g34,_⟩:=g34)
 try simp only [k_l1,k_l0,k_za,Nat.reduceAdd]
 refine k_e rfl ?_
 refine AWPM.sub [(0,_),(1,_),(4,_),(5,_),(7,_),(22,_),(8,_)] ⟨rfl,rfl,rfl,rfl,rfl,rfl,rfl,trivial⟩ ?_
 refine AWPM.seqR (rs:=[.cell 4 48,.tmp 5]) rfl ?_
 refine AWP.region ?_
 refine k_m rfl ?_
 refine rC (Calm.lenStr (strT_spec ty_str_9) rfl) ?_
 refine rC (Calm.bin rfl rfl b_add_i64) ?_
 refine ARun.makeSlice (lit_lt rfl) ty_sl_24 rfl rfl (by omega) (by omega) (by omega) (by omega) ?_
 intro b38 f38
 have g38:=f38
 repeat ((with_reducible replace g38:=fresh_set g38);obtain ⟨g38,_⟩:=g38)
 refine ARun.alloc (lit_lt rfl) ty_zero_24 ?_
 intro b9 f9
 have g9:=f9
 repeat ((with_reducible replace g9:=fresh_set g9);obtain ⟨g9,_⟩:=g9)
 try simp only [k_l1,k_l0,k_za,Nat.reduceAdd]
 refine ARun.store1 rfl rfl ty_size_24 rfl own_ lens_ rfl ?_
 try simp only [k_ms,k_sz,k_ss,k_za,Nat.reduceAdd]
 refine k_n ?_
 refine AWPM.sub [(0,_),(1,_),(4,_),(5,_),(7,_),(22,_),(8,_),(9,_)] ⟨rfl,rfl,rfl,rfl,rfl,rfl,rfl,rfl,trivial⟩ ?_
 refine AWPM.seqR (rs:=[.cell 4 48,.tmp 5]) rfl ?_
 refine AWP.region ?_
 refine k_m rfl ?_
 refine rC (Calm.lenStr (strT_spec ty_str_9) rfl) ?_
 refine rC (Calm.bin rfl rfl b_add_i64) ?_
 refine ARun.makeSlice (lit_lt rfl) ty_sl_40 rfl rfl (by omega) (by omega) (by omega) (by omega) ?_
 intro b42 f42
 have g42:=f42
 repeat ((with_reducible replace g42:=fresh_set g42);obtain ⟨g42,_⟩:=g42)
 refine ARun.alloc (lit_lt rfl) ty_zero_40 ?_
 intro b10 f10
 have g10:=f10
 repeat ((with_reducible replace g10:=fresh_set g10);obtain ⟨g10,_⟩:=g10)
 try simp only [k_l1,k_l0,k_za,Nat.reduceAdd]
 refine ARun.store1 rfl rfl ty_size_40 rfl own_ lens_ rfl ?_
 try simp only [k_ms,k_sz,k_ss,k_za,Nat.reduceAdd]
 refine k_n ?_
 refine AWPM.sub [(0,_),(1,_),(4,_),(5,_),(7,_),(22,_),(8,_),(9,_),(10,_)] ⟨rfl,rfl,rfl,rfl,rfl,rfl,rfl,rfl,rfl,trivial⟩ ?_
 refine AWPM.seqM ?_
 refine AWPM.seq ?_
 refine AWP.region ?_
 refine k_m rfl ?_
 refine ARun.call (lit_lt rfl) go_72 rfl (fd_rows _ _) ?_
 rintro _ _ ⟨q,fq,rfl,rfl⟩
 intro S0 w0 a w hs0 hg
 have gq:=fq
 repeat ((with_reducible replace gq:=fresh_set gq);obtain ⟨gq,_⟩:=gq)
 refine wpIn_block ?_
 have e1:((s.size:Int)+1).toNat=s.size+1:=by omega
 have ea:madeL [Value.int .i64 0] (s.size+1)=(List.replicate (s.size+1) 0).map gI:=by rw [madeL_one,List.map_replicate];rfl
 have eb:madeL [Value.bool false] (s.size+1)=(List.replicate (s.size+1) false).map gB:=by rw [madeL_one,List.map_replicate];rfl
 simp only [e1,Nat.mul_one,ea,eb] at hs0
 obtain ⟨M6,hM6⟩ : ∃ M6,M6=((S2.set b9 ⟨24,[.slice (some ⟨b38,0,none⟩) (s.size+1) (s.size+1)],1⟩).set b10 ⟨40,[.slice (some ⟨b42,0,none⟩) (s.size+1) (s.size+1)],1⟩).set q ⟨85,[.pointer (some ⟨b34,0,none⟩)],1⟩:=⟨_,rfl⟩
 have hM:S2.Less M6:=by rw [hM6];exact less_
 have o9:M6.own b9=some ⟨24,[.slice (some ⟨b38,0,none⟩) (s.size+1) (s.size+1)],1⟩:=by rw [hM6];exact own_
 have o10:M6.own b10=some ⟨40,[.slice (some ⟨b42,0,none⟩) (s.size+1) (s.size+1)],1⟩:=by rw [hM6];exact own_
 have oq:M6.own q=some ⟨85,[.pointer (some ⟨b34,0,none⟩)],1⟩:=by rw [hM6];exact own_
 have fr:∀ b,Fresh S2 b→b≠b9→b≠b10→b≠q→Fresh M6 b:=fun b h h1 h2 h3=>by rw [hM6];exact fresh_more (fresh_more (fresh_more h h1) h2) h3
 have k38:Fresh M6 b38:=fr _ g38 ne_ ne_ ne_
 have k42:Fresh M6 b42:=fr _ g42 ne_ ne_ ne_
 have k34:Fresh M6 b34:=fr _ g34 ne_ ne_ ne_
 have k4:Fresh M6 b4:=fr _ f4b ne_ ne_ ne_
 have n1:b34≠b4:=ne_
 have n2:b42≠b38:=ne_
 have n3:b34≠b38:=ne_
 have n4:b34≠b42:=ne_
 have n5:b4≠b38:=ne_
 have n6:b4≠b42:=ne_
 replace hs0:Step S0 w0 ((((M6.set b38 ⟨3,(List.replicate (s.size+1) 0).map gI,s.size+1⟩).set b42 ⟨4,(List.replicate (s.size+1) false).map gB,s.size+1⟩).set b34 ⟨91,bkC s p (.slice fa (firP s).length fc) (.slice ma ms.length mc) (.string ByteArray.empty) (.int .i64 0) (.slice none 0 0) (.slice none 0 0),11⟩).set b4 ⟨48,ixC zix (.slice none 0 0) (.slice none 0 0) (.slice none 0 0) (.slice none 0 0),8⟩) w:=hs0.less (by unfold bkC ixC zix;rw [hM6];exact less_)
 replace hvf:=idxR_less _ _ _ _ hvf hM
 replace hvm:=hvm.less idxR_less hM
 replace hSS:=hSS.trans hM
 clear hM6 fr hM f34 f38 f9 f42 f10 fq g34 g38 g9 g42 g10 gq f4b
 refine range_view3 (N:=94) (p1:=45) (p2:=46) (S0:=S0) (w0:=w0) (gf:=109) (lb:=#[.pointer (some ⟨q,0,none⟩)]) (s.size+1) 0 (fun k=>.int .i64 (rowK t k:Int)) (fun k=>.int .i64 ((s.size-k:Nat):Int)) (fun k T=>∃ (at_:List Nat) (sm:List Bool),Mem.Less ((((M6.set b38 ⟨3,at_.map gI,s.size+1⟩).set b42 ⟨4,sm.map gB,s.size+1⟩).set b34 ⟨91,bkC s p (.slice fa (firP s).length fc) (.slice ma ms.length mc) (.string ByteArray.empty) (.int .i64 0) (.slice none 0 0) (.slice none 0 0),11⟩).set b4 ⟨48,ixC zix (.slice none 0 0) (.slice none 0 0) (.slice none 0 0) (.slice none 0 0),8⟩) T∧at_.length=s.size+1∧sm.length=s.size+1∧(∀ j,j<k→at_.getD (rowK t j) 0=s.size-j) ∧ ∀ j,j<k→sm.getD (rowK t j) false=decide ((s.size-j) % 16=0)) (fun _ _=>False) [(4,.pointer (some ⟨b4,0,none⟩)),(5,.int .i64 0),(8,.pointer (some ⟨b34,0,none⟩)),(9,.pointer (some ⟨b9,0,none⟩)),(10,.pointer (some ⟨b10,0,none⟩)),(44,.func (.func 109) #[] #[.pointer (some ⟨q,0,none⟩)])] (hg.sub ⟨rfl,rfl,rfl,rfl,rfl,rfl,trivial⟩) rfl (enters_of Try.func109 (by kernel_rfl) rfl) (lit_lt rfl) (lit_lt rfl) ?start ?it ?round ?done ?stop
 case start=>exact ⟨_,⟨_,_,Mem.Less.refl _,by simp,by simp,fun j h=>absurd h (Nat.not_lt_zero _),fun j h=>absurd h (Nat.not_lt_zero _)⟩,hs0⟩
 case stop=>intro D k T W hk hx;exact hx.elim
 case it =>
  intro l J Jx W hK hY hJ0
  refine rows_it l q b34 s p t hcol hs J Jx W (fun k W hj=>?_) hY hJ0
  obtain ⟨T,⟨at_,sm,hl,_⟩,hv,hab⟩:=hK k W hj
  have hMT:=Mem.Less.trans (show M6.Less ((((M6.set b38 ⟨3,at_.map gI,s.size+1⟩).set b42 ⟨4,sm.map gB,s.size+1⟩).set b34 ⟨91,bkC s p (.slice fa (firP s).length fc) (.slice ma ms.length mc) (.string ByteArray.empty) (.int .i64 0) (.slice none 0 0) (.slice none 0 0),11⟩).set b4 ⟨48,ixC zix (.slice none 0 0) (.slice none 0 0) (.slice none 0 0) (.slice none 0 0),8⟩) from less_) hl
  exact ⟨T,bk_of (hl.own own_) (idxR_less _ _ _ _ hvf hMT) (hvm.less idxR_less hMT),Mem.own_knows (hMT.own oq) 0 _ (fun j u hj=>by rw [Nat.zero_add];exact hj),hv,hab⟩
 case round =>
  intro l k T hk ⟨at_,sm,hl,h1,h2,h3,h4⟩
  refine GWP.less _ hl ?_
  have hrk:=rowK_le t k
  rw [htl] at hrk
  obtain ⟨r,hr⟩ : ∃ r,r=rowK t k:=⟨_,rfl⟩
  rw [← hr] at hrk ⊢
  refine GWP.seq ?_
  refine GWP.region ?_
  refine k_e rfl ?_
  refine GWP.sub [(46,_),(45,_),(4,_),(5,_),(8,_),(9,_),(10,_),(11,_)] ⟨rfl,rfl,rfl,rfl,rfl,rfl,rfl,rfl,trivial⟩ ?_
  refine GWP.region ?_
  refine k_e rfl ?_
  refine GWP.block ?_
  refine GWP.drawG [2,9,11] mixed ?_
  refine DG.pure 1 (by kernel_rfl) (by kernel_rfl) rfl rfl rfl rfl (lit_lt rfl) (fun _=>Calm.move rfl) ?_
  refine DG.pure 3 (by kernel_rfl) (by kernel_rfl) rfl rfl rfl rfl (lit_lt rfl) (fun _=>Calm.move rfl) ?_
  refine DG.pure 4 (by kernel_rfl) (by kernel_rfl) rfl rfl rfl rfl (lit_lt rfl) (fun _=>Calm.move rfl) ?_
  refine DG.pure 5 (by kernel_rfl) (by kernel_rfl) rfl rfl rfl rfl (lit_lt rfl) (fun _=>Calm.move rfl) ?_
  refine DG.pure 6 (by kernel_rfl) (by kernel_rfl) rfl rfl rfl rfl (lit_lt rfl) (fun _=>Calm.bin rfl rfl b_rem) ?_
  refine DG.pure 7 (by kernel_rfl) (by kernel_rfl) rfl rfl rfl rfl (lit_lt rfl) (fun _=>Calm.bin rfl rfl b_eql) ?_
  refine DG.two 0 2 (by kernel_rfl) rfl ?_ rfl ?_
  ·refine rC (ld_ ty_plain_24 rfl) ?_
   refine arun_nil ⟨fun _=>less_,?_⟩
   refine DG.pure 8 (by kernel_rfl) (by kernel_rfl) rfl rfl rfl rfl (lit_lt rfl) (fun _=>Calm.indexS Try.underlying24 ty_size_3 rfl rfl (by omega) (by omega)) ?_
   refine DG.two 2 9 (by kernel_rfl) rfl ?_ rfl ?_
   ·refine rC (ld_ ty_plain_40 rfl) ?_
    refine arun_nil ⟨fun h=>absurd h (by decide),?_⟩
    refine DG.only 9 (by kernel_rfl) rfl ?_
    refine ARun.store1 rfl rfl ty_size_3 rfl own_ (by show 0+(r:Int).toNat*1<_;rw [List.length_map];omega) rfl ?_
    try simp only [k_ms,k_sz,k_ss,k_za,Nat.reduceAdd]
    refine arun_nil ⟨fun h=>absurd h (by decide),?_⟩
    refine DG.pure 10 (by kernel_rfl) (by kernel_rfl) rfl rfl rfl rfl (lit_lt rfl) (fun _=>Calm.indexS Try.underlying40 ty_size_4 rfl rfl (by omega) (by omega)) ?_
    refine DG.only 11 (by kernel_rfl) rfl ?_
    refine ARun.store1 rfl rfl ty_size_4 rfl own_ (by show 0+(r:Int).toNat*1<_;rw [List.length_map];omega) rfl ?_
    try simp only [k_ms,k_sz,k_ss,k_za,Nat.reduceAdd]
    refine arun_nil ⟨fun h=>absurd h (by decide),?_⟩
    refine DG.end_ (by kernel_rfl) ?_
    refine ain_n ?_
    rw [set4 n2 n3 n5 n4 n6,show ((r:Int).toNat*1)=r by omega,set_gI,set_gB,modc];exact .inl ⟨rfl,at_.set r (s.size-k),sm.set r (decide ((s.size-k) % 16=0)),Mem.Less.refl _,by rw [List.length_set];exact h1,by rw [List.length_set];exact h2,by rw [hr];exact told_step t 0 (fun j=>s.size-j) at_ k (by omega) (by omega) h3,by rw [hr];exact told_step t false (fun j=>decide ((s.size-j) % 16=0)) sm k (by omega) (by omega) h4⟩
   ·refine ARun.store1 rfl rfl ty_size_3 rfl own_ (by show 0+(r:Int).toNat*1<_;rw [List.length_map];omega) rfl ?_
    try simp only [k_ms,k_sz,k_ss,k_za,Nat.reduceAdd]
    refine arun_nil ⟨fun h=>absurd h (by decide),?_⟩
    refine DG.only 2 (by kernel_rfl) rfl ?_
    refine rC (ld_ ty_plain_40 rfl) ?_
    refine arun_nil ⟨fun h=>absurd h (by decide),?_⟩
    refine DG.pure 10 (by kernel_rfl) (by kernel_rfl) rfl rfl rfl rfl (lit_lt rfl) (fun _=>Calm.indexS Try.underlying40 ty_size_4 rfl rfl (by omega) (by omega)) ?_
    refine DG.only 11 (by kernel_rfl) rfl ?_
    refine ARun.store1 rfl rfl ty_size_4 rfl own_ (by show 0+(r:Int).toNat*1<_;rw [List.length_map];omega) rfl ?_
    try simp only [k_ms,k_sz,k_ss,k_za,Nat.reduceAdd]
    refine arun_nil ⟨fun h=>absurd h (by decide),?_⟩
    refine DG.end_ (by kernel_rfl) ?_
    refine ain_n ?_
    rw [set4 n2 n3 n5 n4 n6,show ((r:Int).toNat*1)=r by omega,set_gI,set_gB,modc];exact .inl ⟨rfl,at_.set r (s.size-k),sm.set r (decide ((s.size-k) % 16=0)),Mem.Less.refl _,by rw [List.length_set];exact h1,by rw [List.length_set];exact h2,by rw [hr];exact told_step t 0 (fun j=>s.size-j) at_ k (by omega) (by omega) h3,by rw [hr];exact told_step t false (fun j=>decide ((s.size-j) % 16=0)) sm k (by omega) (by omega) h4⟩
  ·refine rC (ld_ ty_plain_40 rfl) ?_
   refine arun_nil ⟨fun h=>absurd h (by decide),?_⟩
   refine DG.only 0 (by kernel_rfl) rfl ?_
   refine rC (ld_ ty_plain_24 rfl) ?_
   refine arun_nil ⟨fun _=>less_,?_⟩
   refine DG.pure 8 (by kernel_rfl) (by kernel_rfl) rfl rfl rfl rfl (lit_lt rfl) (fun _=>Calm.indexS Try.underlying24 ty_size_3 rfl rfl (by omega) (by omega)) ?_
   refine DG.only 9 (by kernel_rfl) rfl ?_
   refine ARun.store1 rfl rfl ty_size_3 rfl own_ (by show 0+(r:Int).toNat*1<_;rw [List.length_map];omega) rfl ?_
   try simp only [k_ms,k_sz,k_ss,k_za,Nat.reduceAdd]
   refine arun_nil ⟨fun h=>absurd h (by decide),?_⟩
   refine DG.pure 10 (by kernel_rfl) (by kernel_rfl) rfl rfl rfl rfl (lit_lt rfl) (fun _=>Calm.indexS Try.underlying40 ty_size_4 rfl rfl (by omega) (by omega)) ?_
   refine DG.only 11 (by kernel_rfl) rfl ?_
   refine ARun.store1 rfl rfl ty_size_4 rfl own_ (by show 0+(r:Int).toNat*1<_;rw [List.length_map];omega) rfl ?_
   try simp only [k_ms,k_sz,k_ss,k_za,Nat.reduceAdd]
   refine arun_nil ⟨fun h=>absurd h (by decide),?_⟩
   refine DG.end_ (by kernel_rfl) ?_
   refine ain_n ?_
   rw [set4 n2 n3 n5 n4 n6,show ((r:Int).toNat*1)=r by omega,set_gI,set_gB,modc];exact .inl ⟨rfl,at_.set r (s.size-k),sm.set r (decide ((s.size-k) % 16=0)),Mem.Less.refl _,by rw [List.length_set];exact h1,by rw [List.length_set];exact h2,by rw [hr];exact told_step t 0 (fun j=>s.size-j) at_ k (by omega) (by omega) h3,by rw [hr];exact told_step t false (fun j=>decide ((s.size-j) % 16=0)) sm k (by omega) (by omega) h4⟩
 case done =>
  rintro D T W ⟨at_,sm,hl,l1,l2,h3,h4⟩ hst hD hK
  replace hst:=hst.less hl
  clear hl
  rw [← htl] at l1 l2 h3 h4
  obtain rfl:=all_told t at_ l1 h3
  obtain rfl:=all_smp t sm l2 h4
  clear h3 h4 hs0
  refine GWP.endM (rs:=[.cell 4 48,.tmp 5]) (N:=94) rfl hst hD hK (hg.sub (show Sub [(4,.pointer (some ⟨b4,0,none⟩)),(5,.int .i64 0),(8,.pointer (some ⟨b34,0,none⟩)),(9,.pointer (some ⟨b9,0,none⟩)),(10,.pointer (some ⟨b10,0,none⟩)),(44,.func (.func 109) #[] #[.pointer (some ⟨q,0,none⟩)])] _ from ⟨rfl,rfl,rfl,rfl,rfl,rfl,trivial⟩)) ?_
  have hplc:(Fd.plc t).length=s.size+1:=(Fd.plc_length t).trans (by rw [htl])
  have hsmp:(smpR t).length=s.size+1:=by unfold smpR;rw [List.length_map];exact hplc
  obtain ⟨pl,hpl⟩ : ∃ pl:Nat→List Nat,pl=fun i=>((Fd.plc t).take i).filter (fun a=>decide (a % 16=0)):=⟨_,rfl⟩
  have hpl0:pl 0 = []:=by rw [hpl];rfl
  have hple:pl (s.size+1)=plcR t:=by rw [hpl];show ((Fd.plc t).take (s.size+1)).filter _=_;rw [List.take_of_length_le (by omega)];rfl
  have hbk:5≤11:=by decide
  obtain ⟨M7,hM7⟩ : ∃ M7,M7=(M6.set b38 ⟨3,(Fd.plc t).map gI,s.size+1⟩).set b42 ⟨4,(smpR t).map gB,s.size+1⟩:=⟨_,rfl⟩
  have hM:M6.Less M7:=by rw [hM7];exact less_
  have p9:M7.own b9=some ⟨24,[.slice (some ⟨b38,0,none⟩) (s.size+1) (s.size+1)],1⟩:=hM.own o9
  have p10:M7.own b10=some ⟨40,[.slice (some ⟨b42,0,none⟩) (s.size+1) (s.size+1)],1⟩:=hM.own o10
  have p38:M7.own b38=some ⟨3,(Fd.plc t).map gI,s.size+1⟩:=by rw [hM7];exact own_
  have p42:M7.own b42=some ⟨4,(smpR t).map gB,s.size+1⟩:=by rw [hM7];exact own_
  have m34:Fresh M7 b34:=by rw [hM7];exact fresh_more (fresh_more k34 n3) n4
  have m4:Fresh M7 b4:=by rw [hM7];exact fresh_more (fresh_more k4 n5) n6
  have n9:b9≠b34:=m34.ne p9
  have n94:b9≠b4:=m4.ne p9
  have n3':b38≠b34:=Ne.symm n3
  have n5':b38≠b4:=Ne.symm n5
  have n42:b42≠b34:=Ne.symm n4
  have n43:b42≠b4:=Ne.symm n6
  refine GWP.seq ?_
  refine GWP.seq ?_
  refine GWP.region ?_
  refine rC (ld_ ty_plain_40 rfl) ?_
  refine rC (Calm.lenSl Try.underlying40 rfl) ?_
  refine k_m rfl (k_n ?_)
  refine GWP.sub [(4,_),(5,_),(8,_),(9,_),(10,_),(57,_),(58,_),(59,_)] ⟨rfl,rfl,rfl,rfl,rfl,rfl,rfl,rfl,trivial⟩ ?_
  refine GWP.block ?_
  refine GWP.loop (X:=Nat × Option (Nat × Nat)) (fun x=>[(4,.pointer (some ⟨b4,0,none⟩)),(5,.int .i64 0),(8,.pointer (some ⟨b34,0,none⟩)),(9,.pointer (some ⟨b9,0,none⟩)),(10,.pointer (some ⟨b10,0,none⟩)),(57,.slice (some ⟨b42,0,none⟩) (s.size+1) (s.size+1)),(58,.int .i64 (s.size+1:Nat)),(59,.int .i64 x.1)]) (fun x=>outM ((M7.set b34 ⟨91,bkC s p (.slice fa (firP s).length fc) (.slice ma ms.length mc) (.string ByteArray.empty) (.int .i64 0) (.slice none 0 0) (outV x.2 (pl x.1).length),11⟩).set b4 ⟨48,ixC zix (.slice none 0 0) (.slice none 0 0) (.slice none 0 0) (.slice none 0 0),8⟩) x.2 3 ((pl x.1).map gI)) (fun x=>x.1≤s.size+1∧OkO M7 x.2 (pl x.1).length ∧ ∀ q c,x.2=some (q,c)→b34≠q∧b4≠q) (fun x=>s.size+1-x.1) ((0,none)) ⟨rfl,rfl,rfl,rfl,rfl,rfl,rfl,rfl,trivial⟩ (by rw [hM7,hpl0];exact Mem.Less.refl _) (⟨Nat.zero_le _,by rw [hpl0];exact okO_nil _,fun _ _ h=>by cases h⟩) ?_
  rintro ⟨i,o⟩ ⟨hi,hO,hne⟩
  (try dsimp only at *)
  have hoth:=fun {b:Nat} {r:Blk} (hb:M7.own b=some r) (h1:b≠b34) (h2:b≠b4)=>own_outM (e:=3) (cs:=(pl i).map gI) (okO_two (A:=⟨91,bkC s p (.slice fa (firP s).length fc) (.slice ma ms.length mc) (.string ByteArray.empty) (.int .i64 0) (.slice none 0 0) (outV o (pl i).length),11⟩) (B:=⟨48,ixC zix (.slice none 0 0) (.slice none 0 0) (.slice none 0 0) (.slice none 0 0),8⟩) hO hne) ((Mem.own_set_other _ _ h2).trans ((Mem.own_set_other _ _ h1).trans hb))
  by_cases hci:i<s.size+1
  ·refine GWP.seq ?_
   refine GWP.region ?_
   refine rC (Calm.bin rfl rfl b_lss) ?_
   refine k_n ?_
   refine GWP.seq ?_
   refine GWP.condT rfl (by first|rfl|(simp;done)|(simp;omega)) ?_
   obtain ⟨x,hx⟩ : ∃ x,x=(Fd.plc t)[i]'(by omega):=⟨_,rfl⟩
   have hb:gB ((smpR t)[i]'(by omega)) = .bool (decide (x % 16=0)):=by rw [hx];show Value.bool _=_;congr 1;exact List.getElem_map ..
   refine GWP.skip ?_
   refine athen_n ?_
   refine GWP.seq ?_
   refine GWP.block ?_
   refine GWP.seq ?_
   refine GWP.region ?_
   refine k_m rfl ?_
   refine rC (Calm.indexS Try.underlying40 ty_size_4 rfl rfl (by omega) (by omega)) ?_
   refine rC (Calm.as hb (Calm.load ty_plain_4 rfl (rd_list (g:=gB) i (by omega) (hoth p42 n42 n43) (by omega)))) ?_
   have ht1:(Fd.plc t).take (i+1)=(Fd.plc t).take i ++ [x]:=by rw [hx];exact List.take_succ_eq_append_getElem (by omega)
   have hst1:pl (i+1)=pl i ++ (if x % 16=0 then [x] else []):=by rw [hpl,hx];exact plcR_take t i (by omega)
   refine k_s rfl (k_e rfl ?_)
   refine GWP.sub [(4,_),(5,_),(8,_),(9,_),(10,_),(57,_),(58,_),(59,_),(60,_),(13,_),(14,_)] ⟨rfl,rfl,rfl,rfl,rfl,rfl,rfl,rfl,rfl,rfl,rfl,trivial⟩ ?_
   by_cases h16:x % 16=0
   ·refine GWP.seq ?_
    refine GWP.region ?_
    refine k_m rfl (k_n ?_)
    refine GWP.condT rfl (by first|rfl|(simp;done)|(simp;omega)) ?_
    have h34:=own_outM (e:=3) (cs:=(pl i).map gI) (okO_two (A:=⟨91,bkC s p (.slice fa (firP s).length fc) (.slice ma ms.length mc) (.string ByteArray.empty) (.int .i64 0) (.slice none 0 0) (outV o (pl i).length),11⟩) (B:=⟨48,ixC zix (.slice none 0 0) (.slice none 0 0) (.slice none 0 0) (.slice none 0 0),8⟩) hO hne) ((Mem.own_set_other _ _ n1).trans (Mem.own_set_same _ _ _))
    have hpll:(pl i).length≤4097:=by rw [hpl];exact Nat.le_trans (List.length_filter_le ..) (by rw [List.length_take];omega)
    refine GWP.draw [(0,true),(1,true),(2,true),(3,true),(4,true),(5,true),(6,true),(7,true),(8,true),(9,true),(10,false),(11,false),(12,true),(13,true),(14,true),(15,false)] [11,15] mixed (by kernel_rfl) ?_
    refine dP (hc:=fun _=>Calm.move rfl) (h:=?_)
    refine dP (hc:=fun _=>Calm.move rfl) (h:=?_)
    refine dP (hc:=fun _=>Calm.nilCheck rfl) (h:=?_)
    refine dP (hc:=fun _=>Calm.fieldAddr ty_field_91_0 rfl) (h:=?_)
    refine dP (hc:=fun _=>Calm.fieldAddr ty_field_48_5 rfl) (h:=?_)
    refine dC (hc:=Calm.load (v:=outV o (pl i).length) ty_plain_24 rfl (rd_own' h34 rfl)) (h:=?_)
    refine dC (hc:=Calm.load ty_plain_24 rfl (rd_own' (hoth p9 n9 n94) rfl)) (h:=?_)
    refine dP (hc:=fun _=>Calm.move rfl) (h:=?_)
    refine dP (hc:=fun _=>Calm.indexS Try.underlying24 ty_size_3 rfl rfl (by omega) (by omega)) (h:=?_)
    refine dC (hc:=Calm.as (show gI ((Fd.plc t)[i]'(by omega)) = .int .i64 (x:Int) by rw [← hx];rfl) (Calm.load ty_plain_3 rfl (rd_list (g:=gI) i (by omega) (hoth p38 n3' n5') (by omega)))) (h:=?_)
    refine draw_only rfl ?_
    refine ARun.build1s (lit_lt rfl) ty_sl_24 rfl rfl ?_
    intro b75 f75
    have g75:=f75
    repeat ((with_reducible replace g75:=fresh_set g75);obtain ⟨g75,_⟩:=g75)
    refine arun_nil ⟨fun _=>less_,?_⟩
    refine draw_only rfl ?_
    refine ARun.appendO (o:=o) (n:=(pl i).length) (m:=1) (cs:=(pl i).map gI) (lit_lt rfl) ty_sl_24 rfl (List.length_map ..) (appO_of (okO_two hO hne) (List.length_map ..) f75) rfl (news:=[_]) rds_ rfl (by omega) (by simp [Value.oneCell',outV]) (by omega) (by omega) ?_
    intro b76 c76 ho3
    refine arun_nil ⟨fun h=>absurd h (by decide),?_⟩
    refine dP (hc:=fun _=>Calm.nilCheck rfl) (h:=?_)
    refine dP (hc:=fun _=>Calm.fieldAddr ty_field_91_0 rfl) (h:=?_)
    refine dP (hc:=fun _=>Calm.fieldAddr ty_field_48_5 rfl) (h:=?_)
    refine draw_only rfl ?_
    refine ARun.store1 rfl rfl ty_size_24 rfl (own_outM ho3 ((Mem.own_set_other _ _ n1).trans (Mem.own_set_same _ _ _))) (by show 0+0+7<11;decide) rfl ?_
    try simp only [k_ms,k_sz,k_ss,k_za,Nat.reduceAdd]
    refine arun_nil ⟨fun h=>absurd h (by decide),?_⟩
    refine draw_nil ?_
    refine ain_n ?_
    refine athen_n ?_
    refine GWP.sub [(4,_),(5,_),(8,_),(9,_),(10,_),(57,_),(58,_),(59,_),(60,_),(13,_),(14,_),(64,_)] ⟨rfl,rfl,rfl,rfl,rfl,rfl,rfl,rfl,rfl,rfl,rfl,rfl,trivial⟩ ?_
    rw [outM_two n1 (okO_un ho3).2]
    refine GWP.region ?_
    refine rC (Calm.bin rfl rfl b_add_i64) ?_
    refine k_m rfl (k_n ?_)
    refine ⟨(i+1,some (b76,c76)),?_,?_,?_,?_⟩
    all_goals (try dsimp only)
    ·exact ⟨sq_,sq_,sq_,sq_,sq_,sq_,sq_,sq_,trivial⟩
    ·rw [hst1,if_pos h16,List.map_append,List.length_append];exact Mem.Less.refl _
    ·exact ⟨hci,by rw [hst1,if_pos h16,List.length_append];exact (okO_un ho3).1,(okO_un ho3).2⟩
    ·omega
   ·refine GWP.seq ?_
    refine GWP.region ?_
    refine k_m rfl (k_n ?_)
    refine GWP.condF rfl (by first|rfl|(simp;done)|(simp;omega)) ?_
    refine GWP.skip ?_
    refine ain_n ?_
    refine athen_n ?_
    refine GWP.region ?_
    refine rC (Calm.bin rfl rfl b_add_i64) ?_
    refine k_m rfl (k_n ?_)
    refine ⟨(i+1,o),?_,?_,?_,?_⟩
    all_goals (try dsimp only)
    ·exact ⟨sq_,sq_,sq_,sq_,sq_,sq_,sq_,sq_,trivial⟩
    ·rw [hst1,if_neg h16,List.append_nil];exact Mem.Less.refl _
    ·exact ⟨hci,by rw [hst1,if_neg h16,List.append_nil];exact hO,hne⟩
    ·omega
  ·obtain rfl:i=s.size+1:=by omega
   refine GWP.seq ?_
   refine GWP.region ?_
   refine rC (Calm.bin rfl rfl b_lss) ?_
   refine k_n ?_
   refine GWP.seq ?_
   refine GWP.condF rfl (by first|rfl|(simp;done)|(simp;omega)) ?_
   rw [hple] at hO ⊢
   rw [outM_under hne]
   obtain ⟨M8,hM8⟩ : ∃ M8,M8=outM M7 o 3 ((plcR t).map gI):=⟨_,rfl⟩
   have hM78:M7.Less M8:=by rw [hM8];exact outM_over hO
   have z34:Fresh M8 b34:=by rw [hM8];exact fresh_outM' m34 fun q c e=>(hne q c e).1
   have z4:Fresh M8 b4:=by rw [hM8];exact fresh_outM' m4 fun q c e=>(hne q c e).2
   have hvp:IntsV M8 (outV o (plcR t).length) (castL (plcR t)):=by rw [hM8];exact idx_ints (sl_outV (g:=gI) hO rfl (by rw [← hple,hpl];exact Nat.le_trans (List.length_filter_le ..) (by rw [List.length_take];omega)))
   rw [← hM8]
   have y10:=hM78.own p10
   have n10:b10≠b34:=m34.ne p10
   have n104:b10≠b4:=m4.ne p10
   clear hoth
   refine GWP.exit ?_
   refine athen_exit ?_
   refine athen_exit ?_
   refine ain_same ?_
   refine athen_n ?_
   refine GWP.seq ?_
   refine GWP.region ?_
   refine k_m rfl ?_
   refine rC (Calm.load ty_plain_40 rfl (rd_own' ((Mem.own_set_other _ _ n104).trans ((Mem.own_set_other _ _ n10).trans y10)) rfl)) ?_
   refine ARun.call (lit_lt rfl) go_73 rfl ((((selV_OfS _ (smpR t) M8 (Sl.own1 (g:=gB) (l:=smpR t) (hM78.own p42) List.prefix_rfl hsmp (Nat.le_refl _) (by omega))).frame z34).frame (fresh_more z4 (Ne.symm n1)))) ?_
   rintro _ _ ⟨_,⟨M9,hr9,z34',rfl⟩,z4',rfl⟩
   obtain ⟨pa,ca,rfl,hM89,hvc⟩:=hr9.slices
   refine k_m rfl ?_
   refine rC (Calm.extract rfl rfl) ?_
   refine rC (Calm.extract rfl rfl) ?_
   refine rC (Calm.nilCheck rfl) ?_
   refine rC (Calm.fieldAddr ty_field_91_0 rfl) ?_
   refine rC (Calm.fieldAddr ty_field_48_4 rfl) ?_
   refine ARun.store rfl rfl ty_size_46 ((Mem.own_set_other _ _ n1).trans (Mem.own_set_same _ _ _)) (by show 0+0+4+3≤11;decide) (by simp [Value.cells,Value.oneCell']) ?_
   try simp only [k_ms,k_sz,k_ss,k_za,Nat.reduceAdd]
   refine k_n ?_
   refine GWP.sub [(4,_),(5,_),(8,_),(9,_),(10,_),(57,_),(58,_),(59,_),(60,_)] ⟨rfl,rfl,rfl,rfl,rfl,rfl,rfl,rfl,rfl,trivial⟩ ?_
   refine GWP.less ((M9.set b34 ⟨91,bkC s p (.slice fa (firP s).length fc) (.slice ma ms.length mc) (.string (Sel.ofP (smpR t)).1) (.int .i64 (Sel.ofP (smpR t)).2.1) (.slice pa (Sel.ofP (smpR t)).2.2.1.length ca) (outV o (plcR t).length),11⟩).set b4 ⟨48,ixC zix (.slice none 0 0) (.slice none 0 0) (.slice none 0 0) (.slice none 0 0),8⟩) (by rw [← put_rows n1];exact Mem.Less.refl _) ?_
   refine GWP.seq ?_
   refine GWP.region ?_
   refine k_m rfl ?_
   refine rC (Calm.nilCheck rfl) ?_
   refine rC (Calm.fieldAddr ty_field_91_0 rfl) ?_
   refine rC (ldA_ (cs:=[_,_,_,_,_,_,_,_]) ty_agg_48 ty_size_48 rfl) ?_
   refine ARun.storeAll (cs:=ixC ⟨s,p,[],[],(Sel.ofP (smpR t)).1,(Sel.ofP (smpR t)).2.1,[],[]⟩ (.slice fa (firP s).length fc) (.slice ma ms.length mc) (.slice pa (Sel.ofP (smpR t)).2.2.1.length ca) (outV o (plcR t).length)) rfl rfl ty_size_48 (Mem.own_set_same _ _ _) rfl (by cases o <;> simp [ixC,Value.oneCell',outV]) ?_
   try simp only [k_ms,k_sz,k_ss,k_za,Nat.reduceAdd]
   have hMM:=hM.trans (hM78.trans hM89)
   have hfin:IxV M9 (ixC (ixP s ((p:Int)).toNat (textP s p).1) (.slice fa (firP s).length fc) (.slice ma ms.length mc) (.slice pa (Sel.ofP (smpR t)).2.2.1.length ca) (outV o (plcR t).length)) (ixP s ((p:Int)).toNat (textP s p).1):=by unfold ixP;rw [← ht];exact ⟨_,_,_,_,rfl,idx_ints (idxR_less _ _ _ _ hvf hMM),(slOf_ints hvm).less intsV_less hMM,hvc,intsV_less _ _ _ _ hvp hM89⟩
   have hcs:ixC (ixP s ((p:Int)).toNat (textP s p).1) (.slice fa (firP s).length fc) (.slice ma ms.length mc) (.slice pa (Sel.ofP (smpR t)).2.2.1.length ca) (outV o (plcR t).length)=ixC ⟨s,p,[],[],(Sel.ofP (smpR t)).1,(Sel.ofP (smpR t)).2.1,[],[]⟩ (.slice fa (firP s).length fc) (.slice ma ms.length mc) (.slice pa (Sel.ofP (smpR t)).2.2.1.length ca) (outV o (plcR t).length):=by unfold ixP;rw [← ht];rfl
   refine k_e rfl ?_
   refine GWP.sub [(4,_),(5,_),(8,_),(9,_),(10,_),(57,_),(58,_),(59,_),(60,_)] ⟨rfl,rfl,rfl,rfl,rfl,rfl,rfl,rfl,rfl,trivial⟩ ?_
   refine GWP.ret ?_
   refine ⟨_,M9,⟨_,_,_,rfl,.inr ⟨ty_agg_48,[_,_,_,_,_,_,_,_],ty_size_48,rds_,rfl⟩,⟨_,_,rfl,rfl,rfl⟩,rfl⟩,(Mem.less_set _ _ _ z34'.1).trans (Mem.less_set _ _ _ (fresh_more (fresh_set z4').1 (Ne.symm n1)).1),?_⟩
   exact .inl ⟨h0,_,by rw [hcs];rfl,hSS.trans hMM,hfin⟩
end Go.Proofs.Ytgidjbpgkeemiaa
namespace Go.Proofs.Ytgidjbpgkeemiaa
open Go.RowKit Go.Shelf
open Mv Num Loser Srt
set_option maxRecDepth 8000
set_option maxHeartbeats 1000000 in
theorem fd_EqualFunc (a b : List (List Int)) (va vb : Value) (S : Mem) (ha : SlOf IntsV S va a) (hb : SlOf IntsV S vb b) :
  ACall Try.prog 117 #[va,vb,.func (.func 116) #[] #[]] S fun r S'=>r = .bool (decide (a=b))∧S'=S:=by
 obtain ⟨ga,hal,⟨pa,ca,rfl,ha1,ha2,ha3⟩,hae⟩:=ha
 obtain ⟨gb,hbl,⟨pb,cb,rfl,hb1,hb2,hb3⟩,hbe⟩:=hb
 by_cases hlen:a.length=b.length
 ·have hlen0:=hlen
  refine ACall.enter (rs:=[.tmp 6]) 32 [(0,.slice pa ga.length ca),(1,.slice pb gb.length cb),(2,.func (.func 116) #[] #[])] Try.func117 rfl rfl (Nat.le_of_ble_eq_true rfl) rfl ⟨rfl,rfl,rfl,trivial⟩ ?_
  refine k_a (k_e rfl (AWP.seq (k_a (k_m rfl ?_))))
  refine rC (Calm.lenSl Try.underlying42 rfl) ?_
  refine k_m rfl ?_
  refine rC (Calm.lenSl Try.underlying42 rfl) ?_
  refine rC (Calm.bin rfl rfl b_neq) ?_
  refine k_n ?_
  refine k_u [(0,_),(1,_),(2,_),(6,_),(14,_)] ?_
  refine k_F rfl ?_
  refine k_k (AWP.seq (k_a (k_m rfl ?_)))
  refine rC (Calm.lenSl Try.underlying42 rfl) ?_
  refine k_m rfl (k_n ?_)
  refine AWP.block ?_
  refine AWP.loop (X:=Nat) (fun x=>[(0,.slice pa ga.length ca),(1,.slice pb gb.length cb),(2,.func (.func 116) #[] #[]),(15,.slice pa ga.length ca),(16,.int .i64 ga.length),(17,.int .i64 x)]) (fun x=>S) (fun x=>x≤a.length ∧ ∀ j (hj:j<a.length) (hj2:j<b.length),j<x→a[j]=b[j]) (fun x=>a.length-x) (0) ⟨rfl,rfl,rfl,rfl,rfl,rfl,trivial⟩ (Mem.Less.refl _) (⟨Nat.zero_le _,fun _ _ _ h=>absurd h (Nat.not_lt_zero _)⟩) ?_
  rintro i ⟨hi1,hq⟩
  (try dsimp only at *)
  refine k_a ?_
  refine rC (Calm.bin rfl rfl b_lss) ?_
  refine k_n (AWP.seq ?_)
  refine AWP.condB rfl (fun hl=>?_) (fun hl=>?_)
  ·have hl:i<a.length:=by have:=of_decide_eq_true hl;omega
   have hia:i<ga.length:=by omega
   have hib:i<gb.length:=by omega
   obtain ⟨b0,off,rfl,hkn⟩:=ha3.resolve_left (by intro h;rw [h] at hia;exact absurd hia (Nat.not_lt_zero _))
   obtain ⟨b1,off1,rfl,hkn1⟩:=hb3.resolve_left (by intro h;rw [h] at hib;exact absurd hib (Nat.not_lt_zero _))
   have hkk:=hkn i hia
   have hkk1:=hkn1 i hib
   refine k_k (AWP.seq ?_)
   refine AWP.block ?_
   refine k_a (k_m rfl ?_)
   refine rC (Calm.indexS Try.underlying42 ty_size_24 rfl rfl (by omega) (by omega)) ?_
   refine rC (ld_ ty_plain_24 rfl) ?_
   refine k_s rfl (k_e rfl ?_)
   refine k_u [(0,_),(1,_),(2,_),(15,_),(16,_),(17,_),(18,_),(7,_),(8,_)] ?_
   refine k_a (k_m rfl (k_m rfl ?_))
   refine rC (Calm.indexS Try.underlying42 ty_size_24 rfl rfl (by omega) (by omega)) ?_
   refine rC (ld_ ty_plain_24 rfl) ?_
   refine k_e rfl ?_
   refine k_u [(0,_),(1,_),(2,_),(15,_),(16,_),(17,_),(18,_),(7,_),(8,_),(9,_)] ?_
   refine k_a (k_m rfl (k_m rfl (k_m rfl ?_)))
   refine ARun.callV (lit_lt rfl) go_116 rfl rfl (losV_EqualI a[i] b[i] ga[i] gb[i] S (hae i hl hia) (hbe i (by omega) hib)) ?_
   rintro _ S1 ⟨rfl,h1⟩
   rw [h1];clear h1 S1
   refine rC (Calm.un rfl (una_not _)) ?_
   refine k_n ?_
   refine k_u [(0,_),(1,_),(2,_),(15,_),(16,_),(17,_),(18,_),(7,_),(8,_),(9,_),(30,_)] ?_
   by_cases c1:a[i]=b[i]
   ·refine k_F rfl ?_
    refine AWP.skip ?_
    refine ain_n ?_
    refine athen_n ?_
    refine AWP.region ?_
    refine rC (Calm.bin rfl rfl b_add_i64) ?_
    refine k_m rfl (k_n ?_)
    refine ⟨i+1,?_,?_,?_,?_⟩
    all_goals (try dsimp only)
    ·exact ⟨rfl,rfl,rfl,rfl,rfl,rfl,trivial⟩
    ·exact Mem.Less.refl _
    ·exact ⟨hl,fun j hj hj2 hji=>by rcases Nat.lt_or_ge j i with h | h;exact hq j hj hj2 h;obtain rfl:j=i:=(by omega);exact c1⟩
    ·omega
   ·refine k_T rfl ?_
    refine k_a (k_e rfl ?_)
    refine AWP.ret ?_
    refine ain_ret ?_
    refine athen_ret ?_
    refine athen_ret ?_
    refine ain_ret ?_
    refine athen_ret ?_
    refine ⟨_,S,⟨_,_,rfl,rfl,rfl⟩,less_,?_⟩
    exact ⟨by rw [decide_eq_false (fun e=>c1 (by subst e;rfl))];rfl,rfl⟩
  ·have hl:i=a.length:=by have:=of_decide_eq_false hl;omega
   refine AWP.exit ?_
   refine athen_exit ?_
   refine athen_exit ?_
   refine ain_same ?_
   refine athen_n ?_
   refine k_a (k_e rfl ?_)
   refine AWP.ret ?_
   refine ⟨_,S,⟨_,_,rfl,rfl,rfl⟩,less_,?_⟩
   exact ⟨by rw [decide_eq_true (List.ext_getElem hlen fun j h1 h2=>hq j h1 h2 (by omega))];rfl,rfl⟩
 ·have hlen0:=hlen
  refine ACall.enter (rs:=[.tmp 6]) 32 [(0,.slice pa ga.length ca),(1,.slice pb gb.length cb),(2,.func (.func 116) #[] #[])] Try.func117 rfl rfl (Nat.le_of_ble_eq_true rfl) rfl ⟨rfl,rfl,rfl,trivial⟩ ?_
  refine k_a (k_e rfl (AWP.seq (k_a (k_m rfl ?_))))
  refine rC (Calm.lenSl Try.underlying42 rfl) ?_
  refine k_m rfl ?_
  refine rC (Calm.lenSl Try.underlying42 rfl) ?_
  refine rC (Calm.bin rfl rfl b_neq) ?_
  refine k_n ?_
  refine k_u [(0,_),(1,_),(2,_),(6,_),(14,_)] ?_
  refine k_T rfl ?_
  refine k_a (k_e rfl ?_)
  refine k_r ?_
  refine ⟨_,S,⟨_,_,rfl,rfl,rfl⟩,less_,?_⟩
  exact ⟨by rw [decide_eq_false (fun e=>hlen (by rw [e]))];rfl,rfl⟩
/-! ### The document's -/
def uOf (n : Int) : Nat := (n % 18446744073709551616).toNat
def marksU (l : List (List Int)) : List (List Nat) := l.map (fun m => m.map uOf)
theorem wrap_uOf (n : Int) : IntKind.u64.wrap n = ((uOf n : Nat) : Int) := by
 have h:IntKind.u64.wrap n=n % 18446744073709551616:=rfl
 unfold uOf;rw [h];omega
theorem uOf_inj {a b : Int} (ha : -9223372036854775808 ≤ a ∧ a < 9223372036854775808) (hb : -9223372036854775808 ≤ b ∧ b < 9223372036854775808) (h : uOf a = uOf b) : a = b := by unfold uOf at h; omega
theorem map_uOf_inj : ∀ {a b : List Int}, (∀ x ∈ a, -9223372036854775808 ≤ x ∧ x < 9223372036854775808) → (∀ x ∈ b, -9223372036854775808 ≤ x ∧ x < 9223372036854775808) → a.map uOf = b.map uOf → a = b
 | [],[],_,_,_=>rfl
 | [],_ :: _,_,_,h=>by cases h
 | _ :: _,[],_,_,h=>by cases h
 | x :: a,y :: b,ha,hb,h=>by
  rw [List.map_cons,List.map_cons] at h
  injection h with h1 h2
  rw [uOf_inj (ha x (List.mem_cons_self ..)) (hb y (List.mem_cons_self ..)) h1,map_uOf_inj (fun x h=>ha x (List.mem_cons_of_mem _ h)) (fun x h=>hb x (List.mem_cons_of_mem _ h)) h2]
def In64 (l : List (List Int)) : Prop := ∀ m ∈ l, ∀ x ∈ m, -9223372036854775808 ≤ x ∧ x < 9223372036854775808
theorem marksU_inj : ∀ {a b : List (List Int)}, In64 a → In64 b → marksU a = marksU b → a = b
 | [],[],_,_,_=>rfl
 | [],_ :: _,_,_,h=>by cases h
 | _ :: _,[],_,_,h=>by cases h
 | x :: a,y :: b,ha,hb,h=>by
  unfold marksU at h
  rw [List.map_cons,List.map_cons] at h
  injection h with h1 h2
  rw [map_uOf_inj (ha x (List.mem_cons_self ..)) (hb y (List.mem_cons_self ..)) h1,marksU_inj (fun x h=>ha x (List.mem_cons_of_mem _ h)) (fun x h=>hb x (List.mem_cons_of_mem _ h)) h2]
theorem grow_in {M : Mem} {o o2 : Option (Nat × Nat)} {k n : Nat} {e1 e2 : TypeId} {hs cs : List Value} (hI : OkO M o k) (h2 : OkO (outM M o e1 hs) o2 n) : OkO M o2 n ∧ OkO (outM M o2 e2 cs) o k ∧ outM (outM M o e1 hs) o2 e2 cs = outM (outM M o2 e2 cs) o e1 hs := by
 cases o2 with
 | none=>exact ⟨⟨h2.nil,fun b c e=>by cases e⟩,hI,rfl⟩
 | some q =>
  obtain ⟨hf,hc⟩:=h2.own q.1 q.2 rfl
  obtain ⟨h1,hq⟩:=fresh_outM hf
  exact ⟨⟨fun e=>(by cases e),fun b c e=>(by cases e;exact ⟨h1,hc⟩)⟩,hI.set hq,outM_set _ _ _ _ _ _ hq⟩
def cU (n : Nat) : Value := .int .u64 (n : Int)
set_option maxHeartbeats 4000000 in
theorem rfd_marks (v : Value) (l : List (List Int)) (S : Mem) (h : SlOf IntsV S v l) (hl : l.length ≤ 5864062014634) (hr : ∀ m ∈ l, m.length ≤ 17592186043904) :
  ACall Try.prog 77 #[v] S fun r S'=>S.Less S'∧SlOf RowR S' r (marksU l):=by
 obtain ⟨gs,hgl,⟨pa,ca,rfl,ha1,ha2,ha3⟩,hae⟩:=h
 refine ACall.enter (rs:=[.tmp 2]) 33 [(0,.slice pa gs.length ca)] Try.func77 rfl rfl (Nat.le_of_ble_eq_true rfl) rfl ⟨rfl,trivial⟩ ?_
 refine k_a (k_e rfl (k_a (k_e rfl (AWP.seq ?_))))
 refine k_a (k_m rfl ?_)
 refine rC (Calm.lenSl Try.underlying42 rfl) ?_
 refine k_m rfl (k_n ?_)
 refine AWP.block ?_
 refine AWP.loop (X:=Nat × Mem × Option (Nat × Nat) × List Value) (fun x=>[(3,outV x.2.2.1 x.2.2.2.length),(9,.slice pa gs.length ca),(10,.int .i64 gs.length),(11,.int .i64 x.1)]) (fun x=>outM x.2.1 x.2.2.1 22 x.2.2.2) (fun x=>x.1≤l.length∧x.2.2.2.length=x.1∧GrowI RowR S x.2.1 x.2.2.1 x.2.2.2 (marksU (l.take x.1))) (fun x=>l.length-x.1) ((0,S,none,[])) ⟨rfl,rfl,rfl,rfl,trivial⟩ (Mem.Less.refl _) (⟨Nat.zero_le _,rfl,GrowI.nil _ _⟩) ?_
 rintro ⟨i,M,o,hs⟩ ⟨hi,hil,hI⟩
 (try dsimp only at *)
 by_cases hc:i<l.length
 ·have hia:i<gs.length:=by omega
  refine k_a ?_
  refine rC (Calm.bin rfl rfl b_lss) ?_
  refine k_n (AWP.seq ?_)
  refine k_T rfl ?_
  obtain ⟨b0,off,rfl,hkn⟩:=ha3.resolve_left (by intro h;rw [h] at hia;exact absurd hia (Nat.not_lt_zero _))
  have hSM:S.Less (outM M o 22 hs):=hI.less.trans (outM_over hI.ok)
  have hkk:=(hkn i hia).less hSM
  have hm:=intsV_less _ _ _ _ (hae i hc hia) hSM
  obtain ⟨g,hg⟩ : ∃ g,g=gs[i]:=⟨_,rfl⟩
  obtain ⟨m,hme⟩ : ∃ m,m=l[i]:=⟨_,rfl⟩
  rw [← hg,← hme] at hm
  have hml:=hr m (by rw [hme];exact List.getElem_mem _)
  rw [← hg] at hkk
  obtain ⟨pb,cb,rfl,hb1,hb2,hb3⟩:=hm
  refine k_k (AWP.seq ?_)
  refine AWP.block ?_
  refine k_a ?_
  refine rC (Calm.indexS Try.underlying42 ty_size_24 rfl rfl (by omega) (by omega)) ?_
  refine rC (ld_ ty_plain_24 rfl) ?_
  refine k_e rfl ?_
  refine k_u [(3,_),(9,_),(10,_),(11,_),(12,_),(5,_)] ?_
  refine k_a (k_e rfl (AWP.seq (k_a (k_m rfl ?_))))
  refine rC (Calm.lenSl Try.underlying24 rfl) ?_
  refine k_m rfl (k_n ?_)
  refine AWP.block ?_
  refine AWP.loop (X:=Nat × Option (Nat × Nat)) (fun x=>[(3,outV o hs.length),(6,outV x.2 x.1),(9,.slice (some ⟨b0,off,none⟩) gs.length ca),(10,.int .i64 gs.length),(11,.int .i64 i),(15,.slice pb m.length cb),(16,.int .i64 m.length),(17,.int .i64 x.1)]) (fun x=>outM (outM M o 22 hs) x.2 41 (((m.take x.1).map uOf).map cU)) (fun x=>x.1≤m.length∧OkO (outM M o 22 hs) x.2 x.1) (fun x=>m.length-x.1) ((0,none)) ⟨rfl,rfl,rfl,rfl,rfl,rfl,rfl,rfl,trivial⟩ (Mem.Less.refl _) (⟨Nat.zero_le _,okO_nil _⟩) ?_
  rintro ⟨j,o2⟩ ⟨hj,ho2⟩
  (try dsimp only at *)
  have hnl:(((m.take j).map uOf).map cU).length=j:=by rw [List.length_map,List.length_map,List.length_take];omega
  by_cases hjl:j<m.length
  ·refine k_a ?_
   refine rC (Calm.bin rfl rfl b_lss) ?_
   refine k_n (AWP.seq ?_)
   refine k_T rfl ?_
   obtain ⟨b1,off1,rfl,hkn1⟩:=hb3.resolve_left (by intro h;rw [h] at hjl;exact absurd hjl (Nat.not_lt_zero _))
   have hkk1:=(hkn1 j hjl).less (outM_over (e:=41) (cs:=((m.take j).map uOf).map cU) ho2)
   refine k_k (AWP.seq ?_)
   refine AWP.block ?_
   refine k_a ?_
   refine rC (Calm.indexS Try.underlying24 ty_size_3 rfl rfl (by omega) (by omega)) ?_
   refine rC (ld_ ty_plain_3 rfl) ?_
   refine k_e rfl ?_
   refine k_u [(3,_),(6,_),(9,_),(10,_),(11,_),(15,_),(16,_),(17,_),(18,_),(8,_)] ?_
   refine AWP.region ?_
   refine k_m rfl (k_m rfl ?_)
   refine rC (Calm.as (show Value.int .u64 (IntKind.u64.wrap m[j])=cU (uOf m[j]) by rw [wrap_uOf];rfl) (Calm.conv rfl (conv_int Try.underlying3 Try.underlying41))) ?_
   refine ARun.build1s (lit_lt rfl) ty_sl_22 rfl rfl ?_
   intro b24 f24
   have g24:=f24
   repeat ((with_reducible replace g24:=fresh_set g24);obtain ⟨g24,_⟩:=g24)
   refine ARun.appendO (lit_lt rfl) ty_sl_22 rfl hnl (appO_of ho2 hnl g24) rfl (news:=[_]) rds_ rfl (by omega) (by simp [Value.oneCell',cU]) (by omega) (by omega) ?_
   intro b25 c25 ho3
   have ek:((m.take j).map uOf).map cU ++ [cU (uOf m[j])]=((m.take (j+1)).map uOf).map cU:=by rw [List.take_succ_eq_append_getElem hjl,List.map_append,List.map_append];rfl
   rw [ek]
   refine k_s rfl ?_
   refine arun_nil ?_
   refine ain_n ?_
   refine athen_n ?_
   refine k_u [(3,_),(6,_),(9,_),(10,_),(11,_),(15,_),(16,_),(17,_),(18,_),(8,_)] ?_
   refine AWP.region ?_
   refine rC (Calm.bin rfl rfl b_add_i64) ?_
   refine k_m rfl (k_n ?_)
   refine ⟨(j+1,some (b25,c25)),?_,?_,?_,?_⟩
   all_goals (try dsimp only)
   ·exact ⟨rfl,rfl,rfl,rfl,rfl,rfl,rfl,rfl,trivial⟩
   ·exact Mem.Less.refl _
   ·exact ⟨hjl,ho3⟩
   ·omega
  ·obtain rfl:j=m.length:=by omega
   refine k_a ?_
   refine rC (Calm.bin rfl rfl b_lss) ?_
   refine k_n (AWP.seq ?_)
   refine k_F rfl ?_
   rw [List.take_length] at hnl ⊢
   have hmu:(m.map uOf).length=m.length:=List.length_map ..
   obtain ⟨k1,k2,k3⟩:=grow_in (e2:=41) (cs:=(m.map uOf).map cU) hI.ok ho2
   rw [k3]
   have hlm:M.Less (outM M o2 41 ((m.map uOf).map cU)):=outM_over k1
   have hrow:RowR (outM M o2 41 ((m.map uOf).map cU)) (outV o2 m.length) (m.map uOf):=sl_outV (g:=cU) k1 hmu (by omega)
   generalize outM M o2 41 ((m.map uOf).map cU)=M1 at *
   rcases o2 with _ | ⟨b2,c2⟩
   ·refine AWP.exit ?_
    refine athen_exit ?_
    refine athen_exit ?_
    refine ain_same ?_
    refine athen_n ?_
    refine AWP.region ?_
    refine k_m rfl (k_m rfl ?_)
    refine ARun.build1s (lit_lt rfl) ty_sl_28 rfl rfl ?_
    intro b29 f29
    have g29:=f29
    repeat ((with_reducible replace g29:=fresh_set g29);obtain ⟨g29,_⟩:=g29)
    refine ARun.appendO (lit_lt rfl) ty_sl_28 rfl rfl (appO_of k2 rfl g29) rfl (news:=[_]) rds_ rfl (by omega) (by simp [Value.oneCell',outV]) (by omega) (by omega) ?_
    intro b30 c30 hoo
    have hI2:=hI.step rowR_less hlm hrow hoo
    have ek:marksU (l.take i) ++ [m.map uOf]=marksU (l.take (i+1)):=by rw [List.take_succ_eq_append_getElem hc,hme];unfold marksU;rw [List.map_append];rfl
    rw [ek] at hI2
    refine k_s rfl ?_
    refine arun_nil ?_
    refine ain_n ?_
    refine athen_n ?_
    refine k_u [(3,_),(6,_),(9,_),(10,_),(11,_),(15,_),(16,_),(17,_),(18,_)] ?_
    refine AWP.region ?_
    refine rC (Calm.bin rfl rfl b_add_i64) ?_
    refine k_m rfl (k_n ?_)
    refine ⟨(i+1,M1,some (b30,c30),hs ++ [outV none m.length]),?_,?_,?_,?_⟩
    all_goals (try dsimp only)
    ·exact ⟨by rw [List.length_append];rfl,rfl,rfl,rfl,trivial⟩
    ·exact Mem.Less.refl _
    ·exact ⟨hc,by rw [List.length_append,hil];rfl,hI2⟩
    ·omega
   ·refine AWP.exit ?_
    refine athen_exit ?_
    refine athen_exit ?_
    refine ain_same ?_
    refine athen_n ?_
    refine AWP.region ?_
    refine k_m rfl (k_m rfl ?_)
    refine ARun.build1s (lit_lt rfl) ty_sl_28 rfl rfl ?_
    intro b29 f29
    have g29:=f29
    repeat ((with_reducible replace g29:=fresh_set g29);obtain ⟨g29,_⟩:=g29)
    refine ARun.appendO (lit_lt rfl) ty_sl_28 rfl rfl (appO_of k2 rfl g29) rfl (news:=[_]) rds_ rfl (by omega) (by simp [Value.oneCell',outV]) (by omega) (by omega) ?_
    intro b30 c30 hoo
    have hI2:=hI.step rowR_less hlm hrow hoo
    have ek:marksU (l.take i) ++ [m.map uOf]=marksU (l.take (i+1)):=by rw [List.take_succ_eq_append_getElem hc,hme];unfold marksU;rw [List.map_append];rfl
    rw [ek] at hI2
    refine k_s rfl ?_
    refine arun_nil ?_
    refine ain_n ?_
    refine athen_n ?_
    refine k_u [(3,_),(6,_),(9,_),(10,_),(11,_),(15,_),(16,_),(17,_),(18,_)] ?_
    refine AWP.region ?_
    refine rC (Calm.bin rfl rfl b_add_i64) ?_
    refine k_m rfl (k_n ?_)
    refine ⟨(i+1,M1,some (b30,c30),hs ++ [outV (some (b2,c2)) m.length]),?_,?_,?_,?_⟩
    all_goals (try dsimp only)
    ·exact ⟨by rw [List.length_append];rfl,rfl,rfl,rfl,trivial⟩
    ·exact Mem.Less.refl _
    ·exact ⟨hc,by rw [List.length_append,hil];rfl,hI2⟩
    ·omega
 ·obtain rfl:i=l.length:=by omega
  refine k_a ?_
  refine rC (Calm.bin rfl rfl b_lss) ?_
  refine k_n (AWP.seq ?_)
  refine k_F rfl ?_
  refine AWP.exit ?_
  refine athen_exit ?_
  refine athen_exit ?_
  refine ain_same ?_
  refine athen_n ?_
  refine k_a (k_m rfl (k_e rfl ?_))
  refine k_u [(3,_),(9,_),(10,_),(11,_),(12,_),(2,_)] ?_
  refine AWP.ret ?_
  refine ⟨_,_,⟨_,_,rfl,rfl,rfl⟩,less_,?_⟩
  exact ⟨hI.less.trans (outM_over hI.ok),by have:=hI.slOf (e:=22) rowR_less (by omega);rwa [List.take_length] at this⟩
theorem same_upto {α : Type} {a b : List α} {i : Nat} (hi : i < a.length) (hi2 : i < b.length) (e : a[i] = b[i]) (h : ∀ j (hj : j < a.length) (hj2 : j < b.length), j < i → a[j] = b[j]) : ∀ j (hj : j < a.length) (hj2 : j < b.length), j < i + 1 → a[j] = b[j] := fun j hj hj2 hji => by
 rcases Nat.lt_or_ge j i with h' | h'
 ·exact h j hj hj2 h'
 ·obtain rfl:j=i:=by omega
  exact e
set_option maxHeartbeats 4000000 in
theorem rfd_Same30 (a b : List (List Nat)) (va vb : Value) (S : Mem) (ha : SlOf RowR S va a) (hb : SlOf RowR S vb b) :
  ACall Try.prog 76 #[va,vb] S fun r S'=>r = .bool (decide (a=b))∧S'=S:=by
 obtain ⟨ga,hal,⟨pa,ca,rfl,ha1,ha2,ha3⟩,hae⟩:=ha
 obtain ⟨gb,hbl,⟨pb,cb,rfl,hb1,hb2,hb3⟩,hbe⟩:=hb
 by_cases hlen:a.length=b.length
 ·have hlen0:=hlen
  refine ACall.enter (rs:=[.tmp 4]) 53 [(0,.slice pa ga.length ca),(1,.slice pb gb.length cb)] Try.func76 rfl rfl (Nat.le_of_ble_eq_true rfl) rfl ⟨rfl,rfl,trivial⟩ ?_
  refine k_a (k_e rfl (AWP.seq (k_a (k_m rfl ?_))))
  refine rC (Calm.lenSl Try.underlying28 rfl) ?_
  refine k_m rfl ?_
  refine rC (Calm.lenSl Try.underlying28 rfl) ?_
  refine rC (Calm.bin rfl rfl b_neq) ?_
  refine k_n ?_
  refine k_u [(0,_),(1,_),(4,_),(11,_)] ?_
  refine k_F rfl ?_
  refine k_k (AWP.seq (k_a (k_m rfl ?_)))
  refine rC (Calm.lenSl Try.underlying28 rfl) ?_
  refine k_m rfl (k_n ?_)
  refine k_u [(0,_),(1,_),(4,_),(11,_),(13,_),(14,_)] ?_
  refine AWP.block ?_
  refine AWP.loop (X:=Nat) (fun x=>[(0,.slice pa ga.length ca),(1,.slice pb gb.length cb),(13,.int .i64 ga.length),(14,.int .i64 x)]) (fun x=>S) (fun x=>x≤a.length ∧ ∀ j (hj:j<a.length) (hj2:j<b.length),j<x→a[j]=b[j]) (fun x=>a.length-x) (0) ⟨rfl,rfl,rfl,rfl,trivial⟩ (Mem.Less.refl _) (⟨Nat.zero_le _,fun _ _ _ h=>absurd h (Nat.not_lt_zero _)⟩) ?_
  rintro i ⟨hi1,hq⟩
  (try dsimp only at *)
  by_cases hl:i<a.length
  ·have hia:i<ga.length:=by omega
   have hib:i<gb.length:=by omega
   refine k_a ?_
   refine rC (Calm.bin rfl rfl b_lss) ?_
   refine k_n (AWP.seq ?_)
   refine k_T rfl ?_
   obtain ⟨b0,off,rfl,hkn⟩:=ha3.resolve_left (by intro h;rw [h] at hia;exact absurd hia (Nat.not_lt_zero _))
   obtain ⟨b1,off1,rfl,hkn1⟩:=hb3.resolve_left (by intro h;rw [h] at hib;exact absurd hib (Nat.not_lt_zero _))
   have hkk:=hkn i hia
   have hkk1:=hkn1 i hib
   have hx:=hae i hl hia
   have hy:=hbe i (by omega) hib
   obtain ⟨g,hg⟩ : ∃ g,g=ga[i]:=⟨_,rfl⟩
   obtain ⟨g',hg'⟩ : ∃ g,g=gb[i]:=⟨_,rfl⟩
   obtain ⟨x,hxe⟩ : ∃ x,x=a[i]:=⟨_,rfl⟩
   obtain ⟨y,hye⟩ : ∃ y,y=b[i]'(by omega):=⟨_,rfl⟩
   rw [← hg] at hkk hx
   rw [← hg'] at hkk1 hy
   rw [← hxe] at hx
   rw [← hye] at hy
   obtain ⟨px,cx,rfl,hx1,hx2,hx3⟩:=hx
   obtain ⟨py,cy,rfl,hy1,hy2,hy3⟩:=hy
   by_cases hxy:x.length=y.length
   ·refine k_k (AWP.seq ?_)
    refine AWP.block ?_
    refine k_a (k_m rfl (k_e rfl ?_))
    refine k_u [(0,_),(1,_),(13,_),(14,_),(15,_),(5,_)] ?_
    refine AWP.seq (AWP.seq ?_)
    refine AWP.draw [(0,true),(1,true),(2,true),(3,true),(4,true),(5,true),(6,true),(7,true),(8,true),(9,true),(10,true)] [] mixed (by kernel_rfl) ?_
    refine dP (hc:=fun _=>Calm.move rfl) (h:=?_)
    refine dP (hc:=fun _=>Calm.move rfl) (h:=?_)
    refine dP (hc:=fun _=>Calm.indexS Try.underlying28 ty_size_22 rfl rfl (by omega) (by omega)) (h:=?_)
    refine dC (hc:=ld_ ty_plain_22 rfl) (h:=?_)
    refine dC (hc:=Calm.lenSl Try.underlying22 rfl) (h:=?_)
    refine dP (hc:=fun _=>Calm.move rfl) (h:=?_)
    refine dP (hc:=fun _=>Calm.move rfl) (h:=?_)
    refine dP (hc:=fun _=>Calm.indexS Try.underlying28 ty_size_22 rfl rfl (by omega) (by omega)) (h:=?_)
    refine dC (hc:=ld_ ty_plain_22 rfl) (h:=?_)
    refine dC (hc:=Calm.lenSl Try.underlying22 rfl) (h:=?_)
    refine dP (hc:=fun _=>Calm.bin rfl rfl b_neq) (h:=?_)
    refine draw_nil ?_
    refine athen_n ?_
    refine k_u [(0,_),(1,_),(13,_),(14,_),(15,_),(5,_),(27,_)] ?_
    refine k_F rfl ?_
    refine k_k (k_a (k_m rfl (k_m rfl ?_)))
    refine rC (Calm.indexS Try.underlying28 ty_size_22 rfl rfl (by omega) (by omega)) ?_
    refine rC (ld_ ty_plain_22 rfl) ?_
    refine rC (Calm.lenSl Try.underlying22 rfl) ?_
    refine k_m rfl (k_n ?_)
    refine k_u [(0,_),(1,_),(13,_),(14,_),(15,_),(5,_),(27,_),(32,_),(33,_)] ?_
    refine AWP.block ?_
    refine AWP.loop (X:=Nat) (fun x'=>[(0,.slice (some ⟨b0,off,none⟩) ga.length ca),(1,.slice (some ⟨b1,off1,none⟩) gb.length cb),(5,.int .i64 i),(13,.int .i64 ga.length),(14,.int .i64 i),(32,.int .i64 x.length),(33,.int .i64 x')]) (fun x=>S) (fun x'=>x'≤x.length ∧ ∀ j (hj:j<x.length) (hj2:j<y.length),j<x'→x[j]=y[j]) (fun x'=>x.length-x') (0) ⟨rfl,rfl,rfl,rfl,rfl,rfl,rfl,trivial⟩ (Mem.Less.refl _) (⟨Nat.zero_le _,fun _ _ _ h=>absurd h (Nat.not_lt_zero _)⟩) ?_
    rintro k ⟨hk1,hkq⟩
    (try dsimp only at *)
    by_cases hkl:k<x.length
    ·refine k_a ?_
     refine rC (Calm.bin rfl rfl b_lss) ?_
     refine k_n (AWP.seq ?_)
     refine k_T rfl ?_
     obtain ⟨b2,off2,rfl,hkx⟩:=hx3.resolve_left (by intro h;rw [h] at hkl;exact absurd hkl (Nat.not_lt_zero _))
     have hky:k<y.length:=by omega
     obtain ⟨b3,off3,rfl,hkyk⟩:=hy3.resolve_left (by intro h;rw [h] at hky;exact absurd hky (Nat.not_lt_zero _))
     have hkk2:=hkx k hkl
     have hkk3:=hkyk k hky
     by_cases c1:x[k]=y[k]
     ·refine k_k (AWP.seq ?_)
      refine AWP.block ?_
      refine k_a (k_m rfl (k_e rfl ?_))
      refine k_u [(0,_),(1,_),(5,_),(13,_),(14,_),(32,_),(33,_),(34,_),(6,_)] ?_
      refine AWP.seq ?_
      refine AWP.draw [(0,true),(1,true),(2,true),(3,true),(4,true),(5,true),(6,true),(7,true),(8,true),(9,true),(10,true),(11,true),(12,true),(13,true),(14,true)] [] mixed (by kernel_rfl) ?_
      refine dP (hc:=fun _=>Calm.move rfl) (h:=?_)
      refine dP (hc:=fun _=>Calm.move rfl) (h:=?_)
      refine dP (hc:=fun _=>Calm.indexS Try.underlying28 ty_size_22 rfl rfl (by omega) (by omega)) (h:=?_)
      refine dC (hc:=ld_ ty_plain_22 rfl) (h:=?_)
      refine dP (hc:=fun _=>Calm.move rfl) (h:=?_)
      refine dP (hc:=fun _=>Calm.indexS Try.underlying22 ty_size_41 rfl rfl (by omega) (by omega)) (h:=?_)
      refine dC (hc:=ld_ ty_plain_41 rfl) (h:=?_)
      refine dP (hc:=fun _=>Calm.move rfl) (h:=?_)
      refine dP (hc:=fun _=>Calm.move rfl) (h:=?_)
      refine dP (hc:=fun _=>Calm.indexS Try.underlying28 ty_size_22 rfl rfl (by omega) (by omega)) (h:=?_)
      refine dC (hc:=ld_ ty_plain_22 rfl) (h:=?_)
      refine dP (hc:=fun _=>Calm.move rfl) (h:=?_)
      refine dP (hc:=fun _=>Calm.indexS Try.underlying22 ty_size_41 rfl rfl (by omega) (by omega)) (h:=?_)
      refine dC (hc:=ld_ ty_plain_41 rfl) (h:=?_)
      refine dP (hc:=fun _=>Calm.bin rfl rfl b_neq) (h:=?_)
      refine draw_nil ?_
      refine athen_n ?_
      refine k_u [(0,_),(1,_),(5,_),(13,_),(14,_),(32,_),(33,_),(34,_),(6,_),(50,_)] ?_
      refine k_F rfl ?_
      refine AWP.skip ?_
      refine ain_n ?_
      refine athen_n ?_
      refine AWP.region ?_
      refine rC (Calm.bin rfl rfl b_add_i64) ?_
      refine k_m rfl (k_n ?_)
      refine ⟨k+1,?_,?_,?_,?_⟩
      all_goals (try dsimp only)
      ·exact ⟨rfl,rfl,rfl,rfl,rfl,rfl,rfl,trivial⟩
      ·exact Mem.Less.refl _
      ·exact ⟨hkl,same_upto hkl hky c1 hkq⟩
      ·omega
     ·refine k_k (AWP.seq ?_)
      refine AWP.block ?_
      refine k_a (k_m rfl (k_e rfl ?_))
      refine k_u [(0,_),(1,_),(5,_),(13,_),(14,_),(32,_),(33,_),(34,_),(6,_)] ?_
      refine AWP.seq ?_
      refine AWP.draw [(0,true),(1,true),(2,true),(3,true),(4,true),(5,true),(6,true),(7,true),(8,true),(9,true),(10,true),(11,true),(12,true),(13,true),(14,true)] [] mixed (by kernel_rfl) ?_
      refine dP (hc:=fun _=>Calm.move rfl) (h:=?_)
      refine dP (hc:=fun _=>Calm.move rfl) (h:=?_)
      refine dP (hc:=fun _=>Calm.indexS Try.underlying28 ty_size_22 rfl rfl (by omega) (by omega)) (h:=?_)
      refine dC (hc:=ld_ ty_plain_22 rfl) (h:=?_)
      refine dP (hc:=fun _=>Calm.move rfl) (h:=?_)
      refine dP (hc:=fun _=>Calm.indexS Try.underlying22 ty_size_41 rfl rfl (by omega) (by omega)) (h:=?_)
      refine dC (hc:=ld_ ty_plain_41 rfl) (h:=?_)
      refine dP (hc:=fun _=>Calm.move rfl) (h:=?_)
      refine dP (hc:=fun _=>Calm.move rfl) (h:=?_)
      refine dP (hc:=fun _=>Calm.indexS Try.underlying28 ty_size_22 rfl rfl (by omega) (by omega)) (h:=?_)
      refine dC (hc:=ld_ ty_plain_22 rfl) (h:=?_)
      refine dP (hc:=fun _=>Calm.move rfl) (h:=?_)
      refine dP (hc:=fun _=>Calm.indexS Try.underlying22 ty_size_41 rfl rfl (by omega) (by omega)) (h:=?_)
      refine dC (hc:=ld_ ty_plain_41 rfl) (h:=?_)
      refine dP (hc:=fun _=>Calm.bin rfl rfl b_neq) (h:=?_)
      refine draw_nil ?_
      refine athen_n ?_
      refine k_u [(0,_),(1,_),(5,_),(13,_),(14,_),(32,_),(33,_),(34,_),(6,_),(50,_)] ?_
      refine k_T rfl ?_
      refine k_a (k_e rfl ?_)
      refine AWP.ret ?_
      refine ain_ret ?_
      refine athen_ret ?_
      refine athen_ret ?_
      refine ain_ret ?_
      refine ain_ret ?_
      refine athen_ret ?_
      refine athen_ret ?_
      refine ain_ret ?_
      refine athen_ret ?_
      refine ⟨_,S,⟨_,_,rfl,rfl,rfl⟩,less_,?_⟩
      exact ⟨by rw [decide_eq_false (fun e=>c1 (by subst e;subst hye;subst hxe;rfl))];rfl,rfl⟩
    ·obtain rfl:k=x.length:=by omega
     refine k_a ?_
     refine rC (Calm.bin rfl rfl b_lss) ?_
     refine k_n (AWP.seq ?_)
     refine k_F rfl ?_
     have exy:x=y:=List.ext_getElem hxy fun j h1 h2=>hkq j h1 h2 h1
     refine AWP.exit ?_
     refine athen_exit ?_
     refine athen_exit ?_
     refine ain_same ?_
     refine ain_n ?_
     refine athen_n ?_
     refine AWP.region ?_
     refine rC (Calm.bin rfl rfl b_add_i64) ?_
     refine k_m rfl (k_n ?_)
     refine ⟨i+1,?_,?_,?_,?_⟩
     all_goals (try dsimp only)
     ·exact ⟨rfl,rfl,rfl,rfl,trivial⟩
     ·exact Mem.Less.refl _
     ·exact ⟨hl,same_upto hl (by omega) (by rw [← hxe,← hye,exy]) hq⟩
     ·omega
   ·refine k_k (AWP.seq ?_)
    refine AWP.block ?_
    refine k_a (k_m rfl (k_e rfl ?_))
    refine k_u [(0,_),(1,_),(13,_),(14,_),(15,_),(5,_)] ?_
    refine AWP.seq (AWP.seq ?_)
    refine AWP.draw [(0,true),(1,true),(2,true),(3,true),(4,true),(5,true),(6,true),(7,true),(8,true),(9,true),(10,true)] [] mixed (by kernel_rfl) ?_
    refine dP (hc:=fun _=>Calm.move rfl) (h:=?_)
    refine dP (hc:=fun _=>Calm.move rfl) (h:=?_)
    refine dP (hc:=fun _=>Calm.indexS Try.underlying28 ty_size_22 rfl rfl (by omega) (by omega)) (h:=?_)
    refine dC (hc:=ld_ ty_plain_22 rfl) (h:=?_)
    refine dC (hc:=Calm.lenSl Try.underlying22 rfl) (h:=?_)
    refine dP (hc:=fun _=>Calm.move rfl) (h:=?_)
    refine dP (hc:=fun _=>Calm.move rfl) (h:=?_)
    refine dP (hc:=fun _=>Calm.indexS Try.underlying28 ty_size_22 rfl rfl (by omega) (by omega)) (h:=?_)
    refine dC (hc:=ld_ ty_plain_22 rfl) (h:=?_)
    refine dC (hc:=Calm.lenSl Try.underlying22 rfl) (h:=?_)
    refine dP (hc:=fun _=>Calm.bin rfl rfl b_neq) (h:=?_)
    refine draw_nil ?_
    refine athen_n ?_
    refine k_u [(0,_),(1,_),(13,_),(14,_),(15,_),(5,_),(27,_)] ?_
    refine k_T rfl ?_
    refine k_a (k_e rfl ?_)
    refine k_r ?_
    refine ain_ret ?_
    refine athen_ret ?_
    refine athen_ret ?_
    refine ain_ret ?_
    refine athen_ret ?_
    refine ⟨_,S,⟨_,_,rfl,rfl,rfl⟩,less_,?_⟩
    exact ⟨by rw [decide_eq_false (fun e=>hxy (by subst e;subst hye;subst hxe;rfl))];rfl,rfl⟩
  ·obtain rfl:i=a.length:=by omega
   refine k_a ?_
   refine rC (Calm.bin rfl rfl b_lss) ?_
   refine k_n (AWP.seq ?_)
   refine k_F rfl ?_
   refine AWP.exit ?_
   refine athen_exit ?_
   refine athen_exit ?_
   refine ain_same ?_
   refine athen_n ?_
   refine k_a (k_e rfl ?_)
   refine AWP.ret ?_
   refine ⟨_,S,⟨_,_,rfl,rfl,rfl⟩,less_,?_⟩
   exact ⟨by rw [decide_eq_true (List.ext_getElem hlen fun j h1 h2=>hq j h1 h2 h1)];rfl,rfl⟩
 ·have hlen0:=hlen
  refine ACall.enter (rs:=[.tmp 4]) 53 [(0,.slice pa ga.length ca),(1,.slice pb gb.length cb)] Try.func76 rfl rfl (Nat.le_of_ble_eq_true rfl) rfl ⟨rfl,rfl,trivial⟩ ?_
  refine k_a (k_e rfl (AWP.seq (k_a (k_m rfl ?_))))
  refine rC (Calm.lenSl Try.underlying28 rfl) ?_
  refine k_m rfl ?_
  refine rC (Calm.lenSl Try.underlying28 rfl) ?_
  refine rC (Calm.bin rfl rfl b_neq) ?_
  refine k_n ?_
  refine k_u [(0,_),(1,_),(4,_),(11,_)] ?_
  refine k_T rfl ?_
  refine k_a (k_e rfl ?_)
  refine k_r ?_
  refine ⟨_,S,⟨_,_,rfl,rfl,rfl⟩,less_,?_⟩
  exact ⟨by rw [decide_eq_false (fun e=>hlen (by rw [e]))];rfl,rfl⟩
end Go.Proofs.Ytgidjbpgkeemiaa
