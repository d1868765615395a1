/-
  Texts that belong together: MfL1, Laid, MfL2, MfL3.
-/
import Derived.Test.YtceikpipmcadmaaGreatDoorBSl6
import Derived.Test.YtceikpipmcadmaaGreatDoorRows
import Derived.LaidLaws
import Derived.LaidMore
import Derived.LaidHandle
import Derived.MakeChecks
import Derived.LaidByTextLater
import Derived.Stop.Joined
import Derived.ProofKit
set_option linter.unusedVariables false
set_option linter.unusedSimpArgs false
set_option linter.unusedSectionVars false
namespace Go.Proofs.YtceikpipmcadmaaGreatDoor
open Go.RowKit
open Mv Disk Num
set_option maxRecDepth 4000
namespace Slo
set_option maxHeartbeats 8000000 in
theorem law_SlotsCodes (m : Mf) (s : ByteArray) (S : Mem) (hg : ErrT S) (hm : Fit m) (hf : m.frm.size ≤ 9223372036854775807) (ht : m.too.size ≤ 9223372036854775807) (hs : s.size ≤ 9223372036854775807) :
  ACall Tryz.prog 7 #[mfV m,.string s] S fun r S'=>r = .bool true:=by
 have c1:=fun S=>slo_Encode m S hm hf ht
 have e1:=fun S=>rso_Encode m S hm hf ht
 have c2:=fun S h=>slo_Decode s S hs h
 have e2:=fun S=>rso_Decode s S hs
 have c3:=fun S=>slo_Check m S hf ht
 have e3:=fun S=>rso_Check m S hf ht
 unfold encV at c1 e1
 unfold mfE at c2
 generalize encM m=u1 at *
 generalize decM s=u2 at *
 generalize chkM m=u3 at *
 unfold mfV at *
 refine ACall.enter (rs:=[.tmp 4]) 61 [(0,.agg #[.int .u64 (m.seq:Int),.int .u8 (m.phase:Int),.int .u64 (m.count:Int),.int .u64 (m.prim:Int),.int .u32 (m.sum:Int),.string m.frm,.string m.too]),(1,.string s)] Tryz.func7 rfl rfl (Nat.le_of_ble_eq_true rfl) rfl ⟨rfl,rfl,trivial⟩ ?_
 iterate 2 refine s1_ ?_
 refine k_b7 rfl ?_
 intro b2 f2
 have g2:=f2
 repeat ((with_reducible replace g2:=fresh_set g2);obtain ⟨g2,_⟩:=g2)
 refine nl_ ?_
 iterate 6 refine s1_ ?_
 refine ca_ rfl (c1 _) ?_
 rintro _ Sx ⟨rfl,h1⟩
 rw [h1];clear h1 Sx
 iterate 7 refine s1_ ?_
 refine su_ [(0,_),(1,_),(2,_),(4,_),(5,_),(6,_)] ?_
 iterate 3 refine s1_ ?_
 refine ca_ rfl (e1 _) ?_
 rintro _ Sx ⟨rfl,h1⟩
 rw [h1];clear h1 Sx
 iterate 7 refine s1_ ?_
 refine su_ [(0,_),(1,_),(2,_),(4,_),(5,_),(6,_),(7,_),(8,_)] ?_
 iterate 3 refine s1_ ?_
 refine ca_ rfl (c2 _ (hg.less less_)) ?_
 rintro _ Sx ⟨rfl,h1⟩
 rw [h1];clear h1 Sx
 iterate 3 refine s1_ ?_
 refine ARun.alloc (lit_lt rfl) ty_zero_55 ?_
 intro b9 f9
 have g9:=f9
 repeat ((with_reducible replace g9:=fresh_set g9);obtain ⟨g9,_⟩:=g9)
 refine nl_ ?_
 iterate 4 refine s1_ ?_
 refine su_ [(0,_),(1,_),(2,_),(4,_),(5,_),(6,_),(7,_),(8,_),(9,_),(10,_)] ?_
 iterate 3 refine s1_ ?_
 refine ca_ rfl (e2 _) ?_
 rintro _ Sx ⟨rfl,h1⟩
 rw [h1];clear h1 Sx
 iterate 3 refine s1_ ?_
 refine ARun.alloc (lit_lt rfl) ty_zero_55 ?_
 intro b11 f11
 have g11:=f11
 repeat ((with_reducible replace g11:=fresh_set g11);obtain ⟨g11,_⟩:=g11)
 refine nl_ ?_
 iterate 4 refine s1_ ?_
 refine su_ [(0,_),(1,_),(2,_),(4,_),(5,_),(6,_),(7,_),(8,_),(9,_),(10,_),(11,_),(12,_)] ?_
 refine s1_ ?_
 refine AWP.draw [(0,false),(1,true),(2,true),(3,true),(4,true),(5,true),(6,true),(7,true),(8,true),(9,true),(10,true),(11,true),(12,true),(13,true),(14,true),(15,true),(16,true),(17,true),(18,true),(19,true),(20,true),(21,true),(22,true),(24,true),(23,false),(25,false),(26,true),(27,true),(28,true)] [] mixed (by kernel_rfl) ?_
 refine draw_only rfl ?_
 refine ca_ rfl (slo_lives _ (hg.less less_)) ?_
 rintro _ Sx ⟨rfl,h1⟩
 rw [h1];clear h1 Sx
 refine arun_nil ⟨fun _=>less_,?_⟩
 iterate 3 refine s1_ ?_
 first|refine k_d ?_|refine dG (hc:=fun _=>Calm.bin rfl rfl (bin_bool (bin_str_eql _ _) (decide_eq_true rfl))) (h:=?_)
 iterate 4 refine s1_ ?_
 first|refine k_d ?_|refine dG (hc:=fun _=>Calm.bin rfl rfl (bin_bool (bin_eql _ _) (decide_eq_true rfl))) (h:=?_)
 iterate 4 refine s1_ ?_
 first|refine k_d ?_|refine dG (hc:=fun _=>Calm.bin rfl rfl (bin_bool (bin_eql_mf u2.1 u2.1) (decide_eq_true rfl))) (h:=?_)
 iterate 4 refine s1_ ?_
 first|refine k_d ?_|refine dG (hc:=fun _=>Calm.bin rfl rfl (bin_bool (bin_eql _ _) (decide_eq_true rfl))) (h:=?_)
 iterate 4 refine s1_ ?_
 refine draw_only rfl ?_
 refine ARun.callG 21 true 54 rfl (lit_lt rfl) rfl (lit_lt rfl) go_34 rfl (c3 _) ?_
 rintro _ Sx ⟨rfl,h1⟩
 rw [h1];clear h1 Sx
 refine arun_nil ⟨fun _=>less_,?_⟩
 refine draw_only rfl ?_
 refine ARun.callG 21 true 54 rfl (lit_lt rfl) rfl (lit_lt rfl) go_35 rfl (e3 _) ?_
 rintro _ Sx ⟨rfl,h1⟩
 rw [h1];clear h1 Sx
 refine arun_nil ⟨fun _=>less_,?_⟩
 first|refine k_d ?_|refine dG (hc:=fun _=>Calm.bin rfl rfl (bin_bool (bin_eql _ _) (decide_eq_true rfl))) (h:=?_)
 iterate 4 refine s1_ ?_
 refine su_ [(0,_),(1,_),(2,_),(4,_),(5,_),(6,_),(7,_),(8,_),(9,_),(10,_),(11,_),(12,_)] ?_
 refine s1_ ?_
 refine ⟨_,_,⟨_,_,rfl,rfl,rfl⟩,less_,?_⟩
 rfl
end Slo
theorem walk_SlotsCodes (cs : List Value) (m : Slo.Mf) (s : ByteArray) (W : World) (w0 : Slo.MfV (roM W) cs m) (w1 : s.size ≤ maxLen) (z1 : s.size < 140737488355328) (hg : Slo.ErrT (roM W)) :
  Calls Tryz.prog 7 #[.agg cs.toArray,.string s] W fun e w'=>e = .returned (.bool true)∧Below W.heap.size W w':=by
 obtain ⟨rfl,hm,hf,ht⟩:=w0
 exact ACall.callsW (Slo.law_SlotsCodes m s _ hg hm hf ht (by omega))
end Go.Proofs.YtceikpipmcadmaaGreatDoor
namespace Go.Proofs.YtceikpipmcadmaaGreatDoor
open Go.RowKit
set_option maxRecDepth 100000
/-- A start for the witnesses: the door's run, and the pinned table. -/
noncomputable def laidW (os : Os) : World :=
  { World.doorLaid Tryz.prog 400 os with heap := (World.doorLaid Tryz.prog 400 os).heap.modify 2 fun
      | .cells _ t frozen => .cells (match (Rows.laid_unicode_utf8_first) with | .agg l => (l.map fun d => match d with | .lit (.int k n) => Value.int k n | _ => .int .u8 0).toArray | _ => #[]) t frozen
      | o => o }
/-- The door's run with the pinned table and the handle of the type error. -/
noncomputable def laidW3 (os : Os) : World :=
  { laidW os with heap := (laidW os).heap.modify 0 fun
      | .cells _ t frozen => .cells #[.iface 197 (.agg #[.pointer (some ⟨4, 72, none⟩)])] t frozen
      | o => o }
theorem laidW3_shaped (os : Os) (args : Array Value) : ((laidW3 os).forCall (fun _ _ => 0) ⟨#[], args, []⟩).Shaped Tryz.prog :=
 World.shaped_of_RefB (by kernel_rfl) (by kernel_rfl)
theorem laidW3_2 (os : Os) (args : Array Value) : laidMet Tryz.prog [("unicode/utf8.acceptRanges", Rows.laid_unicode_utf8_acceptRanges), ("unicode/utf8.first", Rows.laid_unicode_utf8_first)] ((laidW3 os).forCall (fun _ _ => 0) ⟨#[], args, []⟩).memory :=
 laidMet_of_run' 8 (by kernel_rfl) (by kernel_rfl)
theorem laidW_met3 (os : Os) (args : Array Value) {l : List (String × DataW Unit)} (h : l = [("unicode/utf8.acceptRanges", Rows.laid_unicode_utf8_acceptRanges), ("errors.errorType", Rows.laid_errors_errorType), ("unicode/utf8.first", Rows.laid_unicode_utf8_first)]) : laidMetH Tryz.prog l ((laidW3 os).forCall (fun _ _ => 0) ⟨#[], args, []⟩).memory := by
 subst h
 exact laidMetH_of_parts (laidW3_2 os args) (by kernel_rfl)
end Go.Proofs.YtceikpipmcadmaaGreatDoor
namespace Go.Proofs.YtceikpipmcadmaaGreatDoor
open Go.RowKit
open Mv Disk Num
set_option maxRecDepth 4000
namespace Slo
theorem byte_at {l : List UInt8} {k : Nat} (h : k < l.length) : (cellsB l)[k]? = some (.int .u8 (nb (at8 l k))) := by
 rw [at8_get _ _ h];simp [cellsB,h]
set_option maxHeartbeats 8000000 in
theorem law_SlotsBack (m : Mf) (s : ByteArray) (at_ : Int) (dv : UInt8) (S : Mem) (hg : ErrT S) (hm : Fit m) (hf : m.frm.size ≤ 9223372036854775807) (ht : m.too.size ≤ 9223372036854775807) (hs : s.size ≤ 9223372036854775807) (ha : -9223372036854775808 ≤ at_ ∧ at_ ≤ 9223372036854775807) :
  ACall Tryz.prog 8 #[mfV m,.string s,.int .i64 at_,.int .u8 (nb dv)] S fun r S'=>r = .bool true:=by
 have c1:=fun S=>slo_Encode m S hm hf ht
 have c4:=fun S h=>slo_Decode s S hs h
 have herr:=fun h=>dec_err (s:=s) h
 have hback:=fun h=>enc_dec (s:=s) h
 have hfit:(decM s).2=0→Fit (decM s).1∧(decM s).1.frm.size≤9223372036854775807∧(decM s).1.too.size≤9223372036854775807:=fun h=>by
  obtain ⟨_,_,_,_,hR,he⟩:=dec_yes h
  rw [he]
  exact ⟨fields_fit s,Nat.le_trans ((nmd_iff _).1 hR.f).2.1 (by decide),Nat.le_trans ((nmd_iff _).1 hR.t).2.1 (by decide)⟩
 have c5:=fun h S=>slo_Encode (decM s).1 S (hfit h).1 (hfit h).2.1 (hfit h).2.2
 have key:chkM m=0→RightM m:=(chk_iff m).1
 have x64:chkM m=0→(encS m).size=64:=fun h=>enc_size (key h)
 have c2:chkM m=0 → ∀ S,ErrT S→ACall Tryz.prog 31 #[.string (encS m)] S fun r S'=>r=mfE (m,0)∧S'=S:=fun h S hg=>by
  have h2:=slo_Decode (encS m) S (by rw [x64 h];decide) hg
  rw [dec_enc (key h) hm.sum] at h2;exact h2
 have c3:chkM m=0 → ∀ k,k<64→dv≠0 → ∃ e:Int,(e=2∨e=6) ∧ ∀ S,ErrT S→ACall Tryz.prog 31 #[.string (Crc.turn (encS m) k dv)] S fun r S'=>r=mfE (M0,e)∧S'=S:=fun h k hk hd=>by
  have hfl:=flip (key h) hk hd
  refine ⟨_,hfl,fun S hg=>?_⟩
  have h2:=slo_Decode (Crc.turn (encS m) k dv) S (by rw [Crc.turn_size,x64 h];decide) hg
  have h3:=dec_err (s:=Crc.turn (encS m) k dv) (by omega)
  rw [show decM (Crc.turn (encS m) k dv)=(M0,(decM (Crc.turn (encS m) k dv)).2) from Prod.ext h3 rfl] at h2
  exact h2
 have hen:encM m=if chkM m≠0 then (ByteArray.empty,2) else (encS m,0):=rfl
 rw [hen] at c1
 unfold encV at c1 c5
 unfold mfE at c2 c3 c4
 clear hen key
 generalize encS m=x at *
 generalize chkM m=e1 at *
 generalize decM s=u at *
 obtain ⟨n,e2⟩:=u
 simp only at *
 have hdv0:∀ h:dv≠0,nb dv≠0:=fun h e=>h (by apply UInt8.toNat_inj.1;unfold nb at e;simpa using e)
 have hdv1:dv=0→nb dv=0:=fun h=>by rw [h];rfl
 by_cases q1:e1≠0
 ·rw [if_pos q1] at c1
  clear c2 c3 x64
  unfold mfV
  by_cases q2:e2=0
  ·subst q2
   have c5:=c5 rfl
   rw [hback rfl] at c5
   unfold mfV at c5 c4
   clear herr hback hfit
   refine ACall.enter (rs:=[.tmp 8]) 99 [(0,.agg #[.int .u64 (m.seq:Int),.int .u8 (m.phase:Int),.int .u64 (m.count:Int),.int .u64 (m.prim:Int),.int .u32 (m.sum:Int),.string m.frm,.string m.too]),(1,.string s),(2,.int .i64 at_),(3,.int .u8 (nb dv))] Tryz.func8 rfl rfl (Nat.le_of_ble_eq_true rfl) rfl ⟨rfl,rfl,rfl,rfl,trivial⟩ ?_
   iterate 2 refine s1_ ?_
   refine k_b7 rfl ?_
   intro b4 f4
   have g4:=f4
   repeat ((with_reducible replace g4:=fresh_set g4);obtain ⟨g4,_⟩:=g4)
   refine nl_ ?_
   iterate 6 refine s1_ ?_
   refine ca_ rfl (slo_lives _ (hg.less less_)) ?_
   rintro _ Sx ⟨rfl,h1⟩
   rw [h1];clear h1 Sx
   iterate 3 refine s1_ ?_
   refine su_ [(0,_),(1,_),(2,_),(3,_),(4,_),(8,_),(21,_)] ?_
   refine cF_ ?_
   iterate 5 refine s1_ ?_
   refine ca_ rfl (c1 _) ?_
   rintro _ Sx ⟨rfl,h1⟩
   rw [h1];clear h1 Sx
   iterate 7 refine s1_ ?_
   refine su_ [(0,_),(1,_),(2,_),(3,_),(4,_),(8,_),(21,_),(9,_),(10,_)] ?_
   iterate 4 refine s1_ ?_
   refine rC (Calm.bin rfl rfl (bin_bool (bin_eql _ _) (decide_eq_false (by simp)))) ?_
   iterate 2 refine s1_ ?_
   refine su_ [(0,_),(1,_),(2,_),(3,_),(4,_),(8,_),(21,_),(9,_),(10,_),(28,_)] ?_
   refine cF_ ?_
   iterate 5 refine s1_ ?_
   refine ca_ rfl (c4 _ (hg.less less_)) ?_
   rintro _ Sx ⟨rfl,h1⟩
   rw [h1];clear h1 Sx
   iterate 3 refine s1_ ?_
   refine ARun.alloc (lit_lt rfl) ty_zero_55 ?_
   intro b16 f16
   have g16:=f16
   repeat ((with_reducible replace g16:=fresh_set g16);obtain ⟨g16,_⟩:=g16)
   refine nl_ ?_
   iterate 4 refine s1_ ?_
   refine su_ [(0,_),(1,_),(2,_),(3,_),(4,_),(8,_),(21,_),(9,_),(10,_),(28,_),(16,_),(17,_)] ?_
   iterate 7 refine s1_ ?_
   refine su_ [(0,_),(1,_),(2,_),(3,_),(4,_),(8,_),(21,_),(9,_),(10,_),(28,_),(16,_),(17,_),(83,_)] ?_
   refine cF_ ?_
   iterate 5 refine s1_ ?_
   refine ca_ rfl (c5 _) ?_
   rintro _ Sx ⟨rfl,h1⟩
   rw [h1];clear h1 Sx
   iterate 7 refine s1_ ?_
   refine su_ [(0,_),(1,_),(2,_),(3,_),(4,_),(8,_),(21,_),(9,_),(10,_),(28,_),(16,_),(17,_),(83,_),(18,_),(19,_)] ?_
   iterate 7 refine s1_ ?_
   first|refine k_q 94 ?_|refine rG 94 (Calm.bin rfl rfl (bin_bool (bin_str_eql _ _) (decide_eq_true rfl))) ?_
   iterate 4 refine s1_ ?_
   refine su_ [(0,_),(1,_),(2,_),(3,_),(4,_),(8,_),(21,_),(9,_),(10,_),(28,_),(16,_),(17,_),(83,_),(18,_),(19,_)] ?_
   refine s1_ ?_
   refine ⟨_,_,⟨_,_,rfl,rfl,rfl⟩,less_,?_⟩
   rfl
  ·have h0:=herr q2
   subst h0
   unfold mfV M0 at c4
   clear c5 herr hback hfit
   refine ACall.enter (rs:=[.tmp 8]) 99 [(0,.agg #[.int .u64 (m.seq:Int),.int .u8 (m.phase:Int),.int .u64 (m.count:Int),.int .u64 (m.prim:Int),.int .u32 (m.sum:Int),.string m.frm,.string m.too]),(1,.string s),(2,.int .i64 at_),(3,.int .u8 (nb dv))] Tryz.func8 rfl rfl (Nat.le_of_ble_eq_true rfl) rfl ⟨rfl,rfl,rfl,rfl,trivial⟩ ?_
   iterate 2 refine s1_ ?_
   refine k_b7 rfl ?_
   intro b4 f4
   have g4:=f4
   repeat ((with_reducible replace g4:=fresh_set g4);obtain ⟨g4,_⟩:=g4)
   refine nl_ ?_
   iterate 6 refine s1_ ?_
   refine ca_ rfl (slo_lives _ (hg.less less_)) ?_
   rintro _ Sx ⟨rfl,h1⟩
   rw [h1];clear h1 Sx
   iterate 3 refine s1_ ?_
   refine su_ [(0,_),(1,_),(2,_),(3,_),(4,_),(8,_),(21,_)] ?_
   refine cF_ ?_
   iterate 5 refine s1_ ?_
   refine ca_ rfl (c1 _) ?_
   rintro _ Sx ⟨rfl,h1⟩
   rw [h1];clear h1 Sx
   iterate 7 refine s1_ ?_
   refine su_ [(0,_),(1,_),(2,_),(3,_),(4,_),(8,_),(21,_),(9,_),(10,_)] ?_
   iterate 4 refine s1_ ?_
   refine rC (Calm.bin rfl rfl (bin_bool (bin_eql _ _) (decide_eq_false (by simp)))) ?_
   iterate 2 refine s1_ ?_
   refine su_ [(0,_),(1,_),(2,_),(3,_),(4,_),(8,_),(21,_),(9,_),(10,_),(28,_)] ?_
   refine cF_ ?_
   iterate 5 refine s1_ ?_
   refine ca_ rfl (c4 _ (hg.less less_)) ?_
   rintro _ Sx ⟨rfl,h1⟩
   rw [h1];clear h1 Sx
   iterate 3 refine s1_ ?_
   refine ARun.alloc (lit_lt rfl) ty_zero_55 ?_
   intro b16 f16
   have g16:=f16
   repeat ((with_reducible replace g16:=fresh_set g16);obtain ⟨g16,_⟩:=g16)
   refine nl_ ?_
   iterate 4 refine s1_ ?_
   refine su_ [(0,_),(1,_),(2,_),(3,_),(4,_),(8,_),(21,_),(9,_),(10,_),(28,_),(16,_),(17,_)] ?_
   iterate 4 refine s1_ ?_
   refine rC (Calm.bin rfl rfl (bin_bool (bin_neq _ _) (bnot_dec_true q2))) ?_
   iterate 2 refine s1_ ?_
   refine su_ [(0,_),(1,_),(2,_),(3,_),(4,_),(8,_),(21,_),(9,_),(10,_),(28,_),(16,_),(17,_),(83,_)] ?_
   refine cT_ ?_
   iterate 4 refine s1_ ?_
   refine rC (Calm.bin rfl rfl (bin_bool (bin_eql_mf M0 M0) (decide_eq_true rfl))) ?_
   iterate 3 refine s1_ ?_
   refine su_ [(0,_),(1,_),(2,_),(3,_),(4,_),(8,_),(21,_),(9,_),(10,_),(28,_),(16,_),(17,_),(83,_)] ?_
   iterate 2 refine s1_ ?_
   refine ⟨_,_,⟨_,_,rfl,rfl,rfl⟩,less_,?_⟩
   rfl
 simp only [ne_eq,Decidable.not_not] at q1
 subst q1
 rw [if_neg (by simp)] at c1
 have c2:=c2 rfl
 have x64:=x64 rfl
 have c3:=c3 rfl
 by_cases q3:at_<0
 ·clear c3
  unfold mfV at c2 ⊢
  by_cases q2:e2=0
  ·subst q2
   have c5:=c5 rfl
   rw [hback rfl] at c5
   unfold mfV at c5 c4
   clear herr hback hfit
   refine ACall.enter (rs:=[.tmp 8]) 99 [(0,.agg #[.int .u64 (m.seq:Int),.int .u8 (m.phase:Int),.int .u64 (m.count:Int),.int .u64 (m.prim:Int),.int .u32 (m.sum:Int),.string m.frm,.string m.too]),(1,.string s),(2,.int .i64 at_),(3,.int .u8 (nb dv))] Tryz.func8 rfl rfl (Nat.le_of_ble_eq_true rfl) rfl ⟨rfl,rfl,rfl,rfl,trivial⟩ ?_
   iterate 2 refine s1_ ?_
   refine k_b7 rfl ?_
   intro b4 f4
   have g4:=f4
   repeat ((with_reducible replace g4:=fresh_set g4);obtain ⟨g4,_⟩:=g4)
   refine nl_ ?_
   iterate 6 refine s1_ ?_
   refine ca_ rfl (slo_lives _ (hg.less less_)) ?_
   rintro _ Sx ⟨rfl,h1⟩
   rw [h1];clear h1 Sx
   iterate 3 refine s1_ ?_
   refine su_ [(0,_),(1,_),(2,_),(3,_),(4,_),(8,_),(21,_)] ?_
   refine cF_ ?_
   iterate 5 refine s1_ ?_
   refine ca_ rfl (c1 _) ?_
   rintro _ Sx ⟨rfl,h1⟩
   rw [h1];clear h1 Sx
   iterate 7 refine s1_ ?_
   refine su_ [(0,_),(1,_),(2,_),(3,_),(4,_),(8,_),(21,_),(9,_),(10,_)] ?_
   iterate 7 refine s1_ ?_
   refine su_ [(0,_),(1,_),(2,_),(3,_),(4,_),(8,_),(21,_),(9,_),(10,_),(28,_)] ?_
   refine cT_ ?_
   iterate 3 refine s1_ ?_
   refine ca_ rfl (c2 _ (hg.less less_)) ?_
   rintro _ Sx ⟨rfl,h1⟩
   rw [h1];clear h1 Sx
   iterate 3 refine s1_ ?_
   refine ARun.alloc (lit_lt rfl) ty_zero_55 ?_
   intro b11 f11
   have g11:=f11
   repeat ((with_reducible replace g11:=fresh_set g11);obtain ⟨g11,_⟩:=g11)
   refine nl_ ?_
   iterate 4 refine s1_ ?_
   refine su_ [(0,_),(1,_),(2,_),(3,_),(4,_),(8,_),(21,_),(9,_),(10,_),(28,_),(11,_),(12,_)] ?_
   iterate 8 refine s1_ ?_
   first|refine k_q 36 ?_|refine rG 36 (Calm.bin rfl rfl (bin_neq_mf m)) ?_
   iterate 4 refine s1_ ?_
   first|refine k_q 41 ?_|refine rG 41 (Calm.bin rfl rfl (bin_bool (bin_neq _ _) (bnot_dec_false (by rw [x64];rfl)))) ?_
   iterate 3 refine s1_ ?_
   refine su_ [(0,_),(1,_),(2,_),(3,_),(4,_),(8,_),(21,_),(9,_),(10,_),(28,_),(11,_),(12,_),(45,_)] ?_
   refine cF_ ?_
   iterate 5 refine s1_ ?_
   refine rC (Calm.bin rfl rfl (bin_bool (bin_geq _ _) (decide_eq_false (by omega)))) ?_
   iterate 10 refine s1_ ?_
   refine su_ [(0,_),(1,_),(2,_),(3,_),(4,_),(8,_),(21,_),(9,_),(10,_),(28,_),(11,_),(12,_),(45,_),(55,_)] ?_
   refine cF_ ?_
   iterate 5 refine s1_ ?_
   refine ca_ rfl (c4 _ (hg.less less_)) ?_
   rintro _ Sx ⟨rfl,h1⟩
   rw [h1];clear h1 Sx
   iterate 3 refine s1_ ?_
   refine ARun.alloc (lit_lt rfl) ty_zero_55 ?_
   intro b16 f16
   have g16:=f16
   repeat ((with_reducible replace g16:=fresh_set g16);obtain ⟨g16,_⟩:=g16)
   refine nl_ ?_
   iterate 4 refine s1_ ?_
   refine su_ [(0,_),(1,_),(2,_),(3,_),(4,_),(8,_),(21,_),(9,_),(10,_),(28,_),(11,_),(12,_),(45,_),(55,_),(16,_),(17,_)] ?_
   iterate 7 refine s1_ ?_
   refine su_ [(0,_),(1,_),(2,_),(3,_),(4,_),(8,_),(21,_),(9,_),(10,_),(28,_),(11,_),(12,_),(45,_),(55,_),(16,_),(17,_),(83,_)] ?_
   refine cF_ ?_
   iterate 5 refine s1_ ?_
   refine ca_ rfl (c5 _) ?_
   rintro _ Sx ⟨rfl,h1⟩
   rw [h1];clear h1 Sx
   iterate 7 refine s1_ ?_
   refine su_ [(0,_),(1,_),(2,_),(3,_),(4,_),(8,_),(21,_),(9,_),(10,_),(28,_),(11,_),(12,_),(45,_),(55,_),(16,_),(17,_),(83,_),(18,_),(19,_)] ?_
   iterate 7 refine s1_ ?_
   first|refine k_q 94 ?_|refine rG 94 (Calm.bin rfl rfl (bin_bool (bin_str_eql _ _) (decide_eq_true rfl))) ?_
   iterate 4 refine s1_ ?_
   refine su_ [(0,_),(1,_),(2,_),(3,_),(4,_),(8,_),(21,_),(9,_),(10,_),(28,_),(11,_),(12,_),(45,_),(55,_),(16,_),(17,_),(83,_),(18,_),(19,_)] ?_
   refine s1_ ?_
   refine ⟨_,_,⟨_,_,rfl,rfl,rfl⟩,less_,?_⟩
   rfl
  ·have h0:=herr q2
   subst h0
   unfold mfV M0 at c4
   clear c5 herr hback hfit
   refine ACall.enter (rs:=[.tmp 8]) 99 [(0,.agg #[.int .u64 (m.seq:Int),.int .u8 (m.phase:Int),.int .u64 (m.count:Int),.int .u64 (m.prim:Int),.int .u32 (m.sum:Int),.string m.frm,.string m.too]),(1,.string s),(2,.int .i64 at_),(3,.int .u8 (nb dv))] Tryz.func8 rfl rfl (Nat.le_of_ble_eq_true rfl) rfl ⟨rfl,rfl,rfl,rfl,trivial⟩ ?_
   iterate 2 refine s1_ ?_
   refine k_b7 rfl ?_
   intro b4 f4
   have g4:=f4
   repeat ((with_reducible replace g4:=fresh_set g4);obtain ⟨g4,_⟩:=g4)
   refine nl_ ?_
   iterate 6 refine s1_ ?_
   refine ca_ rfl (slo_lives _ (hg.less less_)) ?_
   rintro _ Sx ⟨rfl,h1⟩
   rw [h1];clear h1 Sx
   iterate 3 refine s1_ ?_
   refine su_ [(0,_),(1,_),(2,_),(3,_),(4,_),(8,_),(21,_)] ?_
   refine cF_ ?_
   iterate 5 refine s1_ ?_
   refine ca_ rfl (c1 _) ?_
   rintro _ Sx ⟨rfl,h1⟩
   rw [h1];clear h1 Sx
   iterate 7 refine s1_ ?_
   refine su_ [(0,_),(1,_),(2,_),(3,_),(4,_),(8,_),(21,_),(9,_),(10,_)] ?_
   iterate 7 refine s1_ ?_
   refine su_ [(0,_),(1,_),(2,_),(3,_),(4,_),(8,_),(21,_),(9,_),(10,_),(28,_)] ?_
   refine cT_ ?_
   iterate 3 refine s1_ ?_
   refine ca_ rfl (c2 _ (hg.less less_)) ?_
   rintro _ Sx ⟨rfl,h1⟩
   rw [h1];clear h1 Sx
   iterate 3 refine s1_ ?_
   refine ARun.alloc (lit_lt rfl) ty_zero_55 ?_
   intro b11 f11
   have g11:=f11
   repeat ((with_reducible replace g11:=fresh_set g11);obtain ⟨g11,_⟩:=g11)
   refine nl_ ?_
   iterate 4 refine s1_ ?_
   refine su_ [(0,_),(1,_),(2,_),(3,_),(4,_),(8,_),(21,_),(9,_),(10,_),(28,_),(11,_),(12,_)] ?_
   iterate 8 refine s1_ ?_
   first|refine k_q 36 ?_|refine rG 36 (Calm.bin rfl rfl (bin_neq_mf m)) ?_
   iterate 4 refine s1_ ?_
   first|refine k_q 41 ?_|refine rG 41 (Calm.bin rfl rfl (bin_bool (bin_neq _ _) (bnot_dec_false (by rw [x64];rfl)))) ?_
   iterate 3 refine s1_ ?_
   refine su_ [(0,_),(1,_),(2,_),(3,_),(4,_),(8,_),(21,_),(9,_),(10,_),(28,_),(11,_),(12,_),(45,_)] ?_
   refine cF_ ?_
   iterate 5 refine s1_ ?_
   refine rC (Calm.bin rfl rfl (bin_bool (bin_geq _ _) (decide_eq_false (by omega)))) ?_
   iterate 10 refine s1_ ?_
   refine su_ [(0,_),(1,_),(2,_),(3,_),(4,_),(8,_),(21,_),(9,_),(10,_),(28,_),(11,_),(12,_),(45,_),(55,_)] ?_
   refine cF_ ?_
   iterate 5 refine s1_ ?_
   refine ca_ rfl (c4 _ (hg.less less_)) ?_
   rintro _ Sx ⟨rfl,h1⟩
   rw [h1];clear h1 Sx
   iterate 3 refine s1_ ?_
   refine ARun.alloc (lit_lt rfl) ty_zero_55 ?_
   intro b16 f16
   have g16:=f16
   repeat ((with_reducible replace g16:=fresh_set g16);obtain ⟨g16,_⟩:=g16)
   refine nl_ ?_
   iterate 4 refine s1_ ?_
   refine su_ [(0,_),(1,_),(2,_),(3,_),(4,_),(8,_),(21,_),(9,_),(10,_),(28,_),(11,_),(12,_),(45,_),(55,_),(16,_),(17,_)] ?_
   iterate 4 refine s1_ ?_
   refine rC (Calm.bin rfl rfl (bin_bool (bin_neq _ _) (bnot_dec_true q2))) ?_
   iterate 2 refine s1_ ?_
   refine su_ [(0,_),(1,_),(2,_),(3,_),(4,_),(8,_),(21,_),(9,_),(10,_),(28,_),(11,_),(12,_),(45,_),(55,_),(16,_),(17,_),(83,_)] ?_
   refine cT_ ?_
   iterate 4 refine s1_ ?_
   refine rC (Calm.bin rfl rfl (bin_bool (bin_eql_mf M0 M0) (decide_eq_true rfl))) ?_
   iterate 3 refine s1_ ?_
   refine su_ [(0,_),(1,_),(2,_),(3,_),(4,_),(8,_),(21,_),(9,_),(10,_),(28,_),(11,_),(12,_),(45,_),(55,_),(16,_),(17,_),(83,_)] ?_
   iterate 2 refine s1_ ?_
   refine ⟨_,_,⟨_,_,rfl,rfl,rfl⟩,less_,?_⟩
   rfl
 obtain ⟨k,rfl⟩:=Int.eq_ofNat_of_zero_le (show 0≤at_ by omega)
 by_cases q4:64≤k
 ·clear c3
  unfold mfV at c2 ⊢
  by_cases q2:e2=0
  ·subst q2
   have c5:=c5 rfl
   rw [hback rfl] at c5
   unfold mfV at c5 c4
   clear herr hback hfit
   refine ACall.enter (rs:=[.tmp 8]) 99 [(0,.agg #[.int .u64 (m.seq:Int),.int .u8 (m.phase:Int),.int .u64 (m.count:Int),.int .u64 (m.prim:Int),.int .u32 (m.sum:Int),.string m.frm,.string m.too]),(1,.string s),(2,.int .i64 (k:Int)),(3,.int .u8 (nb dv))] Tryz.func8 rfl rfl (Nat.le_of_ble_eq_true rfl) rfl ⟨rfl,rfl,rfl,rfl,trivial⟩ ?_
   iterate 2 refine s1_ ?_
   refine k_b7 rfl ?_
   intro b4 f4
   have g4:=f4
   repeat ((with_reducible replace g4:=fresh_set g4);obtain ⟨g4,_⟩:=g4)
   refine nl_ ?_
   iterate 6 refine s1_ ?_
   refine ca_ rfl (slo_lives _ (hg.less less_)) ?_
   rintro _ Sx ⟨rfl,h1⟩
   rw [h1];clear h1 Sx
   iterate 3 refine s1_ ?_
   refine su_ [(0,_),(1,_),(2,_),(3,_),(4,_),(8,_),(21,_)] ?_
   refine cF_ ?_
   iterate 5 refine s1_ ?_
   refine ca_ rfl (c1 _) ?_
   rintro _ Sx ⟨rfl,h1⟩
   rw [h1];clear h1 Sx
   iterate 7 refine s1_ ?_
   refine su_ [(0,_),(1,_),(2,_),(3,_),(4,_),(8,_),(21,_),(9,_),(10,_)] ?_
   iterate 7 refine s1_ ?_
   refine su_ [(0,_),(1,_),(2,_),(3,_),(4,_),(8,_),(21,_),(9,_),(10,_),(28,_)] ?_
   refine cT_ ?_
   iterate 3 refine s1_ ?_
   refine ca_ rfl (c2 _ (hg.less less_)) ?_
   rintro _ Sx ⟨rfl,h1⟩
   rw [h1];clear h1 Sx
   iterate 3 refine s1_ ?_
   refine ARun.alloc (lit_lt rfl) ty_zero_55 ?_
   intro b11 f11
   have g11:=f11
   repeat ((with_reducible replace g11:=fresh_set g11);obtain ⟨g11,_⟩:=g11)
   refine nl_ ?_
   iterate 4 refine s1_ ?_
   refine su_ [(0,_),(1,_),(2,_),(3,_),(4,_),(8,_),(21,_),(9,_),(10,_),(28,_),(11,_),(12,_)] ?_
   iterate 8 refine s1_ ?_
   first|refine k_q 36 ?_|refine rG 36 (Calm.bin rfl rfl (bin_neq_mf m)) ?_
   iterate 4 refine s1_ ?_
   first|refine k_q 41 ?_|refine rG 41 (Calm.bin rfl rfl (bin_bool (bin_neq _ _) (bnot_dec_false (by rw [x64];rfl)))) ?_
   iterate 3 refine s1_ ?_
   refine su_ [(0,_),(1,_),(2,_),(3,_),(4,_),(8,_),(21,_),(9,_),(10,_),(28,_),(11,_),(12,_),(45,_)] ?_
   refine cF_ ?_
   iterate 8 refine s1_ ?_
   first|refine k_q 48 ?_|refine rG 48 (Calm.bin rfl rfl (bin_bool (bin_lss _ _) (decide_eq_false (by omega)))) ?_
   iterate 7 refine s1_ ?_
   refine su_ [(0,_),(1,_),(2,_),(3,_),(4,_),(8,_),(21,_),(9,_),(10,_),(28,_),(11,_),(12,_),(45,_),(55,_)] ?_
   refine cF_ ?_
   iterate 5 refine s1_ ?_
   refine ca_ rfl (c4 _ (hg.less less_)) ?_
   rintro _ Sx ⟨rfl,h1⟩
   rw [h1];clear h1 Sx
   iterate 3 refine s1_ ?_
   refine ARun.alloc (lit_lt rfl) ty_zero_55 ?_
   intro b16 f16
   have g16:=f16
   repeat ((with_reducible replace g16:=fresh_set g16);obtain ⟨g16,_⟩:=g16)
   refine nl_ ?_
   iterate 4 refine s1_ ?_
   refine su_ [(0,_),(1,_),(2,_),(3,_),(4,_),(8,_),(21,_),(9,_),(10,_),(28,_),(11,_),(12,_),(45,_),(55,_),(16,_),(17,_)] ?_
   iterate 7 refine s1_ ?_
   refine su_ [(0,_),(1,_),(2,_),(3,_),(4,_),(8,_),(21,_),(9,_),(10,_),(28,_),(11,_),(12,_),(45,_),(55,_),(16,_),(17,_),(83,_)] ?_
   refine cF_ ?_
   iterate 5 refine s1_ ?_
   refine ca_ rfl (c5 _) ?_
   rintro _ Sx ⟨rfl,h1⟩
   rw [h1];clear h1 Sx
   iterate 7 refine s1_ ?_
   refine su_ [(0,_),(1,_),(2,_),(3,_),(4,_),(8,_),(21,_),(9,_),(10,_),(28,_),(11,_),(12,_),(45,_),(55,_),(16,_),(17,_),(83,_),(18,_),(19,_)] ?_
   iterate 7 refine s1_ ?_
   first|refine k_q 94 ?_|refine rG 94 (Calm.bin rfl rfl (bin_bool (bin_str_eql _ _) (decide_eq_true rfl))) ?_
   iterate 4 refine s1_ ?_
   refine su_ [(0,_),(1,_),(2,_),(3,_),(4,_),(8,_),(21,_),(9,_),(10,_),(28,_),(11,_),(12,_),(45,_),(55,_),(16,_),(17,_),(83,_),(18,_),(19,_)] ?_
   refine s1_ ?_
   refine ⟨_,_,⟨_,_,rfl,rfl,rfl⟩,less_,?_⟩
   rfl
  ·have h0:=herr q2
   subst h0
   unfold mfV M0 at c4
   clear c5 herr hback hfit
   refine ACall.enter (rs:=[.tmp 8]) 99 [(0,.agg #[.int .u64 (m.seq:Int),.int .u8 (m.phase:Int),.int .u64 (m.count:Int),.int .u64 (m.prim:Int),.int .u32 (m.sum:Int),.string m.frm,.string m.too]),(1,.string s),(2,.int .i64 (k:Int)),(3,.int .u8 (nb dv))] Tryz.func8 rfl rfl (Nat.le_of_ble_eq_true rfl) rfl ⟨rfl,rfl,rfl,rfl,trivial⟩ ?_
   iterate 2 refine s1_ ?_
   refine k_b7 rfl ?_
   intro b4 f4
   have g4:=f4
   repeat ((with_reducible replace g4:=fresh_set g4);obtain ⟨g4,_⟩:=g4)
   refine nl_ ?_
   iterate 6 refine s1_ ?_
   refine ca_ rfl (slo_lives _ (hg.less less_)) ?_
   rintro _ Sx ⟨rfl,h1⟩
   rw [h1];clear h1 Sx
   iterate 3 refine s1_ ?_
   refine su_ [(0,_),(1,_),(2,_),(3,_),(4,_),(8,_),(21,_)] ?_
   refine cF_ ?_
   iterate 5 refine s1_ ?_
   refine ca_ rfl (c1 _) ?_
   rintro _ Sx ⟨rfl,h1⟩
   rw [h1];clear h1 Sx
   iterate 7 refine s1_ ?_
   refine su_ [(0,_),(1,_),(2,_),(3,_),(4,_),(8,_),(21,_),(9,_),(10,_)] ?_
   iterate 7 refine s1_ ?_
   refine su_ [(0,_),(1,_),(2,_),(3,_),(4,_),(8,_),(21,_),(9,_),(10,_),(28,_)] ?_
   refine cT_ ?_
   iterate 3 refine s1_ ?_
   refine ca_ rfl (c2 _ (hg.less less_)) ?_
   rintro _ Sx ⟨rfl,h1⟩
   rw [h1];clear h1 Sx
   iterate 3 refine s1_ ?_
   refine ARun.alloc (lit_lt rfl) ty_zero_55 ?_
   intro b11 f11
   have g11:=f11
   repeat ((with_reducible replace g11:=fresh_set g11);obtain ⟨g11,_⟩:=g11)
   refine nl_ ?_
   iterate 4 refine s1_ ?_
   refine su_ [(0,_),(1,_),(2,_),(3,_),(4,_),(8,_),(21,_),(9,_),(10,_),(28,_),(11,_),(12,_)] ?_
   iterate 8 refine s1_ ?_
   first|refine k_q 36 ?_|refine rG 36 (Calm.bin rfl rfl (bin_neq_mf m)) ?_
   iterate 4 refine s1_ ?_
   first|refine k_q 41 ?_|refine rG 41 (Calm.bin rfl rfl (bin_bool (bin_neq _ _) (bnot_dec_false (by rw [x64];rfl)))) ?_
   iterate 3 refine s1_ ?_
   refine su_ [(0,_),(1,_),(2,_),(3,_),(4,_),(8,_),(21,_),(9,_),(10,_),(28,_),(11,_),(12,_),(45,_)] ?_
   refine cF_ ?_
   iterate 8 refine s1_ ?_
   first|refine k_q 48 ?_|refine rG 48 (Calm.bin rfl rfl (bin_bool (bin_lss _ _) (decide_eq_false (by omega)))) ?_
   iterate 7 refine s1_ ?_
   refine su_ [(0,_),(1,_),(2,_),(3,_),(4,_),(8,_),(21,_),(9,_),(10,_),(28,_),(11,_),(12,_),(45,_),(55,_)] ?_
   refine cF_ ?_
   iterate 5 refine s1_ ?_
   refine ca_ rfl (c4 _ (hg.less less_)) ?_
   rintro _ Sx ⟨rfl,h1⟩
   rw [h1];clear h1 Sx
   iterate 3 refine s1_ ?_
   refine ARun.alloc (lit_lt rfl) ty_zero_55 ?_
   intro b16 f16
   have g16:=f16
   repeat ((with_reducible replace g16:=fresh_set g16);obtain ⟨g16,_⟩:=g16)
   refine nl_ ?_
   iterate 4 refine s1_ ?_
   refine su_ [(0,_),(1,_),(2,_),(3,_),(4,_),(8,_),(21,_),(9,_),(10,_),(28,_),(11,_),(12,_),(45,_),(55,_),(16,_),(17,_)] ?_
   iterate 4 refine s1_ ?_
   refine rC (Calm.bin rfl rfl (bin_bool (bin_neq _ _) (bnot_dec_true q2))) ?_
   iterate 2 refine s1_ ?_
   refine su_ [(0,_),(1,_),(2,_),(3,_),(4,_),(8,_),(21,_),(9,_),(10,_),(28,_),(11,_),(12,_),(45,_),(55,_),(16,_),(17,_),(83,_)] ?_
   refine cT_ ?_
   iterate 4 refine s1_ ?_
   refine rC (Calm.bin rfl rfl (bin_bool (bin_eql_mf M0 M0) (decide_eq_true rfl))) ?_
   iterate 3 refine s1_ ?_
   refine su_ [(0,_),(1,_),(2,_),(3,_),(4,_),(8,_),(21,_),(9,_),(10,_),(28,_),(11,_),(12,_),(45,_),(55,_),(16,_),(17,_),(83,_)] ?_
   iterate 2 refine s1_ ?_
   refine ⟨_,_,⟨_,_,rfl,rfl,rfl⟩,less_,?_⟩
   rfl
 by_cases q5:dv=0
 ·have q6:=hdv1 q5
  clear c3
  unfold mfV at c2 ⊢
  by_cases q2:e2=0
  ·subst q2
   have c5:=c5 rfl
   rw [hback rfl] at c5
   unfold mfV at c5 c4
   clear herr hback hfit
   refine ACall.enter (rs:=[.tmp 8]) 99 [(0,.agg #[.int .u64 (m.seq:Int),.int .u8 (m.phase:Int),.int .u64 (m.count:Int),.int .u64 (m.prim:Int),.int .u32 (m.sum:Int),.string m.frm,.string m.too]),(1,.string s),(2,.int .i64 (k:Int)),(3,.int .u8 (nb dv))] Tryz.func8 rfl rfl (Nat.le_of_ble_eq_true rfl) rfl ⟨rfl,rfl,rfl,rfl,trivial⟩ ?_
   iterate 2 refine s1_ ?_
   refine k_b7 rfl ?_
   intro b4 f4
   have g4:=f4
   repeat ((with_reducible replace g4:=fresh_set g4);obtain ⟨g4,_⟩:=g4)
   refine nl_ ?_
   iterate 6 refine s1_ ?_
   refine ca_ rfl (slo_lives _ (hg.less less_)) ?_
   rintro _ Sx ⟨rfl,h1⟩
   rw [h1];clear h1 Sx
   iterate 3 refine s1_ ?_
   refine su_ [(0,_),(1,_),(2,_),(3,_),(4,_),(8,_),(21,_)] ?_
   refine cF_ ?_
   iterate 5 refine s1_ ?_
   refine ca_ rfl (c1 _) ?_
   rintro _ Sx ⟨rfl,h1⟩
   rw [h1];clear h1 Sx
   iterate 7 refine s1_ ?_
   refine su_ [(0,_),(1,_),(2,_),(3,_),(4,_),(8,_),(21,_),(9,_),(10,_)] ?_
   iterate 7 refine s1_ ?_
   refine su_ [(0,_),(1,_),(2,_),(3,_),(4,_),(8,_),(21,_),(9,_),(10,_),(28,_)] ?_
   refine cT_ ?_
   iterate 3 refine s1_ ?_
   refine ca_ rfl (c2 _ (hg.less less_)) ?_
   rintro _ Sx ⟨rfl,h1⟩
   rw [h1];clear h1 Sx
   iterate 3 refine s1_ ?_
   refine ARun.alloc (lit_lt rfl) ty_zero_55 ?_
   intro b11 f11
   have g11:=f11
   repeat ((with_reducible replace g11:=fresh_set g11);obtain ⟨g11,_⟩:=g11)
   refine nl_ ?_
   iterate 4 refine s1_ ?_
   refine su_ [(0,_),(1,_),(2,_),(3,_),(4,_),(8,_),(21,_),(9,_),(10,_),(28,_),(11,_),(12,_)] ?_
   iterate 8 refine s1_ ?_
   first|refine k_q 36 ?_|refine rG 36 (Calm.bin rfl rfl (bin_neq_mf m)) ?_
   iterate 4 refine s1_ ?_
   first|refine k_q 41 ?_|refine rG 41 (Calm.bin rfl rfl (bin_bool (bin_neq _ _) (bnot_dec_false (by rw [x64];rfl)))) ?_
   iterate 3 refine s1_ ?_
   refine su_ [(0,_),(1,_),(2,_),(3,_),(4,_),(8,_),(21,_),(9,_),(10,_),(28,_),(11,_),(12,_),(45,_)] ?_
   refine cF_ ?_
   iterate 12 refine s1_ ?_
   first|refine k_q 52 ?_|refine rG 52 (Calm.bin rfl rfl (bin_bool (bin_neq _ _) (bnot_dec_false q6))) ?_
   iterate 3 refine s1_ ?_
   refine su_ [(0,_),(1,_),(2,_),(3,_),(4,_),(8,_),(21,_),(9,_),(10,_),(28,_),(11,_),(12,_),(45,_),(55,_)] ?_
   refine cF_ ?_
   iterate 5 refine s1_ ?_
   refine ca_ rfl (c4 _ (hg.less less_)) ?_
   rintro _ Sx ⟨rfl,h1⟩
   rw [h1];clear h1 Sx
   iterate 3 refine s1_ ?_
   refine ARun.alloc (lit_lt rfl) ty_zero_55 ?_
   intro b16 f16
   have g16:=f16
   repeat ((with_reducible replace g16:=fresh_set g16);obtain ⟨g16,_⟩:=g16)
   refine nl_ ?_
   iterate 4 refine s1_ ?_
   refine su_ [(0,_),(1,_),(2,_),(3,_),(4,_),(8,_),(21,_),(9,_),(10,_),(28,_),(11,_),(12,_),(45,_),(55,_),(16,_),(17,_)] ?_
   iterate 7 refine s1_ ?_
   refine su_ [(0,_),(1,_),(2,_),(3,_),(4,_),(8,_),(21,_),(9,_),(10,_),(28,_),(11,_),(12,_),(45,_),(55,_),(16,_),(17,_),(83,_)] ?_
   refine cF_ ?_
   iterate 5 refine s1_ ?_
   refine ca_ rfl (c5 _) ?_
   rintro _ Sx ⟨rfl,h1⟩
   rw [h1];clear h1 Sx
   iterate 7 refine s1_ ?_
   refine su_ [(0,_),(1,_),(2,_),(3,_),(4,_),(8,_),(21,_),(9,_),(10,_),(28,_),(11,_),(12,_),(45,_),(55,_),(16,_),(17,_),(83,_),(18,_),(19,_)] ?_
   iterate 7 refine s1_ ?_
   first|refine k_q 94 ?_|refine rG 94 (Calm.bin rfl rfl (bin_bool (bin_str_eql _ _) (decide_eq_true rfl))) ?_
   iterate 4 refine s1_ ?_
   refine su_ [(0,_),(1,_),(2,_),(3,_),(4,_),(8,_),(21,_),(9,_),(10,_),(28,_),(11,_),(12,_),(45,_),(55,_),(16,_),(17,_),(83,_),(18,_),(19,_)] ?_
   refine s1_ ?_
   refine ⟨_,_,⟨_,_,rfl,rfl,rfl⟩,less_,?_⟩
   rfl
  ·have h0:=herr q2
   subst h0
   unfold mfV M0 at c4
   clear c5 herr hback hfit
   refine ACall.enter (rs:=[.tmp 8]) 99 [(0,.agg #[.int .u64 (m.seq:Int),.int .u8 (m.phase:Int),.int .u64 (m.count:Int),.int .u64 (m.prim:Int),.int .u32 (m.sum:Int),.string m.frm,.string m.too]),(1,.string s),(2,.int .i64 (k:Int)),(3,.int .u8 (nb dv))] Tryz.func8 rfl rfl (Nat.le_of_ble_eq_true rfl) rfl ⟨rfl,rfl,rfl,rfl,trivial⟩ ?_
   iterate 2 refine s1_ ?_
   refine k_b7 rfl ?_
   intro b4 f4
   have g4:=f4
   repeat ((with_reducible replace g4:=fresh_set g4);obtain ⟨g4,_⟩:=g4)
   refine nl_ ?_
   iterate 6 refine s1_ ?_
   refine ca_ rfl (slo_lives _ (hg.less less_)) ?_
   rintro _ Sx ⟨rfl,h1⟩
   rw [h1];clear h1 Sx
   iterate 3 refine s1_ ?_
   refine su_ [(0,_),(1,_),(2,_),(3,_),(4,_),(8,_),(21,_)] ?_
   refine cF_ ?_
   iterate 5 refine s1_ ?_
   refine ca_ rfl (c1 _) ?_
   rintro _ Sx ⟨rfl,h1⟩
   rw [h1];clear h1 Sx
   iterate 7 refine s1_ ?_
   refine su_ [(0,_),(1,_),(2,_),(3,_),(4,_),(8,_),(21,_),(9,_),(10,_)] ?_
   iterate 7 refine s1_ ?_
   refine su_ [(0,_),(1,_),(2,_),(3,_),(4,_),(8,_),(21,_),(9,_),(10,_),(28,_)] ?_
   refine cT_ ?_
   iterate 3 refine s1_ ?_
   refine ca_ rfl (c2 _ (hg.less less_)) ?_
   rintro _ Sx ⟨rfl,h1⟩
   rw [h1];clear h1 Sx
   iterate 3 refine s1_ ?_
   refine ARun.alloc (lit_lt rfl) ty_zero_55 ?_
   intro b11 f11
   have g11:=f11
   repeat ((with_reducible replace g11:=fresh_set g11);obtain ⟨g11,_⟩:=g11)
   refine nl_ ?_
   iterate 4 refine s1_ ?_
   refine su_ [(0,_),(1,_),(2,_),(3,_),(4,_),(8,_),(21,_),(9,_),(10,_),(28,_),(11,_),(12,_)] ?_
   iterate 8 refine s1_ ?_
   first|refine k_q 36 ?_|refine rG 36 (Calm.bin rfl rfl (bin_neq_mf m)) ?_
   iterate 4 refine s1_ ?_
   first|refine k_q 41 ?_|refine rG 41 (Calm.bin rfl rfl (bin_bool (bin_neq _ _) (bnot_dec_false (by rw [x64];rfl)))) ?_
   iterate 3 refine s1_ ?_
   refine su_ [(0,_),(1,_),(2,_),(3,_),(4,_),(8,_),(21,_),(9,_),(10,_),(28,_),(11,_),(12,_),(45,_)] ?_
   refine cF_ ?_
   iterate 12 refine s1_ ?_
   first|refine k_q 52 ?_|refine rG 52 (Calm.bin rfl rfl (bin_bool (bin_neq _ _) (bnot_dec_false q6))) ?_
   iterate 3 refine s1_ ?_
   refine su_ [(0,_),(1,_),(2,_),(3,_),(4,_),(8,_),(21,_),(9,_),(10,_),(28,_),(11,_),(12,_),(45,_),(55,_)] ?_
   refine cF_ ?_
   iterate 5 refine s1_ ?_
   refine ca_ rfl (c4 _ (hg.less less_)) ?_
   rintro _ Sx ⟨rfl,h1⟩
   rw [h1];clear h1 Sx
   iterate 3 refine s1_ ?_
   refine ARun.alloc (lit_lt rfl) ty_zero_55 ?_
   intro b16 f16
   have g16:=f16
   repeat ((with_reducible replace g16:=fresh_set g16);obtain ⟨g16,_⟩:=g16)
   refine nl_ ?_
   iterate 4 refine s1_ ?_
   refine su_ [(0,_),(1,_),(2,_),(3,_),(4,_),(8,_),(21,_),(9,_),(10,_),(28,_),(11,_),(12,_),(45,_),(55,_),(16,_),(17,_)] ?_
   iterate 4 refine s1_ ?_
   refine rC (Calm.bin rfl rfl (bin_bool (bin_neq _ _) (bnot_dec_true q2))) ?_
   iterate 2 refine s1_ ?_
   refine su_ [(0,_),(1,_),(2,_),(3,_),(4,_),(8,_),(21,_),(9,_),(10,_),(28,_),(11,_),(12,_),(45,_),(55,_),(16,_),(17,_),(83,_)] ?_
   refine cT_ ?_
   iterate 4 refine s1_ ?_
   refine rC (Calm.bin rfl rfl (bin_bool (bin_eql_mf M0 M0) (decide_eq_true rfl))) ?_
   iterate 3 refine s1_ ?_
   refine su_ [(0,_),(1,_),(2,_),(3,_),(4,_),(8,_),(21,_),(9,_),(10,_),(28,_),(11,_),(12,_),(45,_),(55,_),(16,_),(17,_),(83,_)] ?_
   iterate 2 refine s1_ ?_
   refine ⟨_,_,⟨_,_,rfl,rfl,rfl⟩,less_,?_⟩
   rfl
 obtain ⟨e3,he3,c3⟩:=c3 k (by omega) q5
 have q6:=hdv0 q5
 have hbk:(cellsB x.data.toList)[0+(k:Int).toNat*1]?=some (.int .u8 (nb (at8 x.data.toList k))):=by rw [show 0+(k:Int).toNat*1=k from by omega];exact byte_at (by rw [St.len_list];omega)
 unfold mfV at c2 c3 ⊢
 unfold M0 at c3
 rcases he3 with rfl | rfl
 ·by_cases q2:e2=0
  ·subst q2
   have c5:=c5 rfl
   rw [hback rfl] at c5
   unfold mfV at c5 c4
   clear herr hback hfit
   refine ACall.enter (rs:=[.tmp 8]) 99 [(0,.agg #[.int .u64 (m.seq:Int),.int .u8 (m.phase:Int),.int .u64 (m.count:Int),.int .u64 (m.prim:Int),.int .u32 (m.sum:Int),.string m.frm,.string m.too]),(1,.string s),(2,.int .i64 (k:Int)),(3,.int .u8 (nb dv))] Tryz.func8 rfl rfl (Nat.le_of_ble_eq_true rfl) rfl ⟨rfl,rfl,rfl,rfl,trivial⟩ ?_
   iterate 2 refine s1_ ?_
   refine k_b7 rfl ?_
   intro b4 f4
   have g4:=f4
   repeat ((with_reducible replace g4:=fresh_set g4);obtain ⟨g4,_⟩:=g4)
   refine nl_ ?_
   iterate 6 refine s1_ ?_
   refine ca_ rfl (slo_lives _ (hg.less less_)) ?_
   rintro _ Sx ⟨rfl,h1⟩
   rw [h1];clear h1 Sx
   iterate 3 refine s1_ ?_
   refine su_ [(0,_),(1,_),(2,_),(3,_),(4,_),(8,_),(21,_)] ?_
   refine cF_ ?_
   iterate 5 refine s1_ ?_
   refine ca_ rfl (c1 _) ?_
   rintro _ Sx ⟨rfl,h1⟩
   rw [h1];clear h1 Sx
   iterate 7 refine s1_ ?_
   refine su_ [(0,_),(1,_),(2,_),(3,_),(4,_),(8,_),(21,_),(9,_),(10,_)] ?_
   iterate 7 refine s1_ ?_
   refine su_ [(0,_),(1,_),(2,_),(3,_),(4,_),(8,_),(21,_),(9,_),(10,_),(28,_)] ?_
   refine cT_ ?_
   iterate 3 refine s1_ ?_
   refine ca_ rfl (c2 _ (hg.less less_)) ?_
   rintro _ Sx ⟨rfl,h1⟩
   rw [h1];clear h1 Sx
   iterate 3 refine s1_ ?_
   refine ARun.alloc (lit_lt rfl) ty_zero_55 ?_
   intro b11 f11
   have g11:=f11
   repeat ((with_reducible replace g11:=fresh_set g11);obtain ⟨g11,_⟩:=g11)
   refine nl_ ?_
   iterate 4 refine s1_ ?_
   refine su_ [(0,_),(1,_),(2,_),(3,_),(4,_),(8,_),(21,_),(9,_),(10,_),(28,_),(11,_),(12,_)] ?_
   iterate 8 refine s1_ ?_
   first|refine k_q 36 ?_|refine rG 36 (Calm.bin rfl rfl (bin_neq_mf m)) ?_
   iterate 4 refine s1_ ?_
   first|refine k_q 41 ?_|refine rG 41 (Calm.bin rfl rfl (bin_bool (bin_neq _ _) (bnot_dec_false (by rw [x64];rfl)))) ?_
   iterate 3 refine s1_ ?_
   refine su_ [(0,_),(1,_),(2,_),(3,_),(4,_),(8,_),(21,_),(9,_),(10,_),(28,_),(11,_),(12,_),(45,_)] ?_
   refine cF_ ?_
   iterate 12 refine s1_ ?_
   first|refine k_q 52 ?_|refine rG 52 (Calm.bin rfl rfl (bin_bool (bin_neq _ _) (bnot_dec_true q6))) ?_
   iterate 3 refine s1_ ?_
   refine su_ [(0,_),(1,_),(2,_),(3,_),(4,_),(8,_),(21,_),(9,_),(10,_),(28,_),(11,_),(12,_),(45,_),(55,_)] ?_
   refine cT_ ?_
   iterate 3 refine s1_ ?_
   refine ARun.toBytes (lit_lt rfl) ty_str_9 ty_bytes_61 rfl ?_
   intro b57 c57 f57 hc57
   have g57:=f57
   repeat ((with_reducible replace g57:=fresh_set g57);obtain ⟨g57,_⟩:=g57)
   iterate 3 refine s1_ ?_
   refine su_ [(0,_),(1,_),(2,_),(3,_),(4,_),(8,_),(21,_),(9,_),(10,_),(28,_),(11,_),(12,_),(45,_),(55,_),(13,_)] ?_
   iterate 5 refine s1_ ?_
   refine rC (Calm.load ty_plain_5 rfl (rd_own' own_ hbk)) ?_
   refine s1_ ?_
   refine rC (Calm.bin rfl rfl (bin_xorE (nb_xor _ _))) ?_
   refine s1_ ?_
   refine ARun.store1 rfl rfl ty_size_5 rfl own_ (by show 0+(k:Int).toNat*1<(cellsB x.data.toList).length;rw [show (cellsB x.data.toList).length=x.data.toList.length from by simp [cellsB],St.len_list];omega) rfl ?_
   try simp only [k_ms,k_sz,k_ss,k_za,Nat.reduceAdd]
   iterate 2 refine s1_ ?_
   refine su_ [(0,_),(1,_),(2,_),(3,_),(4,_),(8,_),(21,_),(9,_),(10,_),(28,_),(11,_),(12,_),(45,_),(55,_),(13,_)] ?_
   iterate 3 refine s1_ ?_
   refine rC (Calm.toStr ty_bytes_61 ty_str_9 rfl (l:=x.data.toList.set k (at8 x.data.toList k ^^^ dv)) (by rw [List.length_set];exact St.len_list _) (rds_ownE own_ (by rw [show (k:Int).toNat*1=k from by omega];simp [cellsB,List.map_set]))) ?_
   refine ca_ rfl (c3 _ (hg.less less_)) ?_
   rintro _ Sx ⟨rfl,h1⟩
   rw [h1];clear h1 Sx
   iterate 3 refine s1_ ?_
   refine ARun.alloc (lit_lt rfl) ty_zero_55 ?_
   intro b14 f14
   have g14:=f14
   repeat ((with_reducible replace g14:=fresh_set g14);obtain ⟨g14,_⟩:=g14)
   refine nl_ ?_
   iterate 4 refine s1_ ?_
   refine su_ [(0,_),(1,_),(2,_),(3,_),(4,_),(8,_),(21,_),(9,_),(10,_),(28,_),(11,_),(12,_),(45,_),(55,_),(13,_),(15,_)] ?_
   iterate 10 refine s1_ ?_
   refine su_ [(0,_),(1,_),(2,_),(3,_),(4,_),(8,_),(21,_),(9,_),(10,_),(28,_),(11,_),(12,_),(45,_),(55,_),(13,_),(15,_),(76,_)] ?_
   refine cF_ ?_
   iterate 5 refine s1_ ?_
   refine ca_ rfl (c4 _ (hg.less less_)) ?_
   rintro _ Sx ⟨rfl,h1⟩
   rw [h1];clear h1 Sx
   iterate 3 refine s1_ ?_
   refine ARun.alloc (lit_lt rfl) ty_zero_55 ?_
   intro b16 f16
   have g16:=f16
   repeat ((with_reducible replace g16:=fresh_set g16);obtain ⟨g16,_⟩:=g16)
   refine nl_ ?_
   iterate 4 refine s1_ ?_
   refine su_ [(0,_),(1,_),(2,_),(3,_),(4,_),(8,_),(21,_),(9,_),(10,_),(28,_),(11,_),(12,_),(45,_),(55,_),(13,_),(15,_),(76,_),(16,_),(17,_)] ?_
   iterate 7 refine s1_ ?_
   refine su_ [(0,_),(1,_),(2,_),(3,_),(4,_),(8,_),(21,_),(9,_),(10,_),(28,_),(11,_),(12,_),(45,_),(55,_),(13,_),(15,_),(76,_),(16,_),(17,_),(83,_)] ?_
   refine cF_ ?_
   iterate 5 refine s1_ ?_
   refine ca_ rfl (c5 _) ?_
   rintro _ Sx ⟨rfl,h1⟩
   rw [h1];clear h1 Sx
   iterate 7 refine s1_ ?_
   refine su_ [(0,_),(1,_),(2,_),(3,_),(4,_),(8,_),(21,_),(9,_),(10,_),(28,_),(11,_),(12,_),(45,_),(55,_),(13,_),(15,_),(76,_),(16,_),(17,_),(83,_),(18,_),(19,_)] ?_
   iterate 7 refine s1_ ?_
   first|refine k_q 94 ?_|refine rG 94 (Calm.bin rfl rfl (bin_bool (bin_str_eql _ _) (decide_eq_true rfl))) ?_
   iterate 4 refine s1_ ?_
   refine su_ [(0,_),(1,_),(2,_),(3,_),(4,_),(8,_),(21,_),(9,_),(10,_),(28,_),(11,_),(12,_),(45,_),(55,_),(13,_),(15,_),(76,_),(16,_),(17,_),(83,_),(18,_),(19,_)] ?_
   refine s1_ ?_
   refine ⟨_,_,⟨_,_,rfl,rfl,rfl⟩,less_,?_⟩
   rfl
  ·have h0:=herr q2
   subst h0
   unfold mfV M0 at c4
   clear c5 herr hback hfit
   refine ACall.enter (rs:=[.tmp 8]) 99 [(0,.agg #[.int .u64 (m.seq:Int),.int .u8 (m.phase:Int),.int .u64 (m.count:Int),.int .u64 (m.prim:Int),.int .u32 (m.sum:Int),.string m.frm,.string m.too]),(1,.string s),(2,.int .i64 (k:Int)),(3,.int .u8 (nb dv))] Tryz.func8 rfl rfl (Nat.le_of_ble_eq_true rfl) rfl ⟨rfl,rfl,rfl,rfl,trivial⟩ ?_
   iterate 2 refine s1_ ?_
   refine k_b7 rfl ?_
   intro b4 f4
   have g4:=f4
   repeat ((with_reducible replace g4:=fresh_set g4);obtain ⟨g4,_⟩:=g4)
   refine nl_ ?_
   iterate 6 refine s1_ ?_
   refine ca_ rfl (slo_lives _ (hg.less less_)) ?_
   rintro _ Sx ⟨rfl,h1⟩
   rw [h1];clear h1 Sx
   iterate 3 refine s1_ ?_
   refine su_ [(0,_),(1,_),(2,_),(3,_),(4,_),(8,_),(21,_)] ?_
   refine cF_ ?_
   iterate 5 refine s1_ ?_
   refine ca_ rfl (c1 _) ?_
   rintro _ Sx ⟨rfl,h1⟩
   rw [h1];clear h1 Sx
   iterate 7 refine s1_ ?_
   refine su_ [(0,_),(1,_),(2,_),(3,_),(4,_),(8,_),(21,_),(9,_),(10,_)] ?_
   iterate 7 refine s1_ ?_
   refine su_ [(0,_),(1,_),(2,_),(3,_),(4,_),(8,_),(21,_),(9,_),(10,_),(28,_)] ?_
   refine cT_ ?_
   iterate 3 refine s1_ ?_
   refine ca_ rfl (c2 _ (hg.less less_)) ?_
   rintro _ Sx ⟨rfl,h1⟩
   rw [h1];clear h1 Sx
   iterate 3 refine s1_ ?_
   refine ARun.alloc (lit_lt rfl) ty_zero_55 ?_
   intro b11 f11
   have g11:=f11
   repeat ((with_reducible replace g11:=fresh_set g11);obtain ⟨g11,_⟩:=g11)
   refine nl_ ?_
   iterate 4 refine s1_ ?_
   refine su_ [(0,_),(1,_),(2,_),(3,_),(4,_),(8,_),(21,_),(9,_),(10,_),(28,_),(11,_),(12,_)] ?_
   iterate 8 refine s1_ ?_
   first|refine k_q 36 ?_|refine rG 36 (Calm.bin rfl rfl (bin_neq_mf m)) ?_
   iterate 4 refine s1_ ?_
   first|refine k_q 41 ?_|refine rG 41 (Calm.bin rfl rfl (bin_bool (bin_neq _ _) (bnot_dec_false (by rw [x64];rfl)))) ?_
   iterate 3 refine s1_ ?_
   refine su_ [(0,_),(1,_),(2,_),(3,_),(4,_),(8,_),(21,_),(9,_),(10,_),(28,_),(11,_),(12,_),(45,_)] ?_
   refine cF_ ?_
   iterate 12 refine s1_ ?_
   first|refine k_q 52 ?_|refine rG 52 (Calm.bin rfl rfl (bin_bool (bin_neq _ _) (bnot_dec_true q6))) ?_
   iterate 3 refine s1_ ?_
   refine su_ [(0,_),(1,_),(2,_),(3,_),(4,_),(8,_),(21,_),(9,_),(10,_),(28,_),(11,_),(12,_),(45,_),(55,_)] ?_
   refine cT_ ?_
   iterate 3 refine s1_ ?_
   refine ARun.toBytes (lit_lt rfl) ty_str_9 ty_bytes_61 rfl ?_
   intro b57 c57 f57 hc57
   have g57:=f57
   repeat ((with_reducible replace g57:=fresh_set g57);obtain ⟨g57,_⟩:=g57)
   iterate 3 refine s1_ ?_
   refine su_ [(0,_),(1,_),(2,_),(3,_),(4,_),(8,_),(21,_),(9,_),(10,_),(28,_),(11,_),(12,_),(45,_),(55,_),(13,_)] ?_
   iterate 5 refine s1_ ?_
   refine rC (Calm.load ty_plain_5 rfl (rd_own' own_ hbk)) ?_
   refine s1_ ?_
   refine rC (Calm.bin rfl rfl (bin_xorE (nb_xor _ _))) ?_
   refine s1_ ?_
   refine ARun.store1 rfl rfl ty_size_5 rfl own_ (by show 0+(k:Int).toNat*1<(cellsB x.data.toList).length;rw [show (cellsB x.data.toList).length=x.data.toList.length from by simp [cellsB],St.len_list];omega) rfl ?_
   try simp only [k_ms,k_sz,k_ss,k_za,Nat.reduceAdd]
   iterate 2 refine s1_ ?_
   refine su_ [(0,_),(1,_),(2,_),(3,_),(4,_),(8,_),(21,_),(9,_),(10,_),(28,_),(11,_),(12,_),(45,_),(55,_),(13,_)] ?_
   iterate 3 refine s1_ ?_
   refine rC (Calm.toStr ty_bytes_61 ty_str_9 rfl (l:=x.data.toList.set k (at8 x.data.toList k ^^^ dv)) (by rw [List.length_set];exact St.len_list _) (rds_ownE own_ (by rw [show (k:Int).toNat*1=k from by omega];simp [cellsB,List.map_set]))) ?_
   refine ca_ rfl (c3 _ (hg.less less_)) ?_
   rintro _ Sx ⟨rfl,h1⟩
   rw [h1];clear h1 Sx
   iterate 3 refine s1_ ?_
   refine ARun.alloc (lit_lt rfl) ty_zero_55 ?_
   intro b14 f14
   have g14:=f14
   repeat ((with_reducible replace g14:=fresh_set g14);obtain ⟨g14,_⟩:=g14)
   refine nl_ ?_
   iterate 4 refine s1_ ?_
   refine su_ [(0,_),(1,_),(2,_),(3,_),(4,_),(8,_),(21,_),(9,_),(10,_),(28,_),(11,_),(12,_),(45,_),(55,_),(13,_),(15,_)] ?_
   iterate 10 refine s1_ ?_
   refine su_ [(0,_),(1,_),(2,_),(3,_),(4,_),(8,_),(21,_),(9,_),(10,_),(28,_),(11,_),(12,_),(45,_),(55,_),(13,_),(15,_),(76,_)] ?_
   refine cF_ ?_
   iterate 5 refine s1_ ?_
   refine ca_ rfl (c4 _ (hg.less less_)) ?_
   rintro _ Sx ⟨rfl,h1⟩
   rw [h1];clear h1 Sx
   iterate 3 refine s1_ ?_
   refine ARun.alloc (lit_lt rfl) ty_zero_55 ?_
   intro b16 f16
   have g16:=f16
   repeat ((with_reducible replace g16:=fresh_set g16);obtain ⟨g16,_⟩:=g16)
   refine nl_ ?_
   iterate 4 refine s1_ ?_
   refine su_ [(0,_),(1,_),(2,_),(3,_),(4,_),(8,_),(21,_),(9,_),(10,_),(28,_),(11,_),(12,_),(45,_),(55,_),(13,_),(15,_),(76,_),(16,_),(17,_)] ?_
   iterate 4 refine s1_ ?_
   refine rC (Calm.bin rfl rfl (bin_bool (bin_neq _ _) (bnot_dec_true q2))) ?_
   iterate 2 refine s1_ ?_
   refine su_ [(0,_),(1,_),(2,_),(3,_),(4,_),(8,_),(21,_),(9,_),(10,_),(28,_),(11,_),(12,_),(45,_),(55,_),(13,_),(15,_),(76,_),(16,_),(17,_),(83,_)] ?_
   refine cT_ ?_
   iterate 4 refine s1_ ?_
   refine rC (Calm.bin rfl rfl (bin_bool (bin_eql_mf M0 M0) (decide_eq_true rfl))) ?_
   iterate 3 refine s1_ ?_
   refine su_ [(0,_),(1,_),(2,_),(3,_),(4,_),(8,_),(21,_),(9,_),(10,_),(28,_),(11,_),(12,_),(45,_),(55,_),(13,_),(15,_),(76,_),(16,_),(17,_),(83,_)] ?_
   iterate 2 refine s1_ ?_
   refine ⟨_,_,⟨_,_,rfl,rfl,rfl⟩,less_,?_⟩
   rfl
 ·by_cases q2:e2=0
  ·subst q2
   have c5:=c5 rfl
   rw [hback rfl] at c5
   unfold mfV at c5 c4
   clear herr hback hfit
   refine ACall.enter (rs:=[.tmp 8]) 99 [(0,.agg #[.int .u64 (m.seq:Int),.int .u8 (m.phase:Int),.int .u64 (m.count:Int),.int .u64 (m.prim:Int),.int .u32 (m.sum:Int),.string m.frm,.string m.too]),(1,.string s),(2,.int .i64 (k:Int)),(3,.int .u8 (nb dv))] Tryz.func8 rfl rfl (Nat.le_of_ble_eq_true rfl) rfl ⟨rfl,rfl,rfl,rfl,trivial⟩ ?_
   iterate 2 refine s1_ ?_
   refine k_b7 rfl ?_
   intro b4 f4
   have g4:=f4
   repeat ((with_reducible replace g4:=fresh_set g4);obtain ⟨g4,_⟩:=g4)
   refine nl_ ?_
   iterate 6 refine s1_ ?_
   refine ca_ rfl (slo_lives _ (hg.less less_)) ?_
   rintro _ Sx ⟨rfl,h1⟩
   rw [h1];clear h1 Sx
   iterate 3 refine s1_ ?_
   refine su_ [(0,_),(1,_),(2,_),(3,_),(4,_),(8,_),(21,_)] ?_
   refine cF_ ?_
   iterate 5 refine s1_ ?_
   refine ca_ rfl (c1 _) ?_
   rintro _ Sx ⟨rfl,h1⟩
   rw [h1];clear h1 Sx
   iterate 7 refine s1_ ?_
   refine su_ [(0,_),(1,_),(2,_),(3,_),(4,_),(8,_),(21,_),(9,_),(10,_)] ?_
   iterate 7 refine s1_ ?_
   refine su_ [(0,_),(1,_),(2,_),(3,_),(4,_),(8,_),(21,_),(9,_),(10,_),(28,_)] ?_
   refine cT_ ?_
   iterate 3 refine s1_ ?_
   refine ca_ rfl (c2 _ (hg.less less_)) ?_
   rintro _ Sx ⟨rfl,h1⟩
   rw [h1];clear h1 Sx
   iterate 3 refine s1_ ?_
   refine ARun.alloc (lit_lt rfl) ty_zero_55 ?_
   intro b11 f11
   have g11:=f11
   repeat ((with_reducible replace g11:=fresh_set g11);obtain ⟨g11,_⟩:=g11)
   refine nl_ ?_
   iterate 4 refine s1_ ?_
   refine su_ [(0,_),(1,_),(2,_),(3,_),(4,_),(8,_),(21,_),(9,_),(10,_),(28,_),(11,_),(12,_)] ?_
   iterate 8 refine s1_ ?_
   first|refine k_q 36 ?_|refine rG 36 (Calm.bin rfl rfl (bin_neq_mf m)) ?_
   iterate 4 refine s1_ ?_
   first|refine k_q 41 ?_|refine rG 41 (Calm.bin rfl rfl (bin_bool (bin_neq _ _) (bnot_dec_false (by rw [x64];rfl)))) ?_
   iterate 3 refine s1_ ?_
   refine su_ [(0,_),(1,_),(2,_),(3,_),(4,_),(8,_),(21,_),(9,_),(10,_),(28,_),(11,_),(12,_),(45,_)] ?_
   refine cF_ ?_
   iterate 12 refine s1_ ?_
   first|refine k_q 52 ?_|refine rG 52 (Calm.bin rfl rfl (bin_bool (bin_neq _ _) (bnot_dec_true q6))) ?_
   iterate 3 refine s1_ ?_
   refine su_ [(0,_),(1,_),(2,_),(3,_),(4,_),(8,_),(21,_),(9,_),(10,_),(28,_),(11,_),(12,_),(45,_),(55,_)] ?_
   refine cT_ ?_
   iterate 3 refine s1_ ?_
   refine ARun.toBytes (lit_lt rfl) ty_str_9 ty_bytes_61 rfl ?_
   intro b57 c57 f57 hc57
   have g57:=f57
   repeat ((with_reducible replace g57:=fresh_set g57);obtain ⟨g57,_⟩:=g57)
   iterate 3 refine s1_ ?_
   refine su_ [(0,_),(1,_),(2,_),(3,_),(4,_),(8,_),(21,_),(9,_),(10,_),(28,_),(11,_),(12,_),(45,_),(55,_),(13,_)] ?_
   iterate 5 refine s1_ ?_
   refine rC (Calm.load ty_plain_5 rfl (rd_own' own_ hbk)) ?_
   refine s1_ ?_
   refine rC (Calm.bin rfl rfl (bin_xorE (nb_xor _ _))) ?_
   refine s1_ ?_
   refine ARun.store1 rfl rfl ty_size_5 rfl own_ (by show 0+(k:Int).toNat*1<(cellsB x.data.toList).length;rw [show (cellsB x.data.toList).length=x.data.toList.length from by simp [cellsB],St.len_list];omega) rfl ?_
   try simp only [k_ms,k_sz,k_ss,k_za,Nat.reduceAdd]
   iterate 2 refine s1_ ?_
   refine su_ [(0,_),(1,_),(2,_),(3,_),(4,_),(8,_),(21,_),(9,_),(10,_),(28,_),(11,_),(12,_),(45,_),(55,_),(13,_)] ?_
   iterate 3 refine s1_ ?_
   refine rC (Calm.toStr ty_bytes_61 ty_str_9 rfl (l:=x.data.toList.set k (at8 x.data.toList k ^^^ dv)) (by rw [List.length_set];exact St.len_list _) (rds_ownE own_ (by rw [show (k:Int).toNat*1=k from by omega];simp [cellsB,List.map_set]))) ?_
   refine ca_ rfl (c3 _ (hg.less less_)) ?_
   rintro _ Sx ⟨rfl,h1⟩
   rw [h1];clear h1 Sx
   iterate 3 refine s1_ ?_
   refine ARun.alloc (lit_lt rfl) ty_zero_55 ?_
   intro b14 f14
   have g14:=f14
   repeat ((with_reducible replace g14:=fresh_set g14);obtain ⟨g14,_⟩:=g14)
   refine nl_ ?_
   iterate 4 refine s1_ ?_
   refine su_ [(0,_),(1,_),(2,_),(3,_),(4,_),(8,_),(21,_),(9,_),(10,_),(28,_),(11,_),(12,_),(45,_),(55,_),(13,_),(15,_)] ?_
   iterate 10 refine s1_ ?_
   refine su_ [(0,_),(1,_),(2,_),(3,_),(4,_),(8,_),(21,_),(9,_),(10,_),(28,_),(11,_),(12,_),(45,_),(55,_),(13,_),(15,_),(76,_)] ?_
   refine cF_ ?_
   iterate 5 refine s1_ ?_
   refine ca_ rfl (c4 _ (hg.less less_)) ?_
   rintro _ Sx ⟨rfl,h1⟩
   rw [h1];clear h1 Sx
   iterate 3 refine s1_ ?_
   refine ARun.alloc (lit_lt rfl) ty_zero_55 ?_
   intro b16 f16
   have g16:=f16
   repeat ((with_reducible replace g16:=fresh_set g16);obtain ⟨g16,_⟩:=g16)
   refine nl_ ?_
   iterate 4 refine s1_ ?_
   refine su_ [(0,_),(1,_),(2,_),(3,_),(4,_),(8,_),(21,_),(9,_),(10,_),(28,_),(11,_),(12,_),(45,_),(55,_),(13,_),(15,_),(76,_),(16,_),(17,_)] ?_
   iterate 7 refine s1_ ?_
   refine su_ [(0,_),(1,_),(2,_),(3,_),(4,_),(8,_),(21,_),(9,_),(10,_),(28,_),(11,_),(12,_),(45,_),(55,_),(13,_),(15,_),(76,_),(16,_),(17,_),(83,_)] ?_
   refine cF_ ?_
   iterate 5 refine s1_ ?_
   refine ca_ rfl (c5 _) ?_
   rintro _ Sx ⟨rfl,h1⟩
   rw [h1];clear h1 Sx
   iterate 7 refine s1_ ?_
   refine su_ [(0,_),(1,_),(2,_),(3,_),(4,_),(8,_),(21,_),(9,_),(10,_),(28,_),(11,_),(12,_),(45,_),(55,_),(13,_),(15,_),(76,_),(16,_),(17,_),(83,_),(18,_),(19,_)] ?_
   iterate 7 refine s1_ ?_
   first|refine k_q 94 ?_|refine rG 94 (Calm.bin rfl rfl (bin_bool (bin_str_eql _ _) (decide_eq_true rfl))) ?_
   iterate 4 refine s1_ ?_
   refine su_ [(0,_),(1,_),(2,_),(3,_),(4,_),(8,_),(21,_),(9,_),(10,_),(28,_),(11,_),(12,_),(45,_),(55,_),(13,_),(15,_),(76,_),(16,_),(17,_),(83,_),(18,_),(19,_)] ?_
   refine s1_ ?_
   refine ⟨_,_,⟨_,_,rfl,rfl,rfl⟩,less_,?_⟩
   rfl
  ·have h0:=herr q2
   subst h0
   unfold mfV M0 at c4
   clear c5 herr hback hfit
   refine ACall.enter (rs:=[.tmp 8]) 99 [(0,.agg #[.int .u64 (m.seq:Int),.int .u8 (m.phase:Int),.int .u64 (m.count:Int),.int .u64 (m.prim:Int),.int .u32 (m.sum:Int),.string m.frm,.string m.too]),(1,.string s),(2,.int .i64 (k:Int)),(3,.int .u8 (nb dv))] Tryz.func8 rfl rfl (Nat.le_of_ble_eq_true rfl) rfl ⟨rfl,rfl,rfl,rfl,trivial⟩ ?_
   iterate 2 refine s1_ ?_
   refine k_b7 rfl ?_
   intro b4 f4
   have g4:=f4
   repeat ((with_reducible replace g4:=fresh_set g4);obtain ⟨g4,_⟩:=g4)
   refine nl_ ?_
   iterate 6 refine s1_ ?_
   refine ca_ rfl (slo_lives _ (hg.less less_)) ?_
   rintro _ Sx ⟨rfl,h1⟩
   rw [h1];clear h1 Sx
   iterate 3 refine s1_ ?_
   refine su_ [(0,_),(1,_),(2,_),(3,_),(4,_),(8,_),(21,_)] ?_
   refine cF_ ?_
   iterate 5 refine s1_ ?_
   refine ca_ rfl (c1 _) ?_
   rintro _ Sx ⟨rfl,h1⟩
   rw [h1];clear h1 Sx
   iterate 7 refine s1_ ?_
   refine su_ [(0,_),(1,_),(2,_),(3,_),(4,_),(8,_),(21,_),(9,_),(10,_)] ?_
   iterate 7 refine s1_ ?_
   refine su_ [(0,_),(1,_),(2,_),(3,_),(4,_),(8,_),(21,_),(9,_),(10,_),(28,_)] ?_
   refine cT_ ?_
   iterate 3 refine s1_ ?_
   refine ca_ rfl (c2 _ (hg.less less_)) ?_
   rintro _ Sx ⟨rfl,h1⟩
   rw [h1];clear h1 Sx
   iterate 3 refine s1_ ?_
   refine ARun.alloc (lit_lt rfl) ty_zero_55 ?_
   intro b11 f11
   have g11:=f11
   repeat ((with_reducible replace g11:=fresh_set g11);obtain ⟨g11,_⟩:=g11)
   refine nl_ ?_
   iterate 4 refine s1_ ?_
   refine su_ [(0,_),(1,_),(2,_),(3,_),(4,_),(8,_),(21,_),(9,_),(10,_),(28,_),(11,_),(12,_)] ?_
   iterate 8 refine s1_ ?_
   first|refine k_q 36 ?_|refine rG 36 (Calm.bin rfl rfl (bin_neq_mf m)) ?_
   iterate 4 refine s1_ ?_
   first|refine k_q 41 ?_|refine rG 41 (Calm.bin rfl rfl (bin_bool (bin_neq _ _) (bnot_dec_false (by rw [x64];rfl)))) ?_
   iterate 3 refine s1_ ?_
   refine su_ [(0,_),(1,_),(2,_),(3,_),(4,_),(8,_),(21,_),(9,_),(10,_),(28,_),(11,_),(12,_),(45,_)] ?_
   refine cF_ ?_
   iterate 12 refine s1_ ?_
   first|refine k_q 52 ?_|refine rG 52 (Calm.bin rfl rfl (bin_bool (bin_neq _ _) (bnot_dec_true q6))) ?_
   iterate 3 refine s1_ ?_
   refine su_ [(0,_),(1,_),(2,_),(3,_),(4,_),(8,_),(21,_),(9,_),(10,_),(28,_),(11,_),(12,_),(45,_),(55,_)] ?_
   refine cT_ ?_
   iterate 3 refine s1_ ?_
   refine ARun.toBytes (lit_lt rfl) ty_str_9 ty_bytes_61 rfl ?_
   intro b57 c57 f57 hc57
   have g57:=f57
   repeat ((with_reducible replace g57:=fresh_set g57);obtain ⟨g57,_⟩:=g57)
   iterate 3 refine s1_ ?_
   refine su_ [(0,_),(1,_),(2,_),(3,_),(4,_),(8,_),(21,_),(9,_),(10,_),(28,_),(11,_),(12,_),(45,_),(55,_),(13,_)] ?_
   iterate 5 refine s1_ ?_
   refine rC (Calm.load ty_plain_5 rfl (rd_own' own_ hbk)) ?_
   refine s1_ ?_
   refine rC (Calm.bin rfl rfl (bin_xorE (nb_xor _ _))) ?_
   refine s1_ ?_
   refine ARun.store1 rfl rfl ty_size_5 rfl own_ (by show 0+(k:Int).toNat*1<(cellsB x.data.toList).length;rw [show (cellsB x.data.toList).length=x.data.toList.length from by simp [cellsB],St.len_list];omega) rfl ?_
   try simp only [k_ms,k_sz,k_ss,k_za,Nat.reduceAdd]
   iterate 2 refine s1_ ?_
   refine su_ [(0,_),(1,_),(2,_),(3,_),(4,_),(8,_),(21,_),(9,_),(10,_),(28,_),(11,_),(12,_),(45,_),(55,_),(13,_)] ?_
   iterate 3 refine s1_ ?_
   refine rC (Calm.toStr ty_bytes_61 ty_str_9 rfl (l:=x.data.toList.set k (at8 x.data.toList k ^^^ dv)) (by rw [List.length_set];exact St.len_list _) (rds_ownE own_ (by rw [show (k:Int).toNat*1=k from by omega];simp [cellsB,List.map_set]))) ?_
   refine ca_ rfl (c3 _ (hg.less less_)) ?_
   rintro _ Sx ⟨rfl,h1⟩
   rw [h1];clear h1 Sx
   iterate 3 refine s1_ ?_
   refine ARun.alloc (lit_lt rfl) ty_zero_55 ?_
   intro b14 f14
   have g14:=f14
   repeat ((with_reducible replace g14:=fresh_set g14);obtain ⟨g14,_⟩:=g14)
   refine nl_ ?_
   iterate 4 refine s1_ ?_
   refine su_ [(0,_),(1,_),(2,_),(3,_),(4,_),(8,_),(21,_),(9,_),(10,_),(28,_),(11,_),(12,_),(45,_),(55,_),(13,_),(15,_)] ?_
   iterate 10 refine s1_ ?_
   refine su_ [(0,_),(1,_),(2,_),(3,_),(4,_),(8,_),(21,_),(9,_),(10,_),(28,_),(11,_),(12,_),(45,_),(55,_),(13,_),(15,_),(76,_)] ?_
   refine cF_ ?_
   iterate 5 refine s1_ ?_
   refine ca_ rfl (c4 _ (hg.less less_)) ?_
   rintro _ Sx ⟨rfl,h1⟩
   rw [h1];clear h1 Sx
   iterate 3 refine s1_ ?_
   refine ARun.alloc (lit_lt rfl) ty_zero_55 ?_
   intro b16 f16
   have g16:=f16
   repeat ((with_reducible replace g16:=fresh_set g16);obtain ⟨g16,_⟩:=g16)
   refine nl_ ?_
   iterate 4 refine s1_ ?_
   refine su_ [(0,_),(1,_),(2,_),(3,_),(4,_),(8,_),(21,_),(9,_),(10,_),(28,_),(11,_),(12,_),(45,_),(55,_),(13,_),(15,_),(76,_),(16,_),(17,_)] ?_
   iterate 4 refine s1_ ?_
   refine rC (Calm.bin rfl rfl (bin_bool (bin_neq _ _) (bnot_dec_true q2))) ?_
   iterate 2 refine s1_ ?_
   refine su_ [(0,_),(1,_),(2,_),(3,_),(4,_),(8,_),(21,_),(9,_),(10,_),(28,_),(11,_),(12,_),(45,_),(55,_),(13,_),(15,_),(76,_),(16,_),(17,_),(83,_)] ?_
   refine cT_ ?_
   iterate 4 refine s1_ ?_
   refine rC (Calm.bin rfl rfl (bin_bool (bin_eql_mf M0 M0) (decide_eq_true rfl))) ?_
   iterate 3 refine s1_ ?_
   refine su_ [(0,_),(1,_),(2,_),(3,_),(4,_),(8,_),(21,_),(9,_),(10,_),(28,_),(11,_),(12,_),(45,_),(55,_),(13,_),(15,_),(76,_),(16,_),(17,_),(83,_)] ?_
   iterate 2 refine s1_ ?_
   refine ⟨_,_,⟨_,_,rfl,rfl,rfl⟩,less_,?_⟩
   rfl
end Slo
theorem walk_SlotsBack (cs : List Value) (m : Slo.Mf) (s : ByteArray) (a : Int) (b : Int) (W : World) (w0 : Slo.MfV (roM W) cs m) (w1 : s.size ≤ maxLen) (z1 : s.size < 140737488355328) (w2 : (Lit.int .i64 a).wf = true) (w3 : (Lit.int .u8 b).wf = true) (hg : Slo.ErrT (roM W)) :
  Calls Tryz.prog 8 #[.agg cs.toArray,.string s,.int .i64 a,.int .u8 b] W fun e w'=>e = .returned (.bool true)∧Below W.heap.size W w':=by
 obtain ⟨rfl,hm,hf,ht⟩:=w0
 obtain ⟨n,rfl,hn⟩:=Slo.wf_nat w3 rfl
 have m8:IntKind.u8.max=255:=rfl
 have e:((n:Nat):Int)=nb (UInt8.ofNat n):=by unfold nb;rw [UInt8.toNat_ofNat'];omega
 rw [e]
 exact ACall.callsW (Slo.law_SlotsBack m s a _ _ hg hm hf ht (by omega) (wfi w2))
end Go.Proofs.YtceikpipmcadmaaGreatDoor
namespace Go.Proofs.YtceikpipmcadmaaGreatDoor
open Go.RowKit
open Mv Disk Num
set_option maxRecDepth 4000
namespace Slo
theorem bin_val {P : Program} {op : BinOp} {t : TypeId} {x y : Operand} {vx vy : Value} {k : IntKind} {a b : Int} (h : Bin P op t x y vx vy (.int k a)) (e : a = b) : Bin P op t x y vx vy (.int k b) := e ▸ h
set_option maxHeartbeats 8000000 in
theorem law_SlotsSafe (v vk : Value) (d : D) (s : ByteArray) (m : Mf) (f : Int) (kl : List Bool) (S : Mem) (hg : ErrT S) (hd : DkR S v d) (hz : Dz d) (hm : Fit m) (hf : m.frm.size ≤ 9223372036854775807) (ht : m.too.size ≤ 9223372036854775807) (hf2 : f ≤ 9223372036854775807) (hk : Sl 1 bools S vk kl) :
  ACall Tryz.prog 9 #[v,.string s,mfV m,.int .i64 f,vk] S fun r S'=>r = .bool true:=by
 have c0:=fun v S h=>disk_Sync v d S h hz
 obtain ⟨pe,ce,pw,cw,rfl,hE,hW⟩:=id hd
 obtain ⟨pk,ck,rfl,hk1,hk2,hk3⟩:=id hk
 unfold mfV
 by_cases q:(opened d (syncD d)).2=0
 ·have hop:Right d∧d.down=false∧opened d (syncD d)=(settleD d (fun _=>true),0):=by
   unfold opened at q ⊢
   rcases openD_or d with ⟨ho,hR'⟩ | ⟨ho,hR,hdn⟩ | ⟨ho,hR,hdn⟩ <;> rw [ho] at q ⊢
   ·simp at q
   ·simp at q
   ·exact ⟨hR,hdn,if_pos rfl⟩
  obtain ⟨hR,hdn,hop⟩:=hop
  rw [hop] at c0
  have hR1:=right_settle hR (fun _=>true)
  have hw1:(settleD d (fun _=>true)).waits = []:=rfl
  have hdn1:(settleD d (fun _=>true)).down=false:=hdn
  have hf1:(settleD d (fun _=>true)).fuse≤9223372036854775807:=hz.f1
  generalize settleD d (fun _=>true)=d1 at *
  clear q hop
  have hz1:=dz_right hR1 hf1
  have c1:=fun v S h hg=>slo_Load v d1 s S h hz1 hg
  unfold mfE mfV at c1
  have hlp:loadP d1 s=loadW d1 s:=by unfold loadP;rw [open_ok hR1 hdn1,if_neg (by simp)]
  rw [hlp] at c1
  have hbr:=load_right (d:=d1) (s:=s)
  by_cases qn:(loadW d1 s).2=0
  ·by_cases q2:f < -1
   ·generalize loadW d1 s=u at *
    refine ACall.enter (rs:=[.tmp 10]) 101 [(0,.agg #[.int .i64 d.size,.slice pe d.ext.length ce,.slice pw d.waits.length cw,.int .i64 d.fuse,.bool d.down]),(1,.string s),(2,.agg #[.int .u64 (m.seq:Int),.int .u8 (m.phase:Int),.int .u64 (m.count:Int),.int .u64 (m.prim:Int),.int .u32 (m.sum:Int),.string m.frm,.string m.too]),(3,.int .i64 f),(4,.slice pk kl.length ck)] Tryz.func9 rfl rfl (Nat.le_of_ble_eq_true rfl) rfl ⟨rfl,rfl,rfl,rfl,rfl,trivial⟩ ?_
    iterate 2 refine s1_ ?_
    refine k_b5 rfl ?_
    intro b5 f5
    have g5:=f5
    repeat ((with_reducible replace g5:=fresh_set g5);obtain ⟨g5,_⟩:=g5)
    refine nl_ ?_
    refine k_b7 rfl ?_
    intro b7 f7
    have g7:=f7
    repeat ((with_reducible replace g7:=fresh_set g7);obtain ⟨g7,_⟩:=g7)
    refine nl_ ?_
    iterate 6 refine s1_ ?_
    refine ca_ rfl (slo_lives _ (hg.less less_)) ?_
    rintro _ Sx ⟨rfl,h1⟩
    rw [h1];clear h1 Sx
    iterate 3 refine s1_ ?_
    refine su_ [(0,_),(1,_),(2,_),(3,_),(4,_),(5,_),(7,_),(10,_),(21,_)] ?_
    refine cF_ ?_
    iterate 5 refine s1_ ?_
    refine ca_ rfl ((c0 _ S hd).over (show S.Less _ from less_)) ?_
    rintro _ T1 ⟨M1,⟨v1,rfl,hS1,hk1'⟩,hMT,hkeep⟩
    obtain ⟨o5,n5⟩:=hkeep b5 _ g5.1 own_
    obtain ⟨o7,n7⟩:=hkeep b7 _ g7.1 own_
    obtain ⟨qe1,de1,qw1,dw1,rfl,hE1,hW1⟩:=id hk1'
    iterate 7 refine s1_ ?_
    refine su_ [(0,_),(1,_),(2,_),(3,_),(4,_),(5,_),(7,_),(10,_),(21,_),(11,_)] ?_
    have hM5:M1.Less (T1.set b5 ⟨25,[.int .i64 d1.size,.slice qe1 d1.ext.length de1,.slice qw1 d1.waits.length dw1,.int .i64 d1.fuse,.bool d1.down],5⟩):=less_set_skip hMT n5
    iterate 4 refine s1_ ?_
    refine ca_ rfl (c1 _ _ (hk1'.less hM5) (hg.less (hS1.trans hM5))) ?_
    rintro _ Sx ⟨rfl,h1⟩
    rw [h1];clear h1 Sx
    iterate 3 refine s1_ ?_
    refine ARun.alloc (lit_lt rfl) ty_zero_55 ?_
    intro b12 f12
    have g12:=f12
    repeat ((with_reducible replace g12:=fresh_set g12);obtain ⟨g12,_⟩:=g12)
    refine nl_ ?_
    iterate 4 refine s1_ ?_
    refine su_ [(0,_),(1,_),(2,_),(3,_),(4,_),(5,_),(7,_),(10,_),(21,_),(11,_),(12,_),(13,_)] ?_
    have:=g12.ne o5;have:=g12.ne' o5;have:=g12.ne o7;have:=g12.ne' o7
    iterate 7 refine s1_ ?_
    first|refine k_q 35 ?_|refine rG 35 (Calm.bin rfl rfl (bin_bool (bin_neq _ _) (bnot_dec_false qn))) ?_
    iterate 3 refine s1_ ?_
    first|refine k_q 39 ?_|refine rG 39 (Calm.bin rfl rfl (bin_bool (bin_lss _ _) (decide_eq_true q2))) ?_
    iterate 3 refine s1_ ?_
    refine su_ [(0,_),(1,_),(2,_),(3,_),(4,_),(5,_),(7,_),(10,_),(21,_),(11,_),(12,_),(13,_),(42,_)] ?_
    refine cT_ ?_
    iterate 7 refine s1_ ?_
    refine ⟨_,_,⟨_,_,rfl,rfl,rfl⟩,less_,?_⟩
    rfl
   ·have hR2:Right { d1 with fuse:=f }:=right_fuse hR1 (by omega) d1.down
    have hz2:Dz { d1 with fuse:=f }:=dz_right hR2 hf2
    have hq1:=hbr qn
    have hm2:Fit { m with seq:=(loadW d1 s).1.seq+1 }:=⟨by show (loadW d1 s).1.seq+1<_;omega,hm.phase,hm.count,hm.prim,hm.sum⟩
    obtain ⟨hRa,hfa,hAy,hAn⟩:=commit_safe (d:={ d1 with fuse:=f }) (s:=s) (m:={ m with seq:=(loadW d1 s).1.seq+1 }) hR2 hdn1 hf2 hw1 qn rfl hm.sum (keepK kl)
    have c3:=fun v S h hg=>slo_Commit v { d1 with fuse:=f } s { m with seq:=(loadW d1 s).1.seq+1 } S h hz2 hg hm2 hf ht
    unfold mfV at c3
    rw [show loadW { d1 with fuse:=f } s=loadW d1 s from rfl] at hAn
    generalize commitP { d1 with fuse:=f } s { m with seq:=(loadW d1 s).1.seq+1 }=u3 at *
    obtain ⟨a,er⟩:=u3
    simp only at hRa hfa hAy hAn c3
    have c4:=fun v vk S h hk=>disk_Crash v vk a kl S h (dz_right hRa hfa) hk
    have hcd:crashD a kl=(upD (settleD a (keepK kl)),0):=by unfold crashD;rw [chkD_yes hRa,if_pos rfl]
    rw [hcd] at c4
    have hzc:Dz (upD (settleD a (keepK kl))):=dz_right (Rec.right_crash hRa _) (by show (-1:Int)≤_;decide)
    have c5:=fun v S h hg=>slo_Load v (upD (settleD a (keepK kl))) s S h hzc hg
    unfold mfE mfV at c5
    generalize upD (settleD a (keepK kl))=cc at *
    generalize loadW d1 s=u at *
    obtain ⟨was,we⟩:=u
    simp only at *
    subst qn
    clear hcd hzc hR2 hz2 hRa hfa hbr
    by_cases q3:er=0
    ·subst q3
     have h1:=hAy rfl
     rw [h1] at c5
     clear hAy hAn h1
     refine ACall.enter (rs:=[.tmp 10]) 101 [(0,.agg #[.int .i64 d.size,.slice pe d.ext.length ce,.slice pw d.waits.length cw,.int .i64 d.fuse,.bool d.down]),(1,.string s),(2,.agg #[.int .u64 (m.seq:Int),.int .u8 (m.phase:Int),.int .u64 (m.count:Int),.int .u64 (m.prim:Int),.int .u32 (m.sum:Int),.string m.frm,.string m.too]),(3,.int .i64 f),(4,.slice pk kl.length ck)] Tryz.func9 rfl rfl (Nat.le_of_ble_eq_true rfl) rfl ⟨rfl,rfl,rfl,rfl,rfl,trivial⟩ ?_
     iterate 2 refine s1_ ?_
     refine k_b5 rfl ?_
     intro b5 f5
     have g5:=f5
     repeat ((with_reducible replace g5:=fresh_set g5);obtain ⟨g5,_⟩:=g5)
     refine nl_ ?_
     refine k_b7 rfl ?_
     intro b7 f7
     have g7:=f7
     repeat ((with_reducible replace g7:=fresh_set g7);obtain ⟨g7,_⟩:=g7)
     refine nl_ ?_
     iterate 6 refine s1_ ?_
     refine ca_ rfl (slo_lives _ (hg.less less_)) ?_
     rintro _ Sx ⟨rfl,h1⟩
     rw [h1];clear h1 Sx
     iterate 3 refine s1_ ?_
     refine su_ [(0,_),(1,_),(2,_),(3,_),(4,_),(5,_),(7,_),(10,_),(21,_)] ?_
     refine cF_ ?_
     iterate 5 refine s1_ ?_
     refine ca_ rfl ((c0 _ S hd).over (show S.Less _ from less_)) ?_
     rintro _ T1 ⟨M1,⟨v1,rfl,hS1,hk1'⟩,hMT,hkeep⟩
     obtain ⟨o5,n5⟩:=hkeep b5 _ g5.1 own_
     obtain ⟨o7,n7⟩:=hkeep b7 _ g7.1 own_
     obtain ⟨qe1,de1,qw1,dw1,rfl,hE1,hW1⟩:=id hk1'
     iterate 7 refine s1_ ?_
     refine su_ [(0,_),(1,_),(2,_),(3,_),(4,_),(5,_),(7,_),(10,_),(21,_),(11,_)] ?_
     have hM5:M1.Less (T1.set b5 ⟨25,[.int .i64 d1.size,.slice qe1 d1.ext.length de1,.slice qw1 d1.waits.length dw1,.int .i64 d1.fuse,.bool d1.down],5⟩):=less_set_skip hMT n5
     iterate 4 refine s1_ ?_
     refine ca_ rfl (c1 _ _ (hk1'.less hM5) (hg.less (hS1.trans hM5))) ?_
     rintro _ Sx ⟨rfl,h1⟩
     rw [h1];clear h1 Sx
     iterate 3 refine s1_ ?_
     refine ARun.alloc (lit_lt rfl) ty_zero_55 ?_
     intro b12 f12
     have g12:=f12
     repeat ((with_reducible replace g12:=fresh_set g12);obtain ⟨g12,_⟩:=g12)
     refine nl_ ?_
     iterate 4 refine s1_ ?_
     refine su_ [(0,_),(1,_),(2,_),(3,_),(4,_),(5,_),(7,_),(10,_),(21,_),(11,_),(12,_),(13,_)] ?_
     have:=g12.ne o5;have:=g12.ne' o5;have:=g12.ne o7;have:=g12.ne' o7
     iterate 7 refine s1_ ?_
     first|refine k_q 35 ?_|refine rG 35 (Calm.bin rfl rfl (bin_bool (bin_neq _ _) (bnot_dec_false rfl))) ?_
     iterate 3 refine s1_ ?_
     first|refine k_q 39 ?_|refine rG 39 (Calm.bin rfl rfl (bin_bool (bin_lss _ _) (decide_eq_false q2))) ?_
     iterate 3 refine s1_ ?_
     refine su_ [(0,_),(1,_),(2,_),(3,_),(4,_),(5,_),(7,_),(10,_),(21,_),(11,_),(12,_),(13,_),(42,_)] ?_
     refine cF_ ?_
     iterate 9 refine s1_ ?_
     refine su_ [(0,_),(1,_),(2,_),(3,_),(4,_),(5,_),(7,_),(10,_),(21,_),(11,_),(12,_),(13,_),(42,_)] ?_
     iterate 4 refine s1_ ?_
     refine rC (Calm.bin rfl rfl (bin_val (bin_addW (IntWalk.u64_in _ (by omega))) (b:=((was.seq+1:Nat):Int)) (by omega))) ?_
     iterate 4 refine s1_ ?_
     refine su_ [(0,_),(1,_),(2,_),(3,_),(4,_),(5,_),(7,_),(10,_),(21,_),(11,_),(12,_),(13,_),(42,_)] ?_
     have n12:=less_none hMT g12.1
     have hd2:DkR M1 (.agg #[.int .i64 d1.size,.slice qe1 d1.ext.length de1,.slice qw1 d1.waits.length dw1,.int .i64 f,.bool d1.down]) { d1 with fuse:=f }:=⟨qe1,de1,qw1,dw1,rfl,hE1,hW1⟩
     iterate 5 refine s1_ ?_
     refine ca_ rfl ((c3 _ M1 hd2 (hg.less hS1)).over (show M1.Less _ from by repeat (first | exact hMT | refine less_set_skip ?_ (by assumption)))) ?_
     rintro _ T2 ⟨M2,⟨v2,rfl,hl2,hk2'⟩,hMT,hkeep⟩
     obtain ⟨o5,n5⟩:=hkeep b5 _ n5 own_
     obtain ⟨o7,n7⟩:=hkeep b7 _ n7 own_
     obtain ⟨o12,n12⟩:=hkeep b12 _ n12 own_
     obtain ⟨qe2,de2,qw2,dw2,rfl,_⟩:=id hk2'
     have hS2:=hS1.trans (hl2.trans hMT)
     have hk2':=hk2'.less hMT
     iterate 3 refine s1_ ?_
     refine ARun.alloc (lit_lt rfl) ty_zero_25 ?_
     intro b14 f14
     have g14:=f14
     repeat ((with_reducible replace g14:=fresh_set g14);obtain ⟨g14,_⟩:=g14)
     refine nl_ ?_
     iterate 4 refine s1_ ?_
     refine su_ [(0,_),(1,_),(2,_),(3,_),(4,_),(5,_),(7,_),(10,_),(21,_),(11,_),(12,_),(13,_),(42,_),(14,_),(15,_)] ?_
     have:=g14.ne o5;have:=g14.ne' o5;have:=g14.ne o7;have:=g14.ne' o7;have:=g14.ne o12;have:=g14.ne' o12
     iterate 4 refine s1_ ?_
     refine ca_ rfl (c4 _ _ _ (hk2'.less less_) (hk.less (hS2.trans less_))) ?_
     rintro _ T3 ⟨v3,rfl,hl3,hk3'⟩
     have hl3:=(show T2.Less _ from less_).trans hl3
     have o5:=hl3.own o5
     have o7:=hl3.own o7
     have o12:=hl3.own o12
     obtain ⟨qe3,de3,qw3,dw3,rfl,_⟩:=id hk3'
     have hS3:=hS2.trans hl3
     iterate 3 refine s1_ ?_
     refine ARun.alloc (lit_lt rfl) ty_zero_25 ?_
     intro b16 f16
     have g16:=f16
     repeat ((with_reducible replace g16:=fresh_set g16);obtain ⟨g16,_⟩:=g16)
     refine nl_ ?_
     iterate 4 refine s1_ ?_
     refine su_ [(0,_),(1,_),(2,_),(3,_),(4,_),(5,_),(7,_),(10,_),(21,_),(11,_),(12,_),(13,_),(42,_),(14,_),(15,_),(16,_),(17,_)] ?_
     have:=g16.ne o5;have:=g16.ne' o5;have:=g16.ne o7;have:=g16.ne' o7;have:=g16.ne o12;have:=g16.ne' o12
     iterate 4 refine s1_ ?_
     refine ca_ rfl (c5 _ _ (hk3'.less less_) (hg.less (hS3.trans less_))) ?_
     rintro _ Sx ⟨rfl,h1⟩
     rw [h1];clear h1 Sx
     iterate 3 refine s1_ ?_
     refine ARun.alloc (lit_lt rfl) ty_zero_55 ?_
     intro b18 f18
     have g18:=f18
     repeat ((with_reducible replace g18:=fresh_set g18);obtain ⟨g18,_⟩:=g18)
     refine nl_ ?_
     iterate 4 refine s1_ ?_
     refine su_ [(0,_),(1,_),(2,_),(3,_),(4,_),(5,_),(7,_),(10,_),(21,_),(11,_),(12,_),(13,_),(42,_),(14,_),(15,_),(16,_),(17,_),(18,_),(19,_)] ?_
     have:=g18.ne o5;have:=g18.ne' o5;have:=g18.ne o7;have:=g18.ne' o7;have:=g18.ne o12;have:=g18.ne' o12
     iterate 7 refine s1_ ?_
     refine su_ [(0,_),(1,_),(2,_),(3,_),(4,_),(5,_),(7,_),(10,_),(21,_),(11,_),(12,_),(13,_),(42,_),(14,_),(15,_),(16,_),(17,_),(18,_),(19,_),(69,_)] ?_
     refine cT_ ?_
     iterate 11 refine s1_ ?_
     first|refine k_q 76 ?_|refine rG 76 (Calm.bin rfl rfl (bin_bool (bin_eql_mf { m with seq:=was.seq+1 } { m with seq:=was.seq+1 }) (decide_eq_true rfl))) ?_
     iterate 4 refine s1_ ?_
     refine su_ [(0,_),(1,_),(2,_),(3,_),(4,_),(5,_),(7,_),(10,_),(21,_),(11,_),(12,_),(13,_),(42,_),(14,_),(15,_),(16,_),(17,_),(18,_),(19,_),(69,_)] ?_
     iterate 2 refine s1_ ?_
     refine ⟨_,_,⟨_,_,rfl,rfl,rfl⟩,less_,?_⟩
     rfl
    ·rcases hAn q3 with h1 | h1
     ·rw [h1] at c5
      clear hAy hAn h1
      refine ACall.enter (rs:=[.tmp 10]) 101 [(0,.agg #[.int .i64 d.size,.slice pe d.ext.length ce,.slice pw d.waits.length cw,.int .i64 d.fuse,.bool d.down]),(1,.string s),(2,.agg #[.int .u64 (m.seq:Int),.int .u8 (m.phase:Int),.int .u64 (m.count:Int),.int .u64 (m.prim:Int),.int .u32 (m.sum:Int),.string m.frm,.string m.too]),(3,.int .i64 f),(4,.slice pk kl.length ck)] Tryz.func9 rfl rfl (Nat.le_of_ble_eq_true rfl) rfl ⟨rfl,rfl,rfl,rfl,rfl,trivial⟩ ?_
      iterate 2 refine s1_ ?_
      refine k_b5 rfl ?_
      intro b5 f5
      have g5:=f5
      repeat ((with_reducible replace g5:=fresh_set g5);obtain ⟨g5,_⟩:=g5)
      refine nl_ ?_
      refine k_b7 rfl ?_
      intro b7 f7
      have g7:=f7
      repeat ((with_reducible replace g7:=fresh_set g7);obtain ⟨g7,_⟩:=g7)
      refine nl_ ?_
      iterate 6 refine s1_ ?_
      refine ca_ rfl (slo_lives _ (hg.less less_)) ?_
      rintro _ Sx ⟨rfl,h1⟩
      rw [h1];clear h1 Sx
      iterate 3 refine s1_ ?_
      refine su_ [(0,_),(1,_),(2,_),(3,_),(4,_),(5,_),(7,_),(10,_),(21,_)] ?_
      refine cF_ ?_
      iterate 5 refine s1_ ?_
      refine ca_ rfl ((c0 _ S hd).over (show S.Less _ from less_)) ?_
      rintro _ T1 ⟨M1,⟨v1,rfl,hS1,hk1'⟩,hMT,hkeep⟩
      obtain ⟨o5,n5⟩:=hkeep b5 _ g5.1 own_
      obtain ⟨o7,n7⟩:=hkeep b7 _ g7.1 own_
      obtain ⟨qe1,de1,qw1,dw1,rfl,hE1,hW1⟩:=id hk1'
      iterate 7 refine s1_ ?_
      refine su_ [(0,_),(1,_),(2,_),(3,_),(4,_),(5,_),(7,_),(10,_),(21,_),(11,_)] ?_
      have hM5:M1.Less (T1.set b5 ⟨25,[.int .i64 d1.size,.slice qe1 d1.ext.length de1,.slice qw1 d1.waits.length dw1,.int .i64 d1.fuse,.bool d1.down],5⟩):=less_set_skip hMT n5
      iterate 4 refine s1_ ?_
      refine ca_ rfl (c1 _ _ (hk1'.less hM5) (hg.less (hS1.trans hM5))) ?_
      rintro _ Sx ⟨rfl,h1⟩
      rw [h1];clear h1 Sx
      iterate 3 refine s1_ ?_
      refine ARun.alloc (lit_lt rfl) ty_zero_55 ?_
      intro b12 f12
      have g12:=f12
      repeat ((with_reducible replace g12:=fresh_set g12);obtain ⟨g12,_⟩:=g12)
      refine nl_ ?_
      iterate 4 refine s1_ ?_
      refine su_ [(0,_),(1,_),(2,_),(3,_),(4,_),(5,_),(7,_),(10,_),(21,_),(11,_),(12,_),(13,_)] ?_
      have:=g12.ne o5;have:=g12.ne' o5;have:=g12.ne o7;have:=g12.ne' o7
      iterate 7 refine s1_ ?_
      first|refine k_q 35 ?_|refine rG 35 (Calm.bin rfl rfl (bin_bool (bin_neq _ _) (bnot_dec_false rfl))) ?_
      iterate 3 refine s1_ ?_
      first|refine k_q 39 ?_|refine rG 39 (Calm.bin rfl rfl (bin_bool (bin_lss _ _) (decide_eq_false q2))) ?_
      iterate 3 refine s1_ ?_
      refine su_ [(0,_),(1,_),(2,_),(3,_),(4,_),(5,_),(7,_),(10,_),(21,_),(11,_),(12,_),(13,_),(42,_)] ?_
      refine cF_ ?_
      iterate 9 refine s1_ ?_
      refine su_ [(0,_),(1,_),(2,_),(3,_),(4,_),(5,_),(7,_),(10,_),(21,_),(11,_),(12,_),(13,_),(42,_)] ?_
      iterate 4 refine s1_ ?_
      refine rC (Calm.bin rfl rfl (bin_val (bin_addW (IntWalk.u64_in _ (by omega))) (b:=((was.seq+1:Nat):Int)) (by omega))) ?_
      iterate 4 refine s1_ ?_
      refine su_ [(0,_),(1,_),(2,_),(3,_),(4,_),(5,_),(7,_),(10,_),(21,_),(11,_),(12,_),(13,_),(42,_)] ?_
      have n12:=less_none hMT g12.1
      have hd2:DkR M1 (.agg #[.int .i64 d1.size,.slice qe1 d1.ext.length de1,.slice qw1 d1.waits.length dw1,.int .i64 f,.bool d1.down]) { d1 with fuse:=f }:=⟨qe1,de1,qw1,dw1,rfl,hE1,hW1⟩
      iterate 5 refine s1_ ?_
      refine ca_ rfl ((c3 _ M1 hd2 (hg.less hS1)).over (show M1.Less _ from by repeat (first | exact hMT | refine less_set_skip ?_ (by assumption)))) ?_
      rintro _ T2 ⟨M2,⟨v2,rfl,hl2,hk2'⟩,hMT,hkeep⟩
      obtain ⟨o5,n5⟩:=hkeep b5 _ n5 own_
      obtain ⟨o7,n7⟩:=hkeep b7 _ n7 own_
      obtain ⟨o12,n12⟩:=hkeep b12 _ n12 own_
      obtain ⟨qe2,de2,qw2,dw2,rfl,_⟩:=id hk2'
      have hS2:=hS1.trans (hl2.trans hMT)
      have hk2':=hk2'.less hMT
      iterate 3 refine s1_ ?_
      refine ARun.alloc (lit_lt rfl) ty_zero_25 ?_
      intro b14 f14
      have g14:=f14
      repeat ((with_reducible replace g14:=fresh_set g14);obtain ⟨g14,_⟩:=g14)
      refine nl_ ?_
      iterate 4 refine s1_ ?_
      refine su_ [(0,_),(1,_),(2,_),(3,_),(4,_),(5,_),(7,_),(10,_),(21,_),(11,_),(12,_),(13,_),(42,_),(14,_),(15,_)] ?_
      have:=g14.ne o5;have:=g14.ne' o5;have:=g14.ne o7;have:=g14.ne' o7;have:=g14.ne o12;have:=g14.ne' o12
      iterate 4 refine s1_ ?_
      refine ca_ rfl (c4 _ _ _ (hk2'.less less_) (hk.less (hS2.trans less_))) ?_
      rintro _ T3 ⟨v3,rfl,hl3,hk3'⟩
      have hl3:=(show T2.Less _ from less_).trans hl3
      have o5:=hl3.own o5
      have o7:=hl3.own o7
      have o12:=hl3.own o12
      obtain ⟨qe3,de3,qw3,dw3,rfl,_⟩:=id hk3'
      have hS3:=hS2.trans hl3
      iterate 3 refine s1_ ?_
      refine ARun.alloc (lit_lt rfl) ty_zero_25 ?_
      intro b16 f16
      have g16:=f16
      repeat ((with_reducible replace g16:=fresh_set g16);obtain ⟨g16,_⟩:=g16)
      refine nl_ ?_
      iterate 4 refine s1_ ?_
      refine su_ [(0,_),(1,_),(2,_),(3,_),(4,_),(5,_),(7,_),(10,_),(21,_),(11,_),(12,_),(13,_),(42,_),(14,_),(15,_),(16,_),(17,_)] ?_
      have:=g16.ne o5;have:=g16.ne' o5;have:=g16.ne o7;have:=g16.ne' o7;have:=g16.ne o12;have:=g16.ne' o12
      iterate 4 refine s1_ ?_
      refine ca_ rfl (c5 _ _ (hk3'.less less_) (hg.less (hS3.trans less_))) ?_
      rintro _ Sx ⟨rfl,h1⟩
      rw [h1];clear h1 Sx
      iterate 3 refine s1_ ?_
      refine ARun.alloc (lit_lt rfl) ty_zero_55 ?_
      intro b18 f18
      have g18:=f18
      repeat ((with_reducible replace g18:=fresh_set g18);obtain ⟨g18,_⟩:=g18)
      refine nl_ ?_
      iterate 4 refine s1_ ?_
      refine su_ [(0,_),(1,_),(2,_),(3,_),(4,_),(5,_),(7,_),(10,_),(21,_),(11,_),(12,_),(13,_),(42,_),(14,_),(15,_),(16,_),(17,_),(18,_),(19,_)] ?_
      have:=g18.ne o5;have:=g18.ne' o5;have:=g18.ne o7;have:=g18.ne' o7;have:=g18.ne o12;have:=g18.ne' o12
      iterate 4 refine s1_ ?_
      refine rC (Calm.bin rfl rfl (bin_bool (bin_eql _ _) (decide_eq_false q3))) ?_
      iterate 2 refine s1_ ?_
      refine su_ [(0,_),(1,_),(2,_),(3,_),(4,_),(5,_),(7,_),(10,_),(21,_),(11,_),(12,_),(13,_),(42,_),(14,_),(15,_),(16,_),(17,_),(18,_),(19,_),(69,_)] ?_
      refine cF_ ?_
      iterate 13 refine s1_ ?_
      first|refine k_q 87 ?_|refine rG 87 (Calm.bin rfl rfl (bin_bool (bin_eql_mf was was) (decide_eq_true rfl))) ?_
      iterate 13 refine s1_ ?_
      refine su_ [(0,_),(1,_),(2,_),(3,_),(4,_),(5,_),(7,_),(10,_),(21,_),(11,_),(12,_),(13,_),(42,_),(14,_),(15,_),(16,_),(17,_),(18,_),(19,_),(69,_)] ?_
      refine s1_ ?_
      refine ⟨_,_,⟨_,_,rfl,rfl,rfl⟩,less_,?_⟩
      rfl
     ·obtain ⟨rfl,h1⟩:=h1
      rw [h1] at c5
      clear hAy hAn h1
      by_cases q4:({ m with seq:=was.seq+1 }:Mf)=was
      ·skip
       refine ACall.enter (rs:=[.tmp 10]) 101 [(0,.agg #[.int .i64 d.size,.slice pe d.ext.length ce,.slice pw d.waits.length cw,.int .i64 d.fuse,.bool d.down]),(1,.string s),(2,.agg #[.int .u64 (m.seq:Int),.int .u8 (m.phase:Int),.int .u64 (m.count:Int),.int .u64 (m.prim:Int),.int .u32 (m.sum:Int),.string m.frm,.string m.too]),(3,.int .i64 f),(4,.slice pk kl.length ck)] Tryz.func9 rfl rfl (Nat.le_of_ble_eq_true rfl) rfl ⟨rfl,rfl,rfl,rfl,rfl,trivial⟩ ?_
       iterate 2 refine s1_ ?_
       refine k_b5 rfl ?_
       intro b5 f5
       have g5:=f5
       repeat ((with_reducible replace g5:=fresh_set g5);obtain ⟨g5,_⟩:=g5)
       refine nl_ ?_
       refine k_b7 rfl ?_
       intro b7 f7
       have g7:=f7
       repeat ((with_reducible replace g7:=fresh_set g7);obtain ⟨g7,_⟩:=g7)
       refine nl_ ?_
       iterate 6 refine s1_ ?_
       refine ca_ rfl (slo_lives _ (hg.less less_)) ?_
       rintro _ Sx ⟨rfl,h1⟩
       rw [h1];clear h1 Sx
       iterate 3 refine s1_ ?_
       refine su_ [(0,_),(1,_),(2,_),(3,_),(4,_),(5,_),(7,_),(10,_),(21,_)] ?_
       refine cF_ ?_
       iterate 5 refine s1_ ?_
       refine ca_ rfl ((c0 _ S hd).over (show S.Less _ from less_)) ?_
       rintro _ T1 ⟨M1,⟨v1,rfl,hS1,hk1'⟩,hMT,hkeep⟩
       obtain ⟨o5,n5⟩:=hkeep b5 _ g5.1 own_
       obtain ⟨o7,n7⟩:=hkeep b7 _ g7.1 own_
       obtain ⟨qe1,de1,qw1,dw1,rfl,hE1,hW1⟩:=id hk1'
       iterate 7 refine s1_ ?_
       refine su_ [(0,_),(1,_),(2,_),(3,_),(4,_),(5,_),(7,_),(10,_),(21,_),(11,_)] ?_
       have hM5:M1.Less (T1.set b5 ⟨25,[.int .i64 d1.size,.slice qe1 d1.ext.length de1,.slice qw1 d1.waits.length dw1,.int .i64 d1.fuse,.bool d1.down],5⟩):=less_set_skip hMT n5
       iterate 4 refine s1_ ?_
       refine ca_ rfl (c1 _ _ (hk1'.less hM5) (hg.less (hS1.trans hM5))) ?_
       rintro _ Sx ⟨rfl,h1⟩
       rw [h1];clear h1 Sx
       iterate 3 refine s1_ ?_
       refine ARun.alloc (lit_lt rfl) ty_zero_55 ?_
       intro b12 f12
       have g12:=f12
       repeat ((with_reducible replace g12:=fresh_set g12);obtain ⟨g12,_⟩:=g12)
       refine nl_ ?_
       iterate 4 refine s1_ ?_
       refine su_ [(0,_),(1,_),(2,_),(3,_),(4,_),(5,_),(7,_),(10,_),(21,_),(11,_),(12,_),(13,_)] ?_
       have:=g12.ne o5;have:=g12.ne' o5;have:=g12.ne o7;have:=g12.ne' o7
       iterate 7 refine s1_ ?_
       first|refine k_q 35 ?_|refine rG 35 (Calm.bin rfl rfl (bin_bool (bin_neq _ _) (bnot_dec_false rfl))) ?_
       iterate 3 refine s1_ ?_
       first|refine k_q 39 ?_|refine rG 39 (Calm.bin rfl rfl (bin_bool (bin_lss _ _) (decide_eq_false q2))) ?_
       iterate 3 refine s1_ ?_
       refine su_ [(0,_),(1,_),(2,_),(3,_),(4,_),(5,_),(7,_),(10,_),(21,_),(11,_),(12,_),(13,_),(42,_)] ?_
       refine cF_ ?_
       iterate 9 refine s1_ ?_
       refine su_ [(0,_),(1,_),(2,_),(3,_),(4,_),(5,_),(7,_),(10,_),(21,_),(11,_),(12,_),(13,_),(42,_)] ?_
       iterate 4 refine s1_ ?_
       refine rC (Calm.bin rfl rfl (bin_val (bin_addW (IntWalk.u64_in _ (by omega))) (b:=((was.seq+1:Nat):Int)) (by omega))) ?_
       iterate 4 refine s1_ ?_
       refine su_ [(0,_),(1,_),(2,_),(3,_),(4,_),(5,_),(7,_),(10,_),(21,_),(11,_),(12,_),(13,_),(42,_)] ?_
       have n12:=less_none hMT g12.1
       have hd2:DkR M1 (.agg #[.int .i64 d1.size,.slice qe1 d1.ext.length de1,.slice qw1 d1.waits.length dw1,.int .i64 f,.bool d1.down]) { d1 with fuse:=f }:=⟨qe1,de1,qw1,dw1,rfl,hE1,hW1⟩
       iterate 5 refine s1_ ?_
       refine ca_ rfl ((c3 _ M1 hd2 (hg.less hS1)).over (show M1.Less _ from by repeat (first | exact hMT | refine less_set_skip ?_ (by assumption)))) ?_
       rintro _ T2 ⟨M2,⟨v2,rfl,hl2,hk2'⟩,hMT,hkeep⟩
       obtain ⟨o5,n5⟩:=hkeep b5 _ n5 own_
       obtain ⟨o7,n7⟩:=hkeep b7 _ n7 own_
       obtain ⟨o12,n12⟩:=hkeep b12 _ n12 own_
       obtain ⟨qe2,de2,qw2,dw2,rfl,_⟩:=id hk2'
       have hS2:=hS1.trans (hl2.trans hMT)
       have hk2':=hk2'.less hMT
       iterate 3 refine s1_ ?_
       refine ARun.alloc (lit_lt rfl) ty_zero_25 ?_
       intro b14 f14
       have g14:=f14
       repeat ((with_reducible replace g14:=fresh_set g14);obtain ⟨g14,_⟩:=g14)
       refine nl_ ?_
       iterate 4 refine s1_ ?_
       refine su_ [(0,_),(1,_),(2,_),(3,_),(4,_),(5,_),(7,_),(10,_),(21,_),(11,_),(12,_),(13,_),(42,_),(14,_),(15,_)] ?_
       have:=g14.ne o5;have:=g14.ne' o5;have:=g14.ne o7;have:=g14.ne' o7;have:=g14.ne o12;have:=g14.ne' o12
       iterate 4 refine s1_ ?_
       refine ca_ rfl (c4 _ _ _ (hk2'.less less_) (hk.less (hS2.trans less_))) ?_
       rintro _ T3 ⟨v3,rfl,hl3,hk3'⟩
       have hl3:=(show T2.Less _ from less_).trans hl3
       have o5:=hl3.own o5
       have o7:=hl3.own o7
       have o12:=hl3.own o12
       obtain ⟨qe3,de3,qw3,dw3,rfl,_⟩:=id hk3'
       have hS3:=hS2.trans hl3
       iterate 3 refine s1_ ?_
       refine ARun.alloc (lit_lt rfl) ty_zero_25 ?_
       intro b16 f16
       have g16:=f16
       repeat ((with_reducible replace g16:=fresh_set g16);obtain ⟨g16,_⟩:=g16)
       refine nl_ ?_
       iterate 4 refine s1_ ?_
       refine su_ [(0,_),(1,_),(2,_),(3,_),(4,_),(5,_),(7,_),(10,_),(21,_),(11,_),(12,_),(13,_),(42,_),(14,_),(15,_),(16,_),(17,_)] ?_
       have:=g16.ne o5;have:=g16.ne' o5;have:=g16.ne o7;have:=g16.ne' o7;have:=g16.ne o12;have:=g16.ne' o12
       iterate 4 refine s1_ ?_
       refine ca_ rfl (c5 _ _ (hk3'.less less_) (hg.less (hS3.trans less_))) ?_
       rintro _ Sx ⟨rfl,h1⟩
       rw [h1];clear h1 Sx
       iterate 3 refine s1_ ?_
       refine ARun.alloc (lit_lt rfl) ty_zero_55 ?_
       intro b18 f18
       have g18:=f18
       repeat ((with_reducible replace g18:=fresh_set g18);obtain ⟨g18,_⟩:=g18)
       refine nl_ ?_
       iterate 4 refine s1_ ?_
       refine su_ [(0,_),(1,_),(2,_),(3,_),(4,_),(5,_),(7,_),(10,_),(21,_),(11,_),(12,_),(13,_),(42,_),(14,_),(15,_),(16,_),(17,_),(18,_),(19,_)] ?_
       have:=g18.ne o5;have:=g18.ne' o5;have:=g18.ne o7;have:=g18.ne' o7;have:=g18.ne o12;have:=g18.ne' o12
       iterate 7 refine s1_ ?_
       refine su_ [(0,_),(1,_),(2,_),(3,_),(4,_),(5,_),(7,_),(10,_),(21,_),(11,_),(12,_),(13,_),(42,_),(14,_),(15,_),(16,_),(17,_),(18,_),(19,_),(69,_)] ?_
       refine cF_ ?_
       iterate 13 refine s1_ ?_
       first|refine k_q 87 ?_|refine rG 87 (Calm.bin rfl rfl (bin_bool (bin_eql_mf { m with seq:=was.seq+1 } was) (decide_eq_true q4))) ?_
       iterate 13 refine s1_ ?_
       refine su_ [(0,_),(1,_),(2,_),(3,_),(4,_),(5,_),(7,_),(10,_),(21,_),(11,_),(12,_),(13,_),(42,_),(14,_),(15,_),(16,_),(17,_),(18,_),(19,_),(69,_)] ?_
       refine s1_ ?_
       refine ⟨_,_,⟨_,_,rfl,rfl,rfl⟩,less_,?_⟩
       rfl
      ·skip
       refine ACall.enter (rs:=[.tmp 10]) 101 [(0,.agg #[.int .i64 d.size,.slice pe d.ext.length ce,.slice pw d.waits.length cw,.int .i64 d.fuse,.bool d.down]),(1,.string s),(2,.agg #[.int .u64 (m.seq:Int),.int .u8 (m.phase:Int),.int .u64 (m.count:Int),.int .u64 (m.prim:Int),.int .u32 (m.sum:Int),.string m.frm,.string m.too]),(3,.int .i64 f),(4,.slice pk kl.length ck)] Tryz.func9 rfl rfl (Nat.le_of_ble_eq_true rfl) rfl ⟨rfl,rfl,rfl,rfl,rfl,trivial⟩ ?_
       iterate 2 refine s1_ ?_
       refine k_b5 rfl ?_
       intro b5 f5
       have g5:=f5
       repeat ((with_reducible replace g5:=fresh_set g5);obtain ⟨g5,_⟩:=g5)
       refine nl_ ?_
       refine k_b7 rfl ?_
       intro b7 f7
       have g7:=f7
       repeat ((with_reducible replace g7:=fresh_set g7);obtain ⟨g7,_⟩:=g7)
       refine nl_ ?_
       iterate 6 refine s1_ ?_
       refine ca_ rfl (slo_lives _ (hg.less less_)) ?_
       rintro _ Sx ⟨rfl,h1⟩
       rw [h1];clear h1 Sx
       iterate 3 refine s1_ ?_
       refine su_ [(0,_),(1,_),(2,_),(3,_),(4,_),(5,_),(7,_),(10,_),(21,_)] ?_
       refine cF_ ?_
       iterate 5 refine s1_ ?_
       refine ca_ rfl ((c0 _ S hd).over (show S.Less _ from less_)) ?_
       rintro _ T1 ⟨M1,⟨v1,rfl,hS1,hk1'⟩,hMT,hkeep⟩
       obtain ⟨o5,n5⟩:=hkeep b5 _ g5.1 own_
       obtain ⟨o7,n7⟩:=hkeep b7 _ g7.1 own_
       obtain ⟨qe1,de1,qw1,dw1,rfl,hE1,hW1⟩:=id hk1'
       iterate 7 refine s1_ ?_
       refine su_ [(0,_),(1,_),(2,_),(3,_),(4,_),(5,_),(7,_),(10,_),(21,_),(11,_)] ?_
       have hM5:M1.Less (T1.set b5 ⟨25,[.int .i64 d1.size,.slice qe1 d1.ext.length de1,.slice qw1 d1.waits.length dw1,.int .i64 d1.fuse,.bool d1.down],5⟩):=less_set_skip hMT n5
       iterate 4 refine s1_ ?_
       refine ca_ rfl (c1 _ _ (hk1'.less hM5) (hg.less (hS1.trans hM5))) ?_
       rintro _ Sx ⟨rfl,h1⟩
       rw [h1];clear h1 Sx
       iterate 3 refine s1_ ?_
       refine ARun.alloc (lit_lt rfl) ty_zero_55 ?_
       intro b12 f12
       have g12:=f12
       repeat ((with_reducible replace g12:=fresh_set g12);obtain ⟨g12,_⟩:=g12)
       refine nl_ ?_
       iterate 4 refine s1_ ?_
       refine su_ [(0,_),(1,_),(2,_),(3,_),(4,_),(5,_),(7,_),(10,_),(21,_),(11,_),(12,_),(13,_)] ?_
       have:=g12.ne o5;have:=g12.ne' o5;have:=g12.ne o7;have:=g12.ne' o7
       iterate 7 refine s1_ ?_
       first|refine k_q 35 ?_|refine rG 35 (Calm.bin rfl rfl (bin_bool (bin_neq _ _) (bnot_dec_false rfl))) ?_
       iterate 3 refine s1_ ?_
       first|refine k_q 39 ?_|refine rG 39 (Calm.bin rfl rfl (bin_bool (bin_lss _ _) (decide_eq_false q2))) ?_
       iterate 3 refine s1_ ?_
       refine su_ [(0,_),(1,_),(2,_),(3,_),(4,_),(5,_),(7,_),(10,_),(21,_),(11,_),(12,_),(13,_),(42,_)] ?_
       refine cF_ ?_
       iterate 9 refine s1_ ?_
       refine su_ [(0,_),(1,_),(2,_),(3,_),(4,_),(5,_),(7,_),(10,_),(21,_),(11,_),(12,_),(13,_),(42,_)] ?_
       iterate 4 refine s1_ ?_
       refine rC (Calm.bin rfl rfl (bin_val (bin_addW (IntWalk.u64_in _ (by omega))) (b:=((was.seq+1:Nat):Int)) (by omega))) ?_
       iterate 4 refine s1_ ?_
       refine su_ [(0,_),(1,_),(2,_),(3,_),(4,_),(5,_),(7,_),(10,_),(21,_),(11,_),(12,_),(13,_),(42,_)] ?_
       have n12:=less_none hMT g12.1
       have hd2:DkR M1 (.agg #[.int .i64 d1.size,.slice qe1 d1.ext.length de1,.slice qw1 d1.waits.length dw1,.int .i64 f,.bool d1.down]) { d1 with fuse:=f }:=⟨qe1,de1,qw1,dw1,rfl,hE1,hW1⟩
       iterate 5 refine s1_ ?_
       refine ca_ rfl ((c3 _ M1 hd2 (hg.less hS1)).over (show M1.Less _ from by repeat (first | exact hMT | refine less_set_skip ?_ (by assumption)))) ?_
       rintro _ T2 ⟨M2,⟨v2,rfl,hl2,hk2'⟩,hMT,hkeep⟩
       obtain ⟨o5,n5⟩:=hkeep b5 _ n5 own_
       obtain ⟨o7,n7⟩:=hkeep b7 _ n7 own_
       obtain ⟨o12,n12⟩:=hkeep b12 _ n12 own_
       obtain ⟨qe2,de2,qw2,dw2,rfl,_⟩:=id hk2'
       have hS2:=hS1.trans (hl2.trans hMT)
       have hk2':=hk2'.less hMT
       iterate 3 refine s1_ ?_
       refine ARun.alloc (lit_lt rfl) ty_zero_25 ?_
       intro b14 f14
       have g14:=f14
       repeat ((with_reducible replace g14:=fresh_set g14);obtain ⟨g14,_⟩:=g14)
       refine nl_ ?_
       iterate 4 refine s1_ ?_
       refine su_ [(0,_),(1,_),(2,_),(3,_),(4,_),(5,_),(7,_),(10,_),(21,_),(11,_),(12,_),(13,_),(42,_),(14,_),(15,_)] ?_
       have:=g14.ne o5;have:=g14.ne' o5;have:=g14.ne o7;have:=g14.ne' o7;have:=g14.ne o12;have:=g14.ne' o12
       iterate 4 refine s1_ ?_
       refine ca_ rfl (c4 _ _ _ (hk2'.less less_) (hk.less (hS2.trans less_))) ?_
       rintro _ T3 ⟨v3,rfl,hl3,hk3'⟩
       have hl3:=(show T2.Less _ from less_).trans hl3
       have o5:=hl3.own o5
       have o7:=hl3.own o7
       have o12:=hl3.own o12
       obtain ⟨qe3,de3,qw3,dw3,rfl,_⟩:=id hk3'
       have hS3:=hS2.trans hl3
       iterate 3 refine s1_ ?_
       refine ARun.alloc (lit_lt rfl) ty_zero_25 ?_
       intro b16 f16
       have g16:=f16
       repeat ((with_reducible replace g16:=fresh_set g16);obtain ⟨g16,_⟩:=g16)
       refine nl_ ?_
       iterate 4 refine s1_ ?_
       refine su_ [(0,_),(1,_),(2,_),(3,_),(4,_),(5,_),(7,_),(10,_),(21,_),(11,_),(12,_),(13,_),(42,_),(14,_),(15,_),(16,_),(17,_)] ?_
       have:=g16.ne o5;have:=g16.ne' o5;have:=g16.ne o7;have:=g16.ne' o7;have:=g16.ne o12;have:=g16.ne' o12
       iterate 4 refine s1_ ?_
       refine ca_ rfl (c5 _ _ (hk3'.less less_) (hg.less (hS3.trans less_))) ?_
       rintro _ Sx ⟨rfl,h1⟩
       rw [h1];clear h1 Sx
       iterate 3 refine s1_ ?_
       refine ARun.alloc (lit_lt rfl) ty_zero_55 ?_
       intro b18 f18
       have g18:=f18
       repeat ((with_reducible replace g18:=fresh_set g18);obtain ⟨g18,_⟩:=g18)
       refine nl_ ?_
       iterate 4 refine s1_ ?_
       refine su_ [(0,_),(1,_),(2,_),(3,_),(4,_),(5,_),(7,_),(10,_),(21,_),(11,_),(12,_),(13,_),(42,_),(14,_),(15,_),(16,_),(17,_),(18,_),(19,_)] ?_
       have:=g18.ne o5;have:=g18.ne' o5;have:=g18.ne o7;have:=g18.ne' o7;have:=g18.ne o12;have:=g18.ne' o12
       iterate 7 refine s1_ ?_
       refine su_ [(0,_),(1,_),(2,_),(3,_),(4,_),(5,_),(7,_),(10,_),(21,_),(11,_),(12,_),(13,_),(42,_),(14,_),(15,_),(16,_),(17,_),(18,_),(19,_),(69,_)] ?_
       refine cF_ ?_
       iterate 13 refine s1_ ?_
       first|refine k_q 87 ?_|refine rG 87 (Calm.bin rfl rfl (bin_bool (bin_eql_mf { m with seq:=was.seq+1 } was) (decide_eq_false q4))) ?_
       iterate 6 refine s1_ ?_
       first|refine k_q 94 ?_|refine rG 94 (Calm.bin rfl rfl (bin_bool (bin_eql_mf { m with seq:=was.seq+1 } { m with seq:=was.seq+1 }) (decide_eq_true rfl))) ?_
       iterate 6 refine s1_ ?_
       refine su_ [(0,_),(1,_),(2,_),(3,_),(4,_),(5,_),(7,_),(10,_),(21,_),(11,_),(12,_),(13,_),(42,_),(14,_),(15,_),(16,_),(17,_),(18,_),(19,_),(69,_)] ?_
       refine s1_ ?_
       refine ⟨_,_,⟨_,_,rfl,rfl,rfl⟩,less_,?_⟩
       rfl
  ·generalize loadW d1 s=u at *
   refine ACall.enter (rs:=[.tmp 10]) 101 [(0,.agg #[.int .i64 d.size,.slice pe d.ext.length ce,.slice pw d.waits.length cw,.int .i64 d.fuse,.bool d.down]),(1,.string s),(2,.agg #[.int .u64 (m.seq:Int),.int .u8 (m.phase:Int),.int .u64 (m.count:Int),.int .u64 (m.prim:Int),.int .u32 (m.sum:Int),.string m.frm,.string m.too]),(3,.int .i64 f),(4,.slice pk kl.length ck)] Tryz.func9 rfl rfl (Nat.le_of_ble_eq_true rfl) rfl ⟨rfl,rfl,rfl,rfl,rfl,trivial⟩ ?_
   iterate 2 refine s1_ ?_
   refine k_b5 rfl ?_
   intro b5 f5
   have g5:=f5
   repeat ((with_reducible replace g5:=fresh_set g5);obtain ⟨g5,_⟩:=g5)
   refine nl_ ?_
   refine k_b7 rfl ?_
   intro b7 f7
   have g7:=f7
   repeat ((with_reducible replace g7:=fresh_set g7);obtain ⟨g7,_⟩:=g7)
   refine nl_ ?_
   iterate 6 refine s1_ ?_
   refine ca_ rfl (slo_lives _ (hg.less less_)) ?_
   rintro _ Sx ⟨rfl,h1⟩
   rw [h1];clear h1 Sx
   iterate 3 refine s1_ ?_
   refine su_ [(0,_),(1,_),(2,_),(3,_),(4,_),(5,_),(7,_),(10,_),(21,_)] ?_
   refine cF_ ?_
   iterate 5 refine s1_ ?_
   refine ca_ rfl ((c0 _ S hd).over (show S.Less _ from less_)) ?_
   rintro _ T1 ⟨M1,⟨v1,rfl,hS1,hk1'⟩,hMT,hkeep⟩
   obtain ⟨o5,n5⟩:=hkeep b5 _ g5.1 own_
   obtain ⟨o7,n7⟩:=hkeep b7 _ g7.1 own_
   obtain ⟨qe1,de1,qw1,dw1,rfl,hE1,hW1⟩:=id hk1'
   iterate 7 refine s1_ ?_
   refine su_ [(0,_),(1,_),(2,_),(3,_),(4,_),(5,_),(7,_),(10,_),(21,_),(11,_)] ?_
   have hM5:M1.Less (T1.set b5 ⟨25,[.int .i64 d1.size,.slice qe1 d1.ext.length de1,.slice qw1 d1.waits.length dw1,.int .i64 d1.fuse,.bool d1.down],5⟩):=less_set_skip hMT n5
   iterate 4 refine s1_ ?_
   refine ca_ rfl (c1 _ _ (hk1'.less hM5) (hg.less (hS1.trans hM5))) ?_
   rintro _ Sx ⟨rfl,h1⟩
   rw [h1];clear h1 Sx
   iterate 3 refine s1_ ?_
   refine ARun.alloc (lit_lt rfl) ty_zero_55 ?_
   intro b12 f12
   have g12:=f12
   repeat ((with_reducible replace g12:=fresh_set g12);obtain ⟨g12,_⟩:=g12)
   refine nl_ ?_
   iterate 4 refine s1_ ?_
   refine su_ [(0,_),(1,_),(2,_),(3,_),(4,_),(5,_),(7,_),(10,_),(21,_),(11,_),(12,_),(13,_)] ?_
   have:=g12.ne o5;have:=g12.ne' o5;have:=g12.ne o7;have:=g12.ne' o7
   iterate 7 refine s1_ ?_
   first|refine k_q 35 ?_|refine rG 35 (Calm.bin rfl rfl (bin_bool (bin_neq _ _) (bnot_dec_true qn))) ?_
   iterate 7 refine s1_ ?_
   refine su_ [(0,_),(1,_),(2,_),(3,_),(4,_),(5,_),(7,_),(10,_),(21,_),(11,_),(12,_),(13,_),(42,_)] ?_
   refine cT_ ?_
   iterate 7 refine s1_ ?_
   refine ⟨_,_,⟨_,_,rfl,rfl,rfl⟩,less_,?_⟩
   rfl
 ·have hze:Dz (opened d (syncD d)).1:=by
   unfold opened at q ⊢
   rcases openD_or d with ⟨ho,hR'⟩ | ⟨ho,hR,hdn⟩ | ⟨ho,hR,hdn⟩ <;> rw [ho] at q ⊢
   ·rw [if_neg (by simp)]
    exact ⟨by decide,by decide,by decide,by decide,by decide,by decide,fun x hx=>(by cases hx),fun w hw=>(by cases hw)⟩
   ·rw [if_neg (by simp)];exact hz
   ·exact absurd rfl q
  generalize opened d (syncD d)=r at *
  obtain ⟨e,er⟩:=r
  simp only at q c0 hze
  have c1:=fun v S h hg=>slo_Load v e s S h hze hg
  unfold mfE mfV at c1
  generalize loadP e s=u at *
  refine ACall.enter (rs:=[.tmp 10]) 101 [(0,.agg #[.int .i64 d.size,.slice pe d.ext.length ce,.slice pw d.waits.length cw,.int .i64 d.fuse,.bool d.down]),(1,.string s),(2,.agg #[.int .u64 (m.seq:Int),.int .u8 (m.phase:Int),.int .u64 (m.count:Int),.int .u64 (m.prim:Int),.int .u32 (m.sum:Int),.string m.frm,.string m.too]),(3,.int .i64 f),(4,.slice pk kl.length ck)] Tryz.func9 rfl rfl (Nat.le_of_ble_eq_true rfl) rfl ⟨rfl,rfl,rfl,rfl,rfl,trivial⟩ ?_
  iterate 2 refine s1_ ?_
  refine k_b5 rfl ?_
  intro b5 f5
  have g5:=f5
  repeat ((with_reducible replace g5:=fresh_set g5);obtain ⟨g5,_⟩:=g5)
  refine nl_ ?_
  refine k_b7 rfl ?_
  intro b7 f7
  have g7:=f7
  repeat ((with_reducible replace g7:=fresh_set g7);obtain ⟨g7,_⟩:=g7)
  refine nl_ ?_
  iterate 6 refine s1_ ?_
  refine ca_ rfl (slo_lives _ (hg.less less_)) ?_
  rintro _ Sx ⟨rfl,h1⟩
  rw [h1];clear h1 Sx
  iterate 3 refine s1_ ?_
  refine su_ [(0,_),(1,_),(2,_),(3,_),(4,_),(5,_),(7,_),(10,_),(21,_)] ?_
  refine cF_ ?_
  iterate 5 refine s1_ ?_
  refine ca_ rfl ((c0 _ S hd).over (show S.Less _ from less_)) ?_
  rintro _ T1 ⟨M1,⟨v1,rfl,hS1,hk1'⟩,hMT,hkeep⟩
  obtain ⟨o5,n5⟩:=hkeep b5 _ g5.1 own_
  obtain ⟨o7,n7⟩:=hkeep b7 _ g7.1 own_
  obtain ⟨qe1,de1,qw1,dw1,rfl,hE1,hW1⟩:=id hk1'
  iterate 7 refine s1_ ?_
  refine su_ [(0,_),(1,_),(2,_),(3,_),(4,_),(5,_),(7,_),(10,_),(21,_),(11,_)] ?_
  have hM5:M1.Less (T1.set b5 ⟨25,[.int .i64 e.size,.slice qe1 e.ext.length de1,.slice qw1 e.waits.length dw1,.int .i64 e.fuse,.bool e.down],5⟩):=less_set_skip hMT n5
  iterate 4 refine s1_ ?_
  refine ca_ rfl (c1 _ _ (hk1'.less hM5) (hg.less (hS1.trans hM5))) ?_
  rintro _ Sx ⟨rfl,h1⟩
  rw [h1];clear h1 Sx
  iterate 3 refine s1_ ?_
  refine ARun.alloc (lit_lt rfl) ty_zero_55 ?_
  intro b12 f12
  have g12:=f12
  repeat ((with_reducible replace g12:=fresh_set g12);obtain ⟨g12,_⟩:=g12)
  refine nl_ ?_
  iterate 4 refine s1_ ?_
  refine su_ [(0,_),(1,_),(2,_),(3,_),(4,_),(5,_),(7,_),(10,_),(21,_),(11,_),(12,_),(13,_)] ?_
  have:=g12.ne o5;have:=g12.ne' o5;have:=g12.ne o7;have:=g12.ne' o7
  iterate 4 refine s1_ ?_
  refine rC (Calm.bin rfl rfl (bin_bool (bin_neq _ _) (bnot_dec_true q))) ?_
  iterate 10 refine s1_ ?_
  refine su_ [(0,_),(1,_),(2,_),(3,_),(4,_),(5,_),(7,_),(10,_),(21,_),(11,_),(12,_),(13,_),(42,_)] ?_
  refine cT_ ?_
  iterate 7 refine s1_ ?_
  refine ⟨_,_,⟨_,_,rfl,rfl,rfl⟩,less_,?_⟩
  rfl
end Slo
theorem walk_SlotsSafe (cs : List Value) (y : D) (s : ByteArray) (cm : List Value) (m : Slo.Mf) (f : Int) (vk : Value) (kl : List Bool) (W : World) (w0 : DkV (roM W) cs y) (w1 : s.size ≤ maxLen) (z1 : s.size < 140737488355328) (w2 : Slo.MfV (roM W) cm m) (w3 : (Lit.int .i64 f).wf = true) (w4 : BoolsV (roM W) [vk] kl) (hg : Slo.ErrT (roM W)) :
  Calls Tryz.prog 9 #[.agg cs.toArray,.string s,.agg cm.toArray,.int .i64 f,vk] W fun e w'=>e = .returned (.bool true)∧Below W.heap.size W w':=by
 obtain ⟨v2,e2,hv2⟩:=w4
 cases e2
 obtain ⟨rfl,hm,hf,ht⟩:=w2
 exact ACall.callsW (Slo.law_SlotsSafe _ _ y s m f kl _ hg w0.1 w0.2 hm hf ht (wfi w3).2 hv2)
end Go.Proofs.YtceikpipmcadmaaGreatDoor
