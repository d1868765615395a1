/-
  What the row lists, laid.
-/
import Derived.Test.YtbgjkpkakoggbaaGreatDoorBTu8
import Derived.Test.YtbgjkpkakoggbaaGreatDoorRows
import Derived.LaidLaws
import Derived.LaidMore
import Derived.LaidHandle
import Derived.MakeChecks
import Derived.LaidByTextLater
import Derived.Stop.Joined
import Derived.ProofKit
set_option maxHeartbeats 8000000
set_option maxRecDepth 100000
set_option linter.unusedVariables false
set_option linter.unusedSimpArgs false
set_option linter.unusedSectionVars false
namespace Go.Proofs.YtbgjkpkakoggbaaGreatDoor
open _root_.Go.Proofs.Tryz
section
open Go.RowKit
open Mv
noncomputable def zsX (os:Os):tv :=
  { World.doorLaid prog 400 os with heap:=(World.doorLaid prog 400 os).heap.modify 3 fun
      | .cells _ t frozen=>.cells (match (Rows.laid_unicode_utf8_first) with | .agg l=>(l.map λd=>match d with | .lit (.int k n)=>Value.int k n | _=>.int .u8 0).toArray | _=>#[]) t frozen
      | o=>o }
noncomputable def zmb (os:Os):tv :=
  { zsX os with heap:=(zsX os).heap.modify 0 fun
      | .cells _ t frozen=>.cells #[.iface 232 (.agg #[.pointer (some ⟨5,52,none⟩)])] t frozen
      | o=>o }
theorem zil (os:Os) (args:Array tu):((zmb os).forCall (λ_ _=>0) ⟨#[],args,[]⟩).Shaped prog :=
 World.shaped_of_RefB (by kernel_rfl) (by kernel_rfl)
theorem zsd (os : Os) (args : Array tu) : laidMet prog [("unicode/utf8.acceptRanges", Rows.laid_unicode_utf8_acceptRanges), ("wringer/merge.errOrder", Rows.laid_wringer_merge_errOrder), ("unicode/utf8.first", Rows.laid_unicode_utf8_first)] ((zmb os).forCall (λ_ _ => 0) ⟨#[], args, []⟩).memory :=
 laidMet_of_run' 8 (by kernel_rfl) (by kernel_rfl)
theorem znd (os : Os) (args : Array tu) {l : List (String × DataW Unit)} (h : l = [("unicode/utf8.acceptRanges", Rows.laid_unicode_utf8_acceptRanges), ("errors.errorType", Rows.laid_errors_errorType), ("wringer/merge.errOrder", Rows.laid_wringer_merge_errOrder), ("unicode/utf8.first", Rows.laid_unicode_utf8_first)]) : laidMetH prog l ((zmb os).forCall (λ_ _ => 0) ⟨#[], args, []⟩).memory := by
 subst h;exact laidMetH_of_parts (zsd os args) (by kernel_rfl)
theorem zjA {W : tv} {l : List (String × DataW Unit)} (h : laidMetH prog l W) (hl : (l.filter λx => x.2.handleName?.isSome) = [("errors.errorType", Rows.laid_errors_errorType)]) (hl2 : (l.filter λx => x.2.handleName?.isNone) = [("unicode/utf8.acceptRanges", Rows.laid_unicode_utf8_acceptRanges), ("wringer/merge.errOrder", Rows.laid_wringer_merge_errOrder), ("unicode/utf8.first", Rows.laid_unicode_utf8_first)]) : Top.ErrO (roM W) := by
 unfold laidMetH at h;rw [hl] at h;have U:=h.1;rw [hl2] at U;obtain ⟨ps,⟨_,_,_,_,_,_,_,_,_,_,⟨g,t,cs,Q,p,q,e1,e2,e3,e4,_⟩,_⟩,_⟩:=U;have K : prog.globalNamed "wringer/merge.errOrder" = some 2 := by kernel_rfl
 obtain rfl:g=2:=Option.some.inj (e1.symm.trans K);have V:(prog.globals[2]?).map (·.type)=some 52:=by kernel_rfl
 obtain rfl:t=52:=Option.some.inj (e2.symm.trans V);obtain ⟨Z,u,v,J,_,_⟩:=iface_of_trod Er.under e4;refine ⟨u,v,zit λj x C=>?_⟩
 match j,C with
 | 0,C =>
  have X:x = .iface u v:=(Option.some.inj C).symm;have Y:=World.var?_cell K e3 0;have I:cs[0]?=some (.iface u v):=by rw [<- Array.getElem?_toList,J];rfl
  rw [X];simpa [Addr.add] using Y.trans I
end
end Go.Proofs.YtbgjkpkakoggbaaGreatDoor
