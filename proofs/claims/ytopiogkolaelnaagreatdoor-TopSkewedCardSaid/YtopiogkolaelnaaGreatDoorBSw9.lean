/-
  Texts that belong together: LaidM.
-/
import Derived.Test.YtopiogkolaelnaaGreatDoorBSw8
import Derived.Test.YtopiogkolaelnaaGreatDoorRows
import Derived.LaidLaws
import Derived.LaidMore
import Derived.LaidHandle
import Derived.MakeChecks
import Derived.LaidByTextLater
import Derived.Stop.Joined
import Derived.ProofKit
set_option maxHeartbeats 8000000
set_option maxRecDepth 100000
set_option linter.unusedVariables false
set_option linter.unusedSimpArgs false
set_option linter.unusedSectionVars false
namespace Go.Proofs.YtopiogkolaelnaaGreatDoor
open _root_.Go.Proofs.Tryz
section
open Go.RowKit
open Mv
noncomputable def ztc (os:Os):tv :=
  { World.doorLaid prog 400 os with heap:=(World.doorLaid prog 400 os).heap.modify 3 fun
      | .cells _ t frozen=>.cells (match (Rows.laid_unicode_utf8_first) with | .agg l=>(l.map λd=>match d with | .lit (.int k n)=>Value.int k n | _=>.int .u8 0).toArray | _=>#[]) t frozen
      | o=>o }
noncomputable def zlG (os:Os):tv :=
  { ztc os with heap:=(ztc os).heap.modify 0 fun
      | .cells _ t frozen=>.cells #[.iface 272 (.agg #[.pointer (some ⟨5,63,none⟩)])] t frozen
      | o=>o }
theorem zh9 (os:Os) (args:Array tu):((zlG os).forCall (λ_ _=>0) ⟨#[],args,[]⟩).Shaped prog :=
 World.shaped_of_RefB (by kernel_rfl) (by kernel_rfl)
theorem zso (os : Os) (args : Array tu) : laidMet prog [("unicode/utf8.acceptRanges", Rows.laid_unicode_utf8_acceptRanges), ("wringer/merge.errOrder", Rows.laid_wringer_merge_errOrder), ("unicode/utf8.first", Rows.laid_unicode_utf8_first)] ((zlG os).forCall (λ_ _ => 0) ⟨#[], args, []⟩).memory :=
 laidMet_of_run' 8 (by kernel_rfl) (by kernel_rfl)
theorem zmR (os : Os) (args : Array tu) {l : List (String × DataW Unit)} (h : l = [("unicode/utf8.acceptRanges", Rows.laid_unicode_utf8_acceptRanges), ("errors.errorType", Rows.laid_errors_errorType), ("wringer/merge.errOrder", Rows.laid_wringer_merge_errOrder), ("unicode/utf8.first", Rows.laid_unicode_utf8_first)]) : laidMetH prog l ((zlG os).forCall (λ_ _ => 0) ⟨#[], args, []⟩).memory := by
 subst h;exact laidMetH_of_parts (zso os args) (by kernel_rfl)
theorem zjd {W : tv} {l : List (String × DataW Unit)} (h : laidMetH prog l W) (X : (l.filter λx => x.2.handleName?.isSome) = [("errors.errorType", Rows.laid_errors_errorType)]) (hl2 : (l.filter λx => x.2.handleName?.isNone) = [("unicode/utf8.acceptRanges", Rows.laid_unicode_utf8_acceptRanges), ("wringer/merge.errOrder", Rows.laid_wringer_merge_errOrder), ("unicode/utf8.first", Rows.laid_unicode_utf8_first)]) : Top.ErrO (roM W) := by
 unfold laidMetH at h;rw [X] at h;have I:=h.1;rw [hl2] at I;obtain ⟨ps,⟨_,_,_,_,_,_,_,_,_,_,⟨g,t,cs,J,p,q,e1,e2,e3,e4,_⟩,_⟩,_⟩:=I;have Q : prog.globalNamed "wringer/merge.errOrder" = some 1 := by kernel_rfl
 obtain rfl:g=1:=Option.some.inj (e1.symm.trans Q);have U:(prog.globals[1]?).map (·.type)=some 63:=by kernel_rfl
 obtain rfl:t=63:=Option.some.inj (e2.symm.trans U);obtain ⟨f',u,v,A,_,_⟩:=iface_of_trod Er.under e4;refine ⟨u,v,zfx λj x C=>?_⟩
 match j,C with
 | 0,C =>
  have V:x = .iface u v:=(Option.some.inj C).symm;have Y:=World.var?_cell Q e3 0;have H:cs[0]?=some (.iface u v):=by rw [<- Array.getElem?_toList,A];rfl
  rw [V];simpa [Addr.add] using Y.trans H
end
end Go.Proofs.YtopiogkolaelnaaGreatDoor
