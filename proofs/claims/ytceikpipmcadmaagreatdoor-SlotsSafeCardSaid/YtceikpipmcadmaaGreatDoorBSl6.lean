/-
  Texts that belong together: As, As2, Ifc, Mf6, MfR4, MfMath2, MfMath3, Mf7, Mf8, Mf9, Mf10, MfMath4, MfLv0, Mf11, MfEq, RecLv0, MfLv, MfR3, DiskOpen, MfOpen.
-/
import Derived.Test.YtceikpipmcadmaaGreatDoorBSl5
import Derived.WalkKit
import Derived.LaidEql
import Derived.Stop.Asserts
import Derived.RowKitTokens
import Derived.LaidHandle
import Derived.Test.YtceikpipmcadmaaGreatDoorRows
set_option linter.unusedVariables false
set_option linter.unusedSimpArgs false
set_option linter.unusedSectionVars false
namespace Go.Proofs.YtceikpipmcadmaaGreatDoor
open Go.RowKit Go.Extern.Stop Go.Stop Go.Extern
set_option maxRecDepth 4000
namespace As
/-- errors.As of no error. -/
theorem nil (t : Value) (w : World) : Calls Tryz.prog 79 #[.nilIface, t] w fun e w' => e = .returned (.bool false) ∧ w' = w := by
 go_enter Tryz.func79,Tryz.ntmps79
 go_wp2
 go_ret
 exact ⟨rfl,rfl⟩
abbrev hd (t : TypeId) : Value := .pointer (some ⟨4, t, none⟩)
abbrev tE : TypeId := 29
abbrev tF : TypeId := 151
abbrev tR : TypeId := 197
theorem valueOfP (t : Addr) (w : World) : (ReflectliteValue.unpack (.iface 118 (.pointer (some t)))).run Tryz.prog w
  = .ok (.agg #[.pointer (some ⟨4,118,none⟩),.pointer (some ⟨w.heap.size,0,none⟩),.int .u64 150]) (w.alloc (.cells #[.pointer (some t)] 118)):=by kernel_rfl
theorem typeP (a : Addr) (w : World) : (ReflectliteValue.methodAny (ReflectliteValue.valueError "reflectlite.Value.Type" 0) (fun t _ _ _ => ReflectliteType.toType t) #[.agg #[.pointer (some ⟨4, 118, none⟩), .pointer (some a), .int .u64 150]]).run Tryz.prog w
  = .ok (.iface 197 (.agg #[.pointer (some ⟨4,118,none⟩)])) w:=by kernel_rfl
theorem methodKind (h : Value) (w : World) : (Go.method 167 197 (.agg #[h]) "Kind").run Tryz.prog w = .ok (207, h) w := by kernel_rfl
theorem kindP (w : World) : ((ReflectliteType.abiMethod fun t => (fun a : Nat => Value.int IntKind.u8 (a : Int)) <$> Rtype.kind t) #[.pointer (some ⟨4, 118, none⟩)]).run Tryz.prog w = .ok (.int .u8 22) w := by kernel_rfl
theorem kindE (w : World) : ((ReflectliteType.abiMethod fun t => (fun a : Nat => Value.int IntKind.u8 (a : Int)) <$> Rtype.kind t) #[.pointer (some ⟨4, 29, none⟩)]).run Tryz.prog w = .ok (.int .u8 2) w := by kernel_rfl
theorem rlm (z : Sem Value) (f : TypeId → Addr → Nat → Nat → Sem Value) (v : Value) :
  ReflectliteValue.method z f #[v]=(do match ← ReflectliteValue.parts v with | none=>z | some (t,a,fl)=>f t a fl (fl % 32)):=rfl
theorem partsP (a : Addr) (w : World) : (ReflectliteValue.parts (.agg #[.pointer (some ⟨4, 118, none⟩), .pointer (some a), .int .u64 150])).run Tryz.prog w = .ok (some (118, a, 150)) w := by kernel_rfl
theorem isNilP (a p : Addr) (W : World) (ha : W.cell? a = some (.pointer (some p))) :
  (ReflectliteValue.method (ReflectliteValue.valueError "reflectlite.Value.IsNil" 0) ReflectliteValue.isNil #[.agg #[.pointer (some ⟨4, 118, none⟩), .pointer (some a), .int .u64 150]]).run Tryz.prog W = .ok (.bool false) W := by
 rw [rlm]
 simp only [Sem.run_bind,partsP,Result.andThen]
 simp [ReflectliteValue.isNil,loadVar,isAgg,underlying,Tryz.underlying118,ha,Result.andThen]
theorem methodElem (h : Value) (w : World) : (Go.method 167 197 (.agg #[h]) "Elem").run Tryz.prog w = .ok (220, .agg #[h]) w := by kernel_rfl
theorem methodImplements (h : Value) (w : World) : (Go.method 167 197 (.agg #[h]) "Implements").run Tryz.prog w = .ok (221, .agg #[h]) w := by kernel_rfl
theorem methodAssignableTo (h : Value) (w : World) : (Go.method 167 197 (.agg #[h]) "AssignableTo").run Tryz.prog w = .ok (218, .agg #[h]) w := by kernel_rfl
theorem methodUnwrap (h : Value) (w : World) : (Go.method 205 151 h "Unwrap").run Tryz.prog w = .ok (213, h) w := by kernel_rfl
theorem elemP (w : World) : (ReflectliteType.method ReflectliteType.elem #[.agg #[.pointer (some ⟨4, 118, none⟩)]]).run Tryz.prog w = .ok (.iface 197 (.agg #[.pointer (some ⟨4, 29, none⟩)])) w := by kernel_rfl
theorem implementsE (w : World) : (ReflectliteType.relation "Implements" ReflectliteType.implements_ #[.agg #[.pointer (some ⟨4, 29, none⟩)], .iface 197 (.agg #[.pointer (some ⟨4, 72, none⟩)])]).run Tryz.prog w = .ok (.bool true) w := by kernel_rfl
theorem typeOfF (v : Value) (w : World) : (ReflectliteType.typeOf #[.iface 151 v]).run Tryz.prog w = .ok (.iface 197 (.agg #[.pointer (some ⟨4, 151, none⟩)])) w := by kernel_rfl
theorem typeOfE (v : Value) (w : World) : (ReflectliteType.typeOf #[.iface 29 v]).run Tryz.prog w = .ok (.iface 197 (.agg #[.pointer (some ⟨4, 29, none⟩)])) w := by kernel_rfl
theorem assignableF (w : World) : (ReflectliteType.relation "AssignableTo" ReflectliteType.assignableTo #[.agg #[.pointer (some ⟨4, 151, none⟩)], .iface 197 (.agg #[.pointer (some ⟨4, 29, none⟩)])]).run Tryz.prog w = .ok (.bool false) w := by kernel_rfl
theorem assignableE (w : World) : (ReflectliteType.relation "AssignableTo" ReflectliteType.assignableTo #[.agg #[.pointer (some ⟨4, 29, none⟩)], .iface 197 (.agg #[.pointer (some ⟨4, 29, none⟩)])]).run Tryz.prog w = .ok (.bool true) w := by kernel_rfl
theorem valueOfE (c : Int) (w : World) : (ReflectliteValue.unpack (.iface 29 (.int .i64 c))).run Tryz.prog w
  = .ok (.agg #[.pointer (some ⟨4,29,none⟩),.pointer (some ⟨w.heap.size,0,none⟩),.int .u64 130]) (w.alloc (.cells #[.int .i64 c] 29)):=by kernel_rfl
theorem elemOfP (w : World) : (Rtype.elem? 118).run Tryz.prog w = .ok (some 29) w := by kernel_rfl
theorem mkE (p : Addr) (w : World) : (ReflectliteValue.mk 29 p ReflectliteValue.flagAddr).run Tryz.prog w = .ok (.agg #[.pointer (some ⟨4, 29, none⟩), .pointer (some p), .int .u64 386]) w := by kernel_rfl
theorem elemVP (a p : Addr) (W : World) (ha : W.cell? a = some (.pointer (some p))) :
  (ReflectliteValue.method (ReflectliteValue.valueError "reflectlite.Value.Elem" 0) ReflectliteValue.elem #[.agg #[.pointer (some ⟨4, 118, none⟩), .pointer (some a), .int .u64 150]]).run Tryz.prog W
   = .ok (.agg #[.pointer (some ⟨4,29,none⟩),.pointer (some p),.int .u64 386]) W:=by
 rw [rlm]
 simp only [Sem.run_bind,partsP,Result.andThen]
 simp [ReflectliteValue.elem,loadVar,isAgg,underlying,Tryz.underlying118,ha,Result.andThen,elemOfP,mkE]
theorem rls (v x : Value) : ReflectliteValue.set #[v, x] = (do
  let (some (dst,a,fl),some (src,b,_)):=(← ReflectliteValue.parts v,← ReflectliteValue.parts x)
   | unsupported (.noEntry "extern/(internal/reflectlite.Value).Set.zeroValue")
  if fl / ReflectliteValue.flagAddr % 2 == 0 then unsupported (.noEntry "extern/(internal/reflectlite.Value).Set.unaddressable")
  let val ← loadVar src b
  if ← Rtype.directlyAssignable dst src then storeVar dst a val
  else if ← Rtype.implements dst src then
   if (← Rtype.kind src) == 20 then
    match val with
    | .nilIface => unsupported (.noEntry "extern/reflectlite: a nil value of one interface type handed on as a value of another")
    | _=>storeVar dst a val
   else storeVar dst a (.iface src val)
  else panicString ("reflectlite.Set: value of type " ++ (← Rtype.spelt src) ++ " is not assignable to type " ++ (← Rtype.spelt dst))
  pure (.tuple #[])):=rfl
theorem partsEa (a : Addr) (w : World) : (ReflectliteValue.parts (.agg #[.pointer (some ⟨4, 29, none⟩), .pointer (some a), .int .u64 386])).run Tryz.prog w = .ok (some (29, a, 386)) w := by kernel_rfl
theorem partsE (a : Addr) (w : World) : (ReflectliteValue.parts (.agg #[.pointer (some ⟨4, 29, none⟩), .pointer (some a), .int .u64 130])).run Tryz.prog w = .ok (some (29, a, 130)) w := by kernel_rfl
theorem directE (w : World) : (Rtype.directlyAssignable 29 29).run Tryz.prog w = .ok true w := by kernel_rfl
theorem setE (ta b : Addr) (c : Int) (old : Value) (W : World) (hb : W.cell? b = some (.int .i64 c)) (ht : W.cell? ta = some old) (hf : W.frozen? ta = false) :
  (ReflectliteValue.set #[.agg #[.pointer (some ⟨4,29,none⟩),.pointer (some ta),.int .u64 386],.agg #[.pointer (some ⟨4,29,none⟩),.pointer (some b),.int .u64 130]]).run Tryz.prog W
   = .ok (.tuple #[]) (W.setCell ta (.int .i64 c)):=by
 rw [rls]
 simp only [Sem.run_bind,partsEa,partsE,Result.andThen]
 simp [ReflectliteValue.flagAddr,loadVar,isAgg,underlying,Tryz.underlying29,hb,Result.andThen,directE,storeVar,Value.cells,storeCells,Addr.add]
 rw [run_store Tryz.prog W ta _ _ (by rfl)]
 simp [ht,hf]
/-- The error that a fault wraps. -/
theorem unwrap (p : Addr) (c : Int) (w : World) (h : w.cell? p = some (.int .i64 c)) : Calls Tryz.prog 213 #[.pointer (some p)] w fun e w' => e = .returned (.iface 29 (.int .i64 c)) ∧ w' = w := by
 go_enter Tryz.func213,Tryz.ntmps213
 go_wp2
 go_ret
 exact ⟨rfl,rfl⟩
end As
end Go.Proofs.YtceikpipmcadmaaGreatDoor
namespace Go.Proofs.YtceikpipmcadmaaGreatDoor
open Go.RowKit Go.Extern.Stop Go.Stop Go.Extern
set_option maxRecDepth 4000
namespace As
theorem noAs (v : Value) (xT : TypeId) (w : World) : (Instr.typeAssert (.iface 151 v) xT 202 true).run Tryz.prog w = .ok (.tuple #[.nilIface, .bool false]) w := run_typeAssert_lacksB Tryz.underlying202 (by kernel_rfl) (by kernel_rfl) v xT w
theorem hasUnwrap (v : Value) (xT : TypeId) (w : World) : (Instr.typeAssert (.iface 151 v) xT 205 true).run Tryz.prog w = .ok (.tuple #[.iface 151 v, .bool true]) w := run_typeAssert_hasB Tryz.underlying205 (by kernel_rfl) v xT w
set_option maxHeartbeats 8000000 in
theorem hit (e t : Addr) (c : Int) (old : Value) (w : World) (hg : w.cell? ⟨0, 0, none⟩ = some (.iface 197 (.agg #[.pointer (some ⟨4, 72, none⟩)]))) (he : w.cell? e = some (.int .i64 c)) (ht0 : w.cell? t = some old) (hf0 : w.frozen? t = false) :
  Calls Tryz.prog 79 #[.iface 151 (.pointer (some e)),.iface 118 (.pointer (some t))] w fun ev w'=>ev = .returned (.bool true)∧w'=((((w.alloc (.cells #[.pointer (some t)] 118)).alloc (.cells #[.pointer (some ⟨4,118,none⟩),.pointer (some ⟨w.heap.size,0,none⟩),.int .u64 150] 164)).alloc (.cells #[.pointer (some ⟨4,118,none⟩),.pointer (some ⟨w.heap.size,0,none⟩),.int .u64 150] 164)).alloc (.cells #[.int .i64 c] 29)).setCell t (.int .i64 c):=by
 have h6:=@run_callFunc_extern Tryz.prog 128 _ (fun args=>ReflectliteValue.unpack (args.getD 0 (.tuple #[]))) Tryz.func128 (by kernel_rfl) (by kernel_rfl) (by kernel_rfl) (by kernel_rfl)
 have h7 := @run_callFunc_extern Tryz.prog 129 _ (ReflectliteValue.methodAny (ReflectliteValue.valueError "reflectlite.Value.Type" 0) (fun t _ _ _ => ReflectliteType.toType t)) Tryz.func129 (by kernel_rfl) (by kernel_rfl) (by kernel_rfl) (by kernel_rfl)
 have h8 := @run_callFunc_extern Tryz.prog 130 _ (ReflectliteValue.method (ReflectliteValue.valueError "reflectlite.Value.IsNil" 0) ReflectliteValue.isNil) Tryz.func130 (by kernel_rfl) (by kernel_rfl) (by kernel_rfl) (by kernel_rfl)
 have h27:=@run_callFunc_extern Tryz.prog 207 _ (ReflectliteType.abiMethod fun t=>do pure (.int .u8 (← Rtype.kind t))) Tryz.func207 (by kernel_rfl) (by kernel_rfl) (by kernel_rfl) (by kernel_rfl)
 have h37:=@run_callFunc_extern Tryz.prog 220 _ (ReflectliteType.method ReflectliteType.elem) Tryz.func220 (by kernel_rfl) (by kernel_rfl) (by kernel_rfl) (by kernel_rfl)
 have h38 := @run_callFunc_extern Tryz.prog 221 _ (ReflectliteType.relation "Implements" ReflectliteType.implements_) Tryz.func221 (by kernel_rfl) (by kernel_rfl) (by kernel_rfl) (by kernel_rfl)
 have h10:=@run_callFunc_extern Tryz.prog 164 _ ReflectliteType.typeOf Tryz.func164 (by kernel_rfl) (by kernel_rfl) (by kernel_rfl) (by kernel_rfl)
 have h35 := @run_callFunc_extern Tryz.prog 218 _ (ReflectliteType.relation "AssignableTo" ReflectliteType.assignableTo) Tryz.func218 (by kernel_rfl) (by kernel_rfl) (by kernel_rfl) (by kernel_rfl)
 have h11 := @run_callFunc_extern Tryz.prog 165 _ (ReflectliteValue.method (ReflectliteValue.valueError "reflectlite.Value.Elem" 0) ReflectliteValue.elem) Tryz.func165 (by kernel_rfl) (by kernel_rfl) (by kernel_rfl) (by kernel_rfl)
 have h12:=@run_callFunc_extern Tryz.prog 166 _ ReflectliteValue.set Tryz.func166 (by kernel_rfl) (by kernel_rfl) (by kernel_rfl) (by kernel_rfl)
 have tF:=typeOfF
 have tE:=typeOfE
 have mA:=methodAssignableTo
 have aF:=assignableF
 have aE:=assignableE
 have vE:=valueOfE
 have f6:=valueOfP
 have f7:=typeP
 have mK:=methodKind
 have mE:=methodElem
 have mI:=methodImplements
 have mU:=methodUnwrap
 have kP:=kindP
 have kE:=kindE
 have eP:=elemP
 have iE:=implementsE
 have nA:=noAs
 have hU:=hasUnwrap
 have n8:=isNilP ⟨w.heap.size,0,none⟩ t ((w.alloc (.cells #[.pointer (some t)] 118)).alloc (.cells #[.pointer (some ⟨4,118,none⟩),.pointer (some ⟨w.heap.size,0,none⟩),.int .u64 150] 164)) (by simp)
 have hlt:0<w.heap.size:=by
  rcases Nat.eq_zero_or_pos w.heap.size with h0 | h
  ·simp [World.cell?,h0] at hg
  ·exact h
 have hg2:((w.alloc (.cells #[.pointer (some t)] 118)).alloc (.cells #[.pointer (some ⟨4,118,none⟩),.pointer (some ⟨w.heap.size,0,none⟩),.int .u64 150] 164)).cell? ⟨0,0,none⟩=some (.iface 197 (.agg #[.pointer (some ⟨4,72,none⟩)])):=by
  rw [World.cell?_alloc_lt _ _ ⟨0,0,none⟩ (by simp),World.cell?_alloc_lt _ _ ⟨0,0,none⟩ hlt];exact hg
 have htl:t.block<w.heap.size:=by
  rcases Nat.lt_or_ge t.block w.heap.size with h | h
  ·exact h
  ·simp [World.cell?,Array.getElem?_eq_none h] at ht0
 have hel:e.block<w.heap.size:=by
  rcases Nat.lt_or_ge e.block w.heap.size with h | h
  ·exact h
  ·simp [World.cell?,Array.getElem?_eq_none h] at he
 have he3:(((w.alloc (.cells #[.pointer (some t)] 118)).alloc (.cells #[.pointer (some ⟨4,118,none⟩),.pointer (some ⟨w.heap.size,0,none⟩),.int .u64 150] 164)).alloc (.cells #[.pointer (some ⟨4,118,none⟩),.pointer (some ⟨w.heap.size,0,none⟩),.int .u64 150] 164)).cell? e=some (.int .i64 c):=by
  rw [World.cell?_alloc_lt _ _ e (by simp;omega),World.cell?_alloc_lt _ _ e (by simp;omega),World.cell?_alloc_lt _ _ e hel];exact he
 have hw:=unwrap e c (((w.alloc (.cells #[.pointer (some t)] 118)).alloc (.cells #[.pointer (some ⟨4,118,none⟩),.pointer (some ⟨w.heap.size,0,none⟩),.int .u64 150] 164)).alloc (.cells #[.pointer (some ⟨4,118,none⟩),.pointer (some ⟨w.heap.size,0,none⟩),.int .u64 150] 164)) he3
 have el:=elemVP ⟨w.heap.size,0,none⟩ t (((w.alloc (.cells #[.pointer (some t)] 118)).alloc (.cells #[.pointer (some ⟨4,118,none⟩),.pointer (some ⟨w.heap.size,0,none⟩),.int .u64 150] 164)).alloc (.cells #[.pointer (some ⟨4,118,none⟩),.pointer (some ⟨w.heap.size,0,none⟩),.int .u64 150] 164)) (by rw [World.cell?_alloc_lt _ _ ⟨w.heap.size,0,none⟩ (by simp;omega),World.cell?_alloc_lt _ _ ⟨w.heap.size,0,none⟩ (by simp),World.cell?_alloc_at _ _ _ _ (by simp)];rfl)
 have st:=setE t ⟨w.heap.size+1+1+1,0,none⟩ c old ((((w.alloc (.cells #[.pointer (some t)] 118)).alloc (.cells #[.pointer (some ⟨4,118,none⟩),.pointer (some ⟨w.heap.size,0,none⟩),.int .u64 150] 164)).alloc (.cells #[.pointer (some ⟨4,118,none⟩),.pointer (some ⟨w.heap.size,0,none⟩),.int .u64 150] 164)).alloc (.cells #[.int .i64 c] 29))
  (by rw [World.cell?_alloc_at _ _ _ _ (by simp)];rfl)
  (by rw [World.cell?_alloc_lt _ _ t (by simp;omega),World.cell?_alloc_lt _ _ t (by simp;omega),World.cell?_alloc_lt _ _ t (by simp;omega),World.cell?_alloc_lt _ _ t htl];exact ht0)
  (by rw [World.frozen?_alloc_old _ _ t (by simp;omega),World.frozen?_alloc_old _ _ t (by simp;omega),World.frozen?_alloc_old _ _ t (by simp;omega),World.frozen?_alloc_old _ _ t (Nat.ne_of_lt htl)];exact hf0)
 go_enter Tryz.func79,Tryz.ntmps79
 go_wp2
 refine wp_loop_rounds 2 ?_
 rw [rounds_succ]
 go_wp2_with (first | (go_at_call 213;refine hw.mono ?_;rintro e w' ⟨rfl,rfl⟩))
 rw [rounds_succ]
 go_wp2
 go_ret
 exact ⟨rfl,rfl⟩
end As
end Go.Proofs.YtceikpipmcadmaaGreatDoor
namespace Go.Proofs.YtceikpipmcadmaaGreatDoor
open Go.RowKit
namespace Mv
theorem Calm.mkI {P : Program} {N : Nat} {E : Env} {S : Mem} {dst : Option Nat} {T ty : TypeId} {pos : String} {aft : Array Edge} {gd : Option (Nat × Bool)} {x : Operand} {v : Value} (hT : P.concrete T = true) (hx : ev E x = some v) : ACalm P N ⟨dst, .makeInterface T x, ty, pos, aft, gd⟩ E S (.iface T v) := fun a w g hv => by
 simp only [execOp,g.ev hx]
 rw [Sem.run_bind,run_makeInterface (h:=hT)]
 rfl
end Mv
open Mv
namespace As
theorem goAs : goFn Tryz.prog 79 = true := by kernel_rfl
instance : TGo Tryz.prog 79 := ⟨goAs⟩
/-- errors.As of no error. -/
theorem asNil (t : Value) (S : Mem) : ACall Tryz.prog 79 #[.nilIface, t] S fun r S' => r = .bool false ∧ S' = S := ACall.of_same fun w => nil t w
theorem asHit (S : Mem) (e t : Nat) (te : TypeId) (c : Int) (old : Value) (ke kt : Nat) (hg : S.Knows ⟨0, 0, none⟩ [.iface 197 (.agg #[.pointer (some ⟨4, 72, none⟩)])]) (he : S.own e = some ⟨te, [.int .i64 c], ke⟩) (ht : S.own t = some ⟨29, [old], kt⟩) :
  ACall Tryz.prog 79 #[.iface 151 (.pointer (some ⟨e,0,none⟩)),.iface 118 (.pointer (some ⟨t,0,none⟩))] S fun r S'=>r = .bool true∧S'=S.set t ⟨29,[.int .i64 c],kt⟩:=fun w hv=>by
 have hgw:=hg w hv 0 _ rfl
 have hew:=hv.rd (rd_own' (j:=0) he rfl)
 have htw:=hv.rd (rd_own' (j:=0) ht rfl)
 obtain ⟨cur,fz,h1,h2,h3,h4⟩:=hv.own t _ ht
 have hcl:0<cur.size:=by have:=h2.length_le;simp at this;omega
 have hfz:w.frozen? ⟨t,0,none⟩=false:=by
  have:=h4 0 (.inl hcl)
  simp only [World.frozen?,h1]
  simpa using this
 refine (hit ⟨e,0,none⟩ ⟨t,0,none⟩ c old w hgw hew htw hfz).mono fun ev w' ⟨h5,h6⟩=>?_
 subst h6
 have hb:=Below.alloc (Below.alloc (Below.alloc (Below.alloc (Below.refl w.heap.size w) (Nat.le_refl _) (.cells #[.pointer (some ⟨t,0,none⟩)] 118)) (by simp) (.cells #[.pointer (some ⟨4,118,none⟩),.pointer (some ⟨w.heap.size,0,none⟩),.int .u64 150] 164)) (by simp;omega) (.cells #[.pointer (some ⟨4,118,none⟩),.pointer (some ⟨w.heap.size,0,none⟩),.int .u64 150] 164)) (by simp;omega) (.cells #[.int .i64 c] 29)
 have s1:=Step.below hv hb
 have s2:=(store_cells (P:=Tryz.prog) s1.view ht (o:=0) (vs:=[.int .i64 c]) (Nat.zero_le _) (.inl (by simp)) (fun v hv=>by simp only [List.mem_cons,List.not_mem_nil,or_false] at hv;subst hv;rfl)).2
 refine ⟨_,_,h5,⟨rfl,rfl⟩,?_⟩
 have s3:=s1.trans s2
 simpa [spl,World.setCells] using s3
end As
end Go.Proofs.YtceikpipmcadmaaGreatDoor
namespace Go.Proofs.YtceikpipmcadmaaGreatDoor
open Go.RowKit
open Mv Disk Num
set_option maxRecDepth 4000
namespace Slo
def tl (s : ByteArray) (n : Nat) : ByteArray := s.extract n s.size
theorem tl_size (s : ByteArray) (n : Nat) : (tl s n).size = s.size - n := by unfold tl; rw [ByteArray.size_extract, Nat.min_self]
theorem tl_list (s : ByteArray) (n : Nat) : (tl s n).data.toList = s.data.toList.drop n := by
 unfold tl
 rw [Lib.extract_data,List.take_of_length_le (by rw [List.length_drop,St.len_list];omega)]
theorem tl_tl (s : ByteArray) (n k m : Nat) (h : m = n + k) : (tl s n).extract k (tl s n).size = tl s m := by
 apply str_ext
 subst h
 rw [show (tl s n).extract k (tl s n).size=tl (tl s n) k from rfl,tl_list,tl_list,tl_list,List.drop_drop]
theorem at_number (s : ByteArray) (n m p : Nat) (S : Mem) (hp : S.own p = some (rdB (tl s n))) (hm : m = n + 5) (hn : m ≤ s.size) (hs : s.size ≤ 9223372036854775807) :
  ACall Tryz.prog 124 #[.pointer (some ⟨p,0,none⟩)] S fun r S'=>r = .int .u64 (ofB ((s.data.toList.drop n).take 5):Nat)∧S'=S.set p (rdB (tl s m)):=by
 have:=slo_number (tl s n) p S hp (by rw [tl_size];omega) (by rw [tl_size];omega)
 rwa [tl_list,tl_tl s n 5 m hm] at this
theorem at_sum (s : ByteArray) (n m p : Nat) (S : Mem) (hp : S.own p = some (rdB (tl s n))) (hm : m = n + 4) (hn : m ≤ s.size) (hs : s.size ≤ 9223372036854775807) :
  ACall Tryz.prog 126 #[.pointer (some ⟨p,0,none⟩)] S fun r S'=>r = .int .u32 (leN ((s.data.toList.drop n).take 4):Nat)∧S'=S.set p (rdB (tl s m)):=by
 have:=slo_sum (tl s n) p S hp (by rw [tl_size];omega) (by rw [tl_size];omega)
 rwa [tl_list,tl_tl s n 4 m hm] at this
theorem at_name (s : ByteArray) (n m p : Nat) (S : Mem) (hp : S.own p = some (rdB (tl s n))) (hm : m = n + 16) (hn : m ≤ s.size) (hs : s.size ≤ 9223372036854775807) :
  ACall Tryz.prog 127 #[.pointer (some ⟨p,0,none⟩)] S fun r S'=>r = .string (bs (St.rtrim 0 ((s.data.toList.drop n).take 16)))∧S'=S.set p (rdB (tl s m)):=by
 have:=slo_name (tl s n) p S hp (by rw [tl_size];omega) (by rw [tl_size];omega)
 rwa [tl_list,tl_tl s n 16 m hm] at this
theorem at_byte (s : ByteArray) (n m p : Nat) (S : Mem) (hp : S.own p = some (rdB (tl s n))) (hm : m = n + 1) (hn : m ≤ s.size) (hs : s.size ≤ 9223372036854775807) :
  ACall Tryz.prog 125 #[.pointer (some ⟨p,0,none⟩),.int .i64 1] S fun r S'=>r = .string (bs [at8 s.data.toList n])∧S'=S.set p (rdB (tl s m)):=by
 have h:=slo_take (tl s n) 1 p S hp (by rw [tl_size];omega) (by rw [tl_size];omega)
 have e:(tl s n).extract 0 1=bs [at8 s.data.toList n]:=by
  apply str_ext
  rw [ext0,tl_list,bs_data,List.drop_eq_getElem_cons (by rw [St.len_list];omega),at8_get _ _ (by rw [St.len_list];omega)]
  rfl
 rwa [e,tl_tl s n 1 m hm] at h
theorem set_under {M : Mem} {a b : Nat} {X X' Y : Blk} (n : a ≠ b) : ((M.set a X).set b Y).set a X' = (M.set a X').set b Y := by
 rw [Mem.set_comm _ _ _ (Ne.symm n),Mem.set_set]
def ftB (e : Int) : Blk := ⟨153, [.int .i64 e], 1⟩
def ftV (b : Nat) : Value := .iface 151 (.pointer (some ⟨b, 0, none⟩))
/-- What read answers. -/
def ReadS (s : ByteArray) (S : Mem) (r : Value) (S' : Mem) : Prop :=
  ((decM s).2 = 0 ∧ r = .tuple #[mfV (decM s).1, .nilIface] ∧ S' = S) ∨ ((decM s).2 ≠ 0 ∧ ∃ b, Fresh S b ∧ r = .tuple #[mfV M0, ftV b] ∧ S' = S.set b (ftB (decM s).2))
theorem rtrim_size (l : List UInt8) (n : Nat) : (bs (St.rtrim 0 (l.take n))).size ≤ n := by
 rw [size_bs]
 unfold St.rtrim
 rw [List.length_reverse]
 have h1:=(List.dropWhile_sublist (l:=(l.take n).reverse) (fun x=>x == (0:UInt8))).length_le
 rw [List.length_reverse,List.length_take] at h1
 omega
theorem zero_iff (l : List UInt8) : decide (bs ((St.rtrim 0 l).dropWhile (· == 0)) = ⟨#[]⟩) = Rec.zeroL l := by
 have h:=St.trim_nil l
 unfold Rec.zeroL
 rw [Bool.eq_iff_iff,decide_eq_true_eq,← h]
 constructor
 ·intro e;have:=congrArg (fun x=>x.data.toList) e;rw [bs_data] at this;exact this
 ·intro e;rw [e];rfl
set_option maxHeartbeats 4000000 in
theorem slo_read (s : ByteArray) (S : Mem) (hs : s.size ≤ 9223372036854775807) : ACall Tryz.prog 78 #[.string s] S (ReadS s S) := by
 unfold ReadS decM
 by_cases h64:s.size=64
 ·rw [if_neg (by omega)]
  have hpre:=fun S=>St.HasPrefix s ⟨#[77,70]⟩ S hs (by decide)
  rw [show (⟨#[77,70]⟩ : ByteArray).size=2 from rfl,show (⟨#[77,70]⟩ : ByteArray).data.toList = [77,70] from rfl] at hpre
  have htr:=fun S=>St.trim0 (s.extract 58 s.size) S (by rw [ByteArray.size_extract];omega)
  rw [show s.extract 58 s.size=tl s 58 from rfl,tl_list] at htr
  by_cases h1:s.data.toList.take 2 = [77,70]
  ·rw [decide_eq_true h1] at hpre
   by_cases h2:Rec.zeroL (s.data.toList.drop 58)=true
   ·rw [if_neg (by rintro (h | h);exact h h1;rw [h2] at h;cases h)]
    have hz:decide (bs ((St.rtrim 0 (s.data.toList.drop 58)).dropWhile (· == 0))=⟨#[]⟩)=true:=by rw [zero_iff];exact h2
    have hz:=of_decide_eq_true hz
    have ho:∀ M,ACall Tryz.prog 123 #[.string (s.extract 0 58)] M fun r S'=>r = .tuple #[.string (openS (s.extract 0 58)).1,.int .i64 (openS (s.extract 0 58)).2]∧S'=M:=fun M=>ACall.of_calls fun w=>crc_Open _ (by rw [ByteArray.size_extract,h64];decide) w
    by_cases h3:(openS (s.extract 0 58)).2=0
    ·rw [if_neg (by omega)]
     rw [h3] at ho
     have hc:=fun S=>slo_Check (fieldsM s) S (Nat.le_trans (rtrim_size _ 16) (by decide)) (Nat.le_trans (rtrim_size _ 16) (by decide))
     have hcv:∀ S,ACall Tryz.prog 34 #[.agg #[.int .u64 (ofB ((s.data.toList.drop 2).take 5):Nat),.int .u8 ((at8 s.data.toList 7).toNat:Int),.int .u64 (ofB ((s.data.toList.drop 8).take 5):Nat),.int .u64 (ofB ((s.data.toList.drop 13).take 5):Nat),.int .u32 (leN ((s.data.toList.drop 18).take 4):Nat),.string (bs (St.rtrim 0 ((s.data.toList.drop 22).take 16))),.string (bs (St.rtrim 0 ((s.data.toList.drop 38).take 16)))]] S fun r S'=>r = .int .i64 (chkM (fieldsM s))∧S'=S:=hc
     have hfv:mfV (fieldsM s) = .agg #[.int .u64 (ofB ((s.data.toList.drop 2).take 5):Nat),.int .u8 ((at8 s.data.toList 7).toNat:Int),.int .u64 (ofB ((s.data.toList.drop 8).take 5):Nat),.int .u64 (ofB ((s.data.toList.drop 13).take 5):Nat),.int .u32 (leN ((s.data.toList.drop 18).take 4):Nat),.string (bs (St.rtrim 0 ((s.data.toList.drop 22).take 16))),.string (bs (St.rtrim 0 ((s.data.toList.drop 38).take 16)))]:=rfl
     clear hc
     by_cases h4:chkM (fieldsM s)=0
     ·rw [if_neg (by omega),hfv]
      rw [h4] at hcv
      refine ACall.enter (rs:=[.cell 2 55,.tmp 3]) 80 [(0,.string s)] Tryz.func78 rfl rfl (Nat.le_of_ble_eq_true rfl) rfl ⟨rfl,trivial⟩ ?_
      iterate 2 refine s1_ ?_
      refine ARun.alloc (lit_lt rfl) ty_zero_55 ?_
      intro b2 f2
      have g2:=f2
      repeat ((with_reducible replace g2:=fresh_set g2);obtain ⟨g2,_⟩:=g2)
      refine nl_ ?_
      iterate 13 refine s1_ ?_
      refine su_ [(0,_),(2,_),(3,_),(9,_)] ?_
      refine cF_ ?_
      iterate 3 refine s1_ ?_
      refine ca_ rfl (hpre _) ?_
      rintro _ Sx ⟨rfl,hS⟩
      rw [hS];clear hS Sx
      iterate 4 refine s1_ ?_
      refine ARun.callG 3 false 21 rfl (lit_lt rfl) rfl (lit_lt rfl) go_122 rfl (htr _) ?_
      rintro _ Sx ⟨rfl,hS⟩
      rw [hS];clear hS Sx
      first|refine k_q 21 ?_|refine rG 21 (Calm.bin rfl rfl (bin_bool (bin_str_neq _ _) (bnot_dec_false hz))) ?_
      iterate 4 refine s1_ ?_
      refine su_ [(0,_),(2,_),(3,_),(9,_),(17,_)] ?_
      refine cF_ ?_
      iterate 8 refine s1_ ?_
      refine ca_ rfl (ho _) ?_
      rintro _ Sx ⟨rfl,hS⟩
      rw [hS];clear hS Sx
      iterate 7 refine s1_ ?_
      refine su_ [(0,_),(2,_),(3,_),(9,_),(17,_),(5,_)] ?_
      iterate 6 refine s1_ ?_
      refine su_ [(0,_),(2,_),(3,_),(9,_),(17,_),(5,_),(38,_)] ?_
      refine cF_ ?_
      iterate 7 refine s1_ ?_
      refine ARun.boxA (cs:=[_]) (lit_lt rfl) rfl ?_
      intro b47 f47
      have g47:=f47
      repeat ((with_reducible replace g47:=fresh_set g47);obtain ⟨g47,_⟩:=g47)
      refine nl_ ?_
      iterate 3 refine s1_ ?_
      refine su_ [(0,_),(2,_),(3,_),(9,_),(17,_),(5,_),(38,_),(6,_)] ?_
      iterate 2 refine s1_ ?_
      refine ARun.alloc (lit_lt rfl) ty_zero_55 ?_
      intro b7 f7
      have g7:=f7
      repeat ((with_reducible replace g7:=fresh_set g7);obtain ⟨g7,_⟩:=g7)
      refine nl_ ?_
      iterate 2 refine s1_ ?_
      have n477:b47≠b7:=Ne.symm (fresh_set f7).2
      iterate 3 refine s1_ ?_
      refine ca_ rfl (at_number s 2 7 b47 _ own_ rfl (by omega) hs) ?_
      rintro _ Sx ⟨rfl,hS⟩
      rw [hS,set_under n477];clear hS Sx
      iterate 4 refine s1_ ?_
      refine su_ [(0,_),(2,_),(3,_),(9,_),(17,_),(5,_),(38,_),(6,_),(7,_)] ?_
      iterate 3 refine s1_ ?_
      refine ca_ rfl (at_byte s 7 8 b47 _ own_ rfl (by omega) hs) ?_
      rintro _ Sx ⟨rfl,hS⟩
      rw [hS,set_under n477];clear hS Sx
      refine rC (Calm.as (congrArg (Value.int .u8) (show nb (at8 s.data.toList 7)=((at8 s.data.toList 7).toNat:Int) from rfl)) (Calm.indexStrC (j:=0) (c:=at8 s.data.toList 7) (by rw [bs_data];rfl) Tryz.underlying9 rfl rfl (by rw [size_bs];exact Nat.zero_lt_one))) ?_
      iterate 4 refine s1_ ?_
      refine su_ [(0,_),(2,_),(3,_),(9,_),(17,_),(5,_),(38,_),(6,_),(7,_)] ?_
      iterate 3 refine s1_ ?_
      refine ca_ rfl (at_number s 8 13 b47 _ own_ rfl (by omega) hs) ?_
      rintro _ Sx ⟨rfl,hS⟩
      rw [hS,set_under n477];clear hS Sx
      refine s1_ ?_
      refine ca_ rfl (at_number s 13 18 b47 _ own_ rfl (by omega) hs) ?_
      rintro _ Sx ⟨rfl,hS⟩
      rw [hS,set_under n477];clear hS Sx
      iterate 6 refine s1_ ?_
      refine su_ [(0,_),(2,_),(3,_),(9,_),(17,_),(5,_),(38,_),(6,_),(7,_)] ?_
      iterate 3 refine s1_ ?_
      refine ca_ rfl (at_sum s 18 22 b47 _ own_ rfl (by omega) hs) ?_
      rintro _ Sx ⟨rfl,hS⟩
      rw [hS,set_under n477];clear hS Sx
      iterate 4 refine s1_ ?_
      refine su_ [(0,_),(2,_),(3,_),(9,_),(17,_),(5,_),(38,_),(6,_),(7,_)] ?_
      iterate 3 refine s1_ ?_
      refine ca_ rfl (at_name s 22 38 b47 _ own_ rfl (by omega) hs) ?_
      rintro _ Sx ⟨rfl,hS⟩
      rw [hS,set_under n477];clear hS Sx
      refine s1_ ?_
      refine ca_ rfl (at_name s 38 54 b47 _ own_ rfl (by omega) hs) ?_
      rintro _ Sx ⟨rfl,hS⟩
      rw [hS,set_under n477];clear hS Sx
      iterate 6 refine s1_ ?_
      refine su_ [(0,_),(2,_),(3,_),(9,_),(17,_),(5,_),(38,_),(6,_),(7,_)] ?_
      iterate 4 refine s1_ ?_
      refine ca_ rfl (hcv _) ?_
      rintro _ Sx ⟨rfl,hS⟩
      rw [hS];clear hS Sx
      iterate 3 refine s1_ ?_
      refine su_ [(0,_),(2,_),(3,_),(9,_),(17,_),(5,_),(38,_),(6,_),(7,_),(8,_)] ?_
      iterate 6 refine s1_ ?_
      refine su_ [(0,_),(2,_),(3,_),(9,_),(17,_),(5,_),(38,_),(6,_),(7,_),(8,_),(73,_)] ?_
      refine cF_ ?_
      iterate 9 refine s1_ ?_
      refine su_ [(0,_),(2,_),(3,_),(9,_),(17,_),(5,_),(38,_),(6,_),(7,_),(8,_),(73,_)] ?_
      refine s1_ ?_
      refine ⟨_,S,⟨_,_,_,rfl,.inr ⟨ty_agg_55,[_,_,_,_,_,_,_],ty_size_55,rds_,rfl⟩,⟨_,_,rfl,rfl,rfl⟩,rfl⟩,less_,?_⟩
      exact .inl ⟨by simp,rfl,rfl⟩
     ·rw [if_pos h4]
      have h5:=(chk_or (fieldsM s)).resolve_left h4
      rw [h5] at hcv
      refine ACall.enter (rs:=[.cell 2 55,.tmp 3]) 80 [(0,.string s)] Tryz.func78 rfl rfl (Nat.le_of_ble_eq_true rfl) rfl ⟨rfl,trivial⟩ ?_
      iterate 2 refine s1_ ?_
      refine ARun.alloc (lit_lt rfl) ty_zero_55 ?_
      intro b2 f2
      have g2:=f2
      repeat ((with_reducible replace g2:=fresh_set g2);obtain ⟨g2,_⟩:=g2)
      refine nl_ ?_
      iterate 13 refine s1_ ?_
      refine su_ [(0,_),(2,_),(3,_),(9,_)] ?_
      refine cF_ ?_
      iterate 3 refine s1_ ?_
      refine ca_ rfl (hpre _) ?_
      rintro _ Sx ⟨rfl,hS⟩
      rw [hS];clear hS Sx
      iterate 4 refine s1_ ?_
      refine ARun.callG 3 false 21 rfl (lit_lt rfl) rfl (lit_lt rfl) go_122 rfl (htr _) ?_
      rintro _ Sx ⟨rfl,hS⟩
      rw [hS];clear hS Sx
      first|refine k_q 21 ?_|refine rG 21 (Calm.bin rfl rfl (bin_bool (bin_str_neq _ _) (bnot_dec_false hz))) ?_
      iterate 4 refine s1_ ?_
      refine su_ [(0,_),(2,_),(3,_),(9,_),(17,_)] ?_
      refine cF_ ?_
      iterate 8 refine s1_ ?_
      refine ca_ rfl (ho _) ?_
      rintro _ Sx ⟨rfl,hS⟩
      rw [hS];clear hS Sx
      iterate 7 refine s1_ ?_
      refine su_ [(0,_),(2,_),(3,_),(9,_),(17,_),(5,_)] ?_
      iterate 6 refine s1_ ?_
      refine su_ [(0,_),(2,_),(3,_),(9,_),(17,_),(5,_),(38,_)] ?_
      refine cF_ ?_
      iterate 7 refine s1_ ?_
      refine ARun.boxA (cs:=[_]) (lit_lt rfl) rfl ?_
      intro b47 f47
      have g47:=f47
      repeat ((with_reducible replace g47:=fresh_set g47);obtain ⟨g47,_⟩:=g47)
      refine nl_ ?_
      iterate 3 refine s1_ ?_
      refine su_ [(0,_),(2,_),(3,_),(9,_),(17,_),(5,_),(38,_),(6,_)] ?_
      iterate 2 refine s1_ ?_
      refine ARun.alloc (lit_lt rfl) ty_zero_55 ?_
      intro b7 f7
      have g7:=f7
      repeat ((with_reducible replace g7:=fresh_set g7);obtain ⟨g7,_⟩:=g7)
      refine nl_ ?_
      iterate 2 refine s1_ ?_
      have n477:b47≠b7:=Ne.symm (fresh_set f7).2
      iterate 3 refine s1_ ?_
      refine ca_ rfl (at_number s 2 7 b47 _ own_ rfl (by omega) hs) ?_
      rintro _ Sx ⟨rfl,hS⟩
      rw [hS,set_under n477];clear hS Sx
      iterate 4 refine s1_ ?_
      refine su_ [(0,_),(2,_),(3,_),(9,_),(17,_),(5,_),(38,_),(6,_),(7,_)] ?_
      iterate 3 refine s1_ ?_
      refine ca_ rfl (at_byte s 7 8 b47 _ own_ rfl (by omega) hs) ?_
      rintro _ Sx ⟨rfl,hS⟩
      rw [hS,set_under n477];clear hS Sx
      refine rC (Calm.as (congrArg (Value.int .u8) (show nb (at8 s.data.toList 7)=((at8 s.data.toList 7).toNat:Int) from rfl)) (Calm.indexStrC (j:=0) (c:=at8 s.data.toList 7) (by rw [bs_data];rfl) Tryz.underlying9 rfl rfl (by rw [size_bs];exact Nat.zero_lt_one))) ?_
      iterate 4 refine s1_ ?_
      refine su_ [(0,_),(2,_),(3,_),(9,_),(17,_),(5,_),(38,_),(6,_),(7,_)] ?_
      iterate 3 refine s1_ ?_
      refine ca_ rfl (at_number s 8 13 b47 _ own_ rfl (by omega) hs) ?_
      rintro _ Sx ⟨rfl,hS⟩
      rw [hS,set_under n477];clear hS Sx
      refine s1_ ?_
      refine ca_ rfl (at_number s 13 18 b47 _ own_ rfl (by omega) hs) ?_
      rintro _ Sx ⟨rfl,hS⟩
      rw [hS,set_under n477];clear hS Sx
      iterate 6 refine s1_ ?_
      refine su_ [(0,_),(2,_),(3,_),(9,_),(17,_),(5,_),(38,_),(6,_),(7,_)] ?_
      iterate 3 refine s1_ ?_
      refine ca_ rfl (at_sum s 18 22 b47 _ own_ rfl (by omega) hs) ?_
      rintro _ Sx ⟨rfl,hS⟩
      rw [hS,set_under n477];clear hS Sx
      iterate 4 refine s1_ ?_
      refine su_ [(0,_),(2,_),(3,_),(9,_),(17,_),(5,_),(38,_),(6,_),(7,_)] ?_
      iterate 3 refine s1_ ?_
      refine ca_ rfl (at_name s 22 38 b47 _ own_ rfl (by omega) hs) ?_
      rintro _ Sx ⟨rfl,hS⟩
      rw [hS,set_under n477];clear hS Sx
      refine s1_ ?_
      refine ca_ rfl (at_name s 38 54 b47 _ own_ rfl (by omega) hs) ?_
      rintro _ Sx ⟨rfl,hS⟩
      rw [hS,set_under n477];clear hS Sx
      iterate 6 refine s1_ ?_
      refine su_ [(0,_),(2,_),(3,_),(9,_),(17,_),(5,_),(38,_),(6,_),(7,_)] ?_
      iterate 4 refine s1_ ?_
      refine ca_ rfl (hcv _) ?_
      rintro _ Sx ⟨rfl,hS⟩
      rw [hS];clear hS Sx
      iterate 3 refine s1_ ?_
      refine su_ [(0,_),(2,_),(3,_),(9,_),(17,_),(5,_),(38,_),(6,_),(7,_),(8,_)] ?_
      iterate 6 refine s1_ ?_
      refine su_ [(0,_),(2,_),(3,_),(9,_),(17,_),(5,_),(38,_),(6,_),(7,_),(8,_),(73,_)] ?_
      refine cT_ ?_
      iterate 5 refine s1_ ?_
      refine ARun.boxA (cs:=[_]) (lit_lt rfl) rfl ?_
      intro b77 f77
      have g77:=f77
      repeat ((with_reducible replace g77:=fresh_set g77);obtain ⟨g77,_⟩:=g77)
      refine nl_ ?_
      refine rC (Calm.mkI (by kernel_rfl) rfl) ?_
      iterate 4 refine s1_ ?_
      refine su_ [(0,_),(2,_),(3,_),(9,_),(17,_),(5,_),(38,_),(6,_),(7,_),(8,_),(73,_)] ?_
      iterate 2 refine s1_ ?_
      refine ⟨_,S.set b77 (ftB 2),⟨_,_,_,rfl,.inr ⟨ty_agg_55,[_,_,_,_,_,_,_],ty_size_55,rds_,rfl⟩,⟨_,_,rfl,rfl,rfl⟩,rfl⟩,less_,?_⟩
      exact .inr ⟨by simp,b77,g77,rfl,rfl⟩
    ·rw [if_pos h3]
     refine ACall.enter (rs:=[.cell 2 55,.tmp 3]) 80 [(0,.string s)] Tryz.func78 rfl rfl (Nat.le_of_ble_eq_true rfl) rfl ⟨rfl,trivial⟩ ?_
     iterate 2 refine s1_ ?_
     refine ARun.alloc (lit_lt rfl) ty_zero_55 ?_
     intro b2 f2
     have g2:=f2
     repeat ((with_reducible replace g2:=fresh_set g2);obtain ⟨g2,_⟩:=g2)
     refine nl_ ?_
     iterate 13 refine s1_ ?_
     refine su_ [(0,_),(2,_),(3,_),(9,_)] ?_
     refine cF_ ?_
     iterate 3 refine s1_ ?_
     refine ca_ rfl (hpre _) ?_
     rintro _ Sx ⟨rfl,hS⟩
     rw [hS];clear hS Sx
     iterate 4 refine s1_ ?_
     refine ARun.callG 3 false 21 rfl (lit_lt rfl) rfl (lit_lt rfl) go_122 rfl (htr _) ?_
     rintro _ Sx ⟨rfl,hS⟩
     rw [hS];clear hS Sx
     first|refine k_q 21 ?_|refine rG 21 (Calm.bin rfl rfl (bin_bool (bin_str_neq _ _) (bnot_dec_false hz))) ?_
     iterate 4 refine s1_ ?_
     refine su_ [(0,_),(2,_),(3,_),(9,_),(17,_)] ?_
     refine cF_ ?_
     iterate 8 refine s1_ ?_
     refine ca_ rfl (ho _) ?_
     rintro _ Sx ⟨rfl,hS⟩
     rw [hS];clear hS Sx
     iterate 7 refine s1_ ?_
     refine su_ [(0,_),(2,_),(3,_),(9,_),(17,_),(5,_)] ?_
     iterate 3 refine s1_ ?_
     refine rC (Calm.bin rfl rfl (bin_bool (bin_neq _ _) (bnot_dec_true h3))) ?_
     iterate 2 refine s1_ ?_
     refine su_ [(0,_),(2,_),(3,_),(9,_),(17,_),(5,_),(38,_)] ?_
     refine cT_ ?_
     iterate 5 refine s1_ ?_
     refine ARun.boxA (cs:=[_]) (lit_lt rfl) rfl ?_
     intro b42 f42
     have g42:=f42
     repeat ((with_reducible replace g42:=fresh_set g42);obtain ⟨g42,_⟩:=g42)
     refine nl_ ?_
     refine rC (Calm.mkI (by kernel_rfl) rfl) ?_
     iterate 4 refine s1_ ?_
     refine su_ [(0,_),(2,_),(3,_),(9,_),(17,_),(5,_),(38,_)] ?_
     iterate 2 refine s1_ ?_
     refine ⟨_,S.set b42 (ftB (openS (s.extract 0 58)).2),⟨_,_,_,rfl,.inr ⟨ty_agg_55,[_,_,_,_,_,_,_],ty_size_55,rds_,rfl⟩,⟨_,_,rfl,rfl,rfl⟩,rfl⟩,less_,?_⟩
     exact .inr ⟨h3,b42,g42,rfl,rfl⟩
   ·rw [if_pos (.inr (by simpa using h2))]
    have hz : ¬ bs ((St.rtrim 0 (s.data.toList.drop 58)).dropWhile (· == 0))=⟨#[]⟩:=of_decide_eq_false (by rw [zero_iff];simpa using h2)
    refine ACall.enter (rs:=[.cell 2 55,.tmp 3]) 80 [(0,.string s)] Tryz.func78 rfl rfl (Nat.le_of_ble_eq_true rfl) rfl ⟨rfl,trivial⟩ ?_
    iterate 2 refine s1_ ?_
    refine ARun.alloc (lit_lt rfl) ty_zero_55 ?_
    intro b2 f2
    have g2:=f2
    repeat ((with_reducible replace g2:=fresh_set g2);obtain ⟨g2,_⟩:=g2)
    refine nl_ ?_
    iterate 13 refine s1_ ?_
    refine su_ [(0,_),(2,_),(3,_),(9,_)] ?_
    refine cF_ ?_
    iterate 3 refine s1_ ?_
    refine ca_ rfl (hpre _) ?_
    rintro _ Sx ⟨rfl,hS⟩
    rw [hS];clear hS Sx
    iterate 4 refine s1_ ?_
    refine ARun.callG 3 false 21 rfl (lit_lt rfl) rfl (lit_lt rfl) go_122 rfl (htr _) ?_
    rintro _ Sx ⟨rfl,hS⟩
    rw [hS];clear hS Sx
    first|refine k_q 21 ?_|refine rG 21 (Calm.bin rfl rfl (bin_bool (bin_str_neq _ _) (bnot_dec_true hz))) ?_
    iterate 4 refine s1_ ?_
    refine su_ [(0,_),(2,_),(3,_),(9,_),(17,_)] ?_
    refine cT_ ?_
    iterate 4 refine s1_ ?_
    refine ARun.boxA (cs:=[_]) (lit_lt rfl) rfl ?_
    intro b29 f29
    have g29:=f29
    repeat ((with_reducible replace g29:=fresh_set g29);obtain ⟨g29,_⟩:=g29)
    refine nl_ ?_
    refine rC (Calm.mkI (by kernel_rfl) rfl) ?_
    iterate 4 refine s1_ ?_
    refine su_ [(0,_),(2,_),(3,_),(9,_),(17,_)] ?_
    iterate 3 refine s1_ ?_
    refine ⟨_,S.set b29 (ftB 2),⟨_,_,_,rfl,.inr ⟨ty_agg_55,[_,_,_,_,_,_,_],ty_size_55,rds_,rfl⟩,⟨_,_,rfl,rfl,rfl⟩,rfl⟩,less_,?_⟩
    exact .inr ⟨by simp,b29,g29,rfl,rfl⟩
  ·rw [if_pos (.inl h1)]
   rw [decide_eq_false h1] at hpre
   refine ACall.enter (rs:=[.cell 2 55,.tmp 3]) 80 [(0,.string s)] Tryz.func78 rfl rfl (Nat.le_of_ble_eq_true rfl) rfl ⟨rfl,trivial⟩ ?_
   iterate 2 refine s1_ ?_
   refine ARun.alloc (lit_lt rfl) ty_zero_55 ?_
   intro b2 f2
   have g2:=f2
   repeat ((with_reducible replace g2:=fresh_set g2);obtain ⟨g2,_⟩:=g2)
   refine nl_ ?_
   iterate 13 refine s1_ ?_
   refine su_ [(0,_),(2,_),(3,_),(9,_)] ?_
   refine cF_ ?_
   iterate 3 refine s1_ ?_
   refine ca_ rfl (hpre _) ?_
   rintro _ Sx ⟨rfl,hS⟩
   rw [hS];clear hS Sx
   iterate 10 refine s1_ ?_
   refine su_ [(0,_),(2,_),(3,_),(9,_),(17,_)] ?_
   refine cT_ ?_
   iterate 4 refine s1_ ?_
   refine ARun.boxA (cs:=[_]) (lit_lt rfl) rfl ?_
   intro b29 f29
   have g29:=f29
   repeat ((with_reducible replace g29:=fresh_set g29);obtain ⟨g29,_⟩:=g29)
   refine nl_ ?_
   refine rC (Calm.mkI (by kernel_rfl) rfl) ?_
   iterate 4 refine s1_ ?_
   refine su_ [(0,_),(2,_),(3,_),(9,_),(17,_)] ?_
   iterate 3 refine s1_ ?_
   refine ⟨_,S.set b29 (ftB 2),⟨_,_,_,rfl,.inr ⟨ty_agg_55,[_,_,_,_,_,_,_],ty_size_55,rds_,rfl⟩,⟨_,_,rfl,rfl,rfl⟩,rfl⟩,less_,?_⟩
   exact .inr ⟨by simp,b29,g29,rfl,rfl⟩
 ·rw [if_pos h64]
  refine ACall.enter (rs:=[.cell 2 55,.tmp 3]) 80 [(0,.string s)] Tryz.func78 rfl rfl (Nat.le_of_ble_eq_true rfl) rfl ⟨rfl,trivial⟩ ?_
  iterate 2 refine s1_ ?_
  refine ARun.alloc (lit_lt rfl) ty_zero_55 ?_
  intro b2 f2
  have g2:=f2
  repeat ((with_reducible replace g2:=fresh_set g2);obtain ⟨g2,_⟩:=g2)
  refine nl_ ?_
  iterate 13 refine s1_ ?_
  refine su_ [(0,_),(2,_),(3,_),(9,_)] ?_
  refine cT_ ?_
  iterate 4 refine s1_ ?_
  refine ARun.boxA (cs:=[_]) (lit_lt rfl) rfl ?_
  intro b15 f15
  have g15:=f15
  repeat ((with_reducible replace g15:=fresh_set g15);obtain ⟨g15,_⟩:=g15)
  refine nl_ ?_
  refine rC (Calm.mkI (by kernel_rfl) rfl) ?_
  iterate 4 refine s1_ ?_
  refine su_ [(0,_),(2,_),(3,_),(9,_)] ?_
  iterate 3 refine s1_ ?_
  refine ⟨_,S.set b15 (ftB 5),⟨_,_,_,rfl,.inr ⟨ty_agg_55,[_,_,_,_,_,_,_],ty_size_55,rds_,rfl⟩,⟨_,_,rfl,rfl,rfl⟩,rfl⟩,less_,?_⟩
  exact .inr ⟨by simp,b15,g15,rfl,rfl⟩
end Slo
end Go.Proofs.YtceikpipmcadmaaGreatDoor
namespace Go.Proofs.YtceikpipmcadmaaGreatDoor
open Go.RowKit
open Mv Disk Num
set_option maxRecDepth 4000
namespace Slo
theorem cut_list (s : ByteArray) (i j : Nat) : (s.extract i j).data.toList = (s.data.toList.drop i).take (j - i) := Lib.extract_data ..
theorem head_iff (s : ByteArray) : s.extract 0 2 = ⟨#[77, 70]⟩ ↔ s.data.toList.take 2 = [77, 70] := by
 constructor
 ·intro h;have:=congrArg (fun x=>x.data.toList) h;rw [ext0] at this;exact this
 ·intro h;apply str_ext;rw [ext0,h]
theorem tail_iff (s : ByteArray) (h : s.size = 64) : s.extract 58 s.size = bs (List.replicate 6 0) ↔ Rec.zeroL (s.data.toList.drop 58) = true := by
 have hl:=St.len_list s
 have e:(s.extract 58 s.size).data.toList=s.data.toList.drop 58:=tl_list s 58
 have hd:(s.data.toList.drop 58).length=6:=by rw [List.length_drop];omega
 unfold Rec.zeroL
 constructor
 ·intro g
  have:=congrArg (fun x=>x.data.toList) g
  simp only [bs_data] at this
  rw [e] at this
  rw [this];decide
 ·intro g
  apply str_ext
  rw [e,bs_data]
  apply List.ext_getElem (by rw [hd];rfl)
  intro i h1 h2
  rw [List.getElem_replicate]
  have:=List.all_eq_true.1 g _ (List.getElem_mem h1)
  simpa using this
theorem open_iff (s : ByteArray) (h : s.size = 64) : (openS (s.extract 0 58)).2 = if Crc.tailS (sumOf (s.extract 0 54)) = s.extract 54 58 then 0 else 6 := by
 have hz:(s.extract 0 58).size=58:=by rw [ByteArray.size_extract];omega
 have hb:body (s.extract 0 58)=s.extract 0 54:=by
  unfold body
  rw [hz]
  apply str_ext
  rw [ext0,ext0,ext0,List.take_take]
  rfl
 have ht:tailOf (s.extract 0 58)=s.extract 54 58:=by
  apply str_ext
  rw [Crc.tailOf_data,hz,ext0,cut_list s 54 58,List.drop_take]
 unfold openS
 rw [hz,if_neg (by decide),if_neg (by decide)]
 by_cases q:Crc.tailS (sumOf (s.extract 0 54))=s.extract 54 58
 ·rw [if_pos q,if_pos ((Crc.fits_iff _).2 (by rw [hb,ht];exact q))]
 ·rw [if_neg q,if_neg (fun g=>q (by have:=(Crc.fits_iff _).1 g;rw [hb,ht] at this;exact this))]
set_option maxHeartbeats 4000000 in
theorem rso_Decode (s : ByteArray) (S : Mem) (hs : s.size ≤ 9223372036854775807) :
  ACall Tryz.prog 32 #[.string s] S fun r S'=>r = .tuple #[mfV (decM s).1,.int .i64 (decM s).2]∧S'=S:=by
 unfold decM
 by_cases h64:s.size=64
 ·rw [if_neg (by omega)]
  have hz6:=fun S=>rso_zeros 6 S (by decide)
  by_cases h1:s.extract 0 2=⟨#[77,70]⟩
  ·by_cases h2:s.extract 58 s.size=bs (List.replicate 6 0)
   ·rw [if_neg (by rintro (h | h);exact h ((head_iff s).1 h1);rw [(tail_iff s h64).1 h2] at h;cases h),open_iff s h64]
    have hsum:=fun S b e k h=>slo_rSum S b e k (s.extract 0 54) (by rw [ByteArray.size_extract,h64];decide) h
    have hlit:∀ S,ACall Tryz.prog 75 #[.int .u32 (Crc.un (sumOf (s.extract 0 54)))] S fun r S'=>r = .string (Crc.tailS (sumOf (s.extract 0 54)))∧S'=S:=fun S=>by
     have hu:=Crc.un_nonneg (sumOf (s.extract 0 54))
     have hu2:=Crc.un_le (sumOf (s.extract 0 54))
     obtain ⟨k,hk⟩:=Int.eq_ofNat_of_zero_le hu
     have h:=rso_little k S (by omega)
     rw [← tail_le4 k (by omega),← hk,Crc.v32_un] at h
     exact h
    by_cases h3:Crc.tailS (sumOf (s.extract 0 54))=s.extract 54 58
    ·rw [if_pos h3,if_neg (by simp)]
     have hq:∀ i j,j≤64→(s.extract i j).size=j-i:=fun i j h=>by rw [ByteArray.size_extract,h64];omega
     have hof:∀ i j S,j=i+5→j≤64→ACall Tryz.prog 53 #[.string (s.extract i j)] S fun r S'=>r = .int .u64 (ofB ((s.data.toList.drop i).take 5):Nat)∧S'=S:=fun i j S h1 h2=>by
      have h:=rnumV_Of (s.extract i j) S (by rw [hq i j h2];omega)
      rwa [cut_list,show j-i=5 from by omega] at h
     have hcu:∀ i j S,j=i+16→j≤64→ACall Tryz.prog 80 #[.string (s.extract i j)] S fun r S'=>r = .string (bs (St.rtrim 0 ((s.data.toList.drop i).take 16)))∧S'=S:=fun i j S h1 h2=>by
      have h:=rso_cut (s.extract i j) S (by rw [hq i j h2];omega)
      rwa [cut_list,show j-i=16 from by omega] at h
     have n18:=nb_nonneg (at8 s.data.toList (18:Int).toNat)
     have m18:=nb_le (at8 s.data.toList (18:Int).toNat)
     have n19:=nb_nonneg (at8 s.data.toList (19:Int).toNat)
     have m19:=nb_le (at8 s.data.toList (19:Int).toNat)
     have n20:=nb_nonneg (at8 s.data.toList (20:Int).toNat)
     have m20:=nb_le (at8 s.data.toList (20:Int).toNat)
     have n21:=nb_nonneg (at8 s.data.toList (21:Int).toNat)
     have m21:=nb_le (at8 s.data.toList (21:Int).toNat)
     have hle:nb (at8 s.data.toList (18:Int).toNat)+nb (at8 s.data.toList (19:Int).toNat)*256+nb (at8 s.data.toList (20:Int).toNat)*65536+nb (at8 s.data.toList (21:Int).toNat)*16777216=((leN ((s.data.toList.drop 18).take 4):Nat):Int):=by
      have hl:=St.len_list s
      have e:(s.data.toList.drop 18).take 4 = [at8 s.data.toList 18,at8 s.data.toList 19,at8 s.data.toList 20,at8 s.data.toList 21]:=by
       apply List.ext_getElem (by rw [List.length_take,List.length_drop];simp only [List.length_cons,List.length_nil];omega)
       intro i h1 h2
       simp only [List.length_cons,List.length_nil] at h2
       rw [List.getElem_take,List.getElem_drop]
       match i,h2 with
       | 0,_=>exact (at8_get _ _ (by omega)).symm
       | 1,_=>exact (at8_get _ _ (by omega)).symm
       | 2,_=>exact (at8_get _ _ (by omega)).symm
       | 3,_=>exact (at8_get _ _ (by omega)).symm
      rw [e]
      show nb (at8 s.data.toList 18)+nb (at8 s.data.toList 19)*256+nb (at8 s.data.toList 20)*65536+nb (at8 s.data.toList 21)*16777216=_
      unfold nb
      simp only [leN,List.foldr_cons,List.foldr_nil]
      omega
     have hfv:mfV (fieldsM s) = .agg #[.int .u64 (ofB ((s.data.toList.drop 2).take 5):Nat),.int .u8 (nb (at8 s.data.toList (7:Int).toNat)),.int .u64 (ofB ((s.data.toList.drop 8).take 5):Nat),.int .u64 (ofB ((s.data.toList.drop 13).take 5):Nat),.int .u32 (nb (at8 s.data.toList (18:Int).toNat)+nb (at8 s.data.toList (19:Int).toNat)*256+nb (at8 s.data.toList (20:Int).toNat)*65536+nb (at8 s.data.toList (21:Int).toNat)*16777216),.string (bs (St.rtrim 0 ((s.data.toList.drop 22).take 16))),.string (bs (St.rtrim 0 ((s.data.toList.drop 38).take 16)))]:=by
      rw [hle];rfl
     have hc:∀ S,ACall Tryz.prog 35 #[.agg #[.int .u64 (ofB ((s.data.toList.drop 2).take 5):Nat),.int .u8 (nb (at8 s.data.toList (7:Int).toNat)),.int .u64 (ofB ((s.data.toList.drop 8).take 5):Nat),.int .u64 (ofB ((s.data.toList.drop 13).take 5):Nat),.int .u32 (nb (at8 s.data.toList (18:Int).toNat)+nb (at8 s.data.toList (19:Int).toNat)*256+nb (at8 s.data.toList (20:Int).toNat)*65536+nb (at8 s.data.toList (21:Int).toNat)*16777216),.string (bs (St.rtrim 0 ((s.data.toList.drop 22).take 16))),.string (bs (St.rtrim 0 ((s.data.toList.drop 38).take 16)))]] S fun r S'=>r = .int .i64 (chkM (fieldsM s))∧S'=S:=fun S=>by
      rw [← hfv];exact rso_Check (fieldsM s) S (Nat.le_trans (rtrim_size _ 16) (by decide)) (Nat.le_trans (rtrim_size _ 16) (by decide))
     refine ACall.enter (rs:=[.cell 2 55,.tmp 3]) 71 [(0,.string s)] Tryz.func32 rfl rfl (Nat.le_of_ble_eq_true rfl) rfl ⟨rfl,trivial⟩ ?_
     iterate 2 refine s1_ ?_
     refine ARun.alloc (lit_lt rfl) ty_zero_55 ?_
     intro b2 f2
     have g2:=f2
     repeat ((with_reducible replace g2:=fresh_set g2);obtain ⟨g2,_⟩:=g2)
     refine nl_ ?_
     iterate 11 refine s1_ ?_
     refine su_ [(0,_),(2,_),(3,_),(8,_)] ?_
     refine cF_ ?_
     iterate 4 refine s1_ ?_
     refine AWP.draw [(0,true),(1,true),(2,true),(3,true),(4,true),(5,true),(6,false),(7,true),(8,true)] [] mixed (by kernel_rfl) ?_
     iterate 2 refine s1_ ?_
     refine dP (hc:=fun _=>Calm.bin rfl rfl (bin_bool (bin_str_neq _ _) (bnot_dec_false h1))) (h:=?_)
     iterate 3 refine s1_ ?_
     refine draw_only rfl ?_
     refine ARun.callG 3 false 13 rfl (lit_lt rfl) rfl (lit_lt rfl) go_76 rfl (hz6 _) ?_
     rintro _ Sx ⟨rfl,hS⟩
     rw [hS];clear hS Sx
     refine arun_nil ⟨fun _=>less_,?_⟩
     first|refine k_d ?_|refine dG (hc:=fun _=>Calm.bin rfl rfl (bin_bool (bin_str_neq _ _) (bnot_dec_false h2))) (h:=?_)
     iterate 3 refine s1_ ?_
     refine su_ [(0,_),(2,_),(3,_),(8,_),(18,_)] ?_
     refine cF_ ?_
     iterate 4 refine s1_ ?_
     refine AWP.draw [(0,true),(1,true),(5,true),(6,true),(2,false),(3,false),(4,false),(7,true)] [] mixed (by kernel_rfl) ?_
     iterate 4 refine s1_ ?_
     refine draw_only rfl ?_
     refine ARun.build1s (lit_lt rfl) ty_sl_149 rfl rfl ?_
     intro b22 f22
     have g22:=f22
     repeat ((with_reducible replace g22:=fresh_set g22);obtain ⟨g22,_⟩:=g22)
     refine arun_nil ⟨fun _=>less_,?_⟩
     refine draw_only rfl ?_
     refine ca_ rfl (hsum _ _ _ _ own_) ?_
     rintro _ Sx ⟨rfl,hS⟩
     rw [hS];clear hS Sx
     refine arun_nil ⟨fun _=>less_,?_⟩
     refine draw_only rfl ?_
     refine ca_ rfl (hlit _) ?_
     rintro _ Sx ⟨rfl,hS⟩
     rw [hS];clear hS Sx
     refine arun_nil ⟨fun _=>less_,?_⟩
     refine dP (hc:=fun _=>Calm.bin rfl rfl (bin_bool (bin_str_neq _ _) (bnot_dec_false h3))) (h:=?_)
     iterate 2 refine s1_ ?_
     refine su_ [(0,_),(2,_),(3,_),(8,_),(18,_),(27,_)] ?_
     refine cF_ ?_
     iterate 3 refine s1_ ?_
     refine AWP.draw [(0,true),(1,true),(2,true),(3,true),(4,true),(5,true),(6,true),(7,true),(8,true),(9,true),(10,true),(11,true),(12,true),(13,true),(14,true),(15,true),(16,true),(17,true),(18,true)] [] mixed (by kernel_rfl) ?_
     iterate 21 refine s1_ ?_
     refine su_ [(0,_),(2,_),(3,_),(8,_),(18,_),(27,_),(4,_)] ?_
     refine s1_ ?_
     refine AWP.join (X:=Nat) (fun b=>[(2,.pointer (some ⟨b2,0,none⟩)),(5,.pointer (some ⟨b,0,none⟩))]) (fun b=>(S.set b2 ⟨55,[.int .u64 0,.int .u8 0,.int .u64 0,.int .u64 0,.int .u32 0,.string ByteArray.empty,.string ByteArray.empty],7⟩).set b ⟨55,[.int .u64 (ofB ((s.data.toList.drop 2).take 5):Nat),.int .u8 (nb (at8 s.data.toList (7:Int).toNat)),.int .u64 (ofB ((s.data.toList.drop 8).take 5):Nat),.int .u64 (ofB ((s.data.toList.drop 13).take 5):Nat),.int .u32 (nb (at8 s.data.toList (18:Int).toNat)+nb (at8 s.data.toList (19:Int).toNat)*256+nb (at8 s.data.toList (20:Int).toNat)*65536+nb (at8 s.data.toList (21:Int).toNat)*16777216),.string (bs (St.rtrim 0 ((s.data.toList.drop 22).take 16))),.string (bs (St.rtrim 0 ((s.data.toList.drop 38).take 16)))],7⟩) (fun b=>Fresh (S.set b2 ⟨55,[.int .u64 0,.int .u8 0,.int .u64 0,.int .u64 0,.int .u32 0,.string ByteArray.empty,.string ByteArray.empty],7⟩) b) ?_ ?_
     ·refine AWP.drawG [20] mixed ?_
      refine DG.pure 0 (by kernel_rfl) (by kernel_rfl) rfl rfl rfl rfl (lit_lt rfl) (fun _=>Calm.move rfl) ?_
      refine DG.pure 1 (by kernel_rfl) (by kernel_rfl) rfl rfl rfl rfl (lit_lt rfl) (fun _=>Calm.sliceStr (strT_spec ty_str_9) rfl (bnd_some _ _ rfl (by omega) (by omega)) (bnd_some _ _ rfl (by omega) (by omega))) ?_
      refine DG.pure 3 (by kernel_rfl) (by kernel_rfl) rfl rfl rfl rfl (lit_lt rfl) (fun _=>Calm.move rfl) ?_
      refine DG.look 4 (by kernel_rfl) (by kernel_rfl) rfl rfl rfl rfl (lit_lt rfl) less_ ((by first | exact Calm.indexStrN (strT_spec ty_str_9) rfl rfl (by omega) | exact Calm.indexStr (strT_spec ty_str_9) rfl rfl (by omega) (by omega))) ?_
      refine DG.pure 5 (by kernel_rfl) (by kernel_rfl) rfl rfl rfl rfl (lit_lt rfl) (fun _=>Calm.move rfl) ?_
      refine DG.pure 6 (by kernel_rfl) (by kernel_rfl) rfl rfl rfl rfl (lit_lt rfl) (fun _=>Calm.sliceStr (strT_spec ty_str_9) rfl (bnd_some _ _ rfl (by omega) (by omega)) (bnd_some _ _ rfl (by omega) (by omega))) ?_
      refine DG.pure 8 (by kernel_rfl) (by kernel_rfl) rfl rfl rfl rfl (lit_lt rfl) (fun _=>Calm.move rfl) ?_
      refine DG.pure 9 (by kernel_rfl) (by kernel_rfl) rfl rfl rfl rfl (lit_lt rfl) (fun _=>Calm.sliceStr (strT_spec ty_str_9) rfl (bnd_some _ _ rfl (by omega) (by omega)) (bnd_some _ _ rfl (by omega) (by omega))) ?_
      refine DG.pure 11 (by kernel_rfl) (by kernel_rfl) rfl rfl rfl rfl (lit_lt rfl) (fun _=>Calm.move rfl) ?_
      refine DG.pure 12 (by kernel_rfl) (by kernel_rfl) rfl rfl rfl rfl (lit_lt rfl) (fun _=>Calm.move rfl) ?_
      refine DG.pure 13 (by kernel_rfl) (by kernel_rfl) rfl rfl rfl rfl (lit_lt rfl) (fun _=>Calm.sliceStr (strT_spec ty_str_9) rfl (bnd_some _ _ rfl (by omega) (by omega)) (bnd_some _ _ rfl (by omega) (by omega))) ?_
      refine DG.pure 15 (by kernel_rfl) (by kernel_rfl) rfl rfl rfl rfl (lit_lt rfl) (fun _=>Calm.move rfl) ?_
      refine DG.pure 16 (by kernel_rfl) (by kernel_rfl) rfl rfl rfl rfl (lit_lt rfl) (fun _=>Calm.sliceStr (strT_spec ty_str_9) rfl (bnd_some _ _ rfl (by omega) (by omega)) (bnd_some _ _ rfl (by omega) (by omega))) ?_
      refine DG.two 2 19 (by kernel_rfl) rfl ?_ rfl ?_
      ·refine ca_ rfl (hof 2 7 _ rfl (by decide)) ?_
       rintro _ Sx ⟨rfl,hS⟩
       rw [hS];clear hS Sx
       refine arun_nil ⟨fun _=>less_,?_⟩
       refine DG.two 7 19 (by kernel_rfl) rfl ?_ rfl ?_
       ·refine ca_ rfl (hof 8 13 _ rfl (by decide)) ?_
        rintro _ Sx ⟨rfl,hS⟩
        rw [hS];clear hS Sx
        refine arun_nil ⟨fun _=>less_,?_⟩
        refine DG.two 10 19 (by kernel_rfl) rfl ?_ rfl ?_
        ·refine ca_ rfl (hof 13 18 _ rfl (by decide)) ?_
         rintro _ Sx ⟨rfl,hS⟩
         rw [hS];clear hS Sx
         refine arun_nil ⟨fun _=>less_,?_⟩
         refine DG.two 14 19 (by kernel_rfl) rfl ?_ rfl ?_
         ·refine ca_ rfl (hcu 22 38 _ rfl (by decide)) ?_
          rintro _ Sx ⟨rfl,hS⟩
          rw [hS];clear hS Sx
          refine arun_nil ⟨fun _=>less_,?_⟩
          refine DG.two 17 19 (by kernel_rfl) rfl ?_ rfl ?_
          ·refine ca_ rfl (hcu 38 54 _ rfl (by decide)) ?_
           rintro _ Sx ⟨rfl,hS⟩
           rw [hS];clear hS Sx
           refine arun_nil ⟨fun _=>less_,?_⟩
           refine DG.pure 18 (by kernel_rfl) (by kernel_rfl) rfl rfl rfl rfl (lit_lt rfl) (fun _=>Calm.build (cs:=[_,_,_,_,_,_,_]) ty_bld_55 rfl rfl) ?_
           refine DG.only 19 (by kernel_rfl) rfl ?_
           refine ARun.alloc (lit_lt rfl) ty_zero_55 ?_
           intro b5 f5
           have g5:=f5
           repeat ((with_reducible replace g5:=fresh_set g5);obtain ⟨g5,_⟩:=g5)
           refine nl_ ?_
           refine arun_nil ⟨fun _=>less_,?_⟩
           refine DG.only 20 (by kernel_rfl) rfl ?_
           refine s1_ ?_
           refine arun_nil ⟨fun h=>absurd h (by decide),?_⟩
           refine DG.end_ (by kernel_rfl) ?_
           refine ⟨b5,?_,?_,?_⟩
           all_goals (try dsimp only)
           ·exact (fresh_set f5).1
           ·exact ⟨rfl,rfl,trivial⟩
           ·exact less_
          ·refine ARun.alloc (lit_lt rfl) ty_zero_55 ?_
           intro b5 f5
           have g5:=f5
           repeat ((with_reducible replace g5:=fresh_set g5);obtain ⟨g5,_⟩:=g5)
           refine nl_ ?_
           refine arun_nil ⟨fun _=>less_,?_⟩
           refine DG.only 17 (by kernel_rfl) rfl ?_
           refine ca_ rfl (hcu 38 54 _ rfl (by decide)) ?_
           rintro _ Sx ⟨rfl,hS⟩
           rw [hS];clear hS Sx
           refine arun_nil ⟨fun _=>less_,?_⟩
           refine DG.pure 18 (by kernel_rfl) (by kernel_rfl) rfl rfl rfl rfl (lit_lt rfl) (fun _=>Calm.build (cs:=[_,_,_,_,_,_,_]) ty_bld_55 rfl rfl) ?_
           refine DG.only 20 (by kernel_rfl) rfl ?_
           refine s1_ ?_
           refine arun_nil ⟨fun h=>absurd h (by decide),?_⟩
           refine DG.end_ (by kernel_rfl) ?_
           refine ⟨b5,?_,?_,?_⟩
           all_goals (try dsimp only)
           ·exact (fresh_set f5).1
           ·exact ⟨rfl,rfl,trivial⟩
           ·exact less_
         ·refine ARun.alloc (lit_lt rfl) ty_zero_55 ?_
          intro b5 f5
          have g5:=f5
          repeat ((with_reducible replace g5:=fresh_set g5);obtain ⟨g5,_⟩:=g5)
          refine nl_ ?_
          refine arun_nil ⟨fun _=>less_,?_⟩
          refine DG.only 14 (by kernel_rfl) rfl ?_
          refine ca_ rfl (hcu 22 38 _ rfl (by decide)) ?_
          rintro _ Sx ⟨rfl,hS⟩
          rw [hS];clear hS Sx
          refine arun_nil ⟨fun _=>less_,?_⟩
          refine DG.only 17 (by kernel_rfl) rfl ?_
          refine ca_ rfl (hcu 38 54 _ rfl (by decide)) ?_
          rintro _ Sx ⟨rfl,hS⟩
          rw [hS];clear hS Sx
          refine arun_nil ⟨fun _=>less_,?_⟩
          refine DG.pure 18 (by kernel_rfl) (by kernel_rfl) rfl rfl rfl rfl (lit_lt rfl) (fun _=>Calm.build (cs:=[_,_,_,_,_,_,_]) ty_bld_55 rfl rfl) ?_
          refine DG.only 20 (by kernel_rfl) rfl ?_
          refine s1_ ?_
          refine arun_nil ⟨fun h=>absurd h (by decide),?_⟩
          refine DG.end_ (by kernel_rfl) ?_
          refine ⟨b5,?_,?_,?_⟩
          all_goals (try dsimp only)
          ·exact (fresh_set f5).1
          ·exact ⟨rfl,rfl,trivial⟩
          ·exact less_
        ·refine ARun.alloc (lit_lt rfl) ty_zero_55 ?_
         intro b5 f5
         have g5:=f5
         repeat ((with_reducible replace g5:=fresh_set g5);obtain ⟨g5,_⟩:=g5)
         refine nl_ ?_
         refine arun_nil ⟨fun _=>less_,?_⟩
         refine DG.only 10 (by kernel_rfl) rfl ?_
         refine ca_ rfl (hof 13 18 _ rfl (by decide)) ?_
         rintro _ Sx ⟨rfl,hS⟩
         rw [hS];clear hS Sx
         refine arun_nil ⟨fun _=>less_,?_⟩
         refine DG.only 14 (by kernel_rfl) rfl ?_
         refine ca_ rfl (hcu 22 38 _ rfl (by decide)) ?_
         rintro _ Sx ⟨rfl,hS⟩
         rw [hS];clear hS Sx
         refine arun_nil ⟨fun _=>less_,?_⟩
         refine DG.only 17 (by kernel_rfl) rfl ?_
         refine ca_ rfl (hcu 38 54 _ rfl (by decide)) ?_
         rintro _ Sx ⟨rfl,hS⟩
         rw [hS];clear hS Sx
         refine arun_nil ⟨fun _=>less_,?_⟩
         refine DG.pure 18 (by kernel_rfl) (by kernel_rfl) rfl rfl rfl rfl (lit_lt rfl) (fun _=>Calm.build (cs:=[_,_,_,_,_,_,_]) ty_bld_55 rfl rfl) ?_
         refine DG.only 20 (by kernel_rfl) rfl ?_
         refine s1_ ?_
         refine arun_nil ⟨fun h=>absurd h (by decide),?_⟩
         refine DG.end_ (by kernel_rfl) ?_
         refine ⟨b5,?_,?_,?_⟩
         all_goals (try dsimp only)
         ·exact (fresh_set f5).1
         ·exact ⟨rfl,rfl,trivial⟩
         ·exact less_
       ·refine ARun.alloc (lit_lt rfl) ty_zero_55 ?_
        intro b5 f5
        have g5:=f5
        repeat ((with_reducible replace g5:=fresh_set g5);obtain ⟨g5,_⟩:=g5)
        refine nl_ ?_
        refine arun_nil ⟨fun _=>less_,?_⟩
        refine DG.only 7 (by kernel_rfl) rfl ?_
        refine ca_ rfl (hof 8 13 _ rfl (by decide)) ?_
        rintro _ Sx ⟨rfl,hS⟩
        rw [hS];clear hS Sx
        refine arun_nil ⟨fun _=>less_,?_⟩
        refine DG.only 10 (by kernel_rfl) rfl ?_
        refine ca_ rfl (hof 13 18 _ rfl (by decide)) ?_
        rintro _ Sx ⟨rfl,hS⟩
        rw [hS];clear hS Sx
        refine arun_nil ⟨fun _=>less_,?_⟩
        refine DG.only 14 (by kernel_rfl) rfl ?_
        refine ca_ rfl (hcu 22 38 _ rfl (by decide)) ?_
        rintro _ Sx ⟨rfl,hS⟩
        rw [hS];clear hS Sx
        refine arun_nil ⟨fun _=>less_,?_⟩
        refine DG.only 17 (by kernel_rfl) rfl ?_
        refine ca_ rfl (hcu 38 54 _ rfl (by decide)) ?_
        rintro _ Sx ⟨rfl,hS⟩
        rw [hS];clear hS Sx
        refine arun_nil ⟨fun _=>less_,?_⟩
        refine DG.pure 18 (by kernel_rfl) (by kernel_rfl) rfl rfl rfl rfl (lit_lt rfl) (fun _=>Calm.build (cs:=[_,_,_,_,_,_,_]) ty_bld_55 rfl rfl) ?_
        refine DG.only 20 (by kernel_rfl) rfl ?_
        refine s1_ ?_
        refine arun_nil ⟨fun h=>absurd h (by decide),?_⟩
        refine DG.end_ (by kernel_rfl) ?_
        refine ⟨b5,?_,?_,?_⟩
        all_goals (try dsimp only)
        ·exact (fresh_set f5).1
        ·exact ⟨rfl,rfl,trivial⟩
        ·exact less_
      ·refine ARun.alloc (lit_lt rfl) ty_zero_55 ?_
       intro b5 f5
       have g5:=f5
       repeat ((with_reducible replace g5:=fresh_set g5);obtain ⟨g5,_⟩:=g5)
       refine nl_ ?_
       refine arun_nil ⟨fun _=>less_,?_⟩
       refine DG.only 2 (by kernel_rfl) rfl ?_
       refine ca_ rfl (hof 2 7 _ rfl (by decide)) ?_
       rintro _ Sx ⟨rfl,hS⟩
       rw [hS];clear hS Sx
       refine arun_nil ⟨fun _=>less_,?_⟩
       refine DG.only 7 (by kernel_rfl) rfl ?_
       refine ca_ rfl (hof 8 13 _ rfl (by decide)) ?_
       rintro _ Sx ⟨rfl,hS⟩
       rw [hS];clear hS Sx
       refine arun_nil ⟨fun _=>less_,?_⟩
       refine DG.only 10 (by kernel_rfl) rfl ?_
       refine ca_ rfl (hof 13 18 _ rfl (by decide)) ?_
       rintro _ Sx ⟨rfl,hS⟩
       rw [hS];clear hS Sx
       refine arun_nil ⟨fun _=>less_,?_⟩
       refine DG.only 14 (by kernel_rfl) rfl ?_
       refine ca_ rfl (hcu 22 38 _ rfl (by decide)) ?_
       rintro _ Sx ⟨rfl,hS⟩
       rw [hS];clear hS Sx
       refine arun_nil ⟨fun _=>less_,?_⟩
       refine DG.only 17 (by kernel_rfl) rfl ?_
       refine ca_ rfl (hcu 38 54 _ rfl (by decide)) ?_
       rintro _ Sx ⟨rfl,hS⟩
       rw [hS];clear hS Sx
       refine arun_nil ⟨fun _=>less_,?_⟩
       refine DG.pure 18 (by kernel_rfl) (by kernel_rfl) rfl rfl rfl rfl (lit_lt rfl) (fun _=>Calm.build (cs:=[_,_,_,_,_,_,_]) ty_bld_55 rfl rfl) ?_
       refine DG.only 20 (by kernel_rfl) rfl ?_
       refine s1_ ?_
       refine arun_nil ⟨fun h=>absurd h (by decide),?_⟩
       refine DG.end_ (by kernel_rfl) ?_
       refine ⟨b5,?_,?_,?_⟩
       all_goals (try dsimp only)
       ·exact (fresh_set f5).1
       ·exact ⟨rfl,rfl,trivial⟩
       ·exact less_
     rintro b hb
     intro _ _ hs_ hl_
     (try dsimp only at *)
     refine athen_n ?_
     refine AWP.sub _ hs_ (AWP.less _ hl_ ?_)
     clear hs_ hl_
     obtain ⟨gb,nb2⟩:=fresh_set hb
     by_cases h4:chkM (fieldsM s)=0
     ·rw [if_neg (by omega)]
      rw [h4] at hc
      iterate 4 refine s1_ ?_
      refine ca_ rfl (hc _) ?_
      rintro _ Sx ⟨rfl,hS⟩
      rw [hS];clear hS Sx
      iterate 3 refine s1_ ?_
      refine su_ [(2,_),(5,_),(68,_)] ?_
      refine cF_ ?_
      iterate 9 refine s1_ ?_
      refine su_ [(2,_),(5,_),(68,_),(3,_)] ?_
      refine s1_ ?_
      refine ⟨_,S,⟨_,_,_,rfl,.inr ⟨ty_agg_55,[_,_,_,_,_,_,_],ty_size_55,rds_,rfl⟩,⟨_,_,rfl,rfl,rfl⟩,rfl⟩,less_,?_⟩
      exact ⟨by rw [hfv];rfl,rfl⟩
     ·rw [if_pos h4]
      have h5:=(chk_or (fieldsM s)).resolve_left h4
      rw [h5] at hc
      iterate 4 refine s1_ ?_
      refine ca_ rfl (hc _) ?_
      rintro _ Sx ⟨rfl,hS⟩
      rw [hS];clear hS Sx
      iterate 3 refine s1_ ?_
      refine su_ [(2,_),(5,_),(68,_)] ?_
      refine cT_ ?_
      iterate 7 refine s1_ ?_
      refine su_ [(2,_),(5,_),(68,_),(3,_)] ?_
      iterate 2 refine s1_ ?_
      refine ⟨_,S,⟨_,_,_,rfl,.inr ⟨ty_agg_55,[_,_,_,_,_,_,_],ty_size_55,rds_,rfl⟩,⟨_,_,rfl,rfl,rfl⟩,rfl⟩,less_,?_⟩
      exact ⟨rfl,rfl⟩
    ·rw [if_neg h3,if_pos (by simp)]
     unfold mfV M0
     refine ACall.enter (rs:=[.cell 2 55,.tmp 3]) 71 [(0,.string s)] Tryz.func32 rfl rfl (Nat.le_of_ble_eq_true rfl) rfl ⟨rfl,trivial⟩ ?_
     iterate 2 refine s1_ ?_
     refine ARun.alloc (lit_lt rfl) ty_zero_55 ?_
     intro b2 f2
     have g2:=f2
     repeat ((with_reducible replace g2:=fresh_set g2);obtain ⟨g2,_⟩:=g2)
     refine nl_ ?_
     iterate 11 refine s1_ ?_
     refine su_ [(0,_),(2,_),(3,_),(8,_)] ?_
     refine cF_ ?_
     iterate 4 refine s1_ ?_
     refine AWP.draw [(0,true),(1,true),(2,true),(3,true),(4,true),(5,true),(6,false),(7,true),(8,true)] [] mixed (by kernel_rfl) ?_
     iterate 2 refine s1_ ?_
     refine dP (hc:=fun _=>Calm.bin rfl rfl (bin_bool (bin_str_neq _ _) (bnot_dec_false h1))) (h:=?_)
     iterate 3 refine s1_ ?_
     refine draw_only rfl ?_
     refine ARun.callG 3 false 13 rfl (lit_lt rfl) rfl (lit_lt rfl) go_76 rfl (hz6 _) ?_
     rintro _ Sx ⟨rfl,hS⟩
     rw [hS];clear hS Sx
     refine arun_nil ⟨fun _=>less_,?_⟩
     first|refine k_d ?_|refine dG (hc:=fun _=>Calm.bin rfl rfl (bin_bool (bin_str_neq _ _) (bnot_dec_false h2))) (h:=?_)
     iterate 3 refine s1_ ?_
     refine su_ [(0,_),(2,_),(3,_),(8,_),(18,_)] ?_
     refine cF_ ?_
     iterate 4 refine s1_ ?_
     refine AWP.draw [(0,true),(1,true),(5,true),(6,true),(2,false),(3,false),(4,false),(7,true)] [] mixed (by kernel_rfl) ?_
     iterate 4 refine s1_ ?_
     refine draw_only rfl ?_
     refine ARun.build1s (lit_lt rfl) ty_sl_149 rfl rfl ?_
     intro b22 f22
     have g22:=f22
     repeat ((with_reducible replace g22:=fresh_set g22);obtain ⟨g22,_⟩:=g22)
     refine arun_nil ⟨fun _=>less_,?_⟩
     refine draw_only rfl ?_
     refine ca_ rfl (hsum _ _ _ _ own_) ?_
     rintro _ Sx ⟨rfl,hS⟩
     rw [hS];clear hS Sx
     refine arun_nil ⟨fun _=>less_,?_⟩
     refine draw_only rfl ?_
     refine ca_ rfl (hlit _) ?_
     rintro _ Sx ⟨rfl,hS⟩
     rw [hS];clear hS Sx
     refine arun_nil ⟨fun _=>less_,?_⟩
     refine dP (hc:=fun _=>Calm.bin rfl rfl (bin_bool (bin_str_neq _ _) (bnot_dec_true h3))) (h:=?_)
     iterate 2 refine s1_ ?_
     refine su_ [(0,_),(2,_),(3,_),(8,_),(18,_),(27,_)] ?_
     refine cT_ ?_
     iterate 7 refine s1_ ?_
     refine su_ [(0,_),(2,_),(3,_),(8,_),(18,_),(27,_)] ?_
     iterate 2 refine s1_ ?_
     refine ⟨_,S,⟨_,_,_,rfl,.inr ⟨ty_agg_55,[_,_,_,_,_,_,_],ty_size_55,rds_,rfl⟩,⟨_,_,rfl,rfl,rfl⟩,rfl⟩,less_,?_⟩
     exact ⟨rfl,rfl⟩
   ·rw [if_pos (.inr (by rw [← Bool.not_eq_true];exact fun g=>h2 ((tail_iff s h64).2 g)))]
    unfold mfV M0
    refine ACall.enter (rs:=[.cell 2 55,.tmp 3]) 71 [(0,.string s)] Tryz.func32 rfl rfl (Nat.le_of_ble_eq_true rfl) rfl ⟨rfl,trivial⟩ ?_
    iterate 2 refine s1_ ?_
    refine ARun.alloc (lit_lt rfl) ty_zero_55 ?_
    intro b2 f2
    have g2:=f2
    repeat ((with_reducible replace g2:=fresh_set g2);obtain ⟨g2,_⟩:=g2)
    refine nl_ ?_
    iterate 11 refine s1_ ?_
    refine su_ [(0,_),(2,_),(3,_),(8,_)] ?_
    refine cF_ ?_
    iterate 4 refine s1_ ?_
    refine AWP.draw [(0,true),(1,true),(2,true),(3,true),(4,true),(5,true),(6,false),(7,true),(8,true)] [] mixed (by kernel_rfl) ?_
    iterate 2 refine s1_ ?_
    refine dP (hc:=fun _=>Calm.bin rfl rfl (bin_bool (bin_str_neq _ _) (bnot_dec_false h1))) (h:=?_)
    iterate 3 refine s1_ ?_
    refine draw_only rfl ?_
    refine ARun.callG 3 false 13 rfl (lit_lt rfl) rfl (lit_lt rfl) go_76 rfl (hz6 _) ?_
    rintro _ Sx ⟨rfl,hS⟩
    rw [hS];clear hS Sx
    refine arun_nil ⟨fun _=>less_,?_⟩
    first|refine k_d ?_|refine dG (hc:=fun _=>Calm.bin rfl rfl (bin_bool (bin_str_neq _ _) (bnot_dec_true h2))) (h:=?_)
    iterate 3 refine s1_ ?_
    refine su_ [(0,_),(2,_),(3,_),(8,_),(18,_)] ?_
    refine cT_ ?_
    iterate 7 refine s1_ ?_
    refine su_ [(0,_),(2,_),(3,_),(8,_),(18,_)] ?_
    iterate 2 refine s1_ ?_
    refine ⟨_,S,⟨_,_,_,rfl,.inr ⟨ty_agg_55,[_,_,_,_,_,_,_],ty_size_55,rds_,rfl⟩,⟨_,_,rfl,rfl,rfl⟩,rfl⟩,less_,?_⟩
    exact ⟨rfl,rfl⟩
  ·rw [if_pos (.inl fun g=>h1 ((head_iff s).2 g))]
   unfold mfV M0
   refine ACall.enter (rs:=[.cell 2 55,.tmp 3]) 71 [(0,.string s)] Tryz.func32 rfl rfl (Nat.le_of_ble_eq_true rfl) rfl ⟨rfl,trivial⟩ ?_
   iterate 2 refine s1_ ?_
   refine ARun.alloc (lit_lt rfl) ty_zero_55 ?_
   intro b2 f2
   have g2:=f2
   repeat ((with_reducible replace g2:=fresh_set g2);obtain ⟨g2,_⟩:=g2)
   refine nl_ ?_
   iterate 11 refine s1_ ?_
   refine su_ [(0,_),(2,_),(3,_),(8,_)] ?_
   refine cF_ ?_
   iterate 4 refine s1_ ?_
   refine AWP.draw [(0,true),(1,true),(2,true),(3,true),(4,true),(5,true),(6,false),(7,true),(8,true)] [] mixed (by kernel_rfl) ?_
   iterate 2 refine s1_ ?_
   refine dP (hc:=fun _=>Calm.bin rfl rfl (bin_bool (bin_str_neq _ _) (bnot_dec_true h1))) (h:=?_)
   iterate 3 refine s1_ ?_
   refine draw_only rfl ?_
   refine s1_ ?_
   refine arun_nil ⟨fun _=>less_,?_⟩
   iterate 4 refine s1_ ?_
   refine su_ [(0,_),(2,_),(3,_),(8,_),(18,_)] ?_
   refine cT_ ?_
   iterate 7 refine s1_ ?_
   refine su_ [(0,_),(2,_),(3,_),(8,_),(18,_)] ?_
   iterate 2 refine s1_ ?_
   refine ⟨_,S,⟨_,_,_,rfl,.inr ⟨ty_agg_55,[_,_,_,_,_,_,_],ty_size_55,rds_,rfl⟩,⟨_,_,rfl,rfl,rfl⟩,rfl⟩,less_,?_⟩
   exact ⟨rfl,rfl⟩
 ·rw [if_pos h64]
  unfold mfV M0
  refine ACall.enter (rs:=[.cell 2 55,.tmp 3]) 71 [(0,.string s)] Tryz.func32 rfl rfl (Nat.le_of_ble_eq_true rfl) rfl ⟨rfl,trivial⟩ ?_
  iterate 2 refine s1_ ?_
  refine ARun.alloc (lit_lt rfl) ty_zero_55 ?_
  intro b2 f2
  have g2:=f2
  repeat ((with_reducible replace g2:=fresh_set g2);obtain ⟨g2,_⟩:=g2)
  refine nl_ ?_
  iterate 11 refine s1_ ?_
  refine su_ [(0,_),(2,_),(3,_),(8,_)] ?_
  refine cT_ ?_
  iterate 7 refine s1_ ?_
  refine su_ [(0,_),(2,_),(3,_),(8,_)] ?_
  iterate 2 refine s1_ ?_
  refine ⟨_,S,⟨_,_,_,rfl,.inr ⟨ty_agg_55,[_,_,_,_,_,_,_],ty_size_55,rds_,rfl⟩,⟨_,_,rfl,rfl,rfl⟩,rfl⟩,less_,?_⟩
  exact ⟨rfl,rfl⟩
end Slo
end Go.Proofs.YtceikpipmcadmaaGreatDoor
namespace Go.Proofs.YtceikpipmcadmaaGreatDoor
open Go.RowKit
open Mv Disk Num
namespace Slo
theorem dec_yes {s : ByteArray} (h : (decM s).2 = 0) : s.size = 64 ∧ s.data.toList.take 2 = [77, 70] ∧ Rec.zeroL (s.data.toList.drop 58) = true ∧ Crc.tailS (sumOf (s.extract 0 54)) = s.extract 54 58 ∧ RightM (fieldsM s) ∧ (decM s).1 = fieldsM s := by
 unfold decM at h ⊢
 by_cases a:s.size≠64
 ·rw [if_pos a] at h;simp at h
 rw [if_neg a] at h ⊢
 have a:s.size=64:=by simpa using a
 by_cases b:s.data.toList.take 2 ≠ [77,70]∨Rec.zeroL (s.data.toList.drop 58)=false
 ·rw [if_pos b] at h;simp at h
 rw [if_neg b] at h ⊢
 by_cases c:(openS (s.extract 0 58)).2≠0
 ·rw [if_pos c] at h;exact absurd h c
 rw [if_neg c] at h ⊢
 by_cases d:chkM (fieldsM s)≠0
 ·rw [if_pos d] at h;simp at h
 rw [if_neg d]
 simp only [not_or,ne_eq,Decidable.not_not,Bool.not_eq_false] at b c d
 refine ⟨a,b.1,b.2,?_,(chk_iff _).1 d,rfl⟩
 rw [open_iff s a] at c
 by_cases q:Crc.tailS (sumOf (s.extract 0 54))=s.extract 54 58
 ·exact q
 ·rw [if_neg q] at c;simp at c
theorem pad_rtrim {l : List UInt8} (h : l.length = 16) : padL (bs (St.rtrim 0 l)) = l := by
 have key:∀ r:List UInt8,List.replicate (r.length-(r.dropWhile (· == (0:UInt8))).length) 0 ++ r.dropWhile (· == (0:UInt8))=r:=by
  intro r
  induction r with
  | nil=>rfl
  | cons x r ih =>
   by_cases hx:(x == (0:UInt8))=true
   ·rw [List.dropWhile_cons_of_pos (p:=fun y=>y == (0:UInt8)) hx]
    have hle:=(List.dropWhile_sublist (l:=r) (fun y=>y == (0:UInt8))).length_le
    rw [List.length_cons,show r.length+1-(r.dropWhile fun y=>y == (0:UInt8)).length=(r.length-(r.dropWhile fun y=>y == (0:UInt8)).length)+1 from by omega,List.replicate_succ,List.cons_append,ih,beq_iff_eq.1 hx]
   ·rw [List.dropWhile_cons_of_neg (p:=fun y=>y == (0:UInt8)) hx]
    simp
 have hk:=key l.reverse
 rw [List.length_reverse,h] at hk
 have e:l=(l.reverse.dropWhile (· == (0:UInt8))).reverse ++ List.replicate (16-(l.reverse.dropWhile (· == (0:UInt8))).length) 0:=by
  have:=congrArg List.reverse hk
  rw [List.reverse_append,List.reverse_reverse,List.reverse_replicate] at this
  exact this.symm
 unfold padL
 rw [bs_data,size_bs]
 unfold St.rtrim
 rw [List.length_reverse]
 exact e.symm
theorem drop_parts {l : List UInt8} (h : l.length = 64) (h2 : l.take 2 = [77, 70]) : l = [77, 70] ++ ((l.drop 2).take 5 ++ ([at8 l 7] ++ ((l.drop 8).take 5 ++ ((l.drop 13).take 5 ++ ((l.drop 18).take 4 ++ ((l.drop 22).take 16 ++ ((l.drop 38).take 16 ++ ((l.drop 54).take 4 ++ l.drop 58)))))))) := by
 have st:∀ (n k:Nat),l.drop n=(l.drop n).take k ++ l.drop (n+k):=fun n k=>by
  rw [← List.drop_drop,List.take_append_drop]
 have e7:l.drop 7 = [at8 l 7] ++ l.drop 8:=by
  rw [List.drop_eq_getElem_cons (by omega:7<l.length),at8_get _ _ (by omega)];rfl
 have e0:l=l.take 2 ++ l.drop 2:=(List.take_append_drop 2 l).symm
 have s2:=st 2 5;have s8:=st 8 5;have s13:=st 13 5;have s18:=st 18 4;have s22:=st 22 16;have s38:=st 38 16;have s54:=st 54 4
 rw [h2] at e0
 conv=>lhs;rw [e0,s2,show 2+5=7 from rfl,e7,s8,show 8+5=13 from rfl,s13,show 13+5=18 from rfl,s18,show 18+4=22 from rfl,s22,show 22+16=38 from rfl,s38,show 38+16=54 from rfl,s54]
/-- A sector that is read is its own manifest's. -/
theorem enc_dec {s : ByteArray} (h : (decM s).2 = 0) : encM (decM s).1 = (s, 0) := by
 obtain ⟨h64,h2,hz,hs,hR,he⟩:=dec_yes h
 have hl:=St.len_list s
 have hp:=drop_parts (by omega) h2
 rw [he]
 unfold encM
 rw [if_neg (by rw [(chk_iff _).2 hR];simp)]
 refine Prod.ext ?_ rfl
 have l5:∀ n,n+5≤64→((s.data.toList.drop n).take 5).length=5:=fun n hn=>by rw [List.length_take,List.length_drop];omega
 have l16:∀ n,n+16≤64→((s.data.toList.drop n).take 16).length=16:=fun n hn=>by rw [List.length_take,List.length_drop];omega
 have l4:((s.data.toList.drop 18).take 4).length=4:=by rw [List.length_take,List.length_drop];omega
 have hA:preL (fieldsM s) = [77,70] ++ (s.data.toList.drop 2).take 5 ++ [at8 s.data.toList 7] ++ (s.data.toList.drop 8).take 5 ++ (s.data.toList.drop 13).take 5 ++ (s.data.toList.drop 18).take 4 ++ (s.data.toList.drop 22).take 16 ++ (s.data.toList.drop 38).take 16:=by
  unfold preL fieldsM
  simp only
  rw [five_ofB _ (l5 2 (by decide)),five_ofB _ (l5 8 (by decide)),five_ofB _ (l5 13 (by decide)),le4_leN _ l4,pad_rtrim (l16 22 (by decide)),pad_rtrim (l16 38 (by decide)),UInt8.ofNat_toNat]
 have hlen:(preL (fieldsM s)).length=54:=pre_length ((nmd_iff _).1 hR.f).2.1 ((nmd_iff _).1 hR.t).2.1
 have hall:s.data.toList=preL (fieldsM s) ++ ((s.data.toList.drop 54).take 4 ++ s.data.toList.drop 58):=by
  rw [hA]
  refine hp.trans ?_
  simp only [List.append_assoc]
 have hpre:s.data.toList.take 54=preL (fieldsM s):=by
  conv=>lhs;rw [hall]
  exact List.take_left' hlen
 have hb:bs (preL (fieldsM s))=s.extract 0 54:=by
  apply str_ext
  rw [bs_data,ext0,hpre]
 have h6:s.data.toList.drop 58=List.replicate 6 0:=by
  apply List.ext_getElem (by rw [List.length_drop,List.length_replicate];omega)
  intro i h1 h2
  rw [List.getElem_replicate]
  have:=List.all_eq_true.1 (show Rec.zeroL (s.data.toList.drop 58)=true from hz) _ (List.getElem_mem h1)
  simpa using this
 apply str_ext
 show (encS (fieldsM s)).data.toList=_
 rw [enc_list,hb,hs,cut_list]
 conv=>rhs;rw [hall,h6]
 rw [← List.append_assoc]
theorem fields_fit (s : ByteArray) : Fit (fieldsM s) := by
 have h5:∀ n,ofB ((s.data.toList.drop n).take 5)<18446744073709551616:=fun n=>Nat.lt_of_lt_of_le (ofB_le5 _ (by rw [List.length_take];omega)) (by decide)
 refine ⟨h5 2,?_,h5 8,h5 13,?_⟩
 ·show (at8 s.data.toList 7).toNat<256
  exact UInt8.toNat_lt _
 ·show leN _<_
  have:=leN_lt' ((s.data.toList.drop 18).take 4)
  have h4:(2:Nat) ^ (8*((s.data.toList.drop 18).take 4).length)≤2 ^ 32:=Nat.pow_le_pow_right (by decide) (by rw [List.length_take];omega)
  omega
theorem xor_ne {x d : UInt8} (h : d ≠ 0) : x ^^^ d ≠ x := fun e => by
 apply h
 have h2:=congrArg (fun y=>x ^^^ y) e
 simpa [← UInt8.xor_assoc] using h2
/-- A manifest's sector with one byte another is none's. -/
theorem flip {m : Mf} (h : RightM m) {k : Nat} {d : UInt8} (hk : k < 64) (hd : d ≠ 0) : (decM (Crc.turn (encS m) k d)).2 = 2 ∨ (decM (Crc.turn (encS m) k d)).2 = 6 := by
 have hf:=((nmd_iff _).1 h.f).2.1
 have ht:=((nmd_iff _).1 h.t).2.1
 have h64:=enc_size h
 have hz:(Crc.turn (encS m) k d).size=64:=by rw [Crc.turn_size];exact h64
 have hpl:=pre_length hf ht
 have hA:(encS m).data.toList=(Crc.frameB (bs (preL m))).data.toList ++ List.replicate 6 0:=by unfold encS;rw [bs_data]
 have hAl:(Crc.frameB (bs (preL m))).data.toList.length=58:=by rw [St.len_list,Crc.frameB_size,size_bs,hpl]
 have hL:(Crc.turn (encS m) k d).data.toList=(encS m).data.toList.set k (at8 (encS m).data.toList k ^^^ d):=by unfold Crc.turn;rw [bs_data]
 have hen:(encS m).data.toList.length=64:=by rw [St.len_list];exact h64
 unfold decM
 rw [if_neg (by rw [hz];simp)]
 by_cases a:(Crc.turn (encS m) k d).data.toList.take 2 ≠ [77,70]∨Rec.zeroL ((Crc.turn (encS m) k d).data.toList.drop 58)=false
 ·rw [if_pos a];exact .inl rfl
 ·rw [if_neg a]
  simp only [not_or,ne_eq,Decidable.not_not,Bool.not_eq_false] at a
  have h2:2≤k:=by
   rcases Nat.lt_or_ge k 2 with q | q
   ·exfalso
    have e1:(encS m).data.toList.take 2 = [77,70]:=by rw [enc_list];rfl
    have e2:=congrArg (fun l=>at8 l k) a.1
    have e3:=congrArg (fun l=>at8 l k) e1
    have at_take:∀ l:List UInt8,at8 (l.take 2) k=at8 l k:=fun l=>by
     unfold at8;simp only [List.getD,List.getElem?_take];rw [if_pos q]
    simp only [at_take] at e2 e3
    rw [hL,at8_set_same _ _ _ (by omega)] at e2
    exact xor_ne hd (e2.trans e3.symm)
   ·exact q
  have h58:k<58:=by
   rcases Nat.lt_or_ge k 58 with q | q
   ·exact q
   ·exfalso
    have e0:at8 (encS m).data.toList k=0:=by
     rw [hA]
     unfold at8
     simp only [List.getD]
     rw [List.getElem?_append_right (by omega),hAl,List.getElem?_replicate,if_pos (by omega)];rfl
    have e1:=List.all_eq_true.1 (show Rec.zeroL ((Crc.turn (encS m) k d).data.toList.drop 58)=true from a.2) (at8 (encS m).data.toList k ^^^ d) (by
     rw [hL]
     refine List.mem_iff_getElem.2 ⟨k-58,by rw [List.length_drop,List.length_set];omega,?_⟩
     rw [List.getElem_drop,List.getElem_set]
     rw [if_pos (by omega)])
    rw [beq_iff_eq,e0] at e1
    exact hd (by simpa using e1)
  have hc:(Crc.turn (encS m) k d).extract 0 58=Crc.turn (Crc.frameB (bs (preL m))) k d:=by
   apply str_ext
   rw [ext0,hL,hA]
   have ea:at8 ((Crc.frameB (bs (preL m))).data.toList ++ List.replicate 6 0) k=at8 (Crc.frameB (bs (preL m))).data.toList k:=by
    unfold at8;simp only [List.getD];rw [List.getElem?_append_left (by omega)]
   rw [ea,List.set_append_left _ _ (by omega)]
   unfold Crc.turn
   rw [bs_data]
   exact List.take_left' (by rw [List.length_set];exact hAl)
  have ho:=Crc.turn_open (bs (preL m)) k d (by rw [size_bs,hpl];decide) (by rw [← St.len_list,hAl];exact h58) hd
  rw [hc,if_pos (by rw [ho];simp)]
  exact .inr ho
end Slo
end Go.Proofs.YtceikpipmcadmaaGreatDoor
namespace Go.Proofs.YtceikpipmcadmaaGreatDoor
open Go.RowKit
open Mv Disk Num
namespace Slo
/-- A sector that is met, the i-th. -/
def stepM (best : Mf) (i : Nat) (s : ByteArray) : Mf := if (decM s).2 = 0 ∧ (decM s).1.seq % 2 = i ∧ best.seq < (decM s).1.seq then (decM s).1 else best
def bestN (a b : ByteArray) : Nat → Mf
  | 0 => M0
  | 1 => stepM M0 0 a
  | _ => stepM (stepM M0 0 a) 1 b
/-- The manifest that counts, of a disk at work. -/
def loadW (d : D) (s : ByteArray) : Mf × Int :=
  if (readD d s 0).2 ≠ 0 then (M0, (readD d s 0).2) else if (readD d s 1).2 ≠ 0 ∨ (readD d s 2).2 = 0 then (M0, 2) else
  if (bestN (readD d s 0).1 (readD d s 1).1 2).seq = 0 then (M0, 3) else (bestN (readD d s 0).1 (readD d s 1).1 2, 0)
noncomputable def loadP (d : D) (s : ByteArray) : Mf × Int := if (openD d).2 ≠ 0 then (M0, (openD d).2) else loadW d s
def writeW (d : D) (s : ByteArray) (m : Mf) : D × Int :=
  if (encM m).2 ≠ 0 then (d, (encM m).2) else
  if (writeD d s ((m.seq % 2 : Nat) : Int) (encM m).1).2 = 0 then (settleD (writeD d s ((m.seq % 2 : Nat) : Int) (encM m).1).1 fun _ => true, 0) else writeD d s ((m.seq % 2 : Nat) : Int) (encM m).1
noncomputable def commitP (d : D) (s : ByteArray) (m : Mf) : D × Int :=
  if chkM m ≠ 0 then ((openD d).1, 2) else if (openD d).2 ≠ 0 then openD d else
  if (loadW d s).2 ≠ 0 then (d, (loadW d s).2) else if m.seq - 1 ≠ (loadW d s).1.seq then (d, 12) else writeW d s m
end Slo
end Go.Proofs.YtceikpipmcadmaaGreatDoor
namespace Go.Proofs.YtceikpipmcadmaaGreatDoor
open Go.RowKit
open Mv Disk Num
set_option maxRecDepth 4000
namespace Slo
/-- What the package's variable holds. -/
def ErrT (S : Mem) : Prop := S.Knows ⟨0, 0, none⟩ [.iface 197 (.agg #[.pointer (some ⟨4, 72, none⟩)])]
theorem ErrT.less {S T : Mem} (h : ErrT S) (hl : S.Less T) : ErrT T := Mem.Knows.less h hl
def mfE (p : Mf × Int) : Value := .tuple #[mfV p.1, .int .i64 p.2]
theorem dec_err {s : ByteArray} (h : (decM s).2 ≠ 0) : (decM s).1 = M0 := by
 unfold decM at h ⊢
 repeat' split
 all_goals first | rfl | skip
 ·rename_i a b c d
  exact absurd (show (decM s).2=0 by unfold decM;rw [if_neg a,if_neg b,if_neg c,if_neg d]) (by unfold decM;exact h)
theorem slo_Decode (s : ByteArray) (S : Mem) (hs : s.size ≤ 9223372036854775807) (hg : ErrT S) :
  ACall Tryz.prog 31 #[.string s] S fun r S'=>r=mfE (decM s)∧S'=S:=by
 have hr:=fun S=>slo_read s S hs
 unfold ReadS at hr
 have he:=fun h=>dec_err (s:=s) h
 unfold mfE
 generalize decM s=u at *
 obtain ⟨m,c⟩:=u
 simp only at hr he ⊢
 by_cases h0:c=0
 ·have hr0:∀ S,ACall Tryz.prog 78 #[.string s] S fun r S'=>r = .tuple #[mfV m,.nilIface]∧S'=S:=fun S=>(hr S).mono fun v S' h=>by
   rcases h with ⟨_,h⟩ | ⟨h,_⟩
   ·exact h
   ·exact absurd h0 h
  subst h0
  unfold mfV at *
  refine ACall.enter (rs:=[.cell 2 55,.tmp 3]) 18 [(0,.string s)] Tryz.func31 rfl rfl (Nat.le_of_ble_eq_true rfl) rfl ⟨rfl,trivial⟩ ?_
  iterate 2 refine s1_ ?_
  refine ARun.alloc (lit_lt rfl) ty_zero_55 ?_
  intro b2 f2
  have g2:=f2
  repeat ((with_reducible replace g2:=fresh_set g2);obtain ⟨g2,_⟩:=g2)
  refine nl_ ?_
  iterate 6 refine s1_ ?_
  refine ca_ rfl (hr0 _) ?_
  rintro _ Sx ⟨rfl,h1⟩
  rw [h1];clear h1 Sx
  iterate 3 refine s1_ ?_
  refine ARun.alloc (lit_lt rfl) ty_zero_55 ?_
  intro b4 f4
  have g4:=f4
  repeat ((with_reducible replace g4:=fresh_set g4);obtain ⟨g4,_⟩:=g4)
  refine nl_ ?_
  iterate 4 refine s1_ ?_
  refine su_ [(0,_),(2,_),(3,_),(4,_),(5,_)] ?_
  iterate 2 refine s1_ ?_
  refine ARun.alloc (lit_lt rfl) ty_zero_29 ?_
  intro b6 f6
  have g6:=f6
  repeat ((with_reducible replace g6:=fresh_set g6);obtain ⟨g6,_⟩:=g6)
  refine nl_ ?_
  iterate 6 refine s1_ ?_
  refine rC (Calm.mkI (by kernel_rfl) rfl) ?_
  refine ca_ rfl (As.asNil _ _) ?_
  rintro _ Sx ⟨rfl,h1⟩
  rw [h1];clear h1 Sx
  iterate 2 refine s1_ ?_
  refine su_ [(0,_),(2,_),(3,_),(4,_),(5,_),(6,_),(14,_)] ?_
  refine cF_ ?_
  iterate 9 refine s1_ ?_
  refine su_ [(0,_),(2,_),(3,_),(4,_),(5,_),(6,_),(14,_)] ?_
  refine s1_ ?_
  refine ⟨_,S,⟨_,_,_,rfl,.inr ⟨ty_agg_55,[_,_,_,_,_,_,_],ty_size_55,rds_,rfl⟩,⟨_,_,rfl,rfl,rfl⟩,rfl⟩,less_,?_⟩
  exact ⟨rfl,rfl⟩
 ·have hm:=he h0
  subst hm
  have hr0:∀ S,ACall Tryz.prog 78 #[.string s] S fun r S'=>∃ b,Fresh S b∧r = .tuple #[mfV M0,ftV b]∧S'=S.set b (ftB c):=fun S=>(hr S).mono fun v S' h=>by
   rcases h with ⟨h,_⟩ | ⟨_,h⟩
   ·exact absurd h h0
   ·exact h
  unfold mfV ftV ftB M0 at *
  simp only at hr0
  refine ACall.enter (rs:=[.cell 2 55,.tmp 3]) 18 [(0,.string s)] Tryz.func31 rfl rfl (Nat.le_of_ble_eq_true rfl) rfl ⟨rfl,trivial⟩ ?_
  iterate 2 refine s1_ ?_
  refine ARun.alloc (lit_lt rfl) ty_zero_55 ?_
  intro b2 f2
  have g2:=f2
  repeat ((with_reducible replace g2:=fresh_set g2);obtain ⟨g2,_⟩:=g2)
  refine nl_ ?_
  iterate 6 refine s1_ ?_
  refine ca_ rfl (hr0 _) ?_
  rintro _ Sx ⟨bf,ff,rfl,h1⟩
  rw [h1];clear h1 Sx
  obtain ⟨gf,nf⟩:=fresh_set ff
  iterate 3 refine s1_ ?_
  refine ARun.alloc (lit_lt rfl) ty_zero_55 ?_
  intro b4 f4
  have g4:=f4
  repeat ((with_reducible replace g4:=fresh_set g4);obtain ⟨g4,_⟩:=g4)
  refine nl_ ?_
  iterate 4 refine s1_ ?_
  refine su_ [(0,_),(2,_),(3,_),(4,_),(5,_)] ?_
  iterate 2 refine s1_ ?_
  refine ARun.alloc (lit_lt rfl) ty_zero_29 ?_
  intro b6 f6
  have g6:=f6
  repeat ((with_reducible replace g6:=fresh_set g6);obtain ⟨g6,_⟩:=g6)
  refine nl_ ?_
  iterate 6 refine s1_ ?_
  refine rC (Calm.mkI (by kernel_rfl) rfl) ?_
  refine ca_ rfl (As.asHit _ bf b6 _ c _ _ _ (hg.less less_) own_ own_) ?_
  rintro _ Sx ⟨rfl,h1⟩
  rw [h1];clear h1 Sx
  iterate 2 refine s1_ ?_
  refine su_ [(0,_),(2,_),(3,_),(4,_),(5,_),(6,_),(14,_)] ?_
  refine cT_ ?_
  refine s1_ ?_
  refine AWP.drawG [2] mixed ?_
  refine DG.pure 0 (by kernel_rfl) (by kernel_rfl) rfl rfl rfl rfl (lit_lt rfl) (fun _=>Calm.build (cs:=[_,_,_,_,_,_,_]) ty_bld_55 rfl rfl) ?_
  refine DG.two 1 2 (by kernel_rfl) rfl ?_ rfl ?_
  ·refine s1_ ?_
   refine arun_nil ⟨fun _=>less_,?_⟩
   refine DG.only 2 (by kernel_rfl) rfl ?_
   refine s1_ ?_
   refine arun_nil ⟨fun h=>absurd h (by decide),?_⟩
   refine DG.pure 3 (by kernel_rfl) (by kernel_rfl) rfl rfl rfl rfl (lit_lt rfl) (fun _=>Calm.assign rfl) ?_
   refine DG.end_ (by kernel_rfl) ?_
   refine s1_ ?_
   refine su_ [(0,_),(2,_),(3,_),(4,_),(5,_),(6,_),(14,_)] ?_
   iterate 2 refine s1_ ?_
   refine ⟨_,S,⟨_,_,_,rfl,.inr ⟨ty_agg_55,[_,_,_,_,_,_,_],ty_size_55,rds_,rfl⟩,⟨_,_,rfl,rfl,rfl⟩,rfl⟩,less_,?_⟩
   exact ⟨rfl,rfl⟩
  ·refine s1_ ?_
   refine arun_nil ⟨fun h=>absurd h (by decide),?_⟩
   refine DG.only 1 (by kernel_rfl) rfl ?_
   refine s1_ ?_
   refine arun_nil ⟨fun _=>less_,?_⟩
   refine DG.pure 3 (by kernel_rfl) (by kernel_rfl) rfl rfl rfl rfl (lit_lt rfl) (fun _=>Calm.assign rfl) ?_
   refine DG.end_ (by kernel_rfl) ?_
   refine s1_ ?_
   refine su_ [(0,_),(2,_),(3,_),(4,_),(5,_),(6,_),(14,_)] ?_
   iterate 2 refine s1_ ?_
   refine ⟨_,S,⟨_,_,_,rfl,.inr ⟨ty_agg_55,[_,_,_,_,_,_,_],ty_size_55,rds_,rfl⟩,⟨_,_,rfl,rfl,rfl⟩,rfl⟩,less_,?_⟩
   exact ⟨rfl,rfl⟩
end Slo
end Go.Proofs.YtceikpipmcadmaaGreatDoor
namespace Go.Proofs.YtceikpipmcadmaaGreatDoor
open Go.RowKit
open Mv Disk Num
set_option maxRecDepth 4000
namespace Slo
set_option maxHeartbeats 4000000 in
theorem slo_LoadAt (p : Nat) (d : D) (s : ByteArray) (M : Mem) (h : RdV M p d) (hR : Right d) (hg : ErrT M) :
  ACall Tryz.prog 84 #[.pointer (some ⟨p,0,none⟩),.string s] M fun r S'=>r=mfE (loadW d s)∧S'=M:=by
 have c0:=fun M h=>dev_Read p d s 0 M h hR
 have c1:=fun M h=>dev_Read p d s 1 M h hR
 have c2:=fun M h=>dev_Read p d s 2 M h hR
 have z0:=fun h=>(Rec.readD_size hR (s:=s) (k:=0) h).2
 have z1:=fun h=>(Rec.readD_size hR (s:=s) (k:=1) h).2
 unfold loadW mfE mfV
 generalize readD d s 0=r0 at *
 generalize readD d s 1=r1 at *
 generalize readD d s 2=r2 at *
 obtain ⟨a,ea⟩:=r0
 obtain ⟨b,eb⟩:=r1
 obtain ⟨c,ec⟩:=r2
 simp only at *
 obtain ⟨qe,de,qw,dw,hp,hE,hW⟩:=id h
 by_cases q0:ea=0
 ·rw [if_neg (by omega)]
  subst q0
  by_cases q1:eb=0
  ·subst q1
   by_cases q2:ec=0
   ·rw [if_pos (.inr q2)]
    subst q2
    unfold M0
    refine ACall.enter (rs:=[.cell 4 55,.tmp 5]) 84 [(0,.pointer (some ⟨p,0,none⟩)),(1,.string s)] Tryz.func84 rfl rfl (Nat.le_of_ble_eq_true rfl) rfl ⟨rfl,rfl,trivial⟩ ?_
    iterate 2 refine s1_ ?_
    refine ARun.alloc (lit_lt rfl) ty_zero_55 ?_
    intro b4 f4
    have g4:=f4
    repeat ((with_reducible replace g4:=fresh_set g4);obtain ⟨g4,_⟩:=g4)
    have:=g4.ne hp;have:=g4.ne' hp
    refine nl_ ?_
    iterate 7 refine s1_ ?_
    refine ca_ rfl (c0 _ (h.less less_)) ?_
    rintro _ Sx ⟨rfl,h1⟩
    rw [h1];clear h1 Sx
    iterate 7 refine s1_ ?_
    refine su_ [(0,_),(1,_),(4,_),(5,_),(6,_),(7,_)] ?_
    iterate 7 refine s1_ ?_
    refine su_ [(0,_),(1,_),(4,_),(5,_),(6,_),(7,_),(23,_)] ?_
    refine cF_ ?_
    iterate 6 refine s1_ ?_
    refine ca_ rfl (c1 _ (h.less less_)) ?_
    rintro _ Sx ⟨rfl,h1⟩
    rw [h1];clear h1 Sx
    iterate 7 refine s1_ ?_
    refine su_ [(0,_),(1,_),(4,_),(5,_),(6,_),(7,_),(23,_),(8,_)] ?_
    iterate 5 refine s1_ ?_
    refine ca_ rfl (c2 _ (h.less less_)) ?_
    rintro _ Sx ⟨rfl,h1⟩
    rw [h1];clear h1 Sx
    iterate 7 refine s1_ ?_
    refine su_ [(0,_),(1,_),(4,_),(5,_),(6,_),(7,_),(23,_),(8,_),(10,_)] ?_
    iterate 10 refine s1_ ?_
    refine su_ [(0,_),(1,_),(4,_),(5,_),(6,_),(7,_),(23,_),(8,_),(10,_),(43,_)] ?_
    refine cT_ ?_
    iterate 7 refine s1_ ?_
    refine su_ [(0,_),(1,_),(4,_),(5,_),(6,_),(7,_),(23,_),(8,_),(10,_),(43,_)] ?_
    iterate 2 refine s1_ ?_
    refine ⟨_,M,⟨_,_,_,rfl,.inr ⟨ty_agg_55,[_,_,_,_,_,_,_],ty_size_55,rds_,rfl⟩,⟨_,_,rfl,rfl,rfl⟩,rfl⟩,less_,?_⟩
    exact ⟨rfl,rfl⟩
   ·rw [if_neg (by omega)]
    have z0:=z0 rfl
    have z1:=z1 rfl
    refine ACall.enter (rs:=[.cell 4 55,.tmp 5]) 84 [(0,.pointer (some ⟨p,0,none⟩)),(1,.string s)] Tryz.func84 rfl rfl (Nat.le_of_ble_eq_true rfl) rfl ⟨rfl,rfl,trivial⟩ ?_
    iterate 2 refine s1_ ?_
    refine ARun.alloc (lit_lt rfl) ty_zero_55 ?_
    intro b4 f4
    have g4:=f4
    repeat ((with_reducible replace g4:=fresh_set g4);obtain ⟨g4,_⟩:=g4)
    have:=g4.ne hp;have:=g4.ne' hp
    refine nl_ ?_
    iterate 7 refine s1_ ?_
    refine ca_ rfl (c0 _ (h.less less_)) ?_
    rintro _ Sx ⟨rfl,h1⟩
    rw [h1];clear h1 Sx
    iterate 7 refine s1_ ?_
    refine su_ [(0,_),(1,_),(4,_),(5,_),(6,_),(7,_)] ?_
    iterate 7 refine s1_ ?_
    refine su_ [(0,_),(1,_),(4,_),(5,_),(6,_),(7,_),(23,_)] ?_
    refine cF_ ?_
    iterate 6 refine s1_ ?_
    refine ca_ rfl (c1 _ (h.less less_)) ?_
    rintro _ Sx ⟨rfl,h1⟩
    rw [h1];clear h1 Sx
    iterate 7 refine s1_ ?_
    refine su_ [(0,_),(1,_),(4,_),(5,_),(6,_),(7,_),(23,_),(8,_)] ?_
    iterate 5 refine s1_ ?_
    refine ca_ rfl (c2 _ (h.less less_)) ?_
    rintro _ Sx ⟨rfl,h1⟩
    rw [h1];clear h1 Sx
    iterate 7 refine s1_ ?_
    refine su_ [(0,_),(1,_),(4,_),(5,_),(6,_),(7,_),(23,_),(8,_),(10,_)] ?_
    iterate 6 refine s1_ ?_
    first|refine k_q 40 ?_|refine rG 40 (Calm.bin rfl rfl (bin_bool (bin_eql _ _) (decide_eq_false q2))) ?_
    iterate 3 refine s1_ ?_
    refine su_ [(0,_),(1,_),(4,_),(5,_),(6,_),(7,_),(23,_),(8,_),(10,_),(43,_)] ?_
    refine cF_ ?_
    iterate 5 refine s1_ ?_
    refine ARun.alloc (lit_lt rfl) ty_zero_55 ?_
    intro b11 f11
    have g11:=f11
    repeat ((with_reducible replace g11:=fresh_set g11);obtain ⟨g11,_⟩:=g11)
    have:=g11.ne hp;have:=g11.ne' hp
    refine nl_ ?_
    iterate 3 refine s1_ ?_
    refine su_ [(0,_),(1,_),(4,_),(5,_),(6,_),(7,_),(23,_),(8,_),(10,_),(43,_),(11,_)] ?_
    iterate 5 refine s1_ ?_
    refine ARun.buildN (cs:=[_,_]) (lit_lt rfl) ty_sl_149 rfl rfl rfl rfl ?_
    intro b48 f48
    have g48:=f48
    repeat ((with_reducible replace g48:=fresh_set g48);obtain ⟨g48,_⟩:=g48)
    have:=g48.ne hp;have:=g48.ne' hp
    iterate 4 refine s1_ ?_
    refine su_ [(0,_),(1,_),(4,_),(5,_),(6,_),(7,_),(23,_),(8,_),(10,_),(43,_),(11,_),(48,_),(49,_),(50,_)] ?_
    refine s1_ ?_
    refine AWP.loop (X:=Nat) (fun i=>[(4,.pointer (some ⟨b4,0,none⟩)),(11,.pointer (some ⟨b11,0,none⟩)),(48,.slice (some ⟨b48,0,none⟩) 2 2),(49,.int .i64 2),(50,.int .i64 (i:Int))]) (fun i=>((M.set b4 ⟨55,[.int .u64 0,.int .u8 0,.int .u64 0,.int .u64 0,.int .u32 0,.string ByteArray.empty,.string ByteArray.empty],7⟩).set b11 ⟨55,[.int .u64 ((bestN a b i).seq:Int),.int .u8 ((bestN a b i).phase:Int),.int .u64 ((bestN a b i).count:Int),.int .u64 ((bestN a b i).prim:Int),.int .u32 ((bestN a b i).sum:Int),.string (bestN a b i).frm,.string (bestN a b i).too],7⟩).set b48 ⟨9,[.string a,.string b],2⟩) (fun i=>i≤2) (fun i=>2-i) (0) ⟨rfl,rfl,rfl,rfl,rfl,trivial⟩ (Mem.Less.refl _) (Nat.zero_le _) ?_
    rintro i hi
    (try dsimp only at *)
    iterate 6 refine s1_ ?_
    refine AWP.condB rfl (fun hl=>?_) (fun hl=>?_)
    ·have hl:i<2:=by have:=of_decide_eq_true hl;omega
     rcases (show i=0∨i=1 by omega) with rfl | rfl
     ·have hd:=fun T h=>slo_Decode a T (by omega) h
      unfold mfE mfV at hd
      have hsx:bestN a b 1=if (decM a).2=0∧(decM a).1.seq % 2=0∧(bestN a b 0).seq<(decM a).1.seq then (decM a).1 else bestN a b 0:=rfl
      generalize bestN a b 0=pb at *
      generalize decM a=u at *
      obtain ⟨m,e⟩:=u
      simp only at hd hsx
      by_cases e1:e=0
      ·subst e1
       by_cases e2:m.seq % 2=0
       ·by_cases e3:pb.seq<m.seq
        ·have hs:bestN a b 1=m:=by rw [hsx];exact if_pos ⟨rfl,e2,e3⟩
         iterate 13 refine s1_ ?_
         refine su_ [(4,_),(11,_),(48,_),(49,_),(50,_),(51,_),(12,_),(13,_)] ?_
         iterate 3 refine s1_ ?_
         refine ca_ rfl (hd _ (hg.less less_)) ?_
         rintro _ Sx ⟨rfl,h1⟩
         rw [h1];clear h1 Sx
         iterate 3 refine s1_ ?_
         refine ARun.alloc (lit_lt rfl) ty_zero_55 ?_
         intro b14 f14
         have g14:=f14
         repeat ((with_reducible replace g14:=fresh_set g14);obtain ⟨g14,_⟩:=g14)
         have:=g14.ne hp;have:=g14.ne' hp
         refine nl_ ?_
         iterate 4 refine s1_ ?_
         refine su_ [(4,_),(11,_),(48,_),(49,_),(50,_),(51,_),(12,_),(13,_),(14,_),(15,_)] ?_
         iterate 21 refine s1_ ?_
         refine su_ [(4,_),(11,_),(48,_),(49,_),(50,_),(51,_),(12,_),(13,_),(14,_),(15,_),(76,_)] ?_
         refine cT_ ?_
         iterate 6 refine s1_ ?_
         refine su_ [(4,_),(11,_),(48,_),(49,_),(50,_),(51,_),(12,_),(13,_),(14,_),(15,_),(76,_)] ?_
         iterate 5 refine s1_ ?_
         refine ⟨1,?_,?_,?_,?_⟩
         all_goals (try dsimp only)
         ·exact ⟨rfl,rfl,rfl,rfl,rfl,trivial⟩
         ·(rw [hs];exact less_)
         ·decide
         ·decide
        ·have hs:bestN a b 1=pb:=by rw [hsx];exact if_neg (fun g=>by omega)
         iterate 13 refine s1_ ?_
         refine su_ [(4,_),(11,_),(48,_),(49,_),(50,_),(51,_),(12,_),(13,_)] ?_
         iterate 3 refine s1_ ?_
         refine ca_ rfl (hd _ (hg.less less_)) ?_
         rintro _ Sx ⟨rfl,h1⟩
         rw [h1];clear h1 Sx
         iterate 3 refine s1_ ?_
         refine ARun.alloc (lit_lt rfl) ty_zero_55 ?_
         intro b14 f14
         have g14:=f14
         repeat ((with_reducible replace g14:=fresh_set g14);obtain ⟨g14,_⟩:=g14)
         have:=g14.ne hp;have:=g14.ne' hp
         refine nl_ ?_
         iterate 4 refine s1_ ?_
         refine su_ [(4,_),(11,_),(48,_),(49,_),(50,_),(51,_),(12,_),(13,_),(14,_),(15,_)] ?_
         iterate 21 refine s1_ ?_
         refine su_ [(4,_),(11,_),(48,_),(49,_),(50,_),(51,_),(12,_),(13,_),(14,_),(15,_),(76,_)] ?_
         refine cF_ ?_
         iterate 8 refine s1_ ?_
         refine ⟨1,?_,?_,?_,?_⟩
         all_goals (try dsimp only)
         ·exact ⟨rfl,rfl,rfl,rfl,rfl,trivial⟩
         ·(rw [hs];exact less_)
         ·decide
         ·decide
       ·have hs:bestN a b 1=pb:=by rw [hsx];exact if_neg (fun g=>by omega)
        iterate 13 refine s1_ ?_
        refine su_ [(4,_),(11,_),(48,_),(49,_),(50,_),(51,_),(12,_),(13,_)] ?_
        iterate 3 refine s1_ ?_
        refine ca_ rfl (hd _ (hg.less less_)) ?_
        rintro _ Sx ⟨rfl,h1⟩
        rw [h1];clear h1 Sx
        iterate 3 refine s1_ ?_
        refine ARun.alloc (lit_lt rfl) ty_zero_55 ?_
        intro b14 f14
        have g14:=f14
        repeat ((with_reducible replace g14:=fresh_set g14);obtain ⟨g14,_⟩:=g14)
        have:=g14.ne hp;have:=g14.ne' hp
        refine nl_ ?_
        iterate 4 refine s1_ ?_
        refine su_ [(4,_),(11,_),(48,_),(49,_),(50,_),(51,_),(12,_),(13,_),(14,_),(15,_)] ?_
        iterate 21 refine s1_ ?_
        refine su_ [(4,_),(11,_),(48,_),(49,_),(50,_),(51,_),(12,_),(13,_),(14,_),(15,_),(76,_)] ?_
        refine cF_ ?_
        iterate 8 refine s1_ ?_
        refine ⟨1,?_,?_,?_,?_⟩
        all_goals (try dsimp only)
        ·exact ⟨rfl,rfl,rfl,rfl,rfl,trivial⟩
        ·(rw [hs];exact less_)
        ·decide
        ·decide
      ·have hs:bestN a b 1=pb:=by rw [hsx];exact if_neg (fun g=>e1 g.1)
       iterate 13 refine s1_ ?_
       refine su_ [(4,_),(11,_),(48,_),(49,_),(50,_),(51,_),(12,_),(13,_)] ?_
       iterate 3 refine s1_ ?_
       refine ca_ rfl (hd _ (hg.less less_)) ?_
       rintro _ Sx ⟨rfl,h1⟩
       rw [h1];clear h1 Sx
       iterate 3 refine s1_ ?_
       refine ARun.alloc (lit_lt rfl) ty_zero_55 ?_
       intro b14 f14
       have g14:=f14
       repeat ((with_reducible replace g14:=fresh_set g14);obtain ⟨g14,_⟩:=g14)
       have:=g14.ne hp;have:=g14.ne' hp
       refine nl_ ?_
       iterate 4 refine s1_ ?_
       refine su_ [(4,_),(11,_),(48,_),(49,_),(50,_),(51,_),(12,_),(13,_),(14,_),(15,_)] ?_
       iterate 3 refine s1_ ?_
       refine rC (Calm.bin rfl rfl (bin_bool (bin_eql _ _) (decide_eq_false e1))) ?_
       iterate 17 refine s1_ ?_
       refine su_ [(4,_),(11,_),(48,_),(49,_),(50,_),(51,_),(12,_),(13,_),(14,_),(15,_),(76,_)] ?_
       refine cF_ ?_
       iterate 8 refine s1_ ?_
       refine ⟨1,?_,?_,?_,?_⟩
       all_goals (try dsimp only)
       ·exact ⟨rfl,rfl,rfl,rfl,rfl,trivial⟩
       ·(rw [hs];exact less_)
       ·decide
       ·decide
     ·have hd:=fun T h=>slo_Decode b T (by omega) h
      unfold mfE mfV at hd
      have hsx:bestN a b 2=if (decM b).2=0∧(decM b).1.seq % 2=1∧(bestN a b 1).seq<(decM b).1.seq then (decM b).1 else bestN a b 1:=rfl
      generalize bestN a b 1=pb at *
      generalize decM b=u at *
      obtain ⟨m,e⟩:=u
      simp only at hd hsx
      by_cases e1:e=0
      ·subst e1
       by_cases e2:m.seq % 2=1
       ·by_cases e3:pb.seq<m.seq
        ·have hs:bestN a b 2=m:=by rw [hsx];exact if_pos ⟨rfl,e2,e3⟩
         iterate 13 refine s1_ ?_
         refine su_ [(4,_),(11,_),(48,_),(49,_),(50,_),(51,_),(12,_),(13,_)] ?_
         iterate 3 refine s1_ ?_
         refine ca_ rfl (hd _ (hg.less less_)) ?_
         rintro _ Sx ⟨rfl,h1⟩
         rw [h1];clear h1 Sx
         iterate 3 refine s1_ ?_
         refine ARun.alloc (lit_lt rfl) ty_zero_55 ?_
         intro b14 f14
         have g14:=f14
         repeat ((with_reducible replace g14:=fresh_set g14);obtain ⟨g14,_⟩:=g14)
         have:=g14.ne hp;have:=g14.ne' hp
         refine nl_ ?_
         iterate 4 refine s1_ ?_
         refine su_ [(4,_),(11,_),(48,_),(49,_),(50,_),(51,_),(12,_),(13,_),(14,_),(15,_)] ?_
         iterate 21 refine s1_ ?_
         refine su_ [(4,_),(11,_),(48,_),(49,_),(50,_),(51,_),(12,_),(13,_),(14,_),(15,_),(76,_)] ?_
         refine cT_ ?_
         iterate 6 refine s1_ ?_
         refine su_ [(4,_),(11,_),(48,_),(49,_),(50,_),(51,_),(12,_),(13,_),(14,_),(15,_),(76,_)] ?_
         iterate 5 refine s1_ ?_
         refine ⟨2,?_,?_,?_,?_⟩
         all_goals (try dsimp only)
         ·exact ⟨rfl,rfl,rfl,rfl,rfl,trivial⟩
         ·(rw [hs];exact less_)
         ·decide
         ·decide
        ·have hs:bestN a b 2=pb:=by rw [hsx];exact if_neg (fun g=>by omega)
         iterate 13 refine s1_ ?_
         refine su_ [(4,_),(11,_),(48,_),(49,_),(50,_),(51,_),(12,_),(13,_)] ?_
         iterate 3 refine s1_ ?_
         refine ca_ rfl (hd _ (hg.less less_)) ?_
         rintro _ Sx ⟨rfl,h1⟩
         rw [h1];clear h1 Sx
         iterate 3 refine s1_ ?_
         refine ARun.alloc (lit_lt rfl) ty_zero_55 ?_
         intro b14 f14
         have g14:=f14
         repeat ((with_reducible replace g14:=fresh_set g14);obtain ⟨g14,_⟩:=g14)
         have:=g14.ne hp;have:=g14.ne' hp
         refine nl_ ?_
         iterate 4 refine s1_ ?_
         refine su_ [(4,_),(11,_),(48,_),(49,_),(50,_),(51,_),(12,_),(13,_),(14,_),(15,_)] ?_
         iterate 21 refine s1_ ?_
         refine su_ [(4,_),(11,_),(48,_),(49,_),(50,_),(51,_),(12,_),(13,_),(14,_),(15,_),(76,_)] ?_
         refine cF_ ?_
         iterate 8 refine s1_ ?_
         refine ⟨2,?_,?_,?_,?_⟩
         all_goals (try dsimp only)
         ·exact ⟨rfl,rfl,rfl,rfl,rfl,trivial⟩
         ·(rw [hs];exact less_)
         ·decide
         ·decide
       ·have hs:bestN a b 2=pb:=by rw [hsx];exact if_neg (fun g=>by omega)
        iterate 13 refine s1_ ?_
        refine su_ [(4,_),(11,_),(48,_),(49,_),(50,_),(51,_),(12,_),(13,_)] ?_
        iterate 3 refine s1_ ?_
        refine ca_ rfl (hd _ (hg.less less_)) ?_
        rintro _ Sx ⟨rfl,h1⟩
        rw [h1];clear h1 Sx
        iterate 3 refine s1_ ?_
        refine ARun.alloc (lit_lt rfl) ty_zero_55 ?_
        intro b14 f14
        have g14:=f14
        repeat ((with_reducible replace g14:=fresh_set g14);obtain ⟨g14,_⟩:=g14)
        have:=g14.ne hp;have:=g14.ne' hp
        refine nl_ ?_
        iterate 4 refine s1_ ?_
        refine su_ [(4,_),(11,_),(48,_),(49,_),(50,_),(51,_),(12,_),(13,_),(14,_),(15,_)] ?_
        iterate 21 refine s1_ ?_
        refine su_ [(4,_),(11,_),(48,_),(49,_),(50,_),(51,_),(12,_),(13,_),(14,_),(15,_),(76,_)] ?_
        refine cF_ ?_
        iterate 8 refine s1_ ?_
        refine ⟨2,?_,?_,?_,?_⟩
        all_goals (try dsimp only)
        ·exact ⟨rfl,rfl,rfl,rfl,rfl,trivial⟩
        ·(rw [hs];exact less_)
        ·decide
        ·decide
      ·have hs:bestN a b 2=pb:=by rw [hsx];exact if_neg (fun g=>e1 g.1)
       iterate 13 refine s1_ ?_
       refine su_ [(4,_),(11,_),(48,_),(49,_),(50,_),(51,_),(12,_),(13,_)] ?_
       iterate 3 refine s1_ ?_
       refine ca_ rfl (hd _ (hg.less less_)) ?_
       rintro _ Sx ⟨rfl,h1⟩
       rw [h1];clear h1 Sx
       iterate 3 refine s1_ ?_
       refine ARun.alloc (lit_lt rfl) ty_zero_55 ?_
       intro b14 f14
       have g14:=f14
       repeat ((with_reducible replace g14:=fresh_set g14);obtain ⟨g14,_⟩:=g14)
       have:=g14.ne hp;have:=g14.ne' hp
       refine nl_ ?_
       iterate 4 refine s1_ ?_
       refine su_ [(4,_),(11,_),(48,_),(49,_),(50,_),(51,_),(12,_),(13,_),(14,_),(15,_)] ?_
       iterate 3 refine s1_ ?_
       refine rC (Calm.bin rfl rfl (bin_bool (bin_eql _ _) (decide_eq_false e1))) ?_
       iterate 17 refine s1_ ?_
       refine su_ [(4,_),(11,_),(48,_),(49,_),(50,_),(51,_),(12,_),(13,_),(14,_),(15,_),(76,_)] ?_
       refine cF_ ?_
       iterate 8 refine s1_ ?_
       refine ⟨2,?_,?_,?_,?_⟩
       all_goals (try dsimp only)
       ·exact ⟨rfl,rfl,rfl,rfl,rfl,trivial⟩
       ·(rw [hs];exact less_)
       ·decide
       ·decide
    ·have hl:i=2:=by have:=of_decide_eq_false hl;omega
     subst hl
     by_cases qs:(bestN a b 2).seq=0
     ·rw [if_pos qs]
      unfold M0
      iterate 13 refine s1_ ?_
      refine su_ [(4,_),(11,_),(48,_),(49,_),(50,_),(51,_),(81,_)] ?_
      refine cT_ ?_
      iterate 7 refine s1_ ?_
      refine su_ [(4,_),(11,_),(48,_),(49,_),(50,_),(51,_),(81,_),(5,_)] ?_
      iterate 2 refine s1_ ?_
      refine ⟨_,M,⟨_,_,_,rfl,.inr ⟨ty_agg_55,[_,_,_,_,_,_,_],ty_size_55,rds_,rfl⟩,⟨_,_,rfl,rfl,rfl⟩,rfl⟩,less_,?_⟩
      exact ⟨rfl,rfl⟩
     ·rw [if_neg qs]
      iterate 13 refine s1_ ?_
      refine su_ [(4,_),(11,_),(48,_),(49,_),(50,_),(51,_),(81,_)] ?_
      refine cF_ ?_
      iterate 9 refine s1_ ?_
      refine su_ [(4,_),(11,_),(48,_),(49,_),(50,_),(51,_),(81,_),(5,_)] ?_
      refine s1_ ?_
      refine ⟨_,M,⟨_,_,_,rfl,.inr ⟨ty_agg_55,[_,_,_,_,_,_,_],ty_size_55,rds_,rfl⟩,⟨_,_,rfl,rfl,rfl⟩,rfl⟩,less_,?_⟩
      exact ⟨rfl,rfl⟩
  ·rw [if_pos (.inl q1)]
   unfold M0
   refine ACall.enter (rs:=[.cell 4 55,.tmp 5]) 84 [(0,.pointer (some ⟨p,0,none⟩)),(1,.string s)] Tryz.func84 rfl rfl (Nat.le_of_ble_eq_true rfl) rfl ⟨rfl,rfl,trivial⟩ ?_
   iterate 2 refine s1_ ?_
   refine ARun.alloc (lit_lt rfl) ty_zero_55 ?_
   intro b4 f4
   have g4:=f4
   repeat ((with_reducible replace g4:=fresh_set g4);obtain ⟨g4,_⟩:=g4)
   have:=g4.ne hp;have:=g4.ne' hp
   refine nl_ ?_
   iterate 7 refine s1_ ?_
   refine ca_ rfl (c0 _ (h.less less_)) ?_
   rintro _ Sx ⟨rfl,h1⟩
   rw [h1];clear h1 Sx
   iterate 7 refine s1_ ?_
   refine su_ [(0,_),(1,_),(4,_),(5,_),(6,_),(7,_)] ?_
   iterate 7 refine s1_ ?_
   refine su_ [(0,_),(1,_),(4,_),(5,_),(6,_),(7,_),(23,_)] ?_
   refine cF_ ?_
   iterate 6 refine s1_ ?_
   refine ca_ rfl (c1 _ (h.less less_)) ?_
   rintro _ Sx ⟨rfl,h1⟩
   rw [h1];clear h1 Sx
   iterate 7 refine s1_ ?_
   refine su_ [(0,_),(1,_),(4,_),(5,_),(6,_),(7,_),(23,_),(8,_)] ?_
   iterate 5 refine s1_ ?_
   refine ca_ rfl (c2 _ (h.less less_)) ?_
   rintro _ Sx ⟨rfl,h1⟩
   rw [h1];clear h1 Sx
   iterate 7 refine s1_ ?_
   refine su_ [(0,_),(1,_),(4,_),(5,_),(6,_),(7,_),(23,_),(8,_),(10,_)] ?_
   iterate 3 refine s1_ ?_
   refine rC (Calm.bin rfl rfl (bin_bool (bin_neq _ _) (bnot_dec_true q1))) ?_
   iterate 6 refine s1_ ?_
   refine su_ [(0,_),(1,_),(4,_),(5,_),(6,_),(7,_),(23,_),(8,_),(10,_),(43,_)] ?_
   refine cT_ ?_
   iterate 7 refine s1_ ?_
   refine su_ [(0,_),(1,_),(4,_),(5,_),(6,_),(7,_),(23,_),(8,_),(10,_),(43,_)] ?_
   iterate 2 refine s1_ ?_
   refine ⟨_,M,⟨_,_,_,rfl,.inr ⟨ty_agg_55,[_,_,_,_,_,_,_],ty_size_55,rds_,rfl⟩,⟨_,_,rfl,rfl,rfl⟩,rfl⟩,less_,?_⟩
   exact ⟨rfl,rfl⟩
 ·rw [if_pos q0]
  unfold M0
  refine ACall.enter (rs:=[.cell 4 55,.tmp 5]) 84 [(0,.pointer (some ⟨p,0,none⟩)),(1,.string s)] Tryz.func84 rfl rfl (Nat.le_of_ble_eq_true rfl) rfl ⟨rfl,rfl,trivial⟩ ?_
  iterate 2 refine s1_ ?_
  refine ARun.alloc (lit_lt rfl) ty_zero_55 ?_
  intro b4 f4
  have g4:=f4
  repeat ((with_reducible replace g4:=fresh_set g4);obtain ⟨g4,_⟩:=g4)
  have:=g4.ne hp;have:=g4.ne' hp
  refine nl_ ?_
  iterate 7 refine s1_ ?_
  refine ca_ rfl (c0 _ (h.less less_)) ?_
  rintro _ Sx ⟨rfl,h1⟩
  rw [h1];clear h1 Sx
  iterate 7 refine s1_ ?_
  refine su_ [(0,_),(1,_),(4,_),(5,_),(6,_),(7,_)] ?_
  iterate 4 refine s1_ ?_
  refine rC (Calm.bin rfl rfl (bin_bool (bin_neq _ _) (bnot_dec_true q0))) ?_
  iterate 2 refine s1_ ?_
  refine su_ [(0,_),(1,_),(4,_),(5,_),(6,_),(7,_),(23,_)] ?_
  refine cT_ ?_
  iterate 8 refine s1_ ?_
  refine su_ [(0,_),(1,_),(4,_),(5,_),(6,_),(7,_),(23,_)] ?_
  iterate 2 refine s1_ ?_
  refine ⟨_,M,⟨_,_,_,rfl,.inr ⟨ty_agg_55,[_,_,_,_,_,_,_],ty_size_55,rds_,rfl⟩,⟨_,_,rfl,rfl,rfl⟩,rfl⟩,less_,?_⟩
  exact ⟨rfl,rfl⟩
end Slo
end Go.Proofs.YtceikpipmcadmaaGreatDoor
namespace Go.Proofs.YtceikpipmcadmaaGreatDoor
open Go.RowKit
open Mv Disk Num
set_option maxRecDepth 4000
namespace Slo
set_option maxHeartbeats 1000000 in
theorem slo_Load (v : Value) (d : D) (s : ByteArray) (S : Mem) (hd : DkR S v d) (hz : Dz d) (hg : ErrT S) :
  ACall Tryz.prog 36 #[v,.string s] S fun r S'=>r=mfE (loadP d s)∧S'=S:=by
 have hopen:=disk_Open v d S hd hz
 obtain ⟨pe,ce,pw,cw,rfl,hE,hW⟩:=id hd
 unfold loadP
 rcases openD_or d with ⟨ho,hR⟩ | ⟨ho,hR,hdn⟩ | ⟨ho,hR,hdn⟩ <;> rw [ho] at hopen ⊢
 ·rw [if_pos (by simp)]
  unfold mfE mfV M0
  refine ACall.enter (rs:=[.cell 4 55,.tmp 5]) 22 [(0,.agg #[.int .i64 d.size,.slice pe d.ext.length ce,.slice pw d.waits.length cw,.int .i64 d.fuse,.bool d.down]),(1,.string s)] Tryz.func36 rfl rfl (Nat.le_of_ble_eq_true rfl) rfl ⟨rfl,rfl,trivial⟩ ?_
  iterate 2 refine s1_ ?_
  refine k_b5 rfl ?_
  intro b2 f2
  have g2:=f2
  repeat ((with_reducible replace g2:=fresh_set g2);obtain ⟨g2,_⟩:=g2)
  refine nl_ ?_
  refine ARun.alloc (lit_lt rfl) ty_zero_55 ?_
  intro b4 f4
  have g4:=f4
  repeat ((with_reducible replace g4:=fresh_set g4);obtain ⟨g4,_⟩:=g4)
  refine nl_ ?_
  iterate 6 refine s1_ ?_
  refine ca_ rfl ((hopen.frame f2).frame f4) ?_
  rintro _ S1 ⟨Sa,⟨M,⟨p,oE,oW,hok,rfl,hM⟩,fa,hSa⟩,fb,h1⟩
  rw [h1,hSa];rw [hSa] at fb;clear h1 S1 hSa Sa
  have hSM:S.Less M:=by rw [hM];exact hok.less
  iterate 7 refine s1_ ?_
  refine su_ [(0,_),(1,_),(2,_),(4,_),(5,_),(6,_),(7,_)] ?_
  iterate 7 refine s1_ ?_
  refine su_ [(0,_),(1,_),(2,_),(4,_),(5,_),(6,_),(7,_),(14,_)] ?_
  refine cT_ ?_
  iterate 8 refine s1_ ?_
  refine su_ [(0,_),(1,_),(2,_),(4,_),(5,_),(6,_),(7,_),(14,_)] ?_
  iterate 2 refine s1_ ?_
  refine ⟨_,S,⟨_,_,_,rfl,.inr ⟨ty_agg_55,[_,_,_,_,_,_,_],ty_size_55,rds_,rfl⟩,⟨_,_,rfl,rfl,rfl⟩,rfl⟩,less_,?_⟩
  exact ⟨rfl,rfl⟩
 ·rw [if_pos (by simp)]
  unfold mfE mfV M0
  refine ACall.enter (rs:=[.cell 4 55,.tmp 5]) 22 [(0,.agg #[.int .i64 d.size,.slice pe d.ext.length ce,.slice pw d.waits.length cw,.int .i64 d.fuse,.bool d.down]),(1,.string s)] Tryz.func36 rfl rfl (Nat.le_of_ble_eq_true rfl) rfl ⟨rfl,rfl,trivial⟩ ?_
  iterate 2 refine s1_ ?_
  refine k_b5 rfl ?_
  intro b2 f2
  have g2:=f2
  repeat ((with_reducible replace g2:=fresh_set g2);obtain ⟨g2,_⟩:=g2)
  refine nl_ ?_
  refine ARun.alloc (lit_lt rfl) ty_zero_55 ?_
  intro b4 f4
  have g4:=f4
  repeat ((with_reducible replace g4:=fresh_set g4);obtain ⟨g4,_⟩:=g4)
  refine nl_ ?_
  iterate 6 refine s1_ ?_
  refine ca_ rfl ((hopen.frame f2).frame f4) ?_
  rintro _ S1 ⟨Sa,⟨M,⟨p,oE,oW,hok,rfl,hM⟩,fa,hSa⟩,fb,h1⟩
  rw [h1,hSa];rw [hSa] at fb;clear h1 S1 hSa Sa
  have hSM:S.Less M:=by rw [hM];exact hok.less
  iterate 7 refine s1_ ?_
  refine su_ [(0,_),(1,_),(2,_),(4,_),(5,_),(6,_),(7,_)] ?_
  iterate 7 refine s1_ ?_
  refine su_ [(0,_),(1,_),(2,_),(4,_),(5,_),(6,_),(7,_),(14,_)] ?_
  refine cT_ ?_
  iterate 8 refine s1_ ?_
  refine su_ [(0,_),(1,_),(2,_),(4,_),(5,_),(6,_),(7,_),(14,_)] ?_
  iterate 2 refine s1_ ?_
  refine ⟨_,S,⟨_,_,_,rfl,.inr ⟨ty_agg_55,[_,_,_,_,_,_,_],ty_size_55,rds_,rfl⟩,⟨_,_,rfl,rfl,rfl⟩,rfl⟩,less_,?_⟩
  exact ⟨rfl,rfl⟩
 ·rw [if_neg (by simp)]
  have hL:=fun p M h hg=>slo_LoadAt p d s M h hR hg
  generalize loadW d s=u at *
  obtain ⟨m,e⟩:=u
  unfold mfE mfV at *
  simp only at hL ⊢
  refine ACall.enter (rs:=[.cell 4 55,.tmp 5]) 22 [(0,.agg #[.int .i64 d.size,.slice pe d.ext.length ce,.slice pw d.waits.length cw,.int .i64 d.fuse,.bool d.down]),(1,.string s)] Tryz.func36 rfl rfl (Nat.le_of_ble_eq_true rfl) rfl ⟨rfl,rfl,trivial⟩ ?_
  iterate 2 refine s1_ ?_
  refine k_b5 rfl ?_
  intro b2 f2
  have g2:=f2
  repeat ((with_reducible replace g2:=fresh_set g2);obtain ⟨g2,_⟩:=g2)
  refine nl_ ?_
  refine ARun.alloc (lit_lt rfl) ty_zero_55 ?_
  intro b4 f4
  have g4:=f4
  repeat ((with_reducible replace g4:=fresh_set g4);obtain ⟨g4,_⟩:=g4)
  refine nl_ ?_
  iterate 6 refine s1_ ?_
  refine ca_ rfl ((hopen.frame f2).frame f4) ?_
  rintro _ S1 ⟨Sa,⟨M,⟨p,oE,oW,hok,rfl,hM⟩,fa,hSa⟩,fb,h1⟩
  rw [h1,hSa];rw [hSa] at fb;clear h1 S1 hSa Sa
  have hSM:S.Less M:=by rw [hM];exact hok.less
  have hrd:RdV M p d:=by rw [hM];exact hok.rd (right_lens hR).1 (right_lens hR).2
  obtain ⟨fbm,nb4⟩:=fresh_set fb
  iterate 7 refine s1_ ?_
  refine su_ [(0,_),(1,_),(2,_),(4,_),(5,_),(6,_),(7,_)] ?_
  iterate 7 refine s1_ ?_
  refine su_ [(0,_),(1,_),(2,_),(4,_),(5,_),(6,_),(7,_),(14,_)] ?_
  refine cF_ ?_
  iterate 6 refine s1_ ?_
  refine ca_ rfl (hL p _ (hrd.less less_) (hg.less less_)) ?_
  rintro _ Sx ⟨rfl,h1⟩
  rw [h1];clear h1 Sx
  iterate 6 refine s1_ ?_
  refine su_ [(0,_),(1,_),(2,_),(4,_),(5,_),(6,_),(7,_),(14,_)] ?_
  refine s1_ ?_
  refine ⟨_,S,⟨_,_,_,rfl,.inr ⟨ty_agg_55,[_,_,_,_,_,_,_],ty_size_55,rds_,rfl⟩,⟨_,_,rfl,rfl,rfl⟩,rfl⟩,less_,?_⟩
  exact ⟨rfl,rfl⟩
end Slo
end Go.Proofs.YtceikpipmcadmaaGreatDoor
namespace Go.Proofs.YtceikpipmcadmaaGreatDoor
open Go.RowKit
open Mv Disk Num
set_option maxRecDepth 4000
namespace Slo
set_option maxHeartbeats 2000000 in
theorem slo_WriteAt (p : Nat) (d : D) (s : ByteArray) (m : Mf) (S : Mem) (oE oW : Option (Nat × Nat)) (hok : OkV S p d oE oW) (hR : Right d) (hf1 : d.fuse ≤ 9223372036854775807) (hdn : d.down = false) (hm : Fit m) (hf : m.frm.size ≤ 9223372036854775807) (ht : m.too.size ≤ 9223372036854775807) :
  ACall Tryz.prog 85 #[.pointer (some ⟨p,0,none⟩),.string s,mfV m] (devM S p d oE oW) (DevR S p (writeW d s m)):=by
 have hE:=fun T=>slo_Encode m T hm hf ht
 have hW:=dev_Write p d s ((m.seq % 2:Nat):Int) (encM m).1 S oE oW hok hR hf1
 have hkeep:=Rec.write_keep hR hdn hf1 s (encM m).1 ((m.seq % 2:Nat):Int)
 rw [show ((m.seq % 2:Nat):Int)=(m.seq:Int) % 2 from by omega] at hW hkeep
 unfold writeW encV at *
 rw [show ((m.seq % 2:Nat):Int)=(m.seq:Int) % 2 from by omega]
 generalize encM m=u at *
 obtain ⟨x,e⟩:=u
 simp only at *
 unfold mfV DevR at *
 by_cases q0:e=0
 ·rw [if_neg (by omega)]
  subst q0
  generalize writeD d s ((m.seq:Int) % 2) x=y at *
  obtain ⟨z,e2⟩:=y
  simp only at *
  by_cases q1:e2=0
  ·rw [if_pos q1]
   subst q1
   refine ACall.enter (rs:=[.tmp 6]) 29 [(0,.pointer (some ⟨p,0,none⟩)),(1,.string s),(2,.agg #[.int .u64 (m.seq:Int),.int .u8 (m.phase:Int),.int .u64 (m.count:Int),.int .u64 (m.prim:Int),.int .u32 (m.sum:Int),.string m.frm,.string m.too])] Tryz.func85 rfl rfl (Nat.le_of_ble_eq_true rfl) rfl ⟨rfl,rfl,rfl,trivial⟩ ?_
   iterate 2 refine s1_ ?_
   refine k_b7 rfl ?_
   intro b5 f5
   have g5:=f5
   repeat ((with_reducible replace g5:=fresh_set g5);obtain ⟨g5,_⟩:=g5)
   refine nl_ ?_
   iterate 6 refine s1_ ?_
   refine ca_ rfl (hE _) ?_
   rintro _ Sx ⟨rfl,h1⟩
   rw [h1];clear h1 Sx
   iterate 7 refine s1_ ?_
   refine su_ [(0,_),(1,_),(2,_),(5,_),(6,_),(7,_),(8,_)] ?_
   iterate 7 refine s1_ ?_
   refine su_ [(0,_),(1,_),(2,_),(5,_),(6,_),(7,_),(8,_),(15,_)] ?_
   refine cT_ ?_
   iterate 8 refine s1_ ?_
   refine ca_ rfl (hW.frame f5) ?_
   rintro _ S1 ⟨M,⟨oE1,oW1,hok1,rfl,hM⟩,fa,h1⟩
   rw [h1];clear h1 S1
   rw [hM] at fa ⊢
   iterate 3 refine s1_ ?_
   refine su_ [(0,_),(1,_),(2,_),(5,_),(6,_),(7,_),(8,_),(15,_)] ?_
   iterate 7 refine s1_ ?_
   refine su_ [(0,_),(1,_),(2,_),(5,_),(6,_),(7,_),(8,_),(15,_),(25,_)] ?_
   refine cT_ ?_
   iterate 2 refine s1_ ?_
   refine ca_ rfl ((dev_Sync p z S oE1 oW1 hok1 hkeep.1).frame fa) ?_
   rintro _ S1 ⟨M2,⟨oE2,oW2,hok2,rfl,hM2⟩,fc,h1⟩
   rw [h1];clear h1 S1
   iterate 2 refine s1_ ?_
   refine su_ [(0,_),(1,_),(2,_),(5,_),(6,_),(7,_),(8,_),(15,_),(25,_)] ?_
   iterate 6 refine s1_ ?_
   refine su_ [(0,_),(1,_),(2,_),(5,_),(6,_),(7,_),(8,_),(15,_),(25,_)] ?_
   refine s1_ ?_
   refine ⟨_,M2,⟨_,_,rfl,rfl,rfl⟩,less_,?_⟩
   exact ⟨oE2,oW2,hok2,rfl,hM2⟩
  ·rw [if_neg q1]
   refine ACall.enter (rs:=[.tmp 6]) 29 [(0,.pointer (some ⟨p,0,none⟩)),(1,.string s),(2,.agg #[.int .u64 (m.seq:Int),.int .u8 (m.phase:Int),.int .u64 (m.count:Int),.int .u64 (m.prim:Int),.int .u32 (m.sum:Int),.string m.frm,.string m.too])] Tryz.func85 rfl rfl (Nat.le_of_ble_eq_true rfl) rfl ⟨rfl,rfl,rfl,trivial⟩ ?_
   iterate 2 refine s1_ ?_
   refine k_b7 rfl ?_
   intro b5 f5
   have g5:=f5
   repeat ((with_reducible replace g5:=fresh_set g5);obtain ⟨g5,_⟩:=g5)
   refine nl_ ?_
   iterate 6 refine s1_ ?_
   refine ca_ rfl (hE _) ?_
   rintro _ Sx ⟨rfl,h1⟩
   rw [h1];clear h1 Sx
   iterate 7 refine s1_ ?_
   refine su_ [(0,_),(1,_),(2,_),(5,_),(6,_),(7,_),(8,_)] ?_
   iterate 7 refine s1_ ?_
   refine su_ [(0,_),(1,_),(2,_),(5,_),(6,_),(7,_),(8,_),(15,_)] ?_
   refine cT_ ?_
   iterate 8 refine s1_ ?_
   refine ca_ rfl (hW.frame f5) ?_
   rintro _ S1 ⟨M,⟨oE1,oW1,hok1,rfl,hM⟩,fa,h1⟩
   rw [h1];clear h1 S1
   iterate 3 refine s1_ ?_
   refine su_ [(0,_),(1,_),(2,_),(5,_),(6,_),(7,_),(8,_),(15,_)] ?_
   iterate 4 refine s1_ ?_
   refine rC (Calm.bin rfl rfl (bin_bool (bin_eql _ _) (decide_eq_false q1))) ?_
   iterate 2 refine s1_ ?_
   refine su_ [(0,_),(1,_),(2,_),(5,_),(6,_),(7,_),(8,_),(15,_),(25,_)] ?_
   refine cF_ ?_
   iterate 8 refine s1_ ?_
   refine su_ [(0,_),(1,_),(2,_),(5,_),(6,_),(7,_),(8,_),(15,_),(25,_)] ?_
   refine s1_ ?_
   refine ⟨_,M,⟨_,_,rfl,rfl,rfl⟩,less_,?_⟩
   exact ⟨oE1,oW1,hok1,rfl,hM⟩
 ·rw [if_pos q0]
  refine ACall.enter (rs:=[.tmp 6]) 29 [(0,.pointer (some ⟨p,0,none⟩)),(1,.string s),(2,.agg #[.int .u64 (m.seq:Int),.int .u8 (m.phase:Int),.int .u64 (m.count:Int),.int .u64 (m.prim:Int),.int .u32 (m.sum:Int),.string m.frm,.string m.too])] Tryz.func85 rfl rfl (Nat.le_of_ble_eq_true rfl) rfl ⟨rfl,rfl,rfl,trivial⟩ ?_
  iterate 2 refine s1_ ?_
  refine k_b7 rfl ?_
  intro b5 f5
  have g5:=f5
  repeat ((with_reducible replace g5:=fresh_set g5);obtain ⟨g5,_⟩:=g5)
  refine nl_ ?_
  iterate 6 refine s1_ ?_
  refine ca_ rfl (hE _) ?_
  rintro _ Sx ⟨rfl,h1⟩
  rw [h1];clear h1 Sx
  iterate 7 refine s1_ ?_
  refine su_ [(0,_),(1,_),(2,_),(5,_),(6,_),(7,_),(8,_)] ?_
  iterate 4 refine s1_ ?_
  refine rC (Calm.bin rfl rfl (bin_bool (bin_eql _ _) (decide_eq_false q0))) ?_
  iterate 2 refine s1_ ?_
  refine su_ [(0,_),(1,_),(2,_),(5,_),(6,_),(7,_),(8,_),(15,_)] ?_
  refine cF_ ?_
  iterate 6 refine s1_ ?_
  refine rC (Calm.bin rfl rfl (bin_bool (bin_eql _ _) (decide_eq_false q0))) ?_
  iterate 2 refine s1_ ?_
  refine su_ [(0,_),(1,_),(2,_),(5,_),(6,_),(7,_),(8,_),(15,_),(25,_)] ?_
  refine cF_ ?_
  iterate 8 refine s1_ ?_
  refine su_ [(0,_),(1,_),(2,_),(5,_),(6,_),(7,_),(8,_),(15,_),(25,_)] ?_
  refine s1_ ?_
  refine ⟨_,devM S p d oE oW,⟨_,_,rfl,rfl,rfl⟩,less_,?_⟩
  exact ⟨oE,oW,hok,rfl,rfl⟩
end Slo
end Go.Proofs.YtceikpipmcadmaaGreatDoor
namespace Go.Proofs.YtceikpipmcadmaaGreatDoor
open Go.RowKit
open Mv Disk Num
namespace Slo
theorem step_ge (b : Mf) (i : Nat) (s : ByteArray) : b.seq ≤ (stepM b i s).seq := by
 unfold stepM
 by_cases q:(decM s).2=0∧(decM s).1.seq % 2=i∧b.seq<(decM s).1.seq
 ·rw [if_pos q];omega
 ·rw [if_neg q];exact Nat.le_refl _
theorem step_own (b : Mf) (i : Nat) (s : ByteArray) (h : (decM s).2 = 0) (h2 : (decM s).1.seq % 2 = i) : (decM s).1.seq ≤ (stepM b i s).seq := by
 unfold stepM
 by_cases q:(decM s).2=0∧(decM s).1.seq % 2=i∧b.seq<(decM s).1.seq
 ·rw [if_pos q];exact Nat.le_refl _
 ·rw [if_neg q]
  exact Nat.le_of_not_lt fun h3=>q ⟨h,h2,h3⟩
theorem step_enc {m b : Mf} {i : Nat} (h : RightM m) (hs : m.sum < 4294967296) (hi : m.seq % 2 = i) (hb : b.seq < m.seq) : stepM b i (encS m) = m := by
 unfold stepM
 rw [dec_enc h hs,if_pos ⟨rfl,hi,hb⟩]
theorem best_zero {m : Mf} {a b : ByteArray} (h : RightM m) (hs : m.sum < 4294967296) (hi : m.seq % 2 = 0) (hm : (bestN a b 2).seq < m.seq) : bestN (encS m) b 2 = m := by
 show stepM (stepM M0 0 (encS m)) 1 b=m
 rw [step_enc h hs hi (by show 0<m.seq;have:=h.s1;omega)]
 unfold stepM
 rw [if_neg]
 rintro ⟨h1,h2,h3⟩
 have:=step_own (stepM M0 0 a) 1 b h1 h2
 have e:(bestN a b 2).seq=(stepM (stepM M0 0 a) 1 b).seq:=rfl
 omega
theorem best_one {m : Mf} {a b : ByteArray} (h : RightM m) (hs : m.sum < 4294967296) (hi : m.seq % 2 = 1) (hm : (bestN a b 2).seq < m.seq) : bestN a (encS m) 2 = m := by
 show stepM (stepM M0 0 a) 1 (encS m)=m
 refine step_enc h hs hi ?_
 have:=step_ge (stepM M0 0 a) 1 b
 have e:(bestN a b 2).seq=(stepM (stepM M0 0 a) 1 b).seq:=rfl
 omega
theorem loadW_of {d : D} {s a b : ByteArray} (h0 : readD d s 0 = (a, 0)) (h1 : readD d s 1 = (b, 0)) (h2 : (readD d s 2).2 ≠ 0) : loadW d s = if (bestN a b 2).seq = 0 then (M0, 3) else (bestN a b 2, 0) := by
 unfold loadW
 rw [h0,h1,if_neg (by simp),if_neg]
 rintro (h | h)
 ·exact h rfl
 ·exact h2 h
theorem load_yes {d : D} {s : ByteArray} (h : (loadW d s).2 = 0) : ∃ a b, readD d s 0 = (a, 0) ∧ readD d s 1 = (b, 0) ∧ (readD d s 2).2 ≠ 0 ∧ (bestN a b 2).seq ≠ 0 ∧ loadW d s = (bestN a b 2, 0) := by
 have h':=h
 unfold loadW at h
 by_cases q0:(readD d s 0).2≠0
 ·rw [if_pos q0] at h;exact absurd h q0
 rw [if_neg q0] at h
 by_cases q1:(readD d s 1).2≠0∨(readD d s 2).2=0
 ·rw [if_pos q1] at h;exact absurd h (by simp)
 simp only [not_or,ne_eq,Decidable.not_not] at q0 q1
 have e:=loadW_of (Prod.ext rfl q0) (Prod.ext rfl q1.1) q1.2
 refine ⟨_,_,Prod.ext rfl q0,Prod.ext rfl q1.1,q1.2,?_,?_⟩
 ·intro h3;rw [e,if_pos h3] at h';simp at h'
 ·rw [e]
  refine if_neg fun h3=>?_
  rw [e,if_pos h3] at h';simp at h'
theorem dec_right {s : ByteArray} (h : (decM s).2 = 0) : RightM (decM s).1 := by
 obtain ⟨_,_,_,_,hR,he⟩:=dec_yes h
 rw [he];exact hR
theorem step_right {b : Mf} {i : Nat} {s : ByteArray} (h : b.seq ≤ 4294967296) : (stepM b i s).seq ≤ 4294967296 := by
 unfold stepM
 by_cases q:(decM s).2=0∧(decM s).1.seq % 2=i∧b.seq<(decM s).1.seq
 ·rw [if_pos q];exact (dec_right q.1).s2
 ·rw [if_neg q];exact h
theorem load_right {d : D} {s : ByteArray} (h : (loadW d s).2 = 0) : (loadW d s).1.seq ≤ 4294967296 := by
 obtain ⟨a,b,_,_,_,_,he⟩:=load_yes h
 rw [he]
 exact step_right (step_right (by show 0≤_;decide))
theorem see_one {d : D} {s : ByteArray} {k i : Int} {y : ByteArray} (hw : d.waits = []) (hR : Right (addW d (s, i, y))) (h : (placeD d s k).2 = 0) (kp : Nat → Bool) : seen (settleD (addW d (s, i, y)) kp) s k = if i = k ∧ kp 0 = true then y else seen d s k := by
 have e:(addW d (s,i,y)).waits = [(s,i,y)]:=by unfold addW;simp only;rw [hw];rfl
 rw [seen_settle hR h kp,e]
 show seeW kp [(s,i,y)] s k _ (0+1)=_
 rw [seeW_succ _ _ _ _ _ (by show 0<1;decide)]
 have e2:seen d s k=(exOf d.ext s).2.extract (64*k.toNat) (64*k.toNat+64):=by
  unfold seen;rw [hw];rfl
 rw [e2]
 simp only [List.getElem_cons_zero]
 by_cases q:i=k∧kp 0=true
 ·rw [if_pos ⟨trivial,q⟩,if_pos q]
 ·rw [if_neg fun h=>q h.2,if_neg q];rfl
theorem read_place {d : D} {s a : ByteArray} {k : Int} (h : readD d s k = (a, 0)) : (placeD d s k).2 = 0 ∧ seen d s k = a := by
 rw [readD_see] at h
 by_cases q:(placeD d s k).2≠0
 ·rw [if_pos q] at h;exact absurd (congrArg Prod.snd h) q
 ·rw [if_neg q] at h;exact ⟨by simpa using q,congrArg Prod.fst h⟩
theorem read_unplace {d : D} {s : ByteArray} {k : Int} (h : (readD d s k).2 ≠ 0) : (placeD d s k).2 ≠ 0 := by
 intro q
 rw [readD_see,if_neg (by simpa using q)] at h
 exact h rfl
/-- A commit on a disk on which nothing waits, and the crash behind it. -/
theorem commit_safe {d : D} {s : ByteArray} {m : Mf} (hR : Right d) (hdn : d.down = false) (hf : d.fuse ≤ 9223372036854775807) (hw0 : d.waits = []) (hl : (loadW d s).2 = 0) (hm : m.seq = (loadW d s).1.seq + 1) (hs : m.sum < 4294967296) (kp : Nat → Bool) :
  Right (commitP d s m).1∧(commitP d s m).1.fuse≤9223372036854775807∧((commitP d s m).2=0→loadP (upD (settleD (commitP d s m).1 kp)) s=(m,0))∧((commitP d s m).2≠0→loadP (upD (settleD (commitP d s m).1 kp)) s=loadW d s∨(commitP d s m).2=10∧loadP (upD (settleD (commitP d s m).1 kp)) s=(m,0)):=by
 have same:loadP (upD (settleD d kp)) s=loadW d s:=by
  rw [Rec.settle_nil hw0]
  unfold loadP
  rw [open_ok (right_fuse hR (by decide) false) rfl,if_neg (by simp)]
  rfl
 unfold commitP
 rw [open_ok hR hdn]
 by_cases q:chkM m≠0
 ·rw [if_pos q]
  exact ⟨hR,hf,fun h=>absurd h (by simp),fun _=>.inl same⟩
 rw [if_neg q,if_neg (by simp),if_neg (by simpa using hl),if_neg (by omega)]
 have hM:RightM m:=(chk_iff m).1 (by simpa using q)
 obtain ⟨a,b,r0,r1,r2,hb0,he⟩:=load_yes hl
 obtain ⟨p0,s0⟩:=read_place r0
 obtain ⟨p1,s1⟩:=read_place r1
 have p2:=read_unplace r2
 rw [he] at hm
 simp only at hm
 have hi:m.seq % 2=0∨m.seq % 2=1:=by omega
 have hp:(placeD d s ((m.seq % 2:Nat):Int)).2=0:=by
  rcases hi with e | e <;> rw [e]
  ·exact p0
  ·exact p1
 have hA:Right (addW d (s,((m.seq % 2:Nat):Int),encS m)):=right_add hR hp (enc_size hM) (by rw [hw0];decide)
 have hen:encM m=(encS m,0):=by unfold encM;rw [if_neg q]
 have hwr:writeD d s ((m.seq % 2:Nat):Int) (encS m)=fuseD (addW d (s,((m.seq % 2:Nat):Int),encS m)):=by
  unfold writeD
  rw [if_neg (by simpa using hp),if_neg (by simpa using enc_size hM),if_neg (by rw [hw0];decide)]
 have hc:loadP (upD (settleD (addW d (s,((m.seq % 2:Nat):Int),encS m)) kp)) s=if kp 0=true then (m,0) else loadW d s:=by
  unfold loadP
  rw [open_ok (Rec.right_crash hA kp) rfl,if_neg (by simp)]
  have hrd:∀ k,readD (upD (settleD (addW d (s,((m.seq % 2:Nat):Int),encS m)) kp)) s k=if (placeD d s k).2≠0 then (ByteArray.empty,(placeD d s k).2) else (if ((m.seq % 2:Nat):Int)=k∧kp 0=true then encS m else seen d s k,0):=fun k=>by
   show readD (settleD (addW d (s,((m.seq % 2:Nat):Int),encS m)) kp) s k=_
   have e1:=place_settle hA kp s k
   have e2:(placeD (addW d (s,((m.seq % 2:Nat):Int),encS m)) s k).2=(placeD d s k).2:=rfl
   rw [readD_see,e1,e2]
   by_cases q:(placeD d s k).2≠0
   ·rw [if_pos q,if_pos q]
   ·rw [if_neg q,if_neg q,see_one hw0 hA (by simpa using q) kp]
  have h0:=hrd 0
  have h1:=hrd 1
  have h2:=hrd 2
  rw [if_neg (by simpa using p0)] at h0
  rw [if_neg (by simpa using p1)] at h1
  rw [if_pos p2] at h2
  have h2':(readD (upD (settleD (addW d (s,((m.seq % 2:Nat):Int),encS m)) kp)) s 2).2≠0:=by rw [h2];exact p2
  rw [s0] at h0
  rw [s1] at h1
  by_cases hk:kp 0=true
  ·rw [if_pos hk]
   have hs1:=hM.s1
   rcases hi with e | e
   ·rw [if_pos ⟨by rw [e];rfl,hk⟩] at h0
    rw [if_neg (by rw [e];simp)] at h1
    rw [loadW_of h0 h1 h2',best_zero (a:=a) hM hs e (by omega),if_neg (by omega)]
   ·rw [if_neg (by rw [e];simp)] at h0
    rw [if_pos ⟨by rw [e];rfl,hk⟩] at h1
    rw [loadW_of h0 h1 h2',best_one (b:=b) hM hs e (by omega),if_neg (by omega)]
  ·rw [if_neg (fun h=>hk h.2)] at h0 h1
   rw [if_neg hk,loadW_of h0 h1 h2',if_neg hb0,he]
 have hc':∀ (f:Int) (bb:Bool),loadP (upD (settleD { addW d (s,((m.seq % 2:Nat):Int),encS m) with fuse:=f,down:=bb } kp)) s=if kp 0=true then (m,0) else loadW d s:=fun f bb=>hc
 have hSet:loadP (upD (settleD (settleD (addW d (s,((m.seq % 2:Nat):Int),encS m)) fun _=>true) kp)) s=(m,0):=by
  have e:∀ kp',upD (settleD (settleD (addW d (s,((m.seq % 2:Nat):Int),encS m)) fun _=>true) kp')=upD (settleD (addW d (s,((m.seq % 2:Nat):Int),encS m)) fun _=>true):=fun kp'=>by
   rw [Rec.settle_nil (a:=settleD (addW d (s,((m.seq % 2:Nat):Int),encS m)) fun _=>true) rfl];rfl
  rw [e]
  unfold loadP
  rw [open_ok (Rec.right_crash hA _) rfl,if_neg (by simp)]
  have hrd:∀ k,readD (upD (settleD (addW d (s,((m.seq % 2:Nat):Int),encS m)) fun _=>true)) s k=if (placeD d s k).2≠0 then (ByteArray.empty,(placeD d s k).2) else (if ((m.seq % 2:Nat):Int)=k then encS m else seen d s k,0):=fun k=>by
   show readD (settleD (addW d (s,((m.seq % 2:Nat):Int),encS m)) fun _=>true) s k=_
   have e1:=place_settle hA (fun _=>true) s k
   have e2:(placeD (addW d (s,((m.seq % 2:Nat):Int),encS m)) s k).2=(placeD d s k).2:=rfl
   rw [readD_see,e1,e2]
   by_cases q:(placeD d s k).2≠0
   ·rw [if_pos q,if_pos q]
   ·rw [if_neg q,if_neg q,see_one hw0 hA (by simpa using q)]
    by_cases q2:((m.seq % 2:Nat):Int)=k
    ·rw [if_pos ⟨q2,rfl⟩,if_pos q2]
    ·rw [if_neg fun h=>q2 h.1,if_neg q2]
  have h0:=hrd 0
  have h1:=hrd 1
  have h2:=hrd 2
  rw [if_neg (by simpa using p0)] at h0
  rw [if_neg (by simpa using p1)] at h1
  rw [if_pos p2] at h2
  have h2':(readD (upD (settleD (addW d (s,((m.seq % 2:Nat):Int),encS m)) fun _=>true)) s 2).2≠0:=by rw [h2];exact p2
  rw [s0] at h0
  rw [s1] at h1
  have hs1:=hM.s1
  rcases hi with e | e
  ·rw [if_pos (by rw [e];rfl)] at h0
   rw [if_neg (by rw [e];simp)] at h1
   rw [loadW_of h0 h1 h2',best_zero (a:=a) hM hs e (by omega),if_neg (by omega)]
  ·rw [if_neg (by rw [e];simp)] at h0
   rw [if_pos (by rw [e];rfl)] at h1
   rw [loadW_of h0 h1 h2',best_one (b:=b) hM hs e (by omega),if_neg (by omega)]
 unfold writeW
 rw [hen,if_neg (by simp),hwr]
 unfold fuseD
 have hfz:(addW d (s,((m.seq % 2:Nat):Int),encS m)).fuse=d.fuse:=rfl
 by_cases z0:(addW d (s,((m.seq % 2:Nat):Int),encS m)).fuse=0
 ·rw [if_pos z0,if_neg (by simp)]
  refine ⟨right_fuse hA hA.fu true,hf,fun h=>absurd h (by simp),fun _=>?_⟩
  have h3:loadP (upD (settleD { addW d (s,((m.seq % 2:Nat):Int),encS m) with down:=true } kp)) s=if kp 0=true then (m,0) else loadW d s:=hc
  simp only
  rw [h3]
  by_cases hk:kp 0=true
  ·rw [if_pos hk];exact .inr ⟨trivial,rfl⟩
  ·rw [if_neg hk];exact .inl rfl
 ·rw [if_neg z0]
  by_cases z1:0<(addW d (s,((m.seq % 2:Nat):Int),encS m)).fuse
  ·rw [if_pos z1,if_pos rfl]
   refine ⟨right_settle (right_fuse hA (f:=(addW d (s,((m.seq % 2:Nat):Int),encS m)).fuse-1) (by omega) _) _,by show d.fuse-1≤_;omega,fun _=>hSet,fun h=>absurd rfl h⟩
  ·rw [if_neg z1,if_pos rfl]
   exact ⟨right_settle hA _,hf,fun _=>hSet,fun h=>absurd rfl h⟩
end Slo
end Go.Proofs.YtceikpipmcadmaaGreatDoor
namespace Go.Proofs.YtceikpipmcadmaaGreatDoor
open Go.RowKit
open Mv Disk Num
namespace Slo
def nM : ByteArray := ⟨#[109]⟩
def mA : Mf := ⟨1, 1, 5, 0, 9, ⟨#[97]⟩, ⟨#[98]⟩⟩
def mB : Mf := { mA with seq := 2 }
def r0 : D := ⟨4, [], [], -1, false⟩
noncomputable def b0 : D := (newD r0 nM 2).1
noncomputable def b1 : D := (writeW b0 nM mA).1
noncomputable def b2 : D := (writeW b1 nM mB).1
theorem pair_of {p : D × Int} {x : D} (h1 : p.1 = x) (h2 : p.2 = 0) : p = (x, 0) := by
 obtain ⟨a,b⟩:=p
 simp only at h1 h2
 rw [h1,h2]
theorem b1_eq : (writeW b0 nM mA).1 = b1 := by unfold b1; rfl
theorem b2_eq : (writeW b1 nM mB).1 = b2 := by unfold b2; rfl
theorem right_r0 : Right r0 := ⟨by decide, by decide, by decide, by decide, ⟨fun x h => (by cases h), List.Pairwise.nil, by decide⟩, fun w h => (by cases h)⟩
theorem chkA : chkM mA = 0 := by decide
theorem chkB : chkM mB = 0 := by decide
theorem rightA : RightM mA := (chk_iff _).1 chkA
theorem rightB : RightM mB := (chk_iff _).1 chkB
theorem new_ok : (newD r0 nM 2).2 = 0 := by decide +kernel
theorem keep0 : Right b0 ∧ b0.down = false ∧ b0.fuse ≤ 9223372036854775807 := by
 obtain ⟨hR1,hd1,hf1,_⟩:=(new_law (s:=nM) (n:=2) right_r0 rfl).2 new_ok
 exact ⟨hR1,hd1,by rw [show b0.fuse=_ from hf1];decide⟩
theorem write_keepM {d : D} {s : ByteArray} {m : Mf} (hR : Right d) (hdn : d.down = false) (hf : d.fuse ≤ 9223372036854775807) : Right (writeW d s m).1 ∧ (writeW d s m).1.fuse ≤ 9223372036854775807 ∧ ((writeW d s m).2 = 0 → (writeW d s m).1.down = false) := by
 unfold writeW
 by_cases q:(encM m).2≠0
 ·rw [if_pos q];exact ⟨hR,hf,fun _=>hdn⟩
 rw [if_neg q]
 have h:=Rec.write_keep hR hdn hf s (encM m).1 ((m.seq % 2:Nat):Int)
 by_cases q2:(writeD d s ((m.seq % 2:Nat):Int) (encM m).1).2=0
 ·rw [if_pos q2]
  exact ⟨right_settle h.1 _,h.2.1,fun _=>h.2.2 q2⟩
 ·rw [if_neg q2];exact h
set_option maxRecDepth 100000 in
theorem w1_ok : (writeW b0 nM mA).2 = 0 := by decide +kernel
set_option maxRecDepth 100000 in
theorem w2_ok : (writeW b1 nM mB).2 = 0 := by decide +kernel
theorem keep1 : Right b1 ∧ b1.fuse ≤ 9223372036854775807 ∧ b1.down = false := by
 have h:=write_keepM (s:=nM) (m:=mA) keep0.1 keep0.2.1 keep0.2.2
 rw [b1_eq] at h
 exact ⟨h.1,h.2.1,h.2.2 w1_ok⟩
theorem keep2 : Right b2 ∧ b2.fuse ≤ 9223372036854775807 ∧ b2.down = false := by
 have h:=write_keepM (s:=nM) (m:=mB) keep1.1 keep1.2.2 keep1.2.1
 rw [b2_eq] at h
 exact ⟨h.1,h.2.1,h.2.2 w2_ok⟩
set_option maxRecDepth 100000 in
theorem reads1 : readD b1 nM 0 = (zeros 1, 0) ∧ readD b1 nM 1 = (encS mA, 0) ∧ (readD b1 nM 2).2 ≠ 0 := by decide +kernel
set_option maxRecDepth 100000 in
theorem reads2 : readD b2 nM 0 = (encS mB, 0) ∧ readD b2 nM 1 = (encS mA, 0) ∧ (readD b2 nM 2).2 ≠ 0 := by decide +kernel
set_option maxRecDepth 100000 in
theorem best_a : bestN (zeros 1) (encS mA) 2 = mA := best_one (b := ByteArray.empty) rightA (by decide) (by decide) (by decide +kernel)
theorem best_b : bestN (encS mB) (encS mA) 2 = mB := best_zero (a := zeros 1) rightB (by decide) (by decide) (by rw [best_a]; decide)
theorem load1 : loadW b1 nM = (mA, 0) := by
 rw [loadW_of reads1.1 reads1.2.1 reads1.2.2,best_a];rfl
theorem load2 : loadW b2 nM = (mB, 0) := by
 rw [loadW_of reads2.1 reads2.2.1 reads2.2.2,best_b];rfl
theorem s1 : encM mA = (encS mA, 0) := by unfold encM; rw [chkA]; rfl
theorem s2 : decM (encS mA) = (mA, 0) := dec_enc rightA (by decide)
theorem s3 : makeD 4 = (r0, 0) := rfl
theorem s5 : loadP b1 nM = (mA, 0) := by
 unfold loadP
 rw [open_ok keep1.1 keep1.2.2,if_neg (by simp),load1]
theorem s6 : commitP b1 nM mB = (b2, 0) := by
 unfold commitP
 rw [if_neg (by decide),open_ok keep1.1 keep1.2.2,if_neg (by simp),load1,if_neg (by simp),if_neg (by decide)]
 exact pair_of b2_eq w2_ok
theorem s7 : loadP b2 nM = (mB, 0) := by
 unfold loadP
 rw [open_ok keep2.1 keep2.2.2,if_neg (by simp),load2]
theorem s8 : commitP b2 nM mB = (b2, 12) := by
 unfold commitP
 rw [if_neg (by decide),open_ok keep2.1 keep2.2.2,if_neg (by simp),load2,if_neg (by simp),if_pos (by decide)]
theorem head_two : (encS mA).extract 0 2 = ⟨#[77, 70]⟩ := by
 apply str_ext
 rw [ext0,enc_list];rfl
end Slo
end Go.Proofs.YtceikpipmcadmaaGreatDoor
namespace Go.Proofs.YtceikpipmcadmaaGreatDoor
open Go.RowKit
open Mv Disk Num
set_option maxRecDepth 4000
namespace Slo
theorem fresh_three {M : Mem} {a b c : Nat} {A B : Blk} (fa : Fresh M a) (fb : Fresh (M.set a A) b) (fc : Fresh ((M.set a A).set b B) c) : Fresh M b ∧ Fresh M c ∧ b ≠ a ∧ c ≠ a ∧ c ≠ b := by
 obtain ⟨fb1,n1⟩:=fresh_set fb
 obtain ⟨fc1,n2⟩:=fresh_set fc
 obtain ⟨fc2,n3⟩:=fresh_set fc1
 exact ⟨fb1,fc2,n1,n3,n2⟩
set_option maxHeartbeats 4000000 in
theorem slo_Commit (v : Value) (d : D) (s : ByteArray) (m : Mf) (S : Mem) (hd : DkR S v d) (hz : Dz d) (hg : ErrT S) (hm : Fit m) (hf : m.frm.size ≤ 9223372036854775807) (ht : m.too.size ≤ 9223372036854775807) :
  ACall Tryz.prog 37 #[v,.string s,mfV m] S (DkRes (commitP d s m) S):=by
 have hopen:=disk_Open v d S hd hz
 have hlens:=Rec.open_lens d
 have hC:=fun T=>slo_Check m T hf ht
 have hcm:=chk_iff m
 have hms:=hm.seq
 obtain ⟨pe,ce,pw,cw,rfl,hE,hW⟩:=id hd
 unfold commitP
 unfold mfV at hC ⊢
 by_cases q:chkM m≠0
 ·rw [if_pos q]
  refine ACall.enter (rs:=[.cell 6 25,.tmp 7]) 64 [(0,.agg #[.int .i64 d.size,.slice pe d.ext.length ce,.slice pw d.waits.length cw,.int .i64 d.fuse,.bool d.down]),(1,.string s),(2,.agg #[.int .u64 (m.seq:Int),.int .u8 (m.phase:Int),.int .u64 (m.count:Int),.int .u64 (m.prim:Int),.int .u32 (m.sum:Int),.string m.frm,.string m.too])] Tryz.func37 rfl rfl (Nat.le_of_ble_eq_true rfl) rfl ⟨rfl,rfl,rfl,trivial⟩ ?_
  iterate 2 refine s1_ ?_
  refine k_b5 rfl ?_
  intro b3 f3
  have g3:=f3
  repeat ((with_reducible replace g3:=fresh_set g3);obtain ⟨g3,_⟩:=g3)
  refine nl_ ?_
  refine k_b7 rfl ?_
  intro b5 f5
  have g5:=f5
  repeat ((with_reducible replace g5:=fresh_set g5);obtain ⟨g5,_⟩:=g5)
  refine nl_ ?_
  refine ARun.alloc (lit_lt rfl) ty_zero_25 ?_
  intro b6 f6
  have g6:=f6
  repeat ((with_reducible replace g6:=fresh_set g6);obtain ⟨g6,_⟩:=g6)
  refine nl_ ?_
  iterate 6 refine s1_ ?_
  refine ca_ rfl (((hopen.frame f3).frame f5).frame f6) ?_
  rintro _ S1 ⟨Sb,⟨Sa,⟨M,⟨p,oE,oW,hok,rfl,hM⟩,fa,hSa⟩,fb,hSb⟩,fc,h1⟩
  rw [h1,hSb,hSa];rw [hSa] at fb;rw [hSb,hSa] at fc;clear h1 S1 hSb Sb hSa Sa
  iterate 7 refine s1_ ?_
  refine su_ [(0,_),(1,_),(2,_),(3,_),(5,_),(6,_),(7,_),(8,_),(9,_)] ?_
  iterate 4 refine s1_ ?_
  refine ca_ rfl (hC _) ?_
  rintro _ Sx ⟨rfl,h1⟩
  rw [h1];clear h1 Sx
  refine rC (Calm.bin rfl rfl (bin_bool (bin_neq _ _) (bnot_dec_true q))) ?_
  iterate 2 refine s1_ ?_
  refine su_ [(0,_),(1,_),(2,_),(3,_),(5,_),(6,_),(7,_),(8,_),(9,_),(18,_)] ?_
  refine cT_ ?_
  obtain ⟨qe,de,qw,dw,hp,hdk,hl⟩:=Rec.dev_shape hok hlens
  rw [← hM] at hp hdk hl
  obtain ⟨g5,g6,_⟩:=fresh_three fa fb fc
  have:=fa.ne hp;have:=fa.ne' hp;have:=g5.ne hp;have:=g5.ne' hp;have:=g6.ne hp;have:=g6.ne' hp
  iterate 10 refine s1_ ?_
  refine su_ [(0,_),(1,_),(2,_),(3,_),(5,_),(6,_),(7,_),(8,_),(9,_),(18,_)] ?_
  iterate 2 refine s1_ ?_
  refine ⟨_,M,⟨_,_,_,rfl,.inr ⟨ty_agg_25,[_,_,_,_,_],ty_size_25,rds_,rfl⟩,⟨_,_,rfl,rfl,rfl⟩,rfl⟩,less_,?_⟩
  exact ⟨_,rfl,hl,hdk⟩
 rw [if_neg q]
 rcases openD_or d with ⟨ho,hR⟩ | ⟨ho,hR,hdn⟩ | ⟨ho,hR,hdn⟩ <;> rw [ho] at hopen hlens ⊢
 ·rw [if_pos (by simp)]
  refine ACall.enter (rs:=[.cell 6 25,.tmp 7]) 64 [(0,.agg #[.int .i64 d.size,.slice pe d.ext.length ce,.slice pw d.waits.length cw,.int .i64 d.fuse,.bool d.down]),(1,.string s),(2,.agg #[.int .u64 (m.seq:Int),.int .u8 (m.phase:Int),.int .u64 (m.count:Int),.int .u64 (m.prim:Int),.int .u32 (m.sum:Int),.string m.frm,.string m.too])] Tryz.func37 rfl rfl (Nat.le_of_ble_eq_true rfl) rfl ⟨rfl,rfl,rfl,trivial⟩ ?_
  iterate 2 refine s1_ ?_
  refine k_b5 rfl ?_
  intro b3 f3
  have g3:=f3
  repeat ((with_reducible replace g3:=fresh_set g3);obtain ⟨g3,_⟩:=g3)
  refine nl_ ?_
  refine k_b7 rfl ?_
  intro b5 f5
  have g5:=f5
  repeat ((with_reducible replace g5:=fresh_set g5);obtain ⟨g5,_⟩:=g5)
  refine nl_ ?_
  refine ARun.alloc (lit_lt rfl) ty_zero_25 ?_
  intro b6 f6
  have g6:=f6
  repeat ((with_reducible replace g6:=fresh_set g6);obtain ⟨g6,_⟩:=g6)
  refine nl_ ?_
  iterate 6 refine s1_ ?_
  refine ca_ rfl (((hopen.frame f3).frame f5).frame f6) ?_
  rintro _ S1 ⟨Sb,⟨Sa,⟨M,⟨p,oE,oW,hok,rfl,hM⟩,fa,hSa⟩,fb,hSb⟩,fc,h1⟩
  rw [h1,hSb,hSa];rw [hSa] at fb;rw [hSb,hSa] at fc;clear h1 S1 hSb Sb hSa Sa
  iterate 7 refine s1_ ?_
  refine su_ [(0,_),(1,_),(2,_),(3,_),(5,_),(6,_),(7,_),(8,_),(9,_)] ?_
  iterate 4 refine s1_ ?_
  refine ca_ rfl (hC _) ?_
  rintro _ Sx ⟨rfl,h1⟩
  rw [h1];clear h1 Sx
  refine rC (Calm.bin rfl rfl (bin_bool (bin_neq _ _) (bnot_dec_false (by simpa using q)))) ?_
  iterate 2 refine s1_ ?_
  refine su_ [(0,_),(1,_),(2,_),(3,_),(5,_),(6,_),(7,_),(8,_),(9,_),(18,_)] ?_
  refine cF_ ?_
  iterate 9 refine s1_ ?_
  refine su_ [(0,_),(1,_),(2,_),(3,_),(5,_),(6,_),(7,_),(8,_),(9,_),(18,_),(24,_)] ?_
  refine cT_ ?_
  obtain ⟨qe,de,qw,dw,hp,hdk,hl⟩:=Rec.dev_shape hok hlens
  rw [← hM] at hp hdk hl
  obtain ⟨g5,g6,_⟩:=fresh_three fa fb fc
  have:=fa.ne hp;have:=fa.ne' hp;have:=g5.ne hp;have:=g5.ne' hp;have:=g6.ne hp;have:=g6.ne' hp
  iterate 11 refine s1_ ?_
  refine su_ [(0,_),(1,_),(2,_),(3,_),(5,_),(6,_),(7,_),(8,_),(9,_),(18,_),(24,_)] ?_
  iterate 2 refine s1_ ?_
  refine ⟨_,M,⟨_,_,_,rfl,.inr ⟨ty_agg_25,[_,_,_,_,_],ty_size_25,rds_,rfl⟩,⟨_,_,rfl,rfl,rfl⟩,rfl⟩,less_,?_⟩
  exact ⟨_,rfl,hl,hdk⟩
 ·rw [if_pos (by simp)]
  refine ACall.enter (rs:=[.cell 6 25,.tmp 7]) 64 [(0,.agg #[.int .i64 d.size,.slice pe d.ext.length ce,.slice pw d.waits.length cw,.int .i64 d.fuse,.bool d.down]),(1,.string s),(2,.agg #[.int .u64 (m.seq:Int),.int .u8 (m.phase:Int),.int .u64 (m.count:Int),.int .u64 (m.prim:Int),.int .u32 (m.sum:Int),.string m.frm,.string m.too])] Tryz.func37 rfl rfl (Nat.le_of_ble_eq_true rfl) rfl ⟨rfl,rfl,rfl,trivial⟩ ?_
  iterate 2 refine s1_ ?_
  refine k_b5 rfl ?_
  intro b3 f3
  have g3:=f3
  repeat ((with_reducible replace g3:=fresh_set g3);obtain ⟨g3,_⟩:=g3)
  refine nl_ ?_
  refine k_b7 rfl ?_
  intro b5 f5
  have g5:=f5
  repeat ((with_reducible replace g5:=fresh_set g5);obtain ⟨g5,_⟩:=g5)
  refine nl_ ?_
  refine ARun.alloc (lit_lt rfl) ty_zero_25 ?_
  intro b6 f6
  have g6:=f6
  repeat ((with_reducible replace g6:=fresh_set g6);obtain ⟨g6,_⟩:=g6)
  refine nl_ ?_
  iterate 6 refine s1_ ?_
  refine ca_ rfl (((hopen.frame f3).frame f5).frame f6) ?_
  rintro _ S1 ⟨Sb,⟨Sa,⟨M,⟨p,oE,oW,hok,rfl,hM⟩,fa,hSa⟩,fb,hSb⟩,fc,h1⟩
  rw [h1,hSb,hSa];rw [hSa] at fb;rw [hSb,hSa] at fc;clear h1 S1 hSb Sb hSa Sa
  iterate 7 refine s1_ ?_
  refine su_ [(0,_),(1,_),(2,_),(3,_),(5,_),(6,_),(7,_),(8,_),(9,_)] ?_
  iterate 4 refine s1_ ?_
  refine ca_ rfl (hC _) ?_
  rintro _ Sx ⟨rfl,h1⟩
  rw [h1];clear h1 Sx
  refine rC (Calm.bin rfl rfl (bin_bool (bin_neq _ _) (bnot_dec_false (by simpa using q)))) ?_
  iterate 2 refine s1_ ?_
  refine su_ [(0,_),(1,_),(2,_),(3,_),(5,_),(6,_),(7,_),(8,_),(9,_),(18,_)] ?_
  refine cF_ ?_
  iterate 9 refine s1_ ?_
  refine su_ [(0,_),(1,_),(2,_),(3,_),(5,_),(6,_),(7,_),(8,_),(9,_),(18,_),(24,_)] ?_
  refine cT_ ?_
  obtain ⟨qe,de,qw,dw,hp,hdk,hl⟩:=Rec.dev_shape hok hlens
  rw [← hM] at hp hdk hl
  obtain ⟨g5,g6,_⟩:=fresh_three fa fb fc
  have:=fa.ne hp;have:=fa.ne' hp;have:=g5.ne hp;have:=g5.ne' hp;have:=g6.ne hp;have:=g6.ne' hp
  iterate 11 refine s1_ ?_
  refine su_ [(0,_),(1,_),(2,_),(3,_),(5,_),(6,_),(7,_),(8,_),(9,_),(18,_),(24,_)] ?_
  iterate 2 refine s1_ ?_
  refine ⟨_,M,⟨_,_,_,rfl,.inr ⟨ty_agg_25,[_,_,_,_,_],ty_size_25,rds_,rfl⟩,⟨_,_,rfl,rfl,rfl⟩,rfl⟩,less_,?_⟩
  exact ⟨_,rfl,hl,hdk⟩
 ·rw [if_neg (by simp)]
  have hL:=fun p M h hg=>slo_LoadAt p d s M h hR hg
  have hWr:=fun p oE oW hok=>slo_WriteAt p d s m S oE oW hok hR hz.f1 hdn hm hf ht
  have hkw:=write_keepM (s:=s) (m:=m) hR hdn hz.f1
  generalize loadW d s=u at *
  obtain ⟨was,e⟩:=u
  unfold mfE mfV at hL
  unfold mfV DevR at hWr
  simp only at hL ⊢
  have hq:RightM m:=hcm.1 (by simpa using q)
  have hq1:=hq.s1
  have hq2:=hq.s2
  by_cases q1:e≠0
  ·rw [if_pos q1]
   refine ACall.enter (rs:=[.cell 6 25,.tmp 7]) 64 [(0,.agg #[.int .i64 d.size,.slice pe d.ext.length ce,.slice pw d.waits.length cw,.int .i64 d.fuse,.bool d.down]),(1,.string s),(2,.agg #[.int .u64 (m.seq:Int),.int .u8 (m.phase:Int),.int .u64 (m.count:Int),.int .u64 (m.prim:Int),.int .u32 (m.sum:Int),.string m.frm,.string m.too])] Tryz.func37 rfl rfl (Nat.le_of_ble_eq_true rfl) rfl ⟨rfl,rfl,rfl,trivial⟩ ?_
   iterate 2 refine s1_ ?_
   refine k_b5 rfl ?_
   intro b3 f3
   have g3:=f3
   repeat ((with_reducible replace g3:=fresh_set g3);obtain ⟨g3,_⟩:=g3)
   refine nl_ ?_
   refine k_b7 rfl ?_
   intro b5 f5
   have g5:=f5
   repeat ((with_reducible replace g5:=fresh_set g5);obtain ⟨g5,_⟩:=g5)
   refine nl_ ?_
   refine ARun.alloc (lit_lt rfl) ty_zero_25 ?_
   intro b6 f6
   have g6:=f6
   repeat ((with_reducible replace g6:=fresh_set g6);obtain ⟨g6,_⟩:=g6)
   refine nl_ ?_
   iterate 6 refine s1_ ?_
   refine ca_ rfl (((hopen.frame f3).frame f5).frame f6) ?_
   rintro _ S1 ⟨Sb,⟨Sa,⟨M,⟨p,oE,oW,hok,rfl,hM⟩,fa,hSa⟩,fb,hSb⟩,fc,h1⟩
   rw [h1,hSb,hSa];rw [hSa] at fb;rw [hSb,hSa] at fc;clear h1 S1 hSb Sb hSa Sa
   have hSM:S.Less M:=by rw [hM];exact hok.less
   have hrd:RdV M p d:=by rw [hM];exact hok.rd (right_lens hR).1 (right_lens hR).2
   obtain ⟨g5,g6,_⟩:=fresh_three fa fb fc
   iterate 7 refine s1_ ?_
   refine su_ [(0,_),(1,_),(2,_),(3,_),(5,_),(6,_),(7,_),(8,_),(9,_)] ?_
   iterate 4 refine s1_ ?_
   refine ca_ rfl (hC _) ?_
   rintro _ Sx ⟨rfl,h1⟩
   rw [h1];clear h1 Sx
   refine rC (Calm.bin rfl rfl (bin_bool (bin_neq _ _) (bnot_dec_false (by simpa using q)))) ?_
   iterate 2 refine s1_ ?_
   refine su_ [(0,_),(1,_),(2,_),(3,_),(5,_),(6,_),(7,_),(8,_),(9,_),(18,_)] ?_
   refine cF_ ?_
   iterate 9 refine s1_ ?_
   refine su_ [(0,_),(1,_),(2,_),(3,_),(5,_),(6,_),(7,_),(8,_),(9,_),(18,_),(24,_)] ?_
   refine cF_ ?_
   iterate 6 refine s1_ ?_
   refine ca_ rfl (hL p _ (hrd.less less_) (hg.less less_)) ?_
   rintro _ Sx ⟨rfl,h1⟩
   rw [h1];clear h1 Sx
   iterate 3 refine s1_ ?_
   refine ARun.alloc (lit_lt rfl) ty_zero_55 ?_
   intro b10 f10
   have g10:=f10
   repeat ((with_reducible replace g10:=fresh_set g10);obtain ⟨g10,_⟩:=g10)
   refine nl_ ?_
   iterate 4 refine s1_ ?_
   refine su_ [(0,_),(1,_),(2,_),(3,_),(5,_),(6,_),(7,_),(8,_),(9,_),(18,_),(24,_),(10,_)] ?_
   iterate 5 refine s1_ ?_
   refine rC (Calm.bin rfl rfl (bin_bool (bin_neq _ _) (bnot_dec_true q1))) ?_
   iterate 3 refine s1_ ?_
   refine su_ [(0,_),(1,_),(2,_),(3,_),(5,_),(6,_),(7,_),(8,_),(9,_),(18,_),(24,_),(10,_),(36,_)] ?_
   refine cT_ ?_
   obtain ⟨qe,de,qw,dw,hp,hdk,hl⟩:=Rec.dev_shape hok hlens
   rw [← hM] at hp hdk hl
   have:=fa.ne hp;have:=fa.ne' hp;have:=g5.ne hp;have:=g5.ne' hp;have:=g6.ne hp;have:=g6.ne' hp
   have:=g10.ne hp;have:=g10.ne' hp
   iterate 11 refine s1_ ?_
   refine su_ [(0,_),(1,_),(2,_),(3,_),(5,_),(6,_),(7,_),(8,_),(9,_),(18,_),(24,_),(10,_),(36,_)] ?_
   iterate 3 refine s1_ ?_
   refine ⟨_,M,⟨_,_,_,rfl,.inr ⟨ty_agg_25,[_,_,_,_,_],ty_size_25,rds_,rfl⟩,⟨_,_,rfl,rfl,rfl⟩,rfl⟩,less_,?_⟩
   exact ⟨_,rfl,hl,hdk⟩
  simp only [ne_eq,Decidable.not_not] at q1
  subst q1
  rw [if_neg (by simp)]
  by_cases q2:m.seq-1≠was.seq
  ·rw [if_pos q2]
   refine ACall.enter (rs:=[.cell 6 25,.tmp 7]) 64 [(0,.agg #[.int .i64 d.size,.slice pe d.ext.length ce,.slice pw d.waits.length cw,.int .i64 d.fuse,.bool d.down]),(1,.string s),(2,.agg #[.int .u64 (m.seq:Int),.int .u8 (m.phase:Int),.int .u64 (m.count:Int),.int .u64 (m.prim:Int),.int .u32 (m.sum:Int),.string m.frm,.string m.too])] Tryz.func37 rfl rfl (Nat.le_of_ble_eq_true rfl) rfl ⟨rfl,rfl,rfl,trivial⟩ ?_
   iterate 2 refine s1_ ?_
   refine k_b5 rfl ?_
   intro b3 f3
   have g3:=f3
   repeat ((with_reducible replace g3:=fresh_set g3);obtain ⟨g3,_⟩:=g3)
   refine nl_ ?_
   refine k_b7 rfl ?_
   intro b5 f5
   have g5:=f5
   repeat ((with_reducible replace g5:=fresh_set g5);obtain ⟨g5,_⟩:=g5)
   refine nl_ ?_
   refine ARun.alloc (lit_lt rfl) ty_zero_25 ?_
   intro b6 f6
   have g6:=f6
   repeat ((with_reducible replace g6:=fresh_set g6);obtain ⟨g6,_⟩:=g6)
   refine nl_ ?_
   iterate 6 refine s1_ ?_
   refine ca_ rfl (((hopen.frame f3).frame f5).frame f6) ?_
   rintro _ S1 ⟨Sb,⟨Sa,⟨M,⟨p,oE,oW,hok,rfl,hM⟩,fa,hSa⟩,fb,hSb⟩,fc,h1⟩
   rw [h1,hSb,hSa];rw [hSa] at fb;rw [hSb,hSa] at fc;clear h1 S1 hSb Sb hSa Sa
   have hSM:S.Less M:=by rw [hM];exact hok.less
   have hrd:RdV M p d:=by rw [hM];exact hok.rd (right_lens hR).1 (right_lens hR).2
   obtain ⟨g5,g6,_⟩:=fresh_three fa fb fc
   iterate 7 refine s1_ ?_
   refine su_ [(0,_),(1,_),(2,_),(3,_),(5,_),(6,_),(7,_),(8,_),(9,_)] ?_
   iterate 4 refine s1_ ?_
   refine ca_ rfl (hC _) ?_
   rintro _ Sx ⟨rfl,h1⟩
   rw [h1];clear h1 Sx
   refine rC (Calm.bin rfl rfl (bin_bool (bin_neq _ _) (bnot_dec_false (by simpa using q)))) ?_
   iterate 2 refine s1_ ?_
   refine su_ [(0,_),(1,_),(2,_),(3,_),(5,_),(6,_),(7,_),(8,_),(9,_),(18,_)] ?_
   refine cF_ ?_
   iterate 9 refine s1_ ?_
   refine su_ [(0,_),(1,_),(2,_),(3,_),(5,_),(6,_),(7,_),(8,_),(9,_),(18,_),(24,_)] ?_
   refine cF_ ?_
   iterate 6 refine s1_ ?_
   refine ca_ rfl (hL p _ (hrd.less less_) (hg.less less_)) ?_
   rintro _ Sx ⟨rfl,h1⟩
   rw [h1];clear h1 Sx
   iterate 3 refine s1_ ?_
   refine ARun.alloc (lit_lt rfl) ty_zero_55 ?_
   intro b10 f10
   have g10:=f10
   repeat ((with_reducible replace g10:=fresh_set g10);obtain ⟨g10,_⟩:=g10)
   refine nl_ ?_
   iterate 4 refine s1_ ?_
   refine su_ [(0,_),(1,_),(2,_),(3,_),(5,_),(6,_),(7,_),(8,_),(9,_),(18,_),(24,_),(10,_)] ?_
   iterate 5 refine s1_ ?_
   refine rC (Calm.bin rfl rfl (bin_bool (bin_neq _ _) (bnot_dec_false (by simp)))) ?_
   iterate 3 refine s1_ ?_
   refine su_ [(0,_),(1,_),(2,_),(3,_),(5,_),(6,_),(7,_),(8,_),(9,_),(18,_),(24,_),(10,_),(36,_)] ?_
   refine cF_ ?_
   iterate 7 refine s1_ ?_
   refine rC (Calm.bin rfl rfl (bin_bool (bin_neq _ _) (bnot_dec_true (by omega)))) ?_
   iterate 3 refine s1_ ?_
   refine su_ [(0,_),(1,_),(2,_),(3,_),(5,_),(6,_),(7,_),(8,_),(9,_),(18,_),(24,_),(10,_),(36,_),(44,_)] ?_
   refine cT_ ?_
   obtain ⟨qe,de,qw,dw,hp,hdk,hl⟩:=Rec.dev_shape hok hlens
   rw [← hM] at hp hdk hl
   have:=fa.ne hp;have:=fa.ne' hp;have:=g5.ne hp;have:=g5.ne' hp;have:=g6.ne hp;have:=g6.ne' hp
   have:=g10.ne hp;have:=g10.ne' hp
   iterate 10 refine s1_ ?_
   refine su_ [(0,_),(1,_),(2,_),(3,_),(5,_),(6,_),(7,_),(8,_),(9,_),(18,_),(24,_),(10,_),(36,_),(44,_)] ?_
   iterate 3 refine s1_ ?_
   refine ⟨_,M,⟨_,_,_,rfl,.inr ⟨ty_agg_25,[_,_,_,_,_],ty_size_25,rds_,rfl⟩,⟨_,_,rfl,rfl,rfl⟩,rfl⟩,less_,?_⟩
   exact ⟨_,rfl,hl,hdk⟩
  ·rw [if_neg q2]
   generalize writeW d s m=y at *
   have hyl:=right_lens hkw.1
   refine ACall.enter (rs:=[.cell 6 25,.tmp 7]) 64 [(0,.agg #[.int .i64 d.size,.slice pe d.ext.length ce,.slice pw d.waits.length cw,.int .i64 d.fuse,.bool d.down]),(1,.string s),(2,.agg #[.int .u64 (m.seq:Int),.int .u8 (m.phase:Int),.int .u64 (m.count:Int),.int .u64 (m.prim:Int),.int .u32 (m.sum:Int),.string m.frm,.string m.too])] Tryz.func37 rfl rfl (Nat.le_of_ble_eq_true rfl) rfl ⟨rfl,rfl,rfl,trivial⟩ ?_
   iterate 2 refine s1_ ?_
   refine k_b5 rfl ?_
   intro b3 f3
   have g3:=f3
   repeat ((with_reducible replace g3:=fresh_set g3);obtain ⟨g3,_⟩:=g3)
   refine nl_ ?_
   refine k_b7 rfl ?_
   intro b5 f5
   have g5:=f5
   repeat ((with_reducible replace g5:=fresh_set g5);obtain ⟨g5,_⟩:=g5)
   refine nl_ ?_
   refine ARun.alloc (lit_lt rfl) ty_zero_25 ?_
   intro b6 f6
   have g6:=f6
   repeat ((with_reducible replace g6:=fresh_set g6);obtain ⟨g6,_⟩:=g6)
   refine nl_ ?_
   iterate 6 refine s1_ ?_
   refine ca_ rfl (((hopen.frame f3).frame f5).frame f6) ?_
   rintro _ S1 ⟨Sb,⟨Sa,⟨M,⟨p,oE,oW,hok,rfl,hM⟩,fa,hSa⟩,fb,hSb⟩,fc,h1⟩
   rw [h1,hSb,hSa];rw [hSa] at fb;rw [hSb,hSa] at fc;clear h1 S1 hSb Sb hSa Sa
   have hSM:S.Less M:=by rw [hM];exact hok.less
   have hrd:RdV M p d:=by rw [hM];exact hok.rd (right_lens hR).1 (right_lens hR).2
   obtain ⟨g5,g6,_⟩:=fresh_three fa fb fc
   iterate 7 refine s1_ ?_
   refine su_ [(0,_),(1,_),(2,_),(3,_),(5,_),(6,_),(7,_),(8,_),(9,_)] ?_
   iterate 4 refine s1_ ?_
   refine ca_ rfl (hC _) ?_
   rintro _ Sx ⟨rfl,h1⟩
   rw [h1];clear h1 Sx
   refine rC (Calm.bin rfl rfl (bin_bool (bin_neq _ _) (bnot_dec_false (by simpa using q)))) ?_
   iterate 2 refine s1_ ?_
   refine su_ [(0,_),(1,_),(2,_),(3,_),(5,_),(6,_),(7,_),(8,_),(9,_),(18,_)] ?_
   refine cF_ ?_
   iterate 9 refine s1_ ?_
   refine su_ [(0,_),(1,_),(2,_),(3,_),(5,_),(6,_),(7,_),(8,_),(9,_),(18,_),(24,_)] ?_
   refine cF_ ?_
   iterate 6 refine s1_ ?_
   refine ca_ rfl (hL p _ (hrd.less less_) (hg.less less_)) ?_
   rintro _ Sx ⟨rfl,h1⟩
   rw [h1];clear h1 Sx
   iterate 3 refine s1_ ?_
   refine ARun.alloc (lit_lt rfl) ty_zero_55 ?_
   intro b10 f10
   have g10:=f10
   repeat ((with_reducible replace g10:=fresh_set g10);obtain ⟨g10,_⟩:=g10)
   refine nl_ ?_
   iterate 4 refine s1_ ?_
   refine su_ [(0,_),(1,_),(2,_),(3,_),(5,_),(6,_),(7,_),(8,_),(9,_),(18,_),(24,_),(10,_)] ?_
   iterate 5 refine s1_ ?_
   refine rC (Calm.bin rfl rfl (bin_bool (bin_neq _ _) (bnot_dec_false (by simp)))) ?_
   iterate 3 refine s1_ ?_
   refine su_ [(0,_),(1,_),(2,_),(3,_),(5,_),(6,_),(7,_),(8,_),(9,_),(18,_),(24,_),(10,_),(36,_)] ?_
   refine cF_ ?_
   iterate 7 refine s1_ ?_
   refine rC (Calm.bin rfl rfl (bin_bool (bin_neq _ _) (bnot_dec_false (by omega)))) ?_
   iterate 3 refine s1_ ?_
   refine su_ [(0,_),(1,_),(2,_),(3,_),(5,_),(6,_),(7,_),(8,_),(9,_),(18,_),(24,_),(10,_),(36,_),(44,_)] ?_
   refine cF_ ?_
   rw [hM] at fa fb fc f10 ⊢
   iterate 8 refine s1_ ?_
   refine ca_ rfl (((((hWr p oE oW hok).frame fa).frame fb).frame fc).frame f10) ?_
   rintro _ S1 ⟨Sc,⟨Sb,⟨Sa,⟨M2,⟨oE2,oW2,hok2,rfl,hM2⟩,fa2,hSa⟩,fb2,hSb⟩,fc2,hSc⟩,fd2,h1⟩
   rw [h1,hSc,hSb,hSa];rw [hSa] at fb2;rw [hSb,hSa] at fc2;rw [hSc,hSb,hSa] at fd2;clear h1 S1 hSc Sc hSb Sb hSa Sa
   obtain ⟨qe,de,qw,dw,hp,hdk,hl⟩:=Rec.dev_shape hok2 hyl
   rw [← hM2] at hp hdk hl
   obtain ⟨k5,k6,_⟩:=fresh_three fa2 fb2 fc2
   obtain ⟨kd1,_⟩:=fresh_set fd2
   obtain ⟨kd2,_⟩:=fresh_set kd1
   obtain ⟨kd3,_⟩:=fresh_set kd2
   have:=fa2.ne hp;have:=fa2.ne' hp;have:=k5.ne hp;have:=k5.ne' hp;have:=k6.ne hp;have:=k6.ne' hp;have:=kd3.ne hp;have:=kd3.ne' hp
   iterate 3 refine s1_ ?_
   refine su_ [(0,_),(1,_),(2,_),(3,_),(5,_),(6,_),(7,_),(8,_),(9,_),(18,_),(24,_),(10,_),(36,_),(44,_)] ?_
   iterate 11 refine s1_ ?_
   refine su_ [(0,_),(1,_),(2,_),(3,_),(5,_),(6,_),(7,_),(8,_),(9,_),(18,_),(24,_),(10,_),(36,_),(44,_)] ?_
   refine s1_ ?_
   refine ⟨_,M2,⟨_,_,_,rfl,.inr ⟨ty_agg_25,[_,_,_,_,_],ty_size_25,rds_,rfl⟩,⟨_,_,rfl,rfl,rfl⟩,rfl⟩,less_,?_⟩
   exact ⟨_,rfl,hl,hdk⟩
set_option maxHeartbeats 4000000 in
theorem slo_Begin (v : Value) (d : D) (s : ByteArray) (m : Mf) (S : Mem) (hd : DkR S v d) (hz : Dz d) (hm : Fit m) (hf : m.frm.size ≤ 9223372036854775807) (ht : m.too.size ≤ 9223372036854775807) (hgood : chkM m = 0 ∧ m.seq = 1 ∧ Right d ∧ d.down = false ∧ (newD d s 2).2 = 0) :
  ACall Tryz.prog 81 #[v,.string s,mfV m] S (DkRes (writeW (newD d s 2).1 s m) S):=by
 obtain ⟨q,hs1,hR,hdn,hnew⟩:=hgood
 have hopen:=disk_Open v d S hd hz
 have hC:=fun T=>slo_Check m T hf ht
 obtain ⟨hR1,hd1,hf1,_⟩:=(new_law (s:=s) (n:=2) hR hdn).2 hnew
 have hf1:(newD d s 2).1.fuse≤9223372036854775807:=by rw [hf1];exact hz.f1
 have hnw:=fun (p:Nat) (oE oW) (hok:OkV S p d oE oW)=>dev_New p d s 2 S oE oW hok hR
 have hWr:=fun p oE oW hok=>slo_WriteAt p (newD d s 2).1 s m S oE oW hok hR1 hf1 hd1 hm hf ht
 have hkw:=write_keepM (s:=s) (m:=m) hR1 hd1 hf1
 obtain ⟨pe,ce,pw,cw,rfl,hE,hW⟩:=id hd
 rw [open_ok hR hdn] at hopen
 rw [show newD d s 2=((newD d s 2).1,0) from Prod.ext rfl hnew] at hnw
 generalize (newD d s 2).1=e1 at *
 generalize writeW e1 s m=y at *
 have hyl:=right_lens hkw.1
 unfold mfV at hC ⊢
 unfold mfV DevR at hWr
 rw [q] at hC
 refine ACall.enter (rs:=[.cell 6 25,.tmp 7]) 43 [(0,.agg #[.int .i64 d.size,.slice pe d.ext.length ce,.slice pw d.waits.length cw,.int .i64 d.fuse,.bool d.down]),(1,.string s),(2,.agg #[.int .u64 (m.seq:Int),.int .u8 (m.phase:Int),.int .u64 (m.count:Int),.int .u64 (m.prim:Int),.int .u32 (m.sum:Int),.string m.frm,.string m.too])] Tryz.func81 rfl rfl (Nat.le_of_ble_eq_true rfl) rfl ⟨rfl,rfl,rfl,trivial⟩ ?_
 iterate 2 refine s1_ ?_
 refine k_b5 rfl ?_
 intro b3 f3
 have g3:=f3
 repeat ((with_reducible replace g3:=fresh_set g3);obtain ⟨g3,_⟩:=g3)
 refine nl_ ?_
 refine k_b7 rfl ?_
 intro b5 f5
 have g5:=f5
 repeat ((with_reducible replace g5:=fresh_set g5);obtain ⟨g5,_⟩:=g5)
 refine nl_ ?_
 refine ARun.alloc (lit_lt rfl) ty_zero_25 ?_
 intro b6 f6
 have g6:=f6
 repeat ((with_reducible replace g6:=fresh_set g6);obtain ⟨g6,_⟩:=g6)
 refine nl_ ?_
 iterate 6 refine s1_ ?_
 refine ca_ rfl (((hopen.frame f3).frame f5).frame f6) ?_
 rintro _ S1 ⟨Sb,⟨Sa,⟨M,⟨p,oE,oW,hok,rfl,hM⟩,fa,hSa⟩,fb,hSb⟩,fc,h1⟩
 rw [h1,hSb,hSa];rw [hSa] at fb;rw [hSb,hSa] at fc;clear h1 S1 hSb Sb hSa Sa
 iterate 7 refine s1_ ?_
 refine su_ [(0,_),(1,_),(2,_),(3,_),(5,_),(6,_),(7,_),(8,_),(9,_)] ?_
 iterate 4 refine s1_ ?_
 refine ca_ rfl (hC _) ?_
 rintro _ Sx ⟨rfl,h1⟩
 rw [h1];clear h1 Sx
 iterate 4 refine s1_ ?_
 first|refine k_q 18 ?_|refine rG 18 (Calm.bin rfl rfl (bin_bool (bin_neq _ _) (bnot_dec_false (by simp [hs1])))) ?_
 iterate 3 refine s1_ ?_
 refine su_ [(0,_),(1,_),(2,_),(3,_),(5,_),(6,_),(7,_),(8,_),(9,_),(22,_)] ?_
 refine cF_ ?_
 iterate 9 refine s1_ ?_
 refine su_ [(0,_),(1,_),(2,_),(3,_),(5,_),(6,_),(7,_),(8,_),(9,_),(22,_),(28,_)] ?_
 refine cT_ ?_
 rw [hM] at fa fb fc ⊢
 iterate 3 refine s1_ ?_
 refine ca_ rfl ((((hnw p oE oW hok).frame fa).frame fb).frame fc) ?_
 rintro _ S1 ⟨Sb,⟨Sa,⟨M1,⟨oE1,oW1,hok1,rfl,hM1⟩,fa1,hSa⟩,fb1,hSb⟩,fc1,h1⟩
 rw [h1,hSb,hSa];rw [hSa] at fb1;rw [hSb,hSa] at fc1;clear h1 S1 hSb Sb hSa Sa
 iterate 3 refine s1_ ?_
 refine su_ [(0,_),(1,_),(2,_),(3,_),(5,_),(6,_),(7,_),(8,_),(9,_),(22,_),(28,_)] ?_
 iterate 7 refine s1_ ?_
 refine su_ [(0,_),(1,_),(2,_),(3,_),(5,_),(6,_),(7,_),(8,_),(9,_),(22,_),(28,_),(33,_)] ?_
 refine cT_ ?_
 rw [hM1] at fa1 fb1 fc1 ⊢
 iterate 4 refine s1_ ?_
 refine ca_ rfl ((((hWr p oE1 oW1 hok1).frame fa1).frame fb1).frame fc1) ?_
 rintro _ S1 ⟨Sb,⟨Sa,⟨M2,⟨oE2,oW2,hok2,rfl,hM2⟩,fa2,hSa⟩,fb2,hSb⟩,fc2,h1⟩
 rw [h1,hSb,hSa];rw [hSa] at fb2;rw [hSb,hSa] at fc2;clear h1 S1 hSb Sb hSa Sa
 obtain ⟨qe,de,qw,dw,hp,hdk,hl⟩:=Rec.dev_shape hok2 hyl
 rw [← hM2] at hp hdk hl
 obtain ⟨k5,k6,_⟩:=fresh_three fa2 fb2 fc2
 have:=fa2.ne hp;have:=fa2.ne' hp;have:=k5.ne hp;have:=k5.ne' hp;have:=k6.ne hp;have:=k6.ne' hp
 iterate 3 refine s1_ ?_
 refine su_ [(0,_),(1,_),(2,_),(3,_),(5,_),(6,_),(7,_),(8,_),(9,_),(22,_),(28,_),(33,_)] ?_
 iterate 11 refine s1_ ?_
 refine su_ [(0,_),(1,_),(2,_),(3,_),(5,_),(6,_),(7,_),(8,_),(9,_),(22,_),(28,_),(33,_)] ?_
 refine s1_ ?_
 refine ⟨_,M2,⟨_,_,_,rfl,.inr ⟨ty_agg_25,[_,_,_,_,_],ty_size_25,rds_,rfl⟩,⟨_,_,rfl,rfl,rfl⟩,rfl⟩,less_,?_⟩
 exact ⟨_,rfl,hl,hdk⟩
end Slo
end Go.Proofs.YtceikpipmcadmaaGreatDoor
namespace Go.Proofs.YtceikpipmcadmaaGreatDoor
open Go.RowKit
open Mv Disk Num
set_option maxRecDepth 4000
namespace Slo
theorem eq_mf (x y : Mf) : x = y ↔ x.seq = y.seq ∧ x.phase = y.phase ∧ x.count = y.count ∧ x.prim = y.prim ∧ x.sum = y.sum ∧ x.frm = y.frm ∧ x.too = y.too := by
 cases x;cases y;simp
instance : DecidableEq Mf := fun x y => decidable_of_iff _ (eq_mf x y).symm
theorem eql_mf (x y : Mf) (w : World) : (binOp .eql 55 (mfV x) (mfV y)).run Tryz.prog w = .ok (.bool (decide (x = y))) w := by
 have e:decide (x=y)=(((x.seq:Int) == (y.seq:Int)) && ((x.phase:Int) == (y.phase:Int)) && ((x.count:Int) == (y.count:Int)) && ((x.prim:Int) == (y.prim:Int)) && ((x.sum:Int) == (y.sum:Int)) && (x.frm.toList == y.frm.toList) && (x.too.toList == y.too.toList)):=by
  rw [Bool.eq_iff_iff,decide_eq_true_eq,eq_mf]
  simp [toList_inj',and_assoc,Int.ofNat_inj]
 rw [e]
 unfold mfV
 go_simp
 cases h1:((x.seq:Int) == (y.seq:Int)) <;> cases h2:((x.phase:Int) == (y.phase:Int)) <;> cases h3:((x.count:Int) == (y.count:Int)) <;> cases h4:((x.prim:Int) == (y.prim:Int)) <;> cases h5:((x.sum:Int) == (y.sum:Int)) <;> cases h6:(x.frm.toList == y.frm.toList) <;> cases h7:(x.too.toList == y.too.toList) <;> simp_all
theorem bin_eql_mf {p q : Operand} (x y : Mf) : Bin Tryz.prog .eql 55 p q (mfV x) (mfV y) (.bool (decide (x = y))) := fun w => by
 unfold mfV
 rw [Sem.run_bind,run_eqGuard_agg w .eql 55 p q _ _ (by kernel_rfl)]
 exact eql_mf x y w
theorem neq_mf (x : Mf) (w : World) : (binOp .neq 55 (mfV x) (mfV x)).run Tryz.prog w = .ok (.bool false) w := by
 unfold mfV
 go_simp
theorem bin_neq_mf {p q : Operand} (x : Mf) : Bin Tryz.prog .neq 55 p q (mfV x) (mfV x) (.bool false) := fun w => by
 unfold mfV
 rw [Sem.run_bind,run_eqGuard_agg w .neq 55 p q _ _ (by kernel_rfl)]
 exact neq_mf x w
end Slo
end Go.Proofs.YtceikpipmcadmaaGreatDoor
namespace Go.Proofs.YtceikpipmcadmaaGreatDoor
open Go.RowKit
open Mv Disk Num
namespace Rec
def r0 : D := ⟨6, [], [], -1, false⟩
def lA : List (List Nat) := [[5], [300]]
def tB : ByteArray := ⟨#[120, 121, 122]⟩
noncomputable def p1 : D × Int := putP r0 nA 1 2 (bs (lA.flatMap recB))
noncomputable def p2 : D × Int := putP p1.1 nB 0 3 tB
theorem right_r0 : Right r0 := ⟨by decide, by decide, by decide, by decide, ⟨fun x h => (by cases h), List.Pairwise.nil, by decide⟩, fun w h => (by cases h)⟩
set_option maxRecDepth 100000 in
theorem p1_ok : p1.2 = 0 := by decide +kernel
set_option maxRecDepth 100000 in
theorem p2_ok : p2.2 = 0 := by decide +kernel
theorem nAB : nA ≠ nB := by decide
theorem law1 : ∃ z, p1 = (z, 0) ∧ Right z ∧ z.down = false ∧ z.fuse ≤ 9223372036854775807 ∧ z.waits = [] ∧ FileR z nA 1 2 (bs (lA.flatMap recB)) ∧ ∀ o k, o ≠ nA → readO z o k = readO r0 o k :=
 put_law right_r0 rfl (by decide) (by decide) (by decide) (by decide) p1_ok
theorem right1 : Right p1.1 ∧ p1.1.down = false ∧ p1.1.fuse ≤ 9223372036854775807 := by
 obtain ⟨z,e,h1,h2,h3,_⟩:=law1
 rw [e];exact ⟨h1,h2,h3⟩
theorem law2 : ∃ z, p2 = (z, 0) ∧ Right z ∧ z.down = false ∧ z.fuse ≤ 9223372036854775807 ∧ z.waits = [] ∧ FileR z nB 0 3 tB ∧ ∀ o k, o ≠ nB → readO z o k = readO p1.1 o k :=
 put_law right1.1 right1.2.1 right1.2.2 (by decide) (by decide) (by decide) p2_ok
theorem right2 : Right p2.1 ∧ p2.1.down = false ∧ p2.1.fuse ≤ 9223372036854775807 := by
 obtain ⟨z,e,h1,h2,h3,_⟩:=law2
 rw [e];exact ⟨h1,h2,h3⟩
set_option maxRecDepth 100000 in
theorem sec2 : has p2.1.ext nA = true ∧ sec (exOf p2.1.ext nA) = 2 := by decide +kernel
theorem fileA : FileR p2.1 nA 1 2 (bs (lA.flatMap recB)) := by
 obtain ⟨z,e,h1,h2,h3,h4,h5,h6⟩:=law1
 obtain ⟨y,g,g1,g2,g3,g4,g5,g6⟩:=law2
 have e1:p1.1=z:=by rw [e]
 have e2:p2.1=y:=by rw [g]
 have hrd:∀ k,readO p2.1 nA k=readO z nA k:=fun k=>by rw [e2,g6 nA k nAB,e1]
 refine ⟨(hrd 0).trans h5.head,fun i hi=>(hrd _).trans (h5.secs i hi),?_⟩
 rw [sectors_sec right2.1 right2.2.1 sec2.1,sec2.2];rfl
theorem fileB : FileR p2.1 nB 0 3 tB := by
 obtain ⟨y,g,g1,g2,g3,g4,g5,g6⟩:=law2
 rw [g];exact g5
theorem s1 : writeP r0 nA 1 lA = (p1.1, 0) := by
 unfold writeP
 rw [if_neg (by decide),if_pos (by decide),opened_ok right_r0 rfl]
 have h:=p1_ok
 unfold p1 at h ⊢
 rw [show (1:Int).toNat=1 from rfl,show lA.length=2 from rfl]
 generalize putP r0 nA 1 2 (bs (lA.flatMap recB))=q at *
 exact Prod.ext rfl h
theorem s2 : writeTextP p1.1 nB tB = (p2.1, 0) := by
 unfold writeTextP
 rw [if_neg (by decide),opened_ok right1.1 right1.2.1]
 have h:=p2_ok
 unfold p2 at h ⊢
 rw [show tB.size=3 from rfl]
 generalize putP p1.1 nB 0 3 tB=q at *
 exact Prod.ext rfl h
theorem s3 : headP p2.1 nA = (1, 2, 0) := file_head (by decide) (by decide) fileA
theorem s5 : readTP p2.1 nB = (tB, 0) := by
 have h:=file_body (by decide) (by decide) (by decide) fileB
 rw [show decide ((0:Nat)=0)=true from rfl] at h
 unfold readTP
 rw [h]
theorem s6 : readRP p2.1 nB = (0, [], 7) := by
 have h:=file_head (by decide) (by decide) fileB
 have e:bodyP p2.1 nB false=(0,ByteArray.empty,7):=by
  unfold bodyP
  rw [h,if_neg (by simp),if_pos (by decide)]
 unfold readRP
 rw [e,if_pos (by simp)]
theorem s7 : needP 8 2 = (3, 0) := by decide
theorem s8 : writeP p2.1 nC 1 [[1, 2]] = (p2.1, 1) := by
 unfold writeP
 rw [if_neg (by decide),if_neg (by decide)]
 unfold refD
 rw [open_ok right2.1 right2.2.1]
end Rec
end Go.Proofs.YtceikpipmcadmaaGreatDoor
namespace Go.Proofs.YtceikpipmcadmaaGreatDoor
open Go.RowKit
open Mv Disk Num
set_option maxRecDepth 4000
namespace Slo
theorem less_none {M T : Mem} (h : M.Less T) {b : Nat} (hn : T.own b = none) : M.own b = none := by
 cases e:M.own b with
 | none=>rfl
 | some r=>have:=h.own e;rw [hn] at this;cases this
set_option maxHeartbeats 4000000 in
theorem slo_lives (S : Mem) (hg : ErrT S) : ACall Tryz.prog 33 #[] S fun r S' => r = .bool true ∧ S' = S := by
 have dz0:Dz r0:=dz_right right_r0 (by decide)
 have dz1:Dz b1:=dz_right keep1.1 keep1.2.1
 have dz2:Dz b2:=dz_right keep2.1 keep2.2.1
 have fA:Fit mA:=⟨by decide,by decide,by decide,by decide,by decide⟩
 have fB:Fit mB:=⟨by decide,by decide,by decide,by decide,by decide⟩
 have cE:∀ S,ACall Tryz.prog 29 #[.agg #[.int .u64 1,.int .u8 1,.int .u64 5,.int .u64 0,.int .u32 9,.string ⟨#[97]⟩,.string ⟨#[98]⟩]] S fun r S'=>r = .tuple #[.string (encS mA),.int .i64 0]∧S'=S:=fun S=>by
  have h:=slo_Encode mA S fA (by decide) (by decide)
  unfold encV at h
  rw [s1] at h;exact h
 have cD:∀ S,ErrT S→ACall Tryz.prog 31 #[.string (encS mA)] S fun r S'=>r = .tuple #[.agg #[.int .u64 1,.int .u8 1,.int .u64 5,.int .u64 0,.int .u32 9,.string ⟨#[97]⟩,.string ⟨#[98]⟩],.int .i64 0]∧S'=S:=fun S h=>by
  have h:=slo_Decode (encS mA) S (by rw [enc_size rightA];decide) h
  unfold mfE at h
  rw [s2] at h;exact h
 have cM:∀ S,ACall Tryz.prog 48 #[.int .i64 4] S (DkRes (r0,0) S):=fun S=>by have:=disk_Make 4 S;rw [s3] at this;exact this
 have cB:∀ v S,DkR S v r0→ACall Tryz.prog 81 #[v,.string ⟨#[109]⟩,.agg #[.int .u64 1,.int .u8 1,.int .u64 5,.int .u64 0,.int .u32 9,.string ⟨#[97]⟩,.string ⟨#[98]⟩]] S (DkRes (b1,0) S):=fun v S hd=>by
  have h:=slo_Begin v r0 nM mA S hd dz0 fA (by decide) (by decide) ⟨chkA,rfl,right_r0,rfl,new_ok⟩
  rw [show writeW (newD r0 nM 2).1 nM mA=(b1,0) from pair_of b1_eq w1_ok] at h;exact h
 have cL1:∀ v S,DkR S v b1→ErrT S→ACall Tryz.prog 36 #[v,.string ⟨#[109]⟩] S fun r S'=>r = .tuple #[.agg #[.int .u64 1,.int .u8 1,.int .u64 5,.int .u64 0,.int .u32 9,.string ⟨#[97]⟩,.string ⟨#[98]⟩],.int .i64 0]∧S'=S:=fun v S hd hg=>by
  have h:=slo_Load v b1 nM S hd dz1 hg
  unfold mfE at h
  rw [s5] at h;exact h
 have cC:∀ v S,DkR S v b1→ErrT S→ACall Tryz.prog 37 #[v,.string ⟨#[109]⟩,.agg #[.int .u64 2,.int .u8 1,.int .u64 5,.int .u64 0,.int .u32 9,.string ⟨#[97]⟩,.string ⟨#[98]⟩]] S (DkRes (b2,0) S):=fun v S hd hg=>by
  have h:=slo_Commit v b1 nM mB S hd dz1 hg fB (by decide) (by decide)
  rw [s6] at h;exact h
 have cL2:∀ v S,DkR S v b2→ErrT S→ACall Tryz.prog 36 #[v,.string ⟨#[109]⟩] S fun r S'=>r = .tuple #[.agg #[.int .u64 2,.int .u8 1,.int .u64 5,.int .u64 0,.int .u32 9,.string ⟨#[97]⟩,.string ⟨#[98]⟩],.int .i64 0]∧S'=S:=fun v S hd hg=>by
  have h:=slo_Load v b2 nM S hd dz2 hg
  unfold mfE at h
  rw [s7] at h;exact h
 have cC2:∀ v S,DkR S v b2→ErrT S→ACall Tryz.prog 37 #[v,.string ⟨#[109]⟩,.agg #[.int .u64 2,.int .u8 1,.int .u64 5,.int .u64 0,.int .u32 9,.string ⟨#[97]⟩,.string ⟨#[98]⟩]] S (DkRes (b2,12) S):=fun v S hd hg=>by
  have h:=slo_Commit v b2 nM mB S hd dz2 hg fB (by decide) (by decide)
  rw [s8] at h;exact h
 have k2:∀ S,ACall Tryz.prog 34 #[.agg #[.int .u64 2,.int .u8 1,.int .u64 5,.int .u64 0,.int .u32 9,.string ⟨#[97]⟩,.string ⟨#[98]⟩]] S fun r S'=>r = .int .i64 0∧S'=S:=fun S=>by
  have h:=slo_Check mB S (by decide) (by decide)
  rw [chkB] at h;exact h
 have k0:∀ S,ACall Tryz.prog 34 #[.agg #[.int .u64 0,.int .u8 0,.int .u64 0,.int .u64 0,.int .u32 0,.string ByteArray.empty,.string ByteArray.empty]] S fun r S'=>r = .int .i64 2∧S'=S:=fun S=>by
  have h:=slo_Check M0 S (by decide) (by decide)
  rw [show chkM M0=2 from by decide] at h;exact h
 have x64:=enc_size rightA
 have x2:=head_two
 clear dz0 dz1 dz2 fA fB
 generalize encS mA=x at *
 generalize b1=y1 at *
 generalize b2=y2 at *
 generalize r0=y0 at *
 refine ACall.enter (rs:=[.tmp 0]) 130 [] Tryz.func33 rfl rfl (Nat.le_of_ble_eq_true rfl) rfl trivial ?_
 iterate 8 refine s1_ ?_
 refine ARun.alloc (lit_lt rfl) ty_zero_55 ?_
 intro b1 f1
 have g1:=f1
 repeat ((with_reducible replace g1:=fresh_set g1);obtain ⟨g1,_⟩:=g1)
 refine nl_ ?_
 iterate 3 refine s1_ ?_
 refine su_ [(0,_),(1,_)] ?_
 iterate 3 refine s1_ ?_
 refine ca_ rfl (cE _) ?_
 rintro _ Sx ⟨rfl,h1⟩
 rw [h1];clear h1 Sx
 iterate 7 refine s1_ ?_
 refine su_ [(0,_),(1,_),(2,_),(3,_)] ?_
 iterate 3 refine s1_ ?_
 refine ca_ rfl (cD _ (hg.less less_)) ?_
 rintro _ Sx ⟨rfl,h1⟩
 rw [h1];clear h1 Sx
 iterate 3 refine s1_ ?_
 refine ARun.alloc (lit_lt rfl) ty_zero_55 ?_
 intro b4 f4
 have g4:=f4
 repeat ((with_reducible replace g4:=fresh_set g4);obtain ⟨g4,_⟩:=g4)
 refine nl_ ?_
 iterate 4 refine s1_ ?_
 refine su_ [(0,_),(1,_),(2,_),(3,_),(4,_),(5,_)] ?_
 iterate 2 refine s1_ ?_
 refine ca_ rfl ((cM S).over (show S.Less _ from less_)) ?_
 rintro _ T1 ⟨M1,⟨v1,rfl,hS1,hk1⟩,hMT,hkeep⟩
 obtain ⟨o1,n1⟩:=hkeep b1 _ g1.1 own_
 obtain ⟨o4,n4⟩:=hkeep b4 _ g4.1 own_
 have hk1:DkR M1 _ y0:=hk1
 obtain ⟨qe1,de1,qw1,dw1,rfl,_⟩:=id hk1
 iterate 3 refine s1_ ?_
 refine ARun.alloc (lit_lt rfl) ty_zero_25 ?_
 intro b6 f6
 have g6:=f6
 repeat ((with_reducible replace g6:=fresh_set g6);obtain ⟨g6,_⟩:=g6)
 refine nl_ ?_
 iterate 4 refine s1_ ?_
 refine su_ [(0,_),(1,_),(2,_),(3,_),(4,_),(5,_),(6,_),(7,_)] ?_
 have:=g6.ne o1;have:=g6.ne' o1;have:=g6.ne o4;have:=g6.ne' o4
 have n6:=less_none hMT g6.1
 have hM6:M1.Less (T1.set b6 ⟨25,[.int .i64 y0.size,.slice qe1 y0.ext.length de1,.slice qw1 y0.waits.length dw1,.int .i64 y0.fuse,.bool y0.down],5⟩):=less_set_skip hMT n6
 iterate 4 refine s1_ ?_
 refine ca_ rfl ((cB _ M1 hk1).over hM6) ?_
 rintro _ T2 ⟨M2,⟨v2,rfl,hl2,hk2⟩,hMT,hkeep⟩
 obtain ⟨o1,n1⟩:=hkeep b1 _ n1 own_
 obtain ⟨o4,n4⟩:=hkeep b4 _ n4 own_
 obtain ⟨o6,n6⟩:=hkeep b6 _ n6 own_
 have hk2:DkR M2 _ y1:=hk2
 obtain ⟨qe2,de2,qw2,dw2,rfl,_⟩:=id hk2
 have hS2:=hS1.trans hl2
 iterate 7 refine s1_ ?_
 refine su_ [(0,_),(1,_),(2,_),(3,_),(4,_),(5,_),(6,_),(7,_),(8,_)] ?_
 have hM6:M2.Less (T2.set b6 ⟨25,[.int .i64 y1.size,.slice qe2 y1.ext.length de2,.slice qw2 y1.waits.length dw2,.int .i64 y1.fuse,.bool y1.down],5⟩):=less_set_skip hMT n6
 iterate 3 refine s1_ ?_
 refine ca_ rfl (cL1 _ _ (hk2.less hM6) (hg.less (hS2.trans hM6))) ?_
 rintro _ Sx ⟨rfl,h1⟩
 rw [h1];clear h1 Sx
 iterate 3 refine s1_ ?_
 refine ARun.alloc (lit_lt rfl) ty_zero_55 ?_
 intro b9 f9
 have g9:=f9
 repeat ((with_reducible replace g9:=fresh_set g9);obtain ⟨g9,_⟩:=g9)
 refine nl_ ?_
 iterate 4 refine s1_ ?_
 refine su_ [(0,_),(1,_),(2,_),(3,_),(4,_),(5,_),(6,_),(7,_),(8,_),(9,_),(10,_)] ?_
 have:=g9.ne o1;have:=g9.ne' o1;have:=g9.ne o4;have:=g9.ne' o4;have:=g9.ne o6;have:=g9.ne' o6
 have n9:=less_none hMT g9.1
 iterate 6 refine s1_ ?_
 refine su_ [(0,_),(1,_),(2,_),(3,_),(4,_),(5,_),(6,_),(7,_),(8,_),(9,_),(10,_)] ?_
 have hM8:=less_set_skip (r:=⟨55,[.int .u64 2,.int .u8 1,.int .u64 5,.int .u64 0,.int .u32 9,.string ⟨#[97]⟩,.string ⟨#[98]⟩],7⟩) (less_set_skip (r:=⟨55,[.int .u64 1,.int .u8 1,.int .u64 5,.int .u64 0,.int .u32 9,.string ⟨#[97]⟩,.string ⟨#[98]⟩],7⟩) hM6 n9) n1
 iterate 4 refine s1_ ?_
 refine ca_ rfl ((cC _ M2 hk2 (hg.less hS2)).over hM8) ?_
 rintro _ T3 ⟨M3,⟨v3,rfl,hl3,hk3⟩,hMT,hkeep⟩
 obtain ⟨o1,n1⟩:=hkeep b1 _ n1 own_
 obtain ⟨o4,n4⟩:=hkeep b4 _ n4 own_
 obtain ⟨o6,n6⟩:=hkeep b6 _ n6 own_
 obtain ⟨o9,n9⟩:=hkeep b9 _ n9 own_
 have hk3:DkR M3 _ y2:=hk3
 obtain ⟨qe3,de3,qw3,dw3,rfl,_⟩:=id hk3
 have hS3:=hS2.trans hl3
 iterate 7 refine s1_ ?_
 refine su_ [(0,_),(1,_),(2,_),(3,_),(4,_),(5,_),(6,_),(7,_),(8,_),(9,_),(10,_),(11,_)] ?_
 have hM6:M3.Less (T3.set b6 ⟨25,[.int .i64 y2.size,.slice qe3 y2.ext.length de3,.slice qw3 y2.waits.length dw3,.int .i64 y2.fuse,.bool y2.down],5⟩):=less_set_skip hMT n6
 iterate 3 refine s1_ ?_
 refine ca_ rfl (cL2 _ _ (hk3.less hM6) (hg.less (hS3.trans hM6))) ?_
 rintro _ Sx ⟨rfl,h1⟩
 rw [h1];clear h1 Sx
 iterate 3 refine s1_ ?_
 refine ARun.alloc (lit_lt rfl) ty_zero_55 ?_
 intro b12 f12
 have g12:=f12
 repeat ((with_reducible replace g12:=fresh_set g12);obtain ⟨g12,_⟩:=g12)
 refine nl_ ?_
 iterate 4 refine s1_ ?_
 refine su_ [(0,_),(1,_),(2,_),(3,_),(4,_),(5,_),(6,_),(7,_),(8,_),(9,_),(10,_),(11,_),(12,_),(13,_)] ?_
 have:=g12.ne o1;have:=g12.ne' o1;have:=g12.ne o4;have:=g12.ne' o4;have:=g12.ne o6;have:=g12.ne' o6;have:=g12.ne o9;have:=g12.ne' o9
 have n12:=less_none hMT g12.1
 have hM12:=less_set_skip (r:=⟨55,[.int .u64 2,.int .u8 1,.int .u64 5,.int .u64 0,.int .u32 9,.string ⟨#[97]⟩,.string ⟨#[98]⟩],7⟩) hM6 n12
 iterate 4 refine s1_ ?_
 refine ca_ rfl ((cC2 _ M3 hk3 (hg.less hS3)).over hM12) ?_
 rintro _ T4 ⟨M4,⟨v4,rfl,hl4,hk4⟩,hMT,hkeep⟩
 obtain ⟨o1,n1⟩:=hkeep b1 _ n1 own_
 obtain ⟨o4,n4⟩:=hkeep b4 _ n4 own_
 obtain ⟨o6,n6⟩:=hkeep b6 _ n6 own_
 obtain ⟨o9,n9⟩:=hkeep b9 _ n9 own_
 obtain ⟨o12,n12⟩:=hkeep b12 _ n12 own_
 have hk4:DkR M4 _ y2:=hk4
 obtain ⟨qe4,de4,qw4,dw4,rfl,_⟩:=id hk4
 have hS4:=hS3.trans (hl4.trans hMT)
 iterate 3 refine s1_ ?_
 refine ARun.alloc (lit_lt rfl) ty_zero_25 ?_
 intro b14 f14
 have g14:=f14
 repeat ((with_reducible replace g14:=fresh_set g14);obtain ⟨g14,_⟩:=g14)
 refine nl_ ?_
 iterate 4 refine s1_ ?_
 refine su_ [(0,_),(1,_),(2,_),(3,_),(4,_),(5,_),(6,_),(7,_),(8,_),(9,_),(10,_),(11,_),(12,_),(13,_),(15,_)] ?_
 have:=g14.ne o1;have:=g14.ne' o1;have:=g14.ne o4;have:=g14.ne' o4;have:=g14.ne o6;have:=g14.ne' o6;have:=g14.ne o9;have:=g14.ne' o9;have:=g14.ne o12;have:=g14.ne' o12
 iterate 4 refine s1_ ?_
 refine rC (Calm.bin rfl rfl (bin_bool (bin_eql _ _) (decide_eq_true (by rw [x64];rfl)))) ?_
 iterate 3 refine s1_ ?_
 first|refine k_q 63 ?_|refine rG 63 (Calm.bin rfl rfl (bin_bool (bin_str_eql _ _) (decide_eq_true x2))) ?_
 iterate 30 refine s1_ ?_
 first|refine k_q 94 ?_|refine rG 94 (Calm.bin rfl rfl (bin_bool (bin_eql_mf mA mA) (decide_eq_true rfl))) ?_
 iterate 12 refine s1_ ?_
 first|refine k_q 107 ?_|refine rG 107 (Calm.bin rfl rfl (bin_bool (bin_eql_mf mB mB) (decide_eq_true rfl))) ?_
 iterate 11 refine s1_ ?_
 refine ARun.callG 60 true 120 rfl (lit_lt rfl) rfl (lit_lt rfl) go_34 rfl (k2 _) ?_
 rintro _ Sx ⟨rfl,h1⟩
 rw [h1];clear h1 Sx
 iterate 4 refine s1_ ?_
 refine ARun.callG 65 true 125 rfl (lit_lt rfl) rfl (lit_lt rfl) go_34 rfl (k0 _) ?_
 rintro _ Sx ⟨rfl,h1⟩
 rw [h1];clear h1 Sx
 iterate 5 refine s1_ ?_
 refine su_ [(0,_),(1,_),(2,_),(3,_),(4,_),(5,_),(6,_),(7,_),(8,_),(9,_),(10,_),(11,_),(12,_),(13,_),(15,_)] ?_
 refine s1_ ?_
 refine ⟨_,S,⟨_,_,rfl,rfl,rfl⟩,hS4.trans less_,?_⟩
 exact ⟨rfl,rfl⟩
end Slo
end Go.Proofs.YtceikpipmcadmaaGreatDoor
namespace Go.Proofs.YtceikpipmcadmaaGreatDoor
open Go.RowKit
open Mv Disk Num
set_option maxRecDepth 4000
namespace Slo
set_option maxHeartbeats 4000000 in
theorem rso_Encode (m : Mf) (S : Mem) (hm : Fit m) (hf : m.frm.size ≤ 9223372036854775807) (ht : m.too.size ≤ 9223372036854775807) :
  ACall Tryz.prog 30 #[mfV m] S fun r S'=>r=encV (encM m)∧S'=S:=by
 have hc:=fun S=>rso_Check m S hf ht
 unfold encM encV
 by_cases h0:chkM m=0
 ·have hR:=(chk_iff m).1 h0
  have zf:=((nmd_iff _).1 hR.f).2.1
  have zt:=((nmd_iff _).1 hR.t).2.1
  have hpre:=pre_length zf zt
  rw [if_neg (by rw [h0];simp)]
  rw [h0] at hc
  have c1:=fun S=>rnumV_Five m.seq S hm.seq
  have c2:=fun S=>rnumV_Five m.count S hm.count
  have c3:=fun S=>rnumV_Five m.prim S hm.prim
  have c4:=fun S=>rso_little m.sum S hm.sum
  have c5:∀ S,ACall Tryz.prog 76 #[.int .i64 (16-(m.frm.size:Int))] S fun r S'=>r = .string (bs (List.replicate (16-m.frm.size) 0))∧S'=S:=fun S=>by
   rw [show (16-(m.frm.size:Int))=((16-m.frm.size:Nat):Int) from by omega];exact rso_zeros _ S (by omega)
  have c6:∀ S,ACall Tryz.prog 76 #[.int .i64 (16-(m.too.size:Int))] S fun r S'=>r = .string (bs (List.replicate (16-m.too.size) 0))∧S'=S:=fun S=>by
   rw [show (16-(m.too.size:Int))=((16-m.too.size:Nat):Int) from by omega];exact rso_zeros _ S (by omega)
  have hph : [Value.int .u8 (m.phase:Int)]=cellsB [UInt8.ofNat m.phase]:=by
   unfold cellsB nb
   have:=hm.phase
   have e:(UInt8.ofNat m.phase).toNat=m.phase:=by rw [UInt8.toNat_ofNat'];omega
   simp only [List.map_cons,List.map_nil,e]
  have eA:(⟨#[77,70]⟩ : ByteArray) ++ bs (five m.seq) ++ bs [UInt8.ofNat m.phase] ++ bs (five m.count) ++ bs (five m.prim) ++ bs (le4 m.sum) ++ (m.frm ++ bs (List.replicate (16-m.frm.size) 0) ++ m.too ++ bs (List.replicate (16-m.too.size) 0))=bs (preL m):=by
   apply str_ext
   unfold preL padL
   simp only [data_append,bs_data,List.append_assoc]
  have y0:(⟨#[77,70]⟩ : ByteArray).size=2:=rfl
  have y1:(bs (five m.seq)).size=5:=by rw [size_bs];rfl
  have y2:(bs [UInt8.ofNat m.phase]).size=1:=by rw [size_bs];rfl
  have y3:(bs (five m.count)).size=5:=by rw [size_bs];rfl
  have y4:(bs (five m.prim)).size=5:=by rw [size_bs];rfl
  have y5:(bs (le4 m.sum)).size=4:=by rw [size_bs];rfl
  have y6:(bs (List.replicate (16-m.frm.size) (0:UInt8))).size=16-m.frm.size:=by rw [size_bs,List.length_replicate]
  have y7:(bs (List.replicate (16-m.too.size) (0:UInt8))).size=16-m.too.size:=by rw [size_bs,List.length_replicate]
  generalize bs (List.replicate (16-m.frm.size) (0:UInt8))=Z6 at *
  generalize bs (List.replicate (16-m.too.size) (0:UInt8))=Z7 at *
  have hs54:(bs (preL m)).size≤maxLen:=by rw [size_bs,hpre];decide
  have hsz:(bs (preL m)).size=54:=by rw [size_bs,hpre]
  have htz:=Crc.tailS_size (sumOf (bs (preL m)))
  have cT:∀ S,ACall Tryz.prog 75 #[.int .u32 (Crc.un (sumOf (bs (preL m))))] S fun r S'=>r = .string (Crc.tailS (sumOf (bs (preL m))))∧S'=S:=fun S=>by
   have hu:=Crc.un_nonneg (sumOf (bs (preL m)))
   have hu2:=Crc.un_le (sumOf (bs (preL m)))
   obtain ⟨k,hk⟩:=Int.eq_ofNat_of_zero_le hu
   have h:=rso_little k S (by omega)
   rw [← tail_le4 k (by omega),← hk,Crc.v32_un] at h
   exact h
  have w58:(bs (preL m) ++ Crc.tailS (sumOf (bs (preL m)))).size=58:=by rw [ByteArray.size_append,hsz,htz]
  have cZ:∀ S,ACall Tryz.prog 76 #[.int .i64 (64-((bs (preL m) ++ Crc.tailS (sumOf (bs (preL m)))).size:Int))] S fun r S'=>r = .string (bs (List.replicate 6 0))∧S'=S:=fun S=>by
   rw [w58];exact rso_zeros 6 S (by decide)
  have eF:bs (preL m) ++ Crc.tailS (sumOf (bs (preL m))) ++ bs (List.replicate 6 0)=encS m:=by
   unfold encS Crc.frameB
   apply str_ext
   rw [data_append,bs_data,bs_data]
  have y8:(bs (List.replicate 6 (0:UInt8))).size=6:=by rw [size_bs];rfl
  have w1:((⟨#[77,70]⟩ : ByteArray) ++ bs (five m.seq)).size=7:=by rw [ByteArray.size_append,y0,y1]
  have w2:((⟨#[77,70]⟩ : ByteArray) ++ bs (five m.seq) ++ bs [UInt8.ofNat m.phase]).size=8:=by rw [ByteArray.size_append,w1,y2]
  have w3:((⟨#[77,70]⟩ : ByteArray) ++ bs (five m.seq) ++ bs [UInt8.ofNat m.phase] ++ bs (five m.count)).size=13:=by rw [ByteArray.size_append,w2,y3]
  have w4:((⟨#[77,70]⟩ : ByteArray) ++ bs (five m.seq) ++ bs [UInt8.ofNat m.phase] ++ bs (five m.count) ++ bs (five m.prim)).size=18:=by rw [ByteArray.size_append,w3,y4]
  have w5:((⟨#[77,70]⟩ : ByteArray) ++ bs (five m.seq) ++ bs [UInt8.ofNat m.phase] ++ bs (five m.count) ++ bs (five m.prim) ++ bs (le4 m.sum)).size=22:=by rw [ByteArray.size_append,w4,y5]
  have w6:(m.frm ++ Z6).size=16:=by rw [ByteArray.size_append,y6];omega
  have w7:(m.frm ++ Z6 ++ m.too).size=16+m.too.size:=by rw [ByteArray.size_append,w6]
  have w8:(m.frm ++ Z6 ++ m.too ++ Z7).size=32:=by rw [ByteArray.size_append,w7,y7];omega
  unfold mfV
  refine ACall.enter (rs:=[.tmp 2,.tmp 3]) 60 [(0,.agg #[.int .u64 (m.seq:Int),.int .u8 (m.phase:Int),.int .u64 (m.count:Int),.int .u64 (m.prim:Int),.int .u32 (m.sum:Int),.string m.frm,.string m.too])] Tryz.func30 rfl rfl (Nat.le_of_ble_eq_true rfl) rfl ⟨rfl,trivial⟩ ?_
  iterate 2 refine s1_ ?_
  refine k_b7 rfl ?_
  intro b1 f1
  have g1:=f1
  repeat ((with_reducible replace g1:=fresh_set g1);obtain ⟨g1,_⟩:=g1)
  refine nl_ ?_
  iterate 4 refine s1_ ?_
  refine named (S:=S) (b:=b1) g1.1 ?_
  intro T1 hT1 kb1
  iterate 4 refine s1_ ?_
  refine ca_ rfl (hc _) ?_
  rintro _ Sx ⟨rfl,h1⟩
  rw [h1];clear h1 Sx
  iterate 3 refine s1_ ?_
  refine su_ [(0,_),(1,_),(2,_),(3,_),(7,_)] ?_
  refine cF_ ?_
  iterate 3 refine s1_ ?_
  refine AWP.join (X:=Unit) (fun x=>[(1,.pointer (some ⟨b1,0,none⟩)),(4,.string ((⟨#[77,70]⟩ : ByteArray) ++ bs (five m.seq) ++ bs [UInt8.ofNat m.phase] ++ bs (five m.count) ++ bs (five m.prim) ++ bs (le4 m.sum)))]) (fun x=>T1) (fun x=>S.Less T1) ?_ ?_
  ·refine AWP.drawG [] mixed ?_
   refine DG.pure 0 (by kernel_rfl) (by kernel_rfl) rfl rfl rfl rfl (lit_lt rfl) (fun _=>Calm.fieldAddr ty_field_55_0 rfl) ?_
   refine DG.look 1 (by kernel_rfl) (by kernel_rfl) rfl rfl rfl rfl (lit_lt rfl) less_ (ld_ ty_plain_27 rfl) ?_
   refine DG.pure 4 (by kernel_rfl) (by kernel_rfl) rfl rfl rfl rfl (lit_lt rfl) (fun _=>Calm.fieldAddr ty_field_55_1 rfl) ?_
   refine DG.look 5 (by kernel_rfl) (by kernel_rfl) rfl rfl rfl rfl (lit_lt rfl) less_ (ld_ ty_plain_52 rfl) ?_
   refine DG.pure 9 (by kernel_rfl) (by kernel_rfl) rfl rfl rfl rfl (lit_lt rfl) (fun _=>Calm.fieldAddr ty_field_55_2 rfl) ?_
   refine DG.look 10 (by kernel_rfl) (by kernel_rfl) rfl rfl rfl rfl (lit_lt rfl) less_ (ld_ ty_plain_27 rfl) ?_
   refine DG.pure 13 (by kernel_rfl) (by kernel_rfl) rfl rfl rfl rfl (lit_lt rfl) (fun _=>Calm.fieldAddr ty_field_55_3 rfl) ?_
   refine DG.look 14 (by kernel_rfl) (by kernel_rfl) rfl rfl rfl rfl (lit_lt rfl) less_ (ld_ ty_plain_27 rfl) ?_
   refine DG.pure 17 (by kernel_rfl) (by kernel_rfl) rfl rfl rfl rfl (lit_lt rfl) (fun _=>Calm.fieldAddr ty_field_55_4 rfl) ?_
   refine DG.look 18 (by kernel_rfl) (by kernel_rfl) rfl rfl rfl rfl (lit_lt rfl) less_ (ld_ ty_plain_53 rfl) ?_
   refine DG.two 2 6 (by kernel_rfl) rfl ?_ rfl ?_
   ·refine ca_ rfl (c1 _) ?_
    rintro _ Sx ⟨rfl,h1⟩
    rw [h1];clear h1 Sx
    refine arun_nil ⟨fun _=>less_,?_⟩
    refine DG.pure 3 (by kernel_rfl) (by kernel_rfl) rfl rfl rfl rfl (lit_lt rfl) (fun _=>Calm.bin rfl rfl (bin_str_add (by omega))) ?_
    refine DG.two 6 11 (by kernel_rfl) rfl ?_ rfl ?_
    ·refine ARun.build1s (lit_lt rfl) ty_sl_61 rfl rfl ?_
     intro b14 f14
     have g14:=f14
     repeat ((with_reducible replace g14:=fresh_set g14);obtain ⟨g14,_⟩:=g14)
     have:=g14.ne kb1;have:=g14.ne' kb1
     refine arun_nil ⟨fun _=>less_,?_⟩
     refine DG.two 7 11 (by kernel_rfl) rfl ?_ rfl ?_
     ·refine rC (Calm.toStr ty_bytes_61 ty_str_9 rfl (l:=[UInt8.ofNat m.phase]) rfl (rds_ownE own_ hph)) ?_
      refine arun_nil ⟨fun _=>less_,?_⟩
      refine DG.pure 8 (by kernel_rfl) (by kernel_rfl) rfl rfl rfl rfl (lit_lt rfl) (fun _=>Calm.bin rfl rfl (bin_str_add (by omega))) ?_
      refine DG.only 11 (by kernel_rfl) rfl ?_
      refine ca_ rfl (c2 _) ?_
      rintro _ Sx ⟨rfl,h1⟩
      rw [h1];clear h1 Sx
      refine arun_nil ⟨fun _=>less_,?_⟩
      refine DG.pure 12 (by kernel_rfl) (by kernel_rfl) rfl rfl rfl rfl (lit_lt rfl) (fun _=>Calm.bin rfl rfl (bin_str_add (by omega))) ?_
      refine DG.only 15 (by kernel_rfl) rfl ?_
      refine ca_ rfl (c3 _) ?_
      rintro _ Sx ⟨rfl,h1⟩
      rw [h1];clear h1 Sx
      refine arun_nil ⟨fun _=>less_,?_⟩
      refine DG.pure 16 (by kernel_rfl) (by kernel_rfl) rfl rfl rfl rfl (lit_lt rfl) (fun _=>Calm.bin rfl rfl (bin_str_add (by omega))) ?_
      refine DG.only 19 (by kernel_rfl) rfl ?_
      refine ca_ rfl (c4 _) ?_
      rintro _ Sx ⟨rfl,h1⟩
      rw [h1];clear h1 Sx
      refine arun_nil ⟨fun _=>less_,?_⟩
      refine DG.pure 20 (by kernel_rfl) (by kernel_rfl) rfl rfl rfl rfl (lit_lt rfl) (fun _=>Calm.bin rfl rfl (bin_str_add (by omega))) ?_
      refine DG.pure 21 (by kernel_rfl) (by kernel_rfl) rfl rfl rfl rfl (lit_lt rfl) (fun _=>Calm.assign rfl) ?_
      refine DG.end_ (by kernel_rfl) ?_
      refine ⟨(),?_,?_,?_⟩
      all_goals (try dsimp only)
      ·exact hT1
      ·exact ⟨rfl,rfl,trivial⟩
      ·exact less_
     ·refine ca_ rfl (c2 _) ?_
      rintro _ Sx ⟨rfl,h1⟩
      rw [h1];clear h1 Sx
      refine arun_nil ⟨fun _=>less_,?_⟩
      refine DG.two 7 15 (by kernel_rfl) rfl ?_ rfl ?_
      ·refine rC (Calm.toStr ty_bytes_61 ty_str_9 rfl (l:=[UInt8.ofNat m.phase]) rfl (rds_ownE own_ hph)) ?_
       refine arun_nil ⟨fun _=>less_,?_⟩
       refine DG.pure 8 (by kernel_rfl) (by kernel_rfl) rfl rfl rfl rfl (lit_lt rfl) (fun _=>Calm.bin rfl rfl (bin_str_add (by omega))) ?_
       refine DG.pure 12 (by kernel_rfl) (by kernel_rfl) rfl rfl rfl rfl (lit_lt rfl) (fun _=>Calm.bin rfl rfl (bin_str_add (by omega))) ?_
       refine DG.only 15 (by kernel_rfl) rfl ?_
       refine ca_ rfl (c3 _) ?_
       rintro _ Sx ⟨rfl,h1⟩
       rw [h1];clear h1 Sx
       refine arun_nil ⟨fun _=>less_,?_⟩
       refine DG.pure 16 (by kernel_rfl) (by kernel_rfl) rfl rfl rfl rfl (lit_lt rfl) (fun _=>Calm.bin rfl rfl (bin_str_add (by omega))) ?_
       refine DG.only 19 (by kernel_rfl) rfl ?_
       refine ca_ rfl (c4 _) ?_
       rintro _ Sx ⟨rfl,h1⟩
       rw [h1];clear h1 Sx
       refine arun_nil ⟨fun _=>less_,?_⟩
       refine DG.pure 20 (by kernel_rfl) (by kernel_rfl) rfl rfl rfl rfl (lit_lt rfl) (fun _=>Calm.bin rfl rfl (bin_str_add (by omega))) ?_
       refine DG.pure 21 (by kernel_rfl) (by kernel_rfl) rfl rfl rfl rfl (lit_lt rfl) (fun _=>Calm.assign rfl) ?_
       refine DG.end_ (by kernel_rfl) ?_
       refine ⟨(),?_,?_,?_⟩
       all_goals (try dsimp only)
       ·exact hT1
       ·exact ⟨rfl,rfl,trivial⟩
       ·exact less_
      ·refine ca_ rfl (c3 _) ?_
       rintro _ Sx ⟨rfl,h1⟩
       rw [h1];clear h1 Sx
       refine arun_nil ⟨fun _=>less_,?_⟩
       refine DG.two 7 19 (by kernel_rfl) rfl ?_ rfl ?_
       ·refine rC (Calm.toStr ty_bytes_61 ty_str_9 rfl (l:=[UInt8.ofNat m.phase]) rfl (rds_ownE own_ hph)) ?_
        refine arun_nil ⟨fun _=>less_,?_⟩
        refine DG.pure 8 (by kernel_rfl) (by kernel_rfl) rfl rfl rfl rfl (lit_lt rfl) (fun _=>Calm.bin rfl rfl (bin_str_add (by omega))) ?_
        refine DG.pure 12 (by kernel_rfl) (by kernel_rfl) rfl rfl rfl rfl (lit_lt rfl) (fun _=>Calm.bin rfl rfl (bin_str_add (by omega))) ?_
        refine DG.pure 16 (by kernel_rfl) (by kernel_rfl) rfl rfl rfl rfl (lit_lt rfl) (fun _=>Calm.bin rfl rfl (bin_str_add (by omega))) ?_
        refine DG.only 19 (by kernel_rfl) rfl ?_
        refine ca_ rfl (c4 _) ?_
        rintro _ Sx ⟨rfl,h1⟩
        rw [h1];clear h1 Sx
        refine arun_nil ⟨fun _=>less_,?_⟩
        refine DG.pure 20 (by kernel_rfl) (by kernel_rfl) rfl rfl rfl rfl (lit_lt rfl) (fun _=>Calm.bin rfl rfl (bin_str_add (by omega))) ?_
        refine DG.pure 21 (by kernel_rfl) (by kernel_rfl) rfl rfl rfl rfl (lit_lt rfl) (fun _=>Calm.assign rfl) ?_
        refine DG.end_ (by kernel_rfl) ?_
        refine ⟨(),?_,?_,?_⟩
        all_goals (try dsimp only)
        ·exact hT1
        ·exact ⟨rfl,rfl,trivial⟩
        ·exact less_
       ·refine ca_ rfl (c4 _) ?_
        rintro _ Sx ⟨rfl,h1⟩
        rw [h1];clear h1 Sx
        refine arun_nil ⟨fun _=>less_,?_⟩
        refine DG.only 7 (by kernel_rfl) rfl ?_
        refine rC (Calm.toStr ty_bytes_61 ty_str_9 rfl (l:=[UInt8.ofNat m.phase]) rfl (rds_ownE own_ hph)) ?_
        refine arun_nil ⟨fun _=>less_,?_⟩
        refine DG.pure 8 (by kernel_rfl) (by kernel_rfl) rfl rfl rfl rfl (lit_lt rfl) (fun _=>Calm.bin rfl rfl (bin_str_add (by omega))) ?_
        refine DG.pure 12 (by kernel_rfl) (by kernel_rfl) rfl rfl rfl rfl (lit_lt rfl) (fun _=>Calm.bin rfl rfl (bin_str_add (by omega))) ?_
        refine DG.pure 16 (by kernel_rfl) (by kernel_rfl) rfl rfl rfl rfl (lit_lt rfl) (fun _=>Calm.bin rfl rfl (bin_str_add (by omega))) ?_
        refine DG.pure 20 (by kernel_rfl) (by kernel_rfl) rfl rfl rfl rfl (lit_lt rfl) (fun _=>Calm.bin rfl rfl (bin_str_add (by omega))) ?_
        refine DG.pure 21 (by kernel_rfl) (by kernel_rfl) rfl rfl rfl rfl (lit_lt rfl) (fun _=>Calm.assign rfl) ?_
        refine DG.end_ (by kernel_rfl) ?_
        refine ⟨(),?_,?_,?_⟩
        all_goals (try dsimp only)
        ·exact hT1
        ·exact ⟨rfl,rfl,trivial⟩
        ·exact less_
    ·refine ca_ rfl (c2 _) ?_
     rintro _ Sx ⟨rfl,h1⟩
     rw [h1];clear h1 Sx
     refine arun_nil ⟨fun _=>less_,?_⟩
     refine DG.two 6 15 (by kernel_rfl) rfl ?_ rfl ?_
     ·refine ARun.build1s (lit_lt rfl) ty_sl_61 rfl rfl ?_
      intro b14 f14
      have g14:=f14
      repeat ((with_reducible replace g14:=fresh_set g14);obtain ⟨g14,_⟩:=g14)
      have:=g14.ne kb1;have:=g14.ne' kb1
      refine arun_nil ⟨fun _=>less_,?_⟩
      refine DG.two 7 15 (by kernel_rfl) rfl ?_ rfl ?_
      ·refine rC (Calm.toStr ty_bytes_61 ty_str_9 rfl (l:=[UInt8.ofNat m.phase]) rfl (rds_ownE own_ hph)) ?_
       refine arun_nil ⟨fun _=>less_,?_⟩
       refine DG.pure 8 (by kernel_rfl) (by kernel_rfl) rfl rfl rfl rfl (lit_lt rfl) (fun _=>Calm.bin rfl rfl (bin_str_add (by omega))) ?_
       refine DG.pure 12 (by kernel_rfl) (by kernel_rfl) rfl rfl rfl rfl (lit_lt rfl) (fun _=>Calm.bin rfl rfl (bin_str_add (by omega))) ?_
       refine DG.only 15 (by kernel_rfl) rfl ?_
       refine ca_ rfl (c3 _) ?_
       rintro _ Sx ⟨rfl,h1⟩
       rw [h1];clear h1 Sx
       refine arun_nil ⟨fun _=>less_,?_⟩
       refine DG.pure 16 (by kernel_rfl) (by kernel_rfl) rfl rfl rfl rfl (lit_lt rfl) (fun _=>Calm.bin rfl rfl (bin_str_add (by omega))) ?_
       refine DG.only 19 (by kernel_rfl) rfl ?_
       refine ca_ rfl (c4 _) ?_
       rintro _ Sx ⟨rfl,h1⟩
       rw [h1];clear h1 Sx
       refine arun_nil ⟨fun _=>less_,?_⟩
       refine DG.pure 20 (by kernel_rfl) (by kernel_rfl) rfl rfl rfl rfl (lit_lt rfl) (fun _=>Calm.bin rfl rfl (bin_str_add (by omega))) ?_
       refine DG.pure 21 (by kernel_rfl) (by kernel_rfl) rfl rfl rfl rfl (lit_lt rfl) (fun _=>Calm.assign rfl) ?_
       refine DG.end_ (by kernel_rfl) ?_
       refine ⟨(),?_,?_,?_⟩
       all_goals (try dsimp only)
       ·exact hT1
       ·exact ⟨rfl,rfl,trivial⟩
       ·exact less_
      ·refine ca_ rfl (c3 _) ?_
       rintro _ Sx ⟨rfl,h1⟩
       rw [h1];clear h1 Sx
       refine arun_nil ⟨fun _=>less_,?_⟩
       refine DG.two 7 19 (by kernel_rfl) rfl ?_ rfl ?_
       ·refine rC (Calm.toStr ty_bytes_61 ty_str_9 rfl (l:=[UInt8.ofNat m.phase]) rfl (rds_ownE own_ hph)) ?_
        refine arun_nil ⟨fun _=>less_,?_⟩
        refine DG.pure 8 (by kernel_rfl) (by kernel_rfl) rfl rfl rfl rfl (lit_lt rfl) (fun _=>Calm.bin rfl rfl (bin_str_add (by omega))) ?_
        refine DG.pure 12 (by kernel_rfl) (by kernel_rfl) rfl rfl rfl rfl (lit_lt rfl) (fun _=>Calm.bin rfl rfl (bin_str_add (by omega))) ?_
        refine DG.pure 16 (by kernel_rfl) (by kernel_rfl) rfl rfl rfl rfl (lit_lt rfl) (fun _=>Calm.bin rfl rfl (bin_str_add (by omega))) ?_
        refine DG.only 19 (by kernel_rfl) rfl ?_
        refine ca_ rfl (c4 _) ?_
        rintro _ Sx ⟨rfl,h1⟩
        rw [h1];clear h1 Sx
        refine arun_nil ⟨fun _=>less_,?_⟩
        refine DG.pure 20 (by kernel_rfl) (by kernel_rfl) rfl rfl rfl rfl (lit_lt rfl) (fun _=>Calm.bin rfl rfl (bin_str_add (by omega))) ?_
        refine DG.pure 21 (by kernel_rfl) (by kernel_rfl) rfl rfl rfl rfl (lit_lt rfl) (fun _=>Calm.assign rfl) ?_
        refine DG.end_ (by kernel_rfl) ?_
        refine ⟨(),?_,?_,?_⟩
        all_goals (try dsimp only)
        ·exact hT1
        ·exact ⟨rfl,rfl,trivial⟩
        ·exact less_
       ·refine ca_ rfl (c4 _) ?_
        rintro _ Sx ⟨rfl,h1⟩
        rw [h1];clear h1 Sx
        refine arun_nil ⟨fun _=>less_,?_⟩
        refine DG.only 7 (by kernel_rfl) rfl ?_
        refine rC (Calm.toStr ty_bytes_61 ty_str_9 rfl (l:=[UInt8.ofNat m.phase]) rfl (rds_ownE own_ hph)) ?_
        refine arun_nil ⟨fun _=>less_,?_⟩
        refine DG.pure 8 (by kernel_rfl) (by kernel_rfl) rfl rfl rfl rfl (lit_lt rfl) (fun _=>Calm.bin rfl rfl (bin_str_add (by omega))) ?_
        refine DG.pure 12 (by kernel_rfl) (by kernel_rfl) rfl rfl rfl rfl (lit_lt rfl) (fun _=>Calm.bin rfl rfl (bin_str_add (by omega))) ?_
        refine DG.pure 16 (by kernel_rfl) (by kernel_rfl) rfl rfl rfl rfl (lit_lt rfl) (fun _=>Calm.bin rfl rfl (bin_str_add (by omega))) ?_
        refine DG.pure 20 (by kernel_rfl) (by kernel_rfl) rfl rfl rfl rfl (lit_lt rfl) (fun _=>Calm.bin rfl rfl (bin_str_add (by omega))) ?_
        refine DG.pure 21 (by kernel_rfl) (by kernel_rfl) rfl rfl rfl rfl (lit_lt rfl) (fun _=>Calm.assign rfl) ?_
        refine DG.end_ (by kernel_rfl) ?_
        refine ⟨(),?_,?_,?_⟩
        all_goals (try dsimp only)
        ·exact hT1
        ·exact ⟨rfl,rfl,trivial⟩
        ·exact less_
     ·refine ca_ rfl (c3 _) ?_
      rintro _ Sx ⟨rfl,h1⟩
      rw [h1];clear h1 Sx
      refine arun_nil ⟨fun _=>less_,?_⟩
      refine DG.two 6 19 (by kernel_rfl) rfl ?_ rfl ?_
      ·refine ARun.build1s (lit_lt rfl) ty_sl_61 rfl rfl ?_
       intro b14 f14
       have g14:=f14
       repeat ((with_reducible replace g14:=fresh_set g14);obtain ⟨g14,_⟩:=g14)
       have:=g14.ne kb1;have:=g14.ne' kb1
       refine arun_nil ⟨fun _=>less_,?_⟩
       refine DG.two 7 19 (by kernel_rfl) rfl ?_ rfl ?_
       ·refine rC (Calm.toStr ty_bytes_61 ty_str_9 rfl (l:=[UInt8.ofNat m.phase]) rfl (rds_ownE own_ hph)) ?_
        refine arun_nil ⟨fun _=>less_,?_⟩
        refine DG.pure 8 (by kernel_rfl) (by kernel_rfl) rfl rfl rfl rfl (lit_lt rfl) (fun _=>Calm.bin rfl rfl (bin_str_add (by omega))) ?_
        refine DG.pure 12 (by kernel_rfl) (by kernel_rfl) rfl rfl rfl rfl (lit_lt rfl) (fun _=>Calm.bin rfl rfl (bin_str_add (by omega))) ?_
        refine DG.pure 16 (by kernel_rfl) (by kernel_rfl) rfl rfl rfl rfl (lit_lt rfl) (fun _=>Calm.bin rfl rfl (bin_str_add (by omega))) ?_
        refine DG.only 19 (by kernel_rfl) rfl ?_
        refine ca_ rfl (c4 _) ?_
        rintro _ Sx ⟨rfl,h1⟩
        rw [h1];clear h1 Sx
        refine arun_nil ⟨fun _=>less_,?_⟩
        refine DG.pure 20 (by kernel_rfl) (by kernel_rfl) rfl rfl rfl rfl (lit_lt rfl) (fun _=>Calm.bin rfl rfl (bin_str_add (by omega))) ?_
        refine DG.pure 21 (by kernel_rfl) (by kernel_rfl) rfl rfl rfl rfl (lit_lt rfl) (fun _=>Calm.assign rfl) ?_
        refine DG.end_ (by kernel_rfl) ?_
        refine ⟨(),?_,?_,?_⟩
        all_goals (try dsimp only)
        ·exact hT1
        ·exact ⟨rfl,rfl,trivial⟩
        ·exact less_
       ·refine ca_ rfl (c4 _) ?_
        rintro _ Sx ⟨rfl,h1⟩
        rw [h1];clear h1 Sx
        refine arun_nil ⟨fun _=>less_,?_⟩
        refine DG.only 7 (by kernel_rfl) rfl ?_
        refine rC (Calm.toStr ty_bytes_61 ty_str_9 rfl (l:=[UInt8.ofNat m.phase]) rfl (rds_ownE own_ hph)) ?_
        refine arun_nil ⟨fun _=>less_,?_⟩
        refine DG.pure 8 (by kernel_rfl) (by kernel_rfl) rfl rfl rfl rfl (lit_lt rfl) (fun _=>Calm.bin rfl rfl (bin_str_add (by omega))) ?_
        refine DG.pure 12 (by kernel_rfl) (by kernel_rfl) rfl rfl rfl rfl (lit_lt rfl) (fun _=>Calm.bin rfl rfl (bin_str_add (by omega))) ?_
        refine DG.pure 16 (by kernel_rfl) (by kernel_rfl) rfl rfl rfl rfl (lit_lt rfl) (fun _=>Calm.bin rfl rfl (bin_str_add (by omega))) ?_
        refine DG.pure 20 (by kernel_rfl) (by kernel_rfl) rfl rfl rfl rfl (lit_lt rfl) (fun _=>Calm.bin rfl rfl (bin_str_add (by omega))) ?_
        refine DG.pure 21 (by kernel_rfl) (by kernel_rfl) rfl rfl rfl rfl (lit_lt rfl) (fun _=>Calm.assign rfl) ?_
        refine DG.end_ (by kernel_rfl) ?_
        refine ⟨(),?_,?_,?_⟩
        all_goals (try dsimp only)
        ·exact hT1
        ·exact ⟨rfl,rfl,trivial⟩
        ·exact less_
      ·refine ca_ rfl (c4 _) ?_
       rintro _ Sx ⟨rfl,h1⟩
       rw [h1];clear h1 Sx
       refine arun_nil ⟨fun _=>less_,?_⟩
       refine DG.only 6 (by kernel_rfl) rfl ?_
       refine ARun.build1s (lit_lt rfl) ty_sl_61 rfl rfl ?_
       intro b14 f14
       have g14:=f14
       repeat ((with_reducible replace g14:=fresh_set g14);obtain ⟨g14,_⟩:=g14)
       have:=g14.ne kb1;have:=g14.ne' kb1
       refine arun_nil ⟨fun _=>less_,?_⟩
       refine DG.only 7 (by kernel_rfl) rfl ?_
       refine rC (Calm.toStr ty_bytes_61 ty_str_9 rfl (l:=[UInt8.ofNat m.phase]) rfl (rds_ownE own_ hph)) ?_
       refine arun_nil ⟨fun _=>less_,?_⟩
       refine DG.pure 8 (by kernel_rfl) (by kernel_rfl) rfl rfl rfl rfl (lit_lt rfl) (fun _=>Calm.bin rfl rfl (bin_str_add (by omega))) ?_
       refine DG.pure 12 (by kernel_rfl) (by kernel_rfl) rfl rfl rfl rfl (lit_lt rfl) (fun _=>Calm.bin rfl rfl (bin_str_add (by omega))) ?_
       refine DG.pure 16 (by kernel_rfl) (by kernel_rfl) rfl rfl rfl rfl (lit_lt rfl) (fun _=>Calm.bin rfl rfl (bin_str_add (by omega))) ?_
       refine DG.pure 20 (by kernel_rfl) (by kernel_rfl) rfl rfl rfl rfl (lit_lt rfl) (fun _=>Calm.bin rfl rfl (bin_str_add (by omega))) ?_
       refine DG.pure 21 (by kernel_rfl) (by kernel_rfl) rfl rfl rfl rfl (lit_lt rfl) (fun _=>Calm.assign rfl) ?_
       refine DG.end_ (by kernel_rfl) ?_
       refine ⟨(),?_,?_,?_⟩
       all_goals (try dsimp only)
       ·exact hT1
       ·exact ⟨rfl,rfl,trivial⟩
       ·exact less_
   ·refine ARun.build1s (lit_lt rfl) ty_sl_61 rfl rfl ?_
    intro b14 f14
    have g14:=f14
    repeat ((with_reducible replace g14:=fresh_set g14);obtain ⟨g14,_⟩:=g14)
    have:=g14.ne kb1;have:=g14.ne' kb1
    refine arun_nil ⟨fun _=>less_,?_⟩
    refine DG.two 2 7 (by kernel_rfl) rfl ?_ rfl ?_
    ·refine ca_ rfl (c1 _) ?_
     rintro _ Sx ⟨rfl,h1⟩
     rw [h1];clear h1 Sx
     refine arun_nil ⟨fun _=>less_,?_⟩
     refine DG.pure 3 (by kernel_rfl) (by kernel_rfl) rfl rfl rfl rfl (lit_lt rfl) (fun _=>Calm.bin rfl rfl (bin_str_add (by omega))) ?_
     refine DG.two 7 11 (by kernel_rfl) rfl ?_ rfl ?_
     ·refine rC (Calm.toStr ty_bytes_61 ty_str_9 rfl (l:=[UInt8.ofNat m.phase]) rfl (rds_ownE own_ hph)) ?_
      refine arun_nil ⟨fun _=>less_,?_⟩
      refine DG.pure 8 (by kernel_rfl) (by kernel_rfl) rfl rfl rfl rfl (lit_lt rfl) (fun _=>Calm.bin rfl rfl (bin_str_add (by omega))) ?_
      refine DG.only 11 (by kernel_rfl) rfl ?_
      refine ca_ rfl (c2 _) ?_
      rintro _ Sx ⟨rfl,h1⟩
      rw [h1];clear h1 Sx
      refine arun_nil ⟨fun _=>less_,?_⟩
      refine DG.pure 12 (by kernel_rfl) (by kernel_rfl) rfl rfl rfl rfl (lit_lt rfl) (fun _=>Calm.bin rfl rfl (bin_str_add (by omega))) ?_
      refine DG.only 15 (by kernel_rfl) rfl ?_
      refine ca_ rfl (c3 _) ?_
      rintro _ Sx ⟨rfl,h1⟩
      rw [h1];clear h1 Sx
      refine arun_nil ⟨fun _=>less_,?_⟩
      refine DG.pure 16 (by kernel_rfl) (by kernel_rfl) rfl rfl rfl rfl (lit_lt rfl) (fun _=>Calm.bin rfl rfl (bin_str_add (by omega))) ?_
      refine DG.only 19 (by kernel_rfl) rfl ?_
      refine ca_ rfl (c4 _) ?_
      rintro _ Sx ⟨rfl,h1⟩
      rw [h1];clear h1 Sx
      refine arun_nil ⟨fun _=>less_,?_⟩
      refine DG.pure 20 (by kernel_rfl) (by kernel_rfl) rfl rfl rfl rfl (lit_lt rfl) (fun _=>Calm.bin rfl rfl (bin_str_add (by omega))) ?_
      refine DG.pure 21 (by kernel_rfl) (by kernel_rfl) rfl rfl rfl rfl (lit_lt rfl) (fun _=>Calm.assign rfl) ?_
      refine DG.end_ (by kernel_rfl) ?_
      refine ⟨(),?_,?_,?_⟩
      all_goals (try dsimp only)
      ·exact hT1
      ·exact ⟨rfl,rfl,trivial⟩
      ·exact less_
     ·refine ca_ rfl (c2 _) ?_
      rintro _ Sx ⟨rfl,h1⟩
      rw [h1];clear h1 Sx
      refine arun_nil ⟨fun _=>less_,?_⟩
      refine DG.two 7 15 (by kernel_rfl) rfl ?_ rfl ?_
      ·refine rC (Calm.toStr ty_bytes_61 ty_str_9 rfl (l:=[UInt8.ofNat m.phase]) rfl (rds_ownE own_ hph)) ?_
       refine arun_nil ⟨fun _=>less_,?_⟩
       refine DG.pure 8 (by kernel_rfl) (by kernel_rfl) rfl rfl rfl rfl (lit_lt rfl) (fun _=>Calm.bin rfl rfl (bin_str_add (by omega))) ?_
       refine DG.pure 12 (by kernel_rfl) (by kernel_rfl) rfl rfl rfl rfl (lit_lt rfl) (fun _=>Calm.bin rfl rfl (bin_str_add (by omega))) ?_
       refine DG.only 15 (by kernel_rfl) rfl ?_
       refine ca_ rfl (c3 _) ?_
       rintro _ Sx ⟨rfl,h1⟩
       rw [h1];clear h1 Sx
       refine arun_nil ⟨fun _=>less_,?_⟩
       refine DG.pure 16 (by kernel_rfl) (by kernel_rfl) rfl rfl rfl rfl (lit_lt rfl) (fun _=>Calm.bin rfl rfl (bin_str_add (by omega))) ?_
       refine DG.only 19 (by kernel_rfl) rfl ?_
       refine ca_ rfl (c4 _) ?_
       rintro _ Sx ⟨rfl,h1⟩
       rw [h1];clear h1 Sx
       refine arun_nil ⟨fun _=>less_,?_⟩
       refine DG.pure 20 (by kernel_rfl) (by kernel_rfl) rfl rfl rfl rfl (lit_lt rfl) (fun _=>Calm.bin rfl rfl (bin_str_add (by omega))) ?_
       refine DG.pure 21 (by kernel_rfl) (by kernel_rfl) rfl rfl rfl rfl (lit_lt rfl) (fun _=>Calm.assign rfl) ?_
       refine DG.end_ (by kernel_rfl) ?_
       refine ⟨(),?_,?_,?_⟩
       all_goals (try dsimp only)
       ·exact hT1
       ·exact ⟨rfl,rfl,trivial⟩
       ·exact less_
      ·refine ca_ rfl (c3 _) ?_
       rintro _ Sx ⟨rfl,h1⟩
       rw [h1];clear h1 Sx
       refine arun_nil ⟨fun _=>less_,?_⟩
       refine DG.two 7 19 (by kernel_rfl) rfl ?_ rfl ?_
       ·refine rC (Calm.toStr ty_bytes_61 ty_str_9 rfl (l:=[UInt8.ofNat m.phase]) rfl (rds_ownE own_ hph)) ?_
        refine arun_nil ⟨fun _=>less_,?_⟩
        refine DG.pure 8 (by kernel_rfl) (by kernel_rfl) rfl rfl rfl rfl (lit_lt rfl) (fun _=>Calm.bin rfl rfl (bin_str_add (by omega))) ?_
        refine DG.pure 12 (by kernel_rfl) (by kernel_rfl) rfl rfl rfl rfl (lit_lt rfl) (fun _=>Calm.bin rfl rfl (bin_str_add (by omega))) ?_
        refine DG.pure 16 (by kernel_rfl) (by kernel_rfl) rfl rfl rfl rfl (lit_lt rfl) (fun _=>Calm.bin rfl rfl (bin_str_add (by omega))) ?_
        refine DG.only 19 (by kernel_rfl) rfl ?_
        refine ca_ rfl (c4 _) ?_
        rintro _ Sx ⟨rfl,h1⟩
        rw [h1];clear h1 Sx
        refine arun_nil ⟨fun _=>less_,?_⟩
        refine DG.pure 20 (by kernel_rfl) (by kernel_rfl) rfl rfl rfl rfl (lit_lt rfl) (fun _=>Calm.bin rfl rfl (bin_str_add (by omega))) ?_
        refine DG.pure 21 (by kernel_rfl) (by kernel_rfl) rfl rfl rfl rfl (lit_lt rfl) (fun _=>Calm.assign rfl) ?_
        refine DG.end_ (by kernel_rfl) ?_
        refine ⟨(),?_,?_,?_⟩
        all_goals (try dsimp only)
        ·exact hT1
        ·exact ⟨rfl,rfl,trivial⟩
        ·exact less_
       ·refine ca_ rfl (c4 _) ?_
        rintro _ Sx ⟨rfl,h1⟩
        rw [h1];clear h1 Sx
        refine arun_nil ⟨fun _=>less_,?_⟩
        refine DG.only 7 (by kernel_rfl) rfl ?_
        refine rC (Calm.toStr ty_bytes_61 ty_str_9 rfl (l:=[UInt8.ofNat m.phase]) rfl (rds_ownE own_ hph)) ?_
        refine arun_nil ⟨fun _=>less_,?_⟩
        refine DG.pure 8 (by kernel_rfl) (by kernel_rfl) rfl rfl rfl rfl (lit_lt rfl) (fun _=>Calm.bin rfl rfl (bin_str_add (by omega))) ?_
        refine DG.pure 12 (by kernel_rfl) (by kernel_rfl) rfl rfl rfl rfl (lit_lt rfl) (fun _=>Calm.bin rfl rfl (bin_str_add (by omega))) ?_
        refine DG.pure 16 (by kernel_rfl) (by kernel_rfl) rfl rfl rfl rfl (lit_lt rfl) (fun _=>Calm.bin rfl rfl (bin_str_add (by omega))) ?_
        refine DG.pure 20 (by kernel_rfl) (by kernel_rfl) rfl rfl rfl rfl (lit_lt rfl) (fun _=>Calm.bin rfl rfl (bin_str_add (by omega))) ?_
        refine DG.pure 21 (by kernel_rfl) (by kernel_rfl) rfl rfl rfl rfl (lit_lt rfl) (fun _=>Calm.assign rfl) ?_
        refine DG.end_ (by kernel_rfl) ?_
        refine ⟨(),?_,?_,?_⟩
        all_goals (try dsimp only)
        ·exact hT1
        ·exact ⟨rfl,rfl,trivial⟩
        ·exact less_
    ·refine rC (Calm.toStr ty_bytes_61 ty_str_9 rfl (l:=[UInt8.ofNat m.phase]) rfl (rds_ownE own_ hph)) ?_
     refine arun_nil ⟨fun _=>less_,?_⟩
     refine DG.only 2 (by kernel_rfl) rfl ?_
     refine ca_ rfl (c1 _) ?_
     rintro _ Sx ⟨rfl,h1⟩
     rw [h1];clear h1 Sx
     refine arun_nil ⟨fun _=>less_,?_⟩
     refine DG.pure 3 (by kernel_rfl) (by kernel_rfl) rfl rfl rfl rfl (lit_lt rfl) (fun _=>Calm.bin rfl rfl (bin_str_add (by omega))) ?_
     refine DG.pure 8 (by kernel_rfl) (by kernel_rfl) rfl rfl rfl rfl (lit_lt rfl) (fun _=>Calm.bin rfl rfl (bin_str_add (by omega))) ?_
     refine DG.only 11 (by kernel_rfl) rfl ?_
     refine ca_ rfl (c2 _) ?_
     rintro _ Sx ⟨rfl,h1⟩
     rw [h1];clear h1 Sx
     refine arun_nil ⟨fun _=>less_,?_⟩
     refine DG.pure 12 (by kernel_rfl) (by kernel_rfl) rfl rfl rfl rfl (lit_lt rfl) (fun _=>Calm.bin rfl rfl (bin_str_add (by omega))) ?_
     refine DG.only 15 (by kernel_rfl) rfl ?_
     refine ca_ rfl (c3 _) ?_
     rintro _ Sx ⟨rfl,h1⟩
     rw [h1];clear h1 Sx
     refine arun_nil ⟨fun _=>less_,?_⟩
     refine DG.pure 16 (by kernel_rfl) (by kernel_rfl) rfl rfl rfl rfl (lit_lt rfl) (fun _=>Calm.bin rfl rfl (bin_str_add (by omega))) ?_
     refine DG.only 19 (by kernel_rfl) rfl ?_
     refine ca_ rfl (c4 _) ?_
     rintro _ Sx ⟨rfl,h1⟩
     rw [h1];clear h1 Sx
     refine arun_nil ⟨fun _=>less_,?_⟩
     refine DG.pure 20 (by kernel_rfl) (by kernel_rfl) rfl rfl rfl rfl (lit_lt rfl) (fun _=>Calm.bin rfl rfl (bin_str_add (by omega))) ?_
     refine DG.pure 21 (by kernel_rfl) (by kernel_rfl) rfl rfl rfl rfl (lit_lt rfl) (fun _=>Calm.assign rfl) ?_
     refine DG.end_ (by kernel_rfl) ?_
     refine ⟨(),?_,?_,?_⟩
     all_goals (try dsimp only)
     ·exact hT1
     ·exact ⟨rfl,rfl,trivial⟩
     ·exact less_
  rintro _ _
  intro _ _ hs_ hl_
  (try dsimp only at *)
  refine athen_n ?_
  refine AWP.sub _ hs_ (AWP.less _ hl_ ?_)
  clear hs_ hl_
  refine s1_ ?_
  refine AWP.draw [(0,true),(1,true),(2,true),(3,true),(4,true),(5,true),(6,true),(9,true),(10,true),(12,true),(13,true),(14,true),(15,true),(7,false),(8,true),(11,true),(16,false),(17,true),(18,true),(19,true)] [] mixed (by kernel_rfl) ?_
  iterate 13 refine s1_ ?_
  refine draw_only rfl ?_
  refine ca_ rfl (c5 _) ?_
  rintro _ Sx ⟨rfl,h1⟩
  rw [h1];clear h1 Sx
  refine arun_nil ⟨fun _=>less_,?_⟩
  iterate 2 refine s1_ ?_
  refine draw_only rfl ?_
  refine ca_ rfl (c6 _) ?_
  rintro _ Sx ⟨rfl,h1⟩
  rw [h1];clear h1 Sx
  refine arun_nil ⟨fun _=>less_,?_⟩
  iterate 5 refine s1_ ?_
  refine su_ [(1,_),(4,_)] ?_
  rw [eA]
  iterate 4 refine s1_ ?_
  refine ARun.build1s (lit_lt rfl) ty_sl_149 rfl rfl ?_
  intro b50 f50
  have g50:=f50
  repeat ((with_reducible replace g50:=fresh_set g50);obtain ⟨g50,_⟩:=g50)
  have:=g50.ne kb1;have:=g50.ne' kb1
  refine ca_ rfl (slo_rSum _ b50 _ _ (bs (preL m)) hs54 own_) ?_
  rintro _ Sx ⟨rfl,h1⟩
  rw [h1];clear h1 Sx
  refine ca_ rfl (cT _) ?_
  rintro _ Sx ⟨rfl,h1⟩
  rw [h1];clear h1 Sx
  iterate 4 refine s1_ ?_
  refine su_ [(1,_),(4,_)] ?_
  iterate 6 refine s1_ ?_
  refine ca_ rfl (cZ _) ?_
  rintro _ Sx ⟨rfl,h1⟩
  rw [h1];clear h1 Sx
  iterate 5 refine s1_ ?_
  refine su_ [(1,_),(4,_),(2,_),(3,_)] ?_
  refine s1_ ?_
  refine ⟨_,S,⟨_,_,rfl,⟨_,_,rfl,rfl,rfl⟩,rfl⟩,hT1.trans less_,?_⟩
  exact ⟨by rw [← eF];rfl,rfl⟩
 ·have h2:chkM m=2:=(chk_or m).resolve_left h0
  rw [if_pos h0]
  rw [h2] at hc
  unfold mfV
  refine ACall.enter (rs:=[.tmp 2,.tmp 3]) 60 [(0,.agg #[.int .u64 (m.seq:Int),.int .u8 (m.phase:Int),.int .u64 (m.count:Int),.int .u64 (m.prim:Int),.int .u32 (m.sum:Int),.string m.frm,.string m.too])] Tryz.func30 rfl rfl (Nat.le_of_ble_eq_true rfl) rfl ⟨rfl,trivial⟩ ?_
  iterate 2 refine s1_ ?_
  refine k_b7 rfl ?_
  intro b1 f1
  have g1:=f1
  repeat ((with_reducible replace g1:=fresh_set g1);obtain ⟨g1,_⟩:=g1)
  refine nl_ ?_
  iterate 8 refine s1_ ?_
  refine ca_ rfl (hc _) ?_
  rintro _ Sx ⟨rfl,h1⟩
  rw [h1];clear h1 Sx
  iterate 3 refine s1_ ?_
  refine su_ [(0,_),(1,_),(2,_),(3,_),(7,_)] ?_
  refine cT_ ?_
  iterate 8 refine s1_ ?_
  refine ⟨_,S,⟨_,_,rfl,⟨_,_,rfl,rfl,rfl⟩,rfl⟩,less_,?_⟩
  exact ⟨rfl,rfl⟩
end Slo
end Go.Proofs.YtceikpipmcadmaaGreatDoor
namespace Go.Proofs.YtceikpipmcadmaaGreatDoor
open Go.RowKit
open Mv Disk
set_option maxRecDepth 20000
theorem opens_Ext : OpensF Tryz.prog 81 2 extF (fun y => y.1.size ≤ 140737488351232 ∧ y.2.size ≤ 140737488351232) :=
 OpensFL.struct Tryz.underlying81 (by kernel_rfl) (OpensFL.cons (opensF_string Tryz.underlying9 (by kernel_rfl)) rfl (OpensFL.one (opensF_string Tryz.underlying9 (by kernel_rfl)) rfl))
theorem opens_Wr : OpensF Tryz.prog 83 3 wrF (fun y => y.1.size ≤ 140737488351232 ∧ (Lit.int .i64 y.2.1).wf = true ∧ y.2.2.size ≤ 140737488351232) :=
 OpensFL.struct (n:=1+(1+1)) Tryz.underlying83 (by kernel_rfl) (OpensFL.cons (opensF_string Tryz.underlying9 (by kernel_rfl)) rfl (OpensFL.cons (opensF_int Tryz.underlying3 (by kernel_rfl)) rfl (OpensFL.one (opensF_string Tryz.underlying9 (by kernel_rfl)) rfl)))
/-- A disk that comes in. -/
def DkV (S : Mem) (cs : List Value) (d : D) : Prop := DkR S (.agg cs.toArray) d ∧ Dz d
theorem wfi {n : Int} (h : (Lit.int .i64 n).wf = true) : -9223372036854775808 ≤ n ∧ n ≤ 9223372036854775807 := by simp [Lit.wf, IntKind.min, IntKind.max, IntKind.signed, IntKind.bits] at h; omega
theorem opens_DkV : Opens Tryz.prog 25 5 DkV :=
 (OpensL.struct (n:=1+(1+(1+(1+1)))) Tryz.underlying25 (by kernel_rfl) (OpensL.cons (opensF_int Tryz.underlying3 (by kernel_rfl)).opens rfl
  (OpensL.cons (opens_slice Tryz.underlying22 (by kernel_rfl) (b:=32) (by kernel_rfl) opens_Ext) rfl
  (OpensL.cons (opens_slice Tryz.underlying23 (by kernel_rfl) (b:=40) (by kernel_rfl) opens_Wr) rfl
  (OpensL.cons (opensF_int Tryz.underlying3 (by kernel_rfl)).opens rfl
  (OpensL.one (opensF_bool Tryz.underlying4 (by kernel_rfl)).opens rfl)))))).mono
  fun S cs y ⟨c0,c1,e,⟨e0,g0⟩,c2,c3,e1,⟨v1,e2,s1,p1,l1⟩,c4,c5,e3,⟨v2,e4,s2,p2,l2⟩,c6,c7,e5,⟨e6,g6⟩,e7,_⟩=>by
   subst e e0 e1 e2 e3 e4 e5 e6 e7
   obtain ⟨a1,k1,rfl,_⟩:=id s1
   obtain ⟨a2,k2,rfl,_⟩:=id s2
   refine ⟨⟨y.1,y.2.1,y.2.2.1,y.2.2.2.1,y.2.2.2.2⟩,⟨a1,k1,a2,k2,rfl,s1,s2⟩,(wfi g0).1,(wfi g0).2,(wfi g6).1,(wfi g6).2,by simp only;omega,by simp only;omega,fun x hx=>p1 x hx,fun w hw=>?_⟩
   obtain ⟨h1,h2,h3⟩:=p2 w hw
   exact ⟨h1,(wfi h2).1,(wfi h2).2,h3⟩

def BoolsV (S : Mem) (cs : List Value) (l : List Bool) : Prop := ∃ v, cs = [v] ∧ Sl 1 bools S v l
theorem opens_BoolsV : Opens Tryz.prog 48 1 BoolsV :=
 (opens_slice Tryz.underlying48 (by kernel_rfl) (b:=1) (by kernel_rfl) (opensF_bool Tryz.underlying4 (by kernel_rfl))).mono
  fun S cs y ⟨v,e,hv,_,hl⟩=>⟨y,v,e,hv⟩
end Go.Proofs.YtceikpipmcadmaaGreatDoor
namespace Go.Proofs.YtceikpipmcadmaaGreatDoor
open Go.RowKit
open Mv Disk Num
set_option maxRecDepth 20000
namespace Slo
structure MfV (S : Mem) (cs : List Value) (m : Mf) : Prop where
  cs : cs = [.int .u64 (m.seq : Int), .int .u8 (m.phase : Int), .int .u64 (m.count : Int), .int .u64 (m.prim : Int), .int .u32 (m.sum : Int), .string m.frm, .string m.too]
  fit : Fit m
  f : m.frm.size ≤ 9223372036854775807
  t : m.too.size ≤ 9223372036854775807
theorem wf_nat {k : IntKind} {n : Int} (h : (Lit.int k n).wf = true) (hk : k.min = 0) : ∃ m : Nat, n = (m : Int) ∧ (m : Int) ≤ k.max := by
 have h:(decide (k.min≤n) && decide (n≤k.max))=true:=h
 rw [hk] at h
 simp only [Bool.and_eq_true,decide_eq_true_eq] at h
 obtain ⟨m,rfl⟩:=Int.eq_ofNat_of_zero_le h.1
 exact ⟨m,rfl,h.2⟩
theorem opens_MfV : Opens Tryz.prog 55 7 MfV :=
 (OpensFL.struct (n:=1+(1+(1+(1+(1+(1+1)))))) Tryz.underlying55 (by kernel_rfl) (OpensFL.cons (opensF_int Tryz.underlying27 (by kernel_rfl)) rfl
  (OpensFL.cons (opensF_int Tryz.underlying52 (by kernel_rfl)) rfl
  (OpensFL.cons (opensF_int Tryz.underlying27 (by kernel_rfl)) rfl
  (OpensFL.cons (opensF_int Tryz.underlying27 (by kernel_rfl)) rfl
  (OpensFL.cons (opensF_int Tryz.underlying53 (by kernel_rfl)) rfl
  (OpensFL.cons (opensF_string Tryz.underlying9 (by kernel_rfl)) rfl
  (OpensFL.one (opensF_string Tryz.underlying9 (by kernel_rfl)) rfl)))))))).opens.mono
  fun S cs y ⟨e,g1,g2,g3,g4,g5,g6,g7⟩=>by
   obtain ⟨n1,h1,k1⟩:=wf_nat g1 rfl
   obtain ⟨n2,h2,k2⟩:=wf_nat g2 rfl
   obtain ⟨n3,h3,k3⟩:=wf_nat g3 rfl
   obtain ⟨n4,h4,k4⟩:=wf_nat g4 rfl
   obtain ⟨n5,h5,k5⟩:=wf_nat g5 rfl
   have m64:IntKind.u64.max=18446744073709551615:=rfl
   have m32:IntKind.u32.max=4294967295:=rfl
   have m8:IntKind.u8.max=255:=rfl
   refine ⟨⟨n1,n2,n3,n4,n5,y.2.2.2.2.2.1,y.2.2.2.2.2.2⟩,?_,⟨by show n1<_;omega,by show n2<_;omega,by show n3<_;omega,by show n4<_;omega,by show n5<_;omega⟩,Nat.le_trans g6 (by decide),Nat.le_trans g7 (by decide)⟩
   subst e
   rw [h1,h2,h3,h4,h5]
   rfl
/-- What the list of variables gives: the handle of the type error. -/
theorem errT_of_laid {W : World} {l : List (String × DataW Unit)} (h : laidMetH Tryz.prog l W) (hl : (l.filter fun x => x.2.handleName?.isSome) = [("errors.errorType", Rows.laid_errors_errorType)]) : ErrT (roM W) := by
 unfold laidMetH at h
 rw [hl] at h
 obtain ⟨name,u,ty,e1,e2,e3,e4,e5⟩:=h.2 _ (List.mem_singleton.2 rfl)
 have en:name = [101,114,114,111,114]:=(Option.some.inj e1).symm
 subst en
 have rt : (Tryz.prog.cutTypes.find? (·.1 == "internal/reflectlite.rtype")).map (·.2) = some 197 := by kernel_rfl
 obtain rfl:=Option.some.inj (rt.symm.trans e2)
 have oneRow:((List.range Tryz.prog.types.size).filter fun t=>Tryz.prog.rowNamed t [101,114,114,111,114]) = [72]:=by kernel_rfl
 have hm:ty ∈ (List.range Tryz.prog.types.size).filter fun t=>Tryz.prog.rowNamed t [101,114,114,111,114]:=List.mem_filter.2 ⟨List.mem_range.2 e3,e4⟩
 rw [oneRow] at hm
 obtain rfl:=List.mem_singleton.1 hm
 have hh:typeHandle Tryz.prog 72 = .pointer (some ⟨4,72,none⟩):=by kernel_rfl
 rw [hh] at e5
 have et : Tryz.prog.globalNamed "errors.errorType" = some 0 := by kernel_rfl
 refine roM_knows fun j v hj=>?_
 match j,hj with
 | 0,hj =>
  have hv:v = .iface 197 (.agg #[.pointer (some ⟨4,72,none⟩)]):=(Option.some.inj hj).symm
  rw [hv]
  simpa [Addr.add] using World.var?_cell et e5 0
end Slo
end Go.Proofs.YtceikpipmcadmaaGreatDoor
