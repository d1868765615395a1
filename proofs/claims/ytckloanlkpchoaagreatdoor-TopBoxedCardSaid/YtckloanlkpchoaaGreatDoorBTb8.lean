/-
  Texts that belong together: Sg4, Gro2, Zr2, Err, Tb2, Tb3, Sg5, Sg6, Sg7, VNum1, Bx1, VNum2, Str, Bx2, DrawS, Bx3, TlB, BxL1, LaidT.
-/
import Derived.Test.YtckloanlkpchoaaGreatDoorBTb7
import Derived.WideLaws
import Derived.Laws.BitsLemmas
import Derived.Test.YtckloanlkpchoaaGreatDoorRows
import Derived.LaidLaws
import Derived.LaidMore
import Derived.LaidHandle
import Derived.MakeChecks
import Derived.LaidByTextLater
import Derived.Stop.Joined
import Derived.ProofKit
set_option linter.unusedVariables false
set_option linter.unusedSimpArgs false
set_option linter.unusedSectionVars false
namespace Go.Proofs.YtckloanlkpchoaaGreatDoor
open Go.RowKit
open Mv Bits
set_option maxRecDepth 4000
namespace Sg
theorem bldC : bldT Tryz.prog 61 = some ([(0, 256)], List.replicate 256 (.int .u8 0)) := by kernel_rfl
theorem bld_row {l : List Value} (h : l.length = 256) : bldL [(0, 256)] (List.replicate 256 (.int .u8 0)) [(0, .agg l.toArray)] = some l := by
 unfold bldL
 show (if l.toArray.size=256∧0+256≤(List.replicate 256 (Value.int .u8 0)).length then bldL _ (spl _ 0 l.toArray.toList) [] else none)=_
 rw [if_pos ⟨by rw [List.size_toArray];exact h,by rw [List.length_replicate];decide⟩]
 unfold bldL spl
 rw [List.take_zero,List.drop_eq_nil_of_le (by rw [List.length_replicate];show 256≤0+l.length;omega)]
 simp
theorem row0_len : (cellsB Mt.row0).length = 256 := by unfold cellsB Mt.row0; simp
def cntS (t : List UInt8) : Nat := if t = [] then 0 else 1
theorem segB_pos {t : List UInt8} (h : t ≠ []) : segB t = bitsS (Zr.enc (Mt.far Mt.row0 t) 0) := if_neg h
theorem segB_len {t : List UInt8} (h : t.length ≤ 512) : (segB t).length ≤ 20000 := by
 unfold segB
 split
 ·exact Nat.zero_le _
 ·rename_i q
  have h1:=bitsS_length (enc_syms (far_ne q))
  have h2:=Zr.enc_len (Mt.far Mt.row0 t) 0
  rw [Mt.far_length] at h2
  omega
theorem size0 {t : ByteArray} : t.data.toList = [] ↔ t.size = 0 := by
 have h:t.data.toList.length=t.size:=Array.length_toList (xs:=t.data)
 rw [← h];exact List.length_eq_zero_iff.symm
theorem emp_of {t : ByteArray} (h : t.data.toList = []) : t = ⟨#[]⟩ := by
 obtain ⟨d⟩:=t
 obtain ⟨l⟩:=d
 simp at h
 rw [h]
theorem ext_all (s : ByteArray) : s.extract 0 s.size = s := by
 apply ByteArray.ext
 apply Array.toList_inj.1
 rw [Lib.extract_data,List.drop_zero,Nat.sub_zero]
 exact List.take_of_length_le (Nat.le_of_eq (Array.length_toList (xs:=s.data)))
theorem ext_none (s : ByteArray) : (s.extract s.size s.size).data.toList = [] := by
 rw [Lib.extract_data,Nat.sub_self];rfl
/-- Where All stands. -/
structure AllI (t s : ByteArray) (n : Nat) (L : List Bool) (r : List UInt8) : Prop where
  or_ : (s = t ∧ n = 0 ∧ L = [] ∧ r = Mt.row0) ∨ (s.size = 0 ∧ n = cntS t.data.toList ∧ L = segB t.data.toList)
set_option maxHeartbeats 4000000 in
theorem sg_All (t : ByteArray) (S : Mem) (ht : t.size ≤ 512) :
  ACall Tryz.prog 11 #[.string t] S fun v S'=>v = .tuple #[.agg #[.string (bs (pack (segB t.data.toList))),.int .i64 ((segB t.data.toList).length:Nat)],.int .i64 (cntS t.data.toList:Nat),.int .i64 0]∧S'=S:=by
 have hlen:t.data.toList.length=t.size:=Array.length_toList (xs:=t.data)
 have hsl:=segB_len (t:=t.data.toList) (by omega)
 refine ACall.enter (rs:=[.cell 2 31,.tmp 3,.tmp 4]) 41 [(0,.string t)] Tryz.func11 rfl rfl (Nat.le_of_ble_eq_true rfl) rfl ⟨rfl,trivial⟩ ?_
 iterate 2 refine s1_ ?_
 refine ARun.alloc (lit_lt rfl) ty_zero_31 ?_
 intro b2 f2
 have g2:=f2
 repeat ((with_reducible replace g2:=fresh_set g2);obtain ⟨g2,_⟩:=g2)
 refine nl_ ?_
 iterate 12 refine s1_ ?_
 refine su_ [(0,_),(2,_),(3,_),(4,_),(11,_)] ?_
 refine cF_ ?_
 iterate 4 refine s1_ ?_
 refine ca_ rfl (Mt.mt_New _) ?_
 rintro _ Sx ⟨rfl,h1⟩
 rw [h1];clear h1 Sx
 refine rC (Calm.build (cs:=cellsB Mt.row0) bldC rfl (bld_row row0_len)) ?_
 refine ARun.boxA (cs:=cellsB Mt.row0) (lit_lt rfl) rfl ?_
 intro b15 f15
 have g15:=f15
 repeat ((with_reducible replace g15:=fresh_set g15);obtain ⟨g15,_⟩:=g15)
 refine s1_ ?_
 refine ARun.boxA (cs:=[_,_,_]) (lit_lt rfl) rfl ?_
 intro b17 f17
 have g17:=f17
 repeat ((with_reducible replace g17:=fresh_set g17);obtain ⟨g17,_⟩:=g17)
 refine nl_ ?_
 iterate 5 refine s1_ ?_
 refine su_ [(0,_),(2,_),(3,_),(4,_),(11,_),(5,_),(6,_),(7,_)] ?_
 refine AWP.less (wrM ((S.set b2 ⟨31,[.string ByteArray.empty,.int .i64 0],2⟩).set b15 (cB Mt.row0)) b17 none []) (by rw [show cB Mt.row0=⟨61,cellsB Mt.row0,(cellsB Mt.row0).length⟩ from by rw [row0_len];rfl,wrM_nil];exact Mem.Less.refl _) ?_
 have hf17:∀ k,Fresh ((S.set b2 ⟨31,[.string ByteArray.empty,.int .i64 0],2⟩).set b15 k) b17:=fun k=>fresh_more (fresh_set f17).1 (fresh_set f17).2
 have n2:b2≠b15:=f15.ne (Mem.own_set_same _ _ _)
 iterate 2 refine s1_ ?_
 refine AWP.loop (X:=ByteArray × Nat × Option (Nat × Nat) × List Bool × List UInt8) (fun x=>[(0,.string x.1),(2,.pointer (some ⟨b2,0,none⟩)),(3,.int .i64 0),(4,.int .i64 0),(5,.pointer (some ⟨b15,0,none⟩)),(6,.pointer (some ⟨b17,0,none⟩)),(7,.int .i64 (x.2.1:Int))]) (fun x=>wrM ((S.set b2 ⟨31,[.string ByteArray.empty,.int .i64 0],2⟩).set b15 (cB x.2.2.2.2)) b17 x.2.2.1 x.2.2.2.1) (fun x=>AllI t x.1 x.2.1 x.2.2.2.1 x.2.2.2.2∧OkW ((S.set b2 ⟨31,[.string ByteArray.empty,.int .i64 0],2⟩).set b15 (cB x.2.2.2.2)) b17 x.2.2.1 x.2.2.2.1) (fun x=>x.1.size) ((t,0,none,[],Mt.row0)) ⟨rfl,rfl,rfl,rfl,rfl,rfl,rfl,trivial⟩ (Mem.Less.refl _) (⟨⟨.inl ⟨rfl,rfl,rfl,rfl⟩⟩,okW_nil (hf17 _)⟩) ?_
 rintro ⟨s,n,o,L,r⟩ ⟨⟨hI⟩,hk⟩
 (try dsimp only at *)
 by_cases q:s.size=0
 ·have hse:s=⟨#[]⟩:=emp_of (size0.2 q)
  have hn:n=cntS t.data.toList∧L=segB t.data.toList:=by
   rcases hI with ⟨rfl,rfl,rfl,_⟩ | ⟨_,h1,h2⟩
   ·have:=size0.2 q
    rw [this];exact ⟨rfl,rfl⟩
   ·exact ⟨h1,h2⟩
  obtain ⟨rfl,rfl⟩:=hn
  iterate 4 refine s1_ ?_
  refine rC (Calm.bin rfl rfl (bin_bool (c:=false) (bin_str_neq _ _) (by rw [hse];rfl))) ?_
  iterate 2 refine s1_ ?_
  refine su_ [(0,_),(2,_),(3,_),(4,_),(5,_),(6,_),(7,_),(19,_)] ?_
  refine cF_ ?_
  iterate 8 refine s1_ ?_
  refine ca_ rfl (bitsV_Bits b17 _ o _ (by omega) hk) ?_
  rintro _ Sx ⟨rfl,h1⟩
  rw [h1];clear h1 Sx
  iterate 6 refine s1_ ?_
  refine su_ [(0,_),(2,_),(3,_),(4,_),(5,_),(6,_),(7,_),(19,_)] ?_
  refine s1_ ?_
  refine ⟨_,S,⟨_,_,_,rfl,.inr ⟨ty_agg_31,[_,_],ty_size_31,rds_,rfl⟩,⟨_,_,rfl,⟨_,_,rfl,rfl,rfl⟩,rfl⟩,rfl⟩,less_,?_⟩
  exact ⟨rfl,rfl⟩
 ·obtain ⟨rfl,rfl,rfl,rfl⟩ : s=t∧n=0∧L = []∧r=Mt.row0:=hI.resolve_right fun h=>q h.1
  have hne:s.data.toList ≠ []:=fun e=>q (size0.1 e)
  have hw:=sg_write b15 b17 Mt.row0 s o [] _ (f15) Mt.row_row0 hne ht hk (by rw [List.nil_append,← segB_pos hne];omega)
  rw [List.nil_append,← segB_pos hne] at hw
  iterate 4 refine s1_ ?_
  refine rC (Calm.bin rfl rfl (bin_bool (c:=true) (bin_str_neq _ _) (by rw [decide_eq_false (fun e=>q (by rw [e];rfl))];rfl))) ?_
  iterate 2 refine s1_ ?_
  refine su_ [(0,_),(2,_),(3,_),(4,_),(5,_),(6,_),(7,_),(19,_)] ?_
  refine cT_ ?_
  iterate 12 refine s1_ ?_
  refine su_ [(0,_),(2,_),(3,_),(4,_),(5,_),(6,_),(7,_),(19,_),(8,_)] ?_
  iterate 7 refine s1_ ?_
  refine rC (Calm.as (v':=.string s) (congrArg Value.string (by exact ext_all s)) (Calm.sliceStr (strT_spec ty_str_9) rfl (bnd_some _ _ rfl (by omega) (by omega)) (bnd_none _ _))) ?_
  refine ca_ rfl (hw) ?_
  rintro _ _ ⟨rfl,o2,hk2,rfl⟩
  iterate 2 refine s1_ ?_
  refine su_ [(0,_),(2,_),(3,_),(4,_),(5,_),(6,_),(7,_),(19,_),(8,_)] ?_
  iterate 3 refine s1_ ?_
  refine ca_ rfl (bitsV_Len b17 _ o2 _ (by omega) hk2) ?_
  rintro _ _ ⟨rfl,rfl⟩
  iterate 3 refine s1_ ?_
  refine su_ [(0,_),(2,_),(3,_),(4,_),(5,_),(6,_),(7,_),(19,_),(8,_),(33,_)] ?_
  refine cF_ ?_
  iterate 10 refine s1_ ?_
  refine su_ [(0,_),(2,_),(3,_),(4,_),(5,_),(6,_),(7,_),(19,_),(8,_),(33,_)] ?_
  iterate 6 refine s1_ ?_
  refine ⟨(s.extract s.size s.size,1,o2,segB s.data.toList,Mt.farR Mt.row0 s.data.toList),?_,?_,?_,?_⟩
  all_goals (try dsimp only)
  ·exact ⟨rfl,rfl,rfl,rfl,rfl,rfl,rfl,trivial⟩
  ·exact Mem.Less.refl _
  ·exact ⟨⟨.inr ⟨size0.1 (ext_none s),by unfold cntS;rw [if_neg hne],rfl⟩⟩,hk2⟩
  ·(show (s.extract s.size s.size).size<s.size;rw [size0.1 (ext_none s)];omega)
end Sg
end Go.Proofs.YtckloanlkpchoaaGreatDoor
namespace Go.Proofs.YtckloanlkpchoaaGreatDoor
open Go.RowKit
open Mv
namespace Mv
/-- What a step leaves as it was: all that is owned, but one slice's block; the slice that is made is away from it. -/
structure Leave (M M' : Mem) (o o' : Option (Nat × Nat)) : Prop where
  own : ∀ x r, M.own x = some r → (∀ c, o ≠ some (x, c)) → M'.own x = some r ∧ Away o' x
  ro : M'.ro = M.ro
theorem Left.leave {M M' : Mem} {o : Option (Nat × Nat)} {b c : Nat} (h : Left M M' o b) : Leave M M' o (some (b, c)) :=
 ⟨fun x r hx ho=>⟨(h.own x r hx ho).1,fun q c' e=>by cases e;exact Ne.symm (h.own x r hx ho).2⟩,h.ro⟩
theorem Leave.less {B M M' : Mem} {o o' : Option (Nat × Nat)} (h : Leave M M' o o') (hB : B.Less M) (ho : ∀ q c, o = some (q, c) → B.own q = none) : B.Less M' ∧ ∀ q c, o' = some (q, c) → B.own q = none := by
 have key:∀ x r,B.own x=some r→M'.own x=some r∧Away o' x:=fun x r hx=>h.own x r (hB.1 x r hx) (fun c e=>by have:=ho x c e;rw [hx] at this;cases this)
 refine ⟨⟨fun x r hx=>(key x r hx).1,hB.2.trans h.ro.symm⟩,fun q c e=>?_⟩
 cases hb:B.own q with
 | none=>rfl
 | some r=>exact absurd rfl ((key q r hb).2 q c e)
theorem Leave.at_ {M M' : Mem} {o o' : Option (Nat × Nat)} {x : Nat} {r : Blk} (h : Leave M M' o o') (hx : M.own x = some r) (ha : Away o x) : M'.own x = some r ∧ Away o' x :=
 h.own x r hx fun c e=>ha x c e rfl
theorem zeros_list {c : Array Value} {z : Value} (hc : c.toList = [z]) (m : Nat) : (Builtin.zeroCells c m).toList = List.replicate m z := by
 have e:c = #[z]:=by rw [← Array.toList_inj];exact hc
 subst e
 unfold Builtin.zeroCells
 rw [Array.toList_map]
 refine List.ext_getElem (by simp) fun i h1 h2=>?_
 simp [Nat.mod_one]
section
variable {P : Program} {N : Nat} {E : Env} {M : Mem} {ops : Array Oper} {ty : TypeId} {pos : String} {aft : Array Edge}
theorem ARun.appendMk {os : List Oper} {K : Env → Mem → Prop} {T Ti e : TypeId} {y : Nat} {z : Value} {x1 x2 : Operand} {o : Option (Nat × Nat)} {n : Nat} {cs : List Value} {m d : Nat} (hn : d < N) (hT : slT P T = some (e, 1, y, [z])) (hTi : P.underlying Ti = some (.int .u64))
  (hx:ev E x1=some (outV o n)) (hcs:cs.length=n) (hg:Gro M o e cs)
  (hy:ev E x2=some (.int .u64 (m:Int))) (h1:z.oneCell'=true) (hfit:(n+m)*y≤140737488355328) (h63:n+m≤9223372036854775807)
  (h:∀ o' M',Gro M' o' e (cs ++ List.replicate m z)→Leave M M' o o'→ARun P N ops os K ((d,outV o' (n+m)) :: E) M') :
  ARun P N ops (⟨some d,.call ⟨.builtin .append,#[x1,x2],#[T,Ti]⟩,ty,pos,aft,none⟩ :: os) K E M:=fun a w g hv=>by
 rw [if_pos (by simp [Region.wanted])]
 obtain ⟨hu,i,v,e1,e2,hi1,hy1,hz1⟩:=slT_spec hT
 have hvc:v.cells.toList = [z]:=hz1
 have hi:i.size=1:=hi1
 have hyb:i.bytes=y:=hy1
 have hvs:v.cells.size=1:=by rw [← Array.length_toList,hvc];rfl
 have hw:IntKind.i64.wrap (m:Int)=(m:Int):=IntWalk.i64_in _ (by omega)
 have hm0 : ¬ ((m:Int)<0):=by omega
 have hmx:max (m:Int) 0=(m:Int):=by omega
 have hmy:m*i.bytes≤140737488355328:=by rw [hyb];exact Nat.le_trans (Nat.mul_le_mul_right _ (by omega)) hfit
 have hmb : ¬ (281474976710656<(m:Int)*(i.bytes:Int)):=by
  have:((m*i.bytes:Nat):Int)≤140737488355328:=by omega
  rw [Int.natCast_mul] at this;omega
 have hzl:=zeros_list hvc m
 have hra:∀ v ∈ List.replicate m z,v.oneCell'=true:=fun u hu=>by rw [List.eq_of_mem_replicate hu];exact h1
 cases o with
 | none =>
  have hc0:=hg.nil rfl
  subst hc0
  simp only [List.length_nil] at hcs
  subst hcs
  have hex:(execOp a.eval ⟨some d,.call ⟨.builtin .append,#[x1,x2],#[T,Ti]⟩,ty,pos,aft,none⟩).run P w=((Builtin.append_ #[T,Ti] ty #[.slice none 0 0,.int .u64 (m:Int)]).run P w).andThen fun v w'=>.ok (.value v) w':=by
   simp [execOp,resolve,invoke,builtin,g.ev hx,g.ev hy,outV]
  unfold Oper.wp
  rw [hex]
  by_cases hm:m=0
  ·subst hm
   have hr:(Builtin.append_ #[T,Ti] ty #[.slice none 0 0,.int .u64 ((0:Nat):Int)]).run P w = .ok (.slice none 0 0) w:=by
    simp [Builtin.append_,run_underlying hu,run_underlying hTi,sizeOf,typeInfo,zeroValue,e1,e2,asInt,asIntOf,show IntKind.i64.wrap 0=0 from by decide]
   rw [hr]
   have:=h none M (by simpa using hg) ⟨fun x r hx ho=>⟨hx,Away.nil x⟩,rfl⟩
   exact ⟨_,_,this,g.put hn _,Step.refl hv⟩
  ·have hfit':Builtin.nextslicecap (0+m) 0*i.bytes≤281474976710656:=growslice_fits (by omega) (by rw [hyb];exact hfit)
   rw [Nat.zero_add] at hfit'
   have h63' : ¬ (9223372036854775807<(m:Int)):=by omega
   have h48' : ¬ (281474976710656<Builtin.nextslicecap m 0*i.bytes):=by omega
   have hr:(Builtin.append_ #[T,Ti] ty #[.slice none 0 0,.int .u64 (m:Int)]).run P w = .ok (.slice (some ⟨w.heap.size,0,none⟩) m (grownCap w m 0 e)) (w.drew.alloc (.cells (Builtin.zeroCells v.cells m ++ Builtin.zeroCells v.cells (grownCap w m 0 e-m)) e)):=by
    have hmi : ¬ (m*i.size=0):=by rw [hi];omega
    have hmi2 : ¬ (i.size=0):=by rw [hi];omega
    simp [Builtin.append_,run_underlying hu,run_underlying hTi,sizeOf,typeInfo,zeroValue,e1,e2,asInt,asIntOf,hw,hmx,hm0,hmb,hm,h63',h48',hmi,hmi2,Question.forced,Builtin.firstCells,newRow,grownCap]
   rw [hr]
   have hge:=grownCap_ge w m 0 e
   have hvd:View M w.drew:=hv.drawn _
   have hst:=Step.allocP hvd e (Builtin.zeroCells v.cells m ++ Builtin.zeroCells v.cells (grownCap w m 0 e-m)) (List.replicate m z) (grownCap w m 0 e*1) (by rw [Array.toList_append,hzl];exact List.prefix_append _ _) (by
    simp only [Array.size_append,size_zeroCells,hvs];omega)
   have hf:Fresh M w.heap.size:=hv.freshAt
   refine ⟨_,_,?_,g.put hn _,(Step.drawn hv _).trans hst⟩
   have:=h (some (w.heap.size,grownCap w m 0 e)) (M.set w.heap.size ⟨e,List.replicate m z,grownCap w m 0 e*1⟩) ⟨fun e'=>(by cases e'),fun b c e'=>by
    cases e'
    rw [Nat.mul_one]
    exact ⟨Mem.own_set_same _ _ _,by simpa using hge,fun a v hv=>hf.2 a v hv⟩⟩ ⟨fun x r hx ho=>⟨(Mem.own_set_other _ _ (hf.ne hx)).trans hx,fun q c e'=>by cases e';exact Ne.symm (hf.ne hx)⟩,rfl⟩
   simpa [outV] using this
 | some bc =>
  obtain ⟨b,c⟩:=bc
  obtain ⟨hb,hlc,hro⟩:=hg.own b c rfl
  rw [hcs] at hlc
  have hex:(execOp a.eval ⟨some d,.call ⟨.builtin .append,#[x1,x2],#[T,Ti]⟩,ty,pos,aft,none⟩).run P w=((Builtin.append_ #[T,Ti] ty #[.slice (some ⟨b,0,none⟩) n c,.int .u64 (m:Int)]).run P w).andThen fun v w'=>.ok (.value v) w':=by
   simp [execOp,resolve,invoke,builtin,g.ev hx,g.ev hy,outV]
  unfold Oper.wp
  rw [hex]
  by_cases hroom:n+m≤c
  ·obtain ⟨q1,q2⟩:=store_cells (P:=P) hv hb (vs:=List.replicate m z) (o:=n) (by simp [hcs]) (.inr (by simpa using hroom)) hra
   have hz0:(if m*i.size=0 then (#[] : Array Value) else Builtin.zeroCells v.cells m).toList=List.replicate m z:=by
    by_cases hm:m=0
    ·subst hm;simp
    ·rw [if_neg (by rw [hi];omega),hzl]
   have hr:(Builtin.append_ #[T,Ti] ty #[.slice (some ⟨b,0,none⟩) n c,.int .u64 (m:Int)]).run P w = .ok (.slice (some ⟨b,0,none⟩) (n+m) c) (w.setCells b n (List.replicate m z)):=by
    by_cases hm:m=0
    ·subst hm
     simp only [List.replicate_zero] at q1 ⊢
     simp [Builtin.append_,run_underlying hu,run_underlying hTi,sizeOf,typeInfo,zeroValue,e1,e2,asInt,asIntOf,hlc,addr_add,storeCells,World.setCells,show IntKind.i64.wrap 0=0 from by decide]
    ·have hmi : ¬ (m*i.size=0):=by rw [hi];omega
     have hmi2 : ¬ (i.size=0):=by rw [hi];omega
     simp [Builtin.append_,run_underlying hu,run_underlying hTi,sizeOf,typeInfo,zeroValue,e1,e2,asInt,asIntOf,hw,hmx,hm0,hmb,hm,hroom,hmi,hmi2,addr_add,hi,hzl,q1]
   rw [hr]
   have hsp:spl cs n (List.replicate m z)=cs ++ List.replicate m z:=by
    unfold spl
    rw [List.take_of_length_le (by omega),List.drop_of_length_le (by omega),List.append_nil]
   simp only [hsp] at q2
   have:=h (some (b,c)) (M.set b ⟨e,cs ++ List.replicate m z,c⟩) ⟨fun e'=>(by cases e'),fun b' c' e'=>by
    cases e'
    exact ⟨Mem.own_set_same _ _ _,by rw [List.length_append,List.length_replicate];omega,hro⟩⟩ ⟨fun x r hx ho=>⟨(Mem.own_set_other _ _ (fun e'=>ho c (by rw [e']))).trans hx,fun q c' e'=>by cases e';exact fun e'=>ho c (by rw [e'])⟩,rfl⟩
   exact ⟨_,_,this,g.put hn _,q2⟩
  ·have hfit':Builtin.nextslicecap (n+m) c*i.bytes≤281474976710656:=growslice_fits (by omega) (by rw [hyb];exact hfit)
   have hm : ¬ (m=0):=by omega
   have h63' : ¬ (9223372036854775807<((n:Int)+(m:Int))):=by omega
   have h48' : ¬ (281474976710656<Builtin.nextslicecap (n+m) c*i.bytes):=by omega
   have hmi : ¬ (m*i.size=0):=by rw [hi];omega
   have hmi2 : ¬ (i.size=0):=by rw [hi];omega
   have hf:=run_firstCells_some (P:=P) w.drew i.size n ⟨b,0,none⟩ n c cs (by rw [hi,Nat.mul_one];exact hcs) (fun j u hj=>by
    have:=hv.rd (a:=(⟨b,0,none⟩ : Addr).add j) (v:=u) (by rw [addr_add,Nat.zero_add,rd_own hb];exact hj)
    simpa using this)
   have hr:(Builtin.append_ #[T,Ti] ty #[.slice (some ⟨b,0,none⟩) n c,.int .u64 (m:Int)]).run P w = .ok (.slice (some ⟨w.heap.size,0,none⟩) (n+m) (grownCap w (n+m) c e)) (w.drew.alloc (.cells (cs.toArray ++ Builtin.zeroCells v.cells m ++ Builtin.zeroCells v.cells (grownCap w (n+m) c e-(n+m))) e)):=by
    simp [Builtin.append_,run_underlying hu,run_underlying hTi,sizeOf,typeInfo,zeroValue,e1,e2,asInt,asIntOf,hw,hmx,hm0,hmb,hm,hroom,h63',h48',hmi,hmi2,Question.forced,hf,newRow,grownCap]
   rw [hr]
   have hge:=grownCap_ge w (n+m) c e
   have hvd:View M w.drew:=hv.drawn _
   have hst:=Step.allocP hvd e (cs.toArray ++ Builtin.zeroCells v.cells m ++ Builtin.zeroCells v.cells (grownCap w (n+m) c e-(n+m))) (cs ++ List.replicate m z) (grownCap w (n+m) c e*1) (by rw [Array.toList_append,Array.toList_append,hzl,List.toList_toArray];exact List.prefix_append _ _) (by
    simp only [Array.size_append,size_zeroCells,hvs,List.size_toArray,hcs];omega)
   have hfr:Fresh M w.heap.size:=hv.freshAt
   refine ⟨_,_,?_,g.put hn _,(Step.drawn hv _).trans hst⟩
   have:=h (some (w.heap.size,grownCap w (n+m) c e)) (M.set w.heap.size ⟨e,cs ++ List.replicate m z,grownCap w (n+m) c e*1⟩) ⟨fun e'=>(by cases e'),fun b' c' e'=>by
    cases e'
    rw [Nat.mul_one]
    exact ⟨Mem.own_set_same _ _ _,by rw [List.length_append,List.length_replicate];omega,fun a v hv=>hfr.2 a v hv⟩⟩ ⟨fun x r hx ho=>⟨(Mem.own_set_other _ _ (hfr.ne hx)).trans hx,fun q c' e'=>by cases e';exact Ne.symm (hfr.ne hx)⟩,rfl⟩
   simpa [outV] using this
end
end Mv
end Go.Proofs.YtckloanlkpchoaaGreatDoor
namespace Go.Proofs.YtckloanlkpchoaaGreatDoor
open Go.RowKit
open Mv
set_option maxRecDepth 4000
namespace Zr
theorem maxE {P : Program} {N : Nat} {E : Env} {S : Mem} {dst : Option Nat} {ty : TypeId} {pos : String} {aft : Array Edge} {gd : Option (Nat × Bool)} {x y : Operand} {k : IntKind} {a b c : Int} {ats : Array TypeId} (h : c = max a b) (hx : ev E x = some (.int k a)) (hy : ev E y = some (.int k b)) : ACalm P N ⟨dst, .call ⟨.builtin .max, #[x, y], ats⟩, ty, pos, aft, gd⟩ E S (.int k c) := by
 rcases Int.le_total a b with hab | hab
 ·rw [show c=b from by omega];exact Calm.maxR hx hy hab
 ·rw [show c=a from by omega];exact Calm.maxL hx hy hab
theorem zr_run (e : TypeId) (b n y d Y : Nat) (ov pv : Value) (S : Mem) (hb : S.own b = some ⟨e, [ov, .int .u64 (n : Int), .int .u64 (y : Int), pv], 4⟩) (hY : Y = max 1 (y * 2)) (hy : Y ≤ 1000) (hd : d < 2) (hn : n + (d + 1) * Y ≤ 1000) :
  ACall Tryz.prog 114 #[.pointer (some ⟨b,1,none⟩),.int .u64 (d:Int)] S fun v S'=>v = .bool true∧S'=S.set b ⟨e,[ov,.int .u64 ((n+(d+1)*Y:Nat):Int),.int .u64 (Y:Int),pv],4⟩:=by
 have hm:((d:Int)+1)*(Y:Int)=(((d+1)*Y:Nat):Int):=by rw [Int.natCast_mul];rfl
 refine ACall.enter (rs:=[.tmp 4]) 38 [(0,.pointer (some ⟨b,1,none⟩)),(1,.int .u64 (d:Int))] Tryz.func114 rfl rfl (Nat.le_of_ble_eq_true rfl) rfl ⟨rfl,rfl,trivial⟩ ?_
 iterate 13 refine s1_ ?_
 refine rC (maxE (c:=(Y:Int)) (by omega) rfl rfl) ?_
 iterate 5 refine s1_ ?_
 refine su_ [(0,_),(1,_),(4,_)] ?_
 iterate 10 refine s1_ ?_
 refine su_ [(0,_),(1,_),(4,_),(18,_)] ?_
 refine cF_ ?_
 iterate 3 refine s1_ ?_
 refine AWP.draw [(0,true),(1,true),(2,true),(3,true),(4,true),(5,true),(6,true),(7,true),(8,true),(9,true),(10,true),(11,true),(12,true),(13,true),(14,false)] [14] mixed (by kernel_rfl) ?_
 iterate 10 refine s1_ ?_
 refine dP (hc:=fun _=>Calm.bin rfl rfl (bin_mulW (show IntKind.u64.wrap _=(((d+1)*Y:Nat):Int) from by rw [hm];exact IntWalk.u64_in _ (by omega)))) (h:=?_)
 iterate 3 refine s1_ ?_
 refine draw_only rfl ?_
 refine s1_ ?_
 refine arun_nil ⟨fun h=>absurd h (by decide),?_⟩
 iterate 2 refine s1_ ?_
 refine su_ [(0,_),(1,_),(4,_),(18,_)] ?_
 iterate 10 refine s1_ ?_
 refine su_ [(0,_),(1,_),(4,_),(18,_)] ?_
 refine s1_ ?_
 refine ⟨_,_,⟨_,_,rfl,rfl,rfl⟩,Mem.Less.refl _,?_⟩
 exact ⟨rfl,rfl⟩
/-- A reader at work: so many bytes are out, so long is the run. -/
def gatB (o : Option (Nat × Nat)) (r : Rd) (pv : Value) : Blk := ⟨105, [outV o r.out.length, .int .u64 (r.n : Int), .int .u64 (r.by_ : Int), pv], 4⟩
structure GR (B : Mem) (b : Nat) (pv : Value) (r : Rd) (M : Mem) (o : Option (Nat × Nat)) : Prop where
  less : B.Less M
  nb : B.own b = none
  gro : Gro M o 5 (cellsB r.out)
  aw : Away o b
  no : ∀ q c, o = some (q, c) → B.own q = none
  at_ : M.own b = some (gatB o r pv)
theorem GR.set {B M : Mem} {b : Nat} {pv : Value} {r r' : Rd} {o : Option (Nat × Nat)} (h : GR B b pv r M o) (he : r'.out = r.out) : GR B b pv r' (M.set b (gatB o r' pv)) o where
 less:=⟨fun x k hx=>(Mem.own_set_other _ _ (fun e=>by subst e;rw [h.nb] at hx;cases hx)).trans (h.less.1 x k hx),h.less.2⟩
 nb:=h.nb
 gro:=by rw [he];exact h.gro.set _ h.aw
 aw:=h.aw
 no:=h.no
 at_:=Mem.own_set_same _ _ _
theorem GR.grow {B M M' : Mem} {b : Nat} {pv : Value} {r r' : Rd} {o o' : Option (Nat × Nat)} (h : GR B b pv r M o) (hl : Leave M M' o o') (hg : Gro M' o' 5 (cellsB r'.out)) : GR B b pv r' (M'.set b (gatB o' r' pv)) o' where
 less:=by
  obtain ⟨h1,h2⟩:=hl.less h.less h.no
  exact ⟨fun x k hx=>(Mem.own_set_other _ _ (fun e=>by subst e;rw [h.nb] at hx;cases hx)).trans (h1.1 x k hx),h1.2⟩
 nb:=h.nb
 gro:=hg.set _ (hl.at_ h.at_ h.aw).2
 aw:=(hl.at_ h.at_ h.aw).2
 no:=(hl.less h.less h.no).2
 at_:=Mem.own_set_same _ _ _
theorem groAway {M : Mem} {o : Option (Nat × Nat)} {e : TypeId} {cs : List Value} {x : Nat} (h : Gro M o e cs) (hx : Fresh M x) : Away o x := fun q k e' => hx.ne (h.own q k e').1
theorem GR.temp {B M : Mem} {b : Nat} {pv : Value} {r : Rd} {o : Option (Nat × Nat)} (h : GR B b pv r M o) {x : Nat} (hx : Fresh M x) (k : Blk) : GR B b pv r (M.set x k) o where
 less:=h.less.trans (Mem.less_set _ _ _ hx.1)
 nb:=h.nb
 gro:=h.gro.set _ (groAway h.gro hx)
 aw:=h.aw
 no:=h.no
 at_:=(Mem.own_set_other _ _ (hx.ne h.at_)).trans h.at_
theorem cellsB_one (l : List UInt8) {x : Nat} (h2 : ¬ x < 2) (h3 : ¬ x = 257) (hx : x < 258) : cellsB l ++ [.int .u8 ((x : Int) - 1)] = cellsB (l ++ [UInt8.ofNat (x - 1)]) := by
 unfold cellsB
 rw [List.map_append]
 congr 2
 show _=Value.int .u8 ((UInt8.ofNat (x-1)).toNat:Int)
 rw [UInt8.toNat_ofNat']
 congr 1;omega
theorem outV_gro {M : Mem} {o : Option (Nat × Nat)} {e : TypeId} {cs : List Value} {n : Nat} (h : Gro M o e cs) (hl : cs.length = n) : ∃ a c, outV o n = .slice a n c := by
 cases o with
 | none =>
  rw [h.nil rfl] at hl
  subst hl
  exact ⟨none,0,rfl⟩
 | some w=>exact ⟨_,_,rfl⟩
theorem ouV_cells (o : Option (Nat × Nat)) (n : Nat) : (outV o n).cells = #[outV o n] := by cases o <;> rfl
theorem ouV_one (o : Option (Nat × Nat)) (n : Nat) : (outV o n).oneCell' = true := by cases o <;> rfl
theorem cellsB_zeros (l : List UInt8) (n : Nat) : cellsB l ++ List.replicate n (.int .u8 0) = cellsB (l ++ List.replicate n 0) := by
 unfold cellsB
 rw [List.map_append,List.map_replicate];rfl
set_option maxHeartbeats 2000000 in
theorem zr_close (B : Mem) (b : Nat) (pv : Value) (r : Rd) (M : Mem) (o : Option (Nat × Nat)) (h : GR B b pv r M o) (hn : r.out.length + r.n ≤ 1000) :
  ACall Tryz.prog 115 #[.pointer (some ⟨b,0,none⟩)] M fun v M'=>v = .int .i64 0 ∧ ∃ o',GR B b pv (close r) M' o':=by
 have hat:=h.at_
 unfold gatB at hat
 obtain ⟨oa,oc,hoe⟩:=outV_gro h.gro (cellsB_length _)
 rw [hoe] at hat
 refine ACall.enter (rs:=[.tmp 2]) 33 [(0,.pointer (some ⟨b,0,none⟩))] Tryz.func115 rfl rfl (Nat.le_of_ble_eq_true rfl) rfl ⟨rfl,trivial⟩ ?_
 iterate 7 refine s1_ ?_
 refine AWP.draw [(0,true),(1,true),(2,true),(3,true),(4,true),(5,true),(6,true),(7,true),(8,true),(9,true),(10,true),(11,true),(12,true)] [] mixed (by kernel_rfl) ?_
 iterate 15 refine s1_ ?_
 refine su_ [(0,_),(2,_),(15,_)] ?_
 refine cF_ ?_
 iterate 3 refine s1_ ?_
 refine AWP.draw [(0,true),(1,true),(2,true),(3,true),(4,true),(5,true),(6,true),(7,true),(8,true),(9,true),(10,false),(11,true),(12,true),(13,false)] [10,13] mixed (by kernel_rfl) ?_
 iterate 10 refine s1_ ?_
 refine draw_only rfl ?_
 refine ARun.appendMk (lit_lt rfl) ty_sl_51 Tryz.underlying26 (by rw [hoe];rfl) (cellsB_length _) h.gro rfl rfl (by omega) (by omega) ?_
 intro o' M' hg hl
 rw [cellsB_zeros] at hg
 obtain ⟨h1,h2⟩:=hl.at_ hat h.aw
 refine arun_nil ⟨fun h=>absurd h (by decide),?_⟩
 iterate 2 refine s1_ ?_
 refine draw_only rfl ?_
 refine ARun.store1 rfl rfl ty_size_51 (ouV_cells _ _) h1 (by show 0<4;decide) (ouV_one _ _) ?_
 try simp only [k_ms,k_sz,k_ss,k_za,Nat.reduceAdd]
 refine arun_nil ⟨fun h=>absurd h (by decide),?_⟩
 iterate 2 refine s1_ ?_
 refine su_ [(0,_),(2,_),(15,_)] ?_
 iterate 6 refine s1_ ?_
 refine ARun.store (o:=1) rfl rfl ty_size_101 (Mem.own_set_same _ _ _) (by show 1+2≤4;decide) (by simp [Value.cells,Value.oneCell']) ?_
 try simp only [k_ms,k_sz,k_ss,k_za,Nat.reduceAdd]
 iterate 2 refine s1_ ?_
 refine su_ [(0,_),(2,_),(15,_)] ?_
 iterate 6 refine s1_ ?_
 refine ⟨_,_,⟨_,_,rfl,rfl,rfl⟩,Mem.Less.refl _,?_⟩
 exact ⟨rfl,o',by have:=h.grow (r':=close r) hl hg;unfold gatB close at this;rw [List.length_append,List.length_replicate] at this;exact this⟩
set_option maxHeartbeats 4000000 in
theorem zr_Add (B : Mem) (b : Nat) (pv : Value) (r : Rd) (M : Mem) (o : Option (Nat × Nat)) (x : Nat) (h : GR B b pv r M o) (hx : x < 258) (hby : r.by_ ≤ r.n) (hn : (add r x).out.length + (add r x).n ≤ 500) :
  ACall Tryz.prog 80 #[.pointer (some ⟨b,0,none⟩),.int .u64 (x:Int)] M fun v M'=>v = .tuple #[.bool (decide (x=257)),.int .i64 0] ∧ ∃ o',GR B b pv (add r x) M' o':=by
 have hat:=h.at_
 by_cases h2:x<2
 ·unfold add at hn ⊢
  rw [if_pos h2] at hn ⊢
  obtain ⟨Y,hY⟩ : ∃ Y,Y=max 1 (r.by_*2):=⟨_,rfl⟩
  have hnn:r.n+(x+1)*Y≤500:=by
   have:(addD r x).n=r.n+(x+1)*max 1 (r.by_*2):=rfl
   rw [hY,← this];omega
  have hYn:Y≤500:=by
   have:Y≤(x+1)*Y:=Nat.le_mul_of_pos_left _ (by omega)
   omega
  have hrun:=zr_run 105 b r.n r.by_ x Y (outV o r.out.length) pv M hat hY (by omega) h2 (by omega)
  have hw:decide (x=257)=false:=decide_eq_false (by omega)
  rw [hw]
  refine ACall.enter (rs:=[.tmp 4,.tmp 5]) 49 [(0,.pointer (some ⟨b,0,none⟩)),(1,.int .u64 (x:Int))] Tryz.func80 rfl rfl (Nat.le_of_ble_eq_true rfl) rfl ⟨rfl,rfl,trivial⟩ ?_
  iterate 13 refine s1_ ?_
  refine su_ [(0,_),(1,_),(4,_),(5,_),(8,_)] ?_
  refine cT_ ?_
  iterate 7 refine s1_ ?_
  refine ca_ rfl (hrun) ?_
  rintro v S1 ⟨rfl,rfl⟩
  iterate 3 refine s1_ ?_
  refine su_ [(0,_),(1,_),(4,_),(5,_),(8,_),(14,_)] ?_
  refine cF_ ?_
  iterate 10 refine s1_ ?_
  refine ⟨_,_,⟨_,_,rfl,⟨_,_,rfl,rfl,rfl⟩,rfl⟩,Mem.Less.refl _,?_⟩
  exact ⟨rfl,o,by have:=h.set (r':=addD r x) rfl;unfold gatB addD at this;rw [← hY] at this;unfold addD;rw [← hY];exact this⟩
 ·have hcl:(close r).out.length+(close r).n≤500:=by
   unfold add at hn
   rw [if_neg h2] at hn
   split at hn
   ·exact hn
   ·rw [List.length_append] at hn
    show _+0≤500
    simp only at hn;omega
  have hc:=zr_close B b pv r M o h (by
   have:(close r).out.length=r.out.length+r.n:=by unfold close;rw [List.length_append,List.length_replicate]
   rw [this] at hcl;omega)
  by_cases h3:x=257
  ·have hadd:add r x=close r:=by unfold add;rw [if_neg h2,if_pos h3]
   rw [hadd,decide_eq_true h3]
   refine ACall.enter (rs:=[.tmp 4,.tmp 5]) 49 [(0,.pointer (some ⟨b,0,none⟩)),(1,.int .u64 (x:Int))] Tryz.func80 rfl rfl (Nat.le_of_ble_eq_true rfl) rfl ⟨rfl,rfl,trivial⟩ ?_
   iterate 13 refine s1_ ?_
   refine su_ [(0,_),(1,_),(4,_),(5,_),(8,_)] ?_
   refine cF_ ?_
   iterate 6 refine s1_ ?_
   refine ca_ rfl (hc) ?_
   rintro v M1 ⟨rfl,o1,q⟩
   iterate 3 refine s1_ ?_
   refine su_ [(0,_),(1,_),(4,_),(5,_),(8,_),(6,_)] ?_
   iterate 6 refine s1_ ?_
   refine su_ [(0,_),(1,_),(4,_),(5,_),(8,_),(6,_),(22,_)] ?_
   refine cF_ ?_
   iterate 11 refine s1_ ?_
   refine su_ [(0,_),(1,_),(4,_),(5,_),(8,_),(6,_),(22,_),(24,_)] ?_
   refine cF_ ?_
   iterate 7 refine s1_ ?_
   refine su_ [(0,_),(1,_),(4,_),(5,_),(8,_),(6,_),(22,_),(24,_),(27,_)] ?_
   refine cT_ ?_
   iterate 9 refine s1_ ?_
   refine ⟨_,_,⟨_,_,rfl,⟨_,_,rfl,rfl,rfl⟩,rfl⟩,Mem.Less.refl _,?_⟩
   exact ⟨rfl,o1,q⟩
  ·have hadd:add r x=⟨(close r).out ++ [UInt8.ofNat (x-1)],0,0⟩:=by unfold add;rw [if_neg h2,if_neg h3]
   rw [hadd,decide_eq_false h3]
   refine ACall.enter (rs:=[.tmp 4,.tmp 5]) 49 [(0,.pointer (some ⟨b,0,none⟩)),(1,.int .u64 (x:Int))] Tryz.func80 rfl rfl (Nat.le_of_ble_eq_true rfl) rfl ⟨rfl,rfl,trivial⟩ ?_
   iterate 13 refine s1_ ?_
   refine su_ [(0,_),(1,_),(4,_),(5,_),(8,_)] ?_
   refine cF_ ?_
   iterate 6 refine s1_ ?_
   refine ca_ rfl (hc) ?_
   rintro v M1 ⟨rfl,o1,q⟩
   have q1:=q.at_;obtain ⟨oa,oc,hoe⟩:=outV_gro q.gro (cellsB_length _);unfold gatB at q1;rw [hoe] at q1
   iterate 3 refine s1_ ?_
   refine su_ [(0,_),(1,_),(4,_),(5,_),(8,_),(6,_)] ?_
   iterate 6 refine s1_ ?_
   refine su_ [(0,_),(1,_),(4,_),(5,_),(8,_),(6,_),(22,_)] ?_
   refine cF_ ?_
   iterate 11 refine s1_ ?_
   refine su_ [(0,_),(1,_),(4,_),(5,_),(8,_),(6,_),(22,_),(24,_)] ?_
   refine cF_ ?_
   iterate 7 refine s1_ ?_
   refine su_ [(0,_),(1,_),(4,_),(5,_),(8,_),(6,_),(22,_),(24,_),(27,_)] ?_
   refine cF_ ?_
   iterate 11 refine s1_ ?_
   refine su_ [(0,_),(1,_),(4,_),(5,_),(8,_),(6,_),(22,_),(24,_),(27,_),(30,_)] ?_
   refine cF_ ?_
   iterate 13 refine s1_ ?_
   refine ARun.build1s (lit_lt rfl) ty_sl_51 rfl rfl ?_
   intro b45 f45
   have g45:=f45
   repeat ((with_reducible replace g45:=fresh_set g45);obtain ⟨g45,_⟩:=g45)
   refine ARun.appendG (lit_lt rfl) ty_sl_51 (by rw [hoe];rfl) (cellsB_length _) (q.gro.set _ (groAway q.gro f45)) rfl rds_ rfl (by omega) (by simp [Value.oneCell']) (by omega) (by omega) ?_
   intro b46 c46 M2 hg hl
   have hq:(M1.set b45 ⟨5,[.int .u8 ((x:Int)-1)],1⟩).own b=some ⟨105,[.slice oa (close r).out.length oc,.int .u64 ((close r).n:Int),.int .u64 ((close r).by_:Int),pv],4⟩:=(Mem.own_set_other _ _ (f45.ne q1)).trans q1
   obtain ⟨h1,h4⟩:=hl.at_ hq q.aw
   rw [cellsB_one _ h2 h3 hx] at hg
   iterate 2 refine s1_ ?_
   refine ARun.store1 rfl rfl ty_size_51 (ouV_cells _ _) h1 (by show 0<4;decide) (ouV_one _ _) ?_
   try simp only [k_ms,k_sz,k_ss,k_za,Nat.reduceAdd]
   iterate 2 refine s1_ ?_
   refine su_ [(0,_),(1,_),(4,_),(5,_),(8,_),(6,_),(22,_),(24,_),(27,_),(30,_)] ?_
   iterate 7 refine s1_ ?_
   refine ⟨_,_,⟨_,_,rfl,⟨_,_,rfl,rfl,rfl⟩,rfl⟩,Mem.Less.refl _,?_⟩
   exact ⟨rfl,some (b46,c46),by have:=(q.temp f45 _).grow (r':=⟨(close r).out ++ [UInt8.ofNat (x-1)],0,0⟩) hl.leave hg;unfold gatB at this;rw [List.length_append] at this;exact this⟩
end Zr
end Go.Proofs.YtckloanlkpchoaaGreatDoor
namespace Go.Proofs.YtckloanlkpchoaaGreatDoor
open Go.RowKit
open Mv
set_option maxRecDepth 4000
namespace Mv
theorem Calm.mkI {P : Program} {N : Nat} {E : Env} {S : Mem} {dst : Option Nat} {T ty : TypeId} {pos : String} {aft : Array Edge} {gd : Option (Nat × Bool)} {x : Operand} {v : Value} (hT : P.concrete T = true) (hx : ev E x = some v) : ACalm P N ⟨dst, .makeInterface T x, ty, pos, aft, gd⟩ E S (.iface T v) := fun a w g hv => by
 simp only [execOp,g.ev hx]
 rw [Sem.run_bind,run_makeInterface (h:=hT)]
 rfl
end Mv
namespace Er
theorem under : Tryz.prog.underlying 47 = some (.interface (Tryz.prog.methodsAt 47)) := by kernel_rfl
theorem eqNil {x : Operand} {c : Value} : Bin Tryz.prog .eql 47 x (.const c) .nilIface .nilIface (.bool true) := fun w => by
 have:=run_eql_nil_nil (P:=Tryz.prog) (w:=w) 47 under
 simpa [eqGuard] using this
theorem neNil {x : Operand} {c : Value} : Bin Tryz.prog .neq 47 x (.const c) .nilIface .nilIface (.bool false) := fun w => by
 have:=run_neq_nil_nil (P:=Tryz.prog) (w:=w) 47 under
 simpa [eqGuard] using this
theorem eqHeld {x y : Operand} (T : TypeId) (v : Value) : Bin Tryz.prog .eql 47 x y .nilIface (.iface T v) (.bool false) := fun w => by
 have:=run_eql_iface_nil_left (P:=Tryz.prog) (w:=w) T v under
 simpa [eqGuard] using this
theorem goIs : goFn Tryz.prog 78 = true := by kernel_rfl
instance : TGo Tryz.prog 78 := ⟨goIs⟩
theorem goAs : goFn Tryz.prog 38 = true := by kernel_rfl
instance : TGo Tryz.prog 38 := ⟨goAs⟩
theorem isNil (T : TypeId) (v : Value) (S : Mem) : ACall Tryz.prog 78 #[.nilIface, .iface T v] S fun r S' => r = .bool false ∧ S' = S := by
 refine ACall.enter (rs:=[.tmp 4]) 22 [(0,.nilIface),(1,.iface T v)] Tryz.func78 rfl rfl (Nat.le_of_ble_eq_true rfl) rfl ⟨rfl,rfl,trivial⟩ ?_
 iterate 9 refine s1_ ?_
 refine rC (Calm.bin rfl rfl eqNil) ?_
 iterate 2 refine s1_ ?_
 first|refine k_q 8 ?_|refine rG 8 (Calm.bin rfl rfl eqNil) ?_
 iterate 3 refine s1_ ?_
 refine su_ [(0,_),(1,_),(4,_),(11,_)] ?_
 refine cT_ ?_
 iterate 4 refine s1_ ?_
 refine rC (Calm.bin rfl rfl (eqHeld _ _)) ?_
 iterate 3 refine s1_ ?_
 refine su_ [(0,_),(1,_),(4,_),(11,_)] ?_
 iterate 2 refine s1_ ?_
 refine ⟨_,S,⟨_,_,rfl,rfl,rfl⟩,less_,?_⟩
 exact ⟨rfl,rfl⟩
theorem asNil (t : Value) (S : Mem) : ACall Tryz.prog 38 #[.nilIface, t] S fun r S' => r = .bool false ∧ S' = S := by
 refine ACall.enter (rs:=[.tmp 4]) 42 [(0,.nilIface),(1,t)] Tryz.func38 rfl rfl (Nat.le_of_ble_eq_true rfl) rfl ⟨rfl,rfl,trivial⟩ ?_
 iterate 9 refine s1_ ?_
 refine rC (Calm.bin rfl rfl eqNil) ?_
 iterate 2 refine s1_ ?_
 refine su_ [(0,_),(1,_),(4,_),(9,_)] ?_
 refine cT_ ?_
 iterate 7 refine s1_ ?_
 refine ⟨_,S,⟨_,_,rfl,rfl,rfl⟩,less_,?_⟩
 exact ⟨rfl,rfl⟩
end Er
end Go.Proofs.YtckloanlkpchoaaGreatDoor
namespace Go.Proofs.YtckloanlkpchoaaGreatDoor
open Go.RowKit
open Mv Bits
set_option maxRecDepth 4000
namespace Tb
def rdB (s : ByteArray) (N at_ : Nat) : Blk := ⟨156, [.string s, .int .i64 (N : Int), .int .i64 (at_ : Int)], 3⟩
theorem slc_cons (B : List UInt8) (p n : Nat) : slc B p (n + 1) = isBit B p :: slc B (p + 1) n := by
 rw [Nat.add_comm n 1,slc_add];rfl
theorem num_one (B : List UInt8) (p : Nat) : num (slc B p 1) = if isBit B p = true then 1 else 0 := by
 rw [slc_cons,slc_zero]
 cases isBit B p <;> rfl
theorem tb_take (b n at_ N : Nat) (s : ByteArray) (S : Mem) (hb : S.own b = some (rdB s N at_)) (hs : s.size ≤ 200000) (hN : N ≤ 8 * s.size) (hn : n ≤ 15) (ha : at_ + n ≤ N) :
  ACall Tryz.prog 109 #[.pointer (some ⟨b,0,none⟩),.int .i64 (n:Int)] S fun r S'=>r = .tuple #[.int .i64 ((num (slc s.data.toList at_ n):Nat):Int),.nilIface]∧S'=S.set b (rdB s N (at_+n)):=by
 have hAt:=fun w=>bits_At s hs N (at_:Int) (n:Int) w (by omega) (by omega) (by omega) (by omega)
 rw [Int.toNat_natCast,Int.toNat_natCast] at hAt
 have hlt:=num_lt (slc s.data.toList at_ n)
 rw [slc_length] at hlt
 have hp:2 ^ n≤2 ^ 15:=Nat.pow_le_pow_right (by decide) hn
 generalize num (slc s.data.toList at_ n)=m at *
 unfold rdB at hb
 refine ACall.enter (rs:=[.tmp 4,.tmp 5]) 40 [(0,.pointer (some ⟨b,0,none⟩)),(1,.int .i64 (n:Int))] Tryz.func109 rfl rfl (Nat.le_of_ble_eq_true rfl) rfl ⟨rfl,rfl,trivial⟩ ?_
 iterate 8 refine s1_ ?_
 refine AWP.draw [(0,true),(1,true),(2,true),(3,true),(4,true),(5,true),(6,true),(7,true),(8,true),(9,true),(10,true),(11,true)] [] mixed (by kernel_rfl) ?_
 iterate 14 refine s1_ ?_
 refine su_ [(0,_),(1,_),(4,_),(5,_),(18,_)] ?_
 refine cF_ ?_
 iterate 3 refine s1_ ?_
 refine AWP.draw [(0,true),(1,true),(2,true),(3,true),(4,true),(5,true),(6,true),(7,true),(8,true),(9,false),(10,true)] [] mixed (by kernel_rfl) ?_
 iterate 9 refine s1_ ?_
 refine draw_only rfl ?_
 refine ca_ rfl (ACall.of_calls fun w=>hAt w) ?_
 rintro _ _ ⟨rfl,rfl⟩
 refine arun_nil ⟨fun _=>less_,?_⟩
 iterate 3 refine s1_ ?_
 refine su_ [(0,_),(1,_),(4,_),(5,_),(18,_),(6,_)] ?_
 iterate 13 refine s1_ ?_
 refine su_ [(0,_),(1,_),(4,_),(5,_),(18,_),(6,_)] ?_
 iterate 8 refine s1_ ?_
 refine su_ [(0,_),(1,_),(4,_),(5,_),(18,_),(6,_)] ?_
 refine s1_ ?_
 refine ⟨_,_,⟨_,_,rfl,⟨_,_,rfl,rfl,rfl⟩,rfl⟩,Mem.Less.refl _,?_⟩
 exact ⟨rfl,rfl⟩
theorem una_neg {P : Program} {n m : Int} (h : IntKind.i64.wrap (0 - n) = m) : Una P .neg (.int .i64 n) (.int .i64 m) := fun w => by subst h; simp [Op.unary, Op.intArith]
set_option maxHeartbeats 4000000 in
theorem tb_next (b now u d at_ N : Nat) (s : ByteArray) (S : Mem) (hs : s.size ≤ 200000) (hN : N ≤ 8 * s.size) (hud : u = 0 ∨ d = 0) (h15 : now + u ≤ 15) (hd : d ≤ now) (ha : at_ + (2 * u + 2 * d + 1) ≤ N) (hb : slc s.data.toList at_ (2 * u + 2 * d + 1) = up u ++ dn d ++ [false]) :
  ACall Tryz.prog 110 #[.pointer (some ⟨b,0,none⟩),.int .i64 (now:Int)] (S.set b (rdB s N at_)) fun r S'=>r = .tuple #[.int .i64 ((now+u-d:Nat):Int),.nilIface]∧S'=S.set b (rdB s N (at_+(2*u+2*d+1))):=by
 obtain ⟨fin,hfin⟩ : ∃ fin,fin=at_+(2*u+2*d+1):=⟨_,rfl⟩
 obtain ⟨res,hres⟩ : ∃ res,res=now+u-d:=⟨_,rfl⟩
 rw [← hfin] at ha ⊢
 rw [← hres]
 refine ACall.enter (rs:=[.tmp 4,.tmp 5]) 52 [(0,.pointer (some ⟨b,0,none⟩)),(1,.int .i64 (now:Int))] Tryz.func110 rfl rfl (Nat.le_of_ble_eq_true rfl) rfl ⟨rfl,rfl,trivial⟩ ?_
 iterate 12 refine s1_ ?_
 refine AWP.loop (X:=Nat × Nat × Nat × Nat × Int) (fun x=>[(0,.pointer (some ⟨b,0,none⟩)),(1,.int .i64 (x.2.2.1:Int)),(4,.int .i64 0),(5,.nilIface),(6,.int .i64 x.2.2.2.2)]) (fun x=>S.set b (rdB s N x.2.2.2.1)) (fun x=>(x.1=0∨x.2.1=0)∧x.2.2.1+x.1≤15∧x.2.1≤x.2.2.1∧x.2.2.2.1+(2*x.1+2*x.2.1+1)=fin∧x.2.2.1+x.1-x.2.1=res∧slc s.data.toList x.2.2.2.1 (2*x.1+2*x.2.1+1)=up x.1 ++ dn x.2.1 ++ [false] ∧ -1≤x.2.2.2.2∧x.2.2.2.2≤1∧(x.2.2.2.2=1→x.2.1=0)∧(x.2.2.2.2 = -1→x.1=0)) (fun x=>x.1+x.2.1) ((u,d,now,at_,0)) ⟨rfl,rfl,rfl,rfl,rfl,trivial⟩ (Mem.Less.refl _) (⟨hud,h15,hd,hfin.symm,hres.symm,hb,(show (-1:Int)≤0 by decide),(show (0:Int)≤1 by decide),fun h=>absurd h (show ¬ (0:Int)=1 by decide),fun h=>absurd h (show ¬ (0:Int) = -1 by decide)⟩) ?_
 rintro ⟨u,d,now,at_,way⟩ ⟨hud,h15,hd,hfin,hres,hb,hw1,hw2,hw3,hw4⟩
 (try dsimp only at *)
 by_cases q:u=0∧d=0
 ·obtain ⟨rfl,rfl⟩:=q
  have hb1:isBit s.data.toList at_=false:=by rw [slc_cons,slc_zero] at hb;exact (List.cons.inj hb).1
  have hn1:num (slc s.data.toList at_ 1)=0:=by rw [num_one,hb1];rfl
  have ht:=tb_take b 1 at_ N s _ (Mem.own_set_same S b _) hs hN (by decide) (by omega)
  rw [hn1,Mem.set_set] at ht
  iterate 4 refine s1_ ?_
  refine ca_ rfl (ht) ?_
  rintro _ _ ⟨rfl,rfl⟩
  iterate 7 refine s1_ ?_
  refine su_ [(0,_),(1,_),(4,_),(5,_),(6,_),(7,_),(8,_)] ?_
  iterate 4 refine s1_ ?_
  refine rC (Calm.bin rfl rfl Er.neNil) ?_
  iterate 6 refine s1_ ?_
  refine su_ [(0,_),(1,_),(4,_),(5,_),(6,_),(7,_),(8,_),(21,_)] ?_
  refine cT_ ?_
  iterate 8 refine s1_ ?_
  refine su_ [(0,_),(1,_),(4,_),(5,_),(6,_),(7,_),(8,_),(21,_)] ?_
  iterate 5 refine s1_ ?_
  refine ⟨_,_,⟨_,_,rfl,⟨_,_,rfl,rfl,rfl⟩,rfl⟩,Mem.Less.refl _,?_⟩
  exact ⟨by rw [show res=now from by omega];rfl,by rw [← hfin]⟩
 ·obtain ⟨m,hm⟩ : ∃ m,2*u+2*d+1=m+1+1:=⟨2*u+2*d-1,by omega⟩
  rw [hm,slc_cons,slc_cons] at hb
  by_cases qu:u=0
  ·subst qu
   rw [show up 0 = [] from rfl,dn_pos (show 0<d by omega)] at hb
   have h0:=List.cons.inj hb
   have h1:=List.cons.inj h0.2
   have hn1:num (slc s.data.toList at_ 1)=1:=by rw [num_one,h0.1];rfl
   have hn2:num (slc s.data.toList (at_+1) 1)=1:=by rw [num_one,h1.1];rfl
   have ht:=tb_take b 1 at_ N s _ (Mem.own_set_same S b _) hs hN (by decide) (by omega)
   rw [hn1,Mem.set_set] at ht
   have ht2:=tb_take b 1 (at_+1) N s _ (Mem.own_set_same S b _) hs hN (by decide) (by omega)
   rw [hn2,Mem.set_set] at ht2
   iterate 4 refine s1_ ?_
   refine ca_ rfl (ht) ?_
   rintro _ _ ⟨rfl,rfl⟩
   iterate 7 refine s1_ ?_
   refine su_ [(0,_),(1,_),(4,_),(5,_),(6,_),(7,_),(8,_)] ?_
   iterate 4 refine s1_ ?_
   refine rC (Calm.bin rfl rfl Er.neNil) ?_
   iterate 6 refine s1_ ?_
   refine su_ [(0,_),(1,_),(4,_),(5,_),(6,_),(7,_),(8,_),(21,_)] ?_
   refine cF_ ?_
   iterate 5 refine s1_ ?_
   refine ca_ rfl (ht2) ?_
   rintro _ _ ⟨rfl,rfl⟩
   iterate 7 refine s1_ ?_
   refine su_ [(0,_),(1,_),(4,_),(5,_),(6,_),(7,_),(8,_),(21,_),(9,_)] ?_
   iterate 4 refine s1_ ?_
   refine rC (Calm.bin rfl rfl Er.neNil) ?_
   iterate 2 refine s1_ ?_
   refine su_ [(0,_),(1,_),(4,_),(5,_),(6,_),(7,_),(8,_),(21,_),(9,_),(30,_)] ?_
   refine cF_ ?_
   iterate 25 refine s1_ ?_
   refine su_ [(0,_),(1,_),(4,_),(5,_),(6,_),(7,_),(8,_),(21,_),(9,_),(30,_),(10,_),(32,_),(33,_)] ?_
   refine cT_ ?_
   iterate 17 refine s1_ ?_
   refine su_ [(0,_),(1,_),(4,_),(5,_),(6,_),(7,_),(8,_),(21,_),(9,_),(30,_),(10,_),(32,_),(33,_)] ?_
   iterate 15 refine s1_ ?_
   first|refine k_q 44 ?_|refine rG 44 (Calm.un rfl (una_neg (show IntKind.i64.wrap (0 - -1)=1 from by decide))) ?_
   first|refine k_q 44 ?_|refine rG 44 (Calm.bin rfl rfl (bin_bool (bin_eql _ _) (decide_eq_false (by omega)))) ?_
   iterate 3 refine s1_ ?_
   refine su_ [(0,_),(1,_),(4,_),(5,_),(6,_),(7,_),(8,_),(21,_),(9,_),(30,_),(10,_),(32,_),(33,_),(49,_)] ?_
   refine cF_ ?_
   iterate 8 refine s1_ ?_
   refine ⟨(0,d-1,now-1,at_+1+1,-1),?_,?_,?_,?_⟩
   all_goals (try dsimp only)
   ·exact ⟨rfl,some_int (by omega),rfl,rfl,rfl,trivial⟩
   ·exact Mem.Less.refl _
   ·exact ⟨.inl rfl,by omega,by omega,by omega,by omega,by rw [show 2*0+2*(d-1)+1=m from by omega,h1.2];rfl,by decide,by decide,fun h=>absurd h (by decide),fun _=>rfl⟩
   ·omega
  ·obtain rfl:d=0:=by omega
   rw [show dn 0 = [] from rfl,up_pos (show 0<u by omega)] at hb
   have h0:=List.cons.inj hb
   have h1:=List.cons.inj h0.2
   have hn1:num (slc s.data.toList at_ 1)=1:=by rw [num_one,h0.1];rfl
   have hn2:num (slc s.data.toList (at_+1) 1)=0:=by rw [num_one,h1.1];rfl
   have ht:=tb_take b 1 at_ N s _ (Mem.own_set_same S b _) hs hN (by decide) (by omega)
   rw [hn1,Mem.set_set] at ht
   have ht2:=tb_take b 1 (at_+1) N s _ (Mem.own_set_same S b _) hs hN (by decide) (by omega)
   rw [hn2,Mem.set_set] at ht2
   iterate 4 refine s1_ ?_
   refine ca_ rfl (ht) ?_
   rintro _ _ ⟨rfl,rfl⟩
   iterate 7 refine s1_ ?_
   refine su_ [(0,_),(1,_),(4,_),(5,_),(6,_),(7,_),(8,_)] ?_
   iterate 4 refine s1_ ?_
   refine rC (Calm.bin rfl rfl Er.neNil) ?_
   iterate 6 refine s1_ ?_
   refine su_ [(0,_),(1,_),(4,_),(5,_),(6,_),(7,_),(8,_),(21,_)] ?_
   refine cF_ ?_
   iterate 5 refine s1_ ?_
   refine ca_ rfl (ht2) ?_
   rintro _ _ ⟨rfl,rfl⟩
   iterate 7 refine s1_ ?_
   refine su_ [(0,_),(1,_),(4,_),(5,_),(6,_),(7,_),(8,_),(21,_),(9,_)] ?_
   iterate 4 refine s1_ ?_
   refine rC (Calm.bin rfl rfl Er.neNil) ?_
   iterate 2 refine s1_ ?_
   refine su_ [(0,_),(1,_),(4,_),(5,_),(6,_),(7,_),(8,_),(21,_),(9,_),(30,_)] ?_
   refine cF_ ?_
   iterate 25 refine s1_ ?_
   refine su_ [(0,_),(1,_),(4,_),(5,_),(6,_),(7,_),(8,_),(21,_),(9,_),(30,_),(10,_),(32,_),(33,_)] ?_
   refine cF_ ?_
   iterate 15 refine s1_ ?_
   refine su_ [(0,_),(1,_),(4,_),(5,_),(6,_),(7,_),(8,_),(21,_),(9,_),(30,_),(10,_),(32,_),(33,_)] ?_
   iterate 15 refine s1_ ?_
   first|refine k_q 44 ?_|refine rG 44 (Calm.un rfl (una_neg (show IntKind.i64.wrap (0-1) = -1 from by decide))) ?_
   first|refine k_q 44 ?_|refine rG 44 (Calm.bin rfl rfl (bin_bool (bin_eql _ _) (decide_eq_false (by omega)))) ?_
   iterate 3 refine s1_ ?_
   refine su_ [(0,_),(1,_),(4,_),(5,_),(6,_),(7,_),(8,_),(21,_),(9,_),(30,_),(10,_),(32,_),(33,_),(49,_)] ?_
   refine cF_ ?_
   iterate 8 refine s1_ ?_
   refine ⟨(u-1,0,now+1,at_+1+1,1),?_,?_,?_,?_⟩
   all_goals (try dsimp only)
   ·exact ⟨rfl,some_int (by omega),rfl,rfl,rfl,trivial⟩
   ·exact Mem.Less.refl _
   ·exact ⟨.inr rfl,by omega,by omega,by omega,by omega,by rw [show 2*(u-1)+2*0+1=m from by omega,h1.2];rfl,by decide,by decide,fun _=>rfl,fun h=>absurd h (by decide)⟩
   ·omega
end Tb
end Go.Proofs.YtckloanlkpchoaaGreatDoor
namespace Go.Proofs.YtckloanlkpchoaaGreatDoor
open Go.RowKit
open Mv Bits
set_option maxRecDepth 4000
namespace Tb
theorem tb_nextO (b now y at_ N : Nat) (s : ByteArray) (rest : List Bool) (M : Mem) (hb : M.own b = some (rdB s N at_)) (hs : s.size ≤ 200000) (hN : N ≤ 8 * s.size) (hn : now ≤ 15) (hy : y ≤ 15) (ha : at_ + (up (y - now) ++ dn (now - y) ++ [false] ++ rest).length ≤ N) (hsl : slc s.data.toList at_ (up (y - now) ++ dn (now - y) ++ [false] ++ rest).length = up (y - now) ++ dn (now - y) ++ [false] ++ rest) :
  ∃ k,at_+(up (y-now) ++ dn (now-y) ++ [false] ++ rest).length=k+rest.length∧slc s.data.toList k rest.length=rest∧ACall Tryz.prog 110 #[.pointer (some ⟨b,0,none⟩),.int .i64 (now:Int)] M fun r S'=>r = .tuple #[.int .i64 (y:Int),.nilIface]∧S'=M.set b (rdB s N k):=by
 have hl:(up (y-now) ++ dn (now-y) ++ [false]).length=2*(y-now)+2*(now-y)+1:=by rw [List.length_append,List.length_append,up_length,dn_length];rfl
 rw [List.length_append,hl] at ha hsl
 rw [List.length_append,hl]
 rw [slc_add] at hsl
 obtain ⟨h1,h2⟩:=List.append_inj hsl (by rw [slc_length,hl])
 refine ⟨at_+(2*(y-now)+2*(now-y)+1),by omega,h2,?_⟩
 have:=tb_next b now (y-now) (now-y) at_ N s M hs hN (by omega) (by omega) (by omega) (by omega) h1
 rw [Mem.set_same _ _ _ hb,show now+(y-now)-(now-y)=y from by omega] at this
 exact this
theorem zeros_made (n : Nat) : madeL [Value.int .i64 0] n = ([] : List Nat).map gI ++ List.replicate (n - 0) (gI 0) := by rw [madeL_one]; rfl
set_option maxHeartbeats 4000000 in
theorem tb_lengths (b at_ N : Nat) (s : ByteArray) (ls : List Nat) (S : Mem) (hb : S.own b = some (rdB s N at_)) (hs : s.size ≤ 200000) (hN : N ≤ 8 * s.size) (h0 : 0 < ls.length) (h5 : ls.length ≤ 512) (h15 : ∀ x ∈ ls, x ≤ 15) (hu : Cn.used ls 15 = 32768) (ha : at_ + (tbl ls).length ≤ N) (hsl : slc s.data.toList at_ (tbl ls).length = tbl ls) :
  ACall Tryz.prog 77 #[.pointer (some ⟨b,0,none⟩),.int .i64 (ls.length:Int)] S fun r S'=>∃ bo,Fresh S bo∧r = .tuple #[.slice (some ⟨bo,0,none⟩) ls.length ls.length,.nilIface]∧S'=(S.set bo ⟨3,ls.map gI,ls.length⟩).set b (rdB s N (at_+(tbl ls).length)):=by
 have hhd:=headD_drop h0
 have hx0:=h15 _ (List.getElem_mem h0)
 obtain ⟨fin,hfin⟩ : ∃ fin,fin=at_+(tbl ls).length:=⟨_,rfl⟩
 rw [← hfin] at ha ⊢
 have htl:(tbl ls).length=4+(go ls[0] ls).length:=by unfold tbl;rw [List.length_append,numB_length,hhd]
 rw [htl] at hsl hfin
 rw [slc_add,show tbl ls=numB ls[0] 4 ++ go ls[0] ls from by unfold tbl;rw [hhd]] at hsl
 obtain ⟨e1,e2⟩:=List.append_inj hsl (by rw [slc_length,numB_length])
 have hn4:num (slc s.data.toList at_ 4)=ls[0]:=by rw [e1,num_numB,Nat.mod_eq_of_lt (by omega)]
 have ht:=tb_take b 4 at_ N s S hb hs hN (by decide) (by omega)
 rw [hn4] at ht
 refine ACall.enter (rs:=[.tmp 4,.tmp 5]) 59 [(0,.pointer (some ⟨b,0,none⟩)),(1,.int .i64 (ls.length:Int))] Tryz.func77 rfl rfl (Nat.le_of_ble_eq_true rfl) rfl ⟨rfl,rfl,trivial⟩ ?_
 iterate 9 refine s1_ ?_
 refine ca_ rfl (ht) ?_
 rintro _ _ ⟨rfl,rfl⟩
 iterate 7 refine s1_ ?_
 refine su_ [(0,_),(1,_),(4,_),(5,_),(6,_),(7,_)] ?_
 iterate 4 refine s1_ ?_
 refine rC (Calm.bin rfl rfl Er.neNil) ?_
 iterate 2 refine s1_ ?_
 refine su_ [(0,_),(1,_),(4,_),(5,_),(6,_),(7,_),(18,_)] ?_
 refine cF_ ?_
 iterate 5 refine s1_ ?_
 refine ARun.makeSlice (lit_lt rfl) ty_sl_52 rfl rfl (by omega) (by omega) (by omega) (by omega) ?_
 intro b21 f21
 have g21:=f21
 repeat ((with_reducible replace g21:=fresh_set g21);obtain ⟨g21,_⟩:=g21)
 have:=g21.ne hb;have:=g21.ne' hb
 iterate 3 refine s1_ ?_
 refine su_ [(0,_),(1,_),(4,_),(5,_),(6,_),(7,_),(18,_),(8,_)] ?_
 have hf:=(fresh_set f21).1
 have hne:=(fresh_set f21).2
 refine AWP.less ((S.set b21 ⟨3,([] : List Nat).map gI ++ List.replicate (ls.length-0) (gI 0),ls.length⟩).set b (rdB s N (at_+4))) (by rw [← zeros_made,Mem.set_comm _ _ _ hne,show ((ls.length:Int)).toNat*1=ls.length from by omega];exact Mem.Less.refl _) ?_
 iterate 8 refine s1_ ?_
 refine su_ [(0,_),(1,_),(4,_),(5,_),(6,_),(7,_),(18,_),(8,_),(23,_),(24,_)] ?_
 refine s1_ ?_
 refine AWP.loop (X:=Nat × Nat × Nat) (fun x=>[(0,.pointer (some ⟨b,0,none⟩)),(6,.int .i64 (x.2.1:Int)),(8,.slice (some ⟨b21,0,none⟩) ls.length ls.length),(23,.int .i64 (ls.length:Int)),(24,.int .i64 (x.1:Int))]) (fun x=>(S.set b21 ⟨3,(ls.take x.1).map gI ++ List.replicate (ls.length-x.1) (gI 0),ls.length⟩).set b (rdB s N x.2.2)) (fun x=>x.1≤ls.length∧x.2.1≤15∧(x.1=0→x.2.1=ls[0])∧x.2.2+(go x.2.1 (ls.drop x.1)).length=fin∧slc s.data.toList x.2.2 (go x.2.1 (ls.drop x.1)).length=go x.2.1 (ls.drop x.1)) (fun x=>ls.length-x.1) ((0,ls[0],at_+4)) ⟨rfl,rfl,rfl,rfl,rfl,trivial⟩ (Mem.Less.refl _) (⟨Nat.zero_le _,hx0,fun _=>rfl,by show at_+4+(go ls[0] ls).length=fin;omega,e2⟩) ?_
 rintro ⟨i,now,k⟩ ⟨hi,hnow,hfst,hk,hks⟩
 (try dsimp only at *)
 by_cases q:i<ls.length
 ·have hy:=h15 _ (List.getElem_mem q)
  have hy0:i=0→now=ls[i]:=fun e=>by subst e;exact hfst rfl
  have htk:=List.take_succ_eq_append_getElem q
  rw [go_drop q] at hk hks
  generalize ls[i]=y at *
  obtain ⟨k2,hk2,hks2,hnx⟩:=tb_nextO b now y k N s _ ((S.set b21 ⟨3,(ls.take i).map gI ++ List.replicate (ls.length-i) (gI 0),ls.length⟩).set b (rdB s N k)) (Mem.own_set_same _ _ _) hs hN hnow hy (by omega) hks
  rw [Mem.set_set] at hnx
  iterate 6 refine s1_ ?_
  refine cT_ ?_
  iterate 10 refine s1_ ?_
  refine su_ [(0,_),(6,_),(8,_),(23,_),(24,_),(25,_),(9,_)] ?_
  iterate 4 refine s1_ ?_
  refine ca_ rfl (hnx) ?_
  rintro _ _ ⟨rfl,rfl⟩
  iterate 7 refine s1_ ?_
  refine su_ [(0,_),(6,_),(8,_),(23,_),(24,_),(25,_),(9,_),(10,_),(11,_)] ?_
  by_cases hi0:i=0
  ·have hyn:=hy0 hi0
   iterate 4 refine s1_ ?_
   refine rC (Calm.bin rfl rfl Er.eqNil) ?_
   iterate 2 refine s1_ ?_
   first|refine k_q 35 ?_|refine rG 35 (Calm.bin rfl rfl (bin_bool (bin_eql _ _) (decide_eq_true (by omega)))) ?_
   iterate 4 refine s1_ ?_
   first|refine k_q 39 ?_|refine rG 39 (Calm.bin rfl rfl (bin_bool (c:=false) (bin_neq _ _) (by rw [hyn];simp))) ?_
   iterate 3 refine s1_ ?_
   refine su_ [(0,_),(6,_),(8,_),(23,_),(24,_),(25,_),(9,_),(10,_),(11,_),(43,_)] ?_
   refine cF_ ?_
   iterate 6 refine s1_ ?_
   refine rC (Calm.bin rfl rfl Er.neNil) ?_
   iterate 2 refine s1_ ?_
   refine su_ [(0,_),(6,_),(8,_),(23,_),(24,_),(25,_),(9,_),(10,_),(11,_),(43,_),(46,_)] ?_
   refine cF_ ?_
   iterate 9 refine s1_ ?_
   refine ARun.store1 rfl rfl ty_size_3 rfl ((Mem.own_set_other _ _ hne).trans (Mem.own_set_same _ _ _)) (by show 0+(i:Int).toNat*1<((ls.take i).map gI ++ List.replicate (ls.length-i) (gI 0)).length;rw [List.length_append,List.length_map,List.length_take,List.length_replicate];omega) rfl ?_
   try simp only [k_ms,k_sz,k_ss,k_za,Nat.reduceAdd]
   iterate 3 refine s1_ ?_
   refine su_ [(0,_),(6,_),(8,_),(23,_),(24,_),(25,_),(9,_),(10,_),(11,_),(43,_),(46,_)] ?_
   iterate 5 refine s1_ ?_
   refine ⟨(i+1,y,k2),?_,?_,?_,?_⟩
   all_goals (try dsimp only)
   ·exact ⟨rfl,rfl,rfl,rfl,rfl,trivial⟩
   ·(rw [htk,← fill_map gI (ls.take i) 0 ls.length i y (by rw [List.length_take];omega) q,Mem.set_comm _ _ _ (Ne.symm hne),Mem.set_set,show (i:Int).toNat*1=i from by omega];exact Mem.Less.refl _)
   ·exact ⟨q,hy,fun h=>absurd h (Nat.succ_ne_zero _),by omega,hks2⟩
   ·omega
  ·iterate 4 refine s1_ ?_
   refine rC (Calm.bin rfl rfl Er.eqNil) ?_
   iterate 2 refine s1_ ?_
   first|refine k_q 35 ?_|refine rG 35 (Calm.bin rfl rfl (bin_bool (bin_eql _ _) (decide_eq_false (by omega)))) ?_
   iterate 8 refine s1_ ?_
   refine su_ [(0,_),(6,_),(8,_),(23,_),(24,_),(25,_),(9,_),(10,_),(11,_),(43,_)] ?_
   refine cF_ ?_
   iterate 6 refine s1_ ?_
   refine rC (Calm.bin rfl rfl Er.neNil) ?_
   iterate 2 refine s1_ ?_
   refine su_ [(0,_),(6,_),(8,_),(23,_),(24,_),(25,_),(9,_),(10,_),(11,_),(43,_),(46,_)] ?_
   refine cF_ ?_
   iterate 9 refine s1_ ?_
   refine ARun.store1 rfl rfl ty_size_3 rfl ((Mem.own_set_other _ _ hne).trans (Mem.own_set_same _ _ _)) (by show 0+(i:Int).toNat*1<((ls.take i).map gI ++ List.replicate (ls.length-i) (gI 0)).length;rw [List.length_append,List.length_map,List.length_take,List.length_replicate];omega) rfl ?_
   try simp only [k_ms,k_sz,k_ss,k_za,Nat.reduceAdd]
   iterate 3 refine s1_ ?_
   refine su_ [(0,_),(6,_),(8,_),(23,_),(24,_),(25,_),(9,_),(10,_),(11,_),(43,_),(46,_)] ?_
   iterate 5 refine s1_ ?_
   refine ⟨(i+1,y,k2),?_,?_,?_,?_⟩
   all_goals (try dsimp only)
   ·exact ⟨rfl,rfl,rfl,rfl,rfl,trivial⟩
   ·(rw [htk,← fill_map gI (ls.take i) 0 ls.length i y (by rw [List.length_take];omega) q,Mem.set_comm _ _ _ (Ne.symm hne),Mem.set_set,show (i:Int).toNat*1=i from by omega];exact Mem.Less.refl _)
   ·exact ⟨q,hy,fun h=>absurd h (Nat.succ_ne_zero _),by omega,hks2⟩
   ·omega
 ·obtain rfl:i=ls.length:=by omega
  rw [List.drop_length] at hk
  obtain rfl:k=fin:=hk
  rw [List.take_length,Nat.sub_self,List.replicate_zero,List.append_nil]
  iterate 6 refine s1_ ?_
  refine cF_ ?_
  iterate 9 refine s1_ ?_
  refine ca_ rfl (Cn.cn_Check ls _ _ (Sl.own1 (g:=gI) (l:=ls) ((Mem.own_set_other _ _ hne).trans (Mem.own_set_same _ _ _)) List.prefix_rfl rfl (Nat.le_refl _) (by omega)) h15 h5 hu) ?_
  rintro _ S1 ⟨rfl,h1⟩
  rw [h1];clear h1 S1
  iterate 3 refine s1_ ?_
  refine su_ [(0,_),(6,_),(8,_),(23,_),(24,_),(25,_),(56,_)] ?_
  refine cF_ ?_
  iterate 9 refine s1_ ?_
  refine su_ [(0,_),(6,_),(8,_),(23,_),(24,_),(25,_),(56,_),(4,_),(5,_)] ?_
  refine s1_ ?_
  refine ⟨_,_,⟨_,_,rfl,⟨_,_,rfl,rfl,rfl⟩,rfl⟩,Mem.Less.refl _,?_⟩
  exact ⟨b21,hf,rfl,rfl⟩
set_option maxHeartbeats 2000000 in
theorem tb_Read (at_ N : Nat) (s : ByteArray) (ls : List Nat) (S : Mem) (T : TypeId) (ev : Value) (hE : S.Knows ⟨1, 0, none⟩ [.iface T ev]) (hR : right s.data.toList N) (h0 : 0 < ls.length) (h5 : ls.length ≤ 512) (h15 : ∀ x ∈ ls, x ≤ 15) (hu : Cn.used ls 15 = 32768) (ha : at_ + (tbl ls).length ≤ N) (hsl : slc s.data.toList at_ (tbl ls).length = tbl ls) :
  ACall Tryz.prog 44 #[.agg #[.string s,.int .i64 (N:Int)],.int .i64 (at_:Int),.int .i64 (ls.length:Int)] S fun r S'=>∃ v,r = .tuple #[v,.int .i64 ((at_+(tbl ls).length:Nat):Int),.int .i64 0]∧S.Less S'∧IdxR S' v ls:=by
 have hR1:=hR.2.1
 have hsz:s.size=(N+7) / 8:=by rw [Bits.size_list,hR.2.2.1];simp
 have hck:=fun S=>bitsV_Check s (N:Int) S (by omega)
 rw [chk_yes hR] at hck
 refine ACall.enter (rs:=[.tmp 6,.tmp 7,.tmp 8]) 56 [(0,.agg #[.string s,.int .i64 (N:Int)]),(1,.int .i64 (at_:Int)),(2,.int .i64 (ls.length:Int))] Tryz.func44 rfl rfl (Nat.le_of_ble_eq_true rfl) rfl ⟨rfl,rfl,rfl,trivial⟩ ?_
 iterate 2 refine s1_ ?_
 refine ARun.boxA (cs:=[_,_]) (lit_lt rfl) rfl ?_
 intro b3 f3
 have g3:=f3
 repeat ((with_reducible replace g3:=fresh_set g3);obtain ⟨g3,_⟩:=g3)
 refine nl_ ?_
 iterate 9 refine s1_ ?_
 refine ca_ rfl (hck _) ?_
 rintro _ Sx ⟨rfl,h1⟩
 rw [h1];clear h1 Sx
 iterate 3 refine s1_ ?_
 refine su_ [(0,_),(1,_),(2,_),(3,_),(6,_),(7,_),(8,_),(9,_)] ?_
 iterate 6 refine s1_ ?_
 refine su_ [(0,_),(1,_),(2,_),(3,_),(6,_),(7,_),(8,_),(9,_),(16,_)] ?_
 refine cF_ ?_
 iterate 23 refine s1_ ?_
 refine su_ [(0,_),(1,_),(2,_),(3,_),(6,_),(7,_),(8,_),(9,_),(16,_),(33,_)] ?_
 refine cF_ ?_
 iterate 7 refine s1_ ?_
 refine ARun.boxA (cs:=[_,_,_]) (lit_lt rfl) rfl ?_
 intro b37 f37
 have g37:=f37
 repeat ((with_reducible replace g37:=fresh_set g37);obtain ⟨g37,_⟩:=g37)
 refine nl_ ?_
 iterate 3 refine s1_ ?_
 refine su_ [(0,_),(1,_),(2,_),(3,_),(6,_),(7,_),(8,_),(9,_),(16,_),(33,_),(10,_)] ?_
 iterate 4 refine s1_ ?_
 refine ca_ rfl (tb_lengths b37 at_ N s ls _ (Mem.own_set_same _ _ _) (by omega) (by omega) h0 h5 h15 hu ha hsl) ?_
 rintro _ S2 ⟨bo,fo,rfl,hS2⟩
 have hne:bo≠b37:=(fresh_set fo).2
 have hob:(S.set b3 ⟨31,[.string s,.int .i64 (N:Int)],2⟩).own bo=none:=(fresh_set fo).1.1
 have hS:S.Less S2:=by rw [hS2,Mem.set_comm _ _ _ hne,Mem.set_set];exact (Mem.less_set _ _ _ g3.1).trans ((Mem.less_set _ _ _ f37.1).trans (Mem.less_set _ _ _ ((Mem.own_set_other _ _ hne).trans hob)))
 have ho1:S2.own b37=some (rdB s N (at_+(tbl ls).length)):=by rw [hS2];exact Mem.own_set_same _ _ _
 have ho2:S2.own bo=some ⟨3,ls.map gI,ls.length⟩:=by rw [hS2];exact (Mem.own_set_other _ _ hne).trans (Mem.own_set_same _ _ _)
 clear hS2
 unfold rdB at ho1
 iterate 7 refine s1_ ?_
 refine su_ [(0,_),(1,_),(2,_),(3,_),(6,_),(7,_),(8,_),(9,_),(16,_),(33,_),(10,_),(11,_),(12,_)] ?_
 iterate 5 refine s1_ ?_
 refine rC (Calm.loadK ty_plain_47 rfl (hE.less hS)) ?_
 refine ca_ rfl (Er.isNil T ev _) ?_
 rintro _ Sx ⟨rfl,h1⟩
 rw [h1];clear h1 Sx
 iterate 3 refine s1_ ?_
 refine su_ [(0,_),(1,_),(2,_),(3,_),(6,_),(7,_),(8,_),(9,_),(16,_),(33,_),(10,_),(11,_),(12,_),(44,_)] ?_
 refine cF_ ?_
 iterate 3 refine s1_ ?_
 refine rC (Calm.bin rfl rfl Er.neNil) ?_
 iterate 3 refine s1_ ?_
 refine su_ [(0,_),(1,_),(2,_),(3,_),(6,_),(7,_),(8,_),(9,_),(16,_),(33,_),(10,_),(11,_),(12,_),(44,_),(48,_)] ?_
 refine cF_ ?_
 iterate 4 refine s1_ ?_
 refine AWP.draw [(0,true),(1,true),(2,true),(3,true),(4,true),(5,true),(6,true),(7,true)] [] mixed (by kernel_rfl) ?_
 iterate 10 refine s1_ ?_
 refine su_ [(0,_),(1,_),(2,_),(3,_),(6,_),(7,_),(8,_),(9,_),(16,_),(33,_),(10,_),(11,_),(12,_),(44,_),(48,_)] ?_
 refine s1_ ?_
 refine ⟨_,_,⟨_,_,rfl,⟨_,_,rfl,⟨_,_,rfl,rfl,rfl⟩,rfl⟩,rfl⟩,Mem.Less.refl _,?_⟩
 exact ⟨_,rfl,hS,Sl.own1 (g:=gI) (l:=ls) ho2 List.prefix_rfl rfl (Nat.le_refl _) (by omega)⟩
end Tb
end Go.Proofs.YtckloanlkpchoaaGreatDoor
namespace Go.Proofs.YtckloanlkpchoaaGreatDoor
open Go.RowKit
open Mv Bits
set_option maxRecDepth 4000
namespace Zr
theorem enc_last : ∀ (t : List UInt8) (n : Nat), ∃ l, enc t n = l ++ [257] ∧ ∀ x ∈ l, x ≠ 257
 | [],n=>⟨digits n,by unfold enc;rfl,fun x hx=>by have:=digits_lt n x hx;omega⟩
 | c :: t,n=>by
  unfold enc
  split
  ·exact enc_last t (n+1)
  ·obtain ⟨l,h1,h2⟩:=enc_last t 0
   refine ⟨digits n ++ [c.toNat+1] ++ l,by rw [h1,List.append_assoc,List.append_assoc,List.append_assoc],fun x hx=>?_⟩
   rcases List.mem_append.1 hx with hx | hx
   ·rcases List.mem_append.1 hx with hx | hx
    ·have:=digits_lt n x hx;omega
    ·have:=c.toNat_lt
     have:x=c.toNat+1:=by simpa using hx
     omega
   ·exact h2 x hx
def sz (r : Rd) : Nat := r.out.length + r.n
theorem sz_add (r : Rd) (x : Nat) : sz r ≤ sz (add r x) := by
 unfold add
 split
 ·show r.out.length+r.n≤r.out.length+(r.n+_);omega
 ·have hc:(close r).out.length=r.out.length+r.n:=by unfold close;rw [List.length_append,List.length_replicate]
  split
  ·show r.out.length+r.n≤(close r).out.length+0;omega
  ·show r.out.length+r.n≤((close r).out ++ [_]).length+0
   rw [List.length_append,hc];omega
theorem sz_foldl : ∀ (l : List Nat) (r : Rd), sz r ≤ sz (l.foldl add r)
 | [],r=>Nat.le_refl _
 | x :: l,r=>Nat.le_trans (sz_add r x) (sz_foldl l _)
theorem by_add (r : Rd) (x : Nat) (h : r.by_ ≤ r.n) : (add r x).by_ ≤ (add r x).n := by
 unfold add
 split
 ·show max 1 (r.by_*2)≤r.n+(x+1)*max 1 (r.by_*2)
  have:max 1 (r.by_*2)≤(x+1)*max 1 (r.by_*2):=Nat.le_mul_of_pos_left _ (by omega)
  omega
 ·split
  ·exact Nat.le_refl _
  ·exact Nat.le_refl _
theorem by_foldl : ∀ (l : List Nat) (r : Rd), r.by_ ≤ r.n → (l.foldl add r).by_ ≤ (l.foldl add r).n
 | [],r,h=>h
 | x :: l,r,h=>by_foldl l _ (by_add r x h)
theorem sz_take (l : List Nat) (r : Rd) (i : Nat) : sz ((l.take i).foldl add r) ≤ sz (l.foldl add r) := by
 have h:=sz_foldl (l.drop i) ((l.take i).foldl add r)
 rwa [← List.foldl_append,List.take_append_drop] at h
theorem fold_succ {l : List Nat} (r : Rd) {i : Nat} (h : i < l.length) : (l.take (i + 1)).foldl add r = add ((l.take i).foldl add r) l[i] := by
 rw [List.take_succ_eq_append_getElem h,List.foldl_append];rfl
end Zr
namespace Sg
open Zr (Rd add GR gatB)
theorem last_iff {l m : List Nat} (h1 : l = m ++ [257]) (h2 : ∀ x ∈ m, x ≠ 257) {i : Nat} (h : i < l.length) : l[i] = 257 ↔ i + 1 = l.length := by
 subst h1
 rw [List.length_append] at h ⊢
 have h':i<m.length+1:=h
 rcases Nat.lt_or_ge i m.length with q | q
 ·rw [List.getElem_append_left q]
  constructor
  ·intro e;exact absurd e (h2 _ (List.getElem_mem q))
  ·intro e;have:i+1=m.length+1:=e;omega
 ·obtain rfl:i=m.length:=by omega
  constructor
  ·intro _;rfl
  ·intro _;simp
theorem grBase {B M : Mem} {b : Nat} {pv : Value} {r : Rd} {o : Option (Nat × Nat)} (h : GR B b pv r M o) {x : Nat} (hx : Fresh M x) (k : Blk) : GR (B.set x k) b pv r (M.set x k) o where
 less:=⟨fun y r' hy=>by
   by_cases e:y=x
   ·subst e;rw [Mem.own_set_same] at hy ⊢;exact hy
   ·rw [Mem.own_set_other _ _ e] at hy ⊢;exact h.less.1 y r' hy,h.less.2⟩
 nb:=(Mem.own_set_other _ _ (hx.ne h.at_)).trans h.nb
 gro:=h.gro.set _ (Zr.groAway h.gro hx)
 aw:=h.aw
 no:=fun q c e=>(Mem.own_set_other _ _ (Zr.groAway h.gro hx q c e)).trans (h.no q c e)
 at_:=(Mem.own_set_other _ _ (hx.ne h.at_)).trans h.at_
theorem none_of {B0 B : Mem} (hl : B0.Less B) {b : Nat} (h : B.own b = none) : B0.own b = none := by
 cases e:B0.own b with
 | none=>rfl
 | some r=>have:=hl.1 _ _ e;rw [h] at this;cases this
theorem grWeak {B0 B M : Mem} {b : Nat} {pv : Value} {r : Rd} {o : Option (Nat × Nat)} (h : GR B b pv r M o) (hl : B0.Less B) : GR B0 b pv r M o where
 less:=hl.trans h.less
 nb:=none_of hl h.nb
 gro:=h.gro
 aw:=h.aw
 no:=fun q c e=>none_of hl (h.no q c e)
 at_:=h.at_
set_option maxHeartbeats 4000000 in
theorem sg_all (B M : Mem) (bg bk : Nat) (o : Option (Nat × Nat)) (l ls m : List Nat) (s : ByteArray) (N at_ : Nat) (hG : GR B bg (.pointer (some ⟨bk, 0, none⟩)) ⟨[], 0, 0⟩ M o) (hbk : Cn.BookR B bk ls) (hg : Good l ls) (hm : l = m ++ [257]) (hm2 : ∀ x ∈ m, x ≠ 257) (hsz : Zr.sz (l.foldl add ⟨[], 0, 0⟩) ≤ 500) (hs : s.size ≤ 200000) (hN : N ≤ 8 * s.size) (ha : at_ + (l.flatMap (Cn.bitsOf ls)).length ≤ N) (hsl : slc s.data.toList at_ (l.flatMap (Cn.bitsOf ls)).length = l.flatMap (Cn.bitsOf ls)) :
  ACall Tryz.prog 46 #[.pointer (some ⟨bg,0,none⟩),.agg #[.string s,.int .i64 (N:Int)],.int .i64 (at_:Int)] M fun v M'=>v = .tuple #[.int .i64 ((at_+(l.flatMap (Cn.bitsOf ls)).length:Nat):Int),.int .i64 0] ∧ ∃ o',GR B bg (.pointer (some ⟨bk,0,none⟩)) (l.foldl add ⟨[],0,0⟩) M' o':=by
 obtain ⟨fin,hfin⟩ : ∃ fin,fin=at_+(l.flatMap (Cn.bitsOf ls)).length:=⟨_,rfl⟩
 rw [← hfin] at ha ⊢
 have hpos:0<l.length:=by rw [hm,List.length_append];exact Nat.succ_pos _
 refine ACall.enter (rs:=[.tmp 6,.tmp 7]) 48 [(0,.pointer (some ⟨bg,0,none⟩)),(1,.agg #[.string s,.int .i64 (N:Int)]),(2,.int .i64 (at_:Int))] Tryz.func46 rfl rfl (Nat.le_of_ble_eq_true rfl) rfl ⟨rfl,rfl,rfl,trivial⟩ ?_
 iterate 2 refine s1_ ?_
 refine ARun.boxA (cs:=[_,_]) (lit_lt rfl) rfl ?_
 intro b4 f4
 have g4:=f4
 repeat ((with_reducible replace g4:=fresh_set g4);obtain ⟨g4,_⟩:=g4)
 refine nl_ ?_
 iterate 4 refine s1_ ?_
 have hB4:B.Less (B.set b4 ⟨31,[.string s,.int .i64 (N:Int)],2⟩):=Mem.less_set _ _ _ (none_of hG.less f4.1)
 refine s1_ ?_
 refine AWP.loop (X:=Nat × Nat × Mem × Option (Nat × Nat)) (fun x=>[(0,.pointer (some ⟨bg,0,none⟩)),(2,.int .i64 (x.2.1:Int)),(4,.pointer (some ⟨b4,0,none⟩))]) (fun x=>x.2.2.1) (fun x=>x.1<l.length∧GR (B.set b4 ⟨31,[.string s,.int .i64 (N:Int)],2⟩) bg (.pointer (some ⟨bk,0,none⟩)) ((l.take x.1).foldl add ⟨[],0,0⟩) x.2.2.1 x.2.2.2∧x.2.1+((l.drop x.1).flatMap (Cn.bitsOf ls)).length=fin∧slc s.data.toList x.2.1 ((l.drop x.1).flatMap (Cn.bitsOf ls)).length=(l.drop x.1).flatMap (Cn.bitsOf ls)) (fun x=>l.length-x.1) ((0,at_,_,o)) ⟨rfl,rfl,rfl,trivial⟩ (Mem.Less.refl _) (⟨hpos,grBase hG f4 _,hfin.symm,hsl⟩) ?_
 rintro ⟨i,k,M1,o1⟩ ⟨hi,hI,hk,hks⟩
 (try dsimp only at *)
 have h4:=hI.less.1 _ _ (Mem.own_set_same B b4 _)
 have hc:=code_ok hg (List.getElem_mem hi)
 have hlt:=(hg.pos _ (List.getElem_mem hi)).1
 have hfs:=Zr.fold_succ ⟨[],0,0⟩ hi
 have hst:=Zr.sz_take l ⟨[],0,0⟩ (i+1)
 have hby:=Zr.by_foldl (l.take i) ⟨[],0,0⟩ (Nat.le_refl _)
 have hli:=last_iff hm hm2 hi
 have hb5:=Cn.bitsOf_length ls l[i]
 rw [flat_drop hi] at hk hks
 rw [hfs] at hst
 rw [List.length_append,hb5] at hk hks
 rw [slc_add] at hks
 obtain ⟨e1,e2⟩:=List.append_inj hks (by rw [slc_length,hb5])
 have hat:=hI.at_
 unfold gatB at hat
 obtain ⟨oa,oc,hoe⟩:=Zr.outV_gro hI.gro (cellsB_length _)
 have hnx:=Cn.cn_Next bk ls l[i] s N k M1 ((hbk.less hB4).less hI.less) hs hN hc.1 hc.2.1 hc.2.2.1 hc.2.2.2 (by omega) e1 (by rw [hg.len];decide)
 have hre:=Zr.zr_Add _ bg _ _ M1 o1 l[i] hI hlt hby (by show Zr.sz _≤500;omega)
 rw [hoe] at hat
 generalize l[i]=x at *
 iterate 2 refine s1_ ?_
 refine AWP.draw [(0,true),(1,true),(2,true),(3,true),(4,true),(5,true),(6,false),(7,true),(8,true),(9,true),(10,true),(11,true),(12,true),(13,true)] [] mixed (by kernel_rfl) ?_
 iterate 3 refine s1_ ?_
 refine dC (hc:=Calm.load ty_plain_98 rfl (rd_own' hat (show [_,_,_,_][3]?=some (.pointer (some ⟨bk,0,none⟩)) from rfl))) (h:=?_)
 iterate 2 refine s1_ ?_
 refine draw_only rfl ?_
 refine ca_ rfl (hnx) ?_
 rintro _ Sx ⟨rfl,h1⟩
 rw [h1];clear h1 Sx
 refine arun_nil ⟨fun _=>less_,?_⟩
 iterate 9 refine s1_ ?_
 refine su_ [(0,_),(2,_),(4,_),(8,_),(9,_),(10,_)] ?_
 iterate 7 refine s1_ ?_
 refine su_ [(0,_),(2,_),(4,_),(8,_),(9,_),(10,_),(24,_)] ?_
 refine cF_ ?_
 iterate 8 refine s1_ ?_
 refine su_ [(0,_),(2,_),(4,_),(8,_),(9,_),(10,_),(24,_)] ?_
 iterate 6 refine s1_ ?_
 refine ca_ rfl (hre) ?_
 rintro _ M2 ⟨rfl,o2,hI2⟩
 have hat2:=hI2.at_
 unfold gatB at hat2
 obtain ⟨oa2,oc2,hoe2⟩:=Zr.outV_gro hI2.gro (cellsB_length _)
 have hos:(add ((l.take i).foldl add ⟨[],0,0⟩) x).out.length≤500:=by have:(add ((l.take i).foldl add ⟨[],0,0⟩) x).out.length≤Zr.sz (add ((l.take i).foldl add ⟨[],0,0⟩) x):=Nat.le_add_right _ _;omega
 rw [← hfs] at hI2 hat2 hoe2 hos
 rw [hoe2] at hat2
 obtain ⟨k2,hk2⟩ : ∃ k2,k2=ls.getD x 0:=⟨_,rfl⟩
 rw [← hk2] at hk e2 ⊢
 iterate 7 refine s1_ ?_
 refine su_ [(0,_),(2,_),(4,_),(8,_),(9,_),(10,_),(24,_),(11,_)] ?_
 iterate 16 refine s1_ ?_
 refine su_ [(0,_),(2,_),(4,_),(8,_),(9,_),(10,_),(24,_),(11,_),(45,_)] ?_
 refine cF_ ?_
 by_cases q:x=257
 ·rw [decide_eq_true q]
  have hend:=hli.1 q
  rw [List.drop_eq_nil_of_le (show l.length≤i+1 by omega),List.flatMap_nil,List.length_nil] at hk
  rw [show l.take (i+1)=l from List.take_of_length_le (by omega)] at hI2
  iterate 7 refine s1_ ?_
  refine cT_ ?_
  iterate 7 refine s1_ ?_
  refine su_ [(0,_),(2,_),(4,_),(8,_),(9,_),(10,_),(24,_),(11,_),(45,_),(46,_),(6,_),(7,_)] ?_
  iterate 4 refine s1_ ?_
  refine ⟨_,_,⟨_,_,rfl,⟨_,_,rfl,rfl,rfl⟩,rfl⟩,Mem.Less.refl _,?_⟩
  exact ⟨by rw [show k+k2=fin by omega];rfl,o2,grWeak hI2 hB4⟩
 ·rw [decide_eq_false q]
  iterate 7 refine s1_ ?_
  refine cF_ ?_
  iterate 3 refine s1_ ?_
  refine ⟨(i+1,k+k2,M2,o2),?_,?_,?_,?_⟩
  all_goals (try dsimp only)
  ·exact ⟨rfl,rfl,rfl,trivial⟩
  ·exact Mem.Less.refl _
  ·exact ⟨by have:=mt hli.2 q;omega,hI2,by omega,e2⟩
  ·omega
end Sg
end Go.Proofs.YtckloanlkpchoaaGreatDoor
namespace Go.Proofs.YtckloanlkpchoaaGreatDoor
open Go.RowKit
open Mv Bits
set_option maxRecDepth 4000
namespace Sg
open Zr (Rd add GR gatB)
theorem equalSame (l : List Nat) (u v : Value) (S : Mem) (hu : IdxR S u l) (hv : IdxR S v l) :
  ACall Tryz.prog 50 #[u,v] S fun r S'=>r = .bool true∧S'=S:=by
 obtain ⟨pa,ca,rfl,a1,a2,a3⟩:=id hu
 obtain ⟨pb,cb,rfl,b1,b2,b3⟩:=id hv
 refine ACall.enter (rs:=[.tmp 4]) 26 [(0,.slice pa l.length ca),(1,.slice pb l.length cb)] Tryz.func50 rfl rfl (Nat.le_of_ble_eq_true rfl) rfl ⟨rfl,rfl,trivial⟩ ?_
 iterate 15 refine s1_ ?_
 refine su_ [(0,_),(1,_),(4,_),(10,_)] ?_
 refine cF_ ?_
 iterate 10 refine s1_ ?_
 refine su_ [(0,_),(1,_),(4,_),(10,_),(12,_),(13,_)] ?_
 refine s1_ ?_
 refine AWP.loop (X:=Nat) (fun i=>[(0,.slice pa l.length ca),(1,.slice pb l.length cb),(12,.int .i64 (l.length:Int)),(13,.int .i64 (i:Int))]) (fun _=>S) (fun i=>i≤l.length) (fun i=>l.length-i) (0) ⟨rfl,rfl,rfl,rfl,trivial⟩ (Mem.Less.refl _) (Nat.zero_le _) ?_
 rintro i hi
 (try dsimp only at *)
 by_cases q:i<l.length
 ·obtain ⟨xa,xo,rfl,ka⟩:=a3.resolve_left (fun e=>by subst e;exact absurd q (Nat.not_lt_zero _))
  obtain ⟨ya,yo,rfl,kb⟩:=b3.resolve_left (fun e=>by subst e;exact absurd q (Nat.not_lt_zero _))
  have k1:=ka i q
  have k2:=kb i q
  generalize l[i]=x at *
  iterate 6 refine s1_ ?_
  refine cT_ ?_
  iterate 10 refine s1_ ?_
  refine su_ [(0,_),(1,_),(12,_),(13,_),(14,_),(5,_)] ?_
  refine s1_ ?_
  refine AWP.draw [(0,true),(1,true),(2,true),(3,true),(4,true),(5,true),(6,true),(7,true),(8,true)] [] mixed (by kernel_rfl) ?_
  iterate 11 refine s1_ ?_
  refine su_ [(0,_),(1,_),(12,_),(13,_),(14,_),(5,_),(24,_)] ?_
  refine cF_ ?_
  iterate 8 refine s1_ ?_
  refine ⟨i+1,?_,?_,?_,?_⟩
  all_goals (try dsimp only)
  ·exact ⟨rfl,rfl,rfl,rfl,trivial⟩
  ·exact Mem.Less.refl _
  ·exact q
  ·omega
 ·iterate 6 refine s1_ ?_
  refine cF_ ?_
  iterate 11 refine s1_ ?_
  refine ⟨_,S,⟨_,_,rfl,rfl,rfl⟩,less_,?_⟩
  exact ⟨rfl,rfl⟩
theorem del_back {M : Mem} {b : Nat} {r : Blk} (h : M.own b = some r) (r' : Blk) : (M.del b).set b r' = M.set b r' := by
 unfold Mem.set Mem.del
 congr 1
 funext k
 by_cases e:k=b <;> simp [e]
theorem mt_FromO (bc : Nat) (r : List UInt8) (c : UInt8) (M : Mem) (ho : M.own bc = some (cB r)) (hro : RoFree M bc) (hr : Mt.Row r) :
  ACall Tryz.prog 51 #[.pointer (some ⟨bc,0,none⟩),.int .u8 (nb c)] M fun v S'=>v = .int .u8 (nb (r.getD c.toNat 0))∧S'=M.set bc (cB (Mt.lift r c.toNat)):=by
 have hf:Fresh (M.del bc) bc:=⟨by simp [Mem.del],fun a v hv=>hro a v hv⟩
 have h:=Mt.mt_From 61 bc r c (M.del bc) hf hr
 have e:(M.del bc).set bc (cB r)=M:=(del_back ho _).trans (Mem.set_same _ _ _ ho)
 rw [show (M.del bc).set bc ⟨61,cellsB r,256⟩=M from e] at h
 exact h.mono fun v S' ⟨h1,h2⟩=>⟨h1,by rw [h2];exact del_back ho _⟩
theorem far_take {r t : List UInt8} {i : Nat} (h : i ≤ t.length) : (Mt.far r t).take i = Mt.far r (t.take i) := by
 have e:=Mt.far_append (t.take i) (t.drop i) r
 rw [List.take_append_drop] at e
 rw [e,List.take_left' (by rw [Mt.far_length,List.length_take];omega)]
/-- A byte that is told by how far it was. -/
theorem far_back {r t : List UInt8} {i : Nat} (hr : Mt.Row r) (h : i < t.length) : (Mt.farR r (t.take i)).getD (at8 (Mt.far r t) i).toNat 0 = at8 t i ∧ Mt.lift (Mt.farR r (t.take i)) (at8 (Mt.far r t) i).toNat = Mt.farR r (t.take (i + 1)) := by
 have h1:=far_take (r:=r) (t:=t) (i:=i+1) (by omega)
 have h2:=far_take (r:=r) (t:=t) (i:=i) (by omega)
 have hl:(Mt.far r t).length=t.length:=Mt.far_length t r
 rw [at8_get (by omega),at8_get h,h2,far_snoc] at h1
 have h3:=List.append_cancel_left h1
 have h4:at8 (Mt.far r t) i=UInt8.ofNat ((Mt.farR r (t.take i)).idxOf (at8 t i)):=by simpa using h3
 have hrow:=Mt.farR_row (t.take i) r hr
 have hix:=Mt.idx_lt hrow (at8 t i)
 rw [h4,UInt8.toNat_ofNat',Nat.mod_eq_of_lt (by omega),Mt.idx_get hrow,at8_get h,farR_snoc]
 exact ⟨rfl,rfl⟩
/-- What is there while bytes are told. -/
def half (r t : List UInt8) (i : Nat) : List UInt8 := t.take i ++ (Mt.far r t).drop i
theorem half_len {r t : List UInt8} {i : Nat} (h : i ≤ t.length) : (half r t i).length = t.length := by
 unfold half;rw [List.length_append,List.length_take,List.length_drop,Mt.far_length];omega
theorem half_at {r t : List UInt8} {i : Nat} (h : i < t.length) : (cellsB (half r t i))[0 + (i : Int).toNat * 1]? = some (.int .u8 (nb (at8 (Mt.far r t) i))) := by
 have hl:(Mt.far r t).length=t.length:=Mt.far_length t r
 rw [show 0+(i:Int).toNat*1=i from by omega]
 unfold cellsB half
 rw [List.getElem?_map,List.getElem?_append_right (by rw [List.length_take];omega),List.length_take,Nat.min_eq_left (by omega),Nat.sub_self,List.getElem?_drop,Nat.add_zero,List.getElem?_eq_getElem (by omega)]
 unfold at8
 rw [List.getD_eq_getElem?_getD,List.getElem?_eq_getElem (by omega)];rfl
theorem half_set {r t : List UInt8} {i : Nat} (h : i < t.length) : (cellsB (half r t i)).set i (.int .u8 (nb (at8 t i))) = cellsB (half r t (i + 1)) := by
 have hl:(Mt.far r t).length=t.length:=Mt.far_length t r
 unfold cellsB half
 show (List.map (fun c:UInt8=>Value.int .u8 (nb c)) _).set i ((fun c:UInt8=>Value.int .u8 (nb c)) (at8 t i))=_
 rw [← List.map_set,List.set_append_right _ _ (by rw [List.length_take];omega),List.length_take,Nat.min_eq_left (by omega),Nat.sub_self,List.drop_eq_getElem_cons (show i<(Mt.far r t).length by omega),List.set_cons_zero,at8_get h,List.append_assoc]
 rfl
theorem half_all (r t : List UInt8) : half r t t.length = t := by
 unfold half;rw [List.take_length,List.drop_eq_nil_of_le (by rw [Mt.far_length];exact Nat.le_refl _),List.append_nil]
theorem less_upd {S M : Mem} {b : Nat} {A B : Blk} (h : (S.set b A).Less M) : (S.set b B).Less (M.set b B) := ⟨fun k r hk => by
 by_cases e:k=b
 ·subst e;rw [Mem.own_set_same] at hk ⊢;exact hk
 ·rw [Mem.own_set_other _ _ e] at hk ⊢;exact h.1 k r ((Mem.own_set_other _ _ e).trans hk),h.2⟩
theorem set4 (M : Mem) {b q : Nat} (A B C D : Blk) (h : q ≠ b) : (((M.set b A).set q C).set b B).set q D = (M.set b B).set q D := by
 rw [Mem.set_comm (M.set b A) C B h,Mem.set_set,Mem.set_set]
theorem gr_new {M : Mem} {b : Nat} {pv : Value} (h : Fresh M b) : GR M b pv ⟨[], 0, 0⟩ (M.set b (gatB none ⟨[], 0, 0⟩ pv)) none where
 less:=Mem.less_set _ _ _ h.1
 nb:=h.1
 gro:=Gro.empty _ _
 aw:=Away.nil _
 no:=fun q c e=>by cases e
 at_:=Mem.own_set_same _ _ _
set_option maxHeartbeats 8000000 in
theorem sg_read (bc : Nat) (r t : List UInt8) (s : ByteArray) (N at_ : Nat) (S : Mem) (T : TypeId) (ev : Value) (hbc : Fresh S bc) (hr : Mt.Row r) (ht0 : t ≠ []) (ht : t.length ≤ 500) (hE : S.Knows ⟨1, 0, none⟩ [.iface T ev]) (hR : right s.data.toList N) (ha : at_ + (bitsS (Zr.enc (Mt.far r t) 0)).length ≤ N) (hsl : slc s.data.toList at_ (bitsS (Zr.enc (Mt.far r t) 0)).length = bitsS (Zr.enc (Mt.far r t) 0)) :
  ACall Tryz.prog 20 #[.pointer (some ⟨bc,0,none⟩),.agg #[.string s,.int .i64 (N:Int)],.int .i64 (at_:Int)] (S.set bc (cB r)) fun v S'=>v = .tuple #[.string (bs t),.int .i64 ((at_+(bitsS (Zr.enc (Mt.far r t) 0)).length:Nat):Int),.int .i64 0]∧S'=S.set bc (cB (Mt.farR r t)):=by
 have hfl:=Mt.far_length t r
 have hne:Mt.far r t ≠ []:=fun e=>ht0 (List.eq_nil_of_length_eq_zero (by rw [← hfl,e,List.length_nil]))
 have hsy:=enc_syms hne
 have hel:=Zr.enc_len (Mt.far r t) 0
 obtain ⟨m,hm,hm2⟩:=Zr.enc_last (Mt.far r t) 0
 have hfold:=Zr.dec_enc (Mt.far r t) 0 []
 rw [List.replicate_zero,List.nil_append,List.nil_append] at hfold
 have henc:Zr.enc (bs (Mt.far r t)).data.toList 0=Zr.enc (Mt.far r t) 0:=rfl
 generalize hl:Zr.enc (Mt.far r t) 0=l at *
 have hgd:=lensS_good hsy
 have hol:=order_len hsy
 obtain ⟨ls,hls⟩ : ∃ ls,ls=lensS l:=⟨_,rfl⟩
 have hbS:bitsS l=Tb.tbl ls ++ l.flatMap (Cn.bitsOf ls):=by rw [hls];rfl
 rw [← hls] at hgd
 rw [hbS] at ha hsl ⊢
 rw [List.length_append] at ha hsl ⊢
 rw [slc_add] at hsl
 obtain ⟨e1,e2⟩:=List.append_inj hsl (by rw [slc_length])
 have hsz:s.size=(N+7) / 8:=by rw [Bits.size_list,hR.2.2.1];simp
 have hN1:=hR.2.1
 have hrd:=fun S hE=>Tb.tb_Read at_ N s ls S T ev hE hR (by rw [hgd.len];decide) (by rw [hgd.len];decide) (good_all hgd) (by rw [hgd.used]) (by omega) e1
 rw [hgd.len] at hrd
 have hsb:(S.set bc (cB r)).own bc=some (cB r):=Mem.own_set_same _ _ _
 have hE0:=hE.less (Mem.less_set S bc (cB r) hbc.1)
 refine ACall.enter (rs:=[.tmp 6,.tmp 7,.tmp 8]) 102 [(0,.pointer (some ⟨bc,0,none⟩)),(1,.agg #[.string s,.int .i64 (N:Int)]),(2,.int .i64 (at_:Int))] Tryz.func20 rfl rfl (Nat.le_of_ble_eq_true rfl) rfl ⟨rfl,rfl,rfl,trivial⟩ ?_
 iterate 2 refine s1_ ?_
 refine ARun.boxA (cs:=[_,_]) (lit_lt rfl) rfl ?_
 intro b4 f4
 have g4:=f4
 repeat ((with_reducible replace g4:=fresh_set g4);obtain ⟨g4,_⟩:=g4)
 refine nl_ ?_
 iterate 5 refine s1_ ?_
 have hB4:=Mem.less_set (S.set bc (cB r)) b4 ⟨31,[.string s,.int .i64 (N:Int)],2⟩ f4.1
 have o4:=Mem.own_set_same (S.set bc (cB r)) b4 ⟨31,[.string s,.int .i64 (N:Int)],2⟩
 generalize (S.set bc (cB r)).set b4 ⟨31,[.string s,.int .i64 (N:Int)],2⟩=M4 at *
 iterate 4 refine s1_ ?_
 refine ca_ rfl (hrd M4 (hE0.less hB4)) ?_
 rintro _ M5 ⟨v,rfl,hB5,hv5⟩
 have o5:=hB5.1 _ _ o4
 iterate 9 refine s1_ ?_
 refine su_ [(0,_),(1,_),(2,_),(4,_),(6,_),(7,_),(8,_),(9,_),(10,_)] ?_
 iterate 7 refine s1_ ?_
 refine su_ [(0,_),(1,_),(2,_),(4,_),(6,_),(7,_),(8,_),(9,_),(10,_),(26,_)] ?_
 refine cF_ ?_
 iterate 5 refine s1_ ?_
 refine ca_ rfl (Cn.cn_Of ls v M5 hv5 (by rw [hgd.len];decide) (by rw [hgd.used];decide)) ?_
 rintro _ M6 ⟨bk,rfl,hB6,hbk⟩
 have o6:=hB6.1 _ _ o5
 refine s1_ ?_
 refine ARun.boxA (cs:=[_,_,_,_]) (lit_lt rfl) rfl ?_
 intro b31 f31
 have g31:=f31
 repeat ((with_reducible replace g31:=fresh_set g31);obtain ⟨g31,_⟩:=g31)
 have:=g31.ne o6;have:=g31.ne' o6
 refine nl_ ?_
 iterate 3 refine s1_ ?_
 refine su_ [(0,_),(1,_),(2,_),(4,_),(6,_),(7,_),(8,_),(9,_),(10,_),(26,_),(11,_)] ?_
 have hG0:=gr_new (pv:=.pointer (some ⟨bk,0,none⟩)) f31
 iterate 6 refine s1_ ?_
 refine ca_ rfl (sg_all M6 _ b31 bk none l ls m s N (at_+(Tb.tbl ls).length) hG0 hbk hgd hm hm2 (by rw [hfold];show (Mt.far r t).length+0≤500;omega) (by omega) (by omega) (by omega) e2) ?_
 rintro _ M7 ⟨rfl,o7,hG⟩
 rw [hfold] at hG
 iterate 7 refine s1_ ?_
 refine su_ [(0,_),(1,_),(2,_),(4,_),(6,_),(7,_),(8,_),(9,_),(10,_),(26,_),(11,_)] ?_
 iterate 6 refine s1_ ?_
 refine su_ [(0,_),(1,_),(2,_),(4,_),(6,_),(7,_),(8,_),(9,_),(10,_),(26,_),(11,_),(40,_)] ?_
 refine cF_ ?_
 obtain ⟨⟨q,cq⟩,rfl⟩ : ∃ w,o7=some w:=by
  cases o7 with
  | some w=>exact ⟨w,rfl⟩
  | none=>have:=hG.gro.nil rfl;unfold cellsB at this;rw [List.map_eq_nil_iff] at this;exact absurd this hne
 obtain ⟨hq7,hqc,hqro⟩:=hG.gro.own q cq rfl
 have hat7:=hG.at_
 unfold gatB at hat7
 have hat7:M7.own b31=some ⟨105,[.slice (some ⟨q,0,none⟩) (Mt.far r t).length cq,.int .u64 (0:Nat),.int .u64 (0:Nat),.pointer (some ⟨bk,0,none⟩)],4⟩:=hat7
 have hB7:=(hB4.trans hB5).trans (hB6.trans hG.less)
 have hqb:q≠b31:=hG.aw q cq rfl
 have hq0:(S.set bc (cB r)).own q=none:=none_of ((hB4.trans hB5).trans hB6) (hG.no q cq rfl)
 have hbg:(S.set bc (cB r)).own b31=none:=none_of ((hB4.trans hB5).trans hB6) hG.nb
 have hqbc:q≠bc:=fun e=>by rw [e,hsb] at hq0;cases hq0
 have hbgc:b31≠bc:=fun e=>by rw [e,hsb] at hbg;cases hbg
 iterate 8 refine s1_ ?_
 refine rC (Calm.load ty_plain_51 rfl (rd_own' hat7 (show [_,_,_,_][0]?=some _ from rfl))) ?_
 refine rC (Calm.toStr ty_bytes_51 ty_str_9 rfl rfl (rds_own' hq7 rfl)) ?_
 refine ca_ rfl (Zr.zr_Encode (bs (Mt.far r t)) M7 (by show (Mt.far r t).toArray.size≤65536;rw [List.size_toArray];omega)) ?_
 rintro _ M8 ⟨v2,rfl,hG2⟩
 rw [henc] at hG2;obtain ⟨hB8,hr8⟩:=gr_row hG2 (by omega)
 iterate 7 refine s1_ ?_
 refine su_ [(0,_),(1,_),(2,_),(4,_),(6,_),(7,_),(8,_),(9,_),(10,_),(26,_),(11,_),(40,_),(12,_)] ?_
 iterate 3 refine s1_ ?_
 refine ca_ rfl (sg_weights v2 l M8 hr8 (by omega) hsy.lt) ?_
 rintro _ _ ⟨b9,f9,rfl,rfl⟩
 refine ca_ rfl (Pk.pk_Lengths _ (cntW l) _ (Sl.own1 (g:=gU) (Mem.own_set_same _ _ _) List.prefix_rfl (cntW_length l) (Nat.le_refl _) (by decide)) (cntW_length l) (fun x hx=>Nat.le_trans (cntW_all l x hx) (by omega)) hol.1) ?_
 rintro _ M10 ⟨u,rfl,hB10,hu⟩
 have hB78:M7.Less M10:=hB8.trans ((Mem.less_set _ _ _ f9.1).trans hB10)
 have hu':IdxR M10 u ls:=by rw [hls];exact hu
 have hv10:IdxR M10 v ls:=hv5.less (hB6.trans (hG.less.trans hB78))
 have hat:=hB78.1 _ _ hat7
 have hq:=hB78.1 _ _ hq7
 have hsb10:=(hB7.trans hB78).1 _ _ hsb
 have hB:=hB7.trans hB78
 clear hat7 hq7 hG2 hr8 hB10 hu hB8 hB78 f9 hB7 o4 o5 o6 hrd
 obtain ⟨nf,hnf⟩ : ∃ nf,nf=(Mt.far r t).length:=⟨_,rfl⟩
 have hnf0:nf≠0:=fun e=>hne (List.eq_nil_of_length_eq_zero (by omega))
 rw [← hnf] at hat
 iterate 7 refine s1_ ?_
 refine su_ [(0,_),(1,_),(2,_),(4,_),(6,_),(7,_),(8,_),(9,_),(10,_),(26,_),(11,_),(40,_),(12,_),(14,_)] ?_
 iterate 7 refine s1_ ?_
 refine rC (Calm.load ty_plain_51 rfl (rd_own' hat (show [_,_,_,_][0]?=some _ from rfl))) ?_
 refine s1_ ?_
 refine rC (Calm.bin rfl rfl (bin_bool (c:=false) (bin_eql _ _) (decide_eq_false (by omega)))) ?_
 iterate 3 refine s1_ ?_
 refine ARun.callG 7 false 65 rfl (lit_lt rfl) rfl (lit_lt rfl) go_50 rfl (equalSame ls u v M10 hu' hv10) ?_
 rintro _ Sx ⟨rfl,h1⟩
 rw [h1];clear h1 Sx
 iterate 4 refine s1_ ?_
 refine su_ [(0,_),(1,_),(2,_),(4,_),(6,_),(7,_),(8,_),(9,_),(10,_),(26,_),(11,_),(40,_),(12,_),(14,_),(70,_)] ?_
 refine cF_ ?_
 iterate 9 refine s1_ ?_
 refine rC (Calm.load ty_plain_51 rfl (rd_own' hat (show [_,_,_,_][0]?=some _ from rfl))) ?_
 iterate 4 refine s1_ ?_
 refine su_ [(0,_),(1,_),(2,_),(4,_),(6,_),(7,_),(8,_),(9,_),(10,_),(26,_),(11,_),(40,_),(12,_),(14,_),(70,_),(75,_),(76,_),(77,_)] ?_
 refine s1_ ?_
 refine AWP.loop (X:=Nat) (fun i=>[(0,.pointer (some ⟨bc,0,none⟩)),(2,.int .i64 ((at_+((Tb.tbl ls).length+(l.flatMap (Cn.bitsOf ls)).length):Nat):Int)),(11,.pointer (some ⟨b31,0,none⟩)),(75,.slice (some ⟨q,0,none⟩) nf cq),(76,.int .i64 (nf:Int)),(77,.int .i64 (i:Int))]) (fun i=>(M10.set bc (cB (Mt.farR r (t.take i)))).set q ⟨5,cellsB (half r t i),cq⟩) (fun i=>i≤nf) (fun i=>nf-i) (0) ⟨rfl,some_int (by omega),rfl,rfl,rfl,rfl,trivial⟩ (by show Mem.Less ((M10.set bc (cB r)).set q ⟨5,cellsB (Mt.far r t),cq⟩) M10;rw [Mem.set_same _ _ _ hsb10,Mem.set_same _ _ _ hq];exact Mem.Less.refl _) (Nat.zero_le _) ?_
 rintro i hi
 (try dsimp only at *)
 have hat1:((M10.set bc (cB (Mt.farR r (t.take i)))).set q ⟨5,cellsB (half r t i),cq⟩).own b31=_:=(Mem.own_set_other _ _ (Ne.symm hqb)).trans ((Mem.own_set_other _ _ hbgc).trans hat)
 by_cases qi:i<nf
 ·have hib:i<t.length:=by omega
  have hrow:=Mt.farR_row (t.take i) r hr
  obtain ⟨hf1,hf2⟩:=far_back hr hib
  have hfr:=mt_FromO bc (Mt.farR r (t.take i)) (at8 (Mt.far r t) i) _ ((Mem.own_set_other (M10.set bc (cB (Mt.farR r (t.take i)))) ⟨5,cellsB (half r t i),cq⟩ (Ne.symm hqbc)).trans (Mem.own_set_same _ _ _)) (fun a v hv=>hbc.2 a v (by have e:=hB.2;rw [show S.ro=M10.ro from e];exact hv)) hrow
  rw [hf1,hf2] at hfr
  iterate 6 refine s1_ ?_
  refine cT_ ?_
  iterate 8 refine s1_ ?_
  refine rC (Calm.load ty_plain_5 rfl (rd_own' (Mem.own_set_same _ _ _) (half_at hib))) ?_
  iterate 4 refine s1_ ?_
  refine su_ [(0,_),(2,_),(11,_),(75,_),(76,_),(77,_),(78,_),(16,_),(17,_)] ?_
  refine AWP.drawG [4,10,12] mixed ?_
  refine DG.pure 0 (by kernel_rfl) (by kernel_rfl) rfl rfl rfl rfl (lit_lt rfl) (fun _=>Calm.move rfl) ?_
  refine DG.pure 1 (by kernel_rfl) (by kernel_rfl) rfl rfl rfl rfl (lit_lt rfl) (fun _=>Calm.nilCheck rfl) ?_
  refine DG.pure 2 (by kernel_rfl) (by kernel_rfl) rfl rfl rfl rfl (lit_lt rfl) (fun _=>Calm.fieldAddr ty_field_105_0 rfl) ?_
  refine DG.pure 3 (by kernel_rfl) (by kernel_rfl) rfl rfl rfl rfl (lit_lt rfl) (fun _=>Calm.fieldAddr ty_field_103_0 rfl) ?_
  refine DG.pure 5 (by kernel_rfl) (by kernel_rfl) rfl rfl rfl rfl (lit_lt rfl) (fun _=>Calm.move rfl) ?_
  refine DG.pure 6 (by kernel_rfl) (by kernel_rfl) rfl rfl rfl rfl (lit_lt rfl) (fun _=>Calm.move rfl) ?_
  refine DG.pure 7 (by kernel_rfl) (by kernel_rfl) rfl rfl rfl rfl (lit_lt rfl) (fun _=>Calm.nilCheck rfl) ?_
  refine DG.pure 8 (by kernel_rfl) (by kernel_rfl) rfl rfl rfl rfl (lit_lt rfl) (fun _=>Calm.fieldAddr ty_field_61_0 rfl) ?_
  refine DG.pure 9 (by kernel_rfl) (by kernel_rfl) rfl rfl rfl rfl (lit_lt rfl) (fun _=>Calm.move rfl) ?_
  refine DG.two 4 10 (by kernel_rfl) rfl ?_ rfl ?_
  ·refine rC (Calm.load ty_plain_51 rfl (rd_own' hat1 (show [_,_,_,_][0]?=some _ from rfl))) ?_
   refine arun_nil ⟨fun h=>absurd h (by decide),?_⟩
   refine DG.only 10 (by kernel_rfl) rfl ?_
   refine ca_ rfl (hfr) ?_
   rintro _ Sx ⟨rfl,h1⟩
   rw [h1];clear h1 Sx
   refine arun_nil ⟨fun h=>absurd h (by decide),?_⟩
   refine DG.pure 11 (by kernel_rfl) (by kernel_rfl) rfl rfl rfl rfl (lit_lt rfl) (fun _=>Calm.indexS Tryz.underlying51 ty_size_5 rfl rfl (by omega) (by omega)) ?_
   refine DG.only 12 (by kernel_rfl) rfl ?_
   refine ARun.store1 rfl rfl ty_size_5 rfl ((Mem.own_set_other _ _ hqbc).trans (Mem.own_set_same _ _ _)) (by show 0+(i:Int).toNat*1<(cellsB (half r t i)).length;rw [cellsB_length,half_len (by omega)];omega) rfl ?_
   try simp only [k_ms,k_sz,k_ss,k_za,Nat.reduceAdd]
   refine arun_nil ⟨fun h=>absurd h (by decide),?_⟩
   refine DG.end_ (by kernel_rfl) ?_
   iterate 2 refine s1_ ?_
   refine su_ [(0,_),(2,_),(11,_),(75,_),(76,_),(77,_),(78,_),(16,_),(17,_)] ?_
   iterate 5 refine s1_ ?_
   refine ⟨i+1,?_,?_,?_,?_⟩
   all_goals (try dsimp only)
   ·exact ⟨rfl,rfl,rfl,rfl,rfl,rfl,trivial⟩
   ·(rw [set4 _ _ _ _ _ hqbc,← half_set hib,show (i:Int).toNat*1=i from by omega];exact Mem.Less.refl _)
   ·exact qi
   ·omega
  ·refine ca_ rfl (hfr) ?_
   rintro _ Sx ⟨rfl,h1⟩
   rw [h1];clear h1 Sx
   refine arun_nil ⟨fun h=>absurd h (by decide),?_⟩
   refine DG.only 4 (by kernel_rfl) rfl ?_
   refine rC (Calm.load ty_plain_51 rfl (rd_own' ((Mem.own_set_other _ _ hbgc).trans hat1) (show [_,_,_,_][0]?=some _ from rfl))) ?_
   refine arun_nil ⟨fun h=>absurd h (by decide),?_⟩
   refine DG.pure 11 (by kernel_rfl) (by kernel_rfl) rfl rfl rfl rfl (lit_lt rfl) (fun _=>Calm.indexS Tryz.underlying51 ty_size_5 rfl rfl (by omega) (by omega)) ?_
   refine DG.only 12 (by kernel_rfl) rfl ?_
   refine ARun.store1 rfl rfl ty_size_5 rfl ((Mem.own_set_other _ _ hqbc).trans (Mem.own_set_same _ _ _)) (by show 0+(i:Int).toNat*1<(cellsB (half r t i)).length;rw [cellsB_length,half_len (by omega)];omega) rfl ?_
   try simp only [k_ms,k_sz,k_ss,k_za,Nat.reduceAdd]
   refine arun_nil ⟨fun h=>absurd h (by decide),?_⟩
   refine DG.end_ (by kernel_rfl) ?_
   iterate 2 refine s1_ ?_
   refine su_ [(0,_),(2,_),(11,_),(75,_),(76,_),(77,_),(78,_),(16,_),(17,_)] ?_
   iterate 5 refine s1_ ?_
   refine ⟨i+1,?_,?_,?_,?_⟩
   all_goals (try dsimp only)
   ·exact ⟨rfl,rfl,rfl,rfl,rfl,rfl,trivial⟩
   ·(rw [set4 _ _ _ _ _ hqbc,← half_set hib,show (i:Int).toNat*1=i from by omega];exact Mem.Less.refl _)
   ·exact qi
   ·omega
 ·obtain rfl:i=t.length:=by omega
  rw [List.take_length,half_all] at *
  iterate 6 refine s1_ ?_
  refine cF_ ?_
  iterate 11 refine s1_ ?_
  refine rC (Calm.load ty_plain_51 rfl (rd_own' hat1 (show [_,_,_,_][0]?=some _ from rfl))) ?_
  refine rC (Calm.toStr (l:=t) ty_bytes_51 ty_str_9 rfl (by omega) (rds_own' (Mem.own_set_same _ _ _) rfl)) ?_
  iterate 6 refine s1_ ?_
  refine su_ [(0,_),(2,_),(11,_),(75,_),(76,_),(77,_),(78,_),(6,_),(7,_),(8,_)] ?_
  refine s1_ ?_
  refine ⟨_,S.set bc (cB (Mt.farR r t)),⟨_,_,rfl,⟨_,_,rfl,⟨_,_,rfl,rfl,rfl⟩,rfl⟩,rfl⟩,Pk.lessSkip (less_upd hB) ((Mem.own_set_other _ _ hqbc).trans (by have:=hq0;rw [Mem.own_set_other _ _ hqbc] at this;exact this)),?_⟩
  exact ⟨rfl,rfl⟩
end Sg
end Go.Proofs.YtckloanlkpchoaaGreatDoor
namespace Go.Proofs.YtckloanlkpchoaaGreatDoor
open Go.RowKit
open Mv Bits
set_option maxRecDepth 4000
namespace Bl
theorem goLen : goFn Tryz.prog 21 = true := by kernel_rfl
instance : TGo Tryz.prog 21 := ⟨goLen⟩
theorem Len (S : Mem) (b : Nat) (l : List UInt8) (T : Mem) (h : R S b l T) :
  ACall Tryz.prog 21 #[self b] T fun r S'=>r = .int .i64 (l.length:Int)∧S'=T:=by
 obtain ⟨p,o,hp,ho,hne,rfl⟩:=h
 obtain ⟨oa,oc,hoe⟩ : ∃ a c,outV o l.length = .slice a l.length c:=by
  cases o with
  | none=>have:=ho.nil rfl;rw [this];exact ⟨none,0,rfl⟩
  | some w=>exact ⟨_,_,rfl⟩
 have hby:(M S b p o l).own b=some (blk p (outV o l.length)):=Mem.own_set_same _ _ _
 refine ACall.enter (rs:=[.tmp 2]) 8 [(0,self b)] Tryz.func21 rfl rfl (Nat.le_of_ble_eq_true rfl) rfl ⟨rfl,trivial⟩ ?_
 iterate 10 refine s1_ ?_
 refine rC ((ldB ty_plain_51 hby hoe)) ?_
 iterate 4 refine s1_ ?_
 refine su_ [(0,_),(2,_)] ?_
 refine s1_ ?_
 refine ⟨_,M S b p o l,⟨_,_,rfl,rfl,rfl⟩,less_,?_⟩
 exact ⟨rfl,rfl⟩
end Bl
namespace Sg
theorem frR {S : Mem} {bc b : Nat} {r r' l : List UInt8} {T : Mem} {f : FuncId} {args : Array Value} {w : Value} (h : ACall Tryz.prog f args (S.set bc (cB r)) fun v S' => v = w ∧ S' = S.set bc (cB r')) (hb : Fresh (S.set bc (cB r)) b) (hR : Bl.R (S.set bc (cB r)) b l T) :
  ACall Tryz.prog f args T fun v T'=>v=w∧Bl.R (S.set bc (cB r')) b l T':=by
 obtain ⟨p,o,hp,ho,hne,rfl⟩:=hR
 have h1:=frameM h ho (e:=5) (cs:=cellsB l)
 have hfb:Fresh (outM (S.set bc (cB r)) o 5 (cellsB l)) b:=by
  cases o with
  | none=>exact hb
  | some q=>exact fresh_more hb (Ne.symm (hne q.1 q.2 rfl).1)
 exact (h1.frame (b:=b) (r:=Bl.blk p (outV o l.length)) hfb).mono fun v S' ⟨M1,⟨M2,⟨hv,hM2⟩,ok2,hM1⟩,_,hS'⟩=>by
  subst hM2;subst hM1;subst hS'
  exact ⟨hv,p,o,hp,ok2,hne,rfl⟩
theorem right_bits {L : List Bool} (h : L.length ≤ 1048576) : right (bs (pack L)).data.toList (L.length : Int) := ⟨by omega, by omega, by rw [Int.toNat_natCast]; exact right_pack L⟩
theorem slc_bits (L : List Bool) : slc (bs (pack L)).data.toList 0 L.length = L := by rw [slc_upto]; exact upto_pack L
/-- Where Back stands. -/
structure BackI (t : List UInt8) (i at_ : Nat) (out r : List UInt8) : Prop where
  le : i ≤ cntS t
  or_ : (i = 0 ∧ out = [] ∧ r = Mt.row0 ∧ at_ = 0) ∨ (t ≠ [] ∧ i = 1 ∧ out = t ∧ at_ = (segB t).length)
theorem back_end {t out r : List UInt8} {i k : Nat} (h : BackI t i k out r) (q : cntS t ≤ i) : t = out ∧ k = (segB t).length := by
 rcases h.or_ with ⟨h1,h2,h3,h4⟩ | ⟨_,_,h2,h3⟩
 ·by_cases e:t = []
  ·subst e;exact ⟨h2.symm,h4⟩
  ·exfalso;unfold cntS at q;rw [if_neg e] at q;omega
 ·exact ⟨h2.symm,h3⟩
set_option maxHeartbeats 4000000 in
theorem sg_Back (t : List UInt8) (S : Mem) (T : TypeId) (ev : Value) (ht : t.length ≤ 500) (hE : S.Knows ⟨1, 0, none⟩ [.iface T ev]) :
  ACall Tryz.prog 8 #[.agg #[.string (bs (pack (segB t))),.int .i64 ((segB t).length:Nat)],.int .i64 (cntS t:Nat)] S fun v S'=>v = .tuple #[.string (bs t),.int .i64 0]∧S'=S:=by
 have hsl:=segB_len (t:=t) (by omega)
 have hRb:=right_bits (L:=segB t) (by omega)
 have hcn:cntS t≤1:=by unfold cntS;split <;> decide
 have hsz:(bs (pack (segB t))).size=((segB t).length+7) / 8:=by
  have:=(right_pack (segB t)).1
  show (pack (segB t)).toArray.size=_
  rw [List.size_toArray,this]
 have hck:=fun S=>bitsV_Check (bs (pack (segB t))) ((segB t).length:Int) S (by omega)
 rw [chk_yes hRb] at hck
 refine ACall.enter (rs:=[.tmp 4,.tmp 5]) 68 [(0,.agg #[.string (bs (pack (segB t))),.int .i64 ((segB t).length:Nat)]),(1,.int .i64 (cntS t:Nat))] Tryz.func8 rfl rfl (Nat.le_of_ble_eq_true rfl) rfl ⟨rfl,rfl,trivial⟩ ?_
 iterate 2 refine s1_ ?_
 refine ARun.boxA (cs:=[_,_]) (lit_lt rfl) rfl ?_
 intro b2 f2
 have g2:=f2
 repeat ((with_reducible replace g2:=fresh_set g2);obtain ⟨g2,_⟩:=g2)
 refine nl_ ?_
 iterate 8 refine s1_ ?_
 refine ca_ rfl (hck _) ?_
 rintro _ Sx ⟨rfl,h1⟩
 rw [h1];clear h1 Sx
 iterate 3 refine s1_ ?_
 refine su_ [(0,_),(1,_),(2,_),(4,_),(5,_),(6,_)] ?_
 iterate 6 refine s1_ ?_
 refine su_ [(0,_),(1,_),(2,_),(4,_),(5,_),(6,_),(17,_)] ?_
 refine cF_ ?_
 iterate 13 refine s1_ ?_
 refine su_ [(0,_),(1,_),(2,_),(4,_),(5,_),(6,_),(17,_),(24,_)] ?_
 refine cF_ ?_
 iterate 4 refine s1_ ?_
 refine ca_ rfl (Mt.mt_New _) ?_
 rintro _ Sx ⟨rfl,h1⟩
 rw [h1];clear h1 Sx
 refine rC (Calm.build (cs:=cellsB Mt.row0) bldC rfl (bld_row row0_len)) ?_
 refine ARun.boxA (cs:=cellsB Mt.row0) (lit_lt rfl) rfl ?_
 intro b27 f27
 have g27:=f27
 repeat ((with_reducible replace g27:=fresh_set g27);obtain ⟨g27,_⟩:=g27)
 iterate 4 refine s1_ ?_
 refine su_ [(0,_),(1,_),(2,_),(4,_),(5,_),(6,_),(17,_),(24,_),(7,_),(8,_)] ?_
 iterate 2 refine s1_ ?_
 refine ARun.alloc (lit_lt rfl) ty_zero_64 ?_
 intro b9 f9
 have g9:=f9
 repeat ((with_reducible replace g9:=fresh_set g9);obtain ⟨g9,_⟩:=g9)
 refine nl_ ?_
 iterate 2 refine s1_ ?_
 have hf9:∀ k,Fresh ((S.set b2 ⟨31,[.string (bs (pack (segB t))),.int .i64 ((segB t).length:Nat)],2⟩).set b27 k) b9:=fun k=>fresh_more (fresh_set f9).1 (fresh_set f9).2
 have n27:b2≠b27:=f27.ne (Mem.own_set_same _ _ _)
 have n9:b2≠b9:=f9.ne ((Mem.own_set_other _ _ n27).trans (Mem.own_set_same _ _ _))
 have hE2:=hE.less (Mem.less_set S b2 ⟨31,[.string (bs (pack (segB t))),.int .i64 ((segB t).length:Nat)],2⟩ g2.1)
 have hc0:cB Mt.row0=⟨61,cellsB Mt.row0,(cellsB Mt.row0).length⟩:=by rw [row0_len];rfl
 rw [← hc0]
 have o2:=Mem.own_set_same S b2 ⟨31,[.string (bs (pack (segB t))),.int .i64 ((segB t).length:Nat)],2⟩
 obtain ⟨S2,hS2⟩ : ∃ S2,S2=S.set b2 ⟨31,[.string (bs (pack (segB t))),.int .i64 ((segB t).length:Nat)],2⟩:=⟨_,rfl⟩
 rw [← hS2] at hf9 hE2 o2 f27 ⊢
 have hSS:S.Less S2:=by rw [hS2];exact Mem.less_set _ _ _ g2.1
 iterate 8 refine s1_ ?_
 refine AWP.loop (X:=Nat × Mem × List UInt8 × List UInt8 × Nat) (fun x=>[(1,.int .i64 (cntS t:Nat)),(2,.pointer (some ⟨b2,0,none⟩)),(7,.pointer (some ⟨b27,0,none⟩)),(8,.int .i64 (x.2.2.2.2:Int)),(9,Bl.self b9),(28,.int .i64 (cntS t:Nat)),(29,.int .i64 (x.1:Int))]) (fun x=>x.2.1) (fun x=>BackI t x.1 x.2.2.2.2 x.2.2.1 x.2.2.2.1∧Bl.R (S2.set b27 (cB x.2.2.2.1)) b9 x.2.2.1 x.2.1) (fun x=>2-x.1) ((0,_,[],Mt.row0,0)) ⟨rfl,rfl,rfl,rfl,rfl,rfl,rfl,trivial⟩ (Mem.Less.refl _) (⟨⟨Nat.zero_le _,.inl ⟨rfl,rfl,rfl,rfl⟩⟩,Bl.R.new _ b9⟩) ?_
 rintro ⟨i,T1,out,r,k⟩ ⟨hI,hR⟩
 (try dsimp only at *)
 have o21:T1.own b2=some ⟨31,[.string (bs (pack (segB t))),.int .i64 ((segB t).length:Nat)],2⟩:=(hR.less (hf9 _)).1 _ _ ((Mem.own_set_other _ _ n27).trans o2)
 by_cases q:i<cntS t
 ·have hne:t ≠ []:=fun e=>by unfold cntS at q;rw [if_pos e] at q;exact absurd q (Nat.not_lt_zero _)
  have hc1:cntS t=1:=if_neg hne
  obtain ⟨rfl,rfl,rfl,rfl⟩ : i=0∧out = []∧r=Mt.row0∧k=0:=hI.or_.resolve_right (fun h=>by omega)
  have hrd:=sg_read b27 Mt.row0 t (bs (pack (segB t))) (segB t).length 0 S2 T ev f27 Mt.row_row0 hne ht hE2 hRb (by rw [← segB_pos hne,Nat.zero_add];exact Nat.le_refl _) (by rw [← segB_pos hne];exact slc_bits _)
  rw [← segB_pos hne,Nat.zero_add] at hrd
  have hrd2:=frR hrd (hf9 _) hR
  have hts:(bs t).size=t.length:=(show t.toArray.size=t.length from List.size_toArray)
  iterate 6 refine s1_ ?_
  refine cT_ ?_
  iterate 10 refine s1_ ?_
  refine su_ [(1,_),(2,_),(7,_),(8,_),(9,_),(28,_),(29,_),(30,_),(10,_)] ?_
  iterate 5 refine s1_ ?_
  refine ca_ rfl (hrd2) ?_
  rintro _ T2 ⟨rfl,hR2⟩
  iterate 9 refine s1_ ?_
  refine su_ [(1,_),(2,_),(7,_),(8,_),(9,_),(28,_),(29,_),(30,_),(10,_),(11,_),(12,_),(13,_)] ?_
  iterate 7 refine s1_ ?_
  refine su_ [(1,_),(2,_),(7,_),(8,_),(9,_),(28,_),(29,_),(30,_),(10,_),(11,_),(12,_),(13,_),(41,_)] ?_
  refine cF_ ?_
  iterate 8 refine s1_ ?_
  refine rC (Calm.bin rfl rfl (bin_bool (c:=false) (bin_lss _ _) (decide_eq_false (by omega)))) ?_
  iterate 6 refine s1_ ?_
  refine ARun.callG 9 false 52 rfl (lit_lt rfl) rfl (lit_lt rfl) go_21 rfl (Bl.Len _ b9 _ T2 hR2) ?_
  rintro _ Sx ⟨rfl,h1⟩
  rw [h1];clear h1 Sx
  iterate 3 refine s1_ ?_
  first|refine k_q 52 ?_|refine rG 52 (Calm.bin rfl rfl (bin_bool (c:=false) (bin_gtr _ _) (decide_eq_false (by rw [List.length_nil];omega)))) ?_
  iterate 3 refine s1_ ?_
  refine su_ [(1,_),(2,_),(7,_),(8,_),(9,_),(28,_),(29,_),(30,_),(10,_),(11,_),(12,_),(13,_),(41,_),(58,_)] ?_
  refine cF_ ?_
  iterate 5 refine s1_ ?_
  refine ca_ rfl (Bl.WriteString _ b9 _ T2 (bs t) (hf9 _) hR2 (by rw [List.length_nil];omega)) ?_
  rintro _ T3 ⟨rfl,hR3⟩
  iterate 2 refine s1_ ?_
  refine su_ [(1,_),(2,_),(7,_),(8,_),(9,_),(28,_),(29,_),(30,_),(10,_),(11,_),(12,_),(13,_),(41,_),(58,_)] ?_
  iterate 6 refine s1_ ?_
  refine su_ [(1,_),(2,_),(7,_),(8,_),(9,_),(28,_),(29,_),(30,_),(10,_),(11,_),(12,_),(13,_),(41,_),(58,_)] ?_
  iterate 5 refine s1_ ?_
  refine ⟨(1,T3,t,Mt.farR Mt.row0 t,(segB t).length),?_,?_,?_,?_⟩
  all_goals (try dsimp only)
  ·exact ⟨rfl,rfl,rfl,rfl,rfl,rfl,rfl,trivial⟩
  ·exact Mem.Less.refl _
  ·exact ⟨⟨by show 1≤cntS t;omega,.inr ⟨hne,rfl,rfl,rfl⟩⟩,hR3⟩
  ·omega
 ·have hil:=hI.le
  obtain ⟨rfl,rfl⟩:=back_end hI (by omega)
  iterate 6 refine s1_ ?_
  refine cF_ ?_
  iterate 14 refine s1_ ?_
  refine su_ [(1,_),(2,_),(7,_),(8,_),(9,_),(28,_),(29,_),(30,_),(66,_)] ?_
  refine cF_ ?_
  iterate 4 refine s1_ ?_
  refine ca_ rfl (Bl.StringE _ b9 _ T1 (hf9 _) hR (by omega)) ?_
  rintro _ Sx ⟨rfl,h1⟩
  rw [h1];clear h1 Sx
  iterate 4 refine s1_ ?_
  refine su_ [(1,_),(2,_),(7,_),(8,_),(9,_),(28,_),(29,_),(30,_),(66,_),(4,_),(5,_)] ?_
  refine s1_ ?_
  refine ⟨_,S,⟨_,_,rfl,⟨_,_,rfl,rfl,rfl⟩,rfl⟩,(by exact hSS.trans (Mem.less_set _ _ _ f27.1)),?_⟩
  exact ⟨rfl,rfl⟩
end Sg
end Go.Proofs.YtckloanlkpchoaaGreatDoor
namespace Go.Proofs.YtckloanlkpchoaaGreatDoor
open Go.RowKit
open Mv Num
set_option maxRecDepth 4000
namespace Num
theorem byte_shr (n k : Nat) : IntKind.u8.wrap ((n : Int) / 2 ^ k) = nb (UInt8.ofNat (n / 2 ^ k)) := by
 rw [← u8_nat];congr 1
theorem of_or (a : Nat) (c : UInt8) (h : a < 4294967296) : bits .or .u64 (IntKind.u64.wrap ((a : Int) * 2 ^ (8 : Int).toNat)) (nb c) = ((256 * a + c.toNat : Nat) : Int) := by
 have hc:=c.toNat_lt
 have e:(a:Int)*2 ^ (8:Int).toNat=((a*2 ^ 8:Nat):Int):=by rw [show (8:Int).toNat=8 from rfl];omega
 rw [e,IntWalk.u64_in _ (by omega),nb_byte,or_nat64 _ _ (by omega) (by omega),Nat.or_comm,or_join_nat _ _ _ (by omega)]
 omega
end Num
theorem numV_Five (n : Nat) (S : Mem) (hn : n < 18446744073709551616) :
  ACall Tryz.prog 58 #[.int .u64 n] S fun r S'=>r = .agg (cellsB (five n)).toArray∧S'=S:=by
 have e0:=byte_shr n 32;have e1:=byte_shr n 24;have e2:=byte_shr n 16;have e3:=byte_shr n 8
 have e4:=u8_nat n
 refine ACall.enter (rs:=[.cell 2 125]) 18 [(0,.int .u64 n)] Tryz.func58 rfl rfl (Nat.le_of_ble_eq_true rfl) rfl ⟨rfl,trivial⟩ ?_
 iterate 2 refine s1_ ?_
 refine ARun.alloc (lit_lt rfl) ty_zero_125 ?_
 intro b2 f2
 have g2:=f2
 repeat ((with_reducible replace g2:=fresh_set g2);obtain ⟨g2,_⟩:=g2)
 refine nl_ ?_
 iterate 6 refine s1_ ?_
 refine rC (Calm.conv rfl (conv_intW Tryz.underlying26 Tryz.underlying5 e0)) ?_
 iterate 2 refine s1_ ?_
 refine rC (Calm.conv rfl (conv_intW Tryz.underlying26 Tryz.underlying5 e1)) ?_
 iterate 2 refine s1_ ?_
 refine rC (Calm.conv rfl (conv_intW Tryz.underlying26 Tryz.underlying5 e2)) ?_
 iterate 2 refine s1_ ?_
 refine rC (Calm.conv rfl (conv_intW Tryz.underlying26 Tryz.underlying5 e3)) ?_
 refine s1_ ?_
 refine rC (Calm.conv rfl (conv_intW Tryz.underlying26 Tryz.underlying5 e4)) ?_
 refine rC (Calm.buildArr (cs:=[_,_,_,_,_]) ty_arr_125 rfl rfl) ?_
 iterate 3 refine s1_ ?_
 refine su_ [(0,_),(2,_)] ?_
 refine s1_ ?_
 refine ⟨_,S,⟨_,_,_,rfl,.inr ⟨ty_agg_125,[_,_,_,_,_],ty_size_125,rds_,rfl⟩,rfl,rfl⟩,less_,?_⟩
 exact ⟨rfl,rfl⟩
end Go.Proofs.YtckloanlkpchoaaGreatDoor
namespace Go.Proofs.YtckloanlkpchoaaGreatDoor
open Go.RowKit
open Mv Num Bits
set_option maxRecDepth 4000
namespace Bx
/-- A bound on what is as long as this. -/
theorem leOf (n : Nat) {a m : Nat} (h : a = n := by rfl) (k : n ≤ m := by decide) : a ≤ m := h ▸ k
theorem bx_put (n : Nat) (S : Mem) (b : Nat) (l : List UInt8) (T : Mem) (hn : n < 18446744073709551616) (hf : Fresh S b) (h : Bl.R S b l T) (hl : l.length ≤ 1048576) :
  ACall Tryz.prog 57 #[.int .u64 (n:Int),Bl.self b] T fun r S'=>r = .tuple #[]∧Bl.R S b (l ++ five n) S':=by
 have h5:=numV_Five n T hn
 obtain ⟨x0,x1,x2,x3,x4,e⟩ : ∃ x0 x1 x2 x3 x4,five n = [x0,x1,x2,x3,x4]:=⟨_,_,_,_,_,rfl⟩
 rw [e] at h5 ⊢
 unfold cellsB at h5
 simp only [List.map_cons,List.map_nil] at h5
 refine ACall.enter (rs:=[]) 8 [(0,.int .u64 (n:Int)),(1,Bl.self b)] Tryz.func57 rfl rfl (Nat.le_of_ble_eq_true rfl) rfl ⟨rfl,rfl,trivial⟩ ?_
 iterate 3 refine s1_ ?_
 refine ca_ rfl (h5) ?_
 rintro _ S1 ⟨rfl,h1⟩
 rw [h1];clear h1 S1
 refine ARun.alloc (lit_lt rfl) ty_zero_125 ?_
 intro b3 f3
 have g3:=f3
 repeat ((with_reducible replace g3:=fresh_set g3);obtain ⟨g3,_⟩:=g3)
 refine nl_ ?_
 iterate 3 refine s1_ ?_
 refine su_ [(0,_),(1,_),(3,_)] ?_
 obtain ⟨hR,hF,q1,q2⟩:=h.set hf f3 (X:=⟨125,cellsB [x0,x1,x2,x3,x4],5⟩)
 iterate 2 refine s1_ ?_
 refine ca_ rfl (Bl.Write _ b l _ b3 5 5 _ [x0,x1,x2,x3,x4] 5 hF hR (Mem.own_set_same _ _ _) rfl (by decide) (by omega)) ?_
 rintro _ S2 ⟨rfl,hR2⟩
 obtain ⟨S3,hR3,hS3⟩:=hR2.unset q1 q2
 refine s1_ ?_
 refine ⟨_,S3,rfl,hS3,?_⟩
 exact ⟨rfl,hR3⟩
theorem tailC (n : Nat) (h : n < 4294967296) (S : Mem) : ACall Tryz.prog 34 #[.int .u32 (n : Int)] S fun r S' => r = .string (bs (le4 n)) ∧ S' = S := ACall.of_calls fun w => by
 have:=crc_Tail (n:Int) (by omega) (by omega) w
 rw [tail_le4 n h] at this
 exact this
theorem sumC (S : Mem) (b : Nat) (e : TypeId) (k : Nat) (s : ByteArray) (hs : s.size ≤ maxLen) (h : S.own b = some ⟨e, [.string s], k⟩) :
  ACall Tryz.prog 13 #[.slice (some ⟨b,0,none⟩) 1 1] S fun r S'=>r = .int .u32 ((sumOf s).toNat:Int)∧S'=S:=fun w hv =>
 (crc_Sum1 b 0 1 1 s w rfl hs (hv.rd (rd_own' h rfl))).mono fun e w' ⟨he,hw⟩=>⟨_,S,he,⟨rfl,rfl⟩,by rw [← hw];exact Step.refl hv⟩
def hdV (cnt prim sm segs nb : Nat) : Value := .agg #[.int .u64 (cnt : Int), .int .u64 (prim : Int), .int .u32 (sm : Int), .int .u64 (segs : Int), .int .u64 (nb : Int)]
set_option maxHeartbeats 4000000 in
theorem bx_Front (cnt prim sm segs nb : Nat) (S : Mem) (h1 : cnt < 18446744073709551616) (h2 : prim < 18446744073709551616) (h3 : sm < 4294967296) (h4 : segs < 18446744073709551616) (h5 : nb < 18446744073709551616) :
  ACall Tryz.prog 33 #[hdV cnt prim sm segs nb] S fun r S'=>r = .string (bs (hdL cnt prim sm segs nb))∧S'=S:=by
 unfold hdV
 refine ACall.enter (rs:=[.tmp 2]) 28 [(0,.agg #[.int .u64 (cnt:Int),.int .u64 (prim:Int),.int .u32 (sm:Int),.int .u64 (segs:Int),.int .u64 (nb:Int)])] Tryz.func33 rfl rfl (Nat.le_of_ble_eq_true rfl) rfl ⟨rfl,trivial⟩ ?_
 iterate 2 refine s1_ ?_
 refine k_b5 rfl ?_
 intro b1 f1
 have g1:=f1
 repeat ((with_reducible replace g1:=fresh_set g1);obtain ⟨g1,_⟩:=g1)
 refine nl_ ?_
 iterate 5 refine s1_ ?_
 refine ARun.alloc (lit_lt rfl) ty_zero_64 ?_
 intro b3 f3
 have g3:=f3
 repeat ((with_reducible replace g3:=fresh_set g3);obtain ⟨g3,_⟩:=g3)
 refine nl_ ?_
 iterate 2 refine s1_ ?_
 have o0:=Mem.own_set_same S b1 ⟨29,[.int .u64 (cnt:Int),.int .u64 (prim:Int),.int .u32 (sm:Int),.int .u64 (segs:Int),.int .u64 (nb:Int)],5⟩
 iterate 6 refine s1_ ?_
 refine su_ [(0,_),(1,_),(2,_),(3,_),(4,_)] ?_
 iterate 2 refine s1_ ?_
 refine ca_ rfl (Bl.WriteString _ b3 [] _ ⟨#[87,82,71,49]⟩ f3 (Bl.R.new _ b3) (by decide)) ?_
 rintro _ T1 ⟨rfl,hR1⟩
 have o1:=(hR1.less f3).1 _ _ o0
 iterate 2 refine s1_ ?_
 refine su_ [(0,_),(1,_),(2,_),(3,_),(4,_)] ?_
 iterate 5 refine s1_ ?_
 refine ARun.callV (lit_lt rfl) go_57 rfl rfl (bx_put cnt _ b3 _ T1 h1 f3 hR1 (by decide)) ?_
 rintro _ T2 ⟨rfl,hR2⟩
 have o2:=(hR2.less f3).1 _ _ o0
 iterate 2 refine s1_ ?_
 refine su_ [(0,_),(1,_),(2,_),(3,_),(4,_)] ?_
 iterate 5 refine s1_ ?_
 refine ARun.callV (lit_lt rfl) go_57 rfl rfl (bx_put prim _ b3 _ T2 h2 f3 hR2 (leOf 9)) ?_
 rintro _ T3 ⟨rfl,hR3⟩
 have o3:=(hR3.less f3).1 _ _ o0
 iterate 2 refine s1_ ?_
 refine su_ [(0,_),(1,_),(2,_),(3,_),(4,_)] ?_
 iterate 4 refine s1_ ?_
 refine ca_ rfl (tailC sm h3 T3) ?_
 rintro _ Sx ⟨rfl,e1⟩
 rw [e1];clear e1 Sx
 refine ca_ rfl (Bl.WriteString _ b3 _ T3 (bs (le4 sm)) f3 hR3 (leOf 18)) ?_
 rintro _ T4 ⟨rfl,hR4⟩
 have o4:=(hR4.less f3).1 _ _ o0
 iterate 2 refine s1_ ?_
 refine su_ [(0,_),(1,_),(2,_),(3,_),(4,_)] ?_
 iterate 5 refine s1_ ?_
 refine ARun.callV (lit_lt rfl) go_57 rfl rfl (bx_put segs _ b3 _ T4 h4 f3 hR4 (leOf 18)) ?_
 rintro _ T5 ⟨rfl,hR5⟩
 have o5:=(hR5.less f3).1 _ _ o0
 iterate 2 refine s1_ ?_
 refine su_ [(0,_),(1,_),(2,_),(3,_),(4,_)] ?_
 iterate 5 refine s1_ ?_
 refine ARun.callV (lit_lt rfl) go_57 rfl rfl (bx_put nb _ b3 _ T5 h5 f3 hR5 (leOf 23)) ?_
 rintro _ T6 ⟨rfl,hR6⟩
 have o6:=(hR6.less f3).1 _ _ o0
 iterate 2 refine s1_ ?_
 refine su_ [(0,_),(1,_),(2,_),(3,_),(4,_)] ?_
 iterate 2 refine s1_ ?_
 refine ca_ rfl (Bl.StringE _ b3 _ T6 f3 hR6 (leOf 28)) ?_
 rintro _ Sx ⟨rfl,e1⟩
 rw [e1];clear e1 Sx
 iterate 3 refine s1_ ?_
 refine su_ [(0,_),(1,_),(2,_),(3,_),(4,_)] ?_
 refine s1_ ?_
 refine ⟨_,S,⟨_,_,rfl,rfl,rfl⟩,less_,?_⟩
 exact ⟨rfl,rfl⟩
theorem bs_add (a b : List UInt8) : bs a ++ bs b = bs (a ++ b) := str_ext (by simp [bs])
theorem max3 {P : Program} {N : Nat} {E : Env} {S : Mem} {dst : Option Nat} {ty : TypeId} {pos : String} {aft : Array Edge} {gd : Option (Nat × Bool)} {x y z : Operand} {k : IntKind} {a b c : Nat} {ats : Array TypeId} (hx : ev E x = some (.int k (a : Int))) (hy : ev E y = some (.int k (b : Int))) (hz : ev E z = some (.int k (c : Int))) : ACalm P N ⟨dst, .call ⟨.builtin .max, #[x, y, z], ats⟩, ty, pos, aft, gd⟩ E S (.int k ((max (max a b) c : Nat) : Int)) := fun f w g hv => by
 have h1:=run_max_int3 (P:=P) (w:=w) ats ty k k k (a:Int) (b:Int) (c:Int)
 simp only [execOp,resolve,invoke,builtin,List.map_toArray,List.map_cons,List.map_nil,g.ev hx,g.ev hy,g.ev hz,Sem.run_bind,Sem.run_pure,Result.andThen_ok,h1]
 congr 3
 split <;> split <;> omega
theorem bx_beyond (cnt prim sm segs nb : Nat) (S : Mem) (h1 : cnt < top) (h2 : prim < top) (h4 : segs < top) :
  ACall Tryz.prog 32 #[hdV cnt prim sm segs nb] S fun r S'=>r = .bool false∧S'=S:=by
 have ht:top=1099511627776:=rfl
 rw [ht] at h1 h2 h4
 unfold hdV
 refine ACall.enter (rs:=[.tmp 2]) 11 [(0,.agg #[.int .u64 (cnt:Int),.int .u64 (prim:Int),.int .u32 (sm:Int),.int .u64 (segs:Int),.int .u64 (nb:Int)])] Tryz.func32 rfl rfl (Nat.le_of_ble_eq_true rfl) rfl ⟨rfl,trivial⟩ ?_
 iterate 2 refine s1_ ?_
 refine k_b5 rfl ?_
 intro b1 f1
 have g1:=f1
 repeat ((with_reducible replace g1:=fresh_set g1);obtain ⟨g1,_⟩:=g1)
 refine nl_ ?_
 iterate 11 refine s1_ ?_
 refine rC (max3 rfl rfl rfl) ?_
 refine rC (Calm.bin rfl rfl (bin_bool (c:=false) (bin_geq _ _) (decide_eq_false (by omega)))) ?_
 iterate 3 refine s1_ ?_
 refine su_ [(0,_),(1,_),(2,_)] ?_
 refine s1_ ?_
 refine ⟨_,S,⟨_,_,rfl,rfl,rfl⟩,less_,?_⟩
 exact ⟨rfl,rfl⟩
theorem binAdd {P : Program} {t : TypeId} {x y : Operand} {a b c : List UInt8} (e : a ++ b = c) (h : a.length + b.length ≤ 9223372036854775807) : Bin P .add t x y (.string (bs a)) (.string (bs b)) (.string (bs c)) := by
 have:=bin_str_add (P:=P) (t:=t) (x:=x) (y:=y) (a:=bs a) (b:=bs b) (by rw [size_bs,size_bs];exact h)
 rwa [bs_add,e] at this
set_option maxHeartbeats 4000000 in
theorem bx_Seal (cnt prim sm segs : Nat) (L : List Bool) (S : Mem) (h1 : cnt < top) (h2 : prim < top) (h3 : sm < 4294967296) (h4 : segs < top) (h5 : L.length ≤ 20000) :
  ACall Tryz.prog 12 #[hdV cnt prim sm segs L.length,.agg #[.string (bs (pack L)),.int .i64 (L.length:Int)]] S fun r S'=>r = .tuple #[.string (bs (boxL cnt prim sm segs L)),.int .i64 0]∧S'=S:=by
 have ht:top=1099511627776:=rfl
 rw [ht] at h1 h2 h4
 have hpl:=(right_pack L).1
 have hck:=fun S=>bitsV_Check (bs (pack L)) (L.length:Int) S (by rw [size_bs];omega)
 rw [chk_yes (Sg.right_bits (by omega))] at hck
 have hF:=fun S=>bx_Front cnt prim sm segs L.length S (by omega) (by omega) h3 (by omega) (by omega)
 have hbl:=bodyL_length cnt prim sm segs L
 have hbs:(bs (bodyL cnt prim sm segs L)).size=28+(L.length+7) / 8:=by rw [size_bs,hbl]
 have hsm:(sumOf (bs (bodyL cnt prim sm segs L))).toNat<4294967296:=(sumOf (bs (bodyL cnt prim sm segs L))).isLt
 have hB:=fun S=>bx_beyond cnt prim sm segs L.length S (by omega) (by omega) (by omega)
 unfold hdV at hF hB ⊢
 refine ACall.enter (rs:=[.tmp 4,.tmp 5]) 40 [(0,.agg #[.int .u64 (cnt:Int),.int .u64 (prim:Int),.int .u32 (sm:Int),.int .u64 (segs:Int),.int .u64 (L.length:Int)]),(1,.agg #[.string (bs (pack L)),.int .i64 (L.length:Int)])] Tryz.func12 rfl rfl (Nat.le_of_ble_eq_true rfl) rfl ⟨rfl,rfl,trivial⟩ ?_
 iterate 2 refine s1_ ?_
 refine k_b5 rfl ?_
 intro b2 f2
 have g2:=f2
 repeat ((with_reducible replace g2:=fresh_set g2);obtain ⟨g2,_⟩:=g2)
 refine nl_ ?_
 refine ARun.boxA (cs:=[_,_]) (lit_lt rfl) rfl ?_
 intro b3 f3
 have g3:=f3
 repeat ((with_reducible replace g3:=fresh_set g3);obtain ⟨g3,_⟩:=g3)
 refine nl_ ?_
 iterate 8 refine s1_ ?_
 refine ca_ rfl (hck _) ?_
 rintro _ Sx ⟨rfl,e1⟩
 rw [e1];clear e1 Sx
 iterate 3 refine s1_ ?_
 refine su_ [(0,_),(1,_),(2,_),(3,_),(4,_),(5,_),(6,_)] ?_
 iterate 6 refine s1_ ?_
 refine su_ [(0,_),(1,_),(2,_),(3,_),(4,_),(5,_),(6,_),(11,_)] ?_
 refine cF_ ?_
 iterate 7 refine s1_ ?_
 refine ca_ rfl (hB _) ?_
 rintro _ Sx ⟨rfl,e1⟩
 rw [e1];clear e1 Sx
 iterate 6 refine s1_ ?_
 first|refine k_q 16 ?_|refine rG 16 (Calm.bin rfl rfl (bin_bool (c:=false) (bin_neq _ _) (by simp))) ?_
 iterate 4 refine s1_ ?_
 refine su_ [(0,_),(1,_),(2,_),(3,_),(4,_),(5,_),(6,_),(11,_),(13,_)] ?_
 refine cF_ ?_
 iterate 5 refine s1_ ?_
 refine rC (Calm.bin rfl rfl (bin_bool (c:=false) (bin_gtr _ _) (decide_eq_false (by rw [size_bs];omega)))) ?_
 iterate 3 refine s1_ ?_
 refine su_ [(0,_),(1,_),(2,_),(3,_),(4,_),(5,_),(6,_),(11,_),(13,_),(24,_)] ?_
 refine cF_ ?_
 iterate 4 refine s1_ ?_
 refine AWP.draw [(0,true),(2,true),(3,true),(1,false),(4,true),(5,true)] [] mixed (by kernel_rfl) ?_
 iterate 3 refine s1_ ?_
 refine draw_only rfl ?_
 refine ca_ rfl (hF _) ?_
 rintro _ Sx ⟨rfl,e1⟩
 rw [e1];clear e1 Sx
 refine arun_nil ⟨fun _=>less_,?_⟩
 refine dP (hc:=fun _=>Calm.bin rfl rfl (binAdd (c:=bodyL cnt prim sm segs L) rfl (by rw [hdL_length];omega))) (h:=?_)
 iterate 3 refine s1_ ?_
 refine su_ [(0,_),(1,_),(2,_),(3,_),(4,_),(5,_),(6,_),(11,_),(13,_),(24,_),(7,_)] ?_
 iterate 4 refine s1_ ?_
 refine ARun.build1s (lit_lt rfl) ty_sl_83 rfl rfl ?_
 intro b36 f36
 have g36:=f36
 repeat ((with_reducible replace g36:=fresh_set g36);obtain ⟨g36,_⟩:=g36)
 refine ca_ rfl (sumC _ b36 9 1 (bs (bodyL cnt prim sm segs L)) (by rw [hbs];unfold maxLen;omega) (Mem.own_set_same _ _ _)) ?_
 rintro _ Sx ⟨rfl,e1⟩
 rw [e1];clear e1 Sx
 refine ca_ rfl (tailC _ hsm _) ?_
 rintro _ Sx ⟨rfl,e1⟩
 rw [e1];clear e1 Sx
 refine rC (Calm.bin rfl rfl (binAdd (c:=boxL cnt prim sm segs L) rfl (by show _+4≤_;omega))) ?_
 iterate 4 refine s1_ ?_
 refine su_ [(0,_),(1,_),(2,_),(3,_),(4,_),(5,_),(6,_),(11,_),(13,_),(24,_),(7,_)] ?_
 refine s1_ ?_
 refine ⟨_,S,⟨_,_,rfl,⟨_,_,rfl,rfl,rfl⟩,rfl⟩,less_,?_⟩
 exact ⟨rfl,rfl⟩
set_option maxHeartbeats 4000000 in
theorem bx_Build (s : ByteArray) (S : Mem) (hs : s.size ≤ 300) :
  ACall Tryz.prog 5 #[.string s] S fun r S'=>r = .tuple #[.string (bs (boxS s)),.int .i64 0]∧S'=S:=by
 obtain ⟨c1,c2,c3,_⟩:=col_ok s (by omega)
 have hcl:=colL_len s (by omega)
 have hC:=fun S=>od_Column s S (by omega)
 unfold ColPR at hC
 rw [c1] at hC
 have hA:=fun S=>Sg.sg_All (colP s).1 S (by omega)
 have hsl:=segB_small (t:=colL s) (by omega)
 have ht:top=1099511627776:=rfl
 have hsm:(sumOf s).toNat<4294967296:=(sumOf s).isLt
 have hcn:Sg.cntS (colL s)≤1:=by unfold Sg.cntS;split <;> decide
 have hS:=fun S=>bx_Seal s.size (colP s).2.1 (sumOf s).toNat (Sg.cntS (colL s)) (Sg.segB (colL s)) S (by omega) (by omega) hsm (by omega) hsl
 unfold hdV at hS
 have hbx:boxS s=boxL s.size (colP s).2.1 (sumOf s).toNat (Sg.cntS (colL s)) (Sg.segB (colL s)):=rfl
 rw [← hbx] at hS
 rw [show (colP s).1.data.toList=colL s from rfl] at hA
 generalize boxS s=B at *
 generalize Sg.cntS (colL s)=cn at *
 generalize Sg.segB (colL s)=L at *
 generalize (colP s).2.1=pm at *
 have hsum:=fun S b e k=>sumC S b e k s (by unfold maxLen;omega)
 generalize (sumOf s).toNat=sm at *
 refine ACall.enter (rs:=[.tmp 2,.tmp 3]) 45 [(0,.string s)] Tryz.func5 rfl rfl (Nat.le_of_ble_eq_true rfl) rfl ⟨rfl,trivial⟩ ?_
 iterate 9 refine s1_ ?_
 refine ca_ rfl (hC _) ?_
 rintro _ Sx ⟨rfl,e1⟩
 rw [e1];clear e1 Sx
 iterate 9 refine s1_ ?_
 refine su_ [(0,_),(2,_),(3,_),(4,_),(5,_),(6,_)] ?_
 iterate 7 refine s1_ ?_
 refine su_ [(0,_),(2,_),(3,_),(4,_),(5,_),(6,_),(16,_)] ?_
 refine cF_ ?_
 iterate 5 refine s1_ ?_
 refine ca_ rfl (hA _) ?_
 rintro _ Sx ⟨rfl,e1⟩
 rw [e1];clear e1 Sx
 iterate 4 refine s1_ ?_
 refine ARun.alloc (lit_lt rfl) ty_zero_31 ?_
 intro b7 f7
 have g7:=f7
 repeat ((with_reducible replace g7:=fresh_set g7);obtain ⟨g7,_⟩:=g7)
 refine nl_ ?_
 iterate 5 refine s1_ ?_
 refine su_ [(0,_),(2,_),(3,_),(4,_),(5,_),(6,_),(16,_),(7,_),(8,_)] ?_
 iterate 7 refine s1_ ?_
 refine su_ [(0,_),(2,_),(3,_),(4,_),(5,_),(6,_),(16,_),(7,_),(8,_),(25,_)] ?_
 refine cF_ ?_
 iterate 3 refine s1_ ?_
 refine AWP.draw [(0,true),(1,true),(2,true),(3,true),(4,true),(5,true),(8,true),(9,true),(10,true),(11,true),(12,true),(14,true),(6,false),(7,false),(13,true),(15,false),(16,true),(17,true),(18,true),(19,true)] [] mixed (by kernel_rfl) ?_
 iterate 12 refine s1_ ?_
 refine draw_only rfl ?_
 refine ARun.build1s (lit_lt rfl) ty_sl_83 rfl rfl ?_
 intro b33 f33
 have g33:=f33
 repeat ((with_reducible replace g33:=fresh_set g33);obtain ⟨g33,_⟩:=g33)
 refine arun_nil ⟨fun _=>less_,?_⟩
 refine draw_only rfl ?_
 refine ca_ rfl (hsum _ b33 9 1 (Mem.own_set_same _ _ _)) ?_
 rintro _ Sx ⟨rfl,e1⟩
 rw [e1];clear e1 Sx
 refine arun_nil ⟨fun _=>less_,?_⟩
 refine s1_ ?_
 refine draw_only rfl ?_
 refine ca_ rfl (hS _) ?_
 rintro _ Sx ⟨rfl,e1⟩
 rw [e1];clear e1 Sx
 refine arun_nil ⟨fun _=>less_,?_⟩
 iterate 6 refine s1_ ?_
 refine su_ [(0,_),(2,_),(3,_),(4,_),(5,_),(6,_),(16,_),(7,_),(8,_),(25,_)] ?_
 refine s1_ ?_
 refine ⟨_,S,⟨_,_,rfl,⟨_,_,rfl,rfl,rfl⟩,rfl⟩,less_,?_⟩
 exact ⟨rfl,rfl⟩
end Bx
end Go.Proofs.YtckloanlkpchoaaGreatDoor
namespace Go.Proofs.YtckloanlkpchoaaGreatDoor
open Go.RowKit
open Mv Num
set_option maxRecDepth 4000
set_option maxHeartbeats 400000 in
theorem numV_Of (s : ByteArray) (S : Mem) (h5 : 5 ≤ s.size) (hs : s.size ≤ 9223372036854775807) :
  ACall Tryz.prog 93 #[.string s] S fun r S'=>r = .int .u64 (ofB (s.data.toList.take 5):Nat)∧S'=S:=by
 have hsz:=size_list s
 refine ACall.enter (rs:=[.tmp 2]) 17 [(0,.string s)] Tryz.func93 rfl rfl (Nat.le_of_ble_eq_true rfl) rfl ⟨rfl,trivial⟩ ?_
 iterate 17 refine s1_ ?_
 refine AWP.loop (X:=Nat) (fun x=>[(0,.string s),(3,.int .u64 (ofB (s.data.toList.take x):Nat)),(5,.int .i64 x)]) (fun x=>S) (fun x=>x≤5) (fun x=>5-x) (0) ⟨rfl,rfl,rfl,trivial⟩ (Mem.Less.refl _) (Nat.zero_le _) ?_
 rintro k hk
 (try dsimp only at *)
 iterate 6 refine s1_ ?_
 refine AWP.condB rfl (fun hl=>?_) (fun hl=>?_)
 ·have hl:k<5:=by have:=of_decide_eq_true hl;omega
  have hq:=of_or (ofB (s.data.toList.take k)) (at8 s.data.toList k) (ofB_small _ _ (by omega))
  rw [← ofB_take _ _ (by omega)] at hq
  iterate 10 refine s1_ ?_
  refine su_ [(0,_),(3,_),(5,_),(6,_),(4,_)] ?_
  iterate 12 refine s1_ ?_
  refine su_ [(0,_),(3,_),(5,_),(6,_),(4,_)] ?_
  iterate 5 refine s1_ ?_
  refine ⟨k+1,?_,?_,?_,?_⟩
  all_goals (try dsimp only)
  ·exact ⟨rfl,some_int hq,some_int (by omega),trivial⟩
  ·exact Mem.Less.refl _
  ·exact hl
  ·omega
 ·have hl:k=5:=by have:=of_decide_eq_false hl;omega
  subst hl
  iterate 11 refine s1_ ?_
  refine su_ [(0,_),(3,_),(5,_),(6,_),(2,_)] ?_
  refine s1_ ?_
  refine ⟨_,S,⟨_,_,rfl,rfl,rfl⟩,less_,?_⟩
  exact ⟨rfl,rfl⟩
/-! ### The document's -/
end Go.Proofs.YtckloanlkpchoaaGreatDoor
namespace Go.Proofs.YtckloanlkpchoaaGreatDoor
open Go.RowKit
open Mv
set_option maxRecDepth 4000
namespace St
theorem len_list (s : ByteArray) : s.data.toList.length = s.size := Array.length_toList (xs := s.data)
theorem hasPrefix (s p : ByteArray) (S : Mem) (hs : s.size ≤ 9223372036854775807) (hp : p.size ≤ 9223372036854775807) :
  ACall Tryz.prog 91 #[.string s,.string p] S fun r S'=>r = .bool (decide (s.data.toList.take p.size=p.data.toList))∧S'=S:=by
 have hl:=len_list s
 have hlp:=len_list p
 by_cases h:p.size≤s.size
 ·have e:decide (s.extract 0 p.size=p)=decide (s.data.toList.take p.size=p.data.toList):=by
   rw [decide_eq_decide]
   constructor
   ·intro h;rw [← congrArg (fun x=>x.data.toList) h];simp [Lib.extract_data]
   ·intro h;apply str_ext;rw [← h];simp [Lib.extract_data]
  refine ACall.enter (rs:=[.tmp 4]) 18 [(0,.string s),(1,.string p)] Tryz.func91 rfl rfl (Nat.le_of_ble_eq_true rfl) rfl ⟨rfl,rfl,trivial⟩ ?_
  iterate 23 refine s1_ ?_
  refine su_ [(0,_),(1,_),(4,_)] ?_
  refine s1_ ?_
  refine ⟨_,S,⟨_,_,rfl,rfl,rfl⟩,less_,?_⟩
  exact ⟨by rw [← e];rfl,rfl⟩
 ·have e:decide (s.data.toList.take p.size=p.data.toList)=false:=decide_eq_false fun h=>by
   have:=congrArg List.length h
   rw [List.length_take] at this;omega
  rw [e]
  refine ACall.enter (rs:=[.tmp 4]) 18 [(0,.string s),(1,.string p)] Tryz.func91 rfl rfl (Nat.le_of_ble_eq_true rfl) rfl ⟨rfl,rfl,trivial⟩ ?_
  iterate 23 refine s1_ ?_
  refine su_ [(0,_),(1,_),(4,_)] ?_
  refine s1_ ?_
  refine ⟨_,S,⟨_,_,rfl,rfl,rfl⟩,less_,?_⟩
  exact ⟨rfl,rfl⟩
theorem HasPrefix (s p : ByteArray) (S : Mem) (hs : s.size ≤ 9223372036854775807) (hp : p.size ≤ 9223372036854775807) :
  ACall Tryz.prog 62 #[.string s,.string p] S fun r S'=>r = .bool (decide (s.data.toList.take p.size=p.data.toList))∧S'=S:=by
 refine ACall.enter (rs:=[.tmp 4]) 8 [(0,.string s),(1,.string p)] Tryz.func62 rfl rfl (Nat.le_of_ble_eq_true rfl) rfl ⟨rfl,rfl,trivial⟩ ?_
 iterate 9 refine s1_ ?_
 refine ca_ rfl (hasPrefix s p _ hs hp) ?_
 rintro _ S1 ⟨rfl,h1⟩
 rw [h1];clear h1 S1
 iterate 3 refine s1_ ?_
 refine su_ [(0,_),(1,_),(4,_)] ?_
 refine s1_ ?_
 refine ⟨_,S,⟨_,_,rfl,rfl,rfl⟩,less_,?_⟩
 exact ⟨rfl,rfl⟩
end St
end Go.Proofs.YtckloanlkpchoaaGreatDoor
namespace Go.Proofs.YtckloanlkpchoaaGreatDoor
open Go.RowKit
open Mv Num Bits
set_option maxRecDepth 4000
namespace Bx
theorem ext_drop (a r : List UInt8) (k : Nat) (h : k = a.length) : (bs (a ++ r)).extract k (bs (a ++ r)).size = bs r := by
 subst h
 apply str_ext
 rw [Lib.extract_data,bs_data,bs_data,size_bs,List.drop_left]
 exact List.take_of_length_le (by rw [List.length_append];omega)
theorem ext_take (a r : List UInt8) (k : Nat) (h : k = a.length) : (bs (a ++ r)).extract 0 k = bs a := by
 subst h
 apply str_ext
 rw [Lib.extract_data,bs_data,bs_data,List.drop_zero,Nat.sub_zero,List.take_left]
theorem ext_mid (a m r : List UInt8) (i j : Nat) (h : i = a.length) (h2 : j = a.length + m.length) : (bs (a ++ m ++ r)).extract i j = bs m := by
 subst h;subst h2
 apply str_ext
 rw [Lib.extract_data,bs_data,bs_data,List.append_assoc,List.drop_left,Nat.add_sub_cancel_left,List.take_left]
theorem bx_get (b n : Nat) (s u : ByteArray) (r : List UInt8) (M : Mem) (hn : n < top) (hr : r.length ≤ 1000000) (es : s = bs (five n ++ r)) (eu : u = bs r) (hb : M.own b = some ⟨9, [.string s], 1⟩) :
  ACall Tryz.prog 92 #[.pointer (some ⟨b,0,none⟩)] M fun v S'=>v = .int .u64 (n:Int)∧S'=M.set b ⟨9,[.string u],1⟩:=by
 have hl:s.size=5+r.length:=by rw [es,size_bs,List.length_append];rfl
 have hO:=numV_Of s M (by omega) (by omega)
 have e5:s.data.toList.take 5=five n:=by rw [es,bs_data];rfl
 have ex:s.extract 5 s.size=u:=by rw [es,eu];exact ext_drop (five n) r _ rfl
 rw [e5,ofB_five n hn] at hO
 refine ACall.enter (rs:=[.tmp 1]) 8 [(0,.pointer (some ⟨b,0,none⟩))] Tryz.func92 rfl rfl (Nat.le_of_ble_eq_true rfl) rfl ⟨rfl,trivial⟩ ?_
 iterate 8 refine s1_ ?_
 refine ca_ rfl (hO) ?_
 rintro _ Sx ⟨rfl,e1⟩
 rw [e1];clear e1 Sx
 iterate 3 refine s1_ ?_
 refine su_ [(0,_),(1,_),(2,_)] ?_
 iterate 3 refine s1_ ?_
 refine rC (Calm.as (v':=.string u) (congrArg Value.string (by assumption)) (Calm.sliceStr (strT_spec ty_str_9) rfl (bnd_none _ _) (bnd_some _ _ rfl (by omega) (by omega)))) ?_
 iterate 3 refine s1_ ?_
 refine su_ [(0,_),(1,_),(2,_)] ?_
 iterate 6 refine s1_ ?_
 refine su_ [(0,_),(1,_),(2,_)] ?_
 refine s1_ ?_
 refine ⟨_,_,⟨_,_,rfl,rfl,rfl⟩,Mem.Less.refl _,?_⟩
 exact ⟨rfl,rfl⟩
/-- A memory whose blocks are stored to again and again. -/
theorem mem5 (S : Mem) {a b c : Nat} (A0 A1 A3 B X Y : Blk) (h1 : b ≠ a) (h2 : c ≠ a) : ((((((S.set a A0).set b B).set a A1).set c X).set a A3).set c Y) = ((S.set a A3).set b B).set c Y := by
 have e1:(((S.set a A0).set b B).set a A1)=(S.set a A1).set b B:=by rw [Mem.set_comm _ _ _ h1,Mem.set_set]
 rw [e1,Mem.set_comm _ X A3 h2,Mem.set_set,Mem.set_comm _ B A3 h1,Mem.set_set]
def tl4 (segs nb : Nat) (r : List UInt8) : List UInt8 := five segs ++ (five nb ++ r)
def tl2 (cnt prim sm segs nb : Nat) (r : List UInt8) : List UInt8 := five cnt ++ (five prim ++ (le4 sm ++ tl4 segs nb r))
theorem le4_at (sm : Nat) (r : List UInt8) {i : Nat} (h : i < 4) : (le4 sm).take (i + 1) = (le4 sm).take i ++ [at8 (le4 sm ++ r) i] := by
 rw [Sg.at8_get (l:=le4 sm) h]
 congr 2
 unfold at8
 rw [List.getD_eq_getElem?_getD,List.getD_eq_getElem?_getD,List.getElem?_append_left h]
/-- The texts that Fields goes through. -/
structure Txts (cnt prim sm segs nb : Nat) (r : List UInt8) (s0 s1 s2 s3 s4 s5 s6 : ByteArray) : Prop where
  e0 : s0 = bs (hdL cnt prim sm segs nb ++ r)
  e1 : s1 = bs (tl2 cnt prim sm segs nb r)
  e2 : s2 = bs (five prim ++ (le4 sm ++ tl4 segs nb r))
  e3 : s3 = bs (le4 sm ++ tl4 segs nb r)
  e4 : s4 = bs (tl4 segs nb r)
  e5 : s5 = bs (five nb ++ r)
  e6 : s6 = bs r
set_option maxHeartbeats 4000000 in
theorem bx_Fields0 (cnt prim sm segs nb : Nat) (r : List UInt8) (S : Mem) (h1 : cnt < top) (h2 : prim < top) (h3 : sm < 4294967296) (h4 : segs < top) (h5 : nb < top) (hr : r.length ≤ 100000) {s0 s1 s2 s3 s4 s5 s6 : ByteArray} (ht : Txts cnt prim sm segs nb r s0 s1 s2 s3 s4 s5 s6) :
  ACall Tryz.prog 63 #[.string s0] S fun v S'=>v=hdV cnt prim sm segs nb∧S'=S:=by
 have hl2:(tl2 cnt prim sm segs nb r).length=24+r.length:=by unfold tl2 tl4;simp only [List.length_append,five_length];show 5+(5+(4+_))=_;omega
 have hl4:(tl4 segs nb r).length=10+r.length:=by unfold tl4;simp only [List.length_append,five_length];omega
 have z0:s0.size=28+r.length:=by rw [ht.e0,size_bs,List.length_append,hdL_length]
 have z3:s3.size=14+r.length:=by rw [ht.e3,size_bs,List.length_append,hl4];show 4+_=_;omega
 have hsm:leN (le4 sm)=sm:=leN_le4 sm h3
 have x0:s0.extract 4 s0.size=s1:=by rw [ht.e0,ht.e1];exact ext_drop [87,82,71,49] (tl2 cnt prim sm segs nb r) _ rfl
 have x3:s3.extract 4 s3.size=s4:=by rw [ht.e3,ht.e4];exact ext_drop (le4 sm) (tl4 segs nb r) _ rfl
 have l3:(le4 sm ++ tl4 segs nb r).length≤1000000:=by rw [List.length_append,hl4];show 4+_≤_;omega
 have l2:(five prim ++ (le4 sm ++ tl4 segs nb r)).length≤1000000:=by rw [List.length_append,List.length_append,hl4,five_length];show 5+(4+_)≤_;omega
 have l5:(five nb ++ r).length≤1000000:=by rw [List.length_append,five_length];omega
 have d3:s3.data.toList=le4 sm ++ tl4 segs nb r:=by rw [ht.e3];exact bs_data _
 have k1:=fun b M=>bx_get b cnt s1 s2 _ M h1 l2 ht.e1 ht.e2
 have k2:=fun b M=>bx_get b prim s2 s3 _ M h2 l3 ht.e2 ht.e3
 have k3:=fun b M=>bx_get b segs s4 s5 _ M h4 l5 ht.e4 ht.e5
 have k4:=fun b M=>bx_get b nb s5 s6 _ M h5 (by omega) ht.e5 ht.e6
 clear ht
 unfold hdV
 obtain ⟨q4,hq4⟩ : ∃ q4,q4=le4 sm:=⟨_,rfl⟩
 obtain ⟨q5,hq5⟩ : ∃ q5,q5=tl4 segs nb r:=⟨_,rfl⟩
 have hq4l:q4.length=4:=by rw [hq4];rfl
 have hat:∀ i,i<4→q4.take (i+1)=q4.take i ++ [at8 s3.data.toList i]:=fun i hi=>by rw [d3,hq4];exact le4_at sm _ hi
 rw [← hq4] at hsm
 clear d3 hq4 hq5 hl2 hl4 l2 l3 l5
 refine ACall.enter (rs:=[.cell 2 29]) 39 [(0,.string s0)] Tryz.func63 rfl rfl (Nat.le_of_ble_eq_true rfl) rfl ⟨rfl,trivial⟩ ?_
 iterate 2 refine s1_ ?_
 refine ARun.box1 (lit_lt rfl) rfl rfl ?_
 intro b1 f1
 have g1:=f1
 repeat ((with_reducible replace g1:=fresh_set g1);obtain ⟨g1,_⟩:=g1)
 refine nl_ ?_
 refine ARun.alloc (lit_lt rfl) ty_zero_29 ?_
 intro b2 f2
 have g2:=f2
 repeat ((with_reducible replace g2:=fresh_set g2);obtain ⟨g2,_⟩:=g2)
 refine nl_ ?_
 iterate 5 refine s1_ ?_
 refine rC (Calm.as (v':=.string s1) (congrArg Value.string (by assumption)) (Calm.sliceStr (strT_spec ty_str_9) rfl (bnd_none _ _) (bnd_some _ _ rfl (by omega) (by omega)))) ?_
 iterate 3 refine s1_ ?_
 refine su_ [(0,_),(1,_),(2,_)] ?_
 iterate 6 refine s1_ ?_
 refine su_ [(0,_),(1,_),(2,_),(3,_)] ?_
 iterate 2 refine s1_ ?_
 refine ARun.alloc (lit_lt rfl) ty_zero_29 ?_
 intro b4 f4
 have g4:=f4
 repeat ((with_reducible replace g4:=fresh_set g4);obtain ⟨g4,_⟩:=g4)
 refine nl_ ?_
 iterate 5 refine s1_ ?_
 refine ARun.callV (lit_lt rfl) go_92 rfl rfl (k1 b1 _ own_) ?_
 rintro _ _ ⟨rfl,rfl⟩
 refine s1_ ?_
 refine ARun.callV (lit_lt rfl) go_92 rfl rfl (k2 b1 _ own_) ?_
 rintro _ _ ⟨rfl,rfl⟩
 have n21:b2≠b1:=by first | assumption | (apply Ne.symm;assumption)
 have n41:b4≠b1:=by first | assumption | (apply Ne.symm;assumption)
 have n42:b4≠b2:=by first | assumption | (apply Ne.symm;assumption)
 iterate 6 refine s1_ ?_
 refine su_ [(0,_),(1,_),(2,_),(3,_),(4,_)] ?_
 rw [mem5 S _ _ _ _ _ _ n21 n41]
 iterate 7 refine s1_ ?_
 refine AWP.loop (X:=Nat) (fun i=>[(1,.pointer (some ⟨b1,0,none⟩)),(2,.pointer (some ⟨b2,0,none⟩)),(3,.func (.func 92) #[] #[.pointer (some ⟨b1,0,none⟩)]),(4,.pointer (some ⟨b4,0,none⟩)),(15,.int .i64 (i:Int))]) (fun i=>(((S.set b1 ⟨9,[.string s3],1⟩).set b2 ⟨29,[.int .u64 0,.int .u64 0,.int .u32 0,.int .u64 0,.int .u64 0],5⟩).set b4 ⟨29,[.int .u64 (cnt:Int),.int .u64 (prim:Int),.int .u32 (leN (q4.take i):Nat),.int .u64 0,.int .u64 0],5⟩)) (fun i=>i≤4) (fun i=>4-i) (0) ⟨rfl,rfl,rfl,rfl,rfl,trivial⟩ (Mem.Less.refl _) (Nat.zero_le _) ?_
 rintro i hi
 (try dsimp only at *)
 by_cases q:i<4
 ·have hor:=sum_or (q4.take i) (at8 s3.data.toList i) (by rw [List.length_take];omega)
  rw [← hat i q,show (q4.take i).length=i from by rw [List.length_take];omega] at hor
  iterate 6 refine s1_ ?_
  refine cT_ ?_
  iterate 10 refine s1_ ?_
  refine su_ [(1,_),(2,_),(3,_),(4,_),(15,_),(16,_),(5,_)] ?_
  refine AWP.draw [(0,true),(1,true),(2,true),(3,true),(4,true),(5,true),(6,true),(7,true),(8,true),(9,true),(10,true),(11,false)] [11] mixed (by kernel_rfl) ?_
  iterate 4 refine s1_ ?_
  refine dC (hc:=Calm.indexStrN (strT_spec ty_str_9) rfl rfl (by omega)) (h:=?_)
  iterate 3 refine s1_ ?_
  refine dP (hc:=fun _=>Calm.bin rfl rfl (bin_shl (by omega) (show 8*(i:Int)≤32 from by omega))) (h:=?_)
  refine dP (hc:=fun _=>Calm.bin rfl rfl (bin_orE hor)) (h:=?_)
  refine s1_ ?_
  refine draw_only rfl ?_
  refine s1_ ?_
  refine arun_nil ⟨fun h=>absurd h (by decide),?_⟩
  iterate 3 refine s1_ ?_
  refine su_ [(1,_),(2,_),(3,_),(4,_),(15,_),(16,_),(5,_)] ?_
  iterate 5 refine s1_ ?_
  refine ⟨i+1,?_,?_,?_,?_⟩
  all_goals (try dsimp only)
  ·exact ⟨rfl,rfl,rfl,rfl,rfl,trivial⟩
  ·exact Mem.Less.refl _
  ·exact q
  ·omega
 ·obtain rfl:i=4:=by omega
  rw [List.take_of_length_le (by omega),hsm]
  iterate 6 refine s1_ ?_
  refine cF_ ?_
  iterate 8 refine s1_ ?_
  refine rC (Calm.as (v':=.string s4) (congrArg Value.string (by assumption)) (Calm.sliceStr (strT_spec ty_str_9) rfl (bnd_none _ _) (bnd_some _ _ rfl (by omega) (by omega)))) ?_
  iterate 3 refine s1_ ?_
  refine su_ [(1,_),(2,_),(3,_),(4,_),(15,_),(16,_)] ?_
  iterate 3 refine s1_ ?_
  refine ARun.callV (lit_lt rfl) go_92 rfl rfl (k3 b1 _ own_) ?_
  rintro _ _ ⟨rfl,rfl⟩
  refine s1_ ?_
  refine ARun.callV (lit_lt rfl) go_92 rfl rfl (k4 b1 _ own_) ?_
  rintro _ _ ⟨rfl,rfl⟩
  iterate 6 refine s1_ ?_
  refine su_ [(1,_),(2,_),(3,_),(4,_),(15,_),(16,_)] ?_
  iterate 6 refine s1_ ?_
  refine su_ [(1,_),(2,_),(3,_),(4,_),(15,_),(16,_)] ?_
  refine s1_ ?_
  refine ⟨_,S,⟨_,_,_,rfl,.inr ⟨ty_agg_29,[_,_,_,_,_],ty_size_29,rds_,rfl⟩,rfl,rfl⟩,less_,?_⟩
  exact ⟨rfl,rfl⟩
theorem bx_Fields (cnt prim sm segs nb : Nat) (r : List UInt8) (S : Mem) (h1 : cnt < top) (h2 : prim < top) (h3 : sm < 4294967296) (h4 : segs < top) (h5 : nb < top) (hr : r.length ≤ 100000) :
  ACall Tryz.prog 63 #[.string (bs (hdL cnt prim sm segs nb ++ r))] S fun v S'=>v=hdV cnt prim sm segs nb∧S'=S:=bx_Fields0 cnt prim sm segs nb r S h1 h2 h3 h4 h5 hr ⟨rfl,rfl,rfl,rfl,rfl,rfl,rfl⟩
end Bx
end Go.Proofs.YtckloanlkpchoaaGreatDoor
namespace Go.Proofs.YtckloanlkpchoaaGreatDoor
open Go.RowKit
namespace Mv
section
variable {P : Program} {N : Nat}
theorem draw_GS {l : List Oper} {W : List Nat} {S0 SB : Mem} {w0 : World} {K : Env → Mem → Prop} (hsel : Region.noSelect l.toArray = true) : ∀ (st : List (Nat × Bool)) (listed : Array Bool) (E : Env) (S : Mem) (a : Act) (w : World),
  stepsOK l W st listed=true→Closed l.toArray listed→DrawRun P N l W S0 st K E S→Good N E a→View S w→Step SB w0 S w→wpAnyG P l.toArray (Q0 N K SB w0) (fun i=>W.contains i) (View S0) st.length listed a w:=by
 intro st
 induction st with
 | nil =>
  intro listed E S a w hr hcl h g hv hs
  exact ⟨by simpa [stepsOK] using hr,E,S,h,g,hs⟩
 | cons p is ih =>
  obtain ⟨i,b⟩:=p
  intro listed E S a w hr hcl h g hv hs
  cases b with
  | false =>
   simp only [stepsOK,Bool.and_eq_true,beq_iff_eq,Bool.false_eq_true,if_false] at hr
   obtain ⟨hr1,hr2⟩:=hr
   refine ⟨fun h0=>(by rw [hr1] at h0;cases h0),fun j hj=>?_⟩
   have hj':=hj
   rw [hr1] at hj
   obtain rfl:j=i:=by simpa using hj
   obtain ⟨o,ho,hop⟩:=h
   have h1:=hop a w g hv
   unfold wpOp
   have ho':l.toArray[j]?=some o:=by simpa using ho
   simp only [ho']
   have next:∀ a1 w1,Post N (fun E' S'=>(W.contains j=false→S0.Less S')∧DrawRun P N l W S0 is K E' S') S w a1 w1→(W.contains j=false→View S0 w→View S0 w1)∧wpAnyG P l.toArray (Q0 N K SB w0) (fun i=>W.contains i) (View S0) is.length (listed.setIfInBounds j true) a1 w1:=fun a1 w1 ⟨E1,S1,⟨k1,k2⟩,g1,s1⟩ =>
    ⟨fun hw _=>s1.view.less (k1 hw),ih _ E1 S1 a1 w1 hr2 (closed_put hcl hj') k2 g1 s1.view (hs.trans s1)⟩
   split
   ·rename_i hw;rw [if_pos hw] at h1
    exact .inl (upon_noQ (Oper.wp_mono next h1))
   ·rename_i hw;rw [if_neg hw] at h1
    exact next _ _ h1
  | true =>
   simp only [stepsOK,Bool.and_eq_true,if_true] at hr
   obtain ⟨hc1,hc2⟩:=hr
   obtain ⟨o,d,v,ho,hd,hn,hless,hcalm,hrest⟩:=h
   simp only [mayFirst,Bool.and_eq_true,Bool.or_eq_true] at hc1
   obtain ⟨⟨hr,hf⟩,hp⟩:=hc1
   have ho':l.toArray[i]?=some o:=by simpa using ho
   have hri:i ∈ Region.ready .any l.toArray listed:=by simpa using hr
   let D:World→Prop:=fun w'=>if pureOp o=true then True else View S0 w'
   have hDw:D w:=by
    simp only [D]
    split
    ·trivial
    ·rename_i hx
     exact hv.less (hless.resolve_left hx)
   have hmem:∀ w',D w'→View (if pureOp o then noMem else S0) w':=fun w' h=>by
    simp only [D] at h
    split
    ·exact view_noMem _
    ·rename_i hx;rw [if_neg hx] at h;exact h
   refine wpAnyG_first (D:=D) (v:=v) ho' (Region.noSelect_spec hsel) (fun c a w h=>h) ?_ is.length listed a w hcl (Region.free_spec ho' hf) hri ?_ hDw ?_
   ·intro j w1 w2 listed' hcl' hun hj hD1 hpres
    simp only [D] at hD1 ⊢
    split
    ·trivial
    ·rename_i hx
     rw [if_neg hx] at hD1
     refine hpres ?_ hD1
     rcases hp with hp | hp
     ·rw [ho] at hp;exact absurd (by simpa using hp) hx
     ·cases hwc:W.contains j with
      | false=>rfl
      | true =>
       have h1:=List.all_eq_true.1 hp j (by simpa using hwc)
       obtain ⟨hju,oj,hoj,hall⟩:=mem_ready.1 hj
       have h2:=waitsFor_spec h1 listed' hcl' fun o2 ho2 e he hb=>by
        obtain rfl:oj=o2:=Option.some.inj (hoj.symm.trans ho2)
        exact hall e he hb
       rcases Nat.lt_or_ge i listed'.size with hlt | hge
       ·simp [hlt] at hun h2;rw [hun] at h2;cases h2
       ·simp [Array.getElem?_eq_none hge] at h2
   ·by_cases hw:Region.wanted o (yielded l.toArray a.tmps)=true
    ·refine .inl ⟨hw,fun w' hD'=>?_⟩
     rcases hcalm a w' g (hmem w' hD') with h1 | h1
     ·exact h1.2
     ·rw [hw] at h1;cases h1.1
    ·rcases hcalm a w g (hmem w hDw) with h1 | h1
     ·exact absurd h1.1 hw
     ·exact .inr h1
   ·rw [hd]
    exact ih (listed.setIfInBounds i true) _ S _ w hc2 (closed_put hcl hri) hrest (g.put hn v) hv hs
/-- .. looked at is S0 alone. -/
theorem AWP.drawS {id : Nat} {l : List Oper} {Q : Exit → Env → Mem → Prop} {E : Env} {S : Mem} (S0 : Mem) (hl : S0.Less S) (st : List (Nat × Bool)) (W : List Nat) (hm : P.follows .mixedOrders = true) (hok : drawOK l st W = true)
  (h:DrawRun P N l W S0 st (Q .normal) E S):AWP P N (.region id l.toArray true) Q E S:=fun a w g hv=>by
 simp only [drawOK,Bool.and_eq_true,beq_iff_eq] at hok
 obtain ⟨⟨h1,h2⟩,h3⟩:=hok
 refine wp_mono (Q:=Q0 N (Q .normal) S w) ?_ (fun e a' w' x=>by cases e <;> first | exact x | exact x.elim)
 refine wp_region_any hm ?_
 refine wpAny_of_G (W:=fun i=>W.contains i) (C:=View S0) _ _ _ _ ?_
 have hsz:l.toArray.size=st.length:=by simp [h2]
 rw [hsz]
 have hst:Step S w S { w with drawn:=w.drawn+1 }:=Step.drawn hv _
 exact draw_GS h1 st _ E S a _ (by rw [h2];exact h3) (closed_start _ _) h g hst.view hst
end
end Mv
end Go.Proofs.YtckloanlkpchoaaGreatDoor
namespace Go.Proofs.YtckloanlkpchoaaGreatDoor
open Go.RowKit
open Mv Num Bits
set_option maxRecDepth 4000
namespace Bx
theorem wrongNil (s : ByteArray) (S : Mem) : ACall Tryz.prog 37 #[.string s, .int .i64 0] S fun r S' => r = .nilIface ∧ S' = S := by
 refine ACall.enter (rs:=[.tmp 4]) 13 [(0,.string s),(1,.int .i64 0)] Tryz.func37 rfl rfl (Nat.le_of_ble_eq_true rfl) rfl ⟨rfl,rfl,trivial⟩ ?_
 iterate 12 refine s1_ ?_
 refine su_ [(0,_),(1,_),(4,_),(6,_)] ?_
 refine cT_ ?_
 iterate 7 refine s1_ ?_
 refine ⟨_,S,⟨_,_,rfl,rfl,rfl⟩,less_,?_⟩
 exact ⟨rfl,rfl⟩
theorem numberNil (S : Mem) : ACall Tryz.prog 15 #[.nilIface] S fun r S' => r = .int .i64 0 ∧ S' = S := by
 refine ACall.enter (rs:=[.tmp 2]) 8 [(0,.nilIface)] Tryz.func15 rfl rfl (Nat.le_of_ble_eq_true rfl) rfl ⟨rfl,trivial⟩ ?_
 iterate 7 refine s1_ ?_
 refine ARun.alloc (lit_lt rfl) ty_zero_23 ?_
 intro b3 f3
 have g3:=f3
 repeat ((with_reducible replace g3:=fresh_set g3);obtain ⟨g3,_⟩:=g3)
 refine nl_ ?_
 iterate 6 refine s1_ ?_
 refine rC (Calm.mkI (by kernel_rfl) rfl) ?_
 refine ca_ rfl (Er.asNil _ _) ?_
 rintro _ Sx ⟨rfl,h1⟩
 rw [h1];clear h1 Sx
 iterate 2 refine s1_ ?_
 refine su_ [(0,_),(2,_),(3,_),(6,_)] ?_
 refine cF_ ?_
 iterate 8 refine s1_ ?_
 refine ⟨_,S,⟨_,_,rfl,rfl,rfl⟩,less_,?_⟩
 exact ⟨rfl,rfl⟩
set_option maxHeartbeats 4000000 in
theorem bx_head (cnt prim sm segs : Nat) (L : List Bool) (S : Mem) (h1 : cnt < top) (h2 : prim < top) (h3 : sm < 4294967296) (h4 : segs < top) (h5 : L.length ≤ 20000) :
  ACall Tryz.prog 36 #[.string (bs (boxL cnt prim sm segs L))] S fun v S'=>v = .tuple #[hdV cnt prim sm segs L.length,.nilIface]∧S'=S:=by
 have ht:top=1099511627776:=rfl
 have hF:=fun S=>bx_Fields cnt prim sm segs L.length (pack L ++ le4 (sumOf (bs (bodyL cnt prim sm segs L))).toNat) S h1 h2 h3 h4 (by omega) (by rw [List.length_append,(right_pack L).1];show _+4≤_;omega)
 rw [show hdL cnt prim sm segs L.length ++ (pack L ++ le4 (sumOf (bs (bodyL cnt prim sm segs L))).toNat)=boxL cnt prim sm segs L from (List.append_assoc ..).symm] at hF
 have hbl:=boxL_length cnt prim sm segs L
 have hbd:=bodyL_length cnt prim sm segs L
 have hpf:(boxL cnt prim sm segs L).take 4 = [87,82,71,49]:=rfl
 have hz:(bs (boxL cnt prim sm segs L)).size=32+(L.length+7) / 8:=by rw [size_bs,hbl]
 have hx1:(bs (boxL cnt prim sm segs L)).extract 0 (28+(L.length+7) / 8)=bs (bodyL cnt prim sm segs L):=ext_take _ _ _ hbd.symm
 have hx2:(bs (boxL cnt prim sm segs L)).extract (28+(L.length+7) / 8) (bs (boxL cnt prim sm segs L)).size=bs (le4 (sumOf (bs (bodyL cnt prim sm segs L))).toNat):=ext_drop _ _ _ hbd.symm
 have hzb:(bs (bodyL cnt prim sm segs L)).size≤maxLen:=by rw [size_bs,hbd];unfold maxLen;omega
 have hS:=fun M b e k=>sumC M b e k (bs (bodyL cnt prim sm segs L)) hzb
 have hsm:(sumOf (bs (bodyL cnt prim sm segs L))).toNat<4294967296:=(sumOf (bs (bodyL cnt prim sm segs L))).isLt
 have hP:=fun S=>St.HasPrefix (bs (boxL cnt prim sm segs L)) ⟨#[87,82,71,49]⟩ S (by omega) (by decide)
 have hT:=fun S=>tailC (sumOf (bs (bodyL cnt prim sm segs L))).toNat hsm S
 rw [decide_eq_true (show (bs (boxL cnt prim sm segs L)).data.toList.take (⟨#[87,82,71,49]⟩ : ByteArray).size=(⟨#[87,82,71,49]⟩ : ByteArray).data.toList from by rw [bs_data];exact hpf)] at hP
 generalize bs (boxL cnt prim sm segs L)=s at *
 generalize bs (bodyL cnt prim sm segs L)=sB at *
 generalize bs (le4 (sumOf sB).toNat)=sT at *
 generalize (sumOf sB).toNat=su at *
 unfold hdV at hF ⊢
 refine ACall.enter (rs:=[.cell 2 29,.tmp 3]) 41 [(0,.string s)] Tryz.func36 rfl rfl (Nat.le_of_ble_eq_true rfl) rfl ⟨rfl,trivial⟩ ?_
 iterate 2 refine s1_ ?_
 refine ARun.alloc (lit_lt rfl) ty_zero_29 ?_
 intro b2 f2
 have g2:=f2
 repeat ((with_reducible replace g2:=fresh_set g2);obtain ⟨g2,_⟩:=g2)
 refine nl_ ?_
 iterate 11 refine s1_ ?_
 refine su_ [(0,_),(2,_),(3,_),(4,_)] ?_
 iterate 10 refine s1_ ?_
 refine su_ [(0,_),(2,_),(3,_),(4,_),(8,_)] ?_
 refine cF_ ?_
 iterate 8 refine s1_ ?_
 refine su_ [(0,_),(2,_),(3,_),(4,_),(8,_),(14,_)] ?_
 refine cF_ ?_
 iterate 3 refine s1_ ?_
 refine ca_ rfl (hP _) ?_
 rintro _ Sx ⟨rfl,e1⟩
 rw [e1];clear e1 Sx
 iterate 4 refine s1_ ?_
 refine su_ [(0,_),(2,_),(3,_),(4,_),(8,_),(14,_),(20,_)] ?_
 refine cF_ ?_
 refine s1_ ?_
 refine AWP.draw [(0,true),(1,true),(2,true),(6,true),(7,true),(8,true),(3,false),(4,false),(5,false),(9,true),(10,true)] [] mixed (by kernel_rfl) ?_
 iterate 2 refine s1_ ?_
 refine dP (hc:=fun _=>Calm.as (v':=.string sB) (congrArg Value.string (by rw [show (((s.size:Int)-4).toNat)=28+(L.length+7) / 8 from by omega];exact hx1)) (Calm.sliceStr (strT_spec ty_str_9) rfl (bnd_some _ _ rfl (by omega) (by omega)) (bnd_none _ _))) (h:=?_)
 iterate 2 refine s1_ ?_
 refine dP (hc:=fun _=>Calm.as (v':=.string sT) (congrArg Value.string (by rw [show (((s.size:Int)-4).toNat)=28+(L.length+7) / 8 from by omega];exact hx2)) (Calm.sliceStr (strT_spec ty_str_9) rfl (bnd_none _ _) (bnd_some _ _ rfl (by omega) (by omega)))) (h:=?_)
 refine draw_only rfl ?_
 refine ARun.build1s (lit_lt rfl) ty_sl_83 rfl rfl ?_
 intro b30 f30
 have g30:=f30
 repeat ((with_reducible replace g30:=fresh_set g30);obtain ⟨g30,_⟩:=g30)
 refine arun_nil ⟨fun _=>less_,?_⟩
 refine draw_only rfl ?_
 refine ca_ rfl (hS _ b30 9 1 (Mem.own_set_same _ _ _)) ?_
 rintro _ Sx ⟨rfl,e1⟩
 rw [e1];clear e1 Sx
 refine arun_nil ⟨fun _=>less_,?_⟩
 refine draw_only rfl ?_
 refine ca_ rfl (hT _) ?_
 rintro _ Sx ⟨rfl,e1⟩
 rw [e1];clear e1 Sx
 refine arun_nil ⟨fun _=>less_,?_⟩
 refine dP (hc:=fun _=>Calm.bin rfl rfl (bin_bool (c:=false) (bin_str_neq _ _) (by simp))) (h:=?_)
 iterate 3 refine s1_ ?_
 refine su_ [(0,_),(2,_),(3,_),(4,_),(8,_),(14,_),(20,_),(26,_)] ?_
 refine cF_ ?_
 iterate 6 refine s1_ ?_
 refine ca_ rfl (hF _) ?_
 rintro _ Sx ⟨rfl,e1⟩
 rw [e1];clear e1 Sx
 iterate 4 refine s1_ ?_
 refine su_ [(0,_),(2,_),(3,_),(4,_),(8,_),(14,_),(20,_),(26,_)] ?_
 refine s1_ ?_
 refine ⟨_,S,⟨_,_,_,rfl,.inr ⟨ty_agg_29,[_,_,_,_,_],ty_size_29,rds_,rfl⟩,⟨_,_,rfl,rfl,rfl⟩,rfl⟩,less_,?_⟩
 exact ⟨rfl,rfl⟩
set_option maxHeartbeats 4000000 in
theorem bx_parts (cnt prim sm segs : Nat) (L : List Bool) (S : Mem) (h1 : cnt < top) (h2 : prim < top) (h3 : sm < 4294967296) (h4 : segs < top) (h5 : L.length ≤ 20000) :
  ACall Tryz.prog 14 #[.string (bs (boxL cnt prim sm segs L))] S fun v S'=>v = .tuple #[hdV cnt prim sm segs L.length,.agg #[.string (bs (pack L)),.int .i64 (L.length:Int)],.nilIface]∧S'=S:=by
 have hH:=fun S=>bx_head cnt prim sm segs L S h1 h2 h3 h4 h5
 have hbl:=boxL_length cnt prim sm segs L
 have hz:(bs (boxL cnt prim sm segs L)).size=32+(L.length+7) / 8:=by rw [size_bs,hbl]
 have hx:(bs (boxL cnt prim sm segs L)).extract 28 (28+(L.length+7) / 8)=bs (pack L):=ext_mid (hdL cnt prim sm segs L.length) (pack L) (le4 (sumOf (bs (bodyL cnt prim sm segs L))).toNat) _ _ rfl (by rw [(right_pack L).1,hdL_length])
 have hck:=fun S=>bitsV_Check (bs (pack L)) (L.length:Int) S (by rw [size_bs,(right_pack L).1];omega)
 rw [chk_yes (Sg.right_bits (by omega))] at hck
 generalize bs (boxL cnt prim sm segs L)=s at *
 generalize bs (pack L)=sP at *
 unfold hdV at hH ⊢
 refine ACall.enter (rs:=[.cell 2 29,.cell 3 31,.tmp 4]) 44 [(0,.string s)] Tryz.func14 rfl rfl (Nat.le_of_ble_eq_true rfl) rfl ⟨rfl,trivial⟩ ?_
 iterate 2 refine s1_ ?_
 refine ARun.alloc (lit_lt rfl) ty_zero_29 ?_
 intro b2 f2
 have g2:=f2
 repeat ((with_reducible replace g2:=fresh_set g2);obtain ⟨g2,_⟩:=g2)
 refine nl_ ?_
 refine ARun.alloc (lit_lt rfl) ty_zero_31 ?_
 intro b3 f3
 have g3:=f3
 repeat ((with_reducible replace g3:=fresh_set g3);obtain ⟨g3,_⟩:=g3)
 refine nl_ ?_
 iterate 6 refine s1_ ?_
 refine ca_ rfl (hH _) ?_
 rintro _ Sx ⟨rfl,e1⟩
 rw [e1];clear e1 Sx
 iterate 3 refine s1_ ?_
 refine ARun.alloc (lit_lt rfl) ty_zero_29 ?_
 intro b5 f5
 have g5:=f5
 repeat ((with_reducible replace g5:=fresh_set g5);obtain ⟨g5,_⟩:=g5)
 refine nl_ ?_
 iterate 4 refine s1_ ?_
 refine su_ [(0,_),(2,_),(3,_),(4,_),(5,_),(6,_)] ?_
 iterate 4 refine s1_ ?_
 refine rC (Calm.bin rfl rfl Er.neNil) ?_
 iterate 2 refine s1_ ?_
 refine su_ [(0,_),(2,_),(3,_),(4,_),(5,_),(6,_),(15,_)] ?_
 refine cF_ ?_
 iterate 10 refine s1_ ?_
 refine su_ [(0,_),(2,_),(3,_),(4,_),(5,_),(6,_),(15,_),(21,_)] ?_
 refine cF_ ?_
 iterate 3 refine s1_ ?_
 refine AWP.draw [(0,true),(1,true),(2,true),(3,true),(4,true),(5,true),(6,true),(7,true),(8,true),(9,false),(10,false)] [10] mixed (by kernel_rfl) ?_
 iterate 4 refine s1_ ?_
 refine dP (hc:=fun _=>Calm.as (v':=.string sP) (congrArg Value.string (by rw [show (((s.size:Int)-4).toNat)=28+(L.length+7) / 8 from by omega];exact hx)) (Calm.sliceStr (l:=(28:Int).toNat) (h:=((s.size:Int)-4).toNat) (strT_spec ty_str_9) rfl (bnd_some _ _ rfl (by omega) (by omega)) (bnd_some _ _ rfl (by omega) (by omega)))) (h:=?_)
 iterate 4 refine s1_ ?_
 refine draw_only rfl ?_
 refine ARun.alloc (lit_lt rfl) ty_zero_31 ?_
 intro b7 f7
 have g7:=f7
 repeat ((with_reducible replace g7:=fresh_set g7);obtain ⟨g7,_⟩:=g7)
 refine nl_ ?_
 refine arun_nil ⟨fun _=>less_,?_⟩
 refine draw_only rfl ?_
 refine s1_ ?_
 refine arun_nil ⟨fun h=>absurd h (by decide),?_⟩
 iterate 2 refine s1_ ?_
 refine su_ [(0,_),(2,_),(3,_),(4,_),(5,_),(6,_),(15,_),(21,_),(7,_)] ?_
 iterate 4 refine s1_ ?_
 refine ca_ rfl (hck _) ?_
 rintro _ Sx ⟨rfl,e1⟩
 rw [e1];clear e1 Sx
 refine ca_ rfl (wrongNil _ _) ?_
 rintro _ Sx ⟨rfl,e1⟩
 rw [e1];clear e1 Sx
 iterate 3 refine s1_ ?_
 refine su_ [(0,_),(2,_),(3,_),(4,_),(5,_),(6,_),(15,_),(21,_),(7,_),(8,_)] ?_
 iterate 3 refine s1_ ?_
 refine rC (Calm.bin rfl rfl Er.neNil) ?_
 iterate 2 refine s1_ ?_
 refine su_ [(0,_),(2,_),(3,_),(4,_),(5,_),(6,_),(15,_),(21,_),(7,_),(8,_),(38,_)] ?_
 refine cF_ ?_
 iterate 3 refine s1_ ?_
 refine AWP.drawS ((S.set b5 ⟨29,[.int .u64 (cnt:Int),.int .u64 (prim:Int),.int .u32 (sm:Int),.int .u64 (segs:Int),.int .u64 (L.length:Int)],5⟩).set b7 ⟨31,[.string sP,.int .i64 (L.length:Int)],2⟩) less_ [(0,true),(1,true),(2,false),(3,false),(4,true)] [] mixed (by kernel_rfl) ?_
 iterate 2 refine s1_ ?_
 refine draw_only rfl ?_
 refine s1_ ?_
 refine arun_nil ⟨fun _=>less_,?_⟩
 refine draw_only rfl ?_
 refine s1_ ?_
 refine arun_nil ⟨fun _=>less_,?_⟩
 iterate 3 refine s1_ ?_
 refine su_ [(0,_),(2,_),(3,_),(4,_),(5,_),(6,_),(15,_),(21,_),(7,_),(8,_),(38,_)] ?_
 refine s1_ ?_
 refine ⟨_,S,⟨_,_,_,rfl,.inr ⟨ty_agg_29,[_,_,_,_,_],ty_size_29,rds_,rfl⟩,⟨_,_,_,rfl,.inr ⟨ty_agg_31,[_,_],ty_size_31,rds_,rfl⟩,⟨_,_,rfl,rfl,rfl⟩,rfl⟩,rfl⟩,less_,?_⟩
 exact ⟨rfl,rfl⟩
set_option maxHeartbeats 4000000 in
theorem bx_Parts (cnt prim sm segs : Nat) (L : List Bool) (S : Mem) (h1 : cnt < top) (h2 : prim < top) (h3 : sm < 4294967296) (h4 : segs < top) (h5 : L.length ≤ 20000) :
  ACall Tryz.prog 6 #[.string (bs (boxL cnt prim sm segs L))] S fun v S'=>v = .tuple #[hdV cnt prim sm segs L.length,.agg #[.string (bs (pack L)),.int .i64 (L.length:Int)],.int .i64 0]∧S'=S:=by
 have hP:=fun S=>bx_parts cnt prim sm segs L S h1 h2 h3 h4 h5
 generalize bs (boxL cnt prim sm segs L)=s at *
 generalize bs (pack L)=sP at *
 unfold hdV at hP ⊢
 refine ACall.enter (rs:=[.cell 2 29,.cell 3 31,.tmp 4]) 18 [(0,.string s)] Tryz.func6 rfl rfl (Nat.le_of_ble_eq_true rfl) rfl ⟨rfl,trivial⟩ ?_
 iterate 2 refine s1_ ?_
 refine ARun.alloc (lit_lt rfl) ty_zero_29 ?_
 intro b2 f2
 have g2:=f2
 repeat ((with_reducible replace g2:=fresh_set g2);obtain ⟨g2,_⟩:=g2)
 refine nl_ ?_
 refine ARun.alloc (lit_lt rfl) ty_zero_31 ?_
 intro b3 f3
 have g3:=f3
 repeat ((with_reducible replace g3:=fresh_set g3);obtain ⟨g3,_⟩:=g3)
 refine nl_ ?_
 iterate 6 refine s1_ ?_
 refine ca_ rfl (hP _) ?_
 rintro _ Sx ⟨rfl,e1⟩
 rw [e1];clear e1 Sx
 iterate 4 refine s1_ ?_
 refine ARun.alloc (lit_lt rfl) ty_zero_29 ?_
 intro b5 f5
 have g5:=f5
 repeat ((with_reducible replace g5:=fresh_set g5);obtain ⟨g5,_⟩:=g5)
 refine nl_ ?_
 refine ARun.alloc (lit_lt rfl) ty_zero_31 ?_
 intro b6 f6
 have g6:=f6
 repeat ((with_reducible replace g6:=fresh_set g6);obtain ⟨g6,_⟩:=g6)
 refine nl_ ?_
 iterate 5 refine s1_ ?_
 refine su_ [(0,_),(2,_),(3,_),(4,_),(5,_),(6,_),(7,_)] ?_
 refine s1_ ?_
 refine AWP.drawS ((S.set b5 ⟨29,[.int .u64 (cnt:Int),.int .u64 (prim:Int),.int .u32 (sm:Int),.int .u64 (segs:Int),.int .u64 (L.length:Int)],5⟩).set b6 ⟨31,[.string sP,.int .i64 (L.length:Int)],2⟩) less_ [(0,true),(1,true),(2,true),(3,false),(4,false),(5,false),(6,true)] [] mixed (by kernel_rfl) ?_
 iterate 3 refine s1_ ?_
 refine draw_only rfl ?_
 refine ca_ rfl (numberNil _) ?_
 rintro _ Sx ⟨rfl,e1⟩
 rw [e1];clear e1 Sx
 refine arun_nil ⟨fun _=>less_,?_⟩
 refine draw_only rfl ?_
 refine s1_ ?_
 refine arun_nil ⟨fun _=>less_,?_⟩
 refine draw_only rfl ?_
 refine s1_ ?_
 refine arun_nil ⟨fun _=>less_,?_⟩
 iterate 3 refine s1_ ?_
 refine su_ [(0,_),(2,_),(3,_),(4,_),(5,_),(6,_),(7,_)] ?_
 refine s1_ ?_
 refine ⟨_,S,⟨_,_,_,rfl,.inr ⟨ty_agg_29,[_,_,_,_,_],ty_size_29,rds_,rfl⟩,⟨_,_,_,rfl,.inr ⟨ty_agg_31,[_,_],ty_size_31,rds_,rfl⟩,⟨_,_,rfl,rfl,rfl⟩,rfl⟩,rfl⟩,less_,?_⟩
 exact ⟨rfl,rfl⟩
end Bx
end Go.Proofs.YtckloanlkpchoaaGreatDoor
namespace Go.Proofs.YtckloanlkpchoaaGreatDoor
open Go.RowKit
open Mv Bits
set_option maxRecDepth 4000
namespace Top
theorem len5 (S : Mem) : ACall Tryz.prog 25 #[.int .u64 5] S fun r S' => r = .int .i64 3 ∧ S' = S := by
 refine ACall.enter (rs:=[.tmp 2]) 25 [(0,.int .u64 5)] Tryz.func25 rfl rfl (Nat.le_of_ble_eq_true rfl) rfl ⟨rfl,trivial⟩ ?_
 iterate 12 refine s1_ ?_
 refine su_ [(0,_),(2,_),(4,_)] ?_
 refine cF_ ?_
 iterate 9 refine s1_ ?_
 refine su_ [(0,_),(2,_),(4,_),(8,_)] ?_
 refine cF_ ?_
 iterate 9 refine s1_ ?_
 refine su_ [(0,_),(2,_),(4,_),(8,_),(14,_)] ?_
 refine cF_ ?_
 iterate 6 refine s1_ ?_
 refine rC (Calm.conv rfl (conv_intW Tryz.underlying26 Tryz.underlying5 (show IntKind.u8.wrap 5=5 from by decide))) ?_
 refine rC (Calm.as (v':=.int .u8 3) (show Value.int .u8 (nb (at8 _ 5))=Value.int .u8 3 from rfl) (Calm.indexStrN (j:=5) (strT_spec ty_str_9) rfl rfl (by decide +kernel))) ?_
 iterate 5 refine s1_ ?_
 refine su_ [(0,_),(2,_),(4,_),(8,_),(14,_)] ?_
 refine s1_ ?_
 refine ⟨_,S,⟨_,_,rfl,rfl,rfl⟩,less_,?_⟩
 exact ⟨rfl,rfl⟩
theorem copy0 (p : Nat) (s : ByteArray) (S : Mem) (hp : Fresh S p) :
  ACall Tryz.prog 26 #[.pointer (some ⟨p,0,none⟩),.agg #[.string s,.int .i64 0]] (Bits.wrM S p none []) fun r S'=>r = .tuple #[]∧S'=Bits.wrM S p none []:=by
 refine ACall.enter (rs:=[]) 27 [(0,.pointer (some ⟨p,0,none⟩)),(1,.agg #[.string s,.int .i64 0])] Tryz.func26 rfl rfl (Nat.le_of_ble_eq_true rfl) rfl ⟨rfl,rfl,trivial⟩ ?_
 iterate 2 refine s1_ ?_
 refine ARun.boxA (cs:=[_,_]) (lit_lt rfl) rfl ?_
 intro b3 f3
 have g3:=f3
 repeat ((with_reducible replace g3:=fresh_set g3);obtain ⟨g3,_⟩:=g3)
 refine nl_ ?_
 iterate 6 refine s1_ ?_
 refine ARun.alloc (lit_lt rfl) ty_zero_119 ?_
 intro b4 f4
 have g4:=f4
 repeat ((with_reducible replace g4:=fresh_set g4);obtain ⟨g4,_⟩:=g4)
 refine nl_ ?_
 iterate 3 refine s1_ ?_
 refine su_ [(0,_),(1,_),(3,_),(4,_)] ?_
 iterate 6 refine s1_ ?_
 refine AWP.loop (X:=Unit) (fun x=>[(0,.pointer (some ⟨p,0,none⟩)),(3,.pointer (some ⟨b3,0,none⟩)),(4,.pointer (some ⟨b4,0,none⟩)),(5,.int .i64 0)]) (fun x=>((Bits.wrM S p none []).set b3 ⟨31,[.string s,.int .i64 0],2⟩).set b4 ⟨119,[.string s,.int .i64 0],2⟩) (fun x=>True) (fun x=>0) (()) ⟨rfl,rfl,rfl,rfl,trivial⟩ less_ (trivial) ?_
 rintro x _
 (try dsimp only at *)
 iterate 9 refine s1_ ?_
 refine su_ [(0,_),(3,_),(4,_),(5,_),(12,_)] ?_
 refine cF_ ?_
 iterate 4 refine s1_ ?_
 refine ⟨_,Bits.wrM S p none [],rfl,less_,?_⟩
 exact ⟨rfl,rfl⟩
def five : ByteArray := bs (Bits.pack (Bits.numB 5 3))
theorem right_five : Bits.right five.data.toList 3 := ⟨by decide, by decide, Bits.right_pack [true, false, true]⟩
theorem get_five : Bits.getP five 3 0 3 = Bits.two (.int .u64 5) 0 := by
 unfold Bits.getP
 rw [if_neg (by rw [Bits.chk_yes right_five];simp),if_neg (by decide),if_neg (by decide)]
 rfl
theorem put5 (S : Mem) : ACall Tryz.prog 9 #[.agg #[.string ByteArray.empty, .int .i64 0], .int .u64 5, .int .i64 3] S fun r S' => r = .tuple #[.agg #[.string five, .int .i64 3], .int .i64 0] ∧ S' = S := by
 have hck:=fun S=>bitsV_Check ByteArray.empty 0 S (by decide)
 rw [Bits.chk_yes (show Bits.right ByteArray.empty.data.toList 0 from ⟨by decide,by decide,by decide,fun i h1 h2=>by simp at h2⟩)] at hck
 refine ACall.enter (rs:=[.cell 6 31,.tmp 7]) 45 [(0,.agg #[.string ByteArray.empty,.int .i64 0]),(1,.int .u64 5),(2,.int .i64 3)] Tryz.func9 rfl rfl (Nat.le_of_ble_eq_true rfl) rfl ⟨rfl,rfl,rfl,trivial⟩ ?_
 iterate 2 refine s1_ ?_
 refine ARun.boxA (cs:=[_,_]) (lit_lt rfl) rfl ?_
 intro b3 f3
 have g3:=f3
 repeat ((with_reducible replace g3:=fresh_set g3);obtain ⟨g3,_⟩:=g3)
 refine nl_ ?_
 refine ARun.alloc (lit_lt rfl) ty_zero_31 ?_
 intro b6 f6
 have g6:=f6
 repeat ((with_reducible replace g6:=fresh_set g6);obtain ⟨g6,_⟩:=g6)
 refine nl_ ?_
 iterate 7 refine s1_ ?_
 refine ca_ rfl (hck _) ?_
 rintro _ _ ⟨rfl,rfl⟩
 iterate 3 refine s1_ ?_
 refine su_ [(0,_),(1,_),(2,_),(3,_),(6,_),(7,_),(8,_)] ?_
 iterate 6 refine s1_ ?_
 refine su_ [(0,_),(1,_),(2,_),(3,_),(6,_),(7,_),(8,_),(13,_)] ?_
 refine cF_ ?_
 iterate 7 refine s1_ ?_
 refine ca_ rfl (bits_wide 3 _) ?_
 rintro _ _ ⟨rfl,rfl⟩
 iterate 3 refine s1_ ?_
 refine ARun.callG 3 false 20 rfl (lit_lt rfl) rfl (lit_lt rfl) go_25 rfl (len5 _) ?_
 rintro _ _ ⟨rfl,rfl⟩
 iterate 6 refine s1_ ?_
 refine su_ [(0,_),(1,_),(2,_),(3,_),(6,_),(7,_),(8,_),(13,_),(16,_)] ?_
 refine cF_ ?_
 iterate 10 refine s1_ ?_
 refine su_ [(0,_),(1,_),(2,_),(3,_),(6,_),(7,_),(8,_),(13,_),(16,_),(27,_)] ?_
 refine cF_ ?_
 iterate 6 refine s1_ ?_
 refine ARun.boxA (cs:=[_,_,_]) (lit_lt rfl) rfl ?_
 intro b35 f35
 have g35:=f35
 repeat ((with_reducible replace g35:=fresh_set g35);obtain ⟨g35,_⟩:=g35)
 refine nl_ ?_
 iterate 3 refine s1_ ?_
 refine su_ [(0,_),(1,_),(2,_),(3,_),(6,_),(7,_),(8,_),(13,_),(16,_),(27,_),(9,_)] ?_
 rw [← wrM_nil]
 have hm3:=own_wrM_ok (okW_nil f35) (b:=b3) (r:=⟨31,[.string ByteArray.empty,.int .i64 0],2⟩) own_
 iterate 4 refine s1_ ?_
 refine ca_ rfl (copy0 b35 _ _ f35) ?_
 rintro _ _ ⟨rfl,rfl⟩
 iterate 2 refine s1_ ?_
 refine su_ [(0,_),(1,_),(2,_),(3,_),(6,_),(7,_),(8,_),(13,_),(16,_),(27,_),(9,_)] ?_
 iterate 5 refine s1_ ?_
 refine ca_ rfl (bitsV_AddI b35 5 3 _ none _ (by decide) (by decide) (by decide) (by decide) (by decide) (okW_nil f35)) ?_
 rintro _ _ ⟨rfl,o2,hk2,rfl⟩
 iterate 2 refine s1_ ?_
 refine su_ [(0,_),(1,_),(2,_),(3,_),(6,_),(7,_),(8,_),(13,_),(16,_),(27,_),(9,_)] ?_
 iterate 3 refine s1_ ?_
 refine ca_ rfl (bitsV_Bits b35 _ o2 _ (by decide) hk2) ?_
 rintro _ _ ⟨rfl,rfl⟩
 iterate 4 refine s1_ ?_
 refine su_ [(0,_),(1,_),(2,_),(3,_),(6,_),(7,_),(8,_),(13,_),(16,_),(27,_),(9,_)] ?_
 refine s1_ ?_
 refine ⟨_,S,⟨_,_,_,rfl,.inr ⟨ty_agg_31,[_,_],ty_size_31,rds_,rfl⟩,⟨_,_,rfl,rfl,rfl⟩,rfl⟩,less_,?_⟩
 exact ⟨rfl,rfl⟩
theorem top_begins (S : Mem) : ACall Tryz.prog 4 #[] S fun r S' => r = .bool true ∧ S' = S := by
 have c2:=fun S=>bitsV_Get five 3 0 3 S (by decide) (by decide) (by decide)
 rw [get_five] at c2
 unfold Bits.two at c2
 refine ACall.enter (rs:=[.tmp 0]) 30 [] Tryz.func4 rfl rfl (Nat.le_of_ble_eq_true rfl) rfl trivial ?_
 iterate 8 refine s1_ ?_
 refine ca_ rfl (put5 _) ?_
 rintro _ Sx ⟨rfl,h1⟩
 rw [h1];clear h1 Sx
 iterate 3 refine s1_ ?_
 refine ARun.alloc (lit_lt rfl) ty_zero_31 ?_
 intro b1 f1
 have g1:=f1
 repeat ((with_reducible replace g1:=fresh_set g1);obtain ⟨g1,_⟩:=g1)
 refine nl_ ?_
 iterate 4 refine s1_ ?_
 refine su_ [(0,_),(1,_),(2,_)] ?_
 iterate 3 refine s1_ ?_
 refine ca_ rfl (c2 _) ?_
 rintro _ Sx ⟨rfl,h1⟩
 rw [h1];clear h1 Sx
 iterate 7 refine s1_ ?_
 refine su_ [(0,_),(1,_),(2,_),(3,_),(4,_)] ?_
 iterate 20 refine s1_ ?_
 refine su_ [(0,_),(1,_),(2,_),(3,_),(4,_)] ?_
 refine s1_ ?_
 refine ⟨_,S,⟨_,_,rfl,rfl,rfl⟩,less_,?_⟩
 exact ⟨rfl,rfl⟩
end Top
end Go.Proofs.YtckloanlkpchoaaGreatDoor
namespace Go.Proofs.YtckloanlkpchoaaGreatDoor
open Go.RowKit
open Mv Num Bits
set_option maxRecDepth 4000
namespace Bx
/-- What the variable of table's error holds: an error. -/
def ErrS (S : Mem) : Prop := ∃ u v, S.Knows ⟨1, 0, none⟩ [.iface u v]
set_option maxHeartbeats 8000000 in
theorem law_TopBoxed (a b : ByteArray) (S : Mem) (hE : ErrS S) (ha : a.size < 140737488355328) (hb : b.size < 140737488355328) :
  ACall Tryz.prog 3 #[.string a,.string b] S fun r S'=>r = .bool true:=by
 by_cases q1:300<a.size
 ·skip
  refine ACall.enter (rs:=[.tmp 4]) 96 [(0,.string a),(1,.string b)] Tryz.func3 rfl rfl (Nat.le_of_ble_eq_true rfl) rfl ⟨rfl,rfl,trivial⟩ ?_
  iterate 8 refine s1_ ?_
  refine ca_ rfl (Top.top_begins _) ?_
  rintro _ Sx ⟨rfl,h1⟩
  rw [h1];clear h1 Sx
  iterate 3 refine s1_ ?_
  refine su_ [(0,_),(1,_),(4,_),(18,_)] ?_
  refine cF_ ?_
  iterate 7 refine s1_ ?_
  refine rC (Calm.bin rfl rfl (bin_bool (c:=true) (bin_gtr _ _) (decide_eq_true (by omega)))) ?_
  iterate 7 refine s1_ ?_
  refine su_ [(0,_),(1,_),(4,_),(18,_),(26,_)] ?_
  refine cT_ ?_
  iterate 7 refine s1_ ?_
  refine ⟨_,_,⟨_,_,rfl,rfl,rfl⟩,less_,?_⟩
  rfl
 by_cases q2:300<b.size
 ·skip
  refine ACall.enter (rs:=[.tmp 4]) 96 [(0,.string a),(1,.string b)] Tryz.func3 rfl rfl (Nat.le_of_ble_eq_true rfl) rfl ⟨rfl,rfl,trivial⟩ ?_
  iterate 8 refine s1_ ?_
  refine ca_ rfl (Top.top_begins _) ?_
  rintro _ Sx ⟨rfl,h1⟩
  rw [h1];clear h1 Sx
  iterate 3 refine s1_ ?_
  refine su_ [(0,_),(1,_),(4,_),(18,_)] ?_
  refine cF_ ?_
  iterate 7 refine s1_ ?_
  refine rC (Calm.bin rfl rfl (bin_bool (c:=false) (bin_gtr _ _) (decide_eq_false (by omega)))) ?_
  iterate 3 refine s1_ ?_
  first|refine k_q 22 ?_|refine rG 22 (Calm.bin rfl rfl (bin_bool (c:=true) (bin_gtr _ _) (decide_eq_true (by omega)))) ?_
  iterate 3 refine s1_ ?_
  refine su_ [(0,_),(1,_),(4,_),(18,_),(26,_)] ?_
  refine cT_ ?_
  iterate 7 refine s1_ ?_
  refine ⟨_,_,⟨_,_,rfl,rfl,rfl⟩,less_,?_⟩
  rfl
 obtain ⟨T,ev,hEs⟩:=hE
 have hBa:=fun S=>bx_Build a S (by omega)
 have hBb:=fun S=>bx_Build b S (by omega)
 obtain ⟨c1,c2,c3,_⟩:=col_ok a (by omega)
 have hcl:=colL_len a (by omega)
 have hC:=fun S=>od_Column a S (by omega)
 unfold ColPR at hC
 rw [c1] at hC
 have hsl:=segB_small (t:=colL a) (by omega)
 have ht:top=1099511627776:=rfl
 have hsm:(sumOf a).toNat<4294967296:=(sumOf a).isLt
 have hcn:Sg.cntS (colL a)≤1:=by unfold Sg.cntS;split <;> decide
 have hP:=fun S=>bx_Parts a.size (colP a).2.1 (sumOf a).toNat (Sg.cntS (colL a)) (Sg.segB (colL a)) S (by omega) (by omega) hsm (by omega) hsl
 have hbx:boxS a=boxL a.size (colP a).2.1 (sumOf a).toNat (Sg.cntS (colL a)) (Sg.segB (colL a)):=rfl
 have hD:=fun S hk=>Sg.sg_Back (colL a) S T ev (by omega) hk
 rw [← hbx] at hP
 have hcb:bs (colL a)=(colP a).1:=str_ext (bs_data _)
 have hinj:=boxS_inj (s:=a) (t:=b) (by omega) (by omega)
 rw [hcb] at hD
 unfold hdV at hP
 generalize bs (boxS a)=A at *
 generalize bs (boxS b)=B at *
 generalize bs (pack (Sg.segB (colL a)))=pk at *
 generalize Sg.cntS (colL a)=cn at *
 generalize (Sg.segB (colL a)).length=nb at *
 generalize (colP a).2.1=pm at *
 generalize (colP a).1=cc at *
 generalize (sumOf a).toNat=sm at *
 have hab:(decide (A=B) == decide (a=b))=true:=by
  have h:decide (A=B)=decide (a=b):=decide_eq_decide.2 hinj
  rw [h];exact beq_self_eq_true _
 refine ACall.enter (rs:=[.tmp 4]) 96 [(0,.string a),(1,.string b)] Tryz.func3 rfl rfl (Nat.le_of_ble_eq_true rfl) rfl ⟨rfl,rfl,trivial⟩ ?_
 iterate 8 refine s1_ ?_
 refine ca_ rfl (Top.top_begins _) ?_
 rintro _ Sx ⟨rfl,h1⟩
 rw [h1];clear h1 Sx
 iterate 3 refine s1_ ?_
 refine su_ [(0,_),(1,_),(4,_),(18,_)] ?_
 refine cF_ ?_
 iterate 7 refine s1_ ?_
 refine rC (Calm.bin rfl rfl (bin_bool (c:=false) (bin_gtr _ _) (decide_eq_false (by omega)))) ?_
 iterate 3 refine s1_ ?_
 first|refine k_q 22 ?_|refine rG 22 (Calm.bin rfl rfl (bin_bool (c:=false) (bin_gtr _ _) (decide_eq_false (by omega)))) ?_
 iterate 3 refine s1_ ?_
 refine su_ [(0,_),(1,_),(4,_),(18,_),(26,_)] ?_
 refine cF_ ?_
 iterate 5 refine s1_ ?_
 refine ca_ rfl (hBa _) ?_
 rintro _ Sx ⟨rfl,h1⟩
 rw [h1];clear h1 Sx
 iterate 7 refine s1_ ?_
 refine su_ [(0,_),(1,_),(4,_),(18,_),(26,_),(5,_),(6,_)] ?_
 iterate 3 refine s1_ ?_
 refine ca_ rfl (hBb _) ?_
 rintro _ Sx ⟨rfl,h1⟩
 rw [h1];clear h1 Sx
 iterate 7 refine s1_ ?_
 refine su_ [(0,_),(1,_),(4,_),(18,_),(26,_),(5,_),(6,_),(7,_),(8,_)] ?_
 iterate 3 refine s1_ ?_
 refine ca_ rfl (hP _) ?_
 rintro _ Sx ⟨rfl,h1⟩
 rw [h1];clear h1 Sx
 iterate 4 refine s1_ ?_
 refine ARun.alloc (lit_lt rfl) ty_zero_29 ?_
 intro b9 f9
 have g9:=f9
 repeat ((with_reducible replace g9:=fresh_set g9);obtain ⟨g9,_⟩:=g9)
 refine nl_ ?_
 refine ARun.alloc (lit_lt rfl) ty_zero_31 ?_
 intro b10 f10
 have g10:=f10
 repeat ((with_reducible replace g10:=fresh_set g10);obtain ⟨g10,_⟩:=g10)
 refine nl_ ?_
 iterate 5 refine s1_ ?_
 refine su_ [(0,_),(1,_),(4,_),(18,_),(26,_),(5,_),(6,_),(7,_),(8,_),(9,_),(10,_),(11,_)] ?_
 iterate 3 refine s1_ ?_
 refine ca_ rfl (hC _) ?_
 rintro _ Sx ⟨rfl,h1⟩
 rw [h1];clear h1 Sx
 iterate 9 refine s1_ ?_
 refine su_ [(0,_),(1,_),(4,_),(18,_),(26,_),(5,_),(6,_),(7,_),(8,_),(9,_),(10,_),(11,_),(12,_),(13,_),(14,_)] ?_
 iterate 6 refine s1_ ?_
 refine ca_ rfl (hD _ (hEs.less less_)) ?_
 rintro _ Sx ⟨rfl,h1⟩
 rw [h1];clear h1 Sx
 iterate 7 refine s1_ ?_
 refine su_ [(0,_),(1,_),(4,_),(18,_),(26,_),(5,_),(6,_),(7,_),(8,_),(9,_),(10,_),(11,_),(12,_),(13,_),(14,_),(15,_),(16,_)] ?_
 iterate 3 refine s1_ ?_
 refine rC (Calm.bin rfl rfl (bin_bool (c:=true) (bin_eql _ _) (by decide))) ?_
 iterate 2 refine s1_ ?_
 first|refine k_q 59 ?_|refine rG 59 (Calm.bin rfl rfl (bin_bool (c:=true) (bin_eql _ _) (by decide))) ?_
 iterate 3 refine s1_ ?_
 first|refine k_q 63 ?_|refine rG 63 (Calm.bin rfl rfl (bin_bool (c:=true) (bin_eql _ _) (by decide))) ?_
 iterate 3 refine s1_ ?_
 first|refine k_q 67 ?_|refine rG 67 (Calm.bin rfl rfl (bin_bool (c:=true) (bin_eql _ _) (by decide))) ?_
 iterate 3 refine s1_ ?_
 first|refine k_q 71 ?_|refine rG 71 (Calm.bin rfl rfl (bin_bool (c:=true) (bin_eql _ _) (by decide))) ?_
 iterate 4 refine s1_ ?_
 first|refine k_q 75 ?_|refine rG 75 (Calm.bin rfl rfl (bin_bool (c:=true) (bin_str_eql _ _) (by simp))) ?_
 iterate 6 refine s1_ ?_
 first|refine k_q 80 ?_|refine rG 80 (Calm.bin rfl rfl (bin_bool (c:=true) (bin_eql _ _) (by simp))) ?_
 iterate 4 refine s1_ ?_
 first|refine k_q 87 ?_|refine rG 87 (Calm.bin rfl rfl (bin_str_eql _ _)) ?_
 iterate 2 refine s1_ ?_
 first|refine k_q 87 ?_|refine rG 87 (Calm.bin rfl rfl (bin_str_eql _ _)) ?_
 first|refine k_q 87 ?_|refine rG 87 (Calm.bin rfl rfl (bin_bool (c:=true) (bin_bool_eql _ _ Tryz.underlying4) hab)) ?_
 iterate 4 refine s1_ ?_
 refine su_ [(0,_),(1,_),(4,_),(18,_),(26,_),(5,_),(6,_),(7,_),(8,_),(9,_),(10,_),(11,_),(12,_),(13,_),(14,_),(15,_),(16,_)] ?_
 refine s1_ ?_
 refine ⟨_,_,⟨_,_,rfl,rfl,rfl⟩,less_,?_⟩
 rfl
end Bx
theorem walk_TopBoxed (a b : ByteArray) (W : World) (w0 : a.size ≤ maxLen) (z0 : a.size < 140737488355328) (w1 : b.size ≤ maxLen) (z1 : b.size < 140737488355328) (hE : Bx.ErrS (roM W)) :
  Calls Tryz.prog 3 #[.string a,.string b] W fun e w'=>e = .returned (.bool true)∧Below W.heap.size W w' :=
 ACall.callsW (Bx.law_TopBoxed a b _ hE z0 z1)
end Go.Proofs.YtckloanlkpchoaaGreatDoor
namespace Go.Proofs.YtckloanlkpchoaaGreatDoor
open Go.RowKit
open Mv
set_option maxRecDepth 100000
/-- A start for the witness: the door's run with the handle of the type error. -/
noncomputable def laidW3 (os : Os) : World :=
  { World.doorLaid Tryz.prog 400 os with heap := (World.doorLaid Tryz.prog 400 os).heap.modify 0 fun
      | .cells _ t frozen => .cells #[.iface 182 (.agg #[.pointer (some ⟨4, 47, none⟩)])] t frozen
      | o => o }
theorem laidW3_shaped (os : Os) (args : Array Value) : ((laidW3 os).forCall (fun _ _ => 0) ⟨#[], args, []⟩).Shaped Tryz.prog :=
 World.shaped_of_RefB (by kernel_rfl) (by kernel_rfl)
theorem laidW3_2 (os : Os) (args : Array Value) : laidMet Tryz.prog [("wringer/table.errShort", Rows.laid_wringer_table_errShort), ("wringer/table.errCode", Rows.laid_wringer_table_errCode)] ((laidW3 os).forCall (fun _ _ => 0) ⟨#[], args, []⟩).memory :=
 laidMet_of_run' 8 (by kernel_rfl) (by kernel_rfl)
theorem laidW_met3 (os : Os) (args : Array Value) {l : List (String × DataW Unit)} (h : l = [("errors.errorType", Rows.laid_errors_errorType), ("wringer/table.errShort", Rows.laid_wringer_table_errShort), ("wringer/table.errCode", Rows.laid_wringer_table_errCode)]) : laidMetH Tryz.prog l ((laidW3 os).forCall (fun _ _ => 0) ⟨#[], args, []⟩).memory := by
 subst h
 exact laidMetH_of_parts (laidW3_2 os args) (by kernel_rfl)
/-- What the list of variables gives: table's error is an error. -/
theorem errS_of_laid {W : World} {l : List (String × DataW Unit)} (h : laidMetH Tryz.prog l W) (hl : (l.filter fun x => x.2.handleName?.isSome) = [("errors.errorType", Rows.laid_errors_errorType)]) (hl2 : (l.filter fun x => x.2.handleName?.isNone) = [("wringer/table.errShort", Rows.laid_wringer_table_errShort), ("wringer/table.errCode", Rows.laid_wringer_table_errCode)]) : Bx.ErrS (roM W) := by
 unfold laidMetH at h
 rw [hl] at h
 have h2:=h.1
 rw [hl2] at h2
 obtain ⟨ps,⟨g,t,cs,fuel,p,q,e1,e2,e3,e4,_⟩,_⟩:=h2
 have eg : Tryz.prog.globalNamed "wringer/table.errShort" = some 1 := by kernel_rfl
 obtain rfl:g=1:=Option.some.inj (e1.symm.trans eg)
 have et:(Tryz.prog.globals[1]?).map (·.type)=some 47:=by kernel_rfl
 obtain rfl:t=47:=Option.some.inj (e2.symm.trans et)
 obtain ⟨f',u,v,hcs,_,_⟩:=iface_of_trod Er.under e4
 refine ⟨u,v,roM_knows fun j x hj=>?_⟩
 match j,hj with
 | 0,hj =>
  have hx:x = .iface u v:=(Option.some.inj hj).symm
  have h0:=World.var?_cell eg e3 0
  have hc0:cs[0]?=some (.iface u v):=by rw [← Array.getElem?_toList,hcs];rfl
  rw [hx]
  simpa [Addr.add] using h0.trans hc0
end Go.Proofs.YtckloanlkpchoaaGreatDoor
