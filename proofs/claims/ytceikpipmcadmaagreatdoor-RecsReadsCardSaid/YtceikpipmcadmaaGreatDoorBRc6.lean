/-
  Texts that belong together: BldLib, Bld, NumBase, VNum1, VNum2, Rec1, Rec2, Rec3, Str, Rec4, VNum5, VNum3, VNum6, Rec5, Rec6, Rec7.
-/
import Derived.Test.YtceikpipmcadmaaGreatDoorBRc5
import Derived.Lib.AppendStr
import Derived.Lib.UnsafeStr
import Derived.Lib.Builder
import Derived.LaidEqlPtr
import Derived.Laws.BitsLemmas
set_option linter.unusedVariables false
set_option linter.unusedSimpArgs false
set_option linter.unusedSectionVars false
namespace Go.Proofs.YtceikpipmcadmaaGreatDoor
open Go.RowKit
namespace Mv
/-! ### Less is known -/
def Mem.Lo (S' S : Mem) : Prop := (∀ b r, S'.own b = some r → S.own b = some r) ∧ (∀ a v, S'.ro a = some v → S.ro a = some v) ∧
  ∀ g l, S'.ro.z g = some l → S.ro.z g = some l ∧ ((∃ v, S.ro ⟨g, 0, none⟩ = some v) → ∃ v, S'.ro ⟨g, 0, none⟩ = some v)
theorem Mem.Less.lo {S S' : Mem} (h : S'.Less S) : S'.Lo S := ⟨h.1, fun a v x => by rw [← h.2]; exact x, fun g l x => by rw [h.2] at x ⊢; exact ⟨x, id⟩⟩
theorem Mem.Lo.refl (S : Mem) : S.Lo S := (Mem.Less.refl S).lo
theorem Mem.Lo.trans {S S' S'' : Mem} (h : S''.Lo S') (k : S'.Lo S) : S''.Lo S :=
 ⟨fun b r x=>k.1 b r (h.1 b r x),fun a v x=>k.2.1 a v (h.2.1 a v x),fun g l x=>by
  obtain ⟨x1,x2⟩:=h.2.2 g l x
  obtain ⟨y1,y2⟩:=k.2.2 g l x1
  exact ⟨y1,fun z=>x2 (y2 z)⟩⟩
theorem View.lo {S S' : Mem} {w : World} (h : View S w) (hl : S'.Lo S) : View S' w :=
 ⟨fun b r hb=>h.own b r (hl.1 b r hb),fun a v ha=>by
  obtain ⟨h1,h2⟩:=h.ro a v (hl.2.1 a v ha)
  refine ⟨h1,?_⟩
  cases e:S'.own a.block with
  | none=>rfl
  | some r=>(have:=hl.1 _ _ e;rw [h2] at this;cases this),fun g l hg=>by
  obtain ⟨q1,q2⟩:=hl.2.2 g l hg
  obtain ⟨h1,h2,h3⟩:=h.fz g l q1
  refine ⟨?_,q2 h2,h3⟩
  cases e:S'.own g with
  | none=>rfl
  | some r=>have:=hl.1 _ _ e;rw [h1] at this;cases this⟩
theorem Step.lo {S S' S'' : Mem} {w w' : World} (h : Step S w S' w') (hl : S''.Lo S') : Step S w S'' w' :=
 ⟨h.view.lo hl,h.os,h.tape,h.output,h.size,h.block,fun k hk=>h.dom k (by
  cases e:S''.own k with
  | none=>exact absurd e hk
  | some r=>rw [hl.1 _ _ e];simp),fun a v hv=>h.ro a v (hl.2.1 a v hv)⟩
theorem Step.loL {S S0 S' : Mem} {w w' : World} (h : Step S0 w S' w') (hl : S0.Lo S) : Step S w S' w' :=
 ⟨h.view,h.os,h.tape,h.output,h.size,fun k hk hn=>h.block k hk (by
  cases e:S0.own k with
  | none=>rfl
  | some r=>have:=hl.1 _ _ e;rw [hn] at this;cases this),fun k hk=>by
   rcases h.dom k hk with x | x
   ·cases e:S0.own k with
    | none=>exact absurd e x
    | some r=>exact .inl (by rw [hl.1 _ _ e];simp)
   ·exact .inr x,fun a v hv=>by
   rcases h.ro a v hv with x | x | x
   ·exact .inl (hl.2.1 _ _ x)
   ·refine .inr (.inl ?_)
    cases e:S0.own a.block with
    | none=>exact absurd e x
    | some r=>rw [hl.1 _ _ e];simp
   ·exact .inr (.inr x)⟩
theorem AWP.lo {P : Program} {N : Nat} {c : Code} {Q : Exit → Env → Mem → Prop} {E : Env} {S : Mem} (S' : Mem) (hl : S'.Lo S) (h : AWP P N c Q E S') : AWP P N c Q E S := fun a w hg hv =>
 wp_mono (h a w hg (hv.lo hl)) fun _ _ _ ⟨E1,S1,k,g,s⟩=>⟨E1,S1,k,g,s.loL hl⟩
theorem ACall.lo {P : Program} {f : FuncId} {args : Array Value} {S S0 : Mem} {R : Value → Mem → Prop} (hl : S0.Lo S) (h : ACall P f args S0 R) : ACall P f args S R := fun w hv =>
 (h w (hv.lo hl)).mono fun e w' ⟨v,S',he,hR,s⟩=>⟨v,S',he,hR,s.loL hl⟩
/-- Behind a call less is known. -/
theorem ACall.lose {P : Program} {f : FuncId} {args : Array Value} {S : Mem} {R R' : Value → Mem → Prop} (h : ACall P f args S R) (k : ∀ v S', R v S' → ∃ S'', S''.Lo S' ∧ R' v S'') : ACall P f args S R' := fun w hv =>
 (h w hv).mono fun e w' ⟨v,S',he,hR,s⟩=>let ⟨S'',h1,h2⟩:=k v S' hR;⟨v,S'',he,h2,s.lo h1⟩
/-- A call knows of less than there is: all else stays. -/
theorem ACall.over {P : Program} {f : FuncId} {args : Array Value} {S T : Mem} {R : Value → Mem → Prop} (h : ACall P f args S R) (hl : S.Less T) :
  ACall P f args T fun v T'=>∃ S',R v S'∧S'.Less T' ∧ ∀ k r,S.own k=none→T.own k=some r→T'.own k=some r∧S'.own k=none:=fun w hv=>by
 classical
 refine (h w (hv.less hl)).mono fun e w' ⟨v,S',he,hR,st⟩=>?_
 have hro:∀ a u,S.ro a=some u→T.ro a=some u:=fun a u hu=>by rw [← hl.2];exact hu
 have hno:∀ k r,S.own k=none→T.own k=some r→S'.own k=none:=fun k r h1 h2=>by
  cases e0:S'.own k with
  | none=>rfl
  | some r0 =>
   rcases st.dom k (by rw [e0];simp) with x | x
   ·exact absurd h1 x
   ·have:=hv.lt h2;omega
 have hso:∀ k,S.own k≠none→T.own k≠none:=fun k hk=>by
  cases e0:S.own k with
  | none=>exact absurd e0 hk
  | some r=>rw [hl.1 k r e0];simp
 have hra:∀ a u,S'.ro a=some u→S.own a.block=none→T.own a.block=none:=fun a u hu hn=>by
  cases e0:T.own a.block with
  | none=>rfl
  | some r =>
   rcases st.ro a u hu with x | x | x
   ·have:=(hv.ro a u (hro a u x)).2;rw [e0] at this;exact this
   ·exact absurd hn x
   ·have:=hv.lt e0;omega
 let T':Mem:=⟨fun k=>if S.own k=none∧T.own k≠none then T.own k else S'.own k,S'.ro⟩
 have hT:∀ k,T'.own k=if S.own k=none∧T.own k≠none then T.own k else S'.own k:=fun _=>rfl
 have hT0:∀ a u,S'.ro a=some u→T'.own a.block=none:=fun a u hu=>by
  rw [hT]
  split
  ·rename_i x;exact hra a u hu x.1
  ·exact (st.view.ro a u hu).2
 refine ⟨v,T',he,⟨S',hR,⟨fun k r hk=>?_,rfl⟩,fun k r h1 h2=>⟨by rw [hT,if_pos ⟨h1,by rw [h2];simp⟩];exact h2,hno k r h1 h2⟩⟩,⟨⟨fun k r hk=>?_,fun a u hu=>⟨(st.view.ro a u hu).1,hT0 a u hu⟩,fun g l hg=>?_⟩,st.os,st.tape,st.output,st.size,fun k hk hn=>?_,fun k hk=>?_,fun a u hu=>?_⟩⟩
 ·rw [hT]
  split
  ·rename_i x
   cases e0:T.own k with
   | none=>exact absurd e0 x.2
   | some r0=>rw [hno k r0 x.1 e0] at hk;cases hk
  ·exact hk
 ·rw [hT] at hk
  split at hk
  ·rename_i x
   rw [st.block k (hv.lt hk) x.1];exact hv.own k r hk
  ·exact st.view.own k r hk
 ·obtain ⟨_,⟨u,hu⟩,h3⟩:=st.view.fz g l hg
  exact ⟨hT0 _ u hu,⟨u,hu⟩,h3⟩
 ·refine st.block k hk ?_
  cases e0:S.own k with
  | none=>rfl
  | some r=>have:=hl.1 k r e0;rw [hn] at this;cases this
 ·rw [hT] at hk
  split at hk
  ·exact .inl hk
  ·rcases st.dom k hk with x | x
   ·exact .inl (hso k x)
   ·exact .inr x
 ·rcases st.ro a u hu with x | x | x
  ·exact .inl (hro a u x)
  ·exact .inr (.inl (hso _ x))
  ·exact .inr (.inr x)
theorem less_set_skip {S T : Mem} {b : Nat} {r : Blk} (h : S.Less T) (hn : S.own b = none) : S.Less (T.set b r) :=
 ⟨fun k r' hk=>by rw [Mem.own_set_other _ _ (fun e=>by rw [e,hn] at hk;cases hk)];exact h.1 k r' hk,h.2⟩
/-- What holds wherever this memory is known. -/
theorem ACall.seen {P : Program} {f : FuncId} {args : Array Value} {S : Mem} {R : Value → Mem → Prop} {p : Prop} (hp : ∀ w, View S w → p) (h : p → ACall P f args S R) : ACall P f args S R := fun w hv => h (hp w hv) w hv
theorem Mem.Knows.lo {S S' : Mem} {a : Addr} {cs : List Value} (h : S.Knows a cs) (hl : S.Lo S') : S'.Knows a cs := fun w hv => h w (hv.lo hl)
/-- A block's first bytes are a text's, from here on. -/
def Mem.fr (S : Mem) (g : Nat) (l : List UInt8) : Mem := ⟨S.own, ⟨fun a => if a.block = g then (if a.spot.isSome then none else (cellsB l)[a.off]?) else S.ro a, fun k => if k = g then some l else S.ro.z k⟩⟩
theorem Mem.lo_fr {S : Mem} {g : Nat} {l : List UInt8} (hf : Fresh S g) (hz : S.ro.z g = none) : S.Lo (S.fr g l) :=
 ⟨fun b r h=>h,fun a v h=>by
  show (if a.block=g then _ else S.ro a)=some v
  rw [if_neg (hf.2 a v h)];exact h,fun k x h=>by
  have hk:k≠g:=fun e=>by rw [e,hz] at h;cases h
  refine ⟨?_,fun ⟨v,hv⟩=>⟨v,?_⟩⟩
  ·show (if k=g then some l else S.ro.z k)=some x
   rw [if_neg hk];exact h
  ·change (if k=g then _ else S.ro ⟨k,0,none⟩)=some v at hv
   rw [if_neg hk] at hv;exact hv⟩
theorem Mem.z_none {S : Mem} {w : World} (hv : View S w) {g : Nat} {r : Blk} (hb : S.own g = some r) : S.ro.z g = none := by
 cases e:S.ro.z g with
 | none=>rfl
 | some l=>have:=(hv.fz g l e).1;rw [hb] at this;cases this
theorem Mem.lo_fr_set {S : Mem} {g b : Nat} {l : List UInt8} {r : Blk} (hf : Fresh S g) (hz : S.ro.z g = none) (hb : Fresh S b) (hne : b ≠ g) : S.Lo ((S.fr g l).set b r) :=
 (Mem.lo_fr hf hz).trans ⟨fun k r' h=>by
  by_cases e:k=b
  ·subst e;have:=hb.1;rw [show (S.fr g l).own k=S.own k from rfl,this] at h;cases h
  ·rw [Mem.own_set_other _ _ e];exact h,fun a v h=>h,fun k x h=>⟨h,id⟩⟩
section
variable {P : Program} {N : Nat} {ops : Array Oper} {E : Env} {S : Mem} {K : Env → Mem → Prop}
variable {dst : Option Nat} {ty : TypeId} {pos : String} {aft : Array Edge} {gd : Option (Nat × Bool)}
theorem Calm.sliceData {x : Operand} {a : Option Addr} {n c : Nat} {ats : Array TypeId} (hx : ev E x = some (.slice a n c)) (hc : a = none ∨ c ≠ 0) : ACalm P N ⟨dst, .call ⟨.builtin .unsafeSliceData, #[x], ats⟩, ty, pos, aft, gd⟩ E S (.pointer a) := fun k w g hv => by
 have h:(Builtin.unsafeSliceData_ ats ty #[.slice a n c]).run P w = .ok (.pointer a) w:=by
  cases a with
  | none=>exact Lib.run_unsafeSliceData_nil _ _ _ _ _
  | some a=>exact Lib.run_unsafeSliceData_row _ _ _ _ _ _ (hc.resolve_left (fun h=>by cases h))
 simp [execOp,resolve,invoke,builtin,g.ev hx,h]
theorem freeze_block {w : World} {g n k : Nat} (h : k ≠ g) : (w.freeze ⟨g, 0, none⟩ n).heap[k]? = w.heap[k]? := by
 unfold World.freeze
 split
 ·rfl
 ·simp only [Array.getElem?_modify]
  rw [if_neg (Ne.symm h)]
theorem freeze_at {w : World} {g n : Nat} {cur : Array Value} {T : TypeId} {fz : Nat × Nat} (h : w.heap[g]? = some (.cells cur T fz)) (hn : n ≠ 0) : ∃ hi, n ≤ hi ∧ (w.freeze ⟨g, 0, none⟩ n).heap[g]? = some (.cells cur T (0, hi)) := by
 obtain ⟨lo,hi⟩:=fz
 unfold World.freeze
 rw [if_neg hn]
 simp only [Array.getElem?_modify,h,if_true,Option.map_some]
 by_cases e:lo=hi
 ·exact ⟨n,Nat.le_refl _,by simp [e]⟩
 ·exact ⟨max hi n,by omega,by simp [e]⟩
theorem freeze_size (w : World) (a : Addr) (n : Nat) : (w.freeze a n).heap.size = w.heap.size := by
 unfold World.freeze;split <;> simp
theorem freeze_rest (w : World) (a : Addr) (n : Nat) : (w.freeze a n).os = w.os ∧ (w.freeze a n).tape = w.tape ∧ (w.freeze a n).output = w.output := by
 unfold World.freeze;split <;> exact ⟨rfl,rfl,rfl⟩
theorem freeze_again {w : World} {g n hi : Nat} {cur : Array Value} {T : TypeId} (h : w.heap[g]? = some (.cells cur T (0, hi))) (hn : n ≤ hi) : w.freeze ⟨g, 0, none⟩ n = w := by
 unfold World.freeze
 by_cases e:n=0
 ·rw [if_pos e]
 ·rw [if_neg e]
  have hh:(w.heap.modify g fun o=>match o with
   | .cells c elem (lo,hi)=>.cells c elem (if lo == hi then (0,0+n) else (min lo 0,max hi (0+n)))
   | o=>o)=w.heap:=by
   apply Array.ext_getElem?
   intro i
   rw [Array.getElem?_modify]
   by_cases hi':g=i
   ·subst hi'
    rw [if_pos rfl,h]
    simp only [Option.map_some]
    have h0:((0:Nat) == hi)=false:=by simp;omega
    rw [h0]
    simp
    omega
   ·rw [if_neg hi']
  exact congrArg (fun h=>{ w with heap:=h }) hh
/-- The step of a freeze. -/
theorem Step.fr {w : World} {g room : Nat} {l : List UInt8} (hv : View S w) (hb : S.own g = some ⟨5, cellsB l, room⟩) (h0 : l ≠ []) : Step S w ((S.del g).fr g l) (w.freeze ⟨g, 0, none⟩ l.length) := by
 have hl:l.length≠0:=by simpa using h0
 obtain ⟨cur,fz,e1,e2,e3,e4⟩:=hv.own g _ hb
 obtain ⟨hi,q1,q2⟩:=freeze_at e1 hl
 obtain ⟨r1,r2,r3⟩:=freeze_rest w ⟨g,0,none⟩ l.length
 have hd:∀ k,((S.del g).fr g l).own k=if k=g then none else S.own k:=fun k=>rfl
 have hcell:∀ a v,(if a.block=g then (if a.spot.isSome then none else (cellsB l)[a.off]?) else S.ro a)=some v→(w.freeze ⟨g,0,none⟩ l.length).cell? a=some v:=by
  intro a v h
  by_cases e:a.block=g
  ·rw [if_pos e] at h
   split at h
   ·cases h
   ·rename_i hs
    have:=prefix_get e2 h
    unfold World.cell?
    rw [e,q2]
    simp only [hs]
    simpa using this
  ·rw [if_neg e] at h
   have:=(hv.ro a v h).1
   unfold World.cell? at this ⊢
   rw [freeze_block e];exact this
 refine ⟨⟨fun k r hk=>?_,fun a v h=>⟨hcell a v h,?_⟩,fun k x hk=>?_⟩,r1,r2,r3,by rw [freeze_size];exact Nat.le_refl _,fun k hk hn=>freeze_block (fun e=>by rw [e,hb] at hn;cases hn),fun k hk=>?_,fun a v h=>?_⟩
 ·rw [hd] at hk
  by_cases e:k=g
  ·rw [if_pos e] at hk;cases hk
  ·rw [if_neg e] at hk
   rw [freeze_block e];exact hv.own k r hk
 ·rw [hd]
  by_cases e:a.block=g
  ·rw [if_pos e]
  ·rw [if_neg e]
   change (if a.block=g then _ else S.ro a)=some v at h
   rw [if_neg e] at h
   exact (hv.ro a v h).2
 ·change (if k=g then some l else S.ro.z k)=some x at hk
  rw [hd]
  by_cases e:k=g
  ·rw [if_pos e] at hk ⊢
   obtain rfl:l=x:=Option.some.inj hk
   subst e
   refine ⟨rfl,?_,cur,hi,q2,q1,?_⟩
   ·cases l with
    | nil=>exact absurd rfl h0
    | cons c l=>exact ⟨_,show (if k=k then (if (none:Option _).isSome then none else (cellsB (c :: l))[0]?) else _)=some _ from by rw [if_pos rfl];rfl⟩
   ·exact e2
  ·rw [if_neg e] at hk ⊢
   obtain ⟨z1,⟨v,z2⟩,z3⟩:=hv.fz k x hk
   exact ⟨z1,⟨v,show (if k=g then _ else S.ro ⟨k,0,none⟩)=some v from by rw [if_neg e];exact z2⟩,z3.of_block (freeze_block e)⟩
 ·rw [hd] at hk
  by_cases e:k=g
  ·rw [if_pos e] at hk;exact absurd rfl hk
  ·rw [if_neg e] at hk;exact .inl hk
 ·change (if a.block=g then _ else S.ro a)=some v at h
  by_cases e:a.block=g
  ·exact .inr (.inl (by rw [e,hb];simp))
  ·rw [if_neg e] at h;exact .inl h
theorem run_us {w : World} {g : Nat} {l : List UInt8} {pt it : TypeId} {cur : Array Value} {fz : Nat × Nat} (hpt : P.underlying pt = some (.pointer 5)) (hc : P.cellsOf 5 = 1) (e1 : w.heap[g]? = some (.cells cur 5 fz)) (e2 : cellsB l <+: cur.toList) (h0 : l ≠ []) (h63 : l.length ≤ 9223372036854775807) :
  (Builtin.unsafeString_ #[pt,it] ty #[.pointer (some ⟨g,0,none⟩),.int .i64 l.length]).run P w = .ok (.string (bs l)) (w.freeze ⟨g,0,none⟩ l.length):=by
 refine Lib.run_unsafeString_row w pt it ty _ hpt hc g cur.size (by simp [World.shape?,e1]) l h0 ?_ h63 fun j x hx=>?_
 ·have:=e2.length_le
  rw [cellsB_length] at this
  simpa using this
 ·have:=prefix_get e2 (j:=j) (v:=.int .u8 (nb x)) (by simp [cellsB,hx])
  rw [addr_add]
  unfold World.cell?
  simp only [e1,Nat.zero_add]
  simpa [nb] using this
/-- A text of bytes that are owned: they are so no more. -/
theorem ARun.usOwn {os : List Oper} {x y : Operand} {g room d : Nat} {l : List UInt8} {pt it : TypeId} (hn : d < N) (hpt : P.underlying pt = some (.pointer 5)) (hc : P.cellsOf 5 = 1) (hx : ev E x = some (.pointer (some ⟨g, 0, none⟩))) (hy : ev E y = some (.int .i64 (l.length : Int))) (hb : S.own g = some ⟨5, cellsB l, room⟩) (h0 : l ≠ []) (h63 : l.length ≤ 9223372036854775807)
  (h:ARun P N ops os K ((d,.string (bs l)) :: E) ((S.del g).fr g l)):ARun P N ops (⟨some d,.call ⟨.builtin .unsafeString,#[x,y],#[pt,it]⟩,ty,pos,aft,none⟩ :: os) K E S:=fun a w g' hv=>by
 rw [if_pos (by simp [Region.wanted])]
 unfold Oper.wp
 obtain ⟨cur,fz,e1,e2,e3,e4⟩:=hv.own g _ hb
 have hr:=run_us (ty:=ty) (it:=it) (w:=w) hpt hc e1 e2 h0 h63
 have hex:(execOp a.eval ⟨some d,.call ⟨.builtin .unsafeString,#[x,y],#[pt,it]⟩,ty,pos,aft,none⟩).run P w = .ok (.value (.string (bs l))) (w.freeze ⟨g,0,none⟩ l.length):=by
  simp [execOp,resolve,invoke,builtin,g'.ev hx,g'.ev hy,hr]
 rw [hex]
 exact ⟨_,_,h,g'.put hn _,Step.fr hv hb h0⟩
/-- .. of bytes that are shared already. -/
theorem ARun.usRo {os : List Oper} {x y : Operand} {g d : Nat} {l : List UInt8} {pt it : TypeId} (hn : d < N) (hpt : P.underlying pt = some (.pointer 5)) (hc : P.cellsOf 5 = 1) (hx : ev E x = some (.pointer (some ⟨g, 0, none⟩))) (hy : ev E y = some (.int .i64 (l.length : Int))) (hb : S.ro.z g = some l) (h0 : l ≠ []) (h63 : l.length ≤ 9223372036854775807)
  (h:ARun P N ops os K ((d,.string (bs l)) :: E) S):ARun P N ops (⟨some d,.call ⟨.builtin .unsafeString,#[x,y],#[pt,it]⟩,ty,pos,aft,none⟩ :: os) K E S:=fun a w g' hv=>by
 rw [if_pos (by simp [Region.wanted])]
 unfold Oper.wp
 obtain ⟨_,_,cur,hi,e1,e3,e2⟩:=hv.fz g l hb
 have hr:=run_us (ty:=ty) (it:=it) (w:=w) hpt hc e1 e2 h0 h63
 rw [freeze_again e1 e3] at hr
 have hex:(execOp a.eval ⟨some d,.call ⟨.builtin .unsafeString,#[x,y],#[pt,it]⟩,ty,pos,aft,none⟩).run P w = .ok (.value (.string (bs l))) w:=by
  simp [execOp,resolve,invoke,builtin,g'.ev hx,g'.ev hy,hr]
 rw [hex]
 exact ⟨_,_,h,g'.put hn _,Step.refl hv⟩
/-- .. of none. -/
theorem ARun.usNil {os : List Oper} {x y : Operand} {p : Option Addr} {d : Nat} {pt it : TypeId} (hn : d < N) (hx : ev E x = some (.pointer p)) (hy : ev E y = some (.int .i64 0))
  (h:ARun P N ops os K ((d,.string (bs [])) :: E) S):ARun P N ops (⟨some d,.call ⟨.builtin .unsafeString,#[x,y],#[pt,it]⟩,ty,pos,aft,none⟩ :: os) K E S:=fun a w g' hv=>by
 rw [if_pos (by simp [Region.wanted])]
 unfold Oper.wp
 have hr:=Lib.run_unsafeString_none (P:=P) w pt it ty p
 have hex:(execOp a.eval ⟨some d,.call ⟨.builtin .unsafeString,#[x,y],#[pt,it]⟩,ty,pos,aft,none⟩).run P w = .ok (.value (.string (bs []))) w:=by
  simp [execOp,resolve,invoke,builtin,g'.ev hx,g'.ev hy,hr];rfl
 rw [hex]
 exact ⟨_,_,h,g'.put hn _,Step.refl hv⟩
/-! ### Texts that are appended -/
theorem strCells_eq (s : ByteArray) : Lib.strCells s = cellsB s.data.toList := rfl
theorem ARun.appendRunS {os : List Oper} {T U e : TypeId} {y : Nat} {z : Value} {x1 x2 : Operand} {b k c : Nat} {xs : List Value} {s : ByteArray} {d : Nat} (hn : d < N) (hT : slT P T = some (e, 1, y, [z])) (hU : strT P U = true)
  (hx:ev E x1=some (.slice (some ⟨b,0,none⟩) k c)) (hb:S.own b=some ⟨e,xs,c⟩) (hxs:xs.length=k) (hy:ev E x2=some (.string s)) (hfit:(k+s.size)*y≤140737488355328) (h63:k+s.size≤9223372036854775807)
  (h:∀ b' c',Fresh (S.del b) b'→k+s.size≤c'→ARun P N ops os K ((d,.slice (some ⟨b',0,none⟩) (k+s.size) c') :: E) ((S.del b).set b' ⟨e,xs ++ cellsB s.data.toList,c'⟩)) :
  ARun P N ops (⟨some d,.call ⟨.builtin .append,#[x1,x2],#[T,U]⟩,ty,pos,aft,none⟩ :: os) K E S:=fun a w g hv=>by
 rw [if_pos (by simp [Region.wanted])]
 obtain ⟨hu,i,v,e1,e2,hi1,rfl,hv1⟩:=slT_spec hT
 have hz':v.cells.size=1:=by
  have:=congrArg List.length hv1
  simpa using this
 have hlc:(cellsB s.data.toList).length=s.size:=by rw [cellsB_length];exact (Array.length_toList (xs:=s.data))
 have hex:(execOp a.eval ⟨some d,.call ⟨.builtin .append,#[x1,x2],#[T,U]⟩,ty,pos,aft,none⟩).run P w=((Builtin.append_ #[T,U] ty #[.slice (some ⟨b,0,none⟩) k c,.string s]).run P w).andThen fun v w'=>.ok (.value v) w':=by
  simp [execOp,resolve,invoke,builtin,g.ev hx,g.ev hy]
 unfold Oper.wp
 rw [hex]
 by_cases hroom:k+s.size≤c
 ·obtain ⟨q1,q2⟩:=store_cells (P:=P) hv hb (vs:=cellsB s.data.toList) (o:=k) (by simp only;omega) (.inr (by simp only [hlc];omega)) (fun u hu=>by
   unfold cellsB at hu
   obtain ⟨c,_,rfl⟩:=List.mem_map.1 hu
   rfl)
  have hf:=Lib.run_firstCells_string (P:=P) w 1 s
  have hr:(Builtin.append_ #[T,U] ty #[.slice (some ⟨b,0,none⟩) k c,.string s]).run P w = .ok (.slice (some ⟨b,0,none⟩) (k+s.size) c) (w.setCells b k (cellsB s.data.toList)):=by
   rw [strCells_eq] at hf
   simp [Builtin.append_,run_underlying hu,run_underlying (strT_spec hU),sizeOf,typeInfo,e1,hi1,Builtin.lenOf,hroom,hf,addr_add,q1]
  rw [hr]
  have hsp:spl xs k (cellsB s.data.toList)=xs ++ cellsB s.data.toList:=by
   unfold spl
   rw [List.take_of_length_le (by omega),List.drop_of_length_le (by omega),List.append_nil]
  simp only [hsp] at q2
  refine ⟨_,_,h b c (fresh_del (fun a v ha=>(hv.ro a v ha).2) hb) hroom,g.put hn _,?_⟩
  rw [del_set];exact q2
 ·have hfit':Builtin.nextslicecap (k+s.size) c*i.bytes≤281474976710656:=growslice_fits (by omega) hfit
  have hr:=Lib.run_append_grow_string (P:=P) w T U ty e i v hu (strT_spec hU) e1 e2 ⟨b,0,none⟩ k c xs (by rw [hi1,hxs,Nat.mul_one]) (fun j u hj=>hv.rd (by rw [addr_add,Nat.zero_add,rd_own hb];exact hj)) s (by omega) (by omega) hfit'
  rw [hr,strCells_eq]
  have hge:=grownCap_ge w (k+s.size) c e
  have hvd:View S w.drew:=hv.drawn _
  have hst:=Step.allocP hvd e (xs.toArray ++ (cellsB s.data.toList).toArray ++ Builtin.zeroCells v.cells (grownCap w (k+s.size) c e-(k+s.size))) (xs ++ cellsB s.data.toList) (grownCap w (k+s.size) c e) (by simp [List.append_assoc]) (by
   simp only [Array.size_append,List.size_toArray,size_zeroCells,hz',hxs,hlc]
   omega)
  refine ⟨_,_,h w.heap.size (grownCap w (k+s.size) c e) (hv.freshAt.less (Less.del S b)) hge,g.put hn _,?_⟩
  exact ((Step.drawn hv _).trans hst).less (less_del S b _ _)
theorem ARun.appendNilS {os : List Oper} {T U e : TypeId} {y : Nat} {z : Value} {x1 x2 : Operand} {s : ByteArray} {d : Nat} (hn : d < N) (hT : slT P T = some (e, 1, y, [z])) (hU : strT P U = true)
  (hx:ev E x1=some (.slice none 0 0)) (hy:ev E x2=some (.string s)) (h0:0<s.size) (hfit:s.size*y≤140737488355328) (h63:s.size≤9223372036854775807)
  (h:∀ b' c',Fresh S b'→s.size≤c'→ARun P N ops os K ((d,.slice (some ⟨b',0,none⟩) s.size c') :: E) (S.set b' ⟨e,cellsB s.data.toList,c'⟩)) :
  ARun P N ops (⟨some d,.call ⟨.builtin .append,#[x1,x2],#[T,U]⟩,ty,pos,aft,none⟩ :: os) K E S:=fun a w g hv=>by
 rw [if_pos (by simp [Region.wanted])]
 obtain ⟨hu,i,v,e1,e2,hi1,rfl,hv1⟩:=slT_spec hT
 have hz':v.cells.size=1:=by
  have:=congrArg List.length hv1
  simpa using this
 have hlc:(cellsB s.data.toList).length=s.size:=by rw [cellsB_length];exact (Array.length_toList (xs:=s.data))
 have hex:(execOp a.eval ⟨some d,.call ⟨.builtin .append,#[x1,x2],#[T,U]⟩,ty,pos,aft,none⟩).run P w=((Builtin.append_ #[T,U] ty #[.slice none 0 0,.string s]).run P w).andThen fun v w'=>.ok (.value v) w':=by
  simp [execOp,resolve,invoke,builtin,g.ev hx,g.ev hy]
 unfold Oper.wp
 rw [hex,run_append_nil_string (P:=P) w T U ty e i v hu (strT_spec hU) e1 e2 s h0 (by omega) (by omega)]
 have hge:=grownCap_ge w s.size 0 e
 have hvd:View S w.drew:=hv.drawn _
 have hst:=Step.allocP hvd e (s.data.map (fun b=>Value.int .u8 b.toNat) ++ Builtin.zeroCells v.cells (grownCap w s.size 0 e-s.size)) (cellsB s.data.toList) (grownCap w s.size 0 e) (by simp [cellsB,nb]) (by
  have:s.data.size=s.size:=rfl
  simp only [Array.size_append,Array.size_map,size_zeroCells,hz',this]
  omega)
 exact ⟨_,_,h w.heap.size (grownCap w s.size 0 e) hv.freshAt hge,g.put hn _,(Step.drawn hv _).trans hst⟩
/-- No text is put behind. -/
theorem ARun.appendNoneS {os : List Oper} {T U e : TypeId} {y : Nat} {z : Value} {x1 x2 : Operand} {A : Option Addr} {k c d : Nat} {s : ByteArray} (hn : d < N) (hT : slT P T = some (e, 1, y, [z])) (hU : strT P U = true) (hk : k ≤ c)
  (hx:ev E x1=some (.slice A k c)) (hy:ev E x2=some (.string s)) (h0:s.size=0) (h:ARun P N ops os K ((d,.slice A k c) :: E) S) :
  ARun P N ops (⟨some d,.call ⟨.builtin .append,#[x1,x2],#[T,U]⟩,ty,pos,aft,none⟩ :: os) K E S:=fun a w g hv=>by
 rw [if_pos (by simp [Region.wanted])]
 obtain ⟨hu,i,v,e1,e2,hi1,rfl,hv1⟩:=slT_spec hT
 have hr:(execOp a.eval ⟨some d,.call ⟨.builtin .append,#[x1,x2],#[T,U]⟩,ty,pos,aft,none⟩).run P w = .ok (.value (.slice A k c)) w:=by
  have hf:=Lib.run_firstCells_string (P:=P) w 1 s
  have hs:Lib.strCells s = []:=by rw [strCells_eq];exact List.eq_nil_of_length_eq_zero (by rw [cellsB_length,Array.length_toList];exact h0)
  rw [hs,h0] at hf
  cases A with
  | none=>simp [execOp,resolve,invoke,builtin,g.ev hx,g.ev hy,Builtin.append_,run_underlying hu,run_underlying (strT_spec hU),sizeOf,typeInfo,e1,hi1,Builtin.lenOf,h0,hk,hf]
  | some A=>simp [execOp,resolve,invoke,builtin,g.ev hx,g.ev hy,Builtin.append_,run_underlying hu,run_underlying (strT_spec hU),sizeOf,typeInfo,e1,hi1,Builtin.lenOf,h0,hk,hf,storeCells]
 unfold Oper.wp
 rw [hr]
 exact ⟨_,_,h,g.put hn _,Step.refl hv⟩
end
end Mv
end Go.Proofs.YtceikpipmcadmaaGreatDoor
namespace Go.Proofs.YtceikpipmcadmaaGreatDoor
open Go.RowKit
namespace Mv
/-! ### Pointers that go through unsafe.Pointer -/
theorem rowAt_self {P : Program} {fits : TypeId → Bool} {e : TypeId} {n : Nat} (hc : P.cellsOf e ≠ 0) (hn : 1 ≤ n) (hf : fits e = true) : ∀ d, 0 < d → rowAt P fits d e n 0 1 = true := fun d hd => by
 cases d with
 | zero=>omega
 | succ d =>
  unfold rowAt
  simp only
  rw [if_neg hc]
  simp [hf,hn]
theorem liesAt_self {P : Program} {e : TypeId} {n : Nat} (hd : 0 < P.depth) (hc : P.cellsOf e ≠ 0) (hn : 1 ≤ n) (hf : sameLayout P P.depth e e = true) : ∀ d, 0 < d → liesAt P d e n 0 e 1 = true := fun d h => by
 cases d with
 | zero=>omega
 | succ d =>
  unfold liesAt
  rw [rowAt_self (fits:=fun x=>sameLayout P P.depth x e) hc hn hf _ hd]
  rfl
section
variable {P : Program} {N : Nat} {ops : Array Oper} {E : Env} {S : Mem} {K : Env → Mem → Prop}
variable {dst : Option Nat} {ty : TypeId} {pos : String} {aft : Array Edge} {gd : Option (Nat × Bool)}
theorem own_shape {S : Mem} {w : World} {b : Nat} {r : Blk} (hv : View S w) (hb : S.own b = some r) : ∃ n, r.cells.length ≤ n ∧ w.shape? b = some (r.elem, n) := by
 obtain ⟨cur,fz,e1,e2,_⟩:=hv.own b r hb
 exact ⟨cur.size,by have:=e2.length_le;simpa using this,by simp [World.shape?,e1]⟩
theorem Calm.toUnsafe {s t e : TypeId} {x : Operand} {j : TypeInfo} {b : Nat} {r : Blk} (hs : P.underlying s = some (.pointer e)) (hd : P.underlying t = some .unsafePointer) (ht : P.info? e = some j) (hj : j.size ≠ 0) (hx : ev E x = some (.pointer (some ⟨b, 0, none⟩))) (hb : S.own b = some r) (hr : 0 < r.cells.length) :
  ACalm P N ⟨dst,.convert s t x,ty,pos,aft,gd⟩ E S (.pointer (some ⟨b,0,none⟩)):=fun a w g hv=>by
 obtain ⟨n,h1,h2⟩:=own_shape hv hb
 have h:=Lib.run_to_unsafe (P:=P) (w:=w) ⟨b,0,none⟩ hs hd ht hj h2 (by simp only;omega)
 simp only [execOp,g.ev hx]
 rw [Sem.run_bind,h];rfl
theorem Calm.fromUnsafe {s t e : TypeId} {x : Operand} {j : TypeInfo} {b : Nat} {cs : List Value} {m : Nat} (hs : P.underlying s = some .unsafePointer) (hd : P.underlying t = some (.pointer e)) (ht : P.info? e = some j) (h0 : 0 < P.depth) (hc : P.cellsOf e = 2) (hf : sameLayout P P.depth e e = true) (hx : ev E x = some (.pointer (some ⟨b, 0, none⟩))) (hb : S.own b = some ⟨e, cs, m⟩) (hr : 2 ≤ cs.length) :
  ACalm P N ⟨dst,.convert s t x,ty,pos,aft,gd⟩ E S (.pointer (some ⟨b,0,none⟩)):=fun a w g hv=>by
 obtain ⟨n,h1,h2⟩:=own_shape hv hb
 have h1:cs.length≤n:=h1
 have h:=Lib.run_from_unsafe (P:=P) (w:=w) ⟨b,0,none⟩ hs hd ht h2 (liesAt_self h0 (by rw [hc];decide) (by rw [hc];omega) hf _ h0)
 simp only [execOp,g.ev hx]
 rw [Sem.run_bind,h];rfl
/-- A call of the runtime's that hands on what it is given. -/
theorem ARun.extSame {os : List Oper} {f : FuncId} {fn : Func} {x : Operand} {v : Value} {ats : Array TypeId} {d : Nat} (hn : d < N) (hf : P.funcs[f]? = some fn) (hname : (fn.name == "runtime.NumGoroutine") = false) (hb : fn.body.isNone = true)
  (hx':Extern.findNext fn=none) (he:Extern.find fn=some Extern.AbiNoEscape.same) (hx:ev E x=some v)
  (h:ARun P N ops os K ((d,v) :: E) S):ARun P N ops (⟨some d,.call ⟨.value (.func f),#[x],ats⟩,ty,pos,aft,none⟩ :: os) K E S:=fun a w g hv=>by
 rw [if_pos (by simp [Region.wanted])]
 unfold Oper.wp
 have hc:execOp a.eval ⟨some d,.call ⟨.value (.func f),#[x],ats⟩,ty,pos,aft,none⟩=callFunc f #[v]:=by
  rw [execOp_call_go]
  simp [g.ev hx]
 rw [hc,run_callFunc_extern hf hname hb hx' he,Lib.run_noEscape]
 exact ⟨_,_,h,g.put hn _,Step.refl hv⟩
theorem bin_ptr_nil {t e : TypeId} {x y : Operand} {p : Option Addr} (h : P.underlying t = some (.pointer e)) : Bin P .eql t x y (.pointer p) (.pointer none) (.bool p.isNone) := fun w => by
 have hh:∀ d:Nat,(Op.equalIn (d+1) t (.pointer p) (.pointer none)).run P w = .ok p.isNone w:=fun d=>by
  cases p <;> simp [Op.equalIn,run_underlying h]
 have:(binOp .eql t (.pointer p) (.pointer none)).run P w = .ok (.bool p.isNone) w:=by
  simp only [binOp]
  simp [Op.equal,Op.maxDepth,hh 9999]
 simpa [eqGuard] using this
theorem bin_ptr_neq_same {t e : TypeId} {x y : Operand} {a : Addr} {j : TypeInfo} (h : P.underlying t = some (.pointer e)) (hj : P.info? e = some j) : Bin P .neq t x y (.pointer (some a)) (.pointer (some a)) (.bool false) := fun w => by
 have:=Lib.run_neq_ptr_same (P:=P) (w:=w) a h hj
 simpa [eqGuard] using this
end
end Mv
end Go.Proofs.YtceikpipmcadmaaGreatDoor
namespace Go.Proofs.YtceikpipmcadmaaGreatDoor
open Go.RowKit
open Mv
set_option maxRecDepth 4000
namespace Bl
theorem go1 : goFn Tryz.prog 88 = true := by kernel_rfl
theorem go2 : goFn Tryz.prog 40 = true := by kernel_rfl
theorem go3 : goFn Tryz.prog 42 = true := by kernel_rfl
instance : TGo Tryz.prog 88 := ⟨go1⟩
instance : TGo Tryz.prog 40 := ⟨go2⟩
instance : TGo Tryz.prog 42 := ⟨go3⟩
def blk (p v : Value) : Blk := ⟨68, [p, v], 2⟩
def self (b : Nat) : Value := .pointer (some ⟨b, 0, none⟩)
/-- Memory with a builder. -/
def M (S : Mem) (b : Nat) (p : Value) (o : Option (Nat × Nat)) (l : List UInt8) : Mem := (outM S o 5 (cellsB l)).set b (blk p (outV o l.length))
/-- A builder of these bytes, over a memory. -/
def R (S : Mem) (b : Nat) (l : List UInt8) (T : Mem) : Prop := ∃ p o, (p = .pointer none ∨ p = self b) ∧ OkO S o l.length ∧ (∀ g c, o = some (g, c) → g ≠ b ∧ l ≠ []) ∧ T = M S b p o l
/-- .. of which a text was made. -/
def F (S : Mem) (b : Nat) (l : List UInt8) (T : Mem) : Prop := ∃ p, (l = [] ∧ T = S.set b (blk p (.slice none 0 0))) ∨ (l ≠ [] ∧ ∃ g c, Fresh S g ∧ g ≠ b ∧ c ≠ 0 ∧ S.ro.z g = none ∧ T = (S.fr g l).set b (blk p (.slice (some ⟨g, 0, none⟩) l.length c)))
theorem R.new (S : Mem) (b : Nat) : R S b [] (S.set b (blk (.pointer none) (.slice none 0 0))) := ⟨_, none, .inl rfl, ⟨fun _ => rfl, fun _ _ h => (by cases h)⟩, fun _ _ h => (by cases h), rfl⟩
theorem R.less {S T : Mem} {b : Nat} {l : List UInt8} (hf : Fresh S b) (h : R S b l T) : S.Less T := by
 obtain ⟨p,o,_,ho,hne,rfl⟩:=h
 cases o with
 | none=>exact Mem.less_set _ _ _ hf.1
 | some q =>
  obtain ⟨g,c⟩:=q
  have hg:=(ho.own g c rfl).1
  exact (Mem.less_set S g _ hg.1).trans (Mem.less_set _ _ _ (by
   show (S.set g _).own b=none
   rw [Mem.own_set_other _ _ (hne g c rfl).1.symm];exact hf.1))
theorem F.lo {S T : Mem} {b : Nat} {l : List UInt8} (hf : Fresh S b) (h : F S b l T) : S.Lo T := by
 obtain ⟨p,⟨_,rfl⟩ | ⟨_,g,c,hg,hgb,_,hz,rfl⟩⟩:=h
 ·exact (Mem.less_set _ _ _ hf.1).lo
 ·exact Mem.lo_fr_set hg hz hf hgb.symm
theorem lies : sameLayout Tryz.prog Tryz.prog.depth 68 68 = true := by kernel_rfl
theorem deep : 0 < Tryz.prog.depth := Nat.le_of_ble_eq_true (n := 1) (m := Tryz.prog.depth) (by kernel_rfl)
theorem cells2 : Tryz.prog.cellsOf 68 = 2 := by kernel_rfl
theorem cells1 : Tryz.prog.cellsOf 5 = 1 := by kernel_rfl
theorem inf : ∃ j, Tryz.prog.info? 68 = some j ∧ j.size ≠ 0 := by
 have h:(Tryz.prog.info? 68).map (fun j=>j.size)=some 2:=by kernel_rfl
 obtain ⟨j,h1,h2⟩:=Option.map_eq_some_iff.1 h
 exact ⟨j,h1,by omega⟩
theorem ldB {P : Program} {N : Nat} {E : Env} {S : Mem} {dst : Option Nat} {T ty : TypeId} {pos : String} {aft : Array Edge} {gd : Option (Nat × Bool)} {x : Operand} {b : Nat} {p v v' : Value} (hT : plainT P T = true) (hb : S.own b = some (blk p v)) (e : v = v') (hx : ev E x = some (.pointer (some ⟨b, 1, none⟩)) := by exact rfl) :
  ACalm P N ⟨dst,.load T x,ty,pos,aft,gd⟩ E S v':=Calm.load hT hx (by unfold Mem.rd;rw [hb,← e];rfl)
theorem copyCheck (S : Mem) (b : Nat) (p v : Value) (hp : p = .pointer none ∨ p = self b) (hb : S.own b = some (blk p v)) :
  ACall Tryz.prog 88 #[self b] S fun r S'=>r = .tuple #[]∧S'=S.set b (blk (self b) v):=by
 obtain ⟨j,hj,hj0⟩:=inf
 unfold self blk at *
 rcases hp with rfl | rfl
 ·skip
  refine ACall.enter (rs:=[]) 20 [(0,.pointer (some ⟨b,0,none⟩))] Tryz.func88 rfl rfl (Nat.le_of_ble_eq_true rfl) rfl ⟨rfl,trivial⟩ ?_
  iterate 6 refine s1_ ?_
  refine rC (Calm.bin rfl rfl (bin_ptr_nil Tryz.underlying66)) ?_
  iterate 2 refine s1_ ?_
  refine su_ [(0,_),(6,_)] ?_
  refine cT_ ?_
  iterate 3 refine s1_ ?_
  refine rC (Calm.toUnsafe Tryz.underlying66 Tryz.underlying161 hj hj0 rfl hb (by simp)) ?_
  refine ARun.extSame (lit_lt rfl) Tryz.func135 rfl rfl rfl rfl rfl ?_
  refine rC (Calm.fromUnsafe Tryz.underlying161 Tryz.underlying66 hj deep cells2 lies rfl hb (by simp)) ?_
  iterate 4 refine s1_ ?_
  refine ⟨_,_,rfl,less_,?_⟩
  exact ⟨rfl,rfl⟩
 ·skip
  refine ACall.enter (rs:=[]) 20 [(0,.pointer (some ⟨b,0,none⟩))] Tryz.func88 rfl rfl (Nat.le_of_ble_eq_true rfl) rfl ⟨rfl,trivial⟩ ?_
  iterate 6 refine s1_ ?_
  refine rC (Calm.bin rfl rfl (bin_ptr_nil Tryz.underlying66)) ?_
  iterate 2 refine s1_ ?_
  refine su_ [(0,_),(6,_)] ?_
  refine cF_ ?_
  iterate 7 refine s1_ ?_
  refine rC (Calm.bin rfl rfl (bin_ptr_neq_same Tryz.underlying66 hj)) ?_
  iterate 2 refine s1_ ?_
  refine su_ [(0,_),(6,_),(19,_)] ?_
  refine cF_ ?_
  refine s1_ ?_
  refine ⟨_,S,rfl,less_,?_⟩
  exact ⟨rfl,(Mem.set_same _ _ _ hb).symm⟩
theorem mem_eq1 {S : Mem} {b b' : Nat} {X X' Y : Blk} (hne : b ≠ b') : ((S.set b X).set b' Y).set b X' = (S.set b' Y).set b X' := by
 unfold Mem.set;congr 1;funext k;by_cases h1:k=b <;> by_cases h2:k=b' <;> simp_all
theorem mem_eq2 {S : Mem} {b b' g : Nat} {X X' Y Z : Blk} (hf : S.own g = none) (hg : g ≠ b) : ((((S.set g Z).set b X).del g).set b' Y).set b X' = (S.set b' Y).set b X' := by
 unfold Mem.set Mem.del;congr 1;funext k;by_cases h1:k=b <;> by_cases h2:k=b' <;> by_cases h3:k=g <;> simp_all
theorem mem_eq3 {S : Mem} {b g : Nat} {X Z : Blk} {l : List UInt8} (hf : S.own g = none) (hg : g ≠ b) : (((S.set g Z).set b X).del g).fr g l = (S.fr g l).set b X := by
 unfold Mem.set Mem.del Mem.fr;congr 1;funext k;by_cases h1:k=b <;> by_cases h3:k=g <;> simp_all
theorem WriteString (S : Mem) (b : Nat) (l : List UInt8) (T : Mem) (s : ByteArray) (hf : Fresh S b) (h : R S b l T) (hsz : l.length + s.size ≤ 140737488355328) :
  ACall Tryz.prog 40 #[self b,.string s] T fun r S'=>r = .tuple #[.int .i64 s.size,.nilIface]∧R S b (l ++ s.data.toList) S':=by
 obtain ⟨p,o,hp,ho,hne,rfl⟩:=h
 have hlen:s.data.toList.length=s.size:=Array.length_toList (xs:=s.data)
 have hcc:=copyCheck (M S b p o l) b p _ hp (Mem.own_set_same _ _ _)
 have hmm:(M S b p o l).set b (blk (self b) (outV o l.length))=M S b (self b) o l:=Mem.set_set _ _ _ _
 rw [hmm] at hcc
 have hby:(M S b (self b) o l).own b=some (blk (self b) (outV o l.length)):=Mem.own_set_same _ _ _
 by_cases h0:s.size=0
 ·have e0:s.data.toList = []:=List.eq_nil_of_length_eq_zero (by omega)
  obtain ⟨A,k,c,hov,hk⟩ : ∃ A k c,outV o l.length = .slice A k c∧k≤c:=by
   cases o with
   | none=>exact ⟨none,0,0,rfl,Nat.le_refl _⟩
   | some q=>exact ⟨_,_,_,rfl,(ho.own q.1 q.2 rfl).2⟩
  rw [e0,List.append_nil]
  refine ACall.enter (rs:=[.tmp 4,.tmp 5]) 19 [(0,self b),(1,.string s)] Tryz.func40 rfl rfl (Nat.le_of_ble_eq_true rfl) rfl ⟨rfl,rfl,trivial⟩ ?_
  iterate 9 refine s1_ ?_
  refine ca_ rfl (hcc) ?_
  rintro _ S1 ⟨rfl,h1⟩
  rw [h1];clear h1 S1
  iterate 2 refine s1_ ?_
  refine su_ [(0,_),(1,_),(4,_),(5,_)] ?_
  iterate 6 refine s1_ ?_
  refine rC ((ldB ty_plain_61 hby hov)) ?_
  refine s1_ ?_
  refine ARun.appendNoneS (lit_lt rfl) ty_sl_61 ty_str_9 hk rfl rfl h0 ?_
  iterate 2 refine s1_ ?_
  refine ARun.store1 rfl rfl ty_size_61 rfl hby (by show 1<2;decide) rfl ?_
  try simp only [k_ms,k_sz,k_ss,k_za,Nat.reduceAdd]
  iterate 2 refine s1_ ?_
  refine su_ [(0,_),(1,_),(4,_),(5,_)] ?_
  iterate 8 refine s1_ ?_
  refine su_ [(0,_),(1,_),(4,_),(5,_)] ?_
  refine s1_ ?_
  refine ⟨_,M S b (self b) o l,⟨_,_,rfl,⟨_,_,rfl,rfl,rfl⟩,rfl⟩,(by rw [show (M S b (self b) o l).set b _=M S b (self b) o l from Mem.set_same _ _ _ (by rw [hby,hov];rfl)];exact Mem.Less.refl _),?_⟩
  exact ⟨rfl,self b,o,.inr rfl,ho,hne,rfl⟩
 ·cases o with
  | none =>
   have hl0:l = []:=List.eq_nil_of_length_eq_zero (ho.nil rfl)
   subst hl0
   refine ACall.enter (rs:=[.tmp 4,.tmp 5]) 19 [(0,self b),(1,.string s)] Tryz.func40 rfl rfl (Nat.le_of_ble_eq_true rfl) rfl ⟨rfl,rfl,trivial⟩ ?_
   iterate 9 refine s1_ ?_
   refine ca_ rfl (hcc) ?_
   rintro _ S1 ⟨rfl,h1⟩
   rw [h1];clear h1 S1
   iterate 2 refine s1_ ?_
   refine su_ [(0,_),(1,_),(4,_),(5,_)] ?_
   iterate 6 refine s1_ ?_
   refine rC ((ldB ty_plain_61 hby rfl)) ?_
   refine s1_ ?_
   refine ARun.appendNilS (lit_lt rfl) ty_sl_61 ty_str_9 rfl rfl (by omega) (by omega) (by omega) ?_
   intro b14 c14 f14 hc14
   have g14:Fresh S b14:=(fresh_set f14).1
   have hbb:b≠b14:=(fresh_set f14).2.symm
   iterate 2 refine s1_ ?_
   refine ARun.store1 rfl rfl ty_size_61 rfl ((Mem.own_set_other _ _ hbb).trans hby) (by show 1<2;decide) rfl ?_
   try simp only [k_ms,k_sz,k_ss,k_za,Nat.reduceAdd]
   iterate 2 refine s1_ ?_
   refine su_ [(0,_),(1,_),(4,_),(5,_)] ?_
   iterate 8 refine s1_ ?_
   refine su_ [(0,_),(1,_),(4,_),(5,_)] ?_
   refine s1_ ?_
   refine ⟨_,M S b (self b) (some (b14,c14)) s.data.toList,⟨_,_,rfl,⟨_,_,rfl,rfl,rfl⟩,rfl⟩,(by unfold M;rw [mem_eq1 hbb,hlen.symm];exact Mem.Less.refl _),?_⟩
   exact ⟨rfl,self b,some (b14,c14),.inr rfl,⟨fun h=>(by cases h),fun g c e=>(by cases e;exact ⟨g14,by simp only [List.nil_append];omega⟩)⟩,fun g c e=>(by cases e;exact ⟨hbb.symm,fun e=>by simp only [List.nil_append] at e;rw [e] at hlen;simp at hlen;omega⟩),rfl⟩
  | some q =>
   obtain ⟨g,c⟩:=q
   have hgb:=(hne g c rfl).1
   have hg:=(ho.own g c rfl)
   have hog:(M S b (self b) (some (g,c)) l).own g=some ⟨5,cellsB l,c⟩:=(Mem.own_set_other _ _ hgb).trans (Mem.own_set_same _ _ _)
   refine ACall.enter (rs:=[.tmp 4,.tmp 5]) 19 [(0,self b),(1,.string s)] Tryz.func40 rfl rfl (Nat.le_of_ble_eq_true rfl) rfl ⟨rfl,rfl,trivial⟩ ?_
   iterate 9 refine s1_ ?_
   refine ca_ rfl (hcc) ?_
   rintro _ S1 ⟨rfl,h1⟩
   rw [h1];clear h1 S1
   iterate 2 refine s1_ ?_
   refine su_ [(0,_),(1,_),(4,_),(5,_)] ?_
   iterate 6 refine s1_ ?_
   refine rC ((ldB ty_plain_61 hby rfl)) ?_
   refine s1_ ?_
   refine ARun.appendRunS (lit_lt rfl) ty_sl_61 ty_str_9 rfl hog (cellsB_length l) rfl (by omega) (by omega) ?_
   intro b14 c14 f14 hc14
   have hby2:((M S b (self b) (some (g,c)) l).del g).own b=some (blk (self b) (outV (some (g,c)) l.length)):=(Mem.own_del_other _ hgb.symm).trans hby
   have hbb:b≠b14:=fun e=>by rw [← e] at f14;have:=f14.1;rw [hby2] at this;cases this
   have hd14:S.own b14=none:=by
    by_cases e:b14=g
    ·rw [e];exact hg.1.1
    ·have:=f14.1
     rw [Mem.own_del_other _ e] at this
     unfold M at this
     rw [Mem.own_set_other _ _ hbb.symm] at this
     exact (Mem.own_set_other S _ e).symm.trans this
   have g14:Fresh S b14:=⟨hd14,f14.2⟩
   iterate 2 refine s1_ ?_
   refine ARun.store1 rfl rfl ty_size_61 rfl ((Mem.own_set_other _ _ hbb).trans hby2) (by show 1<2;decide) rfl ?_
   try simp only [k_ms,k_sz,k_ss,k_za,Nat.reduceAdd]
   iterate 2 refine s1_ ?_
   refine su_ [(0,_),(1,_),(4,_),(5,_)] ?_
   iterate 8 refine s1_ ?_
   refine su_ [(0,_),(1,_),(4,_),(5,_)] ?_
   refine s1_ ?_
   refine ⟨_,M S b (self b) (some (b14,c14)) (l ++ s.data.toList),⟨_,_,rfl,⟨_,_,rfl,rfl,rfl⟩,rfl⟩,(by unfold M;show Mem.Less _ (((((S.set g _).set b _).del g).set b14 _).set b _);rw [mem_eq2 hg.1.1 hgb,show cellsB (l ++ s.data.toList)=cellsB l ++ cellsB s.data.toList from List.map_append ..,show (l ++ s.data.toList).length=l.length+s.size from by rw [List.length_append,hlen]];exact Mem.Less.refl _),?_⟩
   exact ⟨rfl,self b,some (b14,c14),.inr rfl,⟨fun h=>(by cases h),fun g c e=>(by cases e;exact ⟨g14,by rw [List.length_append,hlen];exact hc14⟩)⟩,fun g' c' e=>(by cases e;exact ⟨hbb.symm,fun e=>(hne g c rfl).2 (List.append_eq_nil_iff.1 e).1⟩),rfl⟩
theorem String (S : Mem) (b : Nat) (l : List UInt8) (T : Mem) (hf : Fresh S b) (h : R S b l T) (h63 : l.length ≤ 9223372036854775807) :
  ACall Tryz.prog 42 #[self b] T fun r S'=>r = .string (bs l)∧F S b l S':=by
 obtain ⟨p,o,hp,ho,hne,rfl⟩:=h
 have hby:(M S b p o l).own b=some (blk p (outV o l.length)):=Mem.own_set_same _ _ _
 cases o with
 | none =>
  have hl0:l = []:=List.eq_nil_of_length_eq_zero (ho.nil rfl)
  subst hl0
  refine ACall.enter (rs:=[.tmp 2]) 14 [(0,self b)] Tryz.func42 rfl rfl (Nat.le_of_ble_eq_true rfl) rfl ⟨rfl,trivial⟩ ?_
  iterate 6 refine s1_ ?_
  refine AWP.draw [(0,true),(1,true),(2,true),(3,true),(4,true),(5,true),(6,true),(7,true),(8,true),(9,true),(10,false),(11,true)] [10] mixed (by kernel_rfl) ?_
  iterate 3 refine s1_ ?_
  refine dC (hc:=(ldB ty_plain_61 hby rfl)) (h:=?_)
  refine dC (hc:=Calm.sliceData rfl (.inl rfl)) (h:=?_)
  iterate 3 refine s1_ ?_
  refine dC (hc:=(ldB ty_plain_61 hby rfl)) (h:=?_)
  refine s1_ ?_
  refine draw_only rfl ?_
  refine ARun.usNil (lit_lt rfl) rfl rfl ?_
  refine arun_nil ⟨fun h=>absurd h (by decide),?_⟩
  iterate 3 refine s1_ ?_
  refine su_ [(0,_),(2,_)] ?_
  refine s1_ ?_
  refine ⟨_,M S b p none [],⟨_,_,rfl,rfl,rfl⟩,(Mem.Less.refl _),?_⟩
  exact ⟨rfl,p,.inl ⟨rfl,rfl⟩⟩
 | some q =>
  obtain ⟨g,c⟩:=q
  obtain ⟨hgb,hl0⟩:=hne g c rfl
  have hg:=(ho.own g c rfl)
  have hlp:0<l.length:=List.length_pos_iff.2 hl0
  have hog:(M S b p (some (g,c)) l).own g=some ⟨5,cellsB l,c⟩:=(Mem.own_set_other _ _ hgb).trans (Mem.own_set_same _ _ _)
  refine ACall.seen (p:=S.ro.z g=none) (fun w hv=>Mem.z_none hv hog) fun hz=>?_
  refine ACall.enter (rs:=[.tmp 2]) 14 [(0,self b)] Tryz.func42 rfl rfl (Nat.le_of_ble_eq_true rfl) rfl ⟨rfl,trivial⟩ ?_
  iterate 6 refine s1_ ?_
  refine AWP.draw [(0,true),(1,true),(2,true),(3,true),(4,true),(5,true),(6,true),(7,true),(8,true),(9,true),(10,false),(11,true)] [10] mixed (by kernel_rfl) ?_
  iterate 3 refine s1_ ?_
  refine dC (hc:=(ldB ty_plain_61 hby rfl)) (h:=?_)
  refine dC (hc:=Calm.sliceData rfl (.inr (by omega))) (h:=?_)
  iterate 3 refine s1_ ?_
  refine dC (hc:=(ldB ty_plain_61 hby rfl)) (h:=?_)
  refine s1_ ?_
  refine draw_only rfl ?_
  refine ARun.usOwn (lit_lt rfl) Tryz.underlying129 cells1 rfl rfl hog hl0 h63 ?_
  refine arun_nil ⟨fun h=>absurd h (by decide),?_⟩
  iterate 3 refine s1_ ?_
  refine su_ [(0,_),(2,_)] ?_
  refine s1_ ?_
  refine ⟨_,((M S b p (some (g,c)) l).del g).fr g l,⟨_,_,rfl,rfl,rfl⟩,(Mem.Less.refl _),?_⟩
  exact ⟨rfl,p,.inr ⟨hl0,g,c,hg.1,hgb,by omega,hz,mem_eq3 hg.1.1 hgb⟩⟩
theorem StringF (S : Mem) (b : Nat) (l : List UInt8) (T : Mem) (h : F S b l T) (h63 : l.length ≤ 9223372036854775807) :
  ACall Tryz.prog 42 #[self b] T fun r S'=>r = .string (bs l)∧S'=T:=by
 obtain ⟨p,⟨rfl,rfl⟩ | ⟨hl0,g,c,hg,hgb,hc,hz,rfl⟩⟩:=h
 ·have hby:(S.set b (blk p (.slice none 0 0))).own b=some (blk p (.slice none 0 0)):=Mem.own_set_same _ _ _
  refine ACall.enter (rs:=[.tmp 2]) 14 [(0,self b)] Tryz.func42 rfl rfl (Nat.le_of_ble_eq_true rfl) rfl ⟨rfl,trivial⟩ ?_
  iterate 6 refine s1_ ?_
  refine AWP.draw [(0,true),(1,true),(2,true),(3,true),(4,true),(5,true),(6,true),(7,true),(8,true),(9,true),(10,false),(11,true)] [10] mixed (by kernel_rfl) ?_
  iterate 3 refine s1_ ?_
  refine dC (hc:=(ldB ty_plain_61 hby rfl)) (h:=?_)
  refine dC (hc:=Calm.sliceData rfl (.inl rfl)) (h:=?_)
  iterate 3 refine s1_ ?_
  refine dC (hc:=(ldB ty_plain_61 hby rfl)) (h:=?_)
  refine s1_ ?_
  refine draw_only rfl ?_
  refine ARun.usNil (lit_lt rfl) rfl rfl ?_
  refine arun_nil ⟨fun h=>absurd h (by decide),?_⟩
  iterate 3 refine s1_ ?_
  refine su_ [(0,_),(2,_)] ?_
  refine s1_ ?_
  refine ⟨_,S.set b (blk p (.slice none 0 0)),⟨_,_,rfl,rfl,rfl⟩,(Mem.Less.refl _),?_⟩
  exact ⟨rfl,rfl⟩
 ·have hby:((S.fr g l).set b (blk p (.slice (some ⟨g,0,none⟩) l.length c))).own b=some (blk p (.slice (some ⟨g,0,none⟩) l.length c)):=Mem.own_set_same _ _ _
  refine ACall.enter (rs:=[.tmp 2]) 14 [(0,self b)] Tryz.func42 rfl rfl (Nat.le_of_ble_eq_true rfl) rfl ⟨rfl,trivial⟩ ?_
  iterate 6 refine s1_ ?_
  refine AWP.draw [(0,true),(1,true),(2,true),(3,true),(4,true),(5,true),(6,true),(7,true),(8,true),(9,true),(10,false),(11,true)] [10] mixed (by kernel_rfl) ?_
  iterate 3 refine s1_ ?_
  refine dC (hc:=(ldB ty_plain_61 hby rfl)) (h:=?_)
  refine dC (hc:=Calm.sliceData rfl (.inr hc)) (h:=?_)
  iterate 3 refine s1_ ?_
  refine dC (hc:=(ldB ty_plain_61 hby rfl)) (h:=?_)
  refine s1_ ?_
  refine draw_only rfl ?_
  refine ARun.usRo (lit_lt rfl) Tryz.underlying129 cells1 rfl rfl (show (if g=g then some l else S.ro.z g)=some l from if_pos rfl) hl0 h63 ?_
  refine arun_nil ⟨fun h=>absurd h (by decide),?_⟩
  iterate 3 refine s1_ ?_
  refine su_ [(0,_),(2,_)] ?_
  refine s1_ ?_
  refine ⟨_,(S.fr g l).set b (blk p (.slice (some ⟨g,0,none⟩) l.length c)),⟨_,_,rfl,rfl,rfl⟩,(Mem.Less.refl _),?_⟩
  exact ⟨rfl,rfl⟩
/-- The last text: the builder is no more. -/
theorem StringE (S : Mem) (b : Nat) (l : List UInt8) (T : Mem) (hf : Fresh S b) (h : R S b l T) (h63 : l.length ≤ 9223372036854775807) :
  ACall Tryz.prog 42 #[self b] T fun r S'=>r = .string (bs l)∧S'=S :=
 (String S b l T hf h h63).lose fun v S' ⟨h1,h2⟩=>⟨S,h2.lo hf,h1,rfl⟩
end Bl
end Go.Proofs.YtceikpipmcadmaaGreatDoor
namespace Go.Proofs.YtceikpipmcadmaaGreatDoor
open Go.RowKit
open Mv
theorem wfu64 {n : Int} (h : (Lit.int .u64 n).wf = true) : 0 ≤ n ∧ n ≤ 18446744073709551615 := by
 simp [Lit.wf,IntKind.min,IntKind.max,IntKind.signed,IntKind.bits] at h;omega
namespace Num
def u64s (n : Nat) : List Value := [.int .u64 (n : Int)]
end Num
open Num
theorem sl_u64 {S : Mem} {b e : Nat} {l : List Nat} {len cap room : Nat} (hb : S.own b = some ⟨e, l.map (fun n : Nat => .int .u64 (n : Int)), room⟩) (hlen : l.length = len) (hc : len ≤ cap) (hm : len ≤ 9223372036854775807) : Sl 1 u64s S (.slice (some ⟨b, 0, none⟩) len cap) l :=
 Sl.own1 (g:=fun n:Nat=>.int .u64 (n:Int)) hb List.prefix_rfl hlen hc hm
abbrev RowR (S : Mem) (v : Value) (l : List Nat) : Prop := Sl 1 u64s S v l
theorem rowR_less (S S' : Mem) (v : Value) (l : List Nat) (h : RowR S v l) (hl : S.Less S') : RowR S' v l := h.less hl
/-- The place of the first element that a test takes; -1: there is none. -/
def idx {α : Type} (p : α → Bool) (l : List α) : Int := match l.findIdx? p with
  | some i => (i : Nat)
  | none => -1
theorem idx_at {α : Type} (p : α → Bool) (l : List α) (i : Nat) (h : i < l.length) (hb : ∀ j (hj : j < i), p l[j] = false) (hi : p l[i] = true) : idx p l = (i : Nat) := by
 have:l.findIdx? p=some i:=List.findIdx?_eq_some_iff_getElem.2 ⟨h,hi,fun j hj=>by simpa using hb j hj⟩
 simp [idx,this]
theorem idx_none {α : Type} (p : α → Bool) (l : List α) (hb : ∀ j (hj : j < l.length), p l[j] = false) : idx p l = -1 := by
 have:l.findIdx? p=none:=List.findIdx?_eq_none_iff.2 fun x hx=>by
  obtain ⟨j,hj,rfl⟩:=List.getElem_of_mem hx
  exact hb j hj
 simp [idx,this]
theorem idx_any {α : Type} (p : α → Bool) (l : List α) : decide (0 ≤ idx p l) = l.any p := by
 by_cases h:l.any p=true
 ·rw [h]
  have h2:(l.findIdx? p).isSome=true:=by rw [List.findIdx?_isSome];exact h
  obtain ⟨i,hi⟩:=Option.isSome_iff_exists.1 h2
  simp [idx,hi]
 ·have h':l.any p=false:=by simpa using h
  rw [h']
  have h2:(l.findIdx? p).isSome=false:=by rw [List.findIdx?_isSome];exact h'
  have:l.findIdx? p=none:=by simpa using h2
  simp [idx,this]
theorem cellsB_append (l m : List UInt8) : cellsB (l ++ m) = cellsB l ++ cellsB m := by simp [cellsB]
theorem cellsB_one (l : List UInt8) : ∀ v ∈ cellsB l, v.oneCell' = true := fun v hv => by obtain ⟨c, _, rfl⟩ := List.mem_map.1 hv; rfl
end Go.Proofs.YtceikpipmcadmaaGreatDoor
namespace Go.Proofs.YtceikpipmcadmaaGreatDoor
open Go.RowKit
open Mv Num
set_option maxRecDepth 4000
namespace Num
theorem byte_shr (n k : Nat) : IntKind.u8.wrap ((n : Int) / 2 ^ k) = nb (UInt8.ofNat (n / 2 ^ k)) := by
 rw [← u8_nat];congr 1
theorem of_or (a : Nat) (c : UInt8) (h : a < 4294967296) : bits .or .u64 (IntKind.u64.wrap ((a : Int) * 2 ^ (8 : Int).toNat)) (nb c) = ((256 * a + c.toNat : Nat) : Int) := by
 have hc:=c.toNat_lt
 have e:(a:Int)*2 ^ (8:Int).toNat=((a*2 ^ 8:Nat):Int):=by rw [show (8:Int).toNat=8 from rfl];omega
 rw [e,IntWalk.u64_in _ (by omega),nb_byte,or_nat64 _ _ (by omega) (by omega),Nat.or_comm,or_join_nat _ _ _ (by omega)]
 omega
end Num
theorem numV_Five (n : Nat) (S : Mem) (hn : n < 18446744073709551616) :
  ACall Tryz.prog 68 #[.int .u64 n] S fun r S'=>r = .agg (cellsB (five n)).toArray∧S'=S:=by
 have e0:=byte_shr n 32;have e1:=byte_shr n 24;have e2:=byte_shr n 16;have e3:=byte_shr n 8
 have e4:=u8_nat n
 refine ACall.enter (rs:=[.cell 2 105]) 18 [(0,.int .u64 n)] Tryz.func68 rfl rfl (Nat.le_of_ble_eq_true rfl) rfl ⟨rfl,trivial⟩ ?_
 iterate 2 refine s1_ ?_
 refine ARun.alloc (lit_lt rfl) ty_zero_105 ?_
 intro b2 f2
 have g2:=f2
 repeat ((with_reducible replace g2:=fresh_set g2);obtain ⟨g2,_⟩:=g2)
 refine nl_ ?_
 iterate 6 refine s1_ ?_
 refine rC (Calm.conv rfl (conv_intW Tryz.underlying27 Tryz.underlying5 e0)) ?_
 iterate 2 refine s1_ ?_
 refine rC (Calm.conv rfl (conv_intW Tryz.underlying27 Tryz.underlying5 e1)) ?_
 iterate 2 refine s1_ ?_
 refine rC (Calm.conv rfl (conv_intW Tryz.underlying27 Tryz.underlying5 e2)) ?_
 iterate 2 refine s1_ ?_
 refine rC (Calm.conv rfl (conv_intW Tryz.underlying27 Tryz.underlying5 e3)) ?_
 refine s1_ ?_
 refine rC (Calm.conv rfl (conv_intW Tryz.underlying27 Tryz.underlying5 e4)) ?_
 refine rC (Calm.buildArr (cs:=[_,_,_,_,_]) ty_arr_105 rfl rfl) ?_
 iterate 3 refine s1_ ?_
 refine su_ [(0,_),(2,_)] ?_
 refine s1_ ?_
 refine ⟨_,S,⟨_,_,_,rfl,.inr ⟨ty_agg_105,[_,_,_,_,_],ty_size_105,rds_,rfl⟩,rfl,rfl⟩,less_,?_⟩
 exact ⟨rfl,rfl⟩
theorem numV_beyond (n : Nat) (S : Mem) :
  ACall Tryz.prog 87 #[.int .u64 n] S fun r S'=>r = .bool (decide (top≤n))∧S'=S:=by
 have e:decide ((1099511627776:Int)≤(n:Int))=decide (top≤n):=by rw [Bool.eq_iff_iff];simp [top];omega
 refine ACall.enter (rs:=[.tmp 2]) 5 [(0,.int .u64 n)] Tryz.func87 rfl rfl (Nat.le_of_ble_eq_true rfl) rfl ⟨rfl,trivial⟩ ?_
 iterate 8 refine s1_ ?_
 refine rC (Calm.bin rfl rfl (bin_bool (bin_geq _ _) e)) ?_
 iterate 3 refine s1_ ?_
 refine su_ [(0,_),(2,_)] ?_
 refine s1_ ?_
 refine ⟨_,S,⟨_,_,rfl,rfl,rfl⟩,less_,?_⟩
 exact ⟨rfl,rfl⟩
theorem numV_IndexFunc (l : List Nat) (v : Value) (S : Mem) (hv : Sl 1 u64s S v l) :
  ACall Tryz.prog 134 #[v,.func (.func 87) #[] #[]] S fun r S'=>r = .int .i64 (idx (fun n=>decide (top≤n)) l)∧S'=S:=by
 obtain ⟨a,cap,rfl,hlc,hcap,hk⟩:=hv
 refine ACall.enter (rs:=[.tmp 4]) 19 [(0,.slice a l.length cap),(1,.func (.func 87) #[] #[])] Tryz.func134 rfl rfl (Nat.le_of_ble_eq_true rfl) rfl ⟨rfl,rfl,trivial⟩ ?_
 iterate 13 refine s1_ ?_
 refine su_ [(0,_),(1,_),(4,_),(7,_),(8,_)] ?_
 refine s1_ ?_
 refine AWP.loop (X:=Nat) (fun x=>[(0,.slice a l.length cap),(1,.func (.func 87) #[] #[]),(7,.int .i64 l.length),(8,.int .i64 x)]) (fun x=>S) (fun x=>x≤l.length ∧ ∀ j (hj:j<l.length),j<x→decide (top≤l[j])=false) (fun x=>l.length-x) (0) ⟨rfl,rfl,rfl,rfl,trivial⟩ (Mem.Less.refl _) (⟨Nat.zero_le _,fun j _ h=>absurd h (Nat.not_lt_zero _)⟩) ?_
 rintro k ⟨hk1,hk2⟩
 (try dsimp only at *)
 iterate 6 refine s1_ ?_
 refine AWP.condB rfl (fun hl=>?_) (fun hl=>?_)
 ·have hl:k<l.length:=by have:=of_decide_eq_true hl;omega
  obtain ⟨b,off,rfl,hkn⟩:=hk.resolve_left (by intro h;rw [h] at hl;exact absurd hl (Nat.not_lt_zero _))
  have hkk:=hkn k hl
  iterate 10 refine s1_ ?_
  refine su_ [(0,_),(1,_),(7,_),(8,_),(9,_),(5,_)] ?_
  iterate 7 refine s1_ ?_
  refine ARun.callV (lit_lt rfl) go_87 rfl rfl (numV_beyond l[k] S) ?_
  rintro _ S1 ⟨rfl,h1⟩
  rw [h1];clear h1 S1
  iterate 2 refine s1_ ?_
  refine su_ [(0,_),(1,_),(7,_),(8,_),(9,_),(5,_),(16,_)] ?_
  refine AWP.condB rfl (fun hb=>?_) (fun hb=>?_)
  ·iterate 6 refine s1_ ?_
   refine su_ [(0,_),(1,_),(7,_),(8,_),(9,_),(5,_),(16,_),(4,_)] ?_
   iterate 6 refine s1_ ?_
   refine ⟨_,S,⟨_,_,rfl,rfl,rfl⟩,less_,?_⟩
   exact ⟨by rw [idx_at _ _ k hl (fun j hj=>hk2 j (by omega) hj) hb];rfl,rfl⟩
  ·iterate 8 refine s1_ ?_
   refine ⟨k+1,?_,?_,?_,?_⟩
   all_goals (try dsimp only)
   ·exact ⟨rfl,rfl,rfl,rfl,trivial⟩
   ·exact Mem.Less.refl _
   ·exact ⟨hl,fun j hj hj2=>by rcases Nat.lt_or_ge j k with h | h;exact hk2 j hj h;obtain rfl:j=k:=(by omega);exact hb⟩
   ·omega
 ·have hl:k=l.length:=by have:=of_decide_eq_false hl;omega
  iterate 11 refine s1_ ?_
  refine ⟨_,S,⟨_,_,rfl,rfl,rfl⟩,less_,?_⟩
  exact ⟨by rw [idx_none _ _ (fun j hj=>hk2 j hj (by omega))];rfl,rfl⟩
theorem numV_ContainsFunc (l : List Nat) (v : Value) (S : Mem) (hv : Sl 1 u64s S v l) :
  ACall Tryz.prog 86 #[v,.func (.func 87) #[] #[]] S fun r S'=>r = .bool (l.any fun n=>decide (top≤n))∧S'=S:=by
 have hq:=idx_any (fun n=>decide (top≤n)) l
 obtain ⟨a,cap,rfl,_⟩:=id hv
 refine ACall.enter (rs:=[.tmp 4]) 9 [(0,.slice a l.length cap),(1,.func (.func 87) #[] #[])] Tryz.func86 rfl rfl (Nat.le_of_ble_eq_true rfl) rfl ⟨rfl,rfl,trivial⟩ ?_
 iterate 9 refine s1_ ?_
 refine ca_ rfl (numV_IndexFunc l _ S hv) ?_
 rintro _ S1 ⟨rfl,h1⟩
 rw [h1];clear h1 S1
 refine rC (Calm.bin rfl rfl (bin_bool (bin_geq _ _) hq)) ?_
 iterate 3 refine s1_ ?_
 refine su_ [(0,_),(1,_),(4,_)] ?_
 refine s1_ ?_
 refine ⟨_,S,⟨_,_,rfl,rfl,rfl⟩,less_,?_⟩
 exact ⟨rfl,rfl⟩
theorem recOK_spec (l : List Nat) : recOK l = (!(decide (l.length < 1) || (decide (8 < l.length) || l.any fun n => decide (top ≤ n)))) := by
 unfold recOK
 rw [Bool.eq_iff_iff]
 simp only [Bool.and_eq_true,decide_eq_true_eq,List.all_eq_true,Bool.not_eq_true',Bool.or_eq_false_iff,decide_eq_false_iff_not,List.any_eq_false]
 constructor
 ·rintro ⟨⟨h1,h2⟩,h3⟩;exact ⟨by omega,by omega,fun x hx=>by have:=h3 x hx;omega⟩
 ·rintro ⟨h1,h2,h3⟩;exact ⟨⟨by omega,by omega⟩,fun x hx=>by have:=h3 x hx;omega⟩
set_option maxHeartbeats 1000000 in
theorem numV_Record (l : List Nat) (v : Value) (S : Mem) (hv : Sl 1 u64s S v l) (hb : ∀ x ∈ l, x < 18446744073709551616) :
  ACall Tryz.prog 39 #[v] S fun r S'=>r=pairV (recP l)∧S'=S:=by
 have hq:=recOK_spec l
 unfold recP
 obtain ⟨a,cap,rfl,hlc,hcap,hk⟩:=id hv
 by_cases c1:l.length<1
 ·rw [if_neg (by rw [hq];simp [c1])]
  refine ACall.enter (rs:=[.tmp 2,.tmp 3]) 38 [(0,.slice a l.length cap)] Tryz.func39 rfl rfl (Nat.le_of_ble_eq_true rfl) rfl ⟨rfl,trivial⟩ ?_
  iterate 23 refine s1_ ?_
  refine su_ [(0,_),(2,_),(3,_),(19,_)] ?_
  refine cT_ ?_
  iterate 8 refine s1_ ?_
  refine ⟨_,S,⟨_,_,rfl,⟨_,_,rfl,rfl,rfl⟩,rfl⟩,less_,?_⟩
  exact ⟨rfl,rfl⟩
 by_cases c2:8<l.length
 ·rw [if_neg (by rw [hq];simp [c2])]
  refine ACall.enter (rs:=[.tmp 2,.tmp 3]) 38 [(0,.slice a l.length cap)] Tryz.func39 rfl rfl (Nat.le_of_ble_eq_true rfl) rfl ⟨rfl,trivial⟩ ?_
  iterate 23 refine s1_ ?_
  refine su_ [(0,_),(2,_),(3,_),(19,_)] ?_
  refine cT_ ?_
  iterate 8 refine s1_ ?_
  refine ⟨_,S,⟨_,_,rfl,⟨_,_,rfl,rfl,rfl⟩,rfl⟩,less_,?_⟩
  exact ⟨rfl,rfl⟩
 cases c3:l.any fun n=>decide (top≤n) with
 | true =>
  rw [if_neg (by rw [hq,c3];simp)]
  refine ACall.enter (rs:=[.tmp 2,.tmp 3]) 38 [(0,.slice a l.length cap)] Tryz.func39 rfl rfl (Nat.le_of_ble_eq_true rfl) rfl ⟨rfl,trivial⟩ ?_
  iterate 19 refine s1_ ?_
  refine ARun.callG 8 false 16 rfl (lit_lt rfl) rfl (lit_lt rfl) go_86 rfl (numV_ContainsFunc l _ S hv) ?_
  rintro _ S1 ⟨rfl,h1⟩
  rw [h1,c3];clear h1 S1
  iterate 3 refine s1_ ?_
  refine su_ [(0,_),(2,_),(3,_),(19,_)] ?_
  refine cT_ ?_
  iterate 8 refine s1_ ?_
  refine ⟨_,S,⟨_,_,rfl,⟨_,_,rfl,rfl,rfl⟩,rfl⟩,less_,?_⟩
  exact ⟨rfl,rfl⟩
 | false =>
  rw [if_pos (by rw [hq,c3];simp only [c1,c2,decide_false];rfl)]
  have c3':=List.any_eq_false.1 c3
  obtain ⟨b0,off,rfl,hkn⟩:=hk.resolve_left (by intro h;rw [h] at c1;simp at c1)
  refine ACall.enter (rs:=[.tmp 2,.tmp 3]) 38 [(0,.slice (some ⟨b0,off,none⟩) l.length cap)] Tryz.func39 rfl rfl (Nat.le_of_ble_eq_true rfl) rfl ⟨rfl,trivial⟩ ?_
  iterate 19 refine s1_ ?_
  refine ARun.callG 8 false 16 rfl (lit_lt rfl) rfl (lit_lt rfl) go_86 rfl (numV_ContainsFunc l _ S hv) ?_
  rintro _ S1 ⟨rfl,h1⟩
  rw [h1,c3];clear h1 S1
  iterate 3 refine s1_ ?_
  refine su_ [(0,_),(2,_),(3,_),(19,_)] ?_
  refine cF_ ?_
  iterate 7 refine s1_ ?_
  refine ARun.makeSliceP (lit_lt rfl) ty_sl_61 rfl rfl (by omega) (by omega) (by omega) (by omega) ?_
  intro b23 f23
  have g23:=f23
  repeat ((with_reducible replace g23:=fresh_set g23);obtain ⟨g23,_⟩:=g23)
  iterate 3 refine s1_ ?_
  refine su_ [(0,_),(2,_),(3,_),(19,_),(4,_)] ?_
  have em:(5*(l.length:Int)).toNat=5*l.length:=by omega
  simp only [em,Nat.mul_one,madeL_one,Int.toNat_zero,List.replicate_zero]
  iterate 9 refine s1_ ?_
  refine AWP.loop (X:=Nat × Option (Nat × Nat)) (fun x=>[(4,outV x.2 (5*x.1)),(24,.slice (some ⟨b0,off,none⟩) l.length cap),(25,.int .i64 l.length),(26,.int .i64 x.1)]) (fun x=>outM S x.2 5 (cellsB (recB (l.take x.1)))) (fun x=>x.1≤l.length∧OkO S x.2 (5*x.1)) (fun x=>l.length-x.1) ((0,some (b23,5*l.length))) ⟨rfl,rfl,rfl,rfl,trivial⟩ (Mem.Less.refl _) (⟨Nat.zero_le _,okO_own g23 (Nat.zero_le _)⟩) ?_
  rintro ⟨k,o⟩ ⟨hk1,ho⟩
  (try dsimp only at *)
  iterate 6 refine s1_ ?_
  refine AWP.condB rfl (fun hl=>?_) (fun hl=>?_)
  ·have hl:k<l.length:=by have:=of_decide_eq_true hl;omega
   have hkk:=(hkn k hl).less (outM_over (e:=5) (cs:=cellsB (recB (l.take k))) ho)
   have hlen:(cellsB (recB (l.take k))).length=5*k:=by rw [cellsB_length,recB_length,List.length_take];omega
   have hx5:=five_length l[k]
   iterate 11 refine s1_ ?_
   refine su_ [(4,_),(24,_),(25,_),(26,_),(27,_),(6,_)] ?_
   iterate 3 refine s1_ ?_
   refine ca_ rfl (numV_Five l[k] _ (hb _ (List.getElem_mem _))) ?_
   rintro _ S1 ⟨rfl,h1⟩
   rw [h1];clear h1 S1
   refine ARun.alloc (lit_lt rfl) ty_zero_105 ?_
   intro b7 f7
   have g7:=f7
   repeat ((with_reducible replace g7:=fresh_set g7);obtain ⟨g7,_⟩:=g7)
   refine nl_ ?_
   iterate 3 refine s1_ ?_
   refine su_ [(4,_),(24,_),(25,_),(26,_),(27,_),(6,_),(7,_)] ?_
   iterate 3 refine s1_ ?_
   refine ARun.appendO (lit_lt rfl) ty_sl_61 rfl hlen (appO_of ho hlen g7) rfl (news:=cellsB (five l[k])) rds_ rfl (by omega) (cellsB_one _) (by omega) (by omega) ?_
   intro b34 c34 ho2
   rw [← cellsB_append,← recB_snoc,← List.take_succ_eq_append_getElem hl]
   iterate 4 refine s1_ ?_
   refine su_ [(4,_),(24,_),(25,_),(26,_),(27,_),(6,_),(7,_)] ?_
   iterate 5 refine s1_ ?_
   refine ⟨(k+1,some (b34,c34)),?_,?_,?_,?_⟩
   all_goals (try dsimp only)
   ·exact ⟨rfl,rfl,rfl,some_int (by omega),trivial⟩
   ·exact Mem.Less.refl _
   ·exact ⟨hl,ho2⟩
   ·omega
  ·have hl:k=l.length:=by have:=of_decide_eq_false hl;omega
   subst hl
   rw [List.take_length]
   obtain ⟨bo,co,rfl⟩:=ho.some (by omega)
   iterate 8 refine s1_ ?_
   refine rC (Calm.toStr ty_bytes_61 ty_str_9 rfl (recB_length l) (rds_outM _ _ _ _ _)) ?_
   iterate 4 refine s1_ ?_
   refine su_ [(4,_),(24,_),(25,_),(26,_),(27,_),(2,_),(3,_)] ?_
   refine s1_ ?_
   refine ⟨_,S,⟨_,_,rfl,⟨_,_,rfl,rfl,rfl⟩,rfl⟩,outM_over ho,?_⟩
   exact ⟨rfl,rfl⟩
end Go.Proofs.YtceikpipmcadmaaGreatDoor
namespace Go.Proofs.YtceikpipmcadmaaGreatDoor
open Go.RowKit
open Mv Num
set_option maxRecDepth 4000
set_option maxHeartbeats 400000 in
theorem numV_Of (s : ByteArray) (S : Mem) (h5 : 5 ≤ s.size) (hs : s.size ≤ 9223372036854775807) :
  ACall Tryz.prog 107 #[.string s] S fun r S'=>r = .int .u64 (ofB (s.data.toList.take 5):Nat)∧S'=S:=by
 have hsz:=size_list s
 refine ACall.enter (rs:=[.tmp 2]) 17 [(0,.string s)] Tryz.func107 rfl rfl (Nat.le_of_ble_eq_true rfl) rfl ⟨rfl,trivial⟩ ?_
 iterate 17 refine s1_ ?_
 refine AWP.loop (X:=Nat) (fun x=>[(0,.string s),(3,.int .u64 (ofB (s.data.toList.take x):Nat)),(5,.int .i64 x)]) (fun x=>S) (fun x=>x≤5) (fun x=>5-x) (0) ⟨rfl,rfl,rfl,trivial⟩ (Mem.Less.refl _) (Nat.zero_le _) ?_
 rintro k hk
 (try dsimp only at *)
 iterate 6 refine s1_ ?_
 refine AWP.condB rfl (fun hl=>?_) (fun hl=>?_)
 ·have hl:k<5:=by have:=of_decide_eq_true hl;omega
  have hq:=of_or (ofB (s.data.toList.take k)) (at8 s.data.toList k) (ofB_small _ _ (by omega))
  rw [← ofB_take _ _ (by omega)] at hq
  iterate 10 refine s1_ ?_
  refine su_ [(0,_),(3,_),(5,_),(6,_),(4,_)] ?_
  iterate 12 refine s1_ ?_
  refine su_ [(0,_),(3,_),(5,_),(6,_),(4,_)] ?_
  iterate 5 refine s1_ ?_
  refine ⟨k+1,?_,?_,?_,?_⟩
  all_goals (try dsimp only)
  ·exact ⟨rfl,some_int hq,some_int (by omega),trivial⟩
  ·exact Mem.Less.refl _
  ·exact hl
  ·omega
 ·have hl:k=5:=by have:=of_decide_eq_false hl;omega
  subst hl
  iterate 11 refine s1_ ?_
  refine su_ [(0,_),(3,_),(5,_),(6,_),(2,_)] ?_
  refine s1_ ?_
  refine ⟨_,S,⟨_,_,rfl,rfl,rfl⟩,less_,?_⟩
  exact ⟨rfl,rfl⟩
set_option maxHeartbeats 400000 in
theorem rnumV_Of (s : ByteArray) (S : Mem) (h5 : s.size = 5) :
  ACall Tryz.prog 53 #[.string s] S fun r S'=>r = .int .u64 (ofB s.data.toList:Nat)∧S'=S:=by
 have hsz:=size_list s
 refine ACall.enter (rs:=[.tmp 2]) 19 [(0,.string s)] Tryz.func53 rfl rfl (Nat.le_of_ble_eq_true rfl) rfl ⟨rfl,trivial⟩ ?_
 iterate 17 refine s1_ ?_
 refine AWP.loop (X:=Nat) (fun x=>[(0,.string s),(3,.int .u64 (ofB (s.data.toList.take x):Nat)),(4,.int .i64 x)]) (fun x=>S) (fun x=>x≤5) (fun x=>5-x) (0) ⟨rfl,rfl,rfl,trivial⟩ (Mem.Less.refl _) (Nat.zero_le _) ?_
 rintro k hk
 (try dsimp only at *)
 have hb:=ofB_small s.data.toList (min k 4) (by omega)
 iterate 9 refine s1_ ?_
 refine su_ [(0,_),(3,_),(4,_),(8,_)] ?_
 refine AWP.condB rfl (fun hl=>?_) (fun hl=>?_)
 ·have hl:k<5:=by have:=of_decide_eq_true hl;omega
  have hb2:=ofB_small s.data.toList k (by omega)
  have hc1:=nb_nonneg (at8 s.data.toList k)
  have hc2:=nb_le (at8 s.data.toList k)
  have hq:=ofB_take s.data.toList k (by omega)
  iterate 16 refine s1_ ?_
  refine su_ [(0,_),(3,_),(4,_),(8,_)] ?_
  iterate 6 refine s1_ ?_
  refine ⟨k+1,?_,?_,?_,?_⟩
  all_goals (try dsimp only)
  ·exact ⟨rfl,some_int (by rw [hq,nb_byte];omega),some_int (by omega),trivial⟩
  ·exact Mem.Less.refl _
  ·exact hl
  ·omega
 ·have hl:k=5:=by have:=of_decide_eq_false hl;omega
  subst hl
  iterate 11 refine s1_ ?_
  refine su_ [(0,_),(3,_),(4,_),(8,_),(2,_)] ?_
  refine s1_ ?_
  refine ⟨_,S,⟨_,_,rfl,rfl,rfl⟩,less_,?_⟩
  exact ⟨by rw [List.take_of_length_le (by omega)];rfl,rfl⟩
/-! ### The document's -/
theorem byte_quo (n k : Nat) : IntKind.u8.wrap ((n : Int) / (k : Int)) = nb (UInt8.ofNat (n / k)) := by rw [← u8_nat]; congr 1
theorem rnumV_Five (n : Nat) (S : Mem) (hn : n < 18446744073709551616) :
  ACall Tryz.prog 74 #[.int .u64 n] S fun r S'=>r = .string (bs (five n))∧S'=S:=by
 have e0:=byte_quo n 4294967296;have e1:=byte_quo n 16777216;have e2:=byte_quo n 65536;have e3:=byte_quo n 256
 have e4:=u8_nat n
 have q0:=IntWalk.u64_quo (n:Int) 4294967296 (by omega);have q1:=IntWalk.u64_quo (n:Int) 16777216 (by omega)
 have q2:=IntWalk.u64_quo (n:Int) 65536 (by omega);have q3:=IntWalk.u64_quo (n:Int) 256 (by omega)
 refine ACall.enter (rs:=[.tmp 2]) 19 [(0,.int .u64 n)] Tryz.func74 rfl rfl (Nat.le_of_ble_eq_true rfl) rfl ⟨rfl,trivial⟩ ?_
 iterate 9 refine s1_ ?_
 refine rC (Calm.conv rfl (conv_intW Tryz.underlying27 Tryz.underlying5 e0)) ?_
 iterate 2 refine s1_ ?_
 refine rC (Calm.conv rfl (conv_intW Tryz.underlying27 Tryz.underlying5 e1)) ?_
 iterate 2 refine s1_ ?_
 refine rC (Calm.conv rfl (conv_intW Tryz.underlying27 Tryz.underlying5 e2)) ?_
 iterate 2 refine s1_ ?_
 refine rC (Calm.conv rfl (conv_intW Tryz.underlying27 Tryz.underlying5 e3)) ?_
 refine s1_ ?_
 refine rC (Calm.conv rfl (conv_intW Tryz.underlying27 Tryz.underlying5 e4)) ?_
 refine ARun.buildN (cs:=[_,_,_,_,_]) (lit_lt rfl) ty_sl_61 rfl rfl rfl rfl ?_
 intro b17 f17
 have g17:=f17
 repeat ((with_reducible replace g17:=fresh_set g17);obtain ⟨g17,_⟩:=g17)
 refine rC (Calm.toStr (l:=five n) ty_bytes_61 ty_str_9 rfl (five_length n) rds_) ?_
 iterate 3 refine s1_ ?_
 refine su_ [(0,_),(2,_)] ?_
 refine s1_ ?_
 refine ⟨_,S,⟨_,_,rfl,rfl,rfl⟩,less_,?_⟩
 exact ⟨rfl,rfl⟩
set_option maxHeartbeats 1000000 in
theorem rnumV_Record (l : List Nat) (v : Value) (S : Mem) (hv : Sl 1 u64s S v l) (hb : ∀ x ∈ l, x < 18446744073709551616) :
  ACall Tryz.prog 44 #[v] S fun r S'=>r=pairV (recP l)∧S'=S:=by
 have hq:=recOK_spec l
 unfold recP
 obtain ⟨a,cap,rfl,hlc,hcap,hk⟩:=id hv
 by_cases c1:l.length<1
 ·rw [if_neg (by rw [hq];simp [c1])]
  refine ACall.enter (rs:=[.tmp 2,.tmp 3]) 29 [(0,.slice a l.length cap)] Tryz.func44 rfl rfl (Nat.le_of_ble_eq_true rfl) rfl ⟨rfl,trivial⟩ ?_
  iterate 19 refine s1_ ?_
  refine su_ [(0,_),(2,_),(3,_),(14,_)] ?_
  refine cT_ ?_
  iterate 8 refine s1_ ?_
  refine ⟨_,S,⟨_,_,rfl,⟨_,_,rfl,rfl,rfl⟩,rfl⟩,less_,?_⟩
  exact ⟨rfl,rfl⟩
 by_cases c2:8<l.length
 ·rw [if_neg (by rw [hq];simp [c2])]
  refine ACall.enter (rs:=[.tmp 2,.tmp 3]) 29 [(0,.slice a l.length cap)] Tryz.func44 rfl rfl (Nat.le_of_ble_eq_true rfl) rfl ⟨rfl,trivial⟩ ?_
  iterate 19 refine s1_ ?_
  refine su_ [(0,_),(2,_),(3,_),(14,_)] ?_
  refine cT_ ?_
  iterate 8 refine s1_ ?_
  refine ⟨_,S,⟨_,_,rfl,⟨_,_,rfl,rfl,rfl⟩,rfl⟩,less_,?_⟩
  exact ⟨rfl,rfl⟩
 obtain ⟨b0,off,rfl,hkn⟩:=hk.resolve_left (by intro h;rw [h] at c1;simp at c1)
 have hsome:∀ k (h:k<l.length),top≤l[k]→(if recOK l=true then (bs (recB l),(0:Int)) else (ByteArray.empty,1))=(ByteArray.empty,1):=fun k h ht=>by
  rw [if_neg];rw [hq]
  have:(l.any fun n=>decide (top≤n))=true:=List.any_eq_true.2 ⟨l[k],List.getElem_mem h,by simpa using ht⟩
  rw [this];simp
 have hall:(∀ k (h:k<l.length),l[k]<top)→(if recOK l=true then (bs (recB l),(0:Int)) else (ByteArray.empty,1))=(bs (recB l),0):=fun h=>by
  rw [if_pos];rw [hq]
  have:(l.any fun n=>decide (top≤n))=false:=List.any_eq_false.2 fun x hx=>by
   obtain ⟨k,hk,rfl⟩:=List.getElem_of_mem hx
   have:=h k hk;simp;omega
  simp only [c1,c2,decide_false,this];rfl
 refine ACall.enter (rs:=[.tmp 2,.tmp 3]) 29 [(0,.slice (some ⟨b0,off,none⟩) l.length cap)] Tryz.func44 rfl rfl (Nat.le_of_ble_eq_true rfl) rfl ⟨rfl,trivial⟩ ?_
 iterate 19 refine s1_ ?_
 refine su_ [(0,_),(2,_),(3,_),(14,_)] ?_
 refine cF_ ?_
 iterate 16 refine s1_ ?_
 refine AWP.loop (X:=Nat) (fun x=>[(4,.string (bs (recB (l.take x)))),(15,.slice (some ⟨b0,off,none⟩) l.length cap),(16,.int .i64 l.length),(17,.int .i64 x)]) (fun x=>S) (fun x=>x≤l.length ∧ ∀ k (h:k<l.length),k<x→l[k]<top) (fun x=>l.length-x) (0) ⟨rfl,rfl,rfl,rfl,trivial⟩ (Mem.Less.refl _) (⟨Nat.zero_le _,fun _ _ h=>absurd h (Nat.not_lt_zero _)⟩) ?_
 rintro k ⟨hk1,hk2⟩
 (try dsimp only at *)
 iterate 6 refine s1_ ?_
 refine AWP.condB rfl (fun hl=>?_) (fun hl=>?_)
 ·have hl:k<l.length:=by have:=of_decide_eq_true hl;omega
  have hkk:=hkn k hl
  iterate 11 refine s1_ ?_
  refine su_ [(4,_),(15,_),(16,_),(17,_),(18,_),(6,_)] ?_
  iterate 7 refine s1_ ?_
  refine su_ [(4,_),(15,_),(16,_),(17,_),(18,_),(6,_),(22,_)] ?_
  refine AWP.condB rfl (fun hc=>?_) (fun hc=>?_)
  ·iterate 13 refine s1_ ?_
   refine ⟨_,S,⟨_,_,rfl,⟨_,_,rfl,rfl,rfl⟩,rfl⟩,less_,?_⟩
   exact ⟨by rw [hsome k hl (by have:=of_decide_eq_true hc;unfold top;omega)];rfl,rfl⟩
  ·have hc:l[k]<top:=by have:=of_decide_eq_false hc;unfold top;omega
   iterate 5 refine s1_ ?_
   refine ca_ rfl (rnumV_Five l[k] S (hb _ (List.getElem_mem _))) ?_
   rintro _ S1 ⟨rfl,h1⟩
   rw [h1];clear h1 S1
   have hr:=recB_length (l.take k)
   have hr5:=five_length l[k]
   rw [List.length_take] at hr
   refine rC (Calm.bin rfl rfl (bin_str_add (by rw [bs_size,bs_size];omega))) ?_
   rw [bs_append,← recB_snoc,← List.take_succ_eq_append_getElem hl]
   iterate 4 refine s1_ ?_
   refine su_ [(4,_),(15,_),(16,_),(17,_),(18,_),(6,_),(22,_)] ?_
   iterate 5 refine s1_ ?_
   refine ⟨k+1,?_,?_,?_,?_⟩
   all_goals (try dsimp only)
   ·exact ⟨rfl,rfl,rfl,some_int (by omega),trivial⟩
   ·exact Mem.Less.refl _
   ·exact ⟨hl,fun j hj hj2=>by rcases Nat.lt_or_ge j k with h | h;exact hk2 j hj h;obtain rfl:j=k:=(by omega);exact hc⟩
   ·omega
 ·have hl:k=l.length:=by have:=of_decide_eq_false hl;omega
  subst hl
  rw [List.take_length]
  iterate 12 refine s1_ ?_
  refine su_ [(4,_),(15,_),(16,_),(17,_),(18,_),(2,_),(3,_)] ?_
  refine s1_ ?_
  refine ⟨_,S,⟨_,_,rfl,⟨_,_,rfl,rfl,rfl⟩,rfl⟩,less_,?_⟩
  exact ⟨by rw [hall (fun k h=>hk2 k h h)];rfl,rfl⟩
end Go.Proofs.YtceikpipmcadmaaGreatDoor
namespace Go.Proofs.YtceikpipmcadmaaGreatDoor
open Go.RowKit
open Mv Disk Num
set_option maxRecDepth 4000
namespace Rec
theorem rec_each (w : Nat) (S : Mem) (hw : w ≤ 8) : ACall Tryz.prog 46 #[.int .i64 (w : Int)] S fun r S' => r = .int .i64 ((eachN w : Nat) : Int) ∧ S' = S := by
 unfold eachN
 by_cases h0:w=0
 ·subst h0
  refine ACall.enter (rs:=[.tmp 2]) 7 [(0,.int .i64 ((0:Nat):Int))] Tryz.func46 rfl rfl (Nat.le_of_ble_eq_true rfl) rfl ⟨rfl,trivial⟩ ?_
  iterate 12 refine s1_ ?_
  refine su_ [(0,_),(2,_),(4,_)] ?_
  refine cT_ ?_
  iterate 7 refine s1_ ?_
  refine ⟨_,S,⟨_,_,rfl,rfl,rfl⟩,less_,?_⟩
  exact ⟨rfl,rfl⟩
 ·rw [if_neg h0]
  refine ACall.enter (rs:=[.tmp 2]) 7 [(0,.int .i64 (w:Int))] Tryz.func46 rfl rfl (Nat.le_of_ble_eq_true rfl) rfl ⟨rfl,trivial⟩ ?_
  iterate 12 refine s1_ ?_
  refine su_ [(0,_),(2,_),(4,_)] ?_
  refine cF_ ?_
  iterate 9 refine s1_ ?_
  refine su_ [(0,_),(2,_),(4,_)] ?_
  refine s1_ ?_
  refine ⟨_,S,⟨_,_,rfl,rfl,rfl⟩,less_,?_⟩
  exact ⟨by rw [show ((5*w:Nat):Int)=5*(w:Int) from by omega];rfl,rfl⟩
theorem mul_le_each {k c : Nat} (hk : k ≤ 8) (hc : c ≤ 65536) : 0 ≤ ((eachN k : Nat) : Int) * (c : Int) ∧ ((eachN k : Nat) : Int) * (c : Int) ≤ 2621440 ∧ ((eachN k : Nat) : Int) * (c : Int) = ((eachN k * c : Nat) : Int) := by
 have:=Nat.mul_le_mul (eachN_le hk) hc
 have e:((eachN k:Nat):Int)*(c:Int)=((eachN k*c:Nat):Int):=by push_cast;rfl
 rw [e];omega
def needV (p : Int × Int) : Value := .tuple #[.int .i64 p.1, .int .i64 p.2]
theorem rec_Need (w : Int) (c : Nat) (S : Mem) : ACall Tryz.prog 15 #[.int .i64 w, .int .u64 (c : Int)] S fun r S' => r = needV (needP w c) ∧ S' = S := by
 unfold needV needP
 by_cases h1:w<0
 ·rw [if_pos (.inl h1)]
  refine ACall.enter (rs:=[.tmp 4,.tmp 5]) 25 [(0,.int .i64 w),(1,.int .u64 (c:Int))] Tryz.func15 rfl rfl (Nat.le_of_ble_eq_true rfl) rfl ⟨rfl,rfl,trivial⟩ ?_
  iterate 21 refine s1_ ?_
  refine su_ [(0,_),(1,_),(4,_),(5,_),(15,_)] ?_
  refine cT_ ?_
  iterate 8 refine s1_ ?_
  refine ⟨_,S,⟨_,_,rfl,⟨_,_,rfl,rfl,rfl⟩,rfl⟩,less_,?_⟩
  exact ⟨rfl,rfl⟩
 by_cases h2:8<w
 ·rw [if_pos (.inr (.inl h2))]
  refine ACall.enter (rs:=[.tmp 4,.tmp 5]) 25 [(0,.int .i64 w),(1,.int .u64 (c:Int))] Tryz.func15 rfl rfl (Nat.le_of_ble_eq_true rfl) rfl ⟨rfl,rfl,trivial⟩ ?_
  iterate 21 refine s1_ ?_
  refine su_ [(0,_),(1,_),(4,_),(5,_),(15,_)] ?_
  refine cT_ ?_
  iterate 8 refine s1_ ?_
  refine ⟨_,S,⟨_,_,rfl,⟨_,_,rfl,rfl,rfl⟩,rfl⟩,less_,?_⟩
  exact ⟨rfl,rfl⟩
 by_cases h3:65536<c
 ·rw [if_pos (.inr (.inr h3))]
  refine ACall.enter (rs:=[.tmp 4,.tmp 5]) 25 [(0,.int .i64 w),(1,.int .u64 (c:Int))] Tryz.func15 rfl rfl (Nat.le_of_ble_eq_true rfl) rfl ⟨rfl,rfl,trivial⟩ ?_
  iterate 21 refine s1_ ?_
  refine su_ [(0,_),(1,_),(4,_),(5,_),(15,_)] ?_
  refine cT_ ?_
  iterate 8 refine s1_ ?_
  refine ⟨_,S,⟨_,_,rfl,⟨_,_,rfl,rfl,rfl⟩,rfl⟩,less_,?_⟩
  exact ⟨rfl,rfl⟩
 rw [if_neg (by omega)]
 obtain ⟨k,rfl⟩:=Int.eq_ofNat_of_zero_le (by omega:0≤w)
 obtain ⟨m1,m2,m3⟩:=mul_le_each (k:=k) (c:=c) (by omega) (by omega)
 refine ACall.enter (rs:=[.tmp 4,.tmp 5]) 25 [(0,.int .i64 (k:Int)),(1,.int .u64 (c:Int))] Tryz.func15 rfl rfl (Nat.le_of_ble_eq_true rfl) rfl ⟨rfl,rfl,trivial⟩ ?_
 iterate 21 refine s1_ ?_
 refine su_ [(0,_),(1,_),(4,_),(5,_),(15,_)] ?_
 refine cF_ ?_
 iterate 5 refine s1_ ?_
 refine ca_ rfl (rec_each k S (by omega)) ?_
 rintro _ S1 ⟨rfl,h1⟩
 rw [h1];clear h1 S1
 iterate 11 refine s1_ ?_
 refine su_ [(0,_),(1,_),(4,_),(5,_),(15,_)] ?_
 refine s1_ ?_
 refine ⟨_,S,⟨_,_,rfl,⟨_,_,rfl,rfl,rfl⟩,rfl⟩,less_,?_⟩
 exact ⟨by rw [m3,Int.toNat_natCast,show (1+(((eachN k*c:Nat):Int)+64-1) / 64)=((needN k c:Nat):Int) from by unfold needN;omega];rfl,rfl⟩
theorem rec_padded (s : ByteArray) (S : Mem) (hs : s.size ≤ 140737488355328) : ACall Tryz.prog 90 #[.string s] S fun r S' => r = .string (padS s) ∧ S' = S := by
 by_cases h0:s.size % 64=0
 ·have e:padS s=s:=by unfold padS;rw [h0];simp [bs_of]
  rw [e]
  refine ACall.enter (rs:=[.tmp 2]) 15 [(0,.string s)] Tryz.func90 rfl rfl (Nat.le_of_ble_eq_true rfl) rfl ⟨rfl,trivial⟩ ?_
  iterate 14 refine s1_ ?_
  refine su_ [(0,_),(2,_),(3,_)] ?_
  iterate 6 refine s1_ ?_
  refine su_ [(0,_),(2,_),(3,_),(8,_)] ?_
  refine cF_ ?_
  iterate 8 refine s1_ ?_
  refine su_ [(0,_),(2,_),(3,_),(8,_)] ?_
  refine s1_ ?_
  refine ⟨_,S,⟨_,_,rfl,rfl,rfl⟩,less_,?_⟩
  exact ⟨rfl,rfl⟩
 ·have e:padS s=s ++ bs (List.replicate (64-s.size % 64) 0):=by
   unfold padS
   apply str_ext
   rw [Nat.mod_eq_of_lt (by omega)]
   simp [bs]
  have hr:∀ S,ACall Tryz.prog 118 #[.string ⟨#[0]⟩,.int .i64 (64-((s.size % 64:Nat):Int))] S fun r S'=>r = .string (bs (List.replicate (64-s.size % 64) 0))∧S'=S:=fun S=>ACall.of_calls fun w=>by
   have:=Tryz.strings_Repeat ⟨#[0]⟩ (64-s.size % 64) w (by omega) (by show 1*_≤_;omega)
   rw [show (⟨#[0]⟩ : ByteArray).data.toList = [0] from rfl,repeat_zero] at this
   rw [show (64-((s.size % 64:Nat):Int))=((64-s.size % 64:Nat):Int) from by omega]
   exact this
  have hz:(bs (List.replicate (64-s.size % 64) (0:UInt8))).size=64-s.size % 64:=by rw [size_bs];simp
  rw [e]
  refine ACall.enter (rs:=[.tmp 2]) 15 [(0,.string s)] Tryz.func90 rfl rfl (Nat.le_of_ble_eq_true rfl) rfl ⟨rfl,trivial⟩ ?_
  iterate 14 refine s1_ ?_
  refine su_ [(0,_),(2,_),(3,_)] ?_
  iterate 6 refine s1_ ?_
  refine su_ [(0,_),(2,_),(3,_),(8,_)] ?_
  refine cT_ ?_
  iterate 4 refine s1_ ?_
  refine ca_ rfl (hr _) ?_
  rintro _ S1 ⟨rfl,h1⟩
  rw [h1];clear h1 S1
  iterate 4 refine s1_ ?_
  refine su_ [(0,_),(2,_),(3,_),(8,_)] ?_
  iterate 6 refine s1_ ?_
  refine su_ [(0,_),(2,_),(3,_),(8,_)] ?_
  refine s1_ ?_
  refine ⟨_,S,⟨_,_,rfl,rfl,rfl⟩,less_,?_⟩
  exact ⟨rfl,rfl⟩
theorem rec_byteOf (k : Nat) (S : Mem) (hk : k ≤ 8) : ACall Tryz.prog 140 #[.int .i64 (k : Int)] S fun r S' => ∃ b, Fresh S b ∧ r = .slice (some ⟨b, 0, none⟩) 1 1 ∧ S' = S.set b ⟨5, cellsB [UInt8.ofNat k], 1⟩ := by
 have e:nb (UInt8.ofNat k)=(k:Int):=by unfold nb;rw [UInt8.toNat_ofNat'];omega
 unfold cellsB
 simp only [List.map_cons,List.map_nil,e]
 refine ACall.enter (rs:=[.tmp 2]) 6 [(0,.int .i64 (k:Int))] Tryz.func140 rfl rfl (Nat.le_of_ble_eq_true rfl) rfl ⟨rfl,trivial⟩ ?_
 iterate 9 refine s1_ ?_
 refine ARun.build1s (lit_lt rfl) ty_sl_61 rfl rfl ?_
 intro b5 f5
 have g5:=f5
 repeat ((with_reducible replace g5:=fresh_set g5);obtain ⟨g5,_⟩:=g5)
 iterate 3 refine s1_ ?_
 refine su_ [(0,_),(2,_)] ?_
 refine s1_ ?_
 refine ⟨_,_,⟨_,_,rfl,rfl,rfl⟩,less_,?_⟩
 exact ⟨_,f5,rfl,rfl⟩
theorem rec_HeadOf (k c : Nat) (S : Mem) (hk : k ≤ 8) (hc : c < 18446744073709551616) : ACall Tryz.prog 92 #[.int .i64 (k : Int), .int .u64 (c : Int)] S fun r S' => r = .string (headS k c) ∧ S' = S := by
 have h5:(five c).length=5:=rfl
 have hp:((⟨#[87,82]⟩ : ByteArray) ++ bs [UInt8.ofNat k]) ++ bs (five c)=preS k c:=by
  unfold preS
  apply str_ext
  simp [bs]
 have hsz:(preS k c).size=8:=by unfold preS;rw [size_bs];simp [h5]
 have hfr:frameS (preS k c)=(preS k c ++ Crc.tailS (sumOf (preS k c)),0):=by unfold frameS;rw [if_neg (by omega)]
 have hfs:(preS k c ++ Crc.tailS (sumOf (preS k c))).size=12:=by rw [ByteArray.size_append,hsz,Crc.tailS_size]
 have hF:∀ S,ACall Tryz.prog 139 #[.string (((⟨#[87,82]⟩ : ByteArray) ++ bs [UInt8.ofNat k]) ++ bs (five c))] S fun r S'=>r = .tuple #[.string (preS k c ++ Crc.tailS (sumOf (preS k c))),.int .i64 0]∧S'=S:=fun S=>ACall.of_calls fun w=>by
  rw [hp]
  have:=crc_Frame (preS k c) (by rw [hsz];decide) w
  rw [hfr] at this
  exact this
 have z1:(⟨#[87,82]⟩ : ByteArray).size=2:=rfl
 have z2:(bs [UInt8.ofNat k]).size=1:=rfl
 have z3:((⟨#[87,82]⟩ : ByteArray) ++ bs [UInt8.ofNat k]).size=3:=by rw [ByteArray.size_append,z1,z2]
 have z4:(bs (five c)).size=5:=rfl
 unfold headS
 refine ACall.enter (rs:=[.tmp 4]) 23 [(0,.int .i64 (k:Int)),(1,.int .u64 (c:Int))] Tryz.func92 rfl rfl (Nat.le_of_ble_eq_true rfl) rfl ⟨rfl,rfl,trivial⟩ ?_
 iterate 8 refine s1_ ?_
 refine ca_ rfl (numV_Five c _ hc) ?_
 rintro _ S1 ⟨rfl,h1⟩
 rw [h1];clear h1 S1
 refine ARun.alloc (lit_lt rfl) ty_zero_105 ?_
 intro b5 f5
 have g5:=f5
 repeat ((with_reducible replace g5:=fresh_set g5);obtain ⟨g5,_⟩:=g5)
 refine nl_ ?_
 refine ARun.storeAll rfl rfl ty_size_105 own_ rfl rfl ?_
 try simp only [k_ms,k_sz,k_ss,k_za,Nat.reduceAdd]
 iterate 2 refine s1_ ?_
 refine su_ [(0,_),(1,_),(4,_),(5,_)] ?_
 refine s1_ ?_
 refine AWP.draw [(0,true),(4,true),(5,true),(1,false),(2,false),(3,true),(6,true),(7,false),(8,true),(9,true),(10,true),(11,true),(12,true)] [] mixed (by kernel_rfl) ?_
 iterate 2 refine s1_ ?_
 refine dC (hc:=Calm.toStr (l:=five c) ty_bytes_61 ty_str_9 rfl h5 (rds_own (r:=⟨_,cellsB (five c),_⟩) own_)) (h:=?_)
 refine draw_only rfl ?_
 refine ca_ rfl (rec_byteOf k _ hk) ?_
 rintro _ S1 ⟨b,fb,rfl,h1⟩
 rw [h1];clear h1 S1
 have gb:=(fresh_set fb).1
 refine arun_nil ⟨fun _=>less_,?_⟩
 refine draw_only rfl ?_
 refine rC (Calm.toStr (l:=[UInt8.ofNat k]) ty_bytes_61 ty_str_9 rfl rfl (rds_own (r:=⟨_,cellsB [UInt8.ofNat k],_⟩) own_)) ?_
 refine arun_nil ⟨fun _=>less_,?_⟩
 iterate 2 refine s1_ ?_
 refine draw_only rfl ?_
 refine ca_ rfl (hF _) ?_
 rintro _ S1 ⟨rfl,h1⟩
 rw [h1];clear h1 S1
 refine arun_nil ⟨fun _=>less_,?_⟩
 iterate 7 refine s1_ ?_
 refine su_ [(0,_),(1,_),(4,_),(5,_),(6,_)] ?_
 iterate 3 refine s1_ ?_
 refine ca_ rfl (rec_padded _ _ (by rw [hfs];decide)) ?_
 rintro _ S1 ⟨rfl,h1⟩
 rw [h1];clear h1 S1
 iterate 3 refine s1_ ?_
 refine su_ [(0,_),(1,_),(4,_),(5,_),(6,_)] ?_
 refine s1_ ?_
 refine ⟨_,S,⟨_,_,rfl,rfl,rfl⟩,less_,?_⟩
 exact ⟨rfl,rfl⟩
end Rec
end Go.Proofs.YtceikpipmcadmaaGreatDoor
namespace Go.Proofs.YtceikpipmcadmaaGreatDoor
open Go.RowKit
open Mv Disk Num
set_option maxRecDepth 4000
namespace Rec
/-- What a disk at work is in memory. -/
theorem dev_shape {S : Mem} {p : Nat} {e : D} {oE oW : Option (Nat × Nat)} (hok : OkV S p e oE oW) (h : e.ext.length ≤ 9223372036854775807 ∧ e.waits.length ≤ 9223372036854775807) :
  ∃ qe de qw dw,(devM S p e oE oW).own p=some ⟨102,[.int .i64 e.size,.slice qe e.ext.length de,.slice qw e.waits.length dw,.int .i64 e.fuse,.bool e.down],5⟩ ∧
   DkR (devM S p e oE oW) (.agg #[.int .i64 e.size,.slice qe e.ext.length de,.slice qw e.waits.length dw,.int .i64 e.fuse,.bool e.down]) e∧S.Less (devM S p e oE oW):=by
 have hdk:=(hok.dk.dk h.1 h.2).less (Mem.less_set _ p (devB e oE oW) hok.fr.1)
 have hl:=hok.dk.less.trans (Mem.less_set _ p (devB e oE oW) hok.fr.1)
 have hp:(devM S p e oE oW).own p=some (devB e oE oW):=Mem.own_set_same _ _ _
 unfold dkV at hdk
 unfold devB at hp hdk hl
 obtain ⟨qe,de,hqe⟩:=outV_eq hok.dk.e
 obtain ⟨qw,dw,hqw⟩:=outV_eq hok.dk.w
 rw [hqe,hqw] at hp hdk hl
 refine ⟨qe,de,qw,dw,hp,?_,?_⟩
 ·unfold devM;rw [hqe,hqw];exact hdk
 ·unfold devM;rw [hqe,hqw];exact hl
abbrev bx (d : D) (pe : Option Addr) (ce : Nat) (pw : Option Addr) (cw : Nat) : Blk := ⟨25, [.int .i64 d.size, .slice pe d.ext.length ce, .slice pw d.waits.length cw, .int .i64 d.fuse, .bool d.down], 5⟩
abbrev zb : Blk := ⟨25, [.int .i64 0, .slice none 0 0, .slice none 0 0, .int .i64 0, .bool false], 5⟩
theorem open_lens (d : D) : (openD d).1.ext.length ≤ 9223372036854775807 ∧ (openD d).1.waits.length ≤ 9223372036854775807 := by
 rcases openD_or d with ⟨ho,hR⟩ | ⟨ho,hR,hdn⟩ | ⟨ho,hR,hdn⟩ <;> rw [ho]
 ·exact ⟨by decide,by decide⟩
 ·exact right_lens hR
 ·exact right_lens hR
theorem rec_refused (v : Value) (d : D) (S : Mem) (hd : DkR S v d) (hz : Dz d) : ACall Tryz.prog 38 #[v] S (DkRes (refD d) S) := by
 have hopen:=disk_Open v d S hd hz
 have hlens:=open_lens d
 obtain ⟨pe,ce,pw,cw,rfl,hE,hW⟩:=id hd
 unfold refD
 refine ACall.enter (rs:=[.cell 2 25,.tmp 3]) 15 [(0,.agg #[.int .i64 d.size,.slice pe d.ext.length ce,.slice pw d.waits.length cw,.int .i64 d.fuse,.bool d.down])] Tryz.func38 rfl rfl (Nat.le_of_ble_eq_true rfl) rfl ⟨rfl,trivial⟩ ?_
 iterate 2 refine s1_ ?_
 refine k_b5 rfl ?_
 intro b1 f1
 have g1:=f1
 repeat ((with_reducible replace g1:=fresh_set g1);obtain ⟨g1,_⟩:=g1)
 refine nl_ ?_
 refine ARun.alloc (lit_lt rfl) ty_zero_25 ?_
 intro b2 f2
 have g2:=f2
 repeat ((with_reducible replace g2:=fresh_set g2);obtain ⟨g2,_⟩:=g2)
 refine nl_ ?_
 iterate 6 refine s1_ ?_
 refine ca_ rfl ((hopen.frame f1).frame f2) ?_
 rintro _ S1 ⟨Sa,⟨M,⟨p,oE,oW,hok,rfl,hM⟩,fa,hSa⟩,fb,h1⟩
 rw [h1,hSa];rw [hSa] at fb;clear h1 S1 hSa Sa
 obtain ⟨qe,de,qw,dw,hp,hdk,hl⟩:=dev_shape hok hlens
 rw [← hM] at hp hdk hl
 obtain ⟨gb,_⟩:=fresh_set fb
 have:=fa.ne hp;have:=fa.ne' hp;have:=gb.ne hp;have:=gb.ne' hp
 iterate 7 refine s1_ ?_
 refine su_ [(0,_),(1,_),(2,_),(3,_),(4,_)] ?_
 iterate 10 refine s1_ ?_
 refine su_ [(0,_),(1,_),(2,_),(3,_),(4,_)] ?_
 refine s1_ ?_
 refine ⟨_,M,⟨_,_,_,rfl,.inr ⟨ty_agg_25,[_,_,_,_,_],ty_size_25,rds_,rfl⟩,⟨_,_,rfl,rfl,rfl⟩,rfl⟩,less_,?_⟩
 exact ⟨_,rfl,hl,hdk⟩
theorem rest_sec (x : ByteArray) (j : Nat) (h : 64 * j + 64 ≤ x.size) : (x.extract (64 * j) x.size).extract 0 64 = secAt x j := by
 unfold secAt
 rw [ByteArray.extract_extract]
 congr 1;omega
theorem rest_next (x : ByteArray) (j : Nat) (h : 64 * j + 64 ≤ x.size) : (x.extract (64 * j) x.size).extract 64 (x.extract (64 * j) x.size).size = x.extract (64 * (j + 1)) x.size := by
 rw [ByteArray.extract_extract,ByteArray.size_extract]
 congr 1 <;> omega
theorem putTo_lens {d : D} (hR : Right d) (hdn : d.down = false) (hf : d.fuse ≤ 9223372036854775807) (s all : ByteArray) (k : Nat) : (putTo d s all k).1.ext.length ≤ 9223372036854775807 ∧ (putTo d s all k).1.waits.length ≤ 9223372036854775807 :=
 right_lens (putTo_keep hR hdn hf s all k).1
set_option maxHeartbeats 4000000 in
theorem rec_put (v : Value) (d : D) (s : ByteArray) (k c : Nat) (body : ByteArray) (S : Mem) (hd : DkR S v d) (hz : Dz d) (hk : k ≤ 8) (hc : c ≤ 65536) (hb : body.size = eachN k * c) :
  ACall Tryz.prog 41 #[v,.string s,.int .i64 (k:Int),.int .i64 (c:Int),.string body] S (DkRes (opened d (putP d s k c body)) S):=by
 have hopen:=disk_Open v d S hd hz
 have hlens:=open_lens d
 have hneed:needP (k:Int) c=(((needN k c:Nat):Int),0):=by unfold needP;rw [if_neg (by omega),Int.toNat_natCast]
 have hN:=rec_Need (k:Int) c
 have hHd:=fun S=>rec_HeadOf k c S hk (by omega)
 rw [hneed] at hN
 have hn1:=needN_pos k c
 have hn2:=needN_le hk hc
 have hall:(padS body).size=64*(needN k c-1):=by rw [padS_size,hb];unfold needN;omega
 have hbz:body.size≤140737488355328:=by have:=(mul_le_each hk hc).2;rw [hb];omega
 have hpad:=fun S=>rec_padded body S hbz
 unfold putP
 generalize needN k c=n at *
 generalize padS body=all at *
 generalize headS k c=hs at *
 obtain ⟨pe,ce,pw,cw,rfl,hE,hW⟩:=id hd
 unfold opened
 rcases openD_or d with ⟨ho,hR⟩ | ⟨ho,hR,hdn⟩ | ⟨ho,hR,hdn⟩ <;> rw [ho] at hopen ⊢ hlens
 ·rw [if_neg (show ¬ (2:Int)=0 from by decide)]
  refine ACall.enter (rs:=[.cell 10 25,.tmp 11]) 81 [(0,.agg #[.int .i64 d.size,.slice pe d.ext.length ce,.slice pw d.waits.length cw,.int .i64 d.fuse,.bool d.down]),(1,.string s),(2,.int .i64 (k:Int)),(3,.int .i64 (c:Int)),(4,.string body)] Tryz.func41 rfl rfl (Nat.le_of_ble_eq_true rfl) rfl ⟨rfl,rfl,rfl,rfl,rfl,trivial⟩ ?_
  iterate 2 refine s1_ ?_
  refine k_b5 rfl ?_
  intro b5 f5
  have g5:=f5
  repeat ((with_reducible replace g5:=fresh_set g5);obtain ⟨g5,_⟩:=g5)
  refine nl_ ?_
  refine ARun.alloc (lit_lt rfl) ty_zero_25 ?_
  intro b10 f10
  have g10:=f10
  repeat ((with_reducible replace g10:=fresh_set g10);obtain ⟨g10,_⟩:=g10)
  refine nl_ ?_
  iterate 6 refine s1_ ?_
  refine ca_ rfl ((hopen.frame f5).frame f10) ?_
  rintro _ S1 ⟨Sa,⟨M,⟨p,oE,oW,hok,rfl,hM⟩,fa,hSa⟩,fb,h1⟩
  rw [h1,hSa];rw [hSa] at fb;clear h1 S1 hSa Sa
  iterate 7 refine s1_ ?_
  refine su_ [(0,_),(1,_),(2,_),(3,_),(4,_),(5,_),(10,_),(11,_),(12,_),(13,_)] ?_
  iterate 7 refine s1_ ?_
  refine su_ [(0,_),(1,_),(2,_),(3,_),(4,_),(5,_),(10,_),(11,_),(12,_),(13,_),(23,_)] ?_
  refine cT_ ?_
  obtain ⟨qe,de,qw,dw,hp,hdk,hl⟩:=dev_shape hok hlens
  rw [← hM] at hp hdk hl
  obtain ⟨gb,_⟩:=fresh_set fb
  have:=fa.ne hp;have:=fa.ne' hp;have:=gb.ne hp;have:=gb.ne' hp
  iterate 11 refine s1_ ?_
  refine su_ [(0,_),(1,_),(2,_),(3,_),(4,_),(5,_),(10,_),(11,_),(12,_),(13,_),(23,_)] ?_
  iterate 2 refine s1_ ?_
  refine ⟨_,M,⟨_,_,_,rfl,.inr ⟨ty_agg_25,[_,_,_,_,_],ty_size_25,rds_,rfl⟩,⟨_,_,rfl,rfl,rfl⟩,rfl⟩,less_,?_⟩
  exact ⟨_,rfl,hl,hdk⟩
 ·rw [if_neg (show ¬ (10:Int)=0 from by decide)]
  refine ACall.enter (rs:=[.cell 10 25,.tmp 11]) 81 [(0,.agg #[.int .i64 d.size,.slice pe d.ext.length ce,.slice pw d.waits.length cw,.int .i64 d.fuse,.bool d.down]),(1,.string s),(2,.int .i64 (k:Int)),(3,.int .i64 (c:Int)),(4,.string body)] Tryz.func41 rfl rfl (Nat.le_of_ble_eq_true rfl) rfl ⟨rfl,rfl,rfl,rfl,rfl,trivial⟩ ?_
  iterate 2 refine s1_ ?_
  refine k_b5 rfl ?_
  intro b5 f5
  have g5:=f5
  repeat ((with_reducible replace g5:=fresh_set g5);obtain ⟨g5,_⟩:=g5)
  refine nl_ ?_
  refine ARun.alloc (lit_lt rfl) ty_zero_25 ?_
  intro b10 f10
  have g10:=f10
  repeat ((with_reducible replace g10:=fresh_set g10);obtain ⟨g10,_⟩:=g10)
  refine nl_ ?_
  iterate 6 refine s1_ ?_
  refine ca_ rfl ((hopen.frame f5).frame f10) ?_
  rintro _ S1 ⟨Sa,⟨M,⟨p,oE,oW,hok,rfl,hM⟩,fa,hSa⟩,fb,h1⟩
  rw [h1,hSa];rw [hSa] at fb;clear h1 S1 hSa Sa
  iterate 7 refine s1_ ?_
  refine su_ [(0,_),(1,_),(2,_),(3,_),(4,_),(5,_),(10,_),(11,_),(12,_),(13,_)] ?_
  iterate 7 refine s1_ ?_
  refine su_ [(0,_),(1,_),(2,_),(3,_),(4,_),(5,_),(10,_),(11,_),(12,_),(13,_),(23,_)] ?_
  refine cT_ ?_
  obtain ⟨qe,de,qw,dw,hp,hdk,hl⟩:=dev_shape hok hlens
  rw [← hM] at hp hdk hl
  obtain ⟨gb,_⟩:=fresh_set fb
  have:=fa.ne hp;have:=fa.ne' hp;have:=gb.ne hp;have:=gb.ne' hp
  iterate 11 refine s1_ ?_
  refine su_ [(0,_),(1,_),(2,_),(3,_),(4,_),(5,_),(10,_),(11,_),(12,_),(13,_),(23,_)] ?_
  iterate 2 refine s1_ ?_
  refine ⟨_,M,⟨_,_,_,rfl,.inr ⟨ty_agg_25,[_,_,_,_,_],ty_size_25,rds_,rfl⟩,⟨_,_,rfl,rfl,rfl⟩,rfl⟩,less_,?_⟩
  exact ⟨_,rfl,hl,hdk⟩
 rw [if_pos rfl]
 by_cases hnew:(newD d s (n:Int)).2=0
 ·rw [if_neg (by omega)]
  obtain ⟨hR1,hd1,hf1,_⟩:=(new_law (s:=s) (n:=(n:Int)) hR hdn).2 hnew
  have hf1:(newD d s (n:Int)).1.fuse≤9223372036854775807:=by rw [hf1];exact hz.f1
  have hkeep:=putTo_keep hR1 hd1 hf1 s all
  have hplens:=putTo_lens hR1 hd1 hf1 s all
  have hst:=fun j=>putTo_stuck (d:=(newD d s (n:Int)).1) (s:=s) (all:=all) (k:=j)
  have hp0:putTo (newD d s (n:Int)).1 s all 0=((newD d s (n:Int)).1,0):=rfl
  have hps:∀ j,(putTo (newD d s (n:Int)).1 s all j).2=0→putTo (newD d s (n:Int)).1 s all (j+1)=writeD (putTo (newD d s (n:Int)).1 s all j).1 s ((j+1:Nat):Int) (secAt all j):=fun j h=>by rw [putTo,if_pos h]
  have hN9:=newD_lens hR s (n:Int)
  have hnw:=fun (p:Nat) (oE oW) (hok:OkV S p d oE oW)=>dev_New p d s (n:Int) S oE oW hok hR
  rw [show newD d s (n:Int)=((newD d s (n:Int)).1,0) from Prod.ext rfl hnew] at hnw
  generalize (newD d s (n:Int)).1=e1 at *
  generalize hP:putTo e1 s all=P at *
  refine ACall.enter (rs:=[.cell 10 25,.tmp 11]) 81 [(0,.agg #[.int .i64 d.size,.slice pe d.ext.length ce,.slice pw d.waits.length cw,.int .i64 d.fuse,.bool d.down]),(1,.string s),(2,.int .i64 (k:Int)),(3,.int .i64 (c:Int)),(4,.string body)] Tryz.func41 rfl rfl (Nat.le_of_ble_eq_true rfl) rfl ⟨rfl,rfl,rfl,rfl,rfl,trivial⟩ ?_
  iterate 2 refine s1_ ?_
  refine k_b5 rfl ?_
  intro b5 f5
  have g5:=f5
  repeat ((with_reducible replace g5:=fresh_set g5);obtain ⟨g5,_⟩:=g5)
  refine nl_ ?_
  refine ARun.alloc (lit_lt rfl) ty_zero_25 ?_
  intro b10 f10
  have g10:=f10
  repeat ((with_reducible replace g10:=fresh_set g10);obtain ⟨g10,_⟩:=g10)
  refine nl_ ?_
  iterate 6 refine s1_ ?_
  refine ca_ rfl ((hopen.frame f5).frame f10) ?_
  rintro _ S1 ⟨Sa,⟨M,⟨p,oE,oW,hok,rfl,hM⟩,fa,hSa⟩,fb,h1⟩
  rw [h1,hSa];rw [hSa] at fb;clear h1 S1 hSa Sa
  iterate 7 refine s1_ ?_
  refine su_ [(0,_),(1,_),(2,_),(3,_),(4,_),(5,_),(10,_),(11,_),(12,_),(13,_)] ?_
  iterate 7 refine s1_ ?_
  refine su_ [(0,_),(1,_),(2,_),(3,_),(4,_),(5,_),(10,_),(11,_),(12,_),(13,_),(23,_)] ?_
  refine cF_ ?_
  iterate 7 refine s1_ ?_
  refine ca_ rfl (hN _) ?_
  rintro _ S1 ⟨rfl,h1⟩
  rw [h1];clear h1 S1
  iterate 7 refine s1_ ?_
  refine su_ [(0,_),(1,_),(2,_),(3,_),(4,_),(5,_),(10,_),(11,_),(12,_),(13,_),(23,_),(14,_)] ?_
  iterate 7 refine s1_ ?_
  refine su_ [(0,_),(1,_),(2,_),(3,_),(4,_),(5,_),(10,_),(11,_),(12,_),(13,_),(23,_),(14,_),(37,_)] ?_
  refine cT_ ?_
  rw [hM] at fa fb ⊢
  iterate 4 refine s1_ ?_
  refine ca_ rfl (((hnw p oE oW hok).frame fa).frame fb) ?_
  rintro _ S1 ⟨Sa,⟨M3,⟨oE3,oW3,hok3,rfl,hM3⟩,fa3,hSa⟩,fb3,h1⟩
  rw [h1,hSa];rw [hSa] at fb3;clear h1 S1 hSa Sa;rw [hM3] at fa3 fb3 ⊢
  iterate 3 refine s1_ ?_
  refine su_ [(0,_),(1,_),(2,_),(3,_),(4,_),(5,_),(10,_),(11,_),(12,_),(13,_),(23,_),(14,_),(37,_)] ?_
  iterate 4 refine s1_ ?_
  refine ca_ rfl (hpad _) ?_
  rintro _ S1 ⟨rfl,h1⟩
  rw [h1];clear h1 S1
  iterate 4 refine s1_ ?_
  refine su_ [(0,_),(1,_),(2,_),(3,_),(4,_),(5,_),(10,_),(11,_),(12,_),(13,_),(23,_),(14,_),(37,_),(15,_),(16,_)] ?_
  refine s1_ ?_
  refine AWP.loop (X:=Nat × Option (Nat × Nat) × Option (Nat × Nat)) (fun x=>[(1,.string s),(2,.int .i64 (k:Int)),(3,.int .i64 (c:Int)),(10,.pointer (some ⟨b10,0,none⟩)),(12,.pointer (some ⟨p,0,none⟩)),(13,.int .i64 (P x.1).2),(14,.int .i64 ((n:Nat):Int)),(15,.int .i64 ((x.1+1:Nat):Int)),(16,.string (all.extract (64*x.1) all.size))]) (fun x=>((devM S p (P x.1).1 x.2.1 x.2.2).set b5 (bx d pe ce pw cw)).set b10 zb) (fun x=>x.1+1≤n∧OkV S p (P x.1).1 x.2.1 x.2.2∧Fresh (devM S p (P x.1).1 x.2.1 x.2.2) b5∧Fresh ((devM S p (P x.1).1 x.2.1 x.2.2).set b5 (bx d pe ce pw cw)) b10) (fun x=>n-x.1) ((0,oE3,oW3)) ⟨rfl,rfl,rfl,rfl,rfl,by rw [hp0];rfl,rfl,rfl,by rw [show all.extract (64*0) all.size=all from by rw [Nat.mul_zero];simp];rfl,trivial⟩ (by rw [hp0];exact Mem.Less.refl _) (⟨by show 0+1≤n;omega,by rw [hp0];exact hok3,by rw [hp0];exact fa3,by rw [hp0];exact fb3⟩) ?_
  rintro ⟨j,oE,oW⟩ ⟨hj,hok,fa,fb⟩
  (try dsimp only at *)
  clear fa3 fb3 hok3 hM3 M3
  by_cases hi:j+1<n
  ·by_cases hc0:(P j).2=0
   ·rw [hc0]
    iterate 12 refine s1_ ?_
    refine su_ [(1,_),(2,_),(3,_),(10,_),(12,_),(13,_),(14,_),(15,_),(16,_),(50,_)] ?_
    refine cT_ ?_
    have hsz:(all.extract (64*j) all.size).size=all.size-64*j:=by rw [ByteArray.size_extract];omega
    have hw1:=dev_Write p (P j).1 s ((j+1:Nat):Int) (secAt all j) S oE oW hok (hkeep j).1 (hkeep j).2.1
    rw [← hps j hc0,← rest_sec all j (by omega)] at hw1
    iterate 10 refine s1_ ?_
    refine ca_ rfl ((hw1.frame fa).frame fb) ?_
    rintro _ S1 ⟨Sa,⟨M3,⟨oE3,oW3,hok3,rfl,hM3⟩,fa3,hSa⟩,fb3,h1⟩
    rw [h1,hSa];rw [hSa] at fb3;clear h1 S1 hSa Sa;rw [hM3] at fa3 fb3 ⊢
    iterate 4 refine s1_ ?_
    refine su_ [(1,_),(2,_),(3,_),(10,_),(12,_),(13,_),(14,_),(15,_),(16,_),(50,_)] ?_
    refine AWP.draw [(0,true),(1,true),(2,true),(3,true),(4,true),(5,true)] [] mixed (by kernel_rfl) ?_
    iterate 8 refine s1_ ?_
    refine ⟨(j+1,oE3,oW3),?_,?_,?_,?_⟩
    all_goals (try dsimp only)
    ·exact ⟨rfl,rfl,rfl,rfl,rfl,rfl,rfl,some_int (by omega),by rw [← rest_next all j (by omega)];rfl,trivial⟩
    ·exact Mem.Less.refl _
    ·exact ⟨by omega,hok3,fa3,fb3⟩
    ·omega
   ·iterate 12 refine s1_ ?_
    refine su_ [(1,_),(2,_),(3,_),(10,_),(12,_),(13,_),(14,_),(15,_),(16,_),(50,_)] ?_
    refine cF_ ?_
    iterate 12 refine s1_ ?_
    refine su_ [(1,_),(2,_),(3,_),(10,_),(12,_),(13,_),(14,_),(15,_),(16,_),(50,_),(62,_)] ?_
    refine cF_ ?_
    iterate 9 refine s1_ ?_
    refine su_ [(1,_),(2,_),(3,_),(10,_),(12,_),(13,_),(14,_),(15,_),(16,_),(50,_),(62,_),(73,_)] ?_
    refine cF_ ?_
    obtain ⟨qe,de,qw,dw,hp,hdk,hl⟩:=dev_shape hok (hplens j)
    obtain ⟨gb,_⟩:=fresh_set fb
    have:=fa.ne hp;have:=fa.ne' hp;have:=gb.ne hp;have:=gb.ne' hp
    have hfin:=hst j hc0 (n-1) (by omega)
    rw [hfin,if_pos hc0]
    generalize devM S p (P j).1 oE oW=M at *
    iterate 13 refine s1_ ?_
    refine su_ [(1,_),(2,_),(3,_),(10,_),(12,_),(13,_),(14,_),(15,_),(16,_),(50,_),(62,_),(73,_),(11,_)] ?_
    refine s1_ ?_
    refine ⟨_,M,⟨_,_,_,rfl,.inr ⟨ty_agg_25,[_,_,_,_,_],ty_size_25,rds_,rfl⟩,⟨_,_,rfl,rfl,rfl⟩,rfl⟩,less_,?_⟩
    exact ⟨_,rfl,hl,hdk⟩
  ·obtain rfl:j=n-1:=by omega
   by_cases hc0:(P (n-1)).2=0
   ·rw [hc0]
    iterate 12 refine s1_ ?_
    refine su_ [(1,_),(2,_),(3,_),(10,_),(12,_),(13,_),(14,_),(15,_),(16,_),(50,_)] ?_
    refine cF_ ?_
    iterate 12 refine s1_ ?_
    refine su_ [(1,_),(2,_),(3,_),(10,_),(12,_),(13,_),(14,_),(15,_),(16,_),(50,_),(62,_)] ?_
    refine cT_ ?_
    have hsy:=dev_Sync p (P (n-1)).1 S oE oW hok (hkeep (n-1)).1
    iterate 3 refine s1_ ?_
    refine ca_ rfl ((hsy.frame fa).frame fb) ?_
    rintro _ S1 ⟨Sa,⟨M3,⟨oE3,oW3,hok3,rfl,hM3⟩,fa3,hSa⟩,fb3,h1⟩
    rw [h1,hSa];rw [hSa] at fb3;clear h1 S1 hSa Sa;rw [hM3] at fa3 fb3 ⊢
    have hR3:=right_settle (hkeep (n-1)).1 (fun _=>true)
    have hw1:=dev_Write p (settleD (P (n-1)).1 fun _=>true) s 0 hs S oE3 oW3 hok3 hR3 (hkeep (n-1)).2.1
    have hd3:(settleD (P (n-1)).1 fun _=>true).down=false:=(hkeep (n-1)).2.2 hc0
    have hf3:(settleD (P (n-1)).1 fun _=>true).fuse≤9223372036854775807:=(hkeep (n-1)).2.1
    have hlw:=writeD_lens hR3 s 0 hs
    rw [if_neg (by omega)]
    unfold sealD
    generalize settleD (P (n-1)).1 (fun _=>true)=e3 at *
    iterate 2 refine s1_ ?_
    refine su_ [(1,_),(2,_),(3,_),(10,_),(12,_),(13,_),(14,_),(15,_),(16,_),(50,_),(62,_)] ?_
    iterate 6 refine s1_ ?_
    refine ca_ rfl (hHd _) ?_
    rintro _ S1 ⟨rfl,h1⟩
    rw [h1];clear h1 S1
    refine ca_ rfl ((hw1.frame fa3).frame fb3) ?_
    rintro _ S1 ⟨Sa,⟨M4,⟨oE4,oW4,hok4,rfl,hM4⟩,fa4,hSa⟩,fb4,h1⟩
    rw [h1,hSa];rw [hSa] at fb4;clear h1 S1 hSa Sa;rw [hM4] at fa4 fb4 ⊢
    iterate 3 refine s1_ ?_
    refine su_ [(1,_),(2,_),(3,_),(10,_),(12,_),(13,_),(14,_),(15,_),(16,_),(50,_),(62,_)] ?_
    by_cases hc1:(writeD e3 s 0 hs).2=0
    ·rw [if_pos hc1]
     iterate 7 refine s1_ ?_
     refine su_ [(1,_),(2,_),(3,_),(10,_),(12,_),(13,_),(14,_),(15,_),(16,_),(50,_),(62,_),(73,_)] ?_
     refine cT_ ?_
     have hRw:=(write_keep hR3 hd3 hf3 s hs 0).1
     have hsy2:=dev_Sync p (writeD e3 s 0 hs).1 S oE4 oW4 hok4 hRw
     iterate 2 refine s1_ ?_
     refine ca_ rfl ((hsy2.frame fa4).frame fb4) ?_
     rintro _ S1 ⟨Sa,⟨M5,⟨oE5,oW5,hok5,rfl,hM5⟩,fa5,hSa⟩,fb5,h1⟩
     rw [h1,hSa];rw [hSa] at fb5;clear h1 S1 hSa Sa;rw [hM5] at fa5 fb5 ⊢
     obtain ⟨qe,de,qw,dw,hp,hdk,hl⟩:=dev_shape hok5 (settle_lens hRw _)
     obtain ⟨gb,_⟩:=fresh_set fb5
     have:=fa5.ne hp;have:=fa5.ne' hp;have:=gb.ne hp;have:=gb.ne' hp
     rw [hc1]
     generalize devM S p (settleD (writeD e3 s 0 hs).1 fun _=>true) oE5 oW5=M at *
     iterate 2 refine s1_ ?_
     refine su_ [(1,_),(2,_),(3,_),(10,_),(12,_),(13,_),(14,_),(15,_),(16,_),(50,_),(62,_),(73,_)] ?_
     iterate 11 refine s1_ ?_
     refine su_ [(1,_),(2,_),(3,_),(10,_),(12,_),(13,_),(14,_),(15,_),(16,_),(50,_),(62,_),(73,_),(11,_)] ?_
     refine s1_ ?_
     refine ⟨_,M,⟨_,_,_,rfl,.inr ⟨ty_agg_25,[_,_,_,_,_],ty_size_25,rds_,rfl⟩,⟨_,_,rfl,rfl,rfl⟩,rfl⟩,less_,?_⟩
     exact ⟨_,rfl,hl,hdk⟩
    ·rw [if_neg hc1]
     iterate 7 refine s1_ ?_
     refine su_ [(1,_),(2,_),(3,_),(10,_),(12,_),(13,_),(14,_),(15,_),(16,_),(50,_),(62,_),(73,_)] ?_
     refine cF_ ?_
     obtain ⟨qe,de,qw,dw,hp,hdk,hl⟩:=dev_shape hok4 hlw
     obtain ⟨gb,_⟩:=fresh_set fb4
     have:=fa4.ne hp;have:=fa4.ne' hp;have:=gb.ne hp;have:=gb.ne' hp
     generalize devM S p (writeD e3 s 0 hs).1 oE4 oW4=M at *
     iterate 13 refine s1_ ?_
     refine su_ [(1,_),(2,_),(3,_),(10,_),(12,_),(13,_),(14,_),(15,_),(16,_),(50,_),(62,_),(73,_),(11,_)] ?_
     refine s1_ ?_
     refine ⟨_,M,⟨_,_,_,rfl,.inr ⟨ty_agg_25,[_,_,_,_,_],ty_size_25,rds_,rfl⟩,⟨_,_,rfl,rfl,rfl⟩,rfl⟩,less_,?_⟩
     exact ⟨_,rfl,hl,hdk⟩
   ·iterate 12 refine s1_ ?_
    refine su_ [(1,_),(2,_),(3,_),(10,_),(12,_),(13,_),(14,_),(15,_),(16,_),(50,_)] ?_
    refine cF_ ?_
    iterate 12 refine s1_ ?_
    refine su_ [(1,_),(2,_),(3,_),(10,_),(12,_),(13,_),(14,_),(15,_),(16,_),(50,_),(62,_)] ?_
    refine cF_ ?_
    iterate 9 refine s1_ ?_
    refine su_ [(1,_),(2,_),(3,_),(10,_),(12,_),(13,_),(14,_),(15,_),(16,_),(50,_),(62,_),(73,_)] ?_
    refine cF_ ?_
    obtain ⟨qe,de,qw,dw,hp,hdk,hl⟩:=dev_shape hok (hplens (n-1))
    obtain ⟨gb,_⟩:=fresh_set fb
    have:=fa.ne hp;have:=fa.ne' hp;have:=gb.ne hp;have:=gb.ne' hp
    rw [if_pos hc0]
    generalize devM S p (P (n-1)).1 oE oW=M at *
    iterate 13 refine s1_ ?_
    refine su_ [(1,_),(2,_),(3,_),(10,_),(12,_),(13,_),(14,_),(15,_),(16,_),(50,_),(62,_),(73,_),(11,_)] ?_
    refine s1_ ?_
    refine ⟨_,M,⟨_,_,_,rfl,.inr ⟨ty_agg_25,[_,_,_,_,_],ty_size_25,rds_,rfl⟩,⟨_,_,rfl,rfl,rfl⟩,rfl⟩,less_,?_⟩
    exact ⟨_,rfl,hl,hdk⟩
 ·rw [if_pos hnew]
  have hN9:=newD_lens hR s (n:Int)
  have hnw:=fun (p:Nat) (oE oW) (hok:OkV S p d oE oW)=>dev_New p d s (n:Int) S oE oW hok hR
  generalize newD d s (n:Int)=q1 at *
  refine ACall.enter (rs:=[.cell 10 25,.tmp 11]) 81 [(0,.agg #[.int .i64 d.size,.slice pe d.ext.length ce,.slice pw d.waits.length cw,.int .i64 d.fuse,.bool d.down]),(1,.string s),(2,.int .i64 (k:Int)),(3,.int .i64 (c:Int)),(4,.string body)] Tryz.func41 rfl rfl (Nat.le_of_ble_eq_true rfl) rfl ⟨rfl,rfl,rfl,rfl,rfl,trivial⟩ ?_
  iterate 2 refine s1_ ?_
  refine k_b5 rfl ?_
  intro b5 f5
  have g5:=f5
  repeat ((with_reducible replace g5:=fresh_set g5);obtain ⟨g5,_⟩:=g5)
  refine nl_ ?_
  refine ARun.alloc (lit_lt rfl) ty_zero_25 ?_
  intro b10 f10
  have g10:=f10
  repeat ((with_reducible replace g10:=fresh_set g10);obtain ⟨g10,_⟩:=g10)
  refine nl_ ?_
  iterate 6 refine s1_ ?_
  refine ca_ rfl ((hopen.frame f5).frame f10) ?_
  rintro _ S1 ⟨Sa,⟨M,⟨p,oE,oW,hok,rfl,hM⟩,fa,hSa⟩,fb,h1⟩
  rw [h1,hSa];rw [hSa] at fb;clear h1 S1 hSa Sa
  iterate 7 refine s1_ ?_
  refine su_ [(0,_),(1,_),(2,_),(3,_),(4,_),(5,_),(10,_),(11,_),(12,_),(13,_)] ?_
  iterate 7 refine s1_ ?_
  refine su_ [(0,_),(1,_),(2,_),(3,_),(4,_),(5,_),(10,_),(11,_),(12,_),(13,_),(23,_)] ?_
  refine cF_ ?_
  iterate 7 refine s1_ ?_
  refine ca_ rfl (hN _) ?_
  rintro _ S1 ⟨rfl,h1⟩
  rw [h1];clear h1 S1
  iterate 7 refine s1_ ?_
  refine su_ [(0,_),(1,_),(2,_),(3,_),(4,_),(5,_),(10,_),(11,_),(12,_),(13,_),(23,_),(14,_)] ?_
  iterate 7 refine s1_ ?_
  refine su_ [(0,_),(1,_),(2,_),(3,_),(4,_),(5,_),(10,_),(11,_),(12,_),(13,_),(23,_),(14,_),(37,_)] ?_
  refine cT_ ?_
  rw [hM] at fa fb ⊢
  iterate 4 refine s1_ ?_
  refine ca_ rfl (((hnw p oE oW hok).frame fa).frame fb) ?_
  rintro _ S1 ⟨Sa,⟨M3,⟨oE3,oW3,hok3,rfl,hM3⟩,fa3,hSa⟩,fb3,h1⟩
  rw [h1,hSa];rw [hSa] at fb3;clear h1 S1 hSa Sa;rw [hM3] at fa3 fb3 ⊢
  iterate 3 refine s1_ ?_
  refine su_ [(0,_),(1,_),(2,_),(3,_),(4,_),(5,_),(10,_),(11,_),(12,_),(13,_),(23,_),(14,_),(37,_)] ?_
  iterate 4 refine s1_ ?_
  refine ca_ rfl (hpad _) ?_
  rintro _ S1 ⟨rfl,h1⟩
  rw [h1];clear h1 S1
  obtain ⟨qe,de,qw,dw,hp,hdk,hl⟩:=dev_shape hok3 hN9
  obtain ⟨gb,_⟩:=fresh_set fb3
  have:=fa3.ne hp;have:=fa3.ne' hp;have:=gb.ne hp;have:=gb.ne' hp
  generalize devM S p q1.1 oE3 oW3=M3 at *
  iterate 4 refine s1_ ?_
  refine su_ [(0,_),(1,_),(2,_),(3,_),(4,_),(5,_),(10,_),(11,_),(12,_),(13,_),(23,_),(14,_),(37,_),(15,_),(16,_)] ?_
  refine s1_ ?_
  refine AWP.loop (X:=Unit) (fun x=>[(10,.pointer (some ⟨b10,0,none⟩)),(12,.pointer (some ⟨p,0,none⟩)),(13,.int .i64 q1.2),(14,.int .i64 ((n:Nat):Int)),(15,.int .i64 1)]) (fun x=>(M3.set b5 (bx d pe ce pw cw)).set b10 zb) (fun x=>True) (fun x=>0) (()) ⟨rfl,rfl,rfl,rfl,rfl,trivial⟩ (Mem.Less.refl _) (trivial) ?_
  rintro _ _
  (try dsimp only at *)
  by_cases hi:1<n
  ·iterate 12 refine s1_ ?_
   refine su_ [(10,_),(12,_),(13,_),(14,_),(15,_),(50,_)] ?_
   refine cF_ ?_
   iterate 12 refine s1_ ?_
   refine su_ [(10,_),(12,_),(13,_),(14,_),(15,_),(50,_),(62,_)] ?_
   refine cF_ ?_
   iterate 9 refine s1_ ?_
   refine su_ [(10,_),(12,_),(13,_),(14,_),(15,_),(50,_),(62,_),(73,_)] ?_
   refine cF_ ?_
   iterate 13 refine s1_ ?_
   refine su_ [(10,_),(12,_),(13,_),(14,_),(15,_),(50,_),(62,_),(73,_),(11,_)] ?_
   refine s1_ ?_
   refine ⟨_,M3,⟨_,_,_,rfl,.inr ⟨ty_agg_25,[_,_,_,_,_],ty_size_25,rds_,rfl⟩,⟨_,_,rfl,rfl,rfl⟩,rfl⟩,less_,?_⟩
   exact ⟨_,rfl,hl,hdk⟩
  ·iterate 12 refine s1_ ?_
   refine su_ [(10,_),(12,_),(13,_),(14,_),(15,_),(50,_)] ?_
   refine cF_ ?_
   iterate 12 refine s1_ ?_
   refine su_ [(10,_),(12,_),(13,_),(14,_),(15,_),(50,_),(62,_)] ?_
   refine cF_ ?_
   iterate 9 refine s1_ ?_
   refine su_ [(10,_),(12,_),(13,_),(14,_),(15,_),(50,_),(62,_),(73,_)] ?_
   refine cF_ ?_
   iterate 13 refine s1_ ?_
   refine su_ [(10,_),(12,_),(13,_),(14,_),(15,_),(50,_),(62,_),(73,_),(11,_)] ?_
   refine s1_ ?_
   refine ⟨_,M3,⟨_,_,_,rfl,.inr ⟨ty_agg_25,[_,_,_,_,_],ty_size_25,rds_,rfl⟩,⟨_,_,rfl,rfl,rfl⟩,rfl⟩,less_,?_⟩
   exact ⟨_,rfl,hl,hdk⟩
end Rec
end Go.Proofs.YtceikpipmcadmaaGreatDoor
namespace Go.Proofs.YtceikpipmcadmaaGreatDoor
open Go.RowKit
open Mv Disk Num
set_option maxRecDepth 4000
namespace Rec
theorem rec_WriteText (v : Value) (d : D) (s text : ByteArray) (S : Mem) (hd : DkR S v d) (hz : Dz d) :
  ACall Tryz.prog 13 #[v,.string s,.string text] S (DkRes (writeTextP d s text) S):=by
 have href:=rec_refused v d S hd hz
 unfold writeTextP
 by_cases h:65536<text.size
 ·rw [if_pos h]
  obtain ⟨pe,ce,pw,cw,rfl,hE,hW⟩:=id hd
  refine ACall.enter (rs:=[.cell 6 25,.tmp 7]) 23 [(0,.agg #[.int .i64 d.size,.slice pe d.ext.length ce,.slice pw d.waits.length cw,.int .i64 d.fuse,.bool d.down]),(1,.string s),(2,.string text)] Tryz.func13 rfl rfl (Nat.le_of_ble_eq_true rfl) rfl ⟨rfl,rfl,rfl,trivial⟩ ?_
  iterate 2 refine s1_ ?_
  refine k_b5 rfl ?_
  intro b3 f3
  have g3:=f3
  repeat ((with_reducible replace g3:=fresh_set g3);obtain ⟨g3,_⟩:=g3)
  refine nl_ ?_
  refine ARun.alloc (lit_lt rfl) ty_zero_25 ?_
  intro b6 f6
  have g6:=f6
  repeat ((with_reducible replace g6:=fresh_set g6);obtain ⟨g6,_⟩:=g6)
  refine nl_ ?_
  iterate 11 refine s1_ ?_
  refine su_ [(0,_),(1,_),(2,_),(3,_),(6,_),(7,_),(10,_)] ?_
  refine cT_ ?_
  iterate 3 refine s1_ ?_
  refine ca_ rfl ((href.frame f3).frame f6) ?_
  rintro _ S1 ⟨Sa,⟨M2,⟨v,rfl,hl2,hdk⟩,fc,hSa⟩,fd,h1⟩
  rw [h1,hSa];rw [hSa] at fd;clear h1 S1 hSa Sa
  obtain ⟨qe,de,qw,dw,rfl,_⟩:=id hdk
  obtain ⟨ge,_⟩:=fresh_set fd
  iterate 6 refine s1_ ?_
  refine su_ [(0,_),(1,_),(2,_),(3,_),(6,_),(7,_),(10,_)] ?_
  iterate 2 refine s1_ ?_
  refine ⟨_,M2,⟨_,_,_,rfl,.inr ⟨ty_agg_25,[_,_,_,_,_],ty_size_25,rds_,rfl⟩,⟨_,_,rfl,rfl,rfl⟩,rfl⟩,less_,?_⟩
  exact ⟨_,rfl,hl2,hdk⟩
 ·rw [if_neg h]
  have hput:=rec_put v d s 0 text.size text S hd hz (by omega) (by omega) (by unfold eachN;simp)
  obtain ⟨pe,ce,pw,cw,rfl,hE,hW⟩:=id hd
  refine ACall.enter (rs:=[.cell 6 25,.tmp 7]) 23 [(0,.agg #[.int .i64 d.size,.slice pe d.ext.length ce,.slice pw d.waits.length cw,.int .i64 d.fuse,.bool d.down]),(1,.string s),(2,.string text)] Tryz.func13 rfl rfl (Nat.le_of_ble_eq_true rfl) rfl ⟨rfl,rfl,rfl,trivial⟩ ?_
  iterate 2 refine s1_ ?_
  refine k_b5 rfl ?_
  intro b3 f3
  have g3:=f3
  repeat ((with_reducible replace g3:=fresh_set g3);obtain ⟨g3,_⟩:=g3)
  refine nl_ ?_
  refine ARun.alloc (lit_lt rfl) ty_zero_25 ?_
  intro b6 f6
  have g6:=f6
  repeat ((with_reducible replace g6:=fresh_set g6);obtain ⟨g6,_⟩:=g6)
  refine nl_ ?_
  iterate 11 refine s1_ ?_
  refine su_ [(0,_),(1,_),(2,_),(3,_),(6,_),(7,_),(10,_)] ?_
  refine cF_ ?_
  iterate 9 refine s1_ ?_
  refine ca_ rfl ((hput.frame f3).frame f6) ?_
  rintro _ S1 ⟨Sa,⟨M2,⟨v,rfl,hl2,hdk⟩,fc,hSa⟩,fd,h1⟩
  rw [h1,hSa];rw [hSa] at fd;clear h1 S1 hSa Sa
  obtain ⟨qe,de,qw,dw,rfl,_⟩:=id hdk
  obtain ⟨ge,_⟩:=fresh_set fd
  iterate 6 refine s1_ ?_
  refine su_ [(0,_),(1,_),(2,_),(3,_),(6,_),(7,_),(10,_)] ?_
  refine s1_ ?_
  refine ⟨_,M2,⟨_,_,_,rfl,.inr ⟨ty_agg_25,[_,_,_,_,_],ty_size_25,rds_,rfl⟩,⟨_,_,rfl,rfl,rfl⟩,rfl⟩,less_,?_⟩
  exact ⟨_,rfl,hl2,hdk⟩
theorem recB_len (x : List Nat) : (recB x).length = 5 * x.length := by
 unfold recB
 induction x with
 | nil=>rfl
 | cons a x ih=>rw [List.flatMap_cons,List.length_append,ih];simp [five];omega
theorem recs_len {w : Nat} : ∀ l : List (List Nat), l.all (rowOK w) = true → (l.flatMap recB).length = 5 * w * l.length
 | [],_=>by simp
 | x :: l,h=>by
  rw [List.all_cons,Bool.and_eq_true] at h
  have h1:=h.1
  unfold rowOK at h1
  rw [Bool.and_eq_true,decide_eq_true_eq] at h1
  rw [List.flatMap_cons,List.length_append,recB_len,recs_len l h.2,h1.2,List.length_cons,Nat.mul_succ];omega
theorem all_take {α : Type} {p : α → Bool} {l : List α} {i : Nat} (hi : i < l.length) (h : (l.take i).all p = true) (hx : p l[i] = true) : (l.take (i + 1)).all p = true := by
 rw [List.take_succ_eq_append_getElem hi,List.all_append,h]
 simp [hx]
set_option maxHeartbeats 4000000 in
theorem rec_Write (v : Value) (d : D) (s : ByteArray) (w : Int) (l : List (List Nat)) (vl : Value) (S : Mem) (hd : DkR S v d) (hz : Dz d) (hl : SlOf RowR S vl l) (hb : ∀ x ∈ l, ∀ n ∈ x, n < 18446744073709551616) :
  ACall Tryz.prog 11 #[v,.string s,.int .i64 w,vl] S (DkRes (writeP d s w l) S):=by
 have href:=rec_refused v d S hd hz
 obtain ⟨hs,hlen,⟨pa,ca,rfl,ha1,ha2,ha3⟩,hae⟩:=hl
 unfold writeP
 by_cases hw1:w<1
 ·rw [if_pos (.inl hw1)]
  obtain ⟨pe,ce,pw,cw,rfl,hE,hW⟩:=id hd
  refine ACall.enter (rs:=[.cell 8 25,.tmp 9]) 65 [(0,.agg #[.int .i64 d.size,.slice pe d.ext.length ce,.slice pw d.waits.length cw,.int .i64 d.fuse,.bool d.down]),(1,.string s),(2,.int .i64 w),(3,.slice pa hs.length ca)] Tryz.func11 rfl rfl (Nat.le_of_ble_eq_true rfl) rfl ⟨rfl,rfl,rfl,rfl,trivial⟩ ?_
  iterate 2 refine s1_ ?_
  refine k_b5 rfl ?_
  intro b4 f4
  have g4:=f4
  repeat ((with_reducible replace g4:=fresh_set g4);obtain ⟨g4,_⟩:=g4)
  refine nl_ ?_
  refine ARun.alloc (lit_lt rfl) ty_zero_25 ?_
  intro b8 f8
  have g8:=f8
  repeat ((with_reducible replace g8:=fresh_set g8);obtain ⟨g8,_⟩:=g8)
  refine nl_ ?_
  iterate 19 refine s1_ ?_
  refine su_ [(0,_),(1,_),(2,_),(3,_),(4,_),(8,_),(9,_),(25,_)] ?_
  refine cT_ ?_
  iterate 3 refine s1_ ?_
  refine ca_ rfl ((href.frame f4).frame f8) ?_
  rintro _ S1 ⟨Sa,⟨M2,⟨v,rfl,hl2,hdk⟩,fc,hSa⟩,fd,h1⟩
  rw [h1,hSa];rw [hSa] at fd;clear h1 S1 hSa Sa
  obtain ⟨qe,de,qw,dw,rfl,_⟩:=id hdk
  obtain ⟨ge,_⟩:=fresh_set fd
  iterate 6 refine s1_ ?_
  refine su_ [(0,_),(1,_),(2,_),(3,_),(4,_),(8,_),(9,_),(25,_)] ?_
  iterate 2 refine s1_ ?_
  refine ⟨_,M2,⟨_,_,_,rfl,.inr ⟨ty_agg_25,[_,_,_,_,_],ty_size_25,rds_,rfl⟩,⟨_,_,rfl,rfl,rfl⟩,rfl⟩,less_,?_⟩
  exact ⟨_,rfl,hl2,hdk⟩
 by_cases hw2:8<w
 ·rw [if_pos (.inr (.inl hw2))]
  obtain ⟨pe,ce,pw,cw,rfl,hE,hW⟩:=id hd
  refine ACall.enter (rs:=[.cell 8 25,.tmp 9]) 65 [(0,.agg #[.int .i64 d.size,.slice pe d.ext.length ce,.slice pw d.waits.length cw,.int .i64 d.fuse,.bool d.down]),(1,.string s),(2,.int .i64 w),(3,.slice pa hs.length ca)] Tryz.func11 rfl rfl (Nat.le_of_ble_eq_true rfl) rfl ⟨rfl,rfl,rfl,rfl,trivial⟩ ?_
  iterate 2 refine s1_ ?_
  refine k_b5 rfl ?_
  intro b4 f4
  have g4:=f4
  repeat ((with_reducible replace g4:=fresh_set g4);obtain ⟨g4,_⟩:=g4)
  refine nl_ ?_
  refine ARun.alloc (lit_lt rfl) ty_zero_25 ?_
  intro b8 f8
  have g8:=f8
  repeat ((with_reducible replace g8:=fresh_set g8);obtain ⟨g8,_⟩:=g8)
  refine nl_ ?_
  iterate 19 refine s1_ ?_
  refine su_ [(0,_),(1,_),(2,_),(3,_),(4,_),(8,_),(9,_),(25,_)] ?_
  refine cT_ ?_
  iterate 3 refine s1_ ?_
  refine ca_ rfl ((href.frame f4).frame f8) ?_
  rintro _ S1 ⟨Sa,⟨M2,⟨v,rfl,hl2,hdk⟩,fc,hSa⟩,fd,h1⟩
  rw [h1,hSa];rw [hSa] at fd;clear h1 S1 hSa Sa
  obtain ⟨qe,de,qw,dw,rfl,_⟩:=id hdk
  obtain ⟨ge,_⟩:=fresh_set fd
  iterate 6 refine s1_ ?_
  refine su_ [(0,_),(1,_),(2,_),(3,_),(4,_),(8,_),(9,_),(25,_)] ?_
  iterate 2 refine s1_ ?_
  refine ⟨_,M2,⟨_,_,_,rfl,.inr ⟨ty_agg_25,[_,_,_,_,_],ty_size_25,rds_,rfl⟩,⟨_,_,rfl,rfl,rfl⟩,rfl⟩,less_,?_⟩
  exact ⟨_,rfl,hl2,hdk⟩
 by_cases hw3:65536<l.length
 ·rw [if_pos (.inr (.inr hw3))]
  obtain ⟨pe,ce,pw,cw,rfl,hE,hW⟩:=id hd
  refine ACall.enter (rs:=[.cell 8 25,.tmp 9]) 65 [(0,.agg #[.int .i64 d.size,.slice pe d.ext.length ce,.slice pw d.waits.length cw,.int .i64 d.fuse,.bool d.down]),(1,.string s),(2,.int .i64 w),(3,.slice pa hs.length ca)] Tryz.func11 rfl rfl (Nat.le_of_ble_eq_true rfl) rfl ⟨rfl,rfl,rfl,rfl,trivial⟩ ?_
  iterate 2 refine s1_ ?_
  refine k_b5 rfl ?_
  intro b4 f4
  have g4:=f4
  repeat ((with_reducible replace g4:=fresh_set g4);obtain ⟨g4,_⟩:=g4)
  refine nl_ ?_
  refine ARun.alloc (lit_lt rfl) ty_zero_25 ?_
  intro b8 f8
  have g8:=f8
  repeat ((with_reducible replace g8:=fresh_set g8);obtain ⟨g8,_⟩:=g8)
  refine nl_ ?_
  iterate 19 refine s1_ ?_
  refine su_ [(0,_),(1,_),(2,_),(3,_),(4,_),(8,_),(9,_),(25,_)] ?_
  refine cT_ ?_
  iterate 3 refine s1_ ?_
  refine ca_ rfl ((href.frame f4).frame f8) ?_
  rintro _ S1 ⟨Sa,⟨M2,⟨v,rfl,hl2,hdk⟩,fc,hSa⟩,fd,h1⟩
  rw [h1,hSa];rw [hSa] at fd;clear h1 S1 hSa Sa
  obtain ⟨qe,de,qw,dw,rfl,_⟩:=id hdk
  obtain ⟨ge,_⟩:=fresh_set fd
  iterate 6 refine s1_ ?_
  refine su_ [(0,_),(1,_),(2,_),(3,_),(4,_),(8,_),(9,_),(25,_)] ?_
  iterate 2 refine s1_ ?_
  refine ⟨_,M2,⟨_,_,_,rfl,.inr ⟨ty_agg_25,[_,_,_,_,_],ty_size_25,rds_,rfl⟩,⟨_,_,rfl,rfl,rfl⟩,rfl⟩,less_,?_⟩
  exact ⟨_,rfl,hl2,hdk⟩
 rw [if_neg (by omega)]
 obtain ⟨k,rfl⟩:=Int.eq_ofNat_of_zero_le (by omega:0≤w)
 rw [Int.toNat_natCast]
 have hput:=fun (h:l.all (rowOK k)=true)=>rec_put v d s k l.length (bs (l.flatMap recB)) S hd hz (by omega) (by omega) (by rw [size_bs,recs_len l h];unfold eachN;rw [if_neg (by omega)])
 have htk:∀ i,i≤l.length→(l.take i).all (rowOK k)=true→((l.take i).flatMap recB).length≤5*k*65536:=fun i hi h=>by
  rw [recs_len _ h,List.length_take]
  exact Nat.mul_le_mul_left _ (by omega)
 have hk40:5*k*65536≤2621440:=by omega
 obtain ⟨pe,ce,pw,cw,rfl,hE,hW⟩:=id hd
 refine ACall.enter (rs:=[.cell 8 25,.tmp 9]) 65 [(0,.agg #[.int .i64 d.size,.slice pe d.ext.length ce,.slice pw d.waits.length cw,.int .i64 d.fuse,.bool d.down]),(1,.string s),(2,.int .i64 (k:Int)),(3,.slice pa hs.length ca)] Tryz.func11 rfl rfl (Nat.le_of_ble_eq_true rfl) rfl ⟨rfl,rfl,rfl,rfl,trivial⟩ ?_
 iterate 2 refine s1_ ?_
 refine k_b5 rfl ?_
 intro b4 f4
 have g4:=f4
 repeat ((with_reducible replace g4:=fresh_set g4);obtain ⟨g4,_⟩:=g4)
 refine nl_ ?_
 refine ARun.alloc (lit_lt rfl) ty_zero_25 ?_
 intro b8 f8
 have g8:=f8
 repeat ((with_reducible replace g8:=fresh_set g8);obtain ⟨g8,_⟩:=g8)
 refine nl_ ?_
 iterate 19 refine s1_ ?_
 refine su_ [(0,_),(1,_),(2,_),(3,_),(4,_),(8,_),(9,_),(25,_)] ?_
 refine cF_ ?_
 iterate 4 refine s1_ ?_
 refine ARun.alloc (lit_lt rfl) ty_zero_68 ?_
 intro b10 f10
 have g10:=f10
 repeat ((with_reducible replace g10:=fresh_set g10);obtain ⟨g10,_⟩:=g10)
 refine nl_ ?_
 iterate 2 refine s1_ ?_
 have hnew:=Bl.R.new ((S.set b4 (bx d pe ce pw cw)).set b8 zb) b10
 have hb4:((S.set b4 (bx d pe ce pw cw)).set b8 zb).own b4=some (bx d pe ce pw cw):=own_
 have hb8:((S.set b4 (bx d pe ce pw cw)).set b8 zb).own b8=some zb:=own_
 have hB:S.Less ((S.set b4 (bx d pe ce pw cw)).set b8 zb):=less_
 have n4:S.own b4=none:=g4.1
 have n8:S.own b8=none:=g8.1
 iterate 9 refine s1_ ?_
 refine AWP.loop (X:=Nat × Mem) (fun x=>[(1,.string s),(2,.int .i64 (k:Int)),(3,.slice pa hs.length ca),(4,.pointer (some ⟨b4,0,none⟩)),(8,.pointer (some ⟨b8,0,none⟩)),(10,.pointer (some ⟨b10,0,none⟩)),(30,.slice pa hs.length ca),(31,.int .i64 (hs.length:Int)),(32,.int .i64 (x.1:Int))]) (fun x=>x.2) (fun x=>x.1≤l.length∧Bl.R ((S.set b4 (bx d pe ce pw cw)).set b8 zb) b10 ((l.take x.1).flatMap recB) x.2∧(l.take x.1).all (rowOK k)=true) (fun x=>l.length-x.1) ((0,((S.set b4 (bx d pe ce pw cw)).set b8 zb).set b10 (Bl.blk (.pointer none) (.slice none 0 0)))) ⟨rfl,rfl,rfl,rfl,rfl,rfl,rfl,rfl,rfl,trivial⟩ (Mem.Less.refl _) (⟨Nat.zero_le _,hnew,rfl⟩) ?_
 rintro ⟨i,T⟩ ⟨hi,hT,hq⟩
 (try dsimp only at *)
 have hBT:=hT.less f10
 have hST:=hB.trans hBT
 have o4:=hBT.own hb4
 have o8:=hBT.own hb8
 iterate 6 refine s1_ ?_
 refine AWP.condB rfl (fun hl=>?_) (fun hl=>?_)
 ·have hil:i<l.length:=by have:=of_decide_eq_true hl;omega
  have hia:i<hs.length:=by omega
  obtain ⟨b0,off,rfl,hkn⟩:=ha3.resolve_left (by intro h;rw [h] at hia;exact absurd hia (Nat.not_lt_zero _))
  have hkk:=(hkn i hia).less hST
  have hrow:=(hae i hil hia).less hST
  have hmem:=List.getElem_mem hil
  have hRec:=numV_Record l[i] hs[i] T hrow (hb _ hmem)
  unfold recP at hRec
  obtain ⟨xa,xc,hxe,-⟩:=id hrow
  by_cases hr:recOK l[i]=true
  ·rw [if_pos hr] at hRec
   iterate 11 refine s1_ ?_
   refine su_ [(1,_),(2,_),(3,_),(4,_),(8,_),(10,_),(30,_),(31,_),(32,_),(33,_),(12,_)] ?_
   iterate 3 refine s1_ ?_
   refine ca_ rfl (hRec) ?_
   rintro _ S1 ⟨rfl,h1⟩
   rw [h1];clear h1 S1
   rw [hxe]
   iterate 7 refine s1_ ?_
   refine su_ [(1,_),(2,_),(3,_),(4,_),(8,_),(10,_),(30,_),(31,_),(32,_),(33,_),(12,_),(13,_),(14,_)] ?_
   by_cases hx:(l[i]).length=k
   ·iterate 13 refine s1_ ?_
    refine su_ [(1,_),(2,_),(3,_),(4,_),(8,_),(10,_),(30,_),(31,_),(32,_),(33,_),(12,_),(13,_),(14,_),(48,_)] ?_
    refine cF_ ?_
    have hsz:(bs (recB l[i])).size=5*k:=by rw [size_bs,recB_len,hx]
    have hti:=htk i hi hq
    iterate 4 refine s1_ ?_
    refine ca_ rfl (Bl.WriteString _ b10 _ T (bs (recB l[i])) f10 hT (by omega)) ?_
    rintro _ T2 ⟨rfl,hT2⟩
    rw [show (l.take i).flatMap recB ++ (bs (recB l[i])).data.toList=(l.take (i+1)).flatMap recB from by rw [List.take_succ_eq_append_getElem hil,List.flatMap_append];simp [bs]] at hT2
    iterate 3 refine s1_ ?_
    refine su_ [(1,_),(2,_),(3,_),(4,_),(8,_),(10,_),(30,_),(31,_),(32,_),(33,_),(12,_),(13,_),(14,_),(48,_)] ?_
    iterate 5 refine s1_ ?_
    refine ⟨(i+1,T2),?_,?_,?_,?_⟩
    all_goals (try dsimp only)
    ·exact ⟨rfl,rfl,rfl,rfl,rfl,rfl,rfl,rfl,some_int (by omega),trivial⟩
    ·exact Mem.Less.refl _
    ·exact ⟨hil,hT2,all_take hil hq (by unfold rowOK;rw [hr,decide_eq_true hx];rfl)⟩
    ·omega
   ·iterate 13 refine s1_ ?_
    refine su_ [(1,_),(2,_),(3,_),(4,_),(8,_),(10,_),(30,_),(31,_),(32,_),(33,_),(12,_),(13,_),(14,_),(48,_)] ?_
    refine cT_ ?_
    rw [if_neg (fun h=>by have:=List.all_eq_true.1 h _ hmem;unfold rowOK at this;rw [Bool.and_eq_true,decide_eq_true_eq] at this;exact hx this.2)]
    iterate 3 refine s1_ ?_
    refine ca_ rfl (href.over hST) ?_
    rintro _ T2 ⟨M2,⟨v,rfl,hl2,hdk⟩,hMT,hkeep⟩
    obtain ⟨p8,q8⟩:=hkeep b8 _ n8 o8
    obtain ⟨qe,de,qw,dw,rfl,_⟩:=id hdk
    iterate 6 refine s1_ ?_
    refine su_ [(1,_),(2,_),(3,_),(4,_),(8,_),(10,_),(30,_),(31,_),(32,_),(33,_),(12,_),(13,_),(14,_),(48,_),(9,_)] ?_
    iterate 7 refine s1_ ?_
    refine ⟨_,M2,⟨_,_,_,rfl,.inr ⟨ty_agg_25,[_,_,_,_,_],ty_size_25,rds_,rfl⟩,⟨_,_,rfl,rfl,rfl⟩,rfl⟩,less_set_skip hMT q8,?_⟩
    exact ⟨_,rfl,hl2,hdk⟩
  ·rw [if_neg hr] at hRec
   rw [if_neg (fun h=>by have:=List.all_eq_true.1 h _ hmem;unfold rowOK at this;rw [Bool.and_eq_true] at this;exact hr this.1)]
   iterate 11 refine s1_ ?_
   refine su_ [(1,_),(2,_),(3,_),(4,_),(8,_),(10,_),(30,_),(31,_),(32,_),(33,_),(12,_)] ?_
   iterate 3 refine s1_ ?_
   refine ca_ rfl (hRec) ?_
   rintro _ S1 ⟨rfl,h1⟩
   rw [h1];clear h1 S1
   iterate 7 refine s1_ ?_
   refine su_ [(1,_),(2,_),(3,_),(4,_),(8,_),(10,_),(30,_),(31,_),(32,_),(33,_),(12,_),(13,_),(14,_)] ?_
   iterate 13 refine s1_ ?_
   refine su_ [(1,_),(2,_),(3,_),(4,_),(8,_),(10,_),(30,_),(31,_),(32,_),(33,_),(12,_),(13,_),(14,_),(48,_)] ?_
   refine cT_ ?_
   iterate 3 refine s1_ ?_
   refine ca_ rfl (href.over hST) ?_
   rintro _ T2 ⟨M2,⟨v,rfl,hl2,hdk⟩,hMT,hkeep⟩
   obtain ⟨p8,q8⟩:=hkeep b8 _ n8 o8
   obtain ⟨qe,de,qw,dw,rfl,_⟩:=id hdk
   iterate 6 refine s1_ ?_
   refine su_ [(1,_),(2,_),(3,_),(4,_),(8,_),(10,_),(30,_),(31,_),(32,_),(33,_),(12,_),(13,_),(14,_),(48,_),(9,_)] ?_
   iterate 7 refine s1_ ?_
   refine ⟨_,M2,⟨_,_,_,rfl,.inr ⟨ty_agg_25,[_,_,_,_,_],ty_size_25,rds_,rfl⟩,⟨_,_,rfl,rfl,rfl⟩,rfl⟩,less_set_skip hMT q8,?_⟩
   exact ⟨_,rfl,hl2,hdk⟩
 ·obtain rfl:i=l.length:=by have:=of_decide_eq_false hl;omega
  rw [List.take_length] at hq hT
  rw [if_pos hq]
  have hti:(l.flatMap recB).length≤2621440:=by have:=htk l.length (Nat.le_refl _) (by rw [List.take_length];exact hq);rw [List.take_length] at this;omega
  have hStr:=Bl.StringE _ b10 _ T f10 hT (by omega)
  rw [hlen]
  iterate 6 refine s1_ ?_
  refine AWP.drawG [0,5,6,9] mixed ?_
  refine DG.pure 1 (by kernel_rfl) (by kernel_rfl) rfl rfl rfl rfl (lit_lt rfl) (fun _=>Calm.move rfl) ?_
  refine DG.pure 2 (by kernel_rfl) (by kernel_rfl) rfl rfl rfl rfl (lit_lt rfl) (fun _=>Calm.move rfl) ?_
  refine DG.pure 3 (by kernel_rfl) (by kernel_rfl) rfl rfl rfl rfl (lit_lt rfl) (fun _=>Calm.move rfl) ?_
  refine DG.pure 4 (by kernel_rfl) (by kernel_rfl) rfl rfl rfl rfl (lit_lt rfl) (fun _=>Calm.lenSl Tryz.underlying26 rfl) ?_
  refine DG.two 0 5 (by kernel_rfl) rfl ?_ rfl ?_
  ·refine s1_ ?_
   refine arun_nil ⟨fun h=>absurd h (by decide),?_⟩
   refine DG.only 5 (by kernel_rfl) rfl ?_
   refine ca_ rfl (hStr) ?_
   rintro _ S1 ⟨rfl,h1⟩
   rw [h1];clear h1 S1
   refine arun_nil ⟨fun h=>absurd h (by decide),?_⟩
   refine DG.only 6 (by kernel_rfl) rfl ?_
   refine ca_ rfl (((hput hq).frame f4).frame f8) ?_
   rintro _ S1 ⟨Sa,⟨M2,⟨v,rfl,hl2,hdk⟩,fc,hSa⟩,fd,h1⟩
   rw [h1,hSa];rw [hSa] at fd;clear h1 S1 hSa Sa
   obtain ⟨qe,de,qw,dw,rfl,_⟩:=id hdk
   obtain ⟨ge,_⟩:=fresh_set fd
   refine arun_nil ⟨fun h=>absurd h (by decide),?_⟩
   refine DG.pure 7 (by kernel_rfl) (by kernel_rfl) rfl rfl rfl rfl (lit_lt rfl) (fun _=>Calm.extract rfl rfl) ?_
   refine DG.pure 8 (by kernel_rfl) (by kernel_rfl) rfl rfl rfl rfl (lit_lt rfl) (fun _=>Calm.extract rfl rfl) ?_
   refine DG.only 9 (by kernel_rfl) rfl ?_
   refine s1_ ?_
   refine arun_nil ⟨fun h=>absurd h (by decide),?_⟩
   refine DG.pure 10 (by kernel_rfl) (by kernel_rfl) rfl rfl rfl rfl (lit_lt rfl) (fun _=>Calm.assign rfl) ?_
   refine DG.end_ (by kernel_rfl) ?_
   refine s1_ ?_
   refine su_ [(1,_),(2,_),(3,_),(4,_),(8,_),(10,_),(30,_),(31,_),(32,_),(33,_),(9,_)] ?_
   refine s1_ ?_
   refine ⟨_,M2,⟨_,_,_,rfl,.inr ⟨ty_agg_25,[_,_,_,_,_],ty_size_25,rds_,rfl⟩,⟨_,_,rfl,rfl,rfl⟩,rfl⟩,less_,?_⟩
   exact ⟨_,rfl,hl2,hdk⟩
  ·refine ca_ rfl (hStr) ?_
   rintro _ S1 ⟨rfl,h1⟩
   rw [h1];clear h1 S1
   refine arun_nil ⟨fun h=>absurd h (by decide),?_⟩
   refine DG.only 0 (by kernel_rfl) rfl ?_
   refine s1_ ?_
   refine arun_nil ⟨fun h=>absurd h (by decide),?_⟩
   refine DG.only 6 (by kernel_rfl) rfl ?_
   refine ca_ rfl (((hput hq).frame f4).frame f8) ?_
   rintro _ S1 ⟨Sa,⟨M2,⟨v,rfl,hl2,hdk⟩,fc,hSa⟩,fd,h1⟩
   rw [h1,hSa];rw [hSa] at fd;clear h1 S1 hSa Sa
   obtain ⟨qe,de,qw,dw,rfl,_⟩:=id hdk
   obtain ⟨ge,_⟩:=fresh_set fd
   refine arun_nil ⟨fun h=>absurd h (by decide),?_⟩
   refine DG.pure 7 (by kernel_rfl) (by kernel_rfl) rfl rfl rfl rfl (lit_lt rfl) (fun _=>Calm.extract rfl rfl) ?_
   refine DG.pure 8 (by kernel_rfl) (by kernel_rfl) rfl rfl rfl rfl (lit_lt rfl) (fun _=>Calm.extract rfl rfl) ?_
   refine DG.only 9 (by kernel_rfl) rfl ?_
   refine s1_ ?_
   refine arun_nil ⟨fun h=>absurd h (by decide),?_⟩
   refine DG.pure 10 (by kernel_rfl) (by kernel_rfl) rfl rfl rfl rfl (lit_lt rfl) (fun _=>Calm.assign rfl) ?_
   refine DG.end_ (by kernel_rfl) ?_
   refine s1_ ?_
   refine su_ [(1,_),(2,_),(3,_),(4,_),(8,_),(10,_),(30,_),(31,_),(32,_),(33,_),(9,_)] ?_
   refine s1_ ?_
   refine ⟨_,M2,⟨_,_,_,rfl,.inr ⟨ty_agg_25,[_,_,_,_,_],ty_size_25,rds_,rfl⟩,⟨_,_,rfl,rfl,rfl⟩,rfl⟩,less_,?_⟩
   exact ⟨_,rfl,hl2,hdk⟩
end Rec
end Go.Proofs.YtceikpipmcadmaaGreatDoor
namespace Go.Proofs.YtceikpipmcadmaaGreatDoor
open Go.RowKit
open Mv
set_option maxRecDepth 4000
namespace St
theorem len_list (s : ByteArray) : s.data.toList.length = s.size := Array.length_toList (xs := s.data)
theorem dw_nil {p : UInt8 → Bool} : ∀ {l : List UInt8}, l.dropWhile p = [] ↔ ∀ x ∈ l, p x = true
 | []=>⟨fun _ x hx=>(by cases hx),fun _=>rfl⟩
 | a :: l=>by
  by_cases ha:p a=true
  ·rw [List.dropWhile_cons_of_pos ha,dw_nil]
   exact ⟨fun h x hx=>(List.mem_cons.1 hx).elim (fun e=>e ▸ ha) (h x),fun h x hx=>h x (List.mem_cons_of_mem _ hx)⟩
  ·rw [List.dropWhile_cons_of_neg ha]
   exact ⟨fun h=>(by cases h),fun h=>absurd (h a (List.mem_cons_self ..)) ha⟩
/-- Without the bytes c at its end. -/
def rtrim (c : UInt8) (l : List UInt8) : List UInt8 := (l.reverse.dropWhile (· == c)).reverse
theorem rtrim_all (c : UInt8) (l : List UInt8) (h : ∀ x ∈ l, x = c) : rtrim c l = [] := by
 unfold rtrim
 rw [dw_nil.2 (fun x hx=>by simp [h x (List.mem_reverse.1 hx)])];rfl
theorem rtrim_app (c : UInt8) (l r : List UInt8) (h : ∀ x ∈ r, x = c) : rtrim c (l ++ r) = rtrim c l := by
 unfold rtrim
 rw [List.reverse_append]
 have:∀ (a b:List UInt8),(∀ x ∈ a,x=c)→(a ++ b).dropWhile (· == c)=b.dropWhile (· == c):=by
  intro a b ha
  induction a with
  | nil=>rfl
  | cons x a ih =>
   rw [List.cons_append,List.dropWhile_cons_of_pos (by simp [ha x (by simp)])]
   exact ih fun y hy=>ha y (by simp [hy])
 rw [this _ _ fun x hx=>h x (List.mem_reverse.1 hx)]
theorem rtrim_end (c x : UInt8) (l : List UInt8) (h : x ≠ c) : rtrim c (l ++ [x]) = l ++ [x] := by
 unfold rtrim
 rw [List.reverse_append,List.reverse_singleton,List.singleton_append,List.dropWhile_cons_of_neg (by simpa using h)]
 simp
theorem rtrim_take (c : UInt8) (l : List UInt8) (m : Nat) (hm : m ≤ l.length) (hd : ∀ x ∈ l.drop m, x = c) (he : m = 0 ∨ at8 l (m - 1) ≠ c) : rtrim c l = l.take m := by
 rw [← List.take_append_drop m l,rtrim_app c _ _ hd,List.take_append_drop]
 rcases he with rfl | he
 ·rfl
 ·by_cases h0:m=0
  ·subst h0;rfl
  ·obtain ⟨k,rfl⟩ : ∃ k,m=k+1:=⟨m-1,by omega⟩
   rw [List.take_succ_eq_append_getElem (by omega:k<l.length)]
   refine rtrim_end c _ _ fun e=>he ?_
   rw [Nat.add_sub_cancel,← e]
   simp [at8,List.getD_eq_getElem?_getD,List.getElem?_eq_getElem (by omega:k<l.length)]
theorem nb_inj {a b : UInt8} : nb a = nb b ↔ a = b := by
 unfold nb
 constructor
 ·intro h;exact UInt8.toNat_inj.1 (by omega)
 ·intro h;rw [h]
theorem trimRight (s : ByteArray) (c : UInt8) (S : Mem) (hs : s.size ≤ 9223372036854775807) :
  ACall Tryz.prog 157 #[.string s,.int .u8 (nb c)] S fun r S'=>r = .string (bs (rtrim c s.data.toList))∧S'=S:=by
 have hlen:=len_list s
 refine ACall.enter (rs:=[.tmp 4]) 23 [(0,.string s),(1,.int .u8 (nb c))] Tryz.func157 rfl rfl (Nat.le_of_ble_eq_true rfl) rfl ⟨rfl,rfl,trivial⟩ ?_
 iterate 7 refine s1_ ?_
 refine AWP.loop (X:=Nat) (fun m=>[(0,.string (bs (s.data.toList.take m))),(1,.int .u8 (nb c))]) (fun m=>S) (fun m=>m≤s.size ∧ ∀ x ∈ s.data.toList.drop m,x=c) (fun m=>m) (s.size) ⟨by rw [List.take_of_length_le (by omega),bs_of];rfl,rfl,trivial⟩ (Mem.Less.refl _) (⟨Nat.le_refl _,by rw [List.drop_of_length_le (by omega)];intro x hx;cases hx⟩) ?_
 rintro m ⟨hm,hd⟩
 (try dsimp only at *)
 have hz:(bs (s.data.toList.take m)).size=m:=by rw [size_bs,List.length_take];omega
 by_cases h0:m=0
 ·iterate 17 refine s1_ ?_
  refine su_ [(0,_),(1,_),(16,_)] ?_
  refine cF_ ?_
  iterate 11 refine s1_ ?_
  refine su_ [(0,_),(1,_),(16,_),(4,_)] ?_
  refine s1_ ?_
  refine ⟨_,S,⟨_,_,rfl,rfl,rfl⟩,less_,?_⟩
  exact ⟨by rw [rtrim_take c _ m (by omega) hd (.inl h0)];rfl,rfl⟩
 ·obtain ⟨k,rfl⟩ : ∃ k,m=k+1:=⟨m-1,by omega⟩
  have hat:at8 (bs (s.data.toList.take (k+1))).data.toList (((bs (s.data.toList.take (k+1))).size:Int)-1).toNat=at8 s.data.toList k:=by rw [hz,bs_data,show (((k+1:Nat):Int)-1).toNat=k from by omega];simp [at8,List.getD_eq_getElem?_getD,List.getElem?_take]
  have hdr:s.data.toList.drop k=at8 s.data.toList k :: s.data.toList.drop (k+1):=by rw [List.drop_eq_getElem_cons (by omega:k<s.data.toList.length)];simp [at8,List.getD_eq_getElem?_getD,List.getElem?_eq_getElem (by omega:k<s.data.toList.length)]
  by_cases hx:at8 s.data.toList k=c
  ·have hn:nb (at8 (bs (s.data.toList.take (k+1))).data.toList (((bs (s.data.toList.take (k+1))).size:Int)-1).toNat)=nb c:=by rw [hat,hx]
   iterate 17 refine s1_ ?_
   refine su_ [(0,_),(1,_),(16,_)] ?_
   refine cT_ ?_
   iterate 13 refine s1_ ?_
   refine ⟨k,?_,?_,?_,?_⟩
   all_goals (try dsimp only)
   ·exact ⟨by rw [show (bs (s.data.toList.take k))=(bs (s.data.toList.take (k+1))).extract 0 (((bs (s.data.toList.take (k+1))).size:Int)-1).toNat from by rw [hz,show (((k+1:Nat):Int)-1).toNat=k from by omega];apply str_ext;rw [Lib.extract_data,bs_data,bs_data];simp [List.take_take]];rfl,rfl,trivial⟩
   ·exact less_
   ·exact ⟨by omega,by rw [hdr];intro x hx';rcases List.mem_cons.1 hx' with e | e;exact e.trans hx;exact hd x e⟩
   ·omega
  ·have hn:nb (at8 (bs (s.data.toList.take (k+1))).data.toList (((bs (s.data.toList.take (k+1))).size:Int)-1).toNat)≠nb c:=by rw [hat];exact fun e=>hx (nb_inj.1 e)
   iterate 17 refine s1_ ?_
   refine su_ [(0,_),(1,_),(16,_)] ?_
   refine cF_ ?_
   iterate 11 refine s1_ ?_
   refine su_ [(0,_),(1,_),(16,_),(4,_)] ?_
   refine s1_ ?_
   refine ⟨_,S,⟨_,_,rfl,rfl,rfl⟩,less_,?_⟩
   exact ⟨by rw [rtrim_take c _ (k+1) (by omega) hd (.inr hx)];rfl,rfl⟩
theorem trimLeft (s : ByteArray) (c : UInt8) (S : Mem) (hs : s.size ≤ 9223372036854775807) :
  ACall Tryz.prog 156 #[.string s,.int .u8 (nb c)] S fun r S'=>r = .string (bs (s.data.toList.dropWhile (· == c)))∧S'=S:=by
 have hlen:=len_list s
 have hdw:∀ l:List UInt8,l.dropWhile (· == c) = [] ∨ ∃ x r,l.dropWhile (· == c)=x :: r∧x≠c:=fun l=>by
  induction l with
  | nil=>exact .inl rfl
  | cons x l ih =>
   by_cases h:x=c
   ·rw [List.dropWhile_cons_of_pos (by simp [h])];exact ih
   ·rw [List.dropWhile_cons_of_neg (by simpa using h)];exact .inr ⟨x,l,rfl,h⟩
 refine ACall.enter (rs:=[.tmp 4]) 17 [(0,.string s),(1,.int .u8 (nb c))] Tryz.func156 rfl rfl (Nat.le_of_ble_eq_true rfl) rfl ⟨rfl,rfl,trivial⟩ ?_
 iterate 7 refine s1_ ?_
 refine AWP.loop (X:=Nat) (fun m=>[(0,.string (bs (s.data.toList.drop m))),(1,.int .u8 (nb c))]) (fun m=>S) (fun m=>m≤s.size∧(s.data.toList.drop m).dropWhile (· == c)=s.data.toList.dropWhile (· == c)) (fun m=>s.size-m) (0) ⟨by rw [List.drop_zero,bs_of];rfl,rfl,trivial⟩ (Mem.Less.refl _) (⟨Nat.zero_le _,rfl⟩) ?_
 rintro m ⟨hm,hd⟩
 (try dsimp only at *)
 have hz:(bs (s.data.toList.drop m)).size=s.size-m:=by rw [size_bs,List.length_drop];omega
 by_cases h0:m=s.size
 ·iterate 14 refine s1_ ?_
  refine su_ [(0,_),(1,_),(13,_)] ?_
  refine cF_ ?_
  iterate 11 refine s1_ ?_
  refine su_ [(0,_),(1,_),(13,_),(4,_)] ?_
  refine s1_ ?_
  refine ⟨_,S,⟨_,_,rfl,rfl,rfl⟩,less_,?_⟩
  exact ⟨by rw [← hd,List.drop_of_length_le (by omega)];rfl,rfl⟩
 ·have hdr:s.data.toList.drop m=at8 s.data.toList m :: s.data.toList.drop (m+1):=by rw [List.drop_eq_getElem_cons (by omega:m<s.data.toList.length)];simp [at8,List.getD_eq_getElem?_getD,List.getElem?_eq_getElem (by omega:m<s.data.toList.length)]
  have hat:at8 (bs (s.data.toList.drop m)).data.toList (0:Int).toNat=at8 s.data.toList m:=by rw [bs_data,hdr];rfl
  by_cases hx:at8 s.data.toList m=c
  ·have hn:nb (at8 (bs (s.data.toList.drop m)).data.toList (0:Int).toNat)=nb c:=by rw [hat,hx]
   iterate 14 refine s1_ ?_
   refine su_ [(0,_),(1,_),(13,_)] ?_
   refine cT_ ?_
   iterate 10 refine s1_ ?_
   refine ⟨m+1,?_,?_,?_,?_⟩
   all_goals (try dsimp only)
   ·exact ⟨by rw [show (bs (s.data.toList.drop (m+1)))=(bs (s.data.toList.drop m)).extract 1 (bs (s.data.toList.drop m)).size from by apply str_ext;rw [Lib.extract_data,bs_data,bs_data,hz,hdr];simp;rw [List.take_of_length_le (by rw [List.length_drop];omega)]];rfl,rfl,trivial⟩
   ·exact less_
   ·exact ⟨by omega,by rw [← hd,hdr,List.dropWhile_cons_of_pos (by simp [hx])]⟩
   ·omega
  ·have hn:nb (at8 (bs (s.data.toList.drop m)).data.toList (0:Int).toNat)≠nb c:=by rw [hat];exact fun e=>hx (nb_inj.1 e)
   iterate 14 refine s1_ ?_
   refine su_ [(0,_),(1,_),(13,_)] ?_
   refine cF_ ?_
   iterate 11 refine s1_ ?_
   refine su_ [(0,_),(1,_),(13,_),(4,_)] ?_
   refine s1_ ?_
   refine ⟨_,S,⟨_,_,rfl,rfl,rfl⟩,less_,?_⟩
   exact ⟨by rw [← hd,hdr,List.dropWhile_cons_of_neg (by simpa using hx)];rfl,rfl⟩
theorem trim0 (s : ByteArray) (S : Mem) (hs : s.size ≤ 9223372036854775807) :
  ACall Tryz.prog 122 #[.string s,.string ⟨#[0]⟩] S fun r S'=>r = .string (bs ((rtrim 0 s.data.toList).dropWhile (· == 0)))∧S'=S:=by
 have z1:(⟨#[0]⟩ : ByteArray).size=1:=rfl
 have hne:(⟨#[0]⟩ : ByteArray)≠ByteArray.empty:=fun e=>by have:=congrArg ByteArray.size e;rw [z1] at this;exact absurd this (by decide)
 have hat:nb (at8 (⟨#[0]⟩ : ByteArray).data.toList (0:Int).toNat)=0:=rfl
 by_cases h0:s=ByteArray.empty
 ·subst h0
  refine ACall.enter (rs:=[.tmp 4]) 43 [(0,.string ByteArray.empty),(1,.string ⟨#[0]⟩)] Tryz.func122 rfl rfl (Nat.le_of_ble_eq_true rfl) rfl ⟨rfl,rfl,trivial⟩ ?_
  iterate 9 refine s1_ ?_
  refine rC (Calm.bin rfl rfl (bin_bool (bin_str_eql _ _) (decide_eq_true rfl))) ?_
  iterate 6 refine s1_ ?_
  refine su_ [(0,_),(1,_),(4,_),(12,_)] ?_
  refine cT_ ?_
  iterate 6 refine s1_ ?_
  refine su_ [(0,_),(1,_),(4,_),(12,_)] ?_
  iterate 2 refine s1_ ?_
  refine ⟨_,S,⟨_,_,rfl,rfl,rfl⟩,less_,?_⟩
  exact ⟨rfl,rfl⟩
 ·have hr:(bs (rtrim 0 s.data.toList)).size≤9223372036854775807:=by
   rw [size_bs]
   unfold rtrim
   rw [List.length_reverse]
   have h1:=(List.dropWhile_sublist (· == (0:UInt8)) (l:=s.data.toList.reverse)).length_le
   rw [List.length_reverse] at h1
   have:=len_list s
   omega
  have hl:=trimLeft (bs (rtrim 0 s.data.toList)) 0 S hr
  rw [bs_data] at hl
  refine ACall.enter (rs:=[.tmp 4]) 43 [(0,.string s),(1,.string ⟨#[0]⟩)] Tryz.func122 rfl rfl (Nat.le_of_ble_eq_true rfl) rfl ⟨rfl,rfl,trivial⟩ ?_
  iterate 9 refine s1_ ?_
  refine rC (Calm.bin rfl rfl (bin_bool (bin_str_eql _ _) (decide_eq_false h0))) ?_
  iterate 2 refine s1_ ?_
  first|refine k_q 9 ?_|refine rG 9 (Calm.bin rfl rfl (bin_bool (bin_str_eql _ _) (decide_eq_false hne))) ?_
  iterate 3 refine s1_ ?_
  refine su_ [(0,_),(1,_),(4,_),(12,_)] ?_
  refine cF_ ?_
  iterate 15 refine s1_ ?_
  refine su_ [(0,_),(1,_),(4,_),(12,_),(21,_)] ?_
  refine cT_ ?_
  refine s1_ ?_
  refine AWP.draw [(0,true),(1,true),(2,true),(4,true),(5,true),(3,false),(6,false),(7,true)] [] mixed (by kernel_rfl) ?_
  iterate 5 refine s1_ ?_
  refine draw_only rfl ?_
  refine ca_ rfl (trimRight s 0 S hs) ?_
  rintro _ S1 ⟨rfl,h1⟩
  rw [h1];clear h1 S1
  refine arun_nil ⟨fun _=>less_,?_⟩
  refine draw_only rfl ?_
  refine ca_ rfl (hl) ?_
  rintro _ S1 ⟨rfl,h1⟩
  rw [h1];clear h1 S1
  refine arun_nil ⟨fun _=>less_,?_⟩
  iterate 3 refine s1_ ?_
  refine su_ [(0,_),(1,_),(4,_),(12,_),(21,_)] ?_
  iterate 2 refine s1_ ?_
  refine ⟨_,S,⟨_,_,rfl,rfl,rfl⟩,less_,?_⟩
  exact ⟨rfl,rfl⟩
/-- Whether all bytes are 0. -/
theorem trim_nil (l : List UInt8) : ((rtrim 0 l).dropWhile (· == 0) = []) ↔ (l.all fun b => b == 0) = true := by
 constructor
 ·intro h
  rw [List.all_eq_true]
  intro x hx
  have h1:∀ y ∈ rtrim 0 l,(y == (0:UInt8))=true:=dw_nil.1 h
  have h2:∀ (r:List UInt8),(∀ y ∈ (r.dropWhile (· == (0:UInt8))),(y == (0:UInt8))=true) → ∀ y ∈ r,(y == (0:UInt8))=true:=by
   intro r
   induction r with
   | nil=>intro _ y hy;cases hy
   | cons a r ih =>
    by_cases ha:(a == (0:UInt8))=true
    ·rw [List.dropWhile_cons_of_pos (p:=fun x=>x == (0:UInt8)) ha]
     intro hh y hy
     rcases List.mem_cons.1 hy with rfl | hy
     ·exact ha
     ·exact ih hh y hy
    ·rw [List.dropWhile_cons_of_neg (p:=fun x=>x == (0:UInt8)) ha]
     exact fun hh=>hh
  exact h2 l.reverse (fun y hy=>h1 y (by unfold rtrim;exact List.mem_reverse.2 hy)) x (List.mem_reverse.2 hx)
 ·intro h
  rw [rtrim_all 0 l (fun x hx=>by have:=List.all_eq_true.1 h x hx;simpa using this)]
  rfl
theorem hasPrefix (s p : ByteArray) (S : Mem) (hs : s.size ≤ 9223372036854775807) (hp : p.size ≤ 9223372036854775807) :
  ACall Tryz.prog 155 #[.string s,.string p] S fun r S'=>r = .bool (decide (s.data.toList.take p.size=p.data.toList))∧S'=S:=by
 have hl:=len_list s
 have hlp:=len_list p
 by_cases h:p.size≤s.size
 ·have e:decide (s.extract 0 p.size=p)=decide (s.data.toList.take p.size=p.data.toList):=by
   rw [decide_eq_decide]
   constructor
   ·intro h;rw [← congrArg (fun x=>x.data.toList) h];simp [Lib.extract_data]
   ·intro h;apply str_ext;rw [← h];simp [Lib.extract_data]
  refine ACall.enter (rs:=[.tmp 4]) 18 [(0,.string s),(1,.string p)] Tryz.func155 rfl rfl (Nat.le_of_ble_eq_true rfl) rfl ⟨rfl,rfl,trivial⟩ ?_
  iterate 23 refine s1_ ?_
  refine su_ [(0,_),(1,_),(4,_)] ?_
  refine s1_ ?_
  refine ⟨_,S,⟨_,_,rfl,rfl,rfl⟩,less_,?_⟩
  exact ⟨by rw [← e];rfl,rfl⟩
 ·have e:decide (s.data.toList.take p.size=p.data.toList)=false:=decide_eq_false fun h=>by
   have:=congrArg List.length h
   rw [List.length_take] at this;omega
  rw [e]
  refine ACall.enter (rs:=[.tmp 4]) 18 [(0,.string s),(1,.string p)] Tryz.func155 rfl rfl (Nat.le_of_ble_eq_true rfl) rfl ⟨rfl,rfl,trivial⟩ ?_
  iterate 23 refine s1_ ?_
  refine su_ [(0,_),(1,_),(4,_)] ?_
  refine s1_ ?_
  refine ⟨_,S,⟨_,_,rfl,rfl,rfl⟩,less_,?_⟩
  exact ⟨rfl,rfl⟩
theorem HasPrefix (s p : ByteArray) (S : Mem) (hs : s.size ≤ 9223372036854775807) (hp : p.size ≤ 9223372036854775807) :
  ACall Tryz.prog 121 #[.string s,.string p] S fun r S'=>r = .bool (decide (s.data.toList.take p.size=p.data.toList))∧S'=S:=by
 refine ACall.enter (rs:=[.tmp 4]) 8 [(0,.string s),(1,.string p)] Tryz.func121 rfl rfl (Nat.le_of_ble_eq_true rfl) rfl ⟨rfl,rfl,trivial⟩ ?_
 iterate 9 refine s1_ ?_
 refine ca_ rfl (hasPrefix s p _ hs hp) ?_
 rintro _ S1 ⟨rfl,h1⟩
 rw [h1];clear h1 S1
 iterate 3 refine s1_ ?_
 refine su_ [(0,_),(1,_),(4,_)] ?_
 refine s1_ ?_
 refine ⟨_,S,⟨_,_,rfl,rfl,rfl⟩,less_,?_⟩
 exact ⟨rfl,rfl⟩
end St
end Go.Proofs.YtceikpipmcadmaaGreatDoor
namespace Go.Proofs.YtceikpipmcadmaaGreatDoor
open Go.RowKit
open Mv Disk Num
set_option maxRecDepth 4000
namespace Rec
theorem readD_size {d : D} (hR : Right d) {s : ByteArray} {k : Int} (h : (readD d s k).2 = 0) : (placeD d s k).2 = 0 ∧ (readD d s k).1.size = 64 := by
 have hp:(placeD d s k).2=0:=by
  by_cases q:(placeD d s k).2=0
  ·exact q
  ·rw [readD_see,if_pos q] at h;exact absurd h q
 refine ⟨hp,?_⟩
 rw [readD_see,if_neg (by simpa using hp)]
 obtain ⟨h1,h2,h3⟩:=place0 hp
 have hx:=exOf_has hR.ex.asc h1
 have he:=(eok_sec (hR.ex.ok _ hx.1)).2
 unfold seen
 rcases seeW_mem allK d.waits s k ((exOf d.ext s).2.extract (64*k.toNat) (64*k.toNat+64)) d.waits.length with e | ⟨w,hw,_,_,e⟩
 ·rw [e,ByteArray.size_extract];omega
 ·rw [e]
  obtain ⟨_,_,_,_,_,h64⟩:=hR.wr w hw
  exact h64
noncomputable def headD (d : D) (s : ByteArray) : Nat × Nat × Int :=
  if (readD d s 0).2 ≠ 0 then (0, 0, (readD d s 0).2) else
  if (formP (readD d s 0).1).2.2 ≠ 0 then (0, 0, (formP (readD d s 0).1).2.2) else
  if (needP (formP (readD d s 0).1).1 (formP (readD d s 0).1).2.1).2 ≠ 0 ∨ (sec (exOf d.ext s) : Int) ≠ (needN (formP (readD d s 0).1).1 (formP (readD d s 0).1).2.1 : Nat) then (0, 0, 2) else
  formP (readD d s 0).1
theorem readO_open {d : D} (h : (openD d).2 = 0) (s : ByteArray) (k : Int) : readO d s k = readD d s k := by unfold readO; rw [if_neg (by omega)]
theorem headP_open {d : D} (h : (openD d).2 = 0) (s : ByteArray) : headP d s = headD d s := by
 unfold headP headD
 rw [readO_open h]
 by_cases q:(readD d s 0).2≠0
 ·rw [if_pos q,if_pos q]
 rw [if_neg q,if_neg q]
 have hh:has d.ext s=true:=by
  have q:(readD d s 0).2=0:=by omega
  by_cases p:(placeD d s 0).2=0
  ·exact (place0 p).1
  ·rw [readD_see,if_pos p] at q;exact absurd q p
 have hs:(sectorsD d s).1=((sec (exOf d.ext s):Nat):Int):=by unfold sectorsD;rw [if_neg (by omega),if_pos hh]
 rw [hs]
theorem headP_shut {d : D} (h : (openD d).2 ≠ 0) (s : ByteArray) : headP d s = (0, 0, (openD d).2) := by
 have e:(readO d s 0).2=(openD d).2:=by unfold readO;rw [if_pos h]
 unfold headP
 rw [if_pos (by rw [e];exact h),e]
theorem rec_zeros (s : ByteArray) (S : Mem) (hs : s.size ≤ 9223372036854775807) : ACall Tryz.prog 106 #[.string s] S fun r S' => r = .bool (zeroL s.data.toList) ∧ S' = S := by
 have e:decide (bs ((St.rtrim 0 s.data.toList).dropWhile (· == 0))=ByteArray.empty)=zeroL s.data.toList:=by
  rw [Bool.eq_iff_iff,decide_eq_true_eq]
  unfold zeroL
  rw [← St.trim_nil]
  constructor
  ·intro h
   have:=congrArg (fun x=>x.data.toList) h
   rw [bs_data] at this
   exact this
  ·intro h;rw [h];rfl
 refine ACall.enter (rs:=[.tmp 2]) 6 [(0,.string s)] Tryz.func106 rfl rfl (Nat.le_of_ble_eq_true rfl) rfl ⟨rfl,trivial⟩ ?_
 iterate 8 refine s1_ ?_
 refine ca_ rfl (St.trim0 s _ hs) ?_
 rintro _ S1 ⟨rfl,h1⟩
 rw [h1];clear h1 S1
 iterate 4 refine s1_ ?_
 refine su_ [(0,_),(2,_)] ?_
 refine s1_ ?_
 refine ⟨_,S,⟨_,_,rfl,rfl,rfl⟩,less_,?_⟩
 exact ⟨by rw [← e];rfl,rfl⟩
def formV (p : Nat × Nat × Int) : Value := .tuple #[.int .i64 (p.1 : Nat), .int .u64 (p.2.1 : Nat), .int .i64 p.2.2]
theorem at8_getD (l : List UInt8) (j : Nat) : at8 l j = l.getD j 0 := rfl
set_option maxHeartbeats 1000000 in
theorem rec_form (s : ByteArray) (S : Mem) (hs : s.size = 64) : ACall Tryz.prog 99 #[.string s] S fun r S' => r = formV (formP s) ∧ S' = S := by
 have hpre:=fun M=>St.HasPrefix s ⟨#[87,82]⟩ M (by omega) (by show 2≤_;decide)
 have hl2:(⟨#[87,82]⟩ : ByteArray).data.toList = [87,82]:=rfl
 rw [hl2] at hpre
 have hsl:=St.len_list s
 unfold formV formP
 by_cases h1:s.data.toList.take 2 = [87,82]
 ·rw [show s.data.toList.take (⟨#[87,82]⟩ : ByteArray).size=s.data.toList.take 2 from rfl,decide_eq_true h1] at hpre
  by_cases h2:8<(s.data.toList.getD 2 0).toNat
  ·rw [if_pos (.inr (.inl h2))]
   have hn:(8:Int)<nb (at8 s.data.toList (2:Int).toNat):=by rw [at8_getD];unfold nb;exact Int.ofNat_lt.2 h2
   refine ACall.enter (rs:=[.tmp 2,.tmp 3,.tmp 4]) 36 [(0,.string s)] Tryz.func99 rfl rfl (Nat.le_of_ble_eq_true rfl) rfl ⟨rfl,trivial⟩ ?_
   iterate 11 refine s1_ ?_
   refine ca_ rfl (hpre _) ?_
   rintro _ S1 ⟨rfl,h1⟩
   rw [h1];clear h1 S1
   iterate 3 refine s1_ ?_
   first|refine k_q 10 ?_|refine rG 10 (Calm.indexStr (strT_spec ty_str_9) rfl rfl (by omega) (by omega)) ?_
   iterate 10 refine s1_ ?_
   refine su_ [(0,_),(2,_),(3,_),(4,_),(20,_)] ?_
   refine cT_ ?_
   iterate 9 refine s1_ ?_
   refine ⟨_,S,⟨_,_,rfl,⟨_,_,rfl,⟨_,_,rfl,rfl,rfl⟩,rfl⟩,rfl⟩,less_,?_⟩
   exact ⟨rfl,rfl⟩
  ·have hn : ¬ (8:Int)<nb (at8 s.data.toList (2:Int).toNat):=by rw [at8_getD];unfold nb;exact fun h=>h2 (Int.ofNat_lt.1 h)
   have hn0:=nb_nonneg (at8 s.data.toList (2:Int).toNat)
   have hex:∀ n:Nat,n≤64→(s.extract n s.size).data.toList=s.data.toList.drop n:=fun n hn=>by simp [Lib.extract_data];rw [List.take_of_length_le (by rw [List.length_drop];omega)]
   have hz:=fun M=>rec_zeros (s.extract 12 s.size) M (by rw [ByteArray.size_extract];omega)
   rw [hex 12 (by decide)] at hz
   by_cases h3:zeroL (s.data.toList.drop 12)=false
   ·rw [if_pos (.inr (.inr h3))]
    rw [h3] at hz
    refine ACall.enter (rs:=[.tmp 2,.tmp 3,.tmp 4]) 36 [(0,.string s)] Tryz.func99 rfl rfl (Nat.le_of_ble_eq_true rfl) rfl ⟨rfl,trivial⟩ ?_
    iterate 11 refine s1_ ?_
    refine ca_ rfl (hpre _) ?_
    rintro _ S1 ⟨rfl,h1⟩
    rw [h1];clear h1 S1
    iterate 3 refine s1_ ?_
    first|refine k_q 10 ?_|refine rG 10 (Calm.indexStr (strT_spec ty_str_9) rfl rfl (by omega) (by omega)) ?_
    iterate 5 refine s1_ ?_
    refine ARun.callG 8 false 15 rfl (lit_lt rfl) rfl (lit_lt rfl) go_106 rfl (hz _) ?_
    rintro _ S1 ⟨rfl,h1⟩
    rw [h1];clear h1 S1
    iterate 4 refine s1_ ?_
    refine su_ [(0,_),(2,_),(3,_),(4,_),(20,_)] ?_
    refine cT_ ?_
    iterate 9 refine s1_ ?_
    refine ⟨_,S,⟨_,_,rfl,⟨_,_,rfl,⟨_,_,rfl,rfl,rfl⟩,rfl⟩,rfl⟩,less_,?_⟩
    exact ⟨rfl,rfl⟩
   ·rw [if_neg (fun h=>by rcases h with h | h | h;exact h h1;exact h2 h;exact h3 h)]
    rw [Bool.not_eq_false] at h3
    rw [h3] at hz
    have ho:∀ M,ACall Tryz.prog 123 #[.string (s.extract 0 12)] M fun r S'=>r = .tuple #[.string (openS (s.extract 0 12)).1,.int .i64 (openS (s.extract 0 12)).2]∧S'=M:=fun M=>ACall.of_calls fun w=>crc_Open _ (by rw [ByteArray.size_extract,hs];decide) w
    have hof:=fun M=>numV_Of (s.extract 3 s.size) M (by rw [ByteArray.size_extract];omega) (by rw [ByteArray.size_extract];omega)
    rw [hex 3 (by decide)] at hof
    by_cases h4:(openS (s.extract 0 12)).2=0
    ·rw [if_neg (by omega)]
     rw [h4] at ho
     refine ACall.enter (rs:=[.tmp 2,.tmp 3,.tmp 4]) 36 [(0,.string s)] Tryz.func99 rfl rfl (Nat.le_of_ble_eq_true rfl) rfl ⟨rfl,trivial⟩ ?_
     iterate 11 refine s1_ ?_
     refine ca_ rfl (hpre _) ?_
     rintro _ S1 ⟨rfl,h1⟩
     rw [h1];clear h1 S1
     iterate 3 refine s1_ ?_
     first|refine k_q 10 ?_|refine rG 10 (Calm.indexStr (strT_spec ty_str_9) rfl rfl (by omega) (by omega)) ?_
     iterate 5 refine s1_ ?_
     refine ARun.callG 8 false 15 rfl (lit_lt rfl) rfl (lit_lt rfl) go_106 rfl (hz _) ?_
     rintro _ S1 ⟨rfl,h1⟩
     rw [h1];clear h1 S1
     iterate 4 refine s1_ ?_
     refine su_ [(0,_),(2,_),(3,_),(4,_),(20,_)] ?_
     refine cF_ ?_
     iterate 7 refine s1_ ?_
     refine ca_ rfl (ho _) ?_
     rintro _ S1 ⟨rfl,h1⟩
     rw [h1];clear h1 S1
     iterate 7 refine s1_ ?_
     refine su_ [(0,_),(2,_),(3,_),(4,_),(20,_),(6,_)] ?_
     iterate 6 refine s1_ ?_
     refine su_ [(0,_),(2,_),(3,_),(4,_),(20,_),(6,_),(28,_)] ?_
     refine cF_ ?_
     iterate 3 refine s1_ ?_
     refine AWP.draw [(0,true),(1,true),(2,true),(3,true),(4,true),(5,false),(6,true),(7,true),(8,true)] [] mixed (by kernel_rfl) ?_
     iterate 5 refine s1_ ?_
     refine draw_only rfl ?_
     refine ca_ rfl (hof _) ?_
     rintro _ S1 ⟨rfl,h1⟩
     rw [h1];clear h1 S1
     refine arun_nil ⟨fun _=>less_,?_⟩
     iterate 5 refine s1_ ?_
     refine su_ [(0,_),(2,_),(3,_),(4,_),(20,_),(6,_),(28,_)] ?_
     refine s1_ ?_
     refine ⟨_,S,⟨_,_,rfl,⟨_,_,rfl,⟨_,_,rfl,rfl,rfl⟩,rfl⟩,rfl⟩,less_,?_⟩
     exact ⟨rfl,rfl⟩
    ·rw [if_pos h4]
     refine ACall.enter (rs:=[.tmp 2,.tmp 3,.tmp 4]) 36 [(0,.string s)] Tryz.func99 rfl rfl (Nat.le_of_ble_eq_true rfl) rfl ⟨rfl,trivial⟩ ?_
     iterate 11 refine s1_ ?_
     refine ca_ rfl (hpre _) ?_
     rintro _ S1 ⟨rfl,h1⟩
     rw [h1];clear h1 S1
     iterate 3 refine s1_ ?_
     first|refine k_q 10 ?_|refine rG 10 (Calm.indexStr (strT_spec ty_str_9) rfl rfl (by omega) (by omega)) ?_
     iterate 5 refine s1_ ?_
     refine ARun.callG 8 false 15 rfl (lit_lt rfl) rfl (lit_lt rfl) go_106 rfl (hz _) ?_
     rintro _ S1 ⟨rfl,h1⟩
     rw [h1];clear h1 S1
     iterate 4 refine s1_ ?_
     refine su_ [(0,_),(2,_),(3,_),(4,_),(20,_)] ?_
     refine cF_ ?_
     iterate 7 refine s1_ ?_
     refine ca_ rfl (ho _) ?_
     rintro _ S1 ⟨rfl,h1⟩
     rw [h1];clear h1 S1
     iterate 7 refine s1_ ?_
     refine su_ [(0,_),(2,_),(3,_),(4,_),(20,_),(6,_)] ?_
     iterate 6 refine s1_ ?_
     refine su_ [(0,_),(2,_),(3,_),(4,_),(20,_),(6,_),(28,_)] ?_
     refine cT_ ?_
     iterate 8 refine s1_ ?_
     refine su_ [(0,_),(2,_),(3,_),(4,_),(20,_),(6,_),(28,_)] ?_
     iterate 2 refine s1_ ?_
     refine ⟨_,S,⟨_,_,rfl,⟨_,_,rfl,⟨_,_,rfl,rfl,rfl⟩,rfl⟩,rfl⟩,less_,?_⟩
     exact ⟨rfl,rfl⟩
 ·rw [if_pos (.inl h1)]
  rw [show s.data.toList.take (⟨#[87,82]⟩ : ByteArray).size=s.data.toList.take 2 from rfl,decide_eq_false h1] at hpre
  refine ACall.enter (rs:=[.tmp 2,.tmp 3,.tmp 4]) 36 [(0,.string s)] Tryz.func99 rfl rfl (Nat.le_of_ble_eq_true rfl) rfl ⟨rfl,trivial⟩ ?_
  iterate 11 refine s1_ ?_
  refine ca_ rfl (hpre _) ?_
  rintro _ S1 ⟨rfl,h1⟩
  rw [h1];clear h1 S1
  iterate 14 refine s1_ ?_
  refine su_ [(0,_),(2,_),(3,_),(4,_),(20,_)] ?_
  refine cT_ ?_
  iterate 9 refine s1_ ?_
  refine ⟨_,S,⟨_,_,rfl,⟨_,_,rfl,⟨_,_,rfl,rfl,rfl⟩,rfl⟩,rfl⟩,less_,?_⟩
  exact ⟨rfl,rfl⟩
theorem knows_snd {S : Mem} {b o : Nat} {u v : Value} (h : S.Knows ⟨b, o, none⟩ [u, v]) : S.Knows ⟨b, o + 1, none⟩ [v] := fun w hv j x hj => by
 cases j with
 | zero =>
  have:=h w hv 1 v rfl
  simp only [List.getElem?_cons_zero,Option.some.injEq] at hj
  subst hj
  rw [addr_add] at this ⊢
  exact this
 | succ j=>simp at hj
theorem rec_name (s n : ByteArray) (x : ByteArray) (kb : Nat) (S : Mem) (hk : S.Knows ⟨kb, 0, none⟩ [.string s]) :
  ACall Tryz.prog 101 #[.agg #[.string n,.string x],.pointer (some ⟨kb,0,none⟩)] S fun r S'=>r = .bool (decide (n=s))∧S'=S:=by
 refine ACall.enter (rs:=[.tmp 3]) 8 [(0,.agg #[.string n,.string x]),(1,.pointer (some ⟨kb,0,none⟩))] Tryz.func101 rfl rfl (Nat.le_of_ble_eq_true rfl) rfl ⟨rfl,rfl,trivial⟩ ?_
 iterate 2 refine s1_ ?_
 refine ARun.boxA (cs:=[_,_]) (lit_lt rfl) rfl ?_
 intro b2 f2
 have g2:=f2
 repeat ((with_reducible replace g2:=fresh_set g2);obtain ⟨g2,_⟩:=g2)
 refine nl_ ?_
 iterate 12 refine s1_ ?_
 refine su_ [(0,_),(1,_),(2,_),(3,_)] ?_
 refine s1_ ?_
 refine ⟨_,S,⟨_,_,rfl,rfl,rfl⟩,less_,?_⟩
 exact ⟨rfl,rfl⟩
theorem rec_index (v : Value) (l : List Ext) (s : ByteArray) (kb : Nat) (S : Mem) (hl : Sl 2 extF S v l) (hk : S.Knows ⟨kb, 0, none⟩ [.string s]) (x : Ext) (hx : x ∈ l) (hxs : x.1 = s) (ha : Asc l) :
  ACall Tryz.prog 100 #[v,.func (.func 101) #[] #[.pointer (some ⟨kb,0,none⟩)]] S fun r S'=>(∃ j,∃ h:j<l.length,r = .int .i64 (j:Int)∧l[j]=x)∧S'=S:=by
 obtain ⟨a,cap,rfl,h1,h2,h3⟩:=id hl
 refine ACall.enter (rs:=[.tmp 4]) 19 [(0,.slice a l.length cap),(1,.func (.func 101) #[] #[.pointer (some ⟨kb,0,none⟩)])] Tryz.func100 rfl rfl (Nat.le_of_ble_eq_true rfl) rfl ⟨rfl,rfl,trivial⟩ ?_
 iterate 13 refine s1_ ?_
 refine su_ [(0,_),(1,_),(4,_),(7,_),(8,_)] ?_
 refine s1_ ?_
 refine AWP.loop (X:=Nat) (fun i=>[(0,.slice a l.length cap),(1,.func (.func 101) #[] #[.pointer (some ⟨kb,0,none⟩)]),(7,.int .i64 l.length),(8,.int .i64 i)]) (fun i=>S) (fun i=>i≤l.length ∧ ∀ j (h:j<l.length),j<i→l[j].1≠s) (fun i=>l.length-i) (0) ⟨rfl,rfl,rfl,rfl,trivial⟩ (Mem.Less.refl _) (⟨Nat.zero_le _,fun j _ h=>absurd h (Nat.not_lt_zero _)⟩) ?_
 rintro i ⟨hi,hall⟩
 (try dsimp only at *)
 obtain ⟨j0,hj0,e0⟩:=List.getElem_of_mem hx
 have hc:i<l.length:=by rcases Nat.lt_or_ge i l.length with h | h;exact h;exact absurd (by rw [e0];exact hxs) (hall j0 hj0 (by omega))
 iterate 6 refine s1_ ?_
 refine cT_ ?_
 obtain ⟨b,off,rfl,hkk⟩:=h3.resolve_left (fun e=>by subst e;simp at hc)
 have hki:=hkk i hc
 unfold extF at hki
 iterate 10 refine s1_ ?_
 refine su_ [(0,_),(1,_),(7,_),(8,_),(9,_),(5,_)] ?_
 iterate 7 refine s1_ ?_
 refine ARun.callV (lit_lt rfl) go_101 rfl rfl (rec_name s l[i].1 l[i].2 kb _ hk) ?_
 rintro _ S1 ⟨rfl,h1⟩
 rw [h1];clear h1 S1
 iterate 2 refine s1_ ?_
 refine su_ [(0,_),(1,_),(7,_),(8,_),(9,_),(5,_),(16,_)] ?_
 refine AWP.condB rfl (fun hb=>?_) (fun hb=>?_)
 ·have hb:=of_decide_eq_true hb
  iterate 6 refine s1_ ?_
  refine su_ [(0,_),(1,_),(7,_),(8,_),(9,_),(5,_),(16,_),(4,_)] ?_
  iterate 6 refine s1_ ?_
  refine ⟨_,S,⟨_,_,rfl,rfl,rfl⟩,less_,?_⟩
  exact ⟨⟨i,hc,rfl,by have e1:=exOf_mem ha (List.getElem_mem hc);have e2:=exOf_mem ha hx;rw [← e1,← e2,hb,hxs]⟩,rfl⟩
 ·have hb:=of_decide_eq_false hb
  iterate 8 refine s1_ ?_
  refine ⟨i+1,?_,?_,?_,?_⟩
  all_goals (try dsimp only)
  ·exact ⟨rfl,rfl,rfl,rfl,trivial⟩
  ·exact less_
  ·exact ⟨hc,fun j h hj=>by rcases Nat.lt_or_ge j i with h' | h';exact hall j h h';obtain rfl:j=i:=(by omega);exact hb⟩
  ·omega
end Rec
end Go.Proofs.YtceikpipmcadmaaGreatDoor
namespace Go.Proofs.YtceikpipmcadmaaGreatDoor
open Go.RowKit
open Mv Num
set_option maxRecDepth 4000
set_option maxHeartbeats 1000000 in
theorem rnumV_Less (a b : List Nat) (va vb : Value) (S : Mem) (ha : Sl 1 u64s S va a) (hb : Sl 1 u64s S vb b) :
  ACall Tryz.prog 108 #[va,vb] S fun r S'=>r = .bool (lessB a b)∧S'=S:=by
 obtain ⟨pa,ca,rfl,ha1,ha2,ha3⟩:=ha
 obtain ⟨pb,cb,rfl,hb1,hb2,hb3⟩:=hb
 refine ACall.enter (rs:=[.tmp 4]) 41 [(0,.slice pa a.length ca),(1,.slice pb b.length cb)] Tryz.func108 rfl rfl (Nat.le_of_ble_eq_true rfl) rfl ⟨rfl,rfl,trivial⟩ ?_
 iterate 12 refine s1_ ?_
 refine AWP.loop (X:=Nat) (fun x=>[(0,.slice pa a.length ca),(1,.slice pb b.length cb),(5,.int .i64 x)]) (fun x=>S) (fun x=>x≤a.length∧x≤b.length∧lessB (a.drop x) (b.drop x)=lessB a b) (fun x=>a.length-x) (0) ⟨rfl,rfl,rfl,trivial⟩ (Mem.Less.refl _) (⟨Nat.zero_le _,Nat.zero_le _,rfl⟩) ?_
 rintro i ⟨hi1,hi2,hq⟩
 (try dsimp only at *)
 by_cases hl:i<a.length
 ·by_cases hlb:i<b.length
  ·iterate 15 refine s1_ ?_
   refine su_ [(0,_),(1,_),(5,_),(15,_)] ?_
   refine cT_ ?_
   rw [List.drop_eq_getElem_cons hl,List.drop_eq_getElem_cons hlb,lessB] at hq
   obtain ⟨b0,off,rfl,hkn⟩:=ha3.resolve_left (by intro h;rw [h] at hl;exact absurd hl (Nat.not_lt_zero _))
   obtain ⟨b1,off1,rfl,hkn1⟩:=hb3.resolve_left (by intro h;rw [h] at hlb;exact absurd hlb (Nat.not_lt_zero _))
   have hkk:=hkn i hl
   have hkk1:=hkn1 i hlb
   by_cases c1:a[i]=b[i]
   ·iterate 5 refine s1_ ?_
    refine AWP.draw [(0,true),(1,true),(2,true),(3,true),(4,true),(5,true),(6,true),(7,true),(8,true)] [] mixed (by kernel_rfl) ?_
    iterate 11 refine s1_ ?_
    refine su_ [(0,_),(1,_),(5,_),(15,_),(26,_)] ?_
    refine cF_ ?_
    iterate 9 refine s1_ ?_
    refine ⟨i+1,?_,?_,?_,?_⟩
    all_goals (try dsimp only)
    ·exact ⟨rfl,rfl,rfl,trivial⟩
    ·exact Mem.Less.refl _
    ·exact ⟨hl,hlb,by rw [← hq];simp [c1]⟩
    ·omega
   ·iterate 5 refine s1_ ?_
    refine AWP.draw [(0,true),(1,true),(2,true),(3,true),(4,true),(5,true),(6,true),(7,true),(8,true)] [] mixed (by kernel_rfl) ?_
    iterate 11 refine s1_ ?_
    refine su_ [(0,_),(1,_),(5,_),(15,_),(26,_)] ?_
    refine cT_ ?_
    refine s1_ ?_
    refine AWP.draw [(0,true),(1,true),(2,true),(3,true),(4,true),(5,true),(6,true),(7,true),(8,true),(9,true)] [] mixed (by kernel_rfl) ?_
    iterate 12 refine s1_ ?_
    refine su_ [(0,_),(1,_),(5,_),(15,_),(26,_),(4,_)] ?_
    iterate 6 refine s1_ ?_
    refine ⟨_,S,⟨_,_,rfl,rfl,rfl⟩,less_,?_⟩
    exact ⟨by rw [← hq];simp [c1,one],rfl⟩
  ·iterate 15 refine s1_ ?_
   refine su_ [(0,_),(1,_),(5,_),(15,_)] ?_
   refine cF_ ?_
   rw [List.drop_of_length_le (show b.length≤i by omega)] at hq
   obtain ⟨x,y,hxy⟩ : ∃ x y,a.drop i=x :: y:=⟨_,_,List.drop_eq_getElem_cons hl⟩
   rw [hxy] at hq
   iterate 15 refine s1_ ?_
   refine su_ [(0,_),(1,_),(5,_),(15,_),(4,_)] ?_
   refine s1_ ?_
   refine ⟨_,S,⟨_,_,rfl,rfl,rfl⟩,less_,?_⟩
   exact ⟨by rw [← hq];show Value.bool _=Value.bool _;congr 1 <;> (first | (simp [lessB];done) | (simp [lessB];omega)),rfl⟩
 ·iterate 15 refine s1_ ?_
  refine su_ [(0,_),(1,_),(5,_),(15,_)] ?_
  refine cF_ ?_
  rw [List.drop_of_length_le (show a.length≤i by omega)] at hq
  by_cases hlb:i<b.length
  ·rw [List.drop_eq_getElem_cons hlb] at hq
   iterate 15 refine s1_ ?_
   refine su_ [(0,_),(1,_),(5,_),(15,_),(4,_)] ?_
   refine s1_ ?_
   refine ⟨_,S,⟨_,_,rfl,rfl,rfl⟩,less_,?_⟩
   exact ⟨by rw [← hq];show Value.bool _=Value.bool _;congr 1 <;> (first | (simp [lessB];done) | (simp [lessB];omega)),rfl⟩
  ·rw [List.drop_of_length_le (show b.length≤i by omega)] at hq
   iterate 15 refine s1_ ?_
   refine su_ [(0,_),(1,_),(5,_),(15,_),(4,_)] ?_
   refine s1_ ?_
   refine ⟨_,S,⟨_,_,rfl,rfl,rfl⟩,less_,?_⟩
   exact ⟨by rw [← hq];show Value.bool _=Value.bool _;congr 1 <;> (first | (simp [lessB];done) | (simp [lessB];omega)),rfl⟩
theorem rnumV_SameOne (a b : List Nat) (va vb : Value) (S : Mem) (ha : Sl 1 u64s S va a) (hb : Sl 1 u64s S vb b) :
  ACall Tryz.prog 59 #[va,vb] S fun r S'=>r = .bool (decide (a=b))∧S'=S:=by
 cases h1:lessB a b with
 | true =>
  have e:decide (a=b)=false:=decide_eq_false fun e=>by rw [e,lessB_irrefl] at h1;cases h1
  rw [e]
  refine ACall.enter (rs:=[.tmp 4]) 15 [(0,va),(1,vb)] Tryz.func59 rfl rfl (Nat.le_of_ble_eq_true rfl) rfl ⟨rfl,rfl,trivial⟩ ?_
  iterate 9 refine s1_ ?_
  refine ca_ rfl (rnumV_Less a b va vb S ha hb) ?_
  rintro _ S1 ⟨rfl,hS1⟩
  rw [hS1,h1];clear hS1 S1
  iterate 10 refine s1_ ?_
  refine su_ [(0,_),(1,_),(4,_)] ?_
  refine s1_ ?_
  refine ⟨_,S,⟨_,_,rfl,rfl,rfl⟩,less_,?_⟩
  exact ⟨rfl,rfl⟩
 | false =>
  have e:decide (a=b) = !lessB b a:=by
   cases h2:lessB b a with
   | true=>exact decide_eq_false fun e=>by rw [e,lessB_irrefl] at h2;cases h2
   | false=>exact decide_eq_true (lessB_total a b h1 h2)
  rw [e]
  refine ACall.enter (rs:=[.tmp 4]) 15 [(0,va),(1,vb)] Tryz.func59 rfl rfl (Nat.le_of_ble_eq_true rfl) rfl ⟨rfl,rfl,trivial⟩ ?_
  iterate 9 refine s1_ ?_
  refine ca_ rfl (rnumV_Less a b va vb S ha hb) ?_
  rintro _ S1 ⟨rfl,hS1⟩
  rw [hS1,h1];clear hS1 S1
  iterate 4 refine s1_ ?_
  refine ARun.callG 4 true 9 rfl (lit_lt rfl) rfl (lit_lt rfl) go_108 rfl (rnumV_Less b a vb va S hb ha) ?_
  rintro _ S1 ⟨rfl,hS1⟩
  rw [hS1];clear hS1 S1
  iterate 5 refine s1_ ?_
  refine su_ [(0,_),(1,_),(4,_)] ?_
  refine s1_ ?_
  refine ⟨_,S,⟨_,_,rfl,rfl,rfl⟩,less_,?_⟩
  exact ⟨rfl,rfl⟩
set_option maxHeartbeats 1000000 in
theorem rnumV_Same (a b : List (List Nat)) (va vb : Value) (S : Mem) (ha : SlOf RowR S va a) (hb : SlOf RowR S vb b) :
  ACall Tryz.prog 25 #[va,vb] S fun r S'=>r = .bool (decide (a=b))∧S'=S:=by
 obtain ⟨ga,hal,⟨pa,ca,rfl,ha1,ha2,ha3⟩,hae⟩:=ha
 obtain ⟨gb,hbl,⟨pb,cb,rfl,hb1,hb2,hb3⟩,hbe⟩:=hb
 by_cases hlen:a.length=b.length
 ·have hlen0:=hlen
  refine ACall.enter (rs:=[.tmp 4]) 27 [(0,.slice pa ga.length ca),(1,.slice pb gb.length cb)] Tryz.func25 rfl rfl (Nat.le_of_ble_eq_true rfl) rfl ⟨rfl,rfl,trivial⟩ ?_
  iterate 15 refine s1_ ?_
  refine su_ [(0,_),(1,_),(4,_),(10,_)] ?_
  refine cF_ ?_
  iterate 10 refine s1_ ?_
  refine su_ [(0,_),(1,_),(4,_),(10,_),(12,_),(13,_)] ?_
  refine s1_ ?_
  refine AWP.loop (X:=Nat) (fun x=>[(0,.slice pa ga.length ca),(1,.slice pb gb.length cb),(12,.int .i64 ga.length),(13,.int .i64 x)]) (fun x=>S) (fun x=>x≤a.length ∧ ∀ j (hj:j<a.length) (hj2:j<b.length),j<x→a[j]=b[j]) (fun x=>a.length-x) (0) ⟨rfl,rfl,rfl,rfl,trivial⟩ (Mem.Less.refl _) (⟨Nat.zero_le _,fun _ _ _ h=>absurd h (Nat.not_lt_zero _)⟩) ?_
  rintro i ⟨hi1,hq⟩
  (try dsimp only at *)
  iterate 6 refine s1_ ?_
  refine AWP.condB rfl (fun hl=>?_) (fun hl=>?_)
  ·have hl:i<a.length:=by have:=of_decide_eq_true hl;omega
   have hia:i<ga.length:=by omega
   have hib:i<gb.length:=by omega
   obtain ⟨b0,off,rfl,hkn⟩:=ha3.resolve_left (by intro h;rw [h] at hia;exact absurd hia (Nat.not_lt_zero _))
   obtain ⟨b1,off1,rfl,hkn1⟩:=hb3.resolve_left (by intro h;rw [h] at hib;exact absurd hib (Nat.not_lt_zero _))
   have hkk:=hkn i hia
   have hkk1:=hkn1 i hib
   iterate 10 refine s1_ ?_
   refine su_ [(0,_),(1,_),(12,_),(13,_),(14,_),(5,_)] ?_
   refine s1_ ?_
   refine AWP.draw [(0,true),(1,true),(2,true),(3,true),(4,true),(5,true),(6,true),(7,true),(8,false),(9,true)] [] mixed (by kernel_rfl) ?_
   iterate 8 refine s1_ ?_
   refine draw_only rfl ?_
   refine ca_ rfl (rnumV_SameOne a[i] b[i] ga[i] gb[i] S (hae i hl hia) (hbe i (by omega) hib)) ?_
   rintro _ S1 ⟨rfl,h1⟩
   rw [h1];clear h1 S1
   refine arun_nil ⟨fun _=>less_,?_⟩
   iterate 3 refine s1_ ?_
   refine su_ [(0,_),(1,_),(12,_),(13,_),(14,_),(5,_),(25,_)] ?_
   by_cases c1:a[i]=b[i]
   ·refine cF_ ?_
    iterate 8 refine s1_ ?_
    refine ⟨i+1,?_,?_,?_,?_⟩
    all_goals (try dsimp only)
    ·exact ⟨rfl,rfl,rfl,rfl,trivial⟩
    ·exact Mem.Less.refl _
    ·exact ⟨hl,fun j hj hj2 hji=>by rcases Nat.lt_or_ge j i with h | h;exact hq j hj hj2 h;obtain rfl:j=i:=(by omega);exact c1⟩
    ·omega
   ·refine cT_ ?_
    iterate 11 refine s1_ ?_
    refine ⟨_,S,⟨_,_,rfl,rfl,rfl⟩,less_,?_⟩
    exact ⟨by rw [decide_eq_false (fun e=>c1 (by subst e;rfl))];rfl,rfl⟩
  ·have hl:i=a.length:=by have:=of_decide_eq_false hl;omega
   iterate 11 refine s1_ ?_
   refine ⟨_,S,⟨_,_,rfl,rfl,rfl⟩,less_,?_⟩
   exact ⟨by rw [decide_eq_true (List.ext_getElem hlen fun j h1 h2=>hq j h1 h2 (by omega))];rfl,rfl⟩
 ·have hlen0:=hlen
  refine ACall.enter (rs:=[.tmp 4]) 27 [(0,.slice pa ga.length ca),(1,.slice pb gb.length cb)] Tryz.func25 rfl rfl (Nat.le_of_ble_eq_true rfl) rfl ⟨rfl,rfl,trivial⟩ ?_
  iterate 15 refine s1_ ?_
  refine su_ [(0,_),(1,_),(4,_),(10,_)] ?_
  refine cT_ ?_
  iterate 7 refine s1_ ?_
  refine ⟨_,S,⟨_,_,rfl,rfl,rfl⟩,less_,?_⟩
  exact ⟨by rw [decide_eq_false (fun e=>hlen (by rw [e]))];rfl,rfl⟩
end Go.Proofs.YtceikpipmcadmaaGreatDoor
namespace Go.Proofs.YtceikpipmcadmaaGreatDoor
open Go.RowKit
open Mv Num
set_option maxRecDepth 4000
namespace Num
end Num
namespace Num
theorem bs_drop (s : ByteArray) (i : Nat) : s.extract i s.size = bs (s.data.toList.drop i) := by
 apply str_ext;rw [data_extract,bs_data,List.take_of_length_le (by rw [size_data];exact Nat.le_refl _)]
end Num
end Go.Proofs.YtceikpipmcadmaaGreatDoor
namespace Go.Proofs.YtceikpipmcadmaaGreatDoor
open Go.RowKit
open Mv Num
set_option maxRecDepth 4000
/-- What a split returns: rows that are known, and why. -/
def SplitR (s : ByteArray) (w : Int) (S : Mem) (r : Value) (S' : Mem) : Prop := ∃ v, r = .tuple #[v, .int .i64 (splitE s w)] ∧ S.Less S' ∧ SlOf RowR S' v (splitL s w)
theorem splitE_1 (s : ByteArray) (w : Int) (h : w < 1 ∨ 8 < w) : splitE s w = 1 ∧ splitL s w = [] := by
 have:splitE s w=1:=by unfold splitE;rw [if_pos h]
 exact ⟨this,by unfold splitL;rw [this];rfl⟩
theorem splitE_5 (s : ByteArray) (w : Int) (h : ¬ (w < 1 ∨ 8 < w)) (h2 : s.size % (5 * w.toNat) ≠ 0) : splitE s w = 5 ∧ splitL s w = [] := by
 have:splitE s w=5:=by unfold splitE;rw [if_neg h,if_pos h2]
 exact ⟨this,by unfold splitL;rw [this];rfl⟩
theorem splitE_0 (s : ByteArray) (w : Int) (h : ¬ (w < 1 ∨ 8 < w)) (h2 : s.size % (5 * w.toNat) = 0) : splitE s w = 0 ∧ splitL s w = rowsTo s.data.toList w.toNat (s.size / (5 * w.toNat)) := by
 have:splitE s w=0:=by unfold splitE;rw [if_neg h,if_neg (by omega)]
 exact ⟨this,by unfold splitL;rw [this,if_pos rfl,rowsOf,size_data]⟩
/-- A row that is being read: its numbers, and zeros behind them. -/
def rowZ (l : List UInt8) (w p j : Nat) : List Value := (nrow l j p).map (fun n : Nat => Value.int .u64 (n : Int)) ++ List.replicate (w - j) (.int .u64 0)
theorem nrow_length (l : List UInt8) (w p : Nat) : (nrow l w p).length = w := by simp [nrow]
theorem nrow_succ (l : List UInt8) (w p : Nat) : nrow l (w + 1) p = nrow l w p ++ [ofB ((l.drop (p + 5 * w)).take 5)] := by simp [nrow, List.range_succ]
theorem rowZ_length (l : List UInt8) (w p j : Nat) (h : j ≤ w) : (rowZ l w p j).length = w := by simp [rowZ, nrow_length]; omega
theorem rowZ_set (l : List UInt8) (w p j : Nat) (h : j < w) : (rowZ l w p j).set j (.int .u64 (ofB ((l.drop (p + 5 * j)).take 5) : Nat)) = rowZ l w p (j + 1) := by
 unfold rowZ
 obtain ⟨m,hm⟩ : ∃ m,w-j=m+1:=⟨w-j-1,by omega⟩
 rw [hm,List.set_append_right _ _ (by simp [nrow_length]),List.replicate_succ]
 simp only [List.length_map,nrow_length,Nat.sub_self,List.set_cons_zero,nrow_succ,List.map_append,List.append_assoc,show w-(j+1)=m from by omega]
 rfl
theorem rowZ_full (l : List UInt8) (w p : Nat) : rowZ l w p w = (nrow l w p).map (fun n : Nat => Value.int .u64 (n : Int)) := by simp [rowZ]
theorem rowZ_zero (l : List UInt8) (w p : Nat) : rowZ l w p 0 = List.replicate w (.int .u64 0) := by simp [rowZ, nrow]
theorem bs_extract (l : List UInt8) (j : Nat) : (bs l).extract j (bs l).size = bs (l.drop j) := by rw [bs_drop, bs_data]
set_option maxHeartbeats 4000000 in
theorem numV_Split (s : ByteArray) (w : Int) (S : Mem) (hs : s.size ≤ 16777216) :
  ACall Tryz.prog 56 #[.string s,.int .i64 w] S (SplitR s w S):=by
 have hsz:=size_list s
 by_cases c1:w<1
 ·obtain ⟨q1,q2⟩:=splitE_1 s w (.inl c1)
  refine ACall.enter (rs:=[.tmp 4,.tmp 5]) 50 [(0,.string s),(1,.int .i64 w)] Tryz.func56 rfl rfl (Nat.le_of_ble_eq_true rfl) rfl ⟨rfl,rfl,trivial⟩ ?_
  iterate 19 refine s1_ ?_
  refine su_ [(0,_),(1,_),(4,_),(5,_),(9,_)] ?_
  refine cT_ ?_
  iterate 9 refine s1_ ?_
  refine ⟨_,S,⟨_,_,rfl,⟨_,_,rfl,rfl,rfl⟩,rfl⟩,less_,?_⟩
  exact ⟨_,by rw [q1];rfl,Mem.Less.refl _,by rw [q2];exact SlOf.nil _ _⟩
 by_cases c2:8<w
 ·obtain ⟨q1,q2⟩:=splitE_1 s w (.inr c2)
  refine ACall.enter (rs:=[.tmp 4,.tmp 5]) 50 [(0,.string s),(1,.int .i64 w)] Tryz.func56 rfl rfl (Nat.le_of_ble_eq_true rfl) rfl ⟨rfl,rfl,trivial⟩ ?_
  iterate 19 refine s1_ ?_
  refine su_ [(0,_),(1,_),(4,_),(5,_),(9,_)] ?_
  refine cT_ ?_
  iterate 9 refine s1_ ?_
  refine ⟨_,S,⟨_,_,rfl,⟨_,_,rfl,rfl,rfl⟩,rfl⟩,less_,?_⟩
  exact ⟨_,by rw [q1];rfl,Mem.Less.refl _,by rw [q2];exact SlOf.nil _ _⟩
 obtain ⟨W,rfl⟩ : ∃ W:Nat,w=W:=⟨w.toNat,by omega⟩
 by_cases c3:s.size % (5*W)=0
 ·obtain ⟨q1,q2⟩:=splitE_0 s W (by omega) c3
  rw [Int.toNat_natCast] at q2
  obtain ⟨B,hB⟩ : ∃ B,B=5*W:=⟨_,rfl⟩
  rw [← hB] at c3 q2
  obtain ⟨Q,hQ⟩ : ∃ Q,Q=s.size / B:=⟨_,rfl⟩
  have hQB:s.size=Q*B:=by rw [hQ,Nat.mul_comm];have:=Nat.div_add_mod s.size B;omega
  rw [← hQ] at q2
  have hc3:((s.size:Int) % (5*(W:Int)))=0:=by rw [show (5*(W:Int))=((B:Nat):Int) from by omega,← Int.natCast_emod,c3];rfl
  refine ACall.enter (rs:=[.tmp 4,.tmp 5]) 50 [(0,.string s),(1,.int .i64 (W:Int))] Tryz.func56 rfl rfl (Nat.le_of_ble_eq_true rfl) rfl ⟨rfl,rfl,trivial⟩ ?_
  iterate 19 refine s1_ ?_
  refine su_ [(0,_),(1,_),(4,_),(5,_),(9,_)] ?_
  refine cF_ ?_
  iterate 7 refine s1_ ?_
  refine rC (Calm.bin rfl rfl (bin_bool (bin_neq _ _) (bnot_dec_false hc3))) ?_
  iterate 3 refine s1_ ?_
  refine su_ [(0,_),(1,_),(4,_),(5,_),(9,_),(16,_)] ?_
  refine cF_ ?_
  iterate 10 refine s1_ ?_
  refine AWP.loop (X:=Nat × Mem × Option (Nat × Nat) × List Value) (fun x=>[(0,.string (bs (s.data.toList.drop (x.1*B)))),(1,.int .i64 W),(6,outV x.2.2.1 x.2.2.2.length)]) (fun x=>outM x.2.1 x.2.2.1 69 x.2.2.2) (fun x=>x.1≤Q∧x.2.2.2.length=x.1∧GrowI RowR S x.2.1 x.2.2.1 x.2.2.2 (rowsTo s.data.toList W x.1)) (fun x=>Q-x.1) ((0,S,none,[])) ⟨by rw [Nat.zero_mul,List.drop_zero,bs_of];rfl,rfl,rfl,trivial⟩ (Mem.Less.refl _) (⟨Nat.zero_le _,rfl,GrowI.nil _ _⟩) ?_
  rintro ⟨k,M,o,hs⟩ ⟨hk,hkl,hI⟩
  (try dsimp only at *)
  have hkQ:k*B≤Q*B:=Nat.mul_le_mul_right _ hk
  have hk5:k*5≤k*B:=Nat.mul_le_mul_left _ (by omega)
  have hlen:(s.data.toList.drop (k*B)).length=s.size-k*B:=by rw [List.length_drop];omega
  obtain ⟨R,hR⟩ : ∃ R,R=s.data.toList.drop (k*B):=⟨_,rfl⟩
  rw [← hR] at hlen ⊢
  have hRs:=bs_size R
  by_cases hl:k<Q
  ·have hkB:(k+1)*B≤Q*B:=Nat.mul_le_mul_right _ hl
   rw [Nat.succ_mul] at hkB
   iterate 4 refine s1_ ?_
   refine rC (Calm.bin rfl rfl (bin_bool (bin_str_neq _ _) (bnot_dec_true (fun e=>by have h0:R.length=0:=(by rw [← bs_size R,e];rfl);omega)))) ?_
   iterate 2 refine s1_ ?_
   refine su_ [(0,_),(1,_),(6,_),(24,_)] ?_
   refine cT_ ?_
   iterate 7 refine s1_ ?_
   refine ARun.makeSlice (lit_lt rfl) ty_sl_69 rfl rfl (by omega) (by omega) (by omega) (by omega) ?_
   intro b30 f30
   have g30:=f30
   repeat ((with_reducible replace g30:=fresh_set g30);obtain ⟨g30,_⟩:=g30)
   iterate 3 refine s1_ ?_
   refine su_ [(0,_),(1,_),(6,_),(24,_),(7,_)] ?_
   simp only [Nat.mul_one,madeL_one,Int.toNat_natCast]
   obtain ⟨hfM,hnq⟩:=fresh_outM f30
   iterate 8 refine s1_ ?_
   refine su_ [(0,_),(1,_),(6,_),(24,_),(7,_),(32,_),(33,_)] ?_
   refine s1_ ?_
   refine AWP.loop (X:=Nat) (fun x=>[(0,.string (bs R)),(1,.int .i64 W),(6,outV o hs.length),(7,.slice (some ⟨b30,0,none⟩) W W),(32,.int .i64 W),(33,.int .i64 x)]) (fun x=>(outM M o 69 hs).set b30 ⟨27,rowZ s.data.toList W (k*B) x,W⟩) (fun x=>x≤W) (fun x=>W-x) (0) ⟨rfl,rfl,rfl,rfl,rfl,rfl,trivial⟩ (by simp only [rowZ_zero];exact Mem.Less.refl _) (Nat.zero_le _) ?_
   rintro j hj
   (try dsimp only at *)
   iterate 6 refine s1_ ?_
   refine AWP.condB rfl (fun hjl=>?_) (fun hjl=>?_)
   ·have hjl:j<W:=by have:=of_decide_eq_true hjl;omega
    have hzl:=rowZ_length s.data.toList W (k*B) j hj
    have he:(bs R).extract (5*(j:Int)).toNat (bs R).size=bs (s.data.toList.drop (k*B+5*j)):=by rw [show (5*(j:Int)).toNat=5*j from by omega,bs_extract,hR,List.drop_drop]
    have hel:=bs_size (s.data.toList.drop (k*B+5*j))
    rw [List.length_drop] at hel
    iterate 10 refine s1_ ?_
    refine su_ [(0,_),(1,_),(6,_),(7,_),(32,_),(33,_),(34,_),(8,_)] ?_
    iterate 6 refine s1_ ?_
    refine rC (Calm.as (congrArg Value.string he) (Calm.sliceStr (strT_spec ty_str_9) rfl (bnd_none _ _) (bnd_some _ _ rfl (by omega) (by omega)))) ?_
    refine ca_ rfl (numV_Of (bs (s.data.toList.drop (k*B+5*j))) _ (by omega) (by omega)) ?_
    rintro _ S1 ⟨rfl,h1⟩
    rw [h1,bs_data];clear h1 S1
    iterate 5 refine s1_ ?_
    refine su_ [(0,_),(1,_),(6,_),(7,_),(32,_),(33,_),(34,_),(8,_)] ?_
    simp only [Nat.zero_add,Nat.mul_one,Int.toNat_natCast,rowZ_set _ _ _ _ hjl]
    iterate 5 refine s1_ ?_
    refine ⟨j+1,?_,?_,?_,?_⟩
    all_goals (try dsimp only)
    ·exact ⟨rfl,rfl,rfl,rfl,rfl,rfl,trivial⟩
    ·exact Mem.Less.refl _
    ·exact hjl
    ·omega
   ·have hjl:j=W:=by have:=of_decide_eq_false hjl;omega
    subst hjl
    rw [rowZ_full]
    have hnr:=nrow_length s.data.toList j (k*B)
    rw [outM_set _ _ _ _ _ _ hnq]
    have ho1:=hI.ok.set (r:=⟨27,(nrow s.data.toList j (k*B)).map (fun n:Nat=>Value.int .u64 (n:Int)),j⟩) hnq
    have hr:=sl_u64 (S:=M.set b30 ⟨27,(nrow s.data.toList j (k*B)).map (fun n:Nat=>Value.int .u64 (n:Int)),j⟩) (cap:=j) (Mem.own_set_same _ _ _) hnr (Nat.le_refl _) (by omega)
    have hlm:=Mem.less_set M b30 ⟨27,(nrow s.data.toList j (k*B)).map (fun n:Nat=>Value.int .u64 (n:Int)),j⟩ hfM.1
    obtain ⟨M1,hM1⟩ : ∃ M1,M1=M.set b30 ⟨27,(nrow s.data.toList j (k*B)).map (fun n:Nat=>Value.int .u64 (n:Int)),j⟩:=⟨_,rfl⟩
    rw [← hM1] at ho1 hr hlm ⊢
    iterate 8 refine s1_ ?_
    refine ARun.build1s (lit_lt rfl) ty_sl_26 rfl rfl ?_
    intro b47 f47
    have g47:=f47
    repeat ((with_reducible replace g47:=fresh_set g47);obtain ⟨g47,_⟩:=g47)
    refine ARun.appendO (lit_lt rfl) ty_sl_26 rfl rfl (appO_of ho1 rfl g47) rfl (news:=[_]) rds_ rfl (by omega) (by simp [Value.oneCell']) (by omega) (by omega) ?_
    intro b48 c48 ho2
    have hI2:=hI.step rowR_less hlm hr ho2
    rw [show k*B=k*(5*j) from by rw [hB],← rowsTo_succ] at hI2
    have hst2:(bs R).extract (5*(j:Int)).toNat (bs R).size=bs (s.data.toList.drop ((k+1)*B)):=by rw [show (5*(j:Int)).toNat=B from by omega,bs_extract,hR,List.drop_drop,Nat.succ_mul]
    iterate 4 refine s1_ ?_
    refine su_ [(0,_),(1,_),(6,_),(7,_),(32,_),(33,_),(34,_)] ?_
    iterate 4 refine s1_ ?_
    refine rC (Calm.as (congrArg Value.string hst2) (Calm.sliceStr (strT_spec ty_str_9) rfl (bnd_none _ _) (bnd_some _ _ rfl (by omega) (by omega)))) ?_
    iterate 3 refine s1_ ?_
    refine ⟨(k+1,M1,some (b48,c48),hs ++ [.slice (some ⟨b30,0,none⟩) j j]),?_,?_,?_,?_⟩
    all_goals (try dsimp only)
    ·exact ⟨rfl,rfl,by rw [List.length_append];rfl,trivial⟩
    ·exact Mem.Less.refl _
    ·exact ⟨hl,by rw [List.length_append,hkl];rfl,hI2⟩
    ·omega
  ·have hkQ2:k=Q:=by omega
   subst hkQ2
   have hR0:R = []:=List.eq_nil_of_length_eq_zero (by omega)
   iterate 4 refine s1_ ?_
   refine rC (Calm.bin rfl rfl (bin_bool (bin_str_neq _ _) (bnot_dec_false (by rw [hR0];rfl)))) ?_
   iterate 2 refine s1_ ?_
   refine su_ [(0,_),(1,_),(6,_),(24,_)] ?_
   refine cF_ ?_
   iterate 12 refine s1_ ?_
   refine su_ [(0,_),(1,_),(6,_),(24,_),(4,_),(5,_)] ?_
   refine s1_ ?_
   refine ⟨_,_,⟨_,_,rfl,⟨_,_,rfl,rfl,rfl⟩,rfl⟩,less_,?_⟩
   exact ⟨_,by rw [q1];rfl,hI.less.trans (outM_over hI.ok),by rw [q2];exact hI.slOf rowR_less (by omega)⟩
 ·obtain ⟨q1,q2⟩:=splitE_5 s W (by omega) (by rw [Int.toNat_natCast];exact c3)
  have hc3 : ¬ ((s.size:Int) % (5*(W:Int)))=0:=by rw [show (5*(W:Int))=((5*W:Nat):Int) from by omega,← Int.natCast_emod];omega
  refine ACall.enter (rs:=[.tmp 4,.tmp 5]) 50 [(0,.string s),(1,.int .i64 (W:Int))] Tryz.func56 rfl rfl (Nat.le_of_ble_eq_true rfl) rfl ⟨rfl,rfl,trivial⟩ ?_
  iterate 19 refine s1_ ?_
  refine su_ [(0,_),(1,_),(4,_),(5,_),(9,_)] ?_
  refine cF_ ?_
  iterate 7 refine s1_ ?_
  refine rC (Calm.bin rfl rfl (bin_bool (bin_neq _ _) (bnot_dec_true hc3))) ?_
  iterate 3 refine s1_ ?_
  refine su_ [(0,_),(1,_),(4,_),(5,_),(9,_),(16,_)] ?_
  refine cT_ ?_
  iterate 9 refine s1_ ?_
  refine ⟨_,S,⟨_,_,rfl,⟨_,_,rfl,rfl,rfl⟩,rfl⟩,less_,?_⟩
  exact ⟨_,by rw [q1];rfl,Mem.Less.refl _,by rw [q2];exact SlOf.nil _ _⟩
end Go.Proofs.YtceikpipmcadmaaGreatDoor
namespace Go.Proofs.YtceikpipmcadmaaGreatDoor
open Go.RowKit
open Mv Disk Num
set_option maxRecDepth 4000
namespace Rec
theorem form_le {s : ByteArray} (h : s.size = 64) : (formP s).1 ≤ 255 ∧ (formP s).2.1 < 18446744073709551616 ∧ ((formP s).2.2 = 0 → (formP s).1 ≤ 8) := by
 unfold formP
 by_cases q1:s.data.toList.take 2 ≠ [87,82]∨8<(s.data.toList.getD 2 0).toNat∨zeroL (s.data.toList.drop 12)=false
 ·rw [if_pos q1];exact ⟨by decide,by decide,fun h=>by simp at h⟩
 rw [if_neg q1]
 by_cases q2:(openS (s.extract 0 12)).2≠0
 ·rw [if_pos q2];exact ⟨Nat.zero_le _,Nat.lt_of_lt_of_le (Nat.zero_lt_succ 0) (by show 1≤18446744073709551616;decide),fun h=>absurd h q2⟩
 rw [if_neg q2]
 have h8:(s.data.toList.getD 2 0).toNat≤8:=by
  rcases Nat.lt_or_ge 8 (s.data.toList.getD 2 0).toNat with h | h
  ·exact absurd (.inr (.inl h)) q1
  ·exact h
 refine ⟨by show (s.data.toList.getD 2 0).toNat≤255;omega,?_,fun _=>h8⟩
 show ofB ((s.data.toList.drop 3).take 5)<_
 have:=ofB_lt ((s.data.toList.drop 3).take 5)
 have hl:((s.data.toList.drop 3).take 5).length=5:=by rw [List.length_take,List.length_drop,St.len_list,h];rfl
 rw [hl] at this
 omega
theorem need_iff {w c : Nat} (hw : w ≤ 8) : ((needP (w : Int) c).2 ≠ 0 ↔ 65536 < c) ∧ (c ≤ 65536 → needP (w : Int) c = (((needN w c : Nat) : Int), 0)) := by
 unfold needP
 by_cases h:65536<c
 ·rw [if_pos (by omega)];exact ⟨⟨fun _=>h,fun _=>by decide⟩,fun h'=>by omega⟩
 ·rw [if_neg (by omega),Int.toNat_natCast];exact ⟨⟨fun h'=>absurd rfl h',fun h'=>absurd h' h⟩,fun _=>rfl⟩
set_option maxHeartbeats 2000000 in
theorem rec_HeadAt (p : Nat) (d : D) (s : ByteArray) (M : Mem) (h : RdV M p d) (hR : Right d) :
  ACall Tryz.prog 50 #[.pointer (some ⟨p,0,none⟩),.string s] M fun r S'=>r=formV (headD d s)∧S'=M:=by
 have hread:=fun M h=>dev_Read p d s 0 M h hR
 unfold headD
 by_cases q1:(readD d s 0).2=0
 ·rw [if_neg (by omega)]
  obtain ⟨hpl,h64⟩:=readD_size hR q1
  obtain ⟨hhas,_,_⟩:=place0 hpl
  obtain ⟨hx,hxs⟩:=exOf_has hR.ex.asc hhas
  have hsec:=(eok_sec (hR.ex.ok _ hx)).2
  have hform:=fun M=>rec_form (readD d s 0).1 M h64
  obtain ⟨f1,f2,f3⟩:=form_le h64
  rw [show readD d s 0=((readD d s 0).1,0) from Prod.ext rfl q1] at hread
  generalize (readD d s 0).1=y at *
  rcases hf:formP y with ⟨w,c,e⟩
  rw [hf] at hform f1 f2 f3
  simp only [formV] at hform f1 f2 f3 ⊢
  by_cases q2:e=0
  ·subst q2
   rw [if_neg (by simp)]
   have f3:=f3 rfl
   have hneed:=fun M=>rec_Need (w:Int) c M
   obtain ⟨n1,n2⟩:=need_iff (c:=c) f3
   by_cases q3:65536<c
   ·have n1:=n1.2 q3
    rw [if_pos (.inl n1)]
    unfold needV at hneed
    generalize needP (w:Int) c=nn at *
    obtain ⟨qe,de,qw,dw,hp,hE,hW⟩:=id h
    have hidx:=fun M' kb hl hk=>rec_index (.slice qe d.ext.length de) d.ext s kb M' hl hk _ hx hxs hR.ex.asc
    refine ACall.enter (rs:=[.tmp 4,.tmp 5,.tmp 6]) 63 [(0,.pointer (some ⟨p,0,none⟩)),(1,.string s)] Tryz.func50 rfl rfl (Nat.le_of_ble_eq_true rfl) rfl ⟨rfl,rfl,trivial⟩ ?_
    iterate 2 refine s1_ ?_
    refine ARun.box1 (lit_lt rfl) rfl rfl ?_
    intro b3 f3
    have g3:=f3
    repeat ((with_reducible replace g3:=fresh_set g3);obtain ⟨g3,_⟩:=g3)
    have:=g3.ne hp;have:=g3.ne' hp
    refine nl_ ?_
    iterate 9 refine s1_ ?_
    refine ca_ rfl (hread _ (h.less less_)) ?_
    rintro _ S1 ⟨rfl,h1⟩
    rw [h1];clear h1 S1
    iterate 7 refine s1_ ?_
    refine su_ [(0,_),(1,_),(3,_),(4,_),(5,_),(6,_),(7,_),(8,_)] ?_
    iterate 7 refine s1_ ?_
    refine su_ [(0,_),(1,_),(3,_),(4,_),(5,_),(6,_),(7,_),(8,_),(20,_)] ?_
    refine cF_ ?_
    iterate 5 refine s1_ ?_
    refine ca_ rfl (hform _) ?_
    rintro _ S1 ⟨rfl,h1⟩
    rw [h1];clear h1 S1
    iterate 9 refine s1_ ?_
    refine su_ [(0,_),(1,_),(3,_),(4,_),(5,_),(6,_),(7,_),(8,_),(20,_),(9,_),(10,_)] ?_
    iterate 7 refine s1_ ?_
    refine su_ [(0,_),(1,_),(3,_),(4,_),(5,_),(6,_),(7,_),(8,_),(20,_),(9,_),(10,_),(29,_)] ?_
    refine cF_ ?_
    iterate 6 refine s1_ ?_
    refine ca_ rfl (hneed _) ?_
    rintro _ S1 ⟨rfl,h1⟩
    rw [h1];clear h1 S1
    iterate 7 refine s1_ ?_
    refine su_ [(0,_),(1,_),(3,_),(4,_),(5,_),(6,_),(7,_),(8,_),(20,_),(9,_),(10,_),(29,_),(11,_)] ?_
    iterate 8 refine s1_ ?_
    refine ca_ rfl (hidx _ b3 (hE.less less_) (Mem.rds.knows rds_)) ?_
    rintro _ S1 ⟨⟨j,hj,rfl,hjx⟩,h1⟩
    rw [h1];clear h1 S1
    iterate 3 refine s1_ ?_
    refine su_ [(0,_),(1,_),(3,_),(4,_),(5,_),(6,_),(7,_),(8,_),(20,_),(9,_),(10,_),(29,_),(11,_),(12,_)] ?_
    iterate 22 refine s1_ ?_
    refine su_ [(0,_),(1,_),(3,_),(4,_),(5,_),(6,_),(7,_),(8,_),(20,_),(9,_),(10,_),(29,_),(11,_),(12,_),(60,_)] ?_
    refine cT_ ?_
    iterate 9 refine s1_ ?_
    refine ⟨_,M,⟨_,_,rfl,⟨_,_,rfl,⟨_,_,rfl,rfl,rfl⟩,rfl⟩,rfl⟩,less_,?_⟩
    exact ⟨rfl,rfl⟩
   ·have n2:=n2 (by omega)
    rw [n2] at hneed ⊢
    unfold needV at hneed
    have hnl:=needN_le f3 (by omega:c≤65536)
    generalize needN w c=n at *
    obtain ⟨qe,de,qw,dw,hp,hE,hW⟩:=id h
    have hidx:=fun M' kb hl hk=>rec_index (.slice qe d.ext.length de) d.ext s kb M' hl hk _ hx hxs hR.ex.asc
    have hlim:=(right_len hR).1
    have hus:=Nat.le_trans (used_mem hx) (right_len hR).2
    obtain ⟨ea,ec,heq,g1,g2,g3⟩:=id hE
    cases heq
    have hkE:=g3.resolve_left (fun e=>by rw [e] at hx;cases hx)
    obtain ⟨eb,eo,rfl,hkE⟩:=hkE
    generalize exOf d.ext s=x at *
    by_cases q4:sec x=n
    ·rw [if_neg (by omega)]
     refine ACall.enter (rs:=[.tmp 4,.tmp 5,.tmp 6]) 63 [(0,.pointer (some ⟨p,0,none⟩)),(1,.string s)] Tryz.func50 rfl rfl (Nat.le_of_ble_eq_true rfl) rfl ⟨rfl,rfl,trivial⟩ ?_
     iterate 2 refine s1_ ?_
     refine ARun.box1 (lit_lt rfl) rfl rfl ?_
     intro b3 f3
     have g3:=f3
     repeat ((with_reducible replace g3:=fresh_set g3);obtain ⟨g3,_⟩:=g3)
     have:=g3.ne hp;have:=g3.ne' hp
     refine nl_ ?_
     iterate 9 refine s1_ ?_
     refine ca_ rfl (hread _ (h.less less_)) ?_
     rintro _ S1 ⟨rfl,h1⟩
     rw [h1];clear h1 S1
     iterate 7 refine s1_ ?_
     refine su_ [(0,_),(1,_),(3,_),(4,_),(5,_),(6,_),(7,_),(8,_)] ?_
     iterate 7 refine s1_ ?_
     refine su_ [(0,_),(1,_),(3,_),(4,_),(5,_),(6,_),(7,_),(8,_),(20,_)] ?_
     refine cF_ ?_
     iterate 5 refine s1_ ?_
     refine ca_ rfl (hform _) ?_
     rintro _ S1 ⟨rfl,h1⟩
     rw [h1];clear h1 S1
     iterate 9 refine s1_ ?_
     refine su_ [(0,_),(1,_),(3,_),(4,_),(5,_),(6,_),(7,_),(8,_),(20,_),(9,_),(10,_)] ?_
     iterate 7 refine s1_ ?_
     refine su_ [(0,_),(1,_),(3,_),(4,_),(5,_),(6,_),(7,_),(8,_),(20,_),(9,_),(10,_),(29,_)] ?_
     refine cF_ ?_
     iterate 6 refine s1_ ?_
     refine ca_ rfl (hneed _) ?_
     rintro _ S1 ⟨rfl,h1⟩
     rw [h1];clear h1 S1
     iterate 7 refine s1_ ?_
     refine su_ [(0,_),(1,_),(3,_),(4,_),(5,_),(6,_),(7,_),(8,_),(20,_),(9,_),(10,_),(29,_),(11,_)] ?_
     iterate 8 refine s1_ ?_
     refine ca_ rfl (hidx _ b3 (hE.less less_) (Mem.rds.knows rds_)) ?_
     rintro _ S1 ⟨⟨j,hj,rfl,hjx⟩,h1⟩
     rw [h1];clear h1 S1
     have hkj:=knows_snd (hkE j hj)
     rw [hjx] at hkj
     rw [show eo+j*2+1=eo+(j:Int).toNat*2+1 from by rw [Int.toNat_natCast]] at hkj
     iterate 3 refine s1_ ?_
     refine su_ [(0,_),(1,_),(3,_),(4,_),(5,_),(6,_),(7,_),(8,_),(20,_),(9,_),(10,_),(29,_),(11,_),(12,_)] ?_
     iterate 22 refine s1_ ?_
     refine su_ [(0,_),(1,_),(3,_),(4,_),(5,_),(6,_),(7,_),(8,_),(20,_),(9,_),(10,_),(29,_),(11,_),(12,_),(60,_)] ?_
     refine cF_ ?_
     iterate 11 refine s1_ ?_
     refine su_ [(0,_),(1,_),(3,_),(4,_),(5,_),(6,_),(7,_),(8,_),(20,_),(9,_),(10,_),(29,_),(11,_),(12,_),(60,_)] ?_
     refine s1_ ?_
     refine ⟨_,M,⟨_,_,rfl,⟨_,_,rfl,⟨_,_,rfl,rfl,rfl⟩,rfl⟩,rfl⟩,less_,?_⟩
     exact ⟨rfl,rfl⟩
    ·rw [if_pos (by right;show ((sec x:Nat):Int)≠_;omega)]
     refine ACall.enter (rs:=[.tmp 4,.tmp 5,.tmp 6]) 63 [(0,.pointer (some ⟨p,0,none⟩)),(1,.string s)] Tryz.func50 rfl rfl (Nat.le_of_ble_eq_true rfl) rfl ⟨rfl,rfl,trivial⟩ ?_
     iterate 2 refine s1_ ?_
     refine ARun.box1 (lit_lt rfl) rfl rfl ?_
     intro b3 f3
     have g3:=f3
     repeat ((with_reducible replace g3:=fresh_set g3);obtain ⟨g3,_⟩:=g3)
     have:=g3.ne hp;have:=g3.ne' hp
     refine nl_ ?_
     iterate 9 refine s1_ ?_
     refine ca_ rfl (hread _ (h.less less_)) ?_
     rintro _ S1 ⟨rfl,h1⟩
     rw [h1];clear h1 S1
     iterate 7 refine s1_ ?_
     refine su_ [(0,_),(1,_),(3,_),(4,_),(5,_),(6,_),(7,_),(8,_)] ?_
     iterate 7 refine s1_ ?_
     refine su_ [(0,_),(1,_),(3,_),(4,_),(5,_),(6,_),(7,_),(8,_),(20,_)] ?_
     refine cF_ ?_
     iterate 5 refine s1_ ?_
     refine ca_ rfl (hform _) ?_
     rintro _ S1 ⟨rfl,h1⟩
     rw [h1];clear h1 S1
     iterate 9 refine s1_ ?_
     refine su_ [(0,_),(1,_),(3,_),(4,_),(5,_),(6,_),(7,_),(8,_),(20,_),(9,_),(10,_)] ?_
     iterate 7 refine s1_ ?_
     refine su_ [(0,_),(1,_),(3,_),(4,_),(5,_),(6,_),(7,_),(8,_),(20,_),(9,_),(10,_),(29,_)] ?_
     refine cF_ ?_
     iterate 6 refine s1_ ?_
     refine ca_ rfl (hneed _) ?_
     rintro _ S1 ⟨rfl,h1⟩
     rw [h1];clear h1 S1
     iterate 7 refine s1_ ?_
     refine su_ [(0,_),(1,_),(3,_),(4,_),(5,_),(6,_),(7,_),(8,_),(20,_),(9,_),(10,_),(29,_),(11,_)] ?_
     iterate 8 refine s1_ ?_
     refine ca_ rfl (hidx _ b3 (hE.less less_) (Mem.rds.knows rds_)) ?_
     rintro _ S1 ⟨⟨j,hj,rfl,hjx⟩,h1⟩
     rw [h1];clear h1 S1
     have hkj:=knows_snd (hkE j hj)
     rw [hjx] at hkj
     rw [show eo+j*2+1=eo+(j:Int).toNat*2+1 from by rw [Int.toNat_natCast]] at hkj
     iterate 3 refine s1_ ?_
     refine su_ [(0,_),(1,_),(3,_),(4,_),(5,_),(6,_),(7,_),(8,_),(20,_),(9,_),(10,_),(29,_),(11,_),(12,_)] ?_
     iterate 22 refine s1_ ?_
     refine su_ [(0,_),(1,_),(3,_),(4,_),(5,_),(6,_),(7,_),(8,_),(20,_),(9,_),(10,_),(29,_),(11,_),(12,_),(60,_)] ?_
     refine cT_ ?_
     iterate 9 refine s1_ ?_
     refine ⟨_,M,⟨_,_,rfl,⟨_,_,rfl,⟨_,_,rfl,rfl,rfl⟩,rfl⟩,rfl⟩,less_,?_⟩
     exact ⟨rfl,rfl⟩
  ·rw [if_pos q2]
   obtain ⟨qe,de,qw,dw,hp,hE,hW⟩:=id h
   refine ACall.enter (rs:=[.tmp 4,.tmp 5,.tmp 6]) 63 [(0,.pointer (some ⟨p,0,none⟩)),(1,.string s)] Tryz.func50 rfl rfl (Nat.le_of_ble_eq_true rfl) rfl ⟨rfl,rfl,trivial⟩ ?_
   iterate 2 refine s1_ ?_
   refine ARun.box1 (lit_lt rfl) rfl rfl ?_
   intro b3 f3
   have g3:=f3
   repeat ((with_reducible replace g3:=fresh_set g3);obtain ⟨g3,_⟩:=g3)
   have:=g3.ne hp;have:=g3.ne' hp
   refine nl_ ?_
   iterate 9 refine s1_ ?_
   refine ca_ rfl (hread _ (h.less less_)) ?_
   rintro _ S1 ⟨rfl,h1⟩
   rw [h1];clear h1 S1
   iterate 7 refine s1_ ?_
   refine su_ [(0,_),(1,_),(3,_),(4,_),(5,_),(6,_),(7,_),(8,_)] ?_
   iterate 7 refine s1_ ?_
   refine su_ [(0,_),(1,_),(3,_),(4,_),(5,_),(6,_),(7,_),(8,_),(20,_)] ?_
   refine cF_ ?_
   iterate 5 refine s1_ ?_
   refine ca_ rfl (hform _) ?_
   rintro _ S1 ⟨rfl,h1⟩
   rw [h1];clear h1 S1
   iterate 9 refine s1_ ?_
   refine su_ [(0,_),(1,_),(3,_),(4,_),(5,_),(6,_),(7,_),(8,_),(20,_),(9,_),(10,_)] ?_
   iterate 7 refine s1_ ?_
   refine su_ [(0,_),(1,_),(3,_),(4,_),(5,_),(6,_),(7,_),(8,_),(20,_),(9,_),(10,_),(29,_)] ?_
   refine cT_ ?_
   iterate 8 refine s1_ ?_
   refine su_ [(0,_),(1,_),(3,_),(4,_),(5,_),(6,_),(7,_),(8,_),(20,_),(9,_),(10,_),(29,_)] ?_
   iterate 2 refine s1_ ?_
   refine ⟨_,M,⟨_,_,rfl,⟨_,_,rfl,⟨_,_,rfl,rfl,rfl⟩,rfl⟩,rfl⟩,less_,?_⟩
   exact ⟨rfl,rfl⟩
 ·rw [if_pos q1]
  obtain ⟨qe,de,qw,dw,hp,hE,hW⟩:=id h
  refine ACall.enter (rs:=[.tmp 4,.tmp 5,.tmp 6]) 63 [(0,.pointer (some ⟨p,0,none⟩)),(1,.string s)] Tryz.func50 rfl rfl (Nat.le_of_ble_eq_true rfl) rfl ⟨rfl,rfl,trivial⟩ ?_
  iterate 2 refine s1_ ?_
  refine ARun.box1 (lit_lt rfl) rfl rfl ?_
  intro b3 f3
  have g3:=f3
  repeat ((with_reducible replace g3:=fresh_set g3);obtain ⟨g3,_⟩:=g3)
  have:=g3.ne hp;have:=g3.ne' hp
  refine nl_ ?_
  iterate 9 refine s1_ ?_
  refine ca_ rfl (hread _ (h.less less_)) ?_
  rintro _ S1 ⟨rfl,h1⟩
  rw [h1];clear h1 S1
  iterate 7 refine s1_ ?_
  refine su_ [(0,_),(1,_),(3,_),(4,_),(5,_),(6,_),(7,_),(8,_)] ?_
  iterate 7 refine s1_ ?_
  refine su_ [(0,_),(1,_),(3,_),(4,_),(5,_),(6,_),(7,_),(8,_),(20,_)] ?_
  refine cT_ ?_
  iterate 8 refine s1_ ?_
  refine su_ [(0,_),(1,_),(3,_),(4,_),(5,_),(6,_),(7,_),(8,_),(20,_)] ?_
  iterate 2 refine s1_ ?_
  refine ⟨_,M,⟨_,_,rfl,⟨_,_,rfl,⟨_,_,rfl,rfl,rfl⟩,rfl⟩,rfl⟩,less_,?_⟩
  exact ⟨rfl,rfl⟩
end Rec
end Go.Proofs.YtceikpipmcadmaaGreatDoor
namespace Go.Proofs.YtceikpipmcadmaaGreatDoor
open Go.RowKit
open Mv Disk Num
set_option maxRecDepth 4000
namespace Rec
theorem head_ok {d : D} {s : ByteArray} (hR : Right d) {w c : Nat} (h : headD d s = (w, c, 0)) :
  has d.ext s=true∧w≤8∧c≤65536∧sec (exOf d.ext s)=needN w c:=by
 unfold headD at h
 by_cases q1:(readD d s 0).2=0
 ·rw [if_neg (by omega)] at h
  obtain ⟨hpl,h64⟩:=readD_size hR q1
  by_cases q2:(formP (readD d s 0).1).2.2=0
  ·rw [if_neg (by omega)] at h
   obtain ⟨f1,f2,f3⟩:=form_le h64
   split at h
   ·cases h
   ·rename_i q3
    rw [h] at q3 f3
    obtain ⟨n1,n2⟩:=need_iff (c:=c) (f3 rfl)
    refine ⟨(place0 hpl).1,f3 rfl,?_,?_⟩
    ·rcases Nat.lt_or_ge 65536 c with hc | hc
     ·exact absurd (.inl (n1.2 hc)) q3
     ·exact hc
    ·have q3:=not_or.1 q3
     have q4:((sec (exOf d.ext s):Nat):Int)=((needN w c:Nat):Int):=by
      by_cases q:((sec (exOf d.ext s):Nat):Int)=((needN w c:Nat):Int)
      ·exact q
      ·exact absurd q q3.2
     omega
  ·rw [if_pos q2] at h
   have:=congrArg (fun p=>p.2.2) h
   exact absurd this q2
 ·rw [if_pos q1] at h
  have:=congrArg (fun p=>p.2.2) h
  exact absurd this q1
theorem readD_in {d : D} {s : ByteArray} (hR : Right d) {n : Nat} (h1 : has d.ext s = true) (h2 : sec (exOf d.ext s) = n) {i : Nat} (hi : i < n) : (readD d s (i : Int)).2 = 0 ∧ (readD d s (i : Int)).1.size = 64 := by
 have hp:(placeD d s (i:Int)).2=0:=by unfold placeD;rw [if_pos h1,if_neg (by rw [h2];omega)]
 have h0:(readD d s (i:Int)).2=0:=by rw [readD_see,if_neg (by simpa using hp)]
 exact ⟨h0,(readD_size hR h0).2⟩
theorem bodyL_len {d : D} {s : ByteArray} (hR : Right d) (ho : (openD d).2 = 0) {n : Nat} (h1 : has d.ext s = true) (h2 : sec (exOf d.ext s) = n) : ∀ k, k + 1 ≤ n → (bodyL d s k).length = 64 * k
 | 0,_=>rfl
 | k+1,h=>by
  unfold bodyL
  rw [List.length_append,bodyL_len hR ho h1 h2 k (by omega),readO_open ho,St.len_list,(readD_in hR h1 h2 (i:=k+1) (by omega)).2];omega
def bodyV (p : Nat × ByteArray × Int) : Value := .tuple #[.int .i64 (p.1 : Nat), .string p.2.1, .int .i64 p.2.2]
theorem rec_Head (v : Value) (d : D) (s : ByteArray) (S : Mem) (hd : DkR S v d) (hz : Dz d) :
  ACall Tryz.prog 19 #[v,.string s] S fun r S'=>r=formV (headP d s)∧S'=S:=by
 have hopen:=disk_Open v d S hd hz
 obtain ⟨pe,ce,pw,cw,rfl,hE,hW⟩:=id hd
 have hsh:=headP_shut (d:=d) (s:=s)
 have hop:=headP_open (d:=d) (s:=s)
 rcases openD_or d with ⟨ho,hR⟩ | ⟨ho,hR,hdn⟩ | ⟨ho,hR,hdn⟩ <;> rw [ho] at hopen hsh hop
 ·rw [hsh (by simp)]
  refine ACall.enter (rs:=[.tmp 4,.tmp 5,.tmp 6]) 23 [(0,.agg #[.int .i64 d.size,.slice pe d.ext.length ce,.slice pw d.waits.length cw,.int .i64 d.fuse,.bool d.down]),(1,.string s)] Tryz.func19 rfl rfl (Nat.le_of_ble_eq_true rfl) rfl ⟨rfl,rfl,trivial⟩ ?_
  iterate 2 refine s1_ ?_
  refine k_b5 rfl ?_
  intro b2 f2
  have g2:=f2
  repeat ((with_reducible replace g2:=fresh_set g2);obtain ⟨g2,_⟩:=g2)
  refine nl_ ?_
  iterate 8 refine s1_ ?_
  refine ca_ rfl (hopen.frame f2) ?_
  rintro _ S1 ⟨M,⟨p,oE,oW,hok,rfl,hM⟩,f1',h1⟩
  rw [h1];clear h1 S1
  have hSM:S.Less M:=by rw [hM];exact hok.less
  iterate 7 refine s1_ ?_
  refine su_ [(0,_),(1,_),(2,_),(4,_),(5,_),(6,_),(7,_),(8,_)] ?_
  iterate 7 refine s1_ ?_
  refine su_ [(0,_),(1,_),(2,_),(4,_),(5,_),(6,_),(7,_),(8,_),(15,_)] ?_
  refine cT_ ?_
  iterate 8 refine s1_ ?_
  refine su_ [(0,_),(1,_),(2,_),(4,_),(5,_),(6,_),(7,_),(8,_),(15,_)] ?_
  iterate 2 refine s1_ ?_
  refine ⟨_,S,⟨_,_,rfl,⟨_,_,rfl,⟨_,_,rfl,rfl,rfl⟩,rfl⟩,rfl⟩,less_,?_⟩
  exact ⟨rfl,rfl⟩
 ·rw [hsh (by simp)]
  refine ACall.enter (rs:=[.tmp 4,.tmp 5,.tmp 6]) 23 [(0,.agg #[.int .i64 d.size,.slice pe d.ext.length ce,.slice pw d.waits.length cw,.int .i64 d.fuse,.bool d.down]),(1,.string s)] Tryz.func19 rfl rfl (Nat.le_of_ble_eq_true rfl) rfl ⟨rfl,rfl,trivial⟩ ?_
  iterate 2 refine s1_ ?_
  refine k_b5 rfl ?_
  intro b2 f2
  have g2:=f2
  repeat ((with_reducible replace g2:=fresh_set g2);obtain ⟨g2,_⟩:=g2)
  refine nl_ ?_
  iterate 8 refine s1_ ?_
  refine ca_ rfl (hopen.frame f2) ?_
  rintro _ S1 ⟨M,⟨p,oE,oW,hok,rfl,hM⟩,f1',h1⟩
  rw [h1];clear h1 S1
  have hSM:S.Less M:=by rw [hM];exact hok.less
  iterate 7 refine s1_ ?_
  refine su_ [(0,_),(1,_),(2,_),(4,_),(5,_),(6,_),(7,_),(8,_)] ?_
  iterate 7 refine s1_ ?_
  refine su_ [(0,_),(1,_),(2,_),(4,_),(5,_),(6,_),(7,_),(8,_),(15,_)] ?_
  refine cT_ ?_
  iterate 8 refine s1_ ?_
  refine su_ [(0,_),(1,_),(2,_),(4,_),(5,_),(6,_),(7,_),(8,_),(15,_)] ?_
  iterate 2 refine s1_ ?_
  refine ⟨_,S,⟨_,_,rfl,⟨_,_,rfl,⟨_,_,rfl,rfl,rfl⟩,rfl⟩,rfl⟩,less_,?_⟩
  exact ⟨rfl,rfl⟩
 ·rw [hop rfl]
  refine ACall.enter (rs:=[.tmp 4,.tmp 5,.tmp 6]) 23 [(0,.agg #[.int .i64 d.size,.slice pe d.ext.length ce,.slice pw d.waits.length cw,.int .i64 d.fuse,.bool d.down]),(1,.string s)] Tryz.func19 rfl rfl (Nat.le_of_ble_eq_true rfl) rfl ⟨rfl,rfl,trivial⟩ ?_
  iterate 2 refine s1_ ?_
  refine k_b5 rfl ?_
  intro b2 f2
  have g2:=f2
  repeat ((with_reducible replace g2:=fresh_set g2);obtain ⟨g2,_⟩:=g2)
  refine nl_ ?_
  iterate 8 refine s1_ ?_
  refine ca_ rfl (hopen.frame f2) ?_
  rintro _ S1 ⟨M,⟨p,oE,oW,hok,rfl,hM⟩,f1',h1⟩
  rw [h1];clear h1 S1
  have hSM:S.Less M:=by rw [hM];exact hok.less
  have hrd:RdV M p d:=by rw [hM];exact hok.rd (right_lens hR).1 (right_lens hR).2
  iterate 7 refine s1_ ?_
  refine su_ [(0,_),(1,_),(2,_),(4,_),(5,_),(6,_),(7,_),(8,_)] ?_
  iterate 7 refine s1_ ?_
  refine su_ [(0,_),(1,_),(2,_),(4,_),(5,_),(6,_),(7,_),(8,_),(15,_)] ?_
  refine cF_ ?_
  iterate 6 refine s1_ ?_
  refine ca_ rfl (rec_HeadAt p d s _ (hrd.less less_) hR) ?_
  rintro _ S1 ⟨rfl,h1⟩
  rw [h1];clear h1 S1
  unfold formV
  iterate 8 refine s1_ ?_
  refine su_ [(0,_),(1,_),(2,_),(4,_),(5,_),(6,_),(7,_),(8,_),(15,_)] ?_
  refine s1_ ?_
  refine ⟨_,S,⟨_,_,rfl,⟨_,_,rfl,⟨_,_,rfl,rfl,rfl⟩,rfl⟩,rfl⟩,less_,?_⟩
  exact ⟨rfl,rfl⟩
set_option maxHeartbeats 4000000 in
theorem rec_body (v : Value) (d : D) (s : ByteArray) (text : Bool) (S : Mem) (hd : DkR S v d) (hz : Dz d) :
  ACall Tryz.prog 55 #[v,.string s,.bool text] S fun r S'=>r=bodyV (bodyP d s text)∧S'=S:=by
 have hopen:=disk_Open v d S hd hz
 obtain ⟨pe,ce,pw,cw,rfl,hE,hW⟩:=id hd
 unfold bodyP
 have hsh:=headP_shut (d:=d) (s:=s)
 have hop:=headP_open (d:=d) (s:=s)
 have ho2:=fun h=>@bodyL_len d s h
 have hro:=@readO_open d
 rcases openD_or d with ⟨ho,hR⟩ | ⟨ho,hR,hdn⟩ | ⟨ho,hR,hdn⟩ <;> rw [ho] at hopen hsh hop ho2 hro
 ·rw [hsh (by simp),if_pos (by simp)]
  refine ACall.enter (rs:=[.tmp 6,.tmp 7,.tmp 8]) 78 [(0,.agg #[.int .i64 d.size,.slice pe d.ext.length ce,.slice pw d.waits.length cw,.int .i64 d.fuse,.bool d.down]),(1,.string s),(2,.bool text)] Tryz.func55 rfl rfl (Nat.le_of_ble_eq_true rfl) rfl ⟨rfl,rfl,rfl,trivial⟩ ?_
  iterate 2 refine s1_ ?_
  refine k_b5 rfl ?_
  intro b3 f3
  have g3:=f3
  repeat ((with_reducible replace g3:=fresh_set g3);obtain ⟨g3,_⟩:=g3)
  refine nl_ ?_
  iterate 8 refine s1_ ?_
  refine ca_ rfl (hopen.frame f3) ?_
  rintro _ S1 ⟨M,⟨p,oE,oW,hok,rfl,hM⟩,f1',h1⟩
  rw [h1];clear h1 S1
  have hSM:S.Less M:=by rw [hM];exact hok.less
  iterate 7 refine s1_ ?_
  refine su_ [(0,_),(1,_),(2,_),(3,_),(6,_),(7,_),(8,_),(9,_),(10,_)] ?_
  iterate 7 refine s1_ ?_
  refine su_ [(0,_),(1,_),(2,_),(3,_),(6,_),(7,_),(8,_),(9,_),(10,_),(26,_)] ?_
  refine cT_ ?_
  iterate 8 refine s1_ ?_
  refine su_ [(0,_),(1,_),(2,_),(3,_),(6,_),(7,_),(8,_),(9,_),(10,_),(26,_)] ?_
  iterate 2 refine s1_ ?_
  refine ⟨_,S,⟨_,_,rfl,⟨_,_,rfl,⟨_,_,rfl,rfl,rfl⟩,rfl⟩,rfl⟩,less_,?_⟩
  exact ⟨rfl,rfl⟩
 ·rw [hsh (by simp),if_pos (by simp)]
  refine ACall.enter (rs:=[.tmp 6,.tmp 7,.tmp 8]) 78 [(0,.agg #[.int .i64 d.size,.slice pe d.ext.length ce,.slice pw d.waits.length cw,.int .i64 d.fuse,.bool d.down]),(1,.string s),(2,.bool text)] Tryz.func55 rfl rfl (Nat.le_of_ble_eq_true rfl) rfl ⟨rfl,rfl,rfl,trivial⟩ ?_
  iterate 2 refine s1_ ?_
  refine k_b5 rfl ?_
  intro b3 f3
  have g3:=f3
  repeat ((with_reducible replace g3:=fresh_set g3);obtain ⟨g3,_⟩:=g3)
  refine nl_ ?_
  iterate 8 refine s1_ ?_
  refine ca_ rfl (hopen.frame f3) ?_
  rintro _ S1 ⟨M,⟨p,oE,oW,hok,rfl,hM⟩,f1',h1⟩
  rw [h1];clear h1 S1
  have hSM:S.Less M:=by rw [hM];exact hok.less
  iterate 7 refine s1_ ?_
  refine su_ [(0,_),(1,_),(2,_),(3,_),(6,_),(7,_),(8,_),(9,_),(10,_)] ?_
  iterate 7 refine s1_ ?_
  refine su_ [(0,_),(1,_),(2,_),(3,_),(6,_),(7,_),(8,_),(9,_),(10,_),(26,_)] ?_
  refine cT_ ?_
  iterate 8 refine s1_ ?_
  refine su_ [(0,_),(1,_),(2,_),(3,_),(6,_),(7,_),(8,_),(9,_),(10,_),(26,_)] ?_
  iterate 2 refine s1_ ?_
  refine ⟨_,S,⟨_,_,rfl,⟨_,_,rfl,⟨_,_,rfl,rfl,rfl⟩,rfl⟩,rfl⟩,less_,?_⟩
  exact ⟨rfl,rfl⟩
 rw [hop rfl]
 have hhead:=fun p M h=>rec_HeadAt p d s M h hR
 have hhk:=@head_ok d s hR
 rcases hw:headD d s with ⟨w,c,e⟩
 rw [hw] at hhead
 simp only [formV] at hhead
 by_cases he:e=0
 ·subst he
  rw [if_neg (by simp)]
  obtain ⟨k1,k2,k3,k4⟩:=hhk hw
  have hrin:=fun i=>@readD_in d s hR (needN w c) k1 k4 i
  have hbl:=ho2 hR rfl k1 k4
  have hneed:=fun M=>rec_Need (w:Int) c M
  rw [(need_iff k2).2 k3] at hneed
  simp only [needV] at hneed
  have heach:=fun M=>rec_each w M k2
  obtain ⟨m1,m2,m3⟩:=mul_le_each k2 k3
  have hn1:=needN_pos w c
  have hn2:=needN_le k2 k3
  have hnn:eachN w*c≤64*(needN w c-1):=by unfold needN;omega
  have hbs:∀ k,bodyL d s (k+1)=bodyL d s k ++ (readD d s ((k+1:Nat):Int)).1.data.toList:=fun k=>by rw [bodyL,hro rfl]
  have hb0:bodyL d s 0 = []:=rfl
  generalize needN w c=n at *
  generalize bodyL d s=bL at *
  generalize eachN w=ew at *
  have heq:(decide (w=0))=true ↔ w=0:=by simp
  by_cases ht:text≠decide (w=0)
  ·rw [if_pos ht]
   have hb:(!(text == decide (w=0)))=true:=(by decide:∀ a b:Bool,a≠b→(!(a == b))=true) _ _ ht
   refine ACall.enter (rs:=[.tmp 6,.tmp 7,.tmp 8]) 78 [(0,.agg #[.int .i64 d.size,.slice pe d.ext.length ce,.slice pw d.waits.length cw,.int .i64 d.fuse,.bool d.down]),(1,.string s),(2,.bool text)] Tryz.func55 rfl rfl (Nat.le_of_ble_eq_true rfl) rfl ⟨rfl,rfl,rfl,trivial⟩ ?_
   iterate 2 refine s1_ ?_
   refine k_b5 rfl ?_
   intro b3 f3
   have g3:=f3
   repeat ((with_reducible replace g3:=fresh_set g3);obtain ⟨g3,_⟩:=g3)
   refine nl_ ?_
   iterate 8 refine s1_ ?_
   refine ca_ rfl (hopen.frame f3) ?_
   rintro _ S1 ⟨M,⟨p,oE,oW,hok,rfl,hM⟩,f1',h1⟩
   rw [h1];clear h1 S1
   have hSM:S.Less M:=by rw [hM];exact hok.less
   have hrd:RdV M p d:=by rw [hM];exact hok.rd (right_lens hR).1 (right_lens hR).2
   iterate 7 refine s1_ ?_
   refine su_ [(0,_),(1,_),(2,_),(3,_),(6,_),(7,_),(8,_),(9,_),(10,_)] ?_
   iterate 7 refine s1_ ?_
   refine su_ [(0,_),(1,_),(2,_),(3,_),(6,_),(7,_),(8,_),(9,_),(10,_),(26,_)] ?_
   refine cF_ ?_
   iterate 6 refine s1_ ?_
   refine ca_ rfl (hhead p _ (hrd.less less_)) ?_
   rintro _ S1 ⟨rfl,h1⟩
   rw [h1];clear h1 S1
   iterate 9 refine s1_ ?_
   refine su_ [(0,_),(1,_),(2,_),(3,_),(6,_),(7,_),(8,_),(9,_),(10,_),(26,_),(11,_),(12,_)] ?_
   iterate 9 refine s1_ ?_
   refine su_ [(0,_),(1,_),(2,_),(3,_),(6,_),(7,_),(8,_),(9,_),(10,_),(26,_),(11,_),(12,_),(35,_)] ?_
   refine cF_ ?_
   iterate 4 refine s1_ ?_
   refine rC (Calm.bin rfl rfl (bin_bool (bin_eql _ _) (show decide ((w:Int)=0)=decide (w=0) from by rw [decide_eq_decide];omega))) ?_
   refine rC (Calm.bin rfl rfl (bin_bool (bin_bool_neq _ _ Tryz.underlying4) hb)) ?_
   iterate 3 refine s1_ ?_
   refine su_ [(0,_),(1,_),(2,_),(3,_),(6,_),(7,_),(8,_),(9,_),(10,_),(26,_),(11,_),(12,_),(35,_),(39,_)] ?_
   refine cT_ ?_
   iterate 10 refine s1_ ?_
   refine ⟨_,S,⟨_,_,rfl,⟨_,_,rfl,⟨_,_,rfl,rfl,rfl⟩,rfl⟩,rfl⟩,less_,?_⟩
   exact ⟨rfl,rfl⟩
  ·rw [if_neg ht]
   have hb:(!(text == decide (w=0)))=false:=(by decide:∀ a b:Bool,¬ a≠b→(!(a == b))=false) _ _ ht
   have hex1:∀ l:List UInt8,l.length=64*(n-1)→((bs l).extract (((ew*c:Nat):Int)).toNat (bs l).size).data.toList=l.drop (ew*c):=fun l hl=>by
    rw [Lib.extract_data,bs_data,size_bs,Int.toNat_natCast,List.take_of_length_le (by rw [List.length_drop];omega)]
   have hex2:∀ l:List UInt8,(bs l).extract 0 (((ew*c:Nat):Int)).toNat=bs (l.take (ew*c)):=fun l=>by
    apply str_ext
    rw [Lib.extract_data,bs_data,bs_data,Int.toNat_natCast];simp
   refine ACall.enter (rs:=[.tmp 6,.tmp 7,.tmp 8]) 78 [(0,.agg #[.int .i64 d.size,.slice pe d.ext.length ce,.slice pw d.waits.length cw,.int .i64 d.fuse,.bool d.down]),(1,.string s),(2,.bool text)] Tryz.func55 rfl rfl (Nat.le_of_ble_eq_true rfl) rfl ⟨rfl,rfl,rfl,trivial⟩ ?_
   iterate 2 refine s1_ ?_
   refine k_b5 rfl ?_
   intro b3 f3
   have g3:=f3
   repeat ((with_reducible replace g3:=fresh_set g3);obtain ⟨g3,_⟩:=g3)
   refine nl_ ?_
   iterate 8 refine s1_ ?_
   refine ca_ rfl (hopen.frame f3) ?_
   rintro _ S1 ⟨M,⟨p,oE,oW,hok,rfl,hM⟩,f1',h1⟩
   rw [h1];clear h1 S1
   have hSM:S.Less M:=by rw [hM];exact hok.less
   have hrd:RdV M p d:=by rw [hM];exact hok.rd (right_lens hR).1 (right_lens hR).2
   iterate 7 refine s1_ ?_
   refine su_ [(0,_),(1,_),(2,_),(3,_),(6,_),(7,_),(8,_),(9,_),(10,_)] ?_
   iterate 7 refine s1_ ?_
   refine su_ [(0,_),(1,_),(2,_),(3,_),(6,_),(7,_),(8,_),(9,_),(10,_),(26,_)] ?_
   refine cF_ ?_
   iterate 6 refine s1_ ?_
   refine ca_ rfl (hhead p _ (hrd.less less_)) ?_
   rintro _ S1 ⟨rfl,h1⟩
   rw [h1];clear h1 S1
   iterate 9 refine s1_ ?_
   refine su_ [(0,_),(1,_),(2,_),(3,_),(6,_),(7,_),(8,_),(9,_),(10,_),(26,_),(11,_),(12,_)] ?_
   iterate 9 refine s1_ ?_
   refine su_ [(0,_),(1,_),(2,_),(3,_),(6,_),(7,_),(8,_),(9,_),(10,_),(26,_),(11,_),(12,_),(35,_)] ?_
   refine cF_ ?_
   iterate 4 refine s1_ ?_
   refine rC (Calm.bin rfl rfl (bin_bool (bin_eql _ _) (show decide ((w:Int)=0)=decide (w=0) from by rw [decide_eq_decide];omega))) ?_
   refine rC (Calm.bin rfl rfl (bin_bool (bin_bool_neq _ _ Tryz.underlying4) hb)) ?_
   iterate 3 refine s1_ ?_
   refine su_ [(0,_),(1,_),(2,_),(3,_),(6,_),(7,_),(8,_),(9,_),(10,_),(26,_),(11,_),(12,_),(35,_),(39,_)] ?_
   refine cF_ ?_
   iterate 7 refine s1_ ?_
   refine ca_ rfl (hneed _) ?_
   rintro _ S1 ⟨rfl,h1⟩
   rw [h1];clear h1 S1
   iterate 7 refine s1_ ?_
   refine su_ [(0,_),(1,_),(2,_),(3,_),(6,_),(7,_),(8,_),(9,_),(10,_),(26,_),(11,_),(12,_),(35,_),(39,_),(13,_)] ?_
   iterate 2 refine s1_ ?_
   refine ARun.alloc (lit_lt rfl) ty_zero_68 ?_
   intro b15 f15
   have g15:=f15
   repeat ((with_reducible replace g15:=fresh_set g15);obtain ⟨g15,_⟩:=g15)
   refine nl_ ?_
   iterate 2 refine s1_ ?_
   have hMB:M.Less (M.set b3 (bx d pe ce pw cw)):=Mem.less_set _ _ _ f1'.1
   have hnew:=Bl.R.new (M.set b3 (bx d pe ce pw cw)) b15
   iterate 6 refine s1_ ?_
   generalize hB:(M.set b3 (bx d pe ce pw cw))=B at *
   refine s1_ ?_
   refine AWP.loop (X:=Nat × Mem) (fun x=>[(1,.string s),(9,.pointer (some ⟨p,0,none⟩)),(11,.int .i64 (w:Int)),(12,.int .u64 (c:Int)),(13,.int .i64 (n:Int)),(15,.pointer (some ⟨b15,0,none⟩)),(16,.int .i64 ((x.1+1:Nat):Int))]) (fun x=>x.2) (fun x=>x.1+1≤n∧Bl.R B b15 (bL x.1) x.2) (fun x=>n-x.1) ((0,B.set b15 (Bl.blk (.pointer none) (.slice none 0 0)))) ⟨rfl,rfl,rfl,rfl,rfl,rfl,rfl,trivial⟩ (Mem.Less.refl _) (⟨by show 0+1≤n;omega,by rw [hb0];exact hnew⟩) ?_
   rintro ⟨i,T⟩ ⟨hi,hT⟩
   (try dsimp only at *)
   have hBT:=hT.less f15
   by_cases hin:i+1<n
   ·iterate 8 refine s1_ ?_
    refine su_ [(1,_),(9,_),(11,_),(12,_),(13,_),(15,_),(16,_),(52,_)] ?_
    refine cT_ ?_
    obtain ⟨r1,r2⟩:=hrin (i+1) hin
    have hlen:=hbl i (by omega)
    have hrr:=dev_Read p d s ((i+1:Nat):Int) T (hrd.less (hMB.trans hBT)) hR
    rw [show readD d s ((i+1:Nat):Int)=((readD d s ((i+1:Nat):Int)).1,0) from Prod.ext rfl r1] at hrr
    iterate 9 refine s1_ ?_
    refine ca_ rfl (hrr) ?_
    rintro _ S1 ⟨rfl,h1⟩
    rw [h1];clear h1 S1
    iterate 7 refine s1_ ?_
    refine su_ [(1,_),(9,_),(11,_),(12,_),(13,_),(15,_),(16,_),(52,_),(17,_)] ?_
    iterate 2 refine s1_ ?_
    refine ca_ rfl (Bl.WriteString _ b15 _ T (readD d s ((i+1:Nat):Int)).1 f15 hT (by omega)) ?_
    rintro _ T2 ⟨rfl,hT2⟩
    rw [← hbs i] at hT2
    iterate 3 refine s1_ ?_
    refine su_ [(1,_),(9,_),(11,_),(12,_),(13,_),(15,_),(16,_),(52,_),(17,_)] ?_
    iterate 6 refine s1_ ?_
    refine ⟨(i+1,T2),?_,?_,?_,?_⟩
    all_goals (try dsimp only)
    ·exact ⟨rfl,rfl,rfl,rfl,rfl,rfl,some_int (by omega),trivial⟩
    ·exact Mem.Less.refl _
    ·exact ⟨hin,hT2⟩
    ·omega
   ·iterate 8 refine s1_ ?_
    refine su_ [(1,_),(9,_),(11,_),(12,_),(13,_),(15,_),(16,_),(52,_)] ?_
    refine cF_ ?_
    obtain rfl:i=n-1:=by omega
    have hlen:=hbl (n-1) (by omega)
    have hlb:(bs (bL (n-1))).size=64*(n-1):=by rw [size_bs,hlen]
    iterate 8 refine s1_ ?_
    refine ca_ rfl (heach _) ?_
    rintro _ S1 ⟨rfl,h1⟩
    rw [h1];clear h1 S1
    iterate 6 refine s1_ ?_
    refine su_ [(1,_),(9,_),(11,_),(12,_),(13,_),(15,_),(16,_),(52,_),(19,_)] ?_
    rw [m3]
    iterate 3 refine s1_ ?_
    refine ca_ rfl (Bl.String _ b15 _ T f15 hT (by omega)) ?_
    rintro _ T2 ⟨rfl,hT2⟩
    have hzr:=rec_zeros ((bs (bL (n-1))).extract (((ew*c:Nat):Int)).toNat (bs (bL (n-1))).size) T2 (by rw [ByteArray.size_extract];omega)
    rw [hex1 _ hlen] at hzr
    have hlo:S.Lo T2:=(hSM.trans hMB).lo.trans (hT2.lo f15)
    iterate 2 refine s1_ ?_
    refine ca_ rfl (hzr) ?_
    rintro _ S1 ⟨rfl,h1⟩
    rw [h1];clear h1 S1
    iterate 3 refine s1_ ?_
    refine su_ [(1,_),(9,_),(11,_),(12,_),(13,_),(15,_),(16,_),(52,_),(19,_),(73,_)] ?_
    cases hzz:zeroL ((bL (n-1)).drop (ew*c))
    ·rw [if_pos rfl]
     refine cT_ ?_
     refine AWP.lo S hlo ?_
     iterate 9 refine s1_ ?_
     refine ⟨_,S,⟨_,_,rfl,⟨_,_,rfl,⟨_,_,rfl,rfl,rfl⟩,rfl⟩,rfl⟩,(Mem.Less.refl _),?_⟩
     exact ⟨rfl,rfl⟩
    ·rw [if_neg (by simp)]
     refine cF_ ?_
     iterate 3 refine s1_ ?_
     refine AWP.draw [(0,true),(2,true),(1,false),(3,true),(4,true),(5,true),(6,true)] [] mixed (by kernel_rfl) ?_
     iterate 2 refine s1_ ?_
     refine draw_only rfl ?_
     refine ca_ rfl (Bl.StringF _ b15 _ T2 hT2 (by omega)) ?_
     rintro _ S1 ⟨rfl,h1⟩
     rw [h1];clear h1 S1
     refine arun_nil ⟨fun _=>less_,?_⟩
     iterate 6 refine s1_ ?_
     refine su_ [(1,_),(9,_),(11,_),(12,_),(13,_),(15,_),(16,_),(52,_),(19,_),(73,_),(6,_),(7,_),(8,_)] ?_
     refine AWP.lo S hlo ?_
     refine s1_ ?_
     refine ⟨_,S,⟨_,_,rfl,⟨_,_,rfl,⟨_,_,rfl,rfl,rfl⟩,rfl⟩,rfl⟩,(Mem.Less.refl _),?_⟩
     exact ⟨by unfold bodyV;rw [← hex2];rfl,rfl⟩
 ·rw [if_pos he]
  refine ACall.enter (rs:=[.tmp 6,.tmp 7,.tmp 8]) 78 [(0,.agg #[.int .i64 d.size,.slice pe d.ext.length ce,.slice pw d.waits.length cw,.int .i64 d.fuse,.bool d.down]),(1,.string s),(2,.bool text)] Tryz.func55 rfl rfl (Nat.le_of_ble_eq_true rfl) rfl ⟨rfl,rfl,rfl,trivial⟩ ?_
  iterate 2 refine s1_ ?_
  refine k_b5 rfl ?_
  intro b3 f3
  have g3:=f3
  repeat ((with_reducible replace g3:=fresh_set g3);obtain ⟨g3,_⟩:=g3)
  refine nl_ ?_
  iterate 8 refine s1_ ?_
  refine ca_ rfl (hopen.frame f3) ?_
  rintro _ S1 ⟨M,⟨p,oE,oW,hok,rfl,hM⟩,f1',h1⟩
  rw [h1];clear h1 S1
  have hSM:S.Less M:=by rw [hM];exact hok.less
  have hrd:RdV M p d:=by rw [hM];exact hok.rd (right_lens hR).1 (right_lens hR).2
  iterate 7 refine s1_ ?_
  refine su_ [(0,_),(1,_),(2,_),(3,_),(6,_),(7,_),(8,_),(9,_),(10,_)] ?_
  iterate 7 refine s1_ ?_
  refine su_ [(0,_),(1,_),(2,_),(3,_),(6,_),(7,_),(8,_),(9,_),(10,_),(26,_)] ?_
  refine cF_ ?_
  iterate 6 refine s1_ ?_
  refine ca_ rfl (hhead p _ (hrd.less less_)) ?_
  rintro _ S1 ⟨rfl,h1⟩
  rw [h1];clear h1 S1
  iterate 9 refine s1_ ?_
  refine su_ [(0,_),(1,_),(2,_),(3,_),(6,_),(7,_),(8,_),(9,_),(10,_),(26,_),(11,_),(12,_)] ?_
  iterate 9 refine s1_ ?_
  refine su_ [(0,_),(1,_),(2,_),(3,_),(6,_),(7,_),(8,_),(9,_),(10,_),(26,_),(11,_),(12,_),(35,_)] ?_
  refine cT_ ?_
  iterate 8 refine s1_ ?_
  refine su_ [(0,_),(1,_),(2,_),(3,_),(6,_),(7,_),(8,_),(9,_),(10,_),(26,_),(11,_),(12,_),(35,_)] ?_
  iterate 3 refine s1_ ?_
  refine ⟨_,S,⟨_,_,rfl,⟨_,_,rfl,⟨_,_,rfl,rfl,rfl⟩,rfl⟩,rfl⟩,less_,?_⟩
  exact ⟨rfl,rfl⟩
end Rec
end Go.Proofs.YtceikpipmcadmaaGreatDoor
namespace Go.Proofs.YtceikpipmcadmaaGreatDoor
open Go.RowKit
open Mv Disk Num
set_option maxRecDepth 4000
namespace Rec
noncomputable def readRP (d : D) (s : ByteArray) : Nat × List (List Nat) × Int := if (bodyP d s false).2.2 ≠ 0 then (0, [], (bodyP d s false).2.2) else ((bodyP d s false).1, splitL (bodyP d s false).2.1 ((bodyP d s false).1 : Int), splitE (bodyP d s false).2.1 ((bodyP d s false).1 : Int))
noncomputable def readTP (d : D) (s : ByteArray) : ByteArray × Int := ((bodyP d s true).2.1, (bodyP d s true).2.2)
/-- What a read of records answers. -/
def ReadR (p : Nat × List (List Nat) × Int) (S : Mem) (r : Value) (S' : Mem) : Prop := ∃ v, r = .tuple #[.int .i64 (p.1 : Nat), v, .int .i64 p.2.2] ∧ S.Less S' ∧ SlOf RowR S' v p.2.1
theorem head_open {d : D} {s : ByteArray} (h : (headP d s).2.2 = 0) : openD d = (d, 0) ∧ Right d ∧ d.down = false ∧ headP d s = headD d s := by
 by_cases ho:(openD d).2=0
 ·have e:=headP_open ho s
  rcases openD_or d with ⟨h1,hR⟩ | ⟨h1,hR,hdn⟩ | ⟨h1,hR,hdn⟩
  ·rw [h1] at ho;simp at ho
  ·rw [h1] at ho;simp at ho
  ·exact ⟨h1,hR,hdn,e⟩
 ·rw [headP_shut ho] at h;exact absurd h ho
theorem headP_ok {d : D} {s : ByteArray} {w c : Nat} (h : headP d s = (w, c, 0)) : openD d = (d, 0) ∧ Right d ∧ d.down = false ∧ has d.ext s = true ∧ w ≤ 8 ∧ c ≤ 65536 ∧ sec (exOf d.ext s) = needN w c := by
 obtain ⟨h1,h2,h3,h4⟩:=head_open (d:=d) (s:=s) (by rw [h])
 rw [h4] at h
 exact ⟨h1,h2,h3,head_ok h2 h⟩
theorem body_size (d : D) (s : ByteArray) (t : Bool) : (bodyP d s t).2.1.size ≤ 2621440 := by
 unfold bodyP
 by_cases q1:(headP d s).2.2≠0
 ·rw [if_pos q1];exact Nat.zero_le _
 rw [if_neg q1]
 split
 ·exact Nat.zero_le _
 split
 ·exact Nat.zero_le _
 ·have q1:(headP d s).2.2=0:=by omega
  obtain ⟨_,_,_,_,k2,k3,_⟩:=headP_ok (d:=d) (s:=s) (w:=(headP d s).1) (c:=(headP d s).2.1) (by rw [← q1])
  have:=mul_le_each k2 k3
  show (bs _).size≤_
  rw [size_bs,List.length_take]
  omega
theorem rec_ReadText (v : Value) (d : D) (s : ByteArray) (S : Mem) (hd : DkR S v d) (hz : Dz d) :
  ACall Tryz.prog 23 #[v,.string s] S fun r S'=>r = .tuple #[.string (readTP d s).1,.int .i64 (readTP d s).2]∧S'=S:=by
 have hb:=fun M h=>rec_body v d s true M h hz
 unfold readTP
 generalize bodyP d s true=q at *
 simp only [bodyV] at hb
 obtain ⟨pe,ce,pw,cw,rfl,hE,hW⟩:=id hd
 refine ACall.enter (rs:=[.tmp 4,.tmp 5]) 18 [(0,.agg #[.int .i64 d.size,.slice pe d.ext.length ce,.slice pw d.waits.length cw,.int .i64 d.fuse,.bool d.down]),(1,.string s)] Tryz.func23 rfl rfl (Nat.le_of_ble_eq_true rfl) rfl ⟨rfl,rfl,trivial⟩ ?_
 iterate 2 refine s1_ ?_
 refine k_b5 rfl ?_
 intro b2 f2
 have g2:=f2
 repeat ((with_reducible replace g2:=fresh_set g2);obtain ⟨g2,_⟩:=g2)
 refine nl_ ?_
 iterate 8 refine s1_ ?_
 refine ca_ rfl (hb _ (hd.less less_)) ?_
 rintro _ S1 ⟨rfl,h1⟩
 rw [h1];clear h1 S1
 iterate 9 refine s1_ ?_
 refine su_ [(0,_),(1,_),(2,_),(4,_),(5,_),(7,_),(8,_)] ?_
 iterate 8 refine s1_ ?_
 refine su_ [(0,_),(1,_),(2,_),(4,_),(5,_),(7,_),(8,_)] ?_
 refine s1_ ?_
 refine ⟨_,S,⟨_,_,rfl,⟨_,_,rfl,rfl,rfl⟩,rfl⟩,less_,?_⟩
 exact ⟨rfl,rfl⟩
theorem rec_Read (v : Value) (d : D) (s : ByteArray) (S : Mem) (hd : DkR S v d) (hz : Dz d) :
  ACall Tryz.prog 21 #[v,.string s] S (ReadR (readRP d s) S):=by
 have hb:=fun M h=>rec_body v d s false M h hz
 have hsz:=body_size d s false
 unfold readRP
 generalize bodyP d s false=q at *
 obtain ⟨w,b,e⟩:=q
 simp only [bodyV] at hb
 simp only at hsz ⊢
 have hsp:=fun M=>numV_Split b (w:Int) M (by omega)
 obtain ⟨pe,ce,pw,cw,rfl,hE,hW⟩:=id hd
 by_cases he:e=0
 ·subst he
  rw [if_neg (by simp)]
  refine ACall.enter (rs:=[.tmp 4,.tmp 5,.tmp 6]) 30 [(0,.agg #[.int .i64 d.size,.slice pe d.ext.length ce,.slice pw d.waits.length cw,.int .i64 d.fuse,.bool d.down]),(1,.string s)] Tryz.func21 rfl rfl (Nat.le_of_ble_eq_true rfl) rfl ⟨rfl,rfl,trivial⟩ ?_
  iterate 2 refine s1_ ?_
  refine k_b5 rfl ?_
  intro b2 f2
  have g2:=f2
  repeat ((with_reducible replace g2:=fresh_set g2);obtain ⟨g2,_⟩:=g2)
  refine nl_ ?_
  iterate 9 refine s1_ ?_
  refine ca_ rfl (hb _ (hd.less less_)) ?_
  rintro _ S1 ⟨rfl,h1⟩
  rw [h1];clear h1 S1
  iterate 9 refine s1_ ?_
  refine su_ [(0,_),(1,_),(2,_),(4,_),(5,_),(6,_),(7,_),(8,_),(9,_)] ?_
  iterate 7 refine s1_ ?_
  refine su_ [(0,_),(1,_),(2,_),(4,_),(5,_),(6,_),(7,_),(8,_),(9,_),(19,_)] ?_
  refine cF_ ?_
  iterate 6 refine s1_ ?_
  refine ca_ rfl (hsp _) ?_
  rintro _ T ⟨v,rfl,hl,hv⟩
  have hST:=(show S.Less _ from less_).trans hl
  iterate 7 refine s1_ ?_
  refine su_ [(0,_),(1,_),(2,_),(4,_),(5,_),(6,_),(7,_),(8,_),(9,_),(19,_),(10,_)] ?_
  iterate 10 refine s1_ ?_
  refine su_ [(0,_),(1,_),(2,_),(4,_),(5,_),(6,_),(7,_),(8,_),(9,_),(19,_),(10,_)] ?_
  refine s1_ ?_
  refine ⟨_,T,⟨_,_,rfl,⟨_,_,rfl,⟨_,_,rfl,rfl,rfl⟩,rfl⟩,rfl⟩,less_,?_⟩
  exact ⟨v,rfl,hST,hv⟩
 ·rw [if_pos he]
  refine ACall.enter (rs:=[.tmp 4,.tmp 5,.tmp 6]) 30 [(0,.agg #[.int .i64 d.size,.slice pe d.ext.length ce,.slice pw d.waits.length cw,.int .i64 d.fuse,.bool d.down]),(1,.string s)] Tryz.func21 rfl rfl (Nat.le_of_ble_eq_true rfl) rfl ⟨rfl,rfl,trivial⟩ ?_
  iterate 2 refine s1_ ?_
  refine k_b5 rfl ?_
  intro b2 f2
  have g2:=f2
  repeat ((with_reducible replace g2:=fresh_set g2);obtain ⟨g2,_⟩:=g2)
  refine nl_ ?_
  iterate 9 refine s1_ ?_
  refine ca_ rfl (hb _ (hd.less less_)) ?_
  rintro _ S1 ⟨rfl,h1⟩
  rw [h1];clear h1 S1
  iterate 9 refine s1_ ?_
  refine su_ [(0,_),(1,_),(2,_),(4,_),(5,_),(6,_),(7,_),(8,_),(9,_)] ?_
  iterate 7 refine s1_ ?_
  refine su_ [(0,_),(1,_),(2,_),(4,_),(5,_),(6,_),(7,_),(8,_),(9,_),(19,_)] ?_
  refine cT_ ?_
  iterate 8 refine s1_ ?_
  refine su_ [(0,_),(1,_),(2,_),(4,_),(5,_),(6,_),(7,_),(8,_),(9,_),(19,_)] ?_
  iterate 2 refine s1_ ?_
  refine ⟨_,S,⟨_,_,rfl,⟨_,_,rfl,⟨_,_,rfl,rfl,rfl⟩,rfl⟩,rfl⟩,less_,?_⟩
  exact ⟨_,rfl,Mem.Less.refl _,SlOf.nil _ _⟩
end Rec
end Go.Proofs.YtceikpipmcadmaaGreatDoor
