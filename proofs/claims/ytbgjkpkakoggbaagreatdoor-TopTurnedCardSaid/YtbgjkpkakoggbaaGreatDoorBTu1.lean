/-
  Texts that belong together: Mem.
-/
import Derived.Test.YtbgjkpkakoggbaaGreatDoorBase
import Derived.Orders
import Derived.BigCall
import Derived.Laws.MakeOwn
import Derived.OrdersHeld
import Derived.Deep.Slices
import Derived.ChangeSlices
import Derived.Lib.LazyBuf
import Derived.SizedLaws
import Derived.WideShapes
set_option maxHeartbeats 8000000
set_option maxRecDepth 100000
set_option linter.unusedVariables false
set_option linter.unusedSimpArgs false
set_option linter.unusedSectionVars false
namespace Go.Proofs.YtbgjkpkakoggbaaGreatDoor
section
open Go.RowKit
theorem vd {p:Prop} (h:p:=by omega):p:=h
abbrev tt:=ByteArray
abbrev tu:=Value
abbrev tv:=World
abbrev tw:=Operand
abbrev tx:=TypeId
abbrev tz:=Program
abbrev tA:=FuncId
namespace Mv

/-! ### Memory that is known -/
structure Blk where
  elem:tx
  cells:List tu
  room:Nat
structure RO where
  c:Addr->Option tu
  z:Nat->Option (List UInt8)
instance : CoeFun RO λ_ => Addr -> Option Value := ⟨RO.c⟩
structure Mem where
  own:Nat->Option Blk
  ro:RO
def Mem.set (S:Mem) (b:Nat) (r:Blk):Mem:=⟨λk=>if k=b then some r else S.own k,S.ro⟩
def Mem.del (S:Mem) (b:Nat):Mem:=⟨λk=>if k=b then none else S.own k,S.ro⟩
theorem vf (S:Mem) (b:Nat) (r:Blk):(S.set b r).own b=some r:=by simp [Mem.set]
theorem vg (S:Mem) {b k:Nat} (r:Blk) (h:k≠b):(S.set b r).own k=S.own k:=by simp [Mem.set,h]
theorem vv (S:Mem) {b k:Nat} (h:k≠b):(S.del b).own k=S.own k:=by simp [Mem.del,h]
theorem Mem.set_set (S:Mem) (b:Nat) (r r':Blk):(S.set b r).set b r'=S.set b r':=by
  unfold Mem.set;congr 1;funext k;by_cases h:k=b <;> simp [h]
theorem Mem.del_set (S:Mem) (b:Nat) (r:Blk) (h:S.own b=none):(S.set b r).del b=S:=by
  cases S;unfold Mem.set Mem.del;congr 1;funext k;by_cases e:k=b
  · subst e;simpa using h.symm
  simp [e]
theorem vr (S:Mem) {b c:Nat} (r r':Blk) (h:b≠c):(S.set b r).set c r'=(S.set c r').set b r:=by
  unfold Mem.set;congr 1;funext k;by_cases I:k=b <;> by_cases J:k=c <;> simp_all
theorem vB (S:Mem) (b:Nat) (r:Blk) (h:S.own b=some r):S.set b r=S:=by
  cases S;unfold Mem.set;congr 1;funext k;by_cases e:k=b
  · subst e;simpa using h.symm
  simp [e]
def Mem.rd (S:Mem) (a:Addr):Option tu :=
  match S.own a.block with
  | some r=>if a.spot.isSome then none else r.cells[a.off]?
  | none=>S.ro a

def FzAt (w:tv) (g:Nat) (l:List UInt8):Prop:=∃ cur hi,w.heap[g]?=some (.cells cur 5 (0,hi))/\l.length<=hi/\(l.map λc=>Value.int .u8 (c.toNat:Int)) <+: cur.toList
theorem FzAt.lt {w:tv} {g:Nat} {l:List UInt8} (h:FzAt w g l):g<w.heap.size:=by
  obtain ⟨cur,hi,I,_⟩:=h;exact (Array.getElem?_eq_some_iff.1 I).1
theorem FzAt.of_block {w w':tv} {g:Nat} {l:List UInt8} (h:FzAt w g l) (e:w'.heap[g]?=w.heap[g]?):FzAt w' g l:=by
  obtain ⟨cur,hi,I,J⟩:=h;exact ⟨cur,hi,e.trans I,J⟩
structure View (S:Mem) (w:World):Prop where
  own:∀ b r,S.own b=some r -> ∃ cur fz,w.heap[b]?=some (.cells cur r.elem fz)/\r.cells <+: cur.toList/\r.room<=cur.size/\(∀ j,j<cur.size\/(j=cur.size/\r.elem≠5) -> ¬ (fz.1<=j/\j<fz.2))
  ro:∀ a v,S.ro a=some v->w.cell? a=some v/\S.own a.block=none
  fz:∀ g l,S.ro.z g=some l->S.own g=none/\(∃ v,S.ro ⟨g,0,none⟩=some v)/\FzAt w g l

theorem View.lt {S:Mem} {w:tv} (h:View S w) {b:Nat} {r:Blk} (hb:S.own b=some r):b<w.heap.size:=by
  obtain ⟨cur,fz,I,_⟩:=h.own b r hb;exact (Array.getElem?_eq_some_iff.1 I).1
theorem View.fzOf {S S':Mem} {w w':tv} (h:View S w) (I:S'.ro=S.ro) (Z:∀ k,S.own k=none->k<w.heap.size->S'.own k=none) (hb:∀ k,k<w.heap.size->S.own k=none->w'.heap[k]?=w.heap[k]?) :
    ∀ g l,S'.ro.z g=some l->S'.own g=none/\(∃ v,S'.ro ⟨g,0,none⟩=some v)/\FzAt w' g l:=λg l U=>by
  rw [I] at U ⊢;obtain ⟨V,h2,J⟩:=h.fz g l U;exact ⟨Z g V J.lt,h2,J.of_block (hb g J.lt V)⟩
theorem zeS {S:Mem} {b k n:Nat} {r:Blk} (hb:n<=b) (h:S.own k=none) (hk:k<n):(S.set b r).own k=none:=by
  rw [vg _ _ vd];exact h
theorem View.fresh {S:Mem} {w:tv} (h:View S w):S.own w.heap.size=none:=by
  cases e:S.own w.heap.size with
  | none=>rfl
  | some r=>exact absurd (h.lt e) (Nat.lt_irrefl _)
theorem zce {α : Type} {l m:List α} (h:l <+: m) {j:Nat} {v : α} (I:l[j]?=some v):m[j]?=some v:=by
  obtain ⟨t,rfl⟩:=h;have:j<l.length:=by
    rcases Nat.lt_or_ge j l.length with h | h
    · exact h
    rw [List.getElem?_eq_none h] at I;cases I
  rw [List.getElem?_append_left this];exact I
theorem View.rd {S:Mem} {w:tv} (h:View S w) {a:Addr} {v:tu} (I:S.rd a=some v):w.cell? a=some v:=by
  unfold Mem.rd at I;cases e:S.own a.block with
  | none=>simp only [e] at I;exact (h.ro a v I).1
  | some r =>
    simp only [e] at I;obtain ⟨cur,fz,U,J,_⟩:=h.own _ _ e;split at I
    · cases I
    rename_i hs;have:=zce J I;simp only [World.cell?,U,hs];simpa using this

structure Step (S:Mem) (w:World) (S':Mem) (w':World):Prop where
  view:View S' w'
  os:w'.os=w.os
  tape:w'.tape=w.tape
  output:w'.output=w.output
  size:w.heap.size<=w'.heap.size
  block:∀ k,k<w.heap.size->S.own k=none->w'.heap[k]?=w.heap[k]?
  dom:∀ k,S'.own k≠none->S.own k≠none\/w.heap.size<=k
  ro:∀ a v,S'.ro a=some v->S.ro a=some v\/S.own a.block≠none\/w.heap.size<=a.block
theorem Step.refl {S:Mem} {w:tv} (h:View S w):Step S w S w:=⟨h,rfl,rfl,rfl,Nat.le_refl _,λ_ _ _=>rfl,λ_ h=>.inl h,λ_ _ h=>.inl h⟩
theorem Step.trans {S I U:Mem} {w J V:tv} (h:Step S w I J) (k:Step I J U V):Step S w U V :=
  ⟨k.view,k.os.trans h.os,k.tape.trans h.tape,k.output.trans h.output,Nat.le_trans h.size k.size,λb hb Z=>by
    have h1:I.own b=none:=by
      cases e:I.own b with
      | none=>rfl
      | some r =>
        rcases h.dom b (by rw [e];simp) with x | x
        · exact absurd Z x
        omega
    exact (k.block b (Nat.lt_of_lt_of_le hb h.size) h1).trans (h.block b hb Z),λb hb=>by
      rcases k.dom b hb with x | x
      · exact h.dom b x
      · exact .inr (Nat.le_trans h.size x),λa v hv=>by
      rcases k.ro a v hv with x | x | x
      · exact h.ro a v x
      · exact .inr (h.dom _ x)
      exact .inr (.inr (Nat.le_trans h.size x))⟩
def Mem.Less (S' S:Mem):Prop:=(∀ b r,S'.own b=some r->S.own b=some r)/\S'.ro=S.ro
theorem Mem.Less.refl (S:Mem):S.Less S:=⟨λ_ _ h=>h,rfl⟩
theorem Mem.Less.trans {S S' I:Mem} (h:I.Less S') (k:S'.Less S):I.Less S:=⟨λb r x=>k.1 b r (h.1 b r x),h.2.trans k.2⟩
theorem vi (S:Mem) (b:Nat) (r:Blk) (h:S.own b=none):S.Less (S.set b r) :=
  ⟨λk r' hk => by
    by_cases e : k = b
    · subst e;rw [h] at hk;cases hk
    rw [vg _ _ e];exact hk,rfl⟩
theorem View.less {S S':Mem} {w:tv} (h:View S w) (hl:S'.Less S):View S' w :=
  ⟨λb r hb=>h.own b r (hl.1 b r hb),λa v I=>by
    rw [hl.2] at I;refine ⟨(h.ro a v I).1,?_⟩;cases e:S'.own a.block with
    | none=>rfl
    | some r=>(have:=hl.1 _ _ e;rw [(h.ro a v I).2] at this;cases this),h.fzOf hl.2 (λk hk _=>by
    cases e:S'.own k with
    | none=>rfl
    | some r=>have:=hl.1 _ _ e;rw [hk] at this;cases this) λ_ _ _=>rfl⟩
theorem Step.less {S S' I:Mem} {w w':tv} (h:Step S w S' w') (hl:I.Less S'):Step S w I w' :=
  ⟨h.view.less hl,h.os,h.tape,h.output,h.size,h.block,λk hk=>h.dom k (by
    cases e:I.own k with
    | none=>exact absurd e hk
    | some r=>rw [hl.1 _ _ e];simp),λa v J=>h.ro a v (by rw [<- hl.2];exact J)⟩
theorem Step.lessL {S S0 S':Mem} {w w':tv} (h:Step S0 w S' w') (hl:S0.Less S):Step S w S' w' :=
  ⟨h.view,h.os,h.tape,h.output,h.size,λk hk J=>h.block k hk (by
    cases e:S0.own k with
    | none=>rfl
    | some r=>have:=hl.1 _ _ e;rw [J] at this;cases this),λk hk=>by
      rcases h.dom k hk with x | x
      · cases e:S0.own k with
        | none=>exact absurd e x
        | some r=>exact .inl (by rw [hl.1 _ _ e];simp)
      · exact .inr x,λa v I=>by
      rcases h.ro a v I with x | x | x
      · exact .inl (by rw [<- hl.2];exact x)
      · refine .inr (.inl ?_);cases e:S0.own a.block with
        | none=>exact absurd e x
        | some r=>rw [hl.1 _ _ e];simp
      exact .inr (.inr x)⟩
theorem View.drawn {S:Mem} {w:tv} (h:View S w) (n:Nat):View S { w with drawn:=n }:=⟨h.own,h.ro,h.fz⟩
theorem Step.drawn {S:Mem} {w:tv} (h:View S w) (n:Nat):Step S w S { w with drawn:=n }:=⟨h.drawn n,rfl,rfl,rfl,Nat.le_refl _,λ_ _ _=>rfl,λ_ h=>.inl h,λ_ _ h=>.inl h⟩
theorem View.below {S:Mem} {w w':tv} (h:View S w) (hb:Below w.heap.size w w'):View S w' :=
  ⟨λb r V=>by rw [hb.block b (h.lt V)];exact h.own b r V,λa v Z=>by
    obtain ⟨I,J⟩:=h.ro a v Z;exact ⟨cell_later hb I,J⟩,λg l hg=>by
    obtain ⟨I,J,U⟩:=h.fz g l hg;exact ⟨I,J,U.of_block (hb.block g U.lt)⟩⟩
theorem Step.below {S:Mem} {w w':tv} (h:View S w) (hb:Below w.heap.size w w'):Step S w S w' :=
  ⟨h.below hb,hb.os,hb.tape,hb.output,hb.size,λk hk _=>hb.block k hk,λ_ h=>.inl h,λ_ _ h=>.inl h⟩
theorem Step.toBelow {S S':Mem} {w w':tv} (h:Step S w S' w') (I:∀ k,S.own k=none):Below w.heap.size w w' :=
  ⟨h.os,h.tape,h.output,h.size,λk hk=>h.block k hk (I k)⟩

/-! ### What is known of the slots -/
abbrev Env:=List (Nat × tu)
def lk:Env->Nat->Option tu
  | [],_=>none
  | (k,v) :: E,d=>if k=d then some v else lk E d
def Sub:Env->Env->Prop
  | [],_=>True
  | (k,v) :: E',E=>lk E k=some v/\Sub E' E
theorem Sub.lk {I E:Env} (h:Sub I E) {d:Nat} {v:tu} (hd:Mv.lk I d=some v):Mv.lk E d=some v:=by
  induction I with
  | nil=>cases hd
  | cons p I J =>
    obtain ⟨k,u⟩:=p;simp only [Mv.lk] at hd;split at hd
    · rename_i e;subst e;cases hd;exact h.1
    exact J h.2 hd
def ev (E:Env):tw->Option tu
  | .tmp t=>lk E t
  | .const v=>some v
  | .global g=>some (.pointer (some ⟨g,0,none⟩))
  | .func f=>some (.func (.func f) #[] #[])
def evs (E:Env):List tw->Option (List tu)
  | []=>some []
  | x :: xs=>match ev E x,evs E xs with
    | some v,some vs=>some (v :: vs)
    | _,_=>none
structure Good (N:Nat) (E:Env) (a:Act):Prop where
  size:a.tmps.size=N
  defers:a.defers = []
  at_:∀ d v,lk E d=some v->a.tmps.getD d undef=v
theorem Good.ev {N:Nat} {E:Env} {a:Act} (h:Good N E a) {x:tw} {v:tu} (I:Mv.ev E x=some v):a.eval x=v:=by
  cases x with
  | tmp t=>exact h.at_ t v I
  | const u=>cases I;rfl
  | global g=>cases I;rfl
  | func f=>cases I;rfl
theorem Good.evs {N:Nat} {E:Env} {a:Act} (h:Good N E a) {xs:List tw} {vs:List tu} (I:Mv.evs E xs=some vs):xs.map a.eval=vs:=by
  induction xs generalizing vs with
  | nil=>cases I;rfl
  | cons x xs V =>
    simp only [Mv.evs] at I;split at I
    · rename_i v U J Z;cases I;simp only [List.map_cons,h.ev J,V Z]
    cases I
theorem Good.sub {N:Nat} {E I:Env} {a:Act} (h:Good N E a) (hs:Sub I E):Good N I a:=⟨h.size,h.defers,λd v hd=>h.at_ d v (hs.lk hd)⟩
theorem zne (T:Array tu) (d:Nat) (v:tu) (h:d<T.size) (k:Nat):(T.setIfInBounds d v).getD k undef=if d=k then v else T.getD k undef:=by
  simp only [Array.getD_eq_getD_getElem?,Array.getElem?_setIfInBounds];by_cases e:d=k
  · subst e;simp [h]
  simp [e]
theorem Good.put {N:Nat} {E:Env} {a:Act} (h:Good N E a) {d:Nat} (hd:d<N) (v:tu):Good N ((d,v) :: E) (a.put (some d) v):=by
  refine ⟨by simp [Act.put,h.size],h.defers,λk u hk=>?_⟩;simp only [Act.put,zne _ _ _ (by rw [h.size];exact hd)];simp only [lk] at hk;split at hk
  · rename_i e;cases hk;rw [if_pos e]
  rename_i e;rw [if_neg e];exact h.at_ k u hk
theorem Good.put0 {N:Nat} {E:Env} {a:Act} (h:Good N E a) (v:tu):Good N E (a.put none v):=⟨h.size,h.defers,h.at_⟩

/-! ### Operations -/
section
variable {P:tz} {N:Nat} {ops:Array Oper}
def Post (N:Nat) (K:Env->Mem->Prop) (S:Mem) (w:tv) (a':Act) (w':tv):Prop:=∃ E' S',K E' S'/\Good N E' a'/\Step S w S' w'
def noQ:Exit->Act->tv->Prop:=λ_ _ _=>False
def AOp (P:tz) (N:Nat) (ops:Array Oper) (o:Oper) (K:Env->Mem->Prop) (E:Env) (S:Mem):Prop :=
  ∀ a w,Good N E a->View S w ->
    if Region.wanted o (yielded ops a.tmps) then o.wp P a w (Post N K S w) noQ else Post N K S w (a.put o.dst undef) w
def ARun (P:tz) (N:Nat) (ops:Array Oper):List Oper->(Env->Mem->Prop)->Env->Mem->Prop
  | [],K,E,S=>K E S
  | o :: os,K,E,S=>AOp P N ops o (λE' S'=>ARun P N ops os K E' S') E S
theorem zep {o:Oper} {a:Act} {K:Act->tv->Prop} {Q:Exit->Act->tv->Prop} {r:Result Next} (h:o.upon P a K noQ r):o.upon P a K Q r:=by
  cases r with
  | ok n w' =>
    cases n <;> simp only [Oper.upon] at h ⊢ <;> first | exact h | skip
    exact Calls.mono h λe J I=>by
      cases e with
      | returned u=>exact I
      | panicked c=>exact I.elim
      | outgrown=>obtain ⟨_,_,x⟩:=I;exact x.elim
  | halt x w'=>cases x <;> simp only [Oper.upon] at h ⊢ <;> first | exact h | exact (h:False).elim
theorem Post.mono {K K':Env->Mem->Prop} {S:Mem} {w:tv} {I:Act} {w':tv} (h:∀ E S,K E S->K' E S) (x:Post N K S w I w'):Post N K' S w I w' :=
  let ⟨J,S',k,g,s⟩:=x;⟨J,S',h _ _ k,g,s⟩
theorem ARun.wp {l:List Oper}:∀ {K:Env->Mem->Prop} {E:Env} {S:Mem},ARun P N ops l K E S -> ∀ {Q:Exit->Act->tv->Prop} (a:Act) (w:tv),Good N E a->View S w ->
    (∀ V w',Post N K S w V w'->Q .normal V w')->wpList P ops Q l a w:=by
  induction l with
  | nil=>exact λ{K E S} h Q a w hg Z hq=>hq a w ⟨E,S,h,hg,Step.refl Z⟩
  | cons o os ih =>
    intro K E S h Q a w hg Z hq;have U:=h a w hg Z;have next:∀ J I,Post N (λE' S'=>ARun P N ops os K E' S') S w J I->wpList P ops Q os J I:=λJ I ⟨E1,S1,r,g1,s1⟩ =>
      ih r J I g1 s1.view λV w' ⟨E2,S2,k,g2,s2⟩=>hq V w' ⟨E2,S2,k,g2,s1.trans s2⟩
    unfold wpList;split
    · rename_i hw;rw [if_pos hw] at U;exact .inl (zep (Oper.wp_mono next U))
    rename_i hw;rw [if_neg hw] at U;exact next _ _ U

/-! ### Code -/
def AWP (P:tz) (N:Nat) (c:Code) (Q:Exit->Env->Mem->Prop) (E:Env) (S:Mem):Prop :=
  ∀ a w,Good N E a->View S w->c.wp P (λe a' w'=>Post N (Q e) S w a' w') a w
def Athen (next:Env->Mem->Prop) (Q:Exit->Env->Mem->Prop):Exit->Env->Mem->Prop
  | .normal=>next
  | e=>Q e
variable {Q:Exit->Env->Mem->Prop} {E:Env} {S:Mem}
theorem AWP.mono {c:Code} {I:Exit->Env->Mem->Prop} (h:AWP P N c Q E S) (U:∀ e E S,Q e E S->I e E S):AWP P N c I E S:=λa w V J =>
  wp_mono (h a w V J) λe _ _ x=>x.mono (U e)
theorem AWP.sub {c:Code} (I:Env) (hs:Sub I E) (h:AWP P N c Q I S):AWP P N c Q E S:=λa w U J=>h a w (U.sub hs) J
theorem AWP.less {c:Code} (S':Mem) (hs:S'.Less S) (h:AWP P N c Q E S'):AWP P N c Q E S:=λa w V J =>
  wp_mono (h a w V (J.less hs)) λ_ _ _ ⟨I,U,k,g,s⟩=>⟨I,U,k,g,s.lessL hs⟩
theorem AWP.seq {x y:Code} (h:AWP P N x (Athen (AWP P N y Q) Q) E S):AWP P N (.seq x y) Q E S:=λa w hg V=>by
  refine wp_seq (wp_mono (h a w hg V) λe a1 Z ⟨I,J,k,g,s⟩=>?_);cases e with
  | normal=>exact wp_mono (k a1 Z g s.view) λe a2 w2 ⟨E2,S2,k2,U,s2⟩=>⟨E2,S2,k2,U,s.trans s2⟩
  | exit id=>exact ⟨I,J,k,g,s⟩
  | goto l=>exact ⟨I,J,k,g,s⟩
  | ret=>exact ⟨I,J,k,g,s⟩
  | panic c=>exact ⟨I,J,k,g,s⟩
  | outgrown=>exact ⟨I,J,k,g,s⟩
theorem AWP.skip (h:Q .normal E S):AWP P N .skip Q E S:=λa w J I=>wp_skip ⟨E,S,h,J,Step.refl I⟩
theorem AWP.ret (h:Q .ret E S):AWP P N .ret Q E S:=λa w J I=>wp_ret ⟨E,S,h,J,Step.refl I⟩
theorem AWP.exit {id:Nat} (h:Q (.exit id) E S):AWP P N (.exit id) Q E S:=λa w J I=>wp_exit ⟨E,S,h,J,Step.refl I⟩
theorem AWP.cond {c:tw} {x y:Code} (t:Bool) (hc:ev E c=some (.bool t)) (h:AWP P N (if t then x else y) Q E S):AWP P N (.cond c x y) Q E S:=λa w I J =>
  wp_cond (I.ev hc) (h a w I J)
theorem AWP.condT {c:tw} {x y:Code} {t:Bool} (hc:ev E c=some (.bool t)) (I:t=true) (h:AWP P N x Q E S):AWP P N (.cond c x y) Q E S:=AWP.cond t hc (by rw [I];exact h)
theorem AWP.condF {c:tw} {x y:Code} {t:Bool} (hc:ev E c=some (.bool t)) (I:t=false) (h:AWP P N y Q E S):AWP P N (.cond c x y) Q E S:=AWP.cond t hc (by rw [I];exact h)
theorem vu {c:tw} {x y:Code} {t:Bool} (hc:ev E c=some (.bool t)) (I:t=true->AWP P N x Q E S) (J:t=false->AWP P N y Q E S):AWP P N (.cond c x y) Q E S:=AWP.cond t hc (by cases t;exact J rfl;exact I rfl)
def AinBlock (id:Nat) (Q:Exit->Env->Mem->Prop):Exit->Env->Mem->Prop
  | .exit id'=>if id'=id then Q .normal else Q (.exit id')
  | e=>Q e
theorem AWP.block {id:Nat} {c:Code} (h:AWP P N c (AinBlock id Q) E S):AWP P N (.block id c) Q E S:=λa w V U =>
  wp_block (wp_mono (h a w V U) λe a1 w1 x=>by
    cases e with
    | exit Z =>
      simp only [Exit.inBlock];obtain ⟨I,J,k,g,s⟩:=x;simp only [AinBlock] at k;split
      · rename_i e;rw [if_pos e] at k;exact ⟨I,J,k,g,s⟩
      rename_i e;rw [if_neg e] at k;exact ⟨I,J,k,g,s⟩
    | normal=>exact x
    | goto l=>exact x
    | ret=>exact x
    | panic c=>exact x
    | outgrown=>exact x)
theorem AWP.region {id:Nat} {l:List Oper} (h:ARun P N l.toArray l (Q .normal) E S):AWP P N (.region id l.toArray false) Q E S:=λa w J I =>
  wp_region_lit (h.wp a w J I λ_ _ x=>x)
theorem zpN {P:tz} {c:Code} {Q:Exit->Act->tv->Prop} {X:Type} (I:X->Act->tv->Prop) (μ : X->Nat) (x0:X) {a:Act} {w:tv} (h0:I x0 a w)
    (Z:∀ x a w,I x a w->c.wp P (Exit.then (λa' w'=>∃ x',I x' a' w' /\ μ x' < μ x) Q) a w):(Code.loop c).wp P Q a w:=by
  intro b k cs;have key:∀ n x a w,μ x=n->I x a w -> ∃ e a' w',Q e a' w'/\Arrives P (lone (b.at a (.code c :: .inLoop c :: k)) cs w) b k cs e a' w':=by
    intro n
    induction n using Nat.strongRecOn with
    | _ n ih =>
      intro x a w hn hI;obtain ⟨e,a1,w1,U,J⟩:=Z x a w hI b (.inLoop c :: k) cs;cases e with
      | normal =>
        obtain ⟨x',af,ae⟩:=U;obtain ⟨e2,a2,w2,ag,V⟩:=ih (μ x') (hn ▸ ae) x' a1 w1 rfl af;exact ⟨e2,a2,w2,ag,.of_steps (Steps.trans J (.one step_inLoop)) V⟩
      | exit id=>exact ⟨_,a1,w1,U,.pass (x:=.inLoop c) rfl (λ_ _=>.inl (by simp)) J⟩
      | goto l=>exact ⟨_,a1,w1,U,.pass (x:=.inLoop c) rfl (λ_ _=>.inl (by simp)) J⟩
      | ret=>exact ⟨_,a1,w1,U,.pass (x:=.inLoop c) rfl (λ_ _=>.inl (by simp)) J⟩
      | panic ch=>exact ⟨_,a1,w1,U,.pass (x:=.inLoop c) rfl (λ_ _=>.inl (by simp)) J⟩
      | outgrown=>exact ⟨_,a1,w1,U,.pass (x:=.inLoop c) rfl (λ_ _=>.inl (by simp)) J⟩
  obtain ⟨e,a',w',U,J⟩:=key _ x0 a w rfl h0;exact ⟨e,a',w',U,.of_steps (.one step_loop) J⟩
theorem AWP.loop {X:Type} {c:Code} (st:X->Env) (m:X->Mem) (ok:X->Prop) (μ : X->Nat) (Z:X) (hE:Sub (st Z) E) (hm:(m Z).Less S) (h0:ok Z)
    (I:∀ x,ok x->AWP P N c (Athen (λE' S'=>∃ x',Sub (st x') E'/\(m x').Less S'/\ok x' /\ μ x' < μ x) Q) (st x) (m x)):AWP P N (.loop c) Q E S:=λa w hg hv=>by
  refine zpN (λx a' w'=>Good N (st x) a'/\Step S w (m x) w'/\ok x) μ Z ⟨hg.sub hE,(Step.refl hv).less hm,h0⟩ λx a1 w1 ⟨h1,J,h3⟩=>?_;refine wp_mono (I x h3 a1 w1 h1 J.view) λe a2 w2 ⟨U,V,k,g,s⟩=>?_;cases e with
  | normal=>obtain ⟨x',hs,aa,ho,hl⟩:=k;exact ⟨x',⟨g.sub hs,(J.trans s).less aa,ho⟩,hl⟩
  | exit id=>exact ⟨U,V,k,g,J.trans s⟩
  | goto l=>exact ⟨U,V,k,g,J.trans s⟩
  | ret=>exact ⟨U,V,k,g,J.trans s⟩
  | panic c=>exact ⟨U,V,k,g,J.trans s⟩
  | outgrown=>exact ⟨U,V,k,g,J.trans s⟩
end
end Mv
open Go.RowKit
namespace Mv
theorem zaz (b o j:Nat):(⟨b,o,none⟩ : Addr).add j=⟨b,o+j,none⟩:=by unfold Addr.add;split <;> simp_all
theorem zfT (S:Mem) (b j:Nat) (r:Blk):(S.set b r).rd ⟨b,j,none⟩=r.cells[j]?:=by simp [Mem.rd,Mem.set]
theorem zim (S:Mem) {b:Nat} (r:Blk) {a:Addr} (h:a.block≠b):(S.set b r).rd a=S.rd a:=by simp [Mem.rd,Mem.set,h]
theorem zeq {S:Mem} {b:Nat} {r:Blk} (h:S.own b=some r) (j:Nat):S.rd ⟨b,j,none⟩=r.cells[j]?:=by simp [Mem.rd,h]
def Fresh (S:Mem) (b:Nat):Prop:=S.own b=none /\ ∀ a v,S.ro a=some v->a.block≠b
theorem Fresh.own {S:Mem} {b:Nat} (h:Fresh S b):S.own b=none:=h.1
theorem Fresh.ne {S:Mem} {b p:Nat} {r:Blk} (h:Fresh S b) (I:S.own p=some r):p≠b:=λe=>by subst e;rw [h.1] at I;cases I
theorem Fresh.ne' {S:Mem} {b p:Nat} {r:Blk} (h:Fresh S b) (I:S.own p=some r):b≠p:=(h.ne I).symm
theorem View.freshAt {S:Mem} {w:tv} (h:View S w):Fresh S w.heap.size:=⟨h.fresh,λa v I e=>by
  have:=World.block_lt_of_cell? _ _ (h.ro a v I).1;omega⟩
theorem Fresh.less {S S':Mem} {b:Nat} (h:Fresh S b) (hl:S'.Less S):Fresh S' b:=by
  refine ⟨?_,λa v I=>h.2 a v (by rw [<- hl.2];exact I)⟩;cases e:S'.own b with
  | none=>rfl
  | some r=>have:=hl.1 _ _ e;rw [h.1] at this;cases this
theorem zaa {S:Mem} {b c:Nat} {r:Blk} (h:Fresh (S.set c r) b):Fresh S b/\b≠c:=by
  obtain ⟨J,U⟩:=h;have I:b≠c:=λe=>by subst e;simp [Mem.set] at J
  exact ⟨⟨by simpa [Mem.set,I] using J,U⟩,I⟩

/-! ### What a type is -/
def plainT (P:tz) (T:tx):Bool:=match P.underlying T with | none=>false | some (.struct _) | some (.array _ _)=>false | some _=>true
def aggT (P:tz) (T:tx):Bool:=match P.underlying T with | some (.struct _) | some (.array _ _)=>true | _=>false
def sizeT (P:tz) (T:tx):Option Nat:=(P.info? T).map (·.size)
def fieldT (P:tz) (T:tx) (f:Nat):Option (Nat × Nat):=match P.underlying T with
  | some (.struct fs)=>match (fs[f]? : Option Field) with
    | some g=>match P.info? g.type with
      | some i=>some (g.offset,i.size)
      | none=>none
    | none=>none
  | _=>none
theorem zc0 {P:tz} {T:tx} (h:plainT P T=true) (w:tv):(isAgg T).run P w = .ok false w:=by
  unfold plainT at h;cases e:P.underlying T with
  | none=>simp [e] at h
  | some d =>
    unfold isAgg;rw [Sem.run_bind,run_underlying e w];cases d <;> simp_all
theorem zd3 {P:tz} {T:tx} (h:aggT P T=true) (w:tv):(isAgg T).run P w = .ok true w:=by
  unfold aggT at h;cases e:P.underlying T with
  | none=>simp [e] at h
  | some d =>
    unfold isAgg;rw [Sem.run_bind,run_underlying e w];cases d <;> simp_all
theorem zaM {P:tz} {T:tx} {n:Nat} (h:sizeT P T=some n) (w:tv):(sizeOf T).run P w = .ok n w:=by
  unfold sizeT at h;cases e:P.info? T with
  | none=>simp [e] at h
  | some i=>simp [e] at h;simp [sizeOf,typeInfo,e,h]

section
variable {P:tz} {N:Nat} {ops:Array Oper} {E:Env} {S:Mem} {K:Env->Mem->Prop}
def ACalm (P:tz) (N:Nat) (o:Oper) (E:Env) (S:Mem) (v:tu):Prop:=∀ a w,Good N E a->View S w->(execOp a.eval o).run P w = .ok (.value v) w
theorem td {o:Oper} {os:List Oper} {d:Nat} {v:tu} (U:o.guard=none) (hd:o.dst=some d) (J:d<N) (hc:ACalm P N o E S v) (h:ARun P N ops os K ((d,v) :: E) S):ARun P N ops (o :: os) K E S:=λa w g I=>by
  rw [if_pos (by simp [Region.wanted,U])];unfold Oper.wp;rw [hc a w g I];exact ⟨_,_,h,by rw [hd];exact g.put J v,Step.refl I⟩
theorem zcf {N:Nat} {E:Env} {a:Act} (g:Good N E a) {j d:Nat} {J:Oper} (U:ops[j]?=some J) (hd:J.dst=some d) (V:d<N) {b:Bool} (hb:lk E d=some (.bool b)):yielded ops a.tmps j=some b:=by
  have I:=g.at_ d _ hb;have Z:a.tmps[d]?=some (Value.bool b):=by
    rw [Array.getD_eq_getD_getElem?] at I;have:d<a.tmps.size:=(by rw [g.size];exact V);rw [Array.getElem?_eq_getElem this] at I ⊢;simpa using I
  simp [yielded,U,hd,Z]
theorem uZ {o:Oper} {os:List Oper} {d:Nat} {v:tu} (j:Nat) (t:Bool) (dj:Nat) (V:o.guard=some (j,t)) (I:(ops[j]?).bind (·.dst)=some dj) (J:dj<N) (hb:lk E dj=some (.bool t)) (hd:o.dst=some d) (Z:d<N) (hc:ACalm P N o E S v) (h:ARun P N ops os K ((d,v) :: E) S):ARun P N ops (o :: os) K E S:=λa w g U=>by
  cases e:ops[j]? with
  | none=>simp [e] at I
  | some og =>
    simp [e] at I;rw [if_pos (by simp [Region.wanted,V,zcf g e I J hb])];unfold Oper.wp;rw [hc a w g U];exact ⟨_,_,h,by rw [hd];exact g.put Z v,Step.refl U⟩
theorem uV {o:Oper} {os:List Oper} {d:Nat} (j:Nat) (t u:Bool) (dj:Nat) (Z:o.guard=some (j,t)) (I:(ops[j]?).bind (·.dst)=some dj) (U:dj<N) (hb:lk E dj=some (.bool u)) (J:(u == t)=false) (hd:o.dst=some d) (hn:d<N) (h:ARun P N ops os K ((d,undef) :: E) S):ARun P N ops (o :: os) K E S:=λa w g V=>by
  cases e:ops[j]? with
  | none=>simp [e] at I
  | some og =>
    simp [e] at I;rw [if_neg (by simp [Region.wanted,Z,zcf g e I U hb];intro x;subst x;simp at J)];exact ⟨_,_,h,by rw [hd];exact g.put hn _,Step.refl V⟩

/-! #### Operations that only look -/
variable {dst:Option Nat} {ty:tx} {pos:String} {aft:Array Edge} {gd:Option (Nat × Bool)}
theorem Calm.move {x:tw} {v:tu} (I:ev E x=some v):ACalm P N ⟨dst,.move x,ty,pos,aft,gd⟩ E S v:=λa w g J=>by
  simp [execOp,g.ev I]
theorem Calm.assign {x:tw} {v:tu} (I:ev E x=some v):ACalm P N ⟨dst,.assign x,ty,pos,aft,gd⟩ E S v:=λa w g J=>by
  simp [execOp,g.ev I]
theorem u4 {c x y:tw} {v:tu} (hc:ev E c=some (.bool true)) (I:ev E x=some v):ACalm P N ⟨dst,.pick c x y,ty,pos,aft,gd⟩ E S v:=λa w g J=>by
  simp [execOp,g.ev hc,g.ev I,asBool]
theorem uX {c x y:tw} {v:tu} (hc:ev E c=some (.bool false)) (I:ev E y=some v):ACalm P N ⟨dst,.pick c x y,ty,pos,aft,gd⟩ E S v:=λa w g J=>by
  simp [execOp,g.ev hc,g.ev I,asBool]
def Bin (P:tz) (op:BinOp) (xt:tx) (x y:tw) (vx vy v:tu):Prop:=∀ w,(do eqGuard op xt x y vx vy;binOp op xt vx vy:Sem tu).run P w = .ok v w
theorem vh {op:BinOp} {I V:tx} {x y:tw} {vx vy v:tu} (J:ev E x=some vx) (U:ev E y=some vy) (h:Bin P op I x y vx vy v):ACalm P N ⟨dst,.binOp op I x y V,ty,pos,aft,gd⟩ E S v:=λa w g Z=>by
  have:=h w;simp only [execOp,g.ev J,g.ev U];rw [Sem.run_bind,this];rfl
def Una (P:tz) (op:UnOp) (vx v:tu):Prop:=∀ w,(Op.unary op vx).run P w = .ok v w
theorem Calm.un {op:UnOp} {J:tx} {x:tw} {vx v:tu} (I:ev E x=some vx) (h:Una P op vx v):ACalm P N ⟨dst,.unOp op J x,ty,pos,aft,gd⟩ E S v:=λa w g U=>by
  simp only [execOp,g.ev I];rw [Sem.run_bind,h w];rfl
def Conv (P:tz) (src dst:tx) (vx v:tu):Prop:=∀ w,(convert src dst vx).run P w = .ok v w
theorem Calm.conv {s t:tx} {x:tw} {vx v:tu} (I:ev E x=some vx) (h:Conv P s t vx v):ACalm P N ⟨dst,.convert s t x,ty,pos,aft,gd⟩ E S v:=λa w g J=>by
  simp only [execOp,g.ev I];rw [Sem.run_bind,h w];rfl
theorem Calm.extract {x:tw} {i:Nat} {vs:Array tu} {v:tu} (I:ev E x=some (.tuple vs)) (h:vs[i]?=some v):ACalm P N ⟨dst,.extract x i,ty,pos,aft,gd⟩ E S v:=λa w g J=>by
  simp [execOp,g.ev I,Instr.extract,h]
theorem Calm.nilCheck {x:tw} {a:Addr} (I:ev E x=some (.pointer (some a))):ACalm P N ⟨dst,.nilCheck x,ty,pos,aft,gd⟩ E S (.pointer (some a)):=λa w g J=>by
  simp [execOp,g.ev I]
theorem Calm.load {T:tx} {x:tw} {a:Addr} {v:tu} (I:plainT P T=true) (V:ev E x=some (.pointer (some a))) (J:S.rd a=some v):ACalm P N ⟨dst,.load T x,ty,pos,aft,gd⟩ E S v:=λc w g U=>by
  simp [execOp,g.ev V,Instr.loadAt,Instr.sureAddr,loadVar,zc0 I w,U.rd J]
def Mem.rds (S:Mem) (a:Addr) (cs:List tu):Prop:=∀ j v,cs[j]?=some v->S.rd (a.add j)=some v
theorem znf (S:Mem) (a:Addr):S.rds a []:=λj v h=>by simp at h
theorem zkT {S:Mem} {b o:Nat} {v:tu} {cs:List tu} (h:S.rd ⟨b,o,none⟩=some v) (hs:S.rds ⟨b,o+1,none⟩ cs):S.rds ⟨b,o,none⟩ (v :: cs):=λj u I=>by
  cases j with
  | zero=>simp at I;subst I;rw [zaz];exact h
  | succ j=>simp at I;have:=hs j u I;rw [zaz] at this ⊢;rw [show o+(j+1)=o+1+j from by omega];exact this
theorem zcl {S:Mem} {b:Nat} {r:Blk} (h:S.own b=some r):S.rds ⟨b,0,none⟩ r.cells:=λj v I=>by
  rw [zaz,zeq h,Nat.zero_add];exact I
theorem View.rds {w:tv} (h:View S w) {a:Addr} {cs:List tu} (J:S.rds a cs):(loadCells a cs.length).run P w = .ok cs.toArray w :=
  run_loadCells_list w a cs λj v I=>h.rd (J j v I)
theorem u5 {T:tx} {x:tw} {a:Addr} {cs:List tu} (I:aggT P T=true) (hs:sizeT P T=some cs.length) (V:ev E x=some (.pointer (some a))) (J:S.rds a cs):ACalm P N ⟨dst,.load T x,ty,pos,aft,gd⟩ E S (.agg cs.toArray):=λc w g U=>by
  simp [execOp,g.ev V,Instr.loadAt,Instr.sureAddr,loadVar,zd3 I w,zaM hs w,U.rds (P:=P) J]
theorem Calm.fieldAddr {T:tx} {x:tw} {f b o off n:Nat} (I:fieldT P T f=some (off,n+1)) (J:ev E x=some (.pointer (some ⟨b,o,none⟩))):ACalm P N ⟨dst,.fieldAddr T x f,ty,pos,aft,gd⟩ E S (.pointer (some ⟨b,o+off,none⟩)):=λc w g U=>by
  unfold fieldT at I;cases e:P.underlying T with
  | none=>simp [e] at I
  | some d =>
    cases d <;> simp [e] at I;rename_i fs;cases e1:fs[f]? with
    | none=>simp [e1] at I
    | some gf =>
      simp [e1] at I;cases e2:P.info? gf.type with
      | none=>simp [e2] at I
      | some i =>
        simp [e2] at I;simp [execOp,g.ev J,Instr.fieldAt,run_underlying e w,e1,Instr.sureAddr,fieldPlace,sizeOf,typeInfo,e2,I.2,zaz,I.1]
theorem vP {T e:tx} {x i:tw} {b o len cap n:Nat} {k:IntKind} {j:Int} (I:P.underlying T=some (.slice e)) (U:sizeT P e=some n) (V:ev E x=some (.slice (some ⟨b,o,none⟩) len cap)) (hi:ev E i=some (.int k j)) (Z:0<=j) (J:j<len) :
    ACalm P N ⟨dst,.indexAddr T x i,ty,pos,aft,gd⟩ E S (.pointer (some ⟨b,o+j.toNat*n,none⟩)):=λc w g hv=>by
  simp [execOp,g.ev V,g.ev hi,Instr.indexAt,asIntOf,run_underlying I w,zaM U w,Z,J,zaz]
theorem uU {T e:tx} {x i:tw} {b o len n:Nat} {k:IntKind} {j:Int} (I:P.underlying T=some (.array len e)) (U:sizeT P e=some n) (V:ev E x=some (.pointer (some ⟨b,o,none⟩))) (hi:ev E i=some (.int k j)) (Z:0<=j) (J:j<len) :
    ACalm P N ⟨dst,.indexAddr T x i,ty,pos,aft,gd⟩ E S (.pointer (some ⟨b,o+j.toNat*n,none⟩)):=λc w g hv=>by
  simp [execOp,g.ev V,g.ev hi,Instr.indexAt,asIntOf,run_underlying I w,zaM U w,Z,J,zaz,Instr.sureAddr]
theorem vM {T:tx} {x i:tw} {s:tt} {k:IntKind} {j:Int} (J:P.underlying T=some .string) (U:ev E x=some (.string s)) (hi:ev E i=some (.int k j)) (V:0<=j) (h1:j<s.size) :
    ACalm P N ⟨dst,.index T x i,ty,pos,aft,gd⟩ E S (.int .u8 (nb (at8 s.data.toList j.toNat))):=λc w g Z=>by
  have I:j.toNat<s.size:=by omega
  have e:=at8_str s j.toNat I;simp [execOp,g.ev U,g.ev hi,Instr.index,asIntOf,run_underlying J w,V,I,<- e]
theorem zbN {x:tu} {k:IntKind} {j:Int} (y:Nat) (c:BoundsCode) (h:x = .int k j) (J:0<=j) (I:j<=y) (w:tv):(Instr.sliceBound x y c).run P w = .ok j.toNat w:=by
  subst h;simp [Instr.sliceBound,asIntOf,J,I]
def bnd (E:Env) (x:Option tw) (df y r:Nat):Prop:=match x with
  | none=>r=df
  | some i=>∃ k j,ev E i=some (.int k j)/\0<=j/\j<=y/\r=j.toNat
theorem zbb {E:Env} (I y:Nat):bnd E none I y I:=rfl
theorem zer {E:Env} {i:tw} {k:IntKind} {j:Int} (J y:Nat) (h:ev E i=some (.int k j)) (U:0<=j) (I:j<=y):bnd E (some i) J y j.toNat:=⟨k,j,h,U,I,rfl⟩
theorem zeT {lo hi mx:Option tw} {isS:Bool} {len cap l h m:Nat} {c:Act} (g:Good N E c) (hm:bnd E mx cap cap m) (hx:mx.isSome=true->hi.isSome=true) (hh:bnd E hi len m h) (hl:bnd E lo 0 h l) (w:tv) :
    (Instr.sliceBounds isS len cap (lo.map c.eval) (hi.map c.eval) (mx.map c.eval)).run P w = .ok (l,h,m) w:=by
  unfold Instr.sliceBounds;cases mx with
  | none =>
    have ae:m=cap:=hm;subst ae;cases hi with
    | none =>
      have ad:h=len:=hh;subst ad;cases lo with
      | none=>have I:l=0:=hl;subst I;simp
      | some i=>obtain ⟨k,j,g1,Z,g3,rfl⟩:=hl;simp [g.ev g1,zbN _ _ rfl Z g3 w]
    | some i' =>
      obtain ⟨k',j',J,V,U,rfl⟩:=hh;cases lo with
      | none=>have I:l=0:=hl;subst I;simp [g.ev J,zbN _ _ rfl V U w]
      | some i=>obtain ⟨k,j,g1,Z,g3,rfl⟩:=hl;simp [g.ev g1,g.ev J,zbN _ _ rfl Z g3 w,zbN _ _ rfl V U w]
  | some i2 =>
    obtain ⟨k2,j2,y1,y2,y3,rfl⟩:=hm;cases hi with
    | none=>simp at hx
    | some i' =>
      obtain ⟨k',j',J,V,U,rfl⟩:=hh;cases lo with
      | none=>have I:l=0:=hl;subst I;simp [g.ev y1,g.ev J,zbN _ _ rfl V U w,zbN _ _ rfl y2 y3 w]
      | some i=>obtain ⟨k,j,g1,Z,g3,rfl⟩:=hl;simp [g.ev y1,g.ev g1,g.ev J,zbN _ _ rfl Z g3 w,zbN _ _ rfl V U w,zbN _ _ rfl y2 y3 w]
theorem vU {T:tx} {x:tw} {lo hi:Option tw} {s:tt} {l h:Nat} (I:P.underlying T=some .string) (J:ev E x=some (.string s))
    (hh:bnd E hi s.size s.size h) (hl:bnd E lo 0 h l) :
    ACalm P N ⟨dst,.slice T x lo hi none,ty,pos,aft,gd⟩ E S (.string (s.extract l h)):=λc w g U=>by
  have e1:=zeT (P:=P) (isS:=false) (mx:=none) (cap:=s.size) g (zbb s.size s.size) (by simp) hh hl w;simp only [Option.map_none] at e1;simp [execOp,g.ev J,Instr.sliceAt,run_underlying I w,Instr.slice,e1]
theorem vT {T e:tx} {x:tw} {lo hi mx:Option tw} {b o len cap n l h m:Nat} (J:P.underlying T=some (.slice e)) (U:sizeT P e=some n) (V:ev E x=some (.slice (some ⟨b,o,none⟩) len cap))
    (hm:bnd E mx cap cap m) (I:mx.isSome=true->hi.isSome=true) (hh:bnd E hi len m h) (hl:bnd E lo 0 h l) :
    ACalm P N ⟨dst,.slice T x lo hi mx,ty,pos,aft,gd⟩ E S (.slice (some ⟨b,if m=l then o else o+l*n,none⟩) (h-l) (m-l)):=λc w g Z=>by
  have e1:=zeT (P:=P) (isS:=true) g hm I hh hl w;simp only [execOp,g.ev V,Instr.sliceAt,Sem.run_bind,run_underlying J w,Instr.slice,e1,Result.andThen_ok,zaM U w,Sem.run_pure,Option.map_some,zaz];split <;> rfl
theorem uD {T e:tx} {x:tw} {hi mx:Option tw} {b o len cap n h m:Nat} (J:P.underlying T=some (.slice e)) (U:sizeT P e=some n) (V:ev E x=some (.slice (some ⟨b,o,none⟩) len cap))
    (hm:bnd E mx cap cap m) (I:mx.isSome=true->hi.isSome=true) (hh:bnd E hi len m h) :
    ACalm P N ⟨dst,.slice T x none hi mx,ty,pos,aft,gd⟩ E S (.slice (some ⟨b,o,none⟩) h m):=by
  have:=vT (S:=S) (N:=N) (dst:=dst) (ty:=ty) (pos:=pos) (aft:=aft) (gd:=gd) J U V hm I hh (zbb 0 h);simpa using this
theorem uK {T e:tx} {x:tw} {lo hi mx:Option tw} {n:Nat} (J:P.underlying T=some (.slice e)) (U:sizeT P e=some n) (V:ev E x=some (.slice none 0 0))
    (hm:bnd E mx 0 0 0) (I:mx.isSome=true->hi.isSome=true) (hh:bnd E hi 0 0 0) (hl:bnd E lo 0 0 0) :
    ACalm P N ⟨dst,.slice T x lo hi mx,ty,pos,aft,gd⟩ E S (.slice none 0 0):=λc w g Z=>by
  have e1:=zeT (P:=P) (isS:=true) g hm I hh hl w;simp only [execOp,g.ev V,Instr.sliceAt,Sem.run_bind,run_underlying J w,Instr.slice,e1,Result.andThen_ok,zaM U w,Sem.run_pure,Option.map_none];rfl
theorem uh {T:tx} {x:tw} {s:tt} (I:P.underlying T=some .string) (J:ev E x=some (.string s)) :
    ACalm P N ⟨dst,.call ⟨.builtin .len,#[x],#[T]⟩,ty,pos,aft,gd⟩ E S (.int .i64 s.size):=λc w g U=>by
  simp [execOp,resolve,invoke,builtin,Builtin.len_,g.ev J,run_underlying I w,goInt]
theorem vV {T e:tx} {x:tw} {a:Option Addr} {len cap:Nat} (I:P.underlying T=some (.slice e)) (J:ev E x=some (.slice a len cap)) :
    ACalm P N ⟨dst,.call ⟨.builtin .len,#[x],#[T]⟩,ty,pos,aft,gd⟩ E S (.int .i64 len):=λc w g U=>by
  simp [execOp,resolve,invoke,builtin,Builtin.len_,g.ev J,run_underlying I w,goInt]
/-! #### Operations that do something -/
theorem View.alloc {w:tv} (h:View S w) (T:tx) (cs:Array tu) (Z:Fresh S w.heap.size):View (S.set w.heap.size ⟨T,cs.toList,cs.size⟩) (w.alloc (.cells cs T)):=by
  constructor
  · intro b r hb;by_cases e:b=w.heap.size
    · subst e;rw [vf] at hb;cases hb;exact ⟨cs,(0,0),heap_alloc_new w _,List.prefix_rfl,Nat.le_refl _,λj _ x=>by simp at x⟩
    rw [vg _ _ e] at hb;have I:=h.lt hb;rw [Below.heap_alloc w _ b I];exact h.own b r hb
  · intro a v U;obtain ⟨J,V⟩:=h.ro a v U;have I:=World.block_lt_of_cell? _ _ J;refine ⟨cell_later ((Below.refl _ _).alloc (Nat.le_refl _) _) J,?_⟩;rw [vg _ _ vd];exact V
  exact h.fzOf rfl (λk hk I=>zeS (Nat.le_refl _) hk I) λk hk _=>Below.heap_alloc w _ k hk
theorem Step.alloc {w:tv} (h:View S w) (T:tx) (cs:Array tu):Step S w (S.set w.heap.size ⟨T,cs.toList,cs.size⟩) (w.alloc (.cells cs T)) :=
  ⟨h.alloc T cs h.freshAt,rfl,rfl,rfl,by rw [World.size_alloc];omega,λk hk _=>Below.heap_alloc w _ k hk,λk hk=>by
    by_cases e:k=w.heap.size
    · exact .inr vd
    rw [vg _ _ e] at hk;exact .inl hk,λ_ _ h=>.inl h⟩
theorem ARun.box {os:List Oper} {T:tx} {x:tw} {v:tu} {d:Nat} (J:d<N) (U:ev E x=some v)
    (h:∀ b,Fresh S b->ARun P N ops os K ((d,.pointer (some ⟨b,0,none⟩)) :: E) (S.set b ⟨T,v.cells.toList,v.cells.size⟩)):ARun P N ops (⟨some d,.box T x,ty,pos,aft,none⟩ :: os) K E S:=λa w g I=>by
  rw [if_pos (by simp [Region.wanted])];unfold Oper.wp;have:(execOp a.eval ⟨some d,.box T x,ty,pos,aft,none⟩).run P w = .ok (.value (.pointer (some ⟨w.heap.size,0,none⟩))) (w.alloc (.cells v.cells T)):=by
    simp [execOp,g.ev U,Instr.box,newVar,newRow]
  rw [this];exact ⟨_,_,h _ I.freshAt,g.put J _,Step.alloc I T v.cells⟩
def zeroT (P:tz) (T:tx):Option (List tu):=((P.info? T).bind (·.zero)).map λz=>z.cells.toList
theorem zng {T:tx} {z:List tu} (h:zeroT P T=some z) (w:tv):∃ v,(zeroValue T).run P w = .ok v w/\v.cells.toList=z:=by
  unfold zeroT at h;cases e:P.info? T with
  | none=>simp [e] at h
  | some i =>
    cases e2:i.zero with
    | none=>simp [e,e2] at h
    | some v=>simp [e,e2] at h;exact ⟨v,by simp [zeroValue,typeInfo,e,e2],h⟩
theorem ARun.alloc {os:List Oper} {T:tx} {z:List tu} {d:Nat} (U:d<N) (Z:zeroT P T=some z)
    (h:∀ b,Fresh S b->ARun P N ops os K ((d,.pointer (some ⟨b,0,none⟩)) :: E) (S.set b ⟨T,z,z.length⟩)):ARun P N ops (⟨some d,.alloc T,ty,pos,aft,none⟩ :: os) K E S:=λa w g I=>by
  rw [if_pos (by simp [Region.wanted])];obtain ⟨v,J,V⟩:=zng Z w;unfold Oper.wp;have:(execOp a.eval ⟨some d,.alloc T,ty,pos,aft,none⟩).run P w = .ok (.value (.pointer (some ⟨w.heap.size,0,none⟩))) (w.alloc (.cells v.cells T)):=by
    simp [execOp,Instr.alloc,newVar,newRow,J]
  rw [this];refine ⟨_,_,h _ I.freshAt,g.put U _,?_⟩;rw [<- V,Array.length_toList];exact Step.alloc I T v.cells
def spl (cs:List tu) (k:Nat) (vs:List tu):List tu:=cs.take k ++ vs ++ cs.drop (k+vs.length)
theorem zeU (cs:List tu) (k:Nat) (vs:List tu) (h:k+vs.length<=cs.length):(spl cs k vs).length=cs.length:=by simp [spl];omega
theorem zsY (cs:List tu) (k:Nat) (v:tu) (h:k<cs.length):spl cs k [v]=cs.set k v:=by
  unfold spl;rw [List.set_eq_take_append_cons_drop,if_pos h];simp
theorem zmc {cs:List tu} {cur:List tu} (h:cs <+: cur) (k:Nat) (vs:List tu) (hk:k<=cs.length) (I:k+vs.length<=cur.length):spl cs k vs <+: spl cur k vs:=by
  obtain ⟨t,rfl⟩:=h;unfold spl;rw [List.take_append_of_le_length hk,List.append_assoc,List.append_assoc,List.prefix_append_right_inj,List.prefix_append_right_inj,List.drop_append];exact List.prefix_append _ _
theorem zeV (w:tv) (b o:Nat) (v:tu) (cur:Array tu) (e:tx) (fz:Nat × Nat) (h:w.heap[b]?=some (.cells cur e fz)):(w.setCell ⟨b,o,none⟩ v).heap[b]?=some (.cells (cur.setIfInBounds o v) e fz):=by
  simp [World.setCell,Array.getElem?_modify,h]
theorem zcv (b:Nat) (e:tx) (fz:Nat × Nat):∀ (vs:List tu) (o:Nat) (w:tv) (cur:Array tu),w.heap[b]?=some (.cells cur e fz)->o+vs.length<=cur.size -> ∃ I,(w.setCells b o vs).heap[b]?=some (.cells I e fz)/\I.toList=spl cur.toList o vs
  | [],o,w,cur,h,_=>⟨cur,h,by simp [spl]⟩
  | v :: vs,o,w,cur,h,hl=>by
    simp only [List.length_cons] at hl;obtain ⟨I,J,U⟩:=zcv b e fz vs (o+1) _ _ (zeV w b o v cur e fz h) (by simp;omega);refine ⟨I,J,?_⟩;rw [U];simp only [spl,Array.toList_setIfInBounds,List.length_cons];rw [List.set_eq_take_append_cons_drop,if_pos (by simp;omega)];have e1:(cur.toList.take o).length=o:=(by simp;omega);have e2:List.take (o+1) (cur.toList.take o ++ v :: cur.toList.drop (o+1))=cur.toList.take o ++ [v]:=by
      rw [List.take_append,e1];simp;rw [List.take_of_length_le (by simp;omega)]
    have e3:List.drop (o+1+vs.length) (cur.toList.take o ++ v :: cur.toList.drop (o+1))=cur.toList.drop (o+(vs.length+1)):=by
      rw [List.drop_append,e1,List.drop_of_length_le (by simp;omega),List.nil_append,show o+1+vs.length-o=vs.length+1 from by omega,List.drop_succ_cons,List.drop_drop];congr 1;omega
    rw [e2,e3];simp
theorem zaN (b k:Nat) (hk:k≠b):∀ (vs:List tu) (o:Nat) (w:tv),(w.setCells b o vs).heap[k]?=w.heap[k]?
  | [],_,_=>rfl
  | v :: vs,o,w=>by rw [World.setCells,zaN b k hk vs,Below.heap_setCell _ _ _ _ hk]
theorem zes (b:Nat):∀ (vs:List tu) (o:Nat) (w:tv),(w.setCells b o vs).os=w.os/\(w.setCells b o vs).tape=w.tape/\(w.setCells b o vs).output=w.output/\(w.setCells b o vs).heap.size=w.heap.size
  | [],_,_=>⟨rfl,rfl,rfl,rfl⟩
  | v :: vs,o,w=>by
    have:=zes b vs (o+1) (w.setCell ⟨b,o,none⟩ v);rw [World.size_setCell] at this;exact this
theorem za1 {w:tv} (hv:View S w) {b o:Nat} {r:Blk} {vs:List tu} (hb:S.own b=some r) (ho:o<=r.cells.length) (hl:o+vs.length<=r.cells.length\/o+vs.length<=r.room) (h1:∀ v ∈ vs,v.oneCell'=true) :
    (storeCells ⟨b,o,none⟩ vs).run P w = .ok () (w.setCells b o vs)/\Step S w (S.set b ⟨r.elem,spl r.cells o vs,r.room⟩) (w.setCells b o vs):=by
  obtain ⟨cur,fz,e1,e2,e3,e4⟩:=hv.own b r hb;have ah:r.cells.length<=cur.size:=by have:=e2.length_le;simpa using this
  have I:o+vs.length<=cur.size:=by omega
  have U:=run_storeCells_cells (P:=P) b o vs 0 w (λj hj=>by simp [World.cell?,e1];omega) (λj hj=>by
    simp only [World.frozen?,e1];have:=e4 (o+j) vd;simpa using this) h1
  rw [Nat.add_zero] at U;obtain ⟨V,g1,g2⟩:=zcv b r.elem fz vs o w cur e1 I;obtain ⟨q1,q2,q3,q4⟩:=zes b vs o w;have Z:V.size=cur.size:=by rw [<- Array.length_toList,g2,zeU _ _ _ (by simpa using I),Array.length_toList]
  refine ⟨U,⟨⟨λk r' hk=>?_,λa v ha=>?_,hv.fzOf rfl (λk hk _=>by
      rw [vg _ _ (λe=>by rw [e,hb] at hk;cases hk)];exact hk) λk _ hk=>zaN b k (λe=>by rw [e,hb] at hk;cases hk) vs o w⟩,q1,q2,q3,by omega,λk hk hn=>?_,λk hk=>?_,λ_ _ h=>.inl h⟩⟩
  · by_cases e:k=b
    · subst e;rw [vf] at hk;cases hk;exact ⟨V,fz,g1,by rw [g2];exact zmc e2 o vs ho (by simpa using I),by rw [Z];exact e3,λj hj=>e4 j (by rw [<- Z];exact hj)⟩
    rw [vg _ _ e] at hk;rw [zaN b k e];exact hv.own k r' hk
  · obtain ⟨h1,h2⟩:=hv.ro a v ha;have J:a.block≠b:=λe=>(by rw [e,hb] at h2;cases h2);refine ⟨(World.cell?_of_block (w:=w) (zaN b _ J vs o w)).trans h1,?_⟩;rw [vg _ _ J];exact h2
  · have J:k≠b:=λe=>(by rw [e,hb] at hn;cases hn);exact zaN b k J vs o w
  by_cases e:k=b
  · subst e;exact .inl (by rw [hb];simp)
  rw [vg _ _ e] at hk;exact .inl hk
theorem ARun.store {os:List Oper} {T:tx} {x y:tw} {b o:Nat} {r:Blk} {v:tu} (U:ev E x=some (.pointer (some ⟨b,o,none⟩))) (hy:ev E y=some v) (hs:sizeT P T=some v.cells.size) (hb:S.own b=some r) (hl:o+v.cells.size<=r.cells.length) (V:v.cells.all (·.oneCell')=true)
    (h:ARun P N ops os K E (S.set b ⟨r.elem,spl r.cells o v.cells.toList,r.room⟩)):ARun P N ops (⟨none,.store T x y,ty,pos,aft,none⟩ :: os) K E S:=λa w g J=>by
  rw [if_pos (by simp [Region.wanted])];obtain ⟨h2,I⟩:=za1 (P:=P) J hb (vs:=v.cells.toList) (o:=o) vd (.inl (by simpa using hl)) (λu Z=>(Array.all_eq_true_iff_forall_mem.1 V) u (by simpa using Z));unfold Oper.wp;have:(execOp a.eval ⟨none,.store T x y,ty,pos,aft,none⟩).run P w = .ok .skip (w.setCells b o v.cells.toList):=by
    simp [execOp,g.ev U,g.ev hy,Instr.storeAt,Instr.sureAddr,storeVar,zaM hs w,h2]
  rw [this];exact ⟨_,_,h,g.put0 _,I⟩
end
end Mv
open Go.RowKit
namespace Mv
section
variable {P:tz} {N:Nat} {ops:Array Oper} {E:Env} {S:Mem} {K:Env->Mem->Prop}
variable {dst:Option Nat} {ty:tx} {pos:String} {aft:Array Edge} {gd:Option (Nat × Bool)}
def ACall (P:tz) (f:tA) (args:Array tu) (S:Mem) (R:tu->Mem->Prop):Prop :=
  ∀ w,View S w->Calls P f args w λe w'=>∃ v S',e = .returned v/\R v S'/\Step S w S' w'
theorem ACall.mono {f:tA} {args:Array tu} {R I:tu->Mem->Prop} (h:ACall P f args S R) (J:∀ v S',R v S'->I v S'):ACall P f args S I:=λw U =>
  (h w U).mono λ_ _ ⟨v,S',e,r,s⟩=>⟨v,S',e,J _ _ r,s⟩
theorem vN {f:tA} {args:Array tu} {v:tu} (h:∀ w,Calls P f args w λe w'=>e = .returned v/\Below w.heap.size w w'):ACall P f args S λv' S'=>v'=v/\S'=S:=λw J =>
  (h w).mono λ_ _ ⟨I,hb⟩=>⟨v,S,I,⟨rfl,rfl⟩,Step.below J hb⟩
theorem uI {f:tA} {args:Array tu} {v:tu} (h:∀ w,Calls P f args w λe w'=>e = .returned v/\w'=w):ACall P f args S λv' S'=>v'=v/\S'=S :=
  vN λw=>(h w).mono λ_ _ ⟨I,J⟩=>⟨I,by rw [J];exact Below.refl _ _⟩
def goFn (P:tz) (f:tA):Bool:=match (P.funcs[f]? : Option Func) with
  | some fn => fn.body.isSome && !(fn.name == "runtime.NumGoroutine")
  | none=>false
theorem zbe {f:tA} (h:goFn P f=true) (args:Array tu) (w:tv):(callFunc f args).run P w = .ok (.enter f args) w:=by
  unfold goFn at h;cases e:P.funcs[f]? with
  | none=>simp [e] at h
  | some fn =>
    simp [e] at h;cases hb:fn.body with
    | none=>simp [hb] at h
    | some c=>simp [callFunc,e,h.2,hb]
theorem ARun.call {os:List Oper} {f:tA} {xs:List tw} {ats:Array tx} {vs:List tu} {d:Nat} {R:tu->Mem->Prop} (Z:d<N) (V:goFn P f=true) (hx:evs E xs=some vs) (hc:ACall P f vs.toArray S R)
    (h:∀ v S',R v S'->ARun P N ops os K ((d,v) :: E) S'):ARun P N ops (⟨some d,.call ⟨.value (.func f),xs.toArray,ats⟩,ty,pos,aft,none⟩ :: os) K E S:=λa w g J=>by
  rw [if_pos (by simp [Region.wanted])];unfold Oper.wp;have I:execOp a.eval ⟨some d,.call ⟨.value (.func f),xs.toArray,ats⟩,ty,pos,aft,none⟩=callFunc f vs.toArray:=by
    rw [execOp_call_go];simp [g.evs hx]
  rw [I,zbe V];simp only [Oper.upon];refine (hc w J).mono λe w' ⟨v,S',I,U,s⟩=>?_;subst I;exact ⟨_,_,h v S' U,g.put Z v,s⟩
theorem vC {os:List Oper} {f:tA} {xs:List tw} {ats:Array tx} {vs:List tu} {d:Nat} {R:tu->Mem->Prop} (j:Nat) (t:Bool) (dj:Nat) (I:(ops[j]?).bind (·.dst)=some dj) (U:dj<N) (hb:lk E dj=some (.bool t))
    (hn:d<N) (hf:goFn P f=true) (hx:evs E xs=some vs) (hc:ACall P f vs.toArray S R)
    (h:∀ v S',R v S'->ARun P N ops os K ((d,v) :: E) S'):ARun P N ops (⟨some d,.call ⟨.value (.func f),xs.toArray,ats⟩,ty,pos,aft,some (j,t)⟩ :: os) K E S:=λa w g V=>by
  cases e:ops[j]? with
  | none=>simp [e] at I
  | some og =>
    simp [e] at I;rw [if_pos (by simp [Region.wanted,zcf g e I U hb])];unfold Oper.wp;have J:execOp a.eval ⟨some d,.call ⟨.value (.func f),xs.toArray,ats⟩,ty,pos,aft,some (j,t)⟩=callFunc f vs.toArray:=by
      rw [execOp_call_go];simp [g.evs hx]
    rw [J,zbe hf];simp only [Oper.upon];refine (hc w V).mono λe w' ⟨v,S',J,Z,s⟩=>?_;subst J;exact ⟨_,_,h v S' Z,g.put hn v,s⟩

/-! ### A function's beginning and end -/
def ResV (P:tz):List ResultVar->Env->Mem->List tu->Prop
  | [],_,_,vs=>vs = []
  | .tmp t :: rs,E,S,vs=>∃ v us,lk E t=some v/\ResV P rs E S us/\vs=v :: us
  | .cell t T :: rs,E,S,vs=>∃ a v us,lk E t=some (.pointer (some a))/\((plainT P T=true/\S.rd a=some v)\/(aggT P T=true /\ ∃ cs,sizeT P T=some cs.length/\S.rds a cs/\v = .agg cs.toArray))/\ResV P rs E S us/\vs=v :: us
def one (vs:List tu):tu:=match vs with
  | [v]=>v
  | vs=>.tuple vs.toArray
def Aret (P:tz) (rs:List ResultVar) (R:tu->Mem->Prop):Exit->Env->Mem->Prop
  | .normal,E,S=>∃ vs S',ResV P rs E S vs/\S'.Less S/\R (one vs) S'
  | .ret,E,S=>∃ vs S',ResV P rs E S vs/\S'.Less S/\R (one vs) S'
  | _,_,_=>False
def rvS (tmps:Array tu):ResultVar->Sem tu
  | .tmp t=>pure (tmps.getD t undef)
  | .cell x t=>do loadVar t (<- asAddr (tmps.getD x undef))
theorem zmd (fn:Func) (tmps:Array tu):results fn tmps=(fn.results.mapM (rvS tmps) >>= λvs=>pure (if h:vs.size=1 then vs[0] else .tuple vs)):=by
  unfold results;congr 1
  try (congr 1;funext r;cases r <;> rfl)
theorem zfw {E:Env} {S:Mem} {a:Act} {w:tv} (g:Good N E a) (Z:View S w):∀ (rs:List ResultVar) (vs:List tu),ResV P rs E S vs ->
    (rs.mapM (rvS a.tmps)).run P w = .ok vs w:=by
  intro rs
  induction rs with
  | nil=>intro vs h;cases h;simp
  | cons r rs ih =>
    intro vs h;cases r with
    | tmp t =>
      obtain ⟨v,us,I,V,rfl⟩:=h;rw [List.mapM_cons,Sem.run_bind];simp only [rvS,Sem.run_pure,Result.andThen_ok,Sem.run_bind,ih us V,g.at_ t v I]
    | cell x T =>
      obtain ⟨ad,v,us,I,h3,V,rfl⟩:=h;have hl:(loadVar T ad).run P w = .ok v w:=by
        rcases h3 with ⟨U,J⟩ | ⟨U,cs,hs,J,rfl⟩
        · simp [loadVar,zc0 U w,Z.rd J]
        simp [loadVar,zd3 U w,zaM hs w,Z.rds (P:=P) J]
      rw [List.mapM_cons,Sem.run_bind];simp only [rvS,Sem.run_pure,Result.andThen_ok,Sem.run_bind,ih us V,g.at_ x _ I,asAddr,hl]
theorem zc1 {fn:Func} {rs:List ResultVar} (I:fn.results=rs.toArray) {E:Env} {S:Mem} {a:Act} {w:tv} {vs:List tu} (g:Good N E a) (U:View S w) (h:ResV P rs E S vs):(results fn a.tmps).run P w = .ok (one vs) w:=by
  have J:=zfw g U rs vs h;rw [zmd,I,List.mapM_toArray,Sem.run_bind,Sem.run_map,J];simp only [Result.andThen_ok,Sem.run_pure];congr 1
  match vs with
  | []=>rfl
  | [v]=>rfl
  | v :: u :: us=>rfl
def SubA:Env->List tu->Prop
  | [],_=>True
  | (k,v) :: E,args=>args[k]?=some v/\SubA E args
theorem SubA.lk {E:Env} {args:List tu} (h:SubA E args) {d:Nat} {v:tu} (hd:Mv.lk E d=some v):args[d]?=some v:=by
  induction E with
  | nil=>cases hd
  | cons p E I =>
    obtain ⟨k,u⟩:=p;simp only [Mv.lk] at hd;split at hd
    · rename_i e;subst e;cases hd;exact h.1
    exact I h.2 hd
theorem ACall.enter {f:tA} {fn:Func} {c:Code} {args:List tu} {rs:List ResultVar} {R:tu->Mem->Prop} (n:Nat) (E0:Env) (hf:P.funcs[f]?=some fn) (hb:fn.body=some c) (hn:fn.ntmps=n) (hl:args.length<=n) (hr:fn.results=rs.toArray) (hE:SubA E0 args)
    (h:AWP P n c (Aret P rs R) E0 S):ACall P f args.toArray S R:=λw hv=>by
  refine calls_of_wp hf hb (wp_mono (h _ w ⟨?_,rfl,λd v hd=>?_⟩ hv) λe a' w' ⟨E',S',k,g,s⟩=>?_)
  · simp only [Array.size_append,List.size_toArray,Array.size_replicate];omega
  · have:=hE.lk hd;have J:d<args.length:=by
      rcases Nat.lt_or_ge d args.length with h | h
      · exact h
      rw [List.getElem?_eq_none h] at this;cases this
    simp only [Array.getD_eq_getD_getElem?,Array.getElem?_append,List.size_toArray,J,if_true,List.getElem?_toArray,this,Option.getD_some]
  cases e with
  | normal =>
    obtain ⟨vs,U,V,Z,I⟩:=k;exact ⟨g.defers,one vs,zc1 hr g s.view V,one vs,U,rfl,I,s.less Z⟩
  | ret =>
    obtain ⟨vs,U,V,Z,I⟩:=k;exact ⟨g.defers,one vs,zc1 hr g s.view V,one vs,U,rfl,I,s.less Z⟩
  | exit id=>exact k.elim
  | goto l=>exact k.elim
  | panic c=>exact k.elim
  | outgrown=>exact k.elim
end
end Mv
open Go.RowKit
namespace Mv
def slT (P:tz) (T:tx):Option (tx × Nat × Nat × List tu):=match P.underlying T with
  | some (.slice e)=>match P.info? e with
    | some i=>match i.zero with
      | some z=>some (e,i.size,i.bytes,z.cells.toList)
      | none=>none
    | none=>none
  | _=>none
theorem zaP {P:tz} {T e:tx} {n y:Nat} {z:List tu} (h:slT P T=some (e,n,y,z)):P.underlying T=some (.slice e) /\ ∃ i v,P.info? e=some i/\i.zero=some v/\i.size=n/\i.bytes=y/\v.cells.toList=z:=by
  unfold slT at h;cases e1:P.underlying T with
  | none=>simp [e1] at h
  | some d =>
    cases d <;> simp [e1] at h;rename_i I;cases e2:P.info? I with
    | none=>simp [e2] at h
    | some i =>
      cases e3:i.zero with
      | none=>simp [e2,e3] at h
      | some v =>
        simp [e2,e3] at h;obtain ⟨rfl,rfl,rfl,rfl⟩:=h;exact ⟨rfl,i,v,e2,e3,rfl,rfl,rfl⟩
theorem del_set (S:Mem) (b:Nat) (r:Blk):(S.del b).set b r=S.set b r:=by
  unfold Mem.del Mem.set;congr 1;funext k;by_cases h:k=b <;> simp [h]
theorem zfU {S:Mem} {b:Nat} {r:Blk} (h:∀ a v,S.ro a=some v->S.own a.block=none) (hb:S.own b=some r):Fresh (S.del b) b:=⟨by simp [Mem.del],λa v I e=>by
  have:=h a v I;rw [e,hb] at this;cases this⟩
theorem zhA (S:Mem) (b c:Nat) (r:Blk):((S.del b).set c r).Less (S.set c r):=⟨λk r' hk=>by
  by_cases h:k=c
  · subst h;simpa [Mem.set] using hk
  rw [vg _ _ h] at hk ⊢;simp only [Mem.del] at hk;split at hk
  · cases hk
  exact hk,rfl⟩
theorem Less.del (S:Mem) (b:Nat):(S.del b).Less S:=⟨λk r' hk=>by
  simp only [Mem.del] at hk;split at hk
  · cases hk
  exact hk,rfl⟩
theorem Less.set {S S':Mem} (h:S'.Less S) (b:Nat) (r:Blk):(S'.set b r).Less (S.set b r):=⟨λk r' hk=>by
  by_cases e:k=b
  · subst e;rw [vf] at hk ⊢;exact hk
  rw [vg _ _ e] at hk ⊢;exact h.1 k r' hk,h.2⟩
theorem znh (S:Mem) (b:Nat) (h:S.own b=none):S.del b=S:=by
  cases S;unfold Mem.del;congr 1;funext k;by_cases e:k=b
  · subst e;simpa using h.symm
  simp [e]
section
variable {P:tz} {N:Nat} {ops:Array Oper} {E:Env} {S:Mem} {K:Env->Mem->Prop}
variable {dst:Option Nat} {ty:tx} {pos:String} {aft:Array Edge} {gd:Option (Nat × Bool)}
theorem vG {w:tv} (h:View S w) (T:tx) (cs:Array tu) (I:List tu) (room:Nat) (hk:I <+: cs.toList) (hr:room<=cs.size):Step S w (S.set w.heap.size ⟨T,I,room⟩) (w.alloc (.cells cs T)):=by
  have hs:=Step.alloc h T cs;refine ⟨⟨λb r hb=>?_,λa v V=>?_,h.fzOf rfl (λk hk U=>zeS (Nat.le_refl _) hk U) hs.block⟩,hs.os,hs.tape,hs.output,hs.size,hs.block,λk hk=>?_,hs.ro⟩
  · by_cases e:b=w.heap.size
    · subst e;rw [vf] at hb;cases hb;exact ⟨cs,(0,0),heap_alloc_new w _,hk,hr,λj _ x=>by simp at x⟩
    rw [vg _ _ e] at hb;exact hs.view.own b r (by rw [vg _ _ e];exact hb)
  · obtain ⟨Z,J⟩:=hs.view.ro a v V;refine ⟨Z,?_⟩;by_cases e:a.block=w.heap.size
    · rw [e,vf] at J;cases J
    rw [vg _ _ e] at J ⊢;exact J
  by_cases e:k=w.heap.size
  · exact .inr vd
  rw [vg _ _ e] at hk;exact .inl hk
def madeL (z:List tu) (n:Nat):List tu:=(madeCells z.toArray n).toList
theorem zbf (z:List tu) (n:Nat):(madeL z n).length=n:=by simp [madeL,size_madeCells]
theorem zbw (v:tu) (n:Nat):madeL [v] n=List.replicate n v:=by
  apply List.ext_getElem
  · simp [zbf]
  intro i I J;simp [madeL,madeCells,Nat.mod_one]
theorem ARun.makeSlice {os:List Oper} {T e:tx} {n y:Nat} {z:List tu} {U V:tw} {k1 k2:IntKind} {l c:Int} {d:Nat} (hn:d<N) (hT:slT P T=some (e,n,y,z)) (hx:ev E U=some (.int k1 l)) (hy:ev E V=some (.int k2 c))
    (h0:0<=l) (I:l<=c) (hb:(y:Int)*c<=281474976710656) (J:c<=9223372036854775807)
    (h:∀ b,Fresh S b->ARun P N ops os K ((d,.slice (some ⟨b,0,none⟩) l.toNat c.toNat) :: E) (S.set b ⟨e,madeL z (c.toNat*n),c.toNat*n⟩)):ARun P N ops (⟨some d,.makeSlice T U V,ty,pos,aft,none⟩ :: os) K E S:=λa w g Z=>by
  rw [if_pos (by simp [Region.wanted])];obtain ⟨hu,i,v,e1,e2,rfl,rfl,rfl⟩:=zaP hT;unfold Oper.wp;have:(execOp a.eval ⟨some d,.makeSlice T U V,ty,pos,aft,none⟩).run P w = .ok (.value (.slice (some ⟨w.heap.size,0,none⟩) l.toNat c.toNat)) (w.alloc (.cells (madeCells v.cells (c.toNat*i.size)) e)):=by
    simp only [execOp,g.ev hx,g.ev hy];rw [Sem.run_bind,run_make (P:=P) w T e i v hu e1 e2 k1 k2 l c h0 I hb J];rfl
  rw [this];refine ⟨_,_,h _ Z.freshAt,g.put hn _,?_⟩;exact vG Z e _ _ _ (by unfold madeL;simp) (by simp [size_madeCells])
theorem vX {os:List Oper} {T e:tx} {n y:Nat} {z:List tu} {x:tw} {u:tu} {d:Nat} (hn:d<N) (hT:slT P T=some (e,n,y,z)) (hz:z.length=n) (hp:0<n) (ag:n<=16777216) (hx:ev E x=some u) (hu:u.cells.size=n)
    (h:∀ b,Fresh S b->ARun P N ops os K ((d,.slice (some ⟨b,0,none⟩) 1 1) :: E) (S.set b ⟨e,u.cells.toList,n⟩)):ARun P N ops (⟨some d,.buildSlice T 1 #[(0,x)],ty,pos,aft,none⟩ :: os) K E S:=λa w g hv=>by
  rw [if_pos (by simp [Region.wanted])];obtain ⟨af,i,v,e1,e2,rfl,rfl,rfl⟩:=zaP hT;have ao:v.cells.size=i.size:=by simpa using hz
  unfold Oper.wp;have J:∀ (cs:List tu) (k:Nat) (I:Array tu),k+cs.length=I.size->(cs.zipIdx.foldl (λ(bs:Array tu) (p:tu × Nat)=>bs.setIfInBounds (k+p.2) p.1) I).toList=I.toList.take k ++ cs:=by
    intro cs k I hl;have key:∀ (cs:List tu) (m:Nat) (I:Array tu),k+m+cs.length=I.size->((cs.zipIdx m).foldl (λ(bs:Array tu) (p:tu × Nat)=>bs.setIfInBounds (k+p.2) p.1) I).toList=I.toList.take (k+m) ++ cs:=by
      intro cs
      induction cs with
      | nil=>intro m I hl;simp at hl ⊢;rw [List.take_of_length_le (by simp;omega)]
      | cons c cs ih =>
        intro m I hl;simp only [List.length_cons] at hl;rw [List.zipIdx_cons,List.foldl_cons,ih (m+1) _ (by simp;omega)];simp only [Array.toList_setIfInBounds];rw [List.set_eq_take_append_cons_drop,if_pos (by simp;omega)];have e1:(I.toList.take (k+m)).length=k+m:=(by simp;omega);rw [List.take_append,e1,List.take_of_length_le vd,show k+(m+1)-(k+m)=1 from by omega];simp
    exact key cs 0 I hl
  have U:(execOp a.eval ⟨some d,.buildSlice T 1 #[(0,x)],ty,pos,aft,none⟩).run P w = .ok (.value (.slice (some ⟨w.heap.size,0,none⟩) 1 1)) (w.alloc (.cells u.cells e)):=by
    have Z:(zeroValue e).run P w = .ok v w:=(by simp [zeroValue,typeInfo,e1,e2]);have aa : ¬ (i.size=0):=(by omega);have ad : ¬ (16777216<i.size):=(by omega);have hf:=J u.cells.toList 0 ((Array.range i.size).map (v.cells[· % v.cells.size]!)) (by simp [hu]);simp only [List.take_zero,List.nil_append,Nat.zero_add] at hf;have V:Array.foldl (λ(bs:Array tu) (p:tu × Nat)=>bs.setIfInBounds p.2 p.1) ((Array.range i.size).map (v.cells[· % v.cells.size]!)) u.cells.zipIdx=u.cells:=by
      apply Array.ext';rw [<- hf,<- Array.foldl_toList,Array.toList_zipIdx]
    simp [execOp,g.ev hx,Instr.buildSlice,run_underlying af w,sizeOf,typeInfo,e1,aa,ad,Z,Instr.fill,hu,newRow];have ae:i.size=u.cells.zipIdx.size:=(by simp [hu]);rw [ae] at V ⊢;rw [V]
  rw [U];refine ⟨_,_,h _ hv.freshAt,g.put hn _,?_⟩;exact vG hv e u.cells _ _ List.prefix_rfl vd
theorem uB {os:List Oper} {T e:tx} {n y:Nat} {z:List tu} {x1 x2:tw} {b k c:Nat} {xs news:List tu} {a2:Addr} {m c2 d:Nat} (hn:d<N) (hT:slT P T=some (e,n,y,z)) (hz:z.length=n)
    (hx:ev E x1=some (.slice (some ⟨b,0,none⟩) k c)) (hb:S.own b=some ⟨e,xs,c*n⟩) (aa:xs.length=k*n)
    (hy:ev E x2=some (.slice (some a2) m c2)) (J:S.rds a2 news) (U:news.length=m*n) (h1:∀ v ∈ news,v.oneCell'=true) (ad:(k+m)*y<=140737488355328) (aB:k+m<=9223372036854775807)
    (h:∀ b' c',Fresh (S.del b) b'->k+m<=c'->ARun P N ops os K ((d,.slice (some ⟨b',0,none⟩) (k+m) c') :: E) ((S.del b).set b' ⟨e,xs ++ news,c'*n⟩)) :
    ARun P N ops (⟨some d,.call ⟨.builtin .append,#[x1,x2],#[T,T]⟩,ty,pos,aft,none⟩ :: os) K E S:=λa w g V=>by
  rw [if_pos (by simp [Region.wanted])];obtain ⟨hu,i,v,e1,e2,rfl,rfl,rfl⟩:=zaP hT;have ak:v.cells.size=i.size:=by simpa using hz
  have ao:(execOp a.eval ⟨some d,.call ⟨.builtin .append,#[x1,x2],#[T,T]⟩,ty,pos,aft,none⟩).run P w=((Builtin.append_ #[T,T] ty #[.slice (some ⟨b,0,none⟩) k c,.slice (some a2) m c2]).run P w).andThen λv w'=>.ok (.value v) w':=by
    simp [execOp,resolve,invoke,builtin,g.ev hx,g.ev hy]
  unfold Oper.wp;rw [ao];by_cases I:k+m<=c
  · obtain ⟨q1,q2⟩:=za1 (P:=P) V hb (vs:=news) (o:=k*i.size) (by simp [aa]) (.inr (by simp only [U];rw [<- Nat.add_mul];exact Nat.mul_le_mul_right _ I)) h1;have hf:=run_firstCells_some (P:=P) w i.size m a2 m c2 news U (λj u hj=>V.rd (J j u hj));have hr:(Builtin.append_ #[T,T] ty #[.slice (some ⟨b,0,none⟩) k c,.slice (some a2) m c2]).run P w = .ok (.slice (some ⟨b,0,none⟩) (k+m) c) (w.setCells b (k*i.size) news):=by
      simp [Builtin.append_,run_underlying hu,sizeOf,typeInfo,e1,Builtin.lenOf,I,hf,zaz,q1]
    rw [hr];have an:spl xs (k*i.size) news=xs ++ news:=by
      unfold spl;rw [List.take_of_length_le vd,List.drop_of_length_le vd,List.append_nil]
    simp only [an] at q2;refine ⟨_,_,h b c (zfU (λa v ha=>(V.ro a v ha).2) hb) I,g.put hn _,?_⟩;rw [del_set];exact q2
  have Z:Builtin.nextslicecap (k+m) c*i.bytes<=281474976710656:=growslice_fits vd ad;have hr:=run_append_grow (P:=P) w T ty e i v hu e1 e2 ⟨b,0,none⟩ k c xs aa (λj u hj=>V.rd (by rw [zaz,Nat.zero_add,zeq hb];exact hj)) a2 m c2 news U (λj u hj=>V.rd (J j u hj)) vd vd Z;rw [hr];have ag:=grownCap_ge w (k+m) c e;have ai:View S w.drew:=V.drawn _;have aj:=vG ai e (xs.toArray ++ news.toArray ++ Builtin.zeroCells v.cells (grownCap w (k+m) c e-(k+m))) (xs ++ news) (grownCap w (k+m) c e*i.size) (by simp [List.append_assoc]) (by
    simp only [Array.size_append,List.size_toArray,size_zeroCells,ak,aa,U,<- Nat.add_mul];exact Nat.mul_le_mul_right _ vd)
  refine ⟨_,_,h w.heap.size (grownCap w (k+m) c e) (V.freshAt.less (Less.del S b)) ag,g.put hn _,?_⟩;exact ((Step.drawn V _).trans aj).less (zhA S b _ _)
theorem uC {os:List Oper} {T e:tx} {n y:Nat} {z:List tu} {x1 x2:tw} {news:List tu} {U:Addr} {m c2 d:Nat} (hn:d<N) (hT:slT P T=some (e,n,y,z)) (hz:z.length=n)
    (hx:ev E x1=some (.slice none 0 0)) (hy:ev E x2=some (.slice (some U) m c2)) (I:S.rds U news) (J:news.length=m*n) (hm:0<m) (ai:m*y<=140737488355328) (ao:m<=9223372036854775807)
    (h:∀ b' c',Fresh S b'->m<=c'->ARun P N ops os K ((d,.slice (some ⟨b',0,none⟩) m c') :: E) (S.set b' ⟨e,news,c'*n⟩)) :
    ARun P N ops (⟨some d,.call ⟨.builtin .append,#[x1,x2],#[T,T]⟩,ty,pos,aft,none⟩ :: os) K E S:=λa w g V=>by
  rw [if_pos (by simp [Region.wanted])];obtain ⟨hu,i,v,e1,e2,rfl,rfl,rfl⟩:=zaP hT;have ad:v.cells.size=i.size:=by simpa using hz
  have ag:(execOp a.eval ⟨some d,.call ⟨.builtin .append,#[x1,x2],#[T,T]⟩,ty,pos,aft,none⟩).run P w=((Builtin.append_ #[T,T] ty #[.slice none 0 0,.slice (some U) m c2]).run P w).andThen λv w'=>.ok (.value v) w':=by
    simp [execOp,resolve,invoke,builtin,g.ev hx,g.ev hy]
  unfold Oper.wp;rw [ag,run_append_nil (P:=P) w T ty e i v hu e1 e2 U m c2 news J (λj u hj=>V.rd (I j u hj)) hm vd vd];have Z:=grownCap_ge w m 0 e;have aa:View S w.drew:=V.drawn _;have ac:=vG aa e (news.toArray ++ Builtin.zeroCells v.cells (grownCap w m 0 e-m)) news (grownCap w m 0 e*i.size) (by simp) (by
    simp only [Array.size_append,List.size_toArray,size_zeroCells,ad,J,<- Nat.add_mul];exact Nat.mul_le_mul_right _ vd)
  exact ⟨_,_,h w.heap.size (grownCap w m 0 e) V.freshAt Z,g.put hn _,(Step.drawn V _).trans ac⟩
theorem ud {os:List Oper} {T e:tx} {n y:Nat} {z:List tu} {I J:tw} {A:Option Addr} {k c d V:Nat} {U:Option Addr} (hn:d<N) (Z:slT P T=some (e,n,y,z)) (hk:k<=c)
    (hx:ev E I=some (.slice A k c)) (hy:ev E J=some (.slice U 0 V)) (h:ARun P N ops os K ((d,.slice A k c) :: E) S) :
    ARun P N ops (⟨some d,.call ⟨.builtin .append,#[I,J],#[T,T]⟩,ty,pos,aft,none⟩ :: os) K E S:=λa w g hv=>by
  rw [if_pos (by simp [Region.wanted])];obtain ⟨hu,i,v,e1,e2,rfl,rfl,rfl⟩:=zaP Z;have hf:(Builtin.firstCells i.size 0 (.slice U 0 V)).run P w = .ok #[] w:=by
    cases U <;> simp [Builtin.firstCells,loadCells,loadCellsFrom]
  have hr:(execOp a.eval ⟨some d,.call ⟨.builtin .append,#[I,J],#[T,T]⟩,ty,pos,aft,none⟩).run P w = .ok (.value (.slice A k c)) w:=by
    cases A <;> simp [execOp,resolve,invoke,builtin,g.ev hx,g.ev hy,Builtin.append_,run_underlying hu,sizeOf,typeInfo,e1,Builtin.lenOf,hk,hf,storeCells]
  unfold Oper.wp;rw [hr];exact ⟨_,_,h,g.put hn _,Step.refl hv⟩

/-! ### Bytes and texts -/
def bytesT (P:tz) (T:tx):Option tx:=match P.underlying T with
  | some (.slice e)=>match P.underlying e with
    | some (.int .u8)=>some e
    | _=>none
  | _=>none
def strT (P:tz) (T:tx):Bool:=match P.underlying T with | some .string=>true | _=>false
theorem zfV {T e:tx} (h:bytesT P T=some e):P.underlying T=some (.slice e)/\P.underlying e=some (.int .u8):=by
  unfold bytesT at h;cases e1:P.underlying T with
  | none=>simp [e1] at h
  | some d =>
    cases d <;> simp [e1] at h;rename_i J;cases e2:P.underlying J with
    | none=>simp [e2] at h
    | some I =>
      cases I <;> simp [e2] at h;rename_i k;cases k <;> simp at h;subst h;exact ⟨rfl,e2⟩
theorem zax {T:tx} (h:strT P T=true):P.underlying T=some .string:=by
  unfold strT at h;cases e1:P.underlying T with
  | none=>simp [e1] at h
  | some d=>cases d <;> simp_all
def cellsB (l:List UInt8):List tu:=l.map λc=>.int .u8 (nb c)
theorem zaD (l:List UInt8):(cellsB l).length=l.length:=by simp [cellsB]
theorem vW {s t e:tx} {x:tw} {a:Addr} {n cap:Nat} {l:List UInt8} (hs:bytesT P s=some e) (ht:strT P t=true) (Z:ev E x=some (.slice (some a) n cap)) (V:l.length=n) (hl:S.rds a (cellsB l)) :
    ACalm P N ⟨dst,.convert s t x,ty,pos,aft,gd⟩ E S (.string (bs l)):=λc w g J=>by
  obtain ⟨U,h2⟩:=zfV hs;subst V;have:=run_convert_bytes_back (P:=P) w s t e a cap l U h2 (zax ht) (λj I=>J.rd (hl j _ (by simp [cellsB,I,nb])));simp only [execOp,g.ev Z];rw [Sem.run_bind,this];rfl
theorem uR {os:List Oper} {s t e:tx} {x:tw} {u:tt} {d:Nat} (hn:d<N) (hs:strT P s=true) (ht:bytesT P t=some e) (hx:ev E x=some (.string u))
    (h:∀ b c,Fresh S b->u.size<=c->ARun P N ops os K ((d,.slice (some ⟨b,0,none⟩) u.size c) :: E) (S.set b ⟨e,cellsB u.data.toList,c⟩)) (aa:e=5:=by rfl):ARun P N ops (⟨some d,.convert s t x,ty,pos,aft,none⟩ :: os) K E S:=λa w g U=>by
  rw [if_pos (by simp [Region.wanted])];obtain ⟨h1,h2⟩:=zfV ht;have hr:=Lib.run_convert_string_bytes (P:=P) w s t e u (zax hs) h1 h2;unfold Oper.wp;have Z:(execOp a.eval ⟨some d,.convert s t x,ty,pos,aft,none⟩).run P w = .ok (.value (.slice (some ⟨w.heap.size,0,none⟩) u.size (grownCap w u.size 0 e))) (Lib.bytesWorld w e u):=by
    simp only [execOp,g.ev hx];rw [Sem.run_bind,hr];rfl
  rw [Z];have V:=grownCap_ge w u.size 0 e;have hb:=conv_below w e u;have I:=Step.below U hb;refine ⟨_,_,h w.heap.size _ U.freshAt V,g.put hn _,⟨⟨λk r hk=>?_,λad v ha=>?_,U.fzOf rfl (λk hk J=>zeS (Nat.le_refl _) hk J) I.block⟩,I.os,I.tape,I.output,I.size,I.block,λk hk=>?_,λ_ _ h=>.inl h⟩⟩
  · by_cases e0:k=w.heap.size
    · subst e0;rw [vf] at hk;cases hk;have ac:u.size=u.data.size:=rfl;refine ⟨_,_,Lib.bytesWorld_at_new w e u,?_,?_,λj hj x=>?_⟩
      · simp [Lib.bytesCells,cellsB,nb]
      · simp only [Lib.bytesCells,Array.size_append,Array.size_map,Array.size_replicate];omega
      have ao:=hj.resolve_right (λh=>h.2 aa);simp at x;omega
    rw [vg _ _ e0] at hk;exact I.view.own k r hk
  · obtain ⟨q1,q2⟩:=I.view.ro ad v ha;refine ⟨q1,?_⟩;have J:=World.block_lt_of_cell? _ _ (U.ro ad v ha).1;rw [vg _ _ vd];exact q2
  by_cases e0:k=w.heap.size
  · exact .inr vd
  rw [vg _ _ e0] at hk;exact .inl hk
end
end Mv
open Go.RowKit
namespace Mv
def Closed (ops:Array Oper) (listed:Array Bool):Prop:=∀ k o,ops[k]?=some o->listed.getD k false=true -> ∀ e ∈ o.after,Region.binds .any e=true->listed.getD e.on false=true
theorem zb5 (ops:Array Oper) (n:Nat):Closed ops (Array.replicate n false):=λk o _ h=>by
  by_cases e:k<n <;> simp [e] at h
theorem zbU {ops:Array Oper} {I:Array Bool} (h:Closed ops I) {i:Nat} (hi:i ∈ Region.ready .any ops I):Closed ops (I.setIfInBounds i true):=λk o hk hl e Z hb=>by
  refine getD_set_true ?_;by_cases U:i=k
  · subst U;obtain ⟨_,o',V,J⟩:=mem_ready.1 hi;obtain rfl:o=o':=Option.some.inj (hk.symm.trans V);exact J e Z hb
  rw [getD_set_ne false U] at hl;exact h k o hk hl e Z hb
def anc1 (acc:List Nat) (o:Oper):Nat:=o.after.toList.foldl (λm e=>if Region.binds .any e then m ||| (1 <<< e.on) ||| acc.getD e.on 0 else m) 0
def ancs (l:List Oper):List Nat:=l.foldl (λacc o=>acc ++ [anc1 acc o]) []
theorem zjB (i n:Nat) (h:Nat.testBit (1 <<< n) i=true):i=n:=by
  rw [Nat.one_shiftLeft,Nat.testBit_two_pow] at h;have:n=i:=by simpa using h
  exact this.symm
theorem zni (acc:List Nat) (I:List Edge) (U i:Nat) (h:Nat.testBit (I.foldl (λm e=>if Region.binds .any e then m ||| (1 <<< e.on) ||| acc.getD e.on 0 else m) U) i=true) :
    Nat.testBit U i=true \/ ∃ e ∈ I,Region.binds .any e=true/\(i=e.on\/Nat.testBit (acc.getD e.on 0) i=true):=by
  induction I generalizing U with
  | nil=>exact .inl h
  | cons e I V =>
    rw [List.foldl_cons] at h;rcases V _ h with h1 | ⟨Z,J,hb,h2⟩
    · split at h1
      · rename_i hb;simp only [Nat.testBit_or,Bool.or_eq_true] at h1;rcases h1 with (h1 | h1) | h1
        · exact .inl h1
        · exact .inr ⟨e,by simp,hb,.inl (zjB _ _ h1)⟩
        exact .inr ⟨e,by simp,hb,.inr h1⟩
      exact .inl h1
    exact .inr ⟨Z,by simp [J],hb,h2⟩
def Anc (ops:Array Oper) (i j:Nat):Prop:=∀ listed,Closed ops listed->(∀ o,ops[j]?=some o -> ∀ e ∈ o.after,Region.binds .any e=true->listed.getD e.on false=true)->listed.getD i false=true
theorem znj (ops:Array Oper):∀ (l:List Oper) (V I:List Nat) (k:Nat),(∀ j,l[j]?=ops[k+j]?)->I.length=k->(∀ j i,Nat.testBit (I.getD j 0) i=true -> ∃ o,ops[j]?=some o/\Anc ops i j) ->
    ∀ j i,Nat.testBit ((l.foldl (λI o=>I ++ [anc1 I o]) I).getD j 0) i=true -> ∃ o,ops[j]?=some o/\Anc ops i j:=by
  intro l
  induction l with
  | nil=>intro V I k _ _ h;exact h
  | cons o l ih =>
    intro V I k hl hk h;rw [List.foldl_cons];have h0:ops[k]?=some o:=(by simpa using (hl 0).symm);refine ih [] (I ++ [anc1 I o]) (k+1) (λj=>by have:=hl (j+1);simpa [Nat.add_assoc,Nat.add_comm 1 j] using this) (by simp [hk]) λj i hb=>?_;rcases Nat.lt_trichotomy j I.length with hj | hj | hj
    · have e:(I ++ [anc1 I o]).getD j 0=I.getD j 0:=(by simp [List.getD,List.getElem?_append_left hj]);rw [e] at hb;exact h j i hb
    · have e:(I ++ [anc1 I o]).getD j 0=anc1 I o:=(by subst hj;simp [List.getD]);rw [e] at hb;have ac:j=k:=(by omega);subst ac;refine ⟨o,h0,λJ hc U=>?_⟩;rcases zni I o.after.toList 0 i hb with h1 | ⟨e,he,aa,h1⟩
      · simp at h1
      have Z:=U o h0 e (by simpa using he) aa;rcases h1 with h1 | h1
      · rw [h1];exact Z
      obtain ⟨o',al,ha⟩:=h e.on i h1;exact ha J hc λo2 ae e2 ad af=>hc e.on o2 ae Z e2 ad af
    have e:(I ++ [anc1 I o]).getD j 0=0:=(by simp [List.getD];rw [List.getElem?_eq_none (by simp;omega)];rfl);rw [e] at hb;simp at hb
def waitsFor (l:List Oper) (i j:Nat):Bool:=Nat.testBit ((ancs l).getD j 0) i
theorem zc2 {l:List Oper} {i j:Nat} (h:waitsFor l i j=true):Anc l.toArray i j:=by
  obtain ⟨_,_,I⟩:=znj l.toArray l [] [] 0 (by simp) rfl (λj i hb=>by simp at hb) j i h;exact I

section
variable {P:tz} {ops:Array Oper} {Q:Exit->Act->tv->Prop} {W:Nat->Bool} {C:tv->Prop}
def wpAnyG (P:tz) (ops:Array Oper) (Q:Exit->Act->tv->Prop) (W:Nat->Bool) (C:tv->Prop):Nat->Array Bool->Act->tv->Prop
  | 0,listed,a,w=>Region.ready .any ops listed = []/\Q .normal a w
  | fuel+1,listed,a,w =>
    (Region.ready .any ops listed = []->Q .normal a w) /\
    ∀ i ∈ Region.ready .any ops listed,wpOp P ops Q i (λa' w'=>(W i=false->C w->C w')/\wpAnyG P ops Q W C fuel (listed.setIfInBounds i true) a' w') a w
theorem zcg:∀ (fuel:Nat) (I:Array Bool) (a:Act) (w:tv),wpAnyG P ops Q W C fuel I a w->wpAny P .any ops Q fuel I a w
  | 0,_,_,_,h=>h
  | fuel+1,_,_,_,h=>⟨h.1,λi hi=>wpOp_mono (λJ w' h'=>zcg fuel _ J w' h'.2) (h.2 i hi)⟩
theorem zdk {D:tv->Prop} {i:Nat} {oi:Oper} {v:tu} (hi:ops[i]?=some oi) (ad:∀ (j:Nat) (o:Oper) cs b,ops[j]?=some o->o.op ≠ .select cs b)
    (hQ:∀ c a w,Q (.panic c) (a.put oi.dst v) w->Q (.panic c) a w)
    (hD:∀ j w w' I,Closed ops I->I.getD i true=false->j ∈ Region.ready .any ops I->D w->(W j=false->C w->C w')->D w') :
    ∀ (J:Nat) (I:Array Bool) (a:Act) (w:tv),Closed ops I ->
      (∀ j oj,ops[j]?=some oj->j≠i->I.getD j true=false->(∀ e ∈ oj.after,Region.binds .any e=true->e.on≠i)->oi.apart ops oj=true) ->
      i ∈ Region.ready .any ops I->YieldsIf P ops D oi v a->D w ->
      wpAnyG P ops Q W C J (I.setIfInBounds i true) (a.put oi.dst v) w->wpAnyG P ops Q W C (J+1) I a w:=by
  intro J
  induction J with
  | zero =>
    intro I a w af _ hr hy hS H;refine ⟨λh=>(by rw [h] at hr;cases hr),λj hj=>?_⟩;by_cases U:j=i
    · subst U;exact hy.wpOp hi hS ⟨λ_ h=>h,H⟩
    have:=ready_mono hj U;rw [H.1] at this;cases this
  | succ J ih =>
    intro I a w af Z hr hy hS H;refine ⟨λh=>(by rw [h] at hr;cases hr),λj hj=>?_⟩;by_cases U:j=i
    · subst U;exact hy.wpOp hi hS ⟨λ_ h=>h,H⟩
    have h1:=H.2 j (ready_mono hj U);obtain ⟨ac,oj,ai,al⟩:=mem_ready.1 hj;have V:I.getD i true=false:=(mem_ready.1 hr).1;have am:∀ e ∈ oj.after,Region.binds .any e=true->e.on≠i:=λe he hb aw=>by
      have h1:=al e he hb;rw [aw] at h1;rcases Nat.lt_or_ge i I.size with h' | h'
      · simp [h'] at V h1;rw [V] at h1;cases h1
      simp [Array.getElem?_eq_none h'] at h1
    have h2:=wpOp_putIf ai (Z j oj ai U ac am) (λcs b=>ad i oi cs b hi) (λcs b=>ad j oj cs b ai) hQ hy h1;have aa:∀ k ok,ops[k]?=some ok->k≠i->(I.setIfInBounds j true).getD k true=false ->
        (∀ e ∈ ok.after,Region.binds .any e=true->e.on≠i)->oi.apart ops ok=true:=λk ok hk ax V av=>by
      refine Z k ok hk ax ?_ av;by_cases an:j=k
      · subst an;exact ac
      rw [getD_set_ne true an] at V;exact V
    refine wpOp_mono (λa' w' h3=>?_) h2;refine ⟨h3.2.1,ih (I.setIfInBounds j true) a' w' (zbU af hj) aa (ready_mono hr (Ne.symm U)) h3.1 (hD j w w' I af V hj hS h3.2.1) ?_⟩;rw [Array.setIfInBounds_comm _ _ U];exact h3.2.2
end

/-! ### The walk of such a region -/
def pureOp (o:Oper):Bool:=match o.op with
  | .move _ | .assign _ | .pick .. | .binOp .. | .unOp .. | .nilCheck _ | .fieldAddr .. | .extract .. | .indexAddr .. | .slice .. | .build .. | .call ⟨.builtin .len,_,_⟩=>true
  | _=>false
def noMem:Mem:=⟨λ_=>none,⟨λ_=>none,λ_=>none⟩⟩
theorem zeW (w:tv):View noMem w:=⟨λ_ _ h=>(by cases h),λ_ _ h=>(by cases h),λ_ _ h=>(by cases h)⟩
def mayFirst (l:List Oper) (W:List Nat) (listed:Array Bool) (i:Nat):Bool :=
  (Region.ready .any l.toArray listed).contains i && Region.free .any l.toArray listed i && ((l[i]?).any pureOp || W.all λj=>waitsFor l i j)
def stepsOK (l:List Oper) (W:List Nat):List (Nat × Bool)->Array Bool->Bool
  | [],listed=>(Region.ready .any l.toArray listed).isEmpty
  | (i,b) :: is,listed=>(if b then mayFirst l W listed i else Region.ready .any l.toArray listed == [i]) && stepsOK l W is (listed.setIfInBounds i true)
def drawOK (l:List Oper) (st:List (Nat × Bool)) (W:List Nat):Bool :=
  Region.noSelect l.toArray && (st.length == l.length) && stepsOK l W st (Array.replicate l.length false)
section
variable {P:tz} {N:Nat}
def ACalmG (P:tz) (N:Nat) (ops:Array Oper) (o:Oper) (E:Env) (S:Mem) (v:tu):Prop:=∀ a w,Good N E a->View S w ->
  (Region.wanted o (yielded ops a.tmps)=true/\(execOp a.eval o).run P w = .ok (.value v) w)\/(Region.wanted o (yielded ops a.tmps)=false/\v=undef)
def DrawRun (P:tz) (N:Nat) (l:List Oper) (W:List Nat) (S0:Mem):List (Nat × Bool)->(Env->Mem->Prop)->Env->Mem->Prop
  | [],K,E,S=>K E S
  | (i,true) :: is,K,E,S=>∃ o d v,l[i]?=some o/\o.dst=some d/\d<N/\(pureOp o=true\/S0.Less S)/\ACalmG P N l.toArray o E (if pureOp o then noMem else S0) v/\DrawRun P N l W S0 is K ((d,v) :: E) S
  | (i,false) :: is,K,E,S=>∃ o,l[i]?=some o/\AOp P N l.toArray o (λE' S'=>(W.contains i=false->S0.Less S')/\DrawRun P N l W S0 is K E' S') E S
def Q0 (N:Nat) (K:Env->Mem->Prop) (S:Mem) (w:tv):Exit->Act->tv->Prop
  | .normal,a',w'=>Post N K S w a' w'
  | _,_,_=>False
theorem zse {l:List Oper} {W:List Nat} {S0:Mem} {w0:tv} {K:Env->Mem->Prop} (an:Region.noSelect l.toArray=true):∀ (st:List (Nat × Bool)) (I:Array Bool) (E:Env) (S:Mem) (a:Act) (w:tv),
    stepsOK l W st I=true->Closed l.toArray I->DrawRun P N l W S0 st K E S->Good N E a->View S w->Step S0 w0 S w->wpAnyG P l.toArray (Q0 N K S0 w0) (λi=>W.contains i) (View S0) st.length I a w:=by
  intro st
  induction st with
  | nil =>
    intro I E S a w hr Z h g hv hs;exact ⟨by simpa [stepsOK] using hr,E,S,h,g,hs⟩
  | cons p is ih =>
    obtain ⟨i,b⟩:=p;intro I E S a w hr Z h g hv hs;cases b with
    | false =>
      simp only [stepsOK,Bool.and_eq_true,beq_iff_eq,Bool.false_eq_true,if_false] at hr;obtain ⟨am,aD⟩:=hr;refine ⟨λh0=>(by rw [am] at h0;cases h0),λj hj=>?_⟩;have aH:=hj;rw [am] at hj;obtain rfl:j=i:=(by simpa using hj);obtain ⟨o,ho,aF⟩:=h;have h1:=aF a w g hv;unfold wpOp;have aa:l.toArray[j]?=some o:=(by simpa using ho);simp only [aa];have next:∀ a1 w1,Post N (λE' S'=>(W.contains j=false->S0.Less S')/\DrawRun P N l W S0 is K E' S') S w a1 w1->(W.contains j=false->View S0 w->View S0 w1)/\wpAnyG P l.toArray (Q0 N K S0 w0) (λi=>W.contains i) (View S0) is.length (I.setIfInBounds j true) a1 w1:=λa1 w1 ⟨E1,S1,⟨k1,k2⟩,g1,s1⟩ =>
        ⟨λV _=>s1.view.less (k1 V),ih _ E1 S1 a1 w1 aD (zbU Z aH) k2 g1 s1.view (hs.trans s1)⟩
      split
      · rename_i V;rw [if_pos V] at h1;exact .inl (zep (Oper.wp_mono next h1))
      rename_i V;rw [if_neg V] at h1;exact next _ _ h1
    | true =>
      simp only [stepsOK,Bool.and_eq_true,if_true] at hr;obtain ⟨ao,aC⟩:=hr;obtain ⟨o,d,v,ho,hd,hn,af,U,ah⟩:=h;simp only [mayFirst,Bool.and_eq_true,Bool.or_eq_true] at ao;obtain ⟨⟨hr,hf⟩,hp⟩:=ao;have aa:l.toArray[i]?=some o:=(by simpa using ho);have ak:i ∈ Region.ready .any l.toArray I:=(by simpa using hr);let D:tv->Prop:=λw'=>if pureOp o=true then True else View S0 w'
      have aw:D w:=by
        simp only [D];split
        · trivial
        rename_i hx;exact hv.less (af.resolve_left hx)
      have ad:∀ w',D w'->View (if pureOp o then noMem else S0) w':=λw' h=>by
        simp only [D] at h;split
        · exact zeW _
        rename_i hx;rw [if_neg hx] at h;exact h
      refine zdk (D:=D) (v:=v) aa (Region.noSelect_spec an) (λc a w h=>h) ?_ is.length I a w Z (Region.free_spec aa hf) ak ?_ aw ?_
      · intro j w1 w2 J aq au hj ae ag;simp only [D] at ae ⊢;split
        · trivial
        rename_i hx;rw [if_neg hx] at ae;refine ag ?_ ae;rcases hp with hp | hp
        · rw [ho] at hp;exact absurd (by simpa using hp) hx
        cases aB:W.contains j with
        | false=>rfl
        | true =>
          have h1:=List.all_eq_true.1 hp j (by simpa using aB);obtain ⟨aO,oj,aG,al⟩:=mem_ready.1 hj;have h2:=zc2 h1 J aq λo2 aE e he hb=>by
            obtain rfl:oj=o2:=Option.some.inj (aG.symm.trans aE);exact al e he hb
          rcases Nat.lt_or_ge i J.size with aJ | hge
          · simp [aJ] at au h2;rw [au] at h2;cases h2
          simp [Array.getElem?_eq_none hge] at h2
      · by_cases V:Region.wanted o (yielded l.toArray a.tmps)=true
        · refine .inl ⟨V,λw' aI=>?_⟩;rcases U a w' g (ad w' aI) with h1 | h1
          · exact h1.2
          rw [V] at h1;cases h1.1
        rcases U a w g (ad w aw) with h1 | h1
        · exact absurd h1.1 V
        exact .inr h1
      rw [hd];exact ih (I.setIfInBounds i true) _ S _ w aC (zbU Z ak) ah (g.put hn v) hv hs
theorem AWP.draw {id:Nat} {l:List Oper} {Q:Exit->Env->Mem->Prop} {E:Env} {S:Mem} (st:List (Nat × Bool)) (W:List Nat) (hm:P.follows .mixedOrders=true) (J:drawOK l st W=true)
    (h:DrawRun P N l W S st (Q .normal) E S):AWP P N (.region id l.toArray true) Q E S:=λa w g hv=>by
  simp only [drawOK,Bool.and_eq_true,beq_iff_eq] at J;obtain ⟨⟨h1,V⟩,Z⟩:=J;refine wp_mono (Q:=Q0 N (Q .normal) S w) ?_ (λe a' w' x=>by cases e <;> first | exact x | exact x.elim);refine wp_region_any hm ?_;refine zcg (W:=λi=>W.contains i) (C:=View S) _ _ _ _ ?_;have U:l.toArray.size=st.length:=by simp [V]
  rw [U];have I:Step S w S { w with drawn:=w.drawn+1 }:=Step.drawn hv _;exact zse h1 st _ E S a _ (by rw [V];exact Z) (zb5 _ _) h g I.view I
end
end Mv
open Go.RowKit
namespace Mv
section
variable {P:tz} {t:tx} {x y:tw} {k:IntKind}
theorem znk (a b:Int):Bin P .add t x y (.int k a) (.int k b) (.int k (k.wrap (a+b))):=λw=>by simp [eqGuard,binOp,Op.intArith]
theorem zjC (a b:Int):Bin P .sub t x y (.int k a) (.int k b) (.int k (k.wrap (a-b))):=λw=>by simp [eqGuard,binOp,Op.intArith]
theorem znl (a b:Int):Bin P .mul t x y (.int k a) (.int k b) (.int k (k.wrap (a*b))):=λw=>by simp [eqGuard,binOp,Op.intArith]
theorem zpO {a b c:Int} (h:k.wrap (a+b)=c):Bin P .add t x y (.int k a) (.int k b) (.int k c):=h ▸ znk a b
theorem zpP {a b c:Int} (h:k.wrap (a-b)=c):Bin P .sub t x y (.int k a) (.int k b) (.int k c):=h ▸ zjC a b
theorem zhB {a b c:Int} (h:k.wrap (a*b)=c):Bin P .mul t x y (.int k a) (.int k b) (.int k c):=h ▸ znl a b
theorem zjD {a b:Int} (hb:b≠0):Bin P .quo t x y (.int k a) (.int k b) (.int k (k.wrap (a.tdiv b))):=λw=>by simp [eqGuard,binOp,Op.intDiv,hb]
theorem znm {a b:Int} (hb:b≠0):Bin P .rem t x y (.int k a) (.int k b) (.int k (a.tmod b)):=λw=>by simp [eqGuard,binOp,Op.intDiv,hb]
theorem zhC {a b:Int} (hb:b≠0) (I:0<=a):Bin P .rem t x y (.int k a) (.int k b) (.int k (a % b)):=by rw [<- Int.tmod_eq_emod_of_nonneg I];exact znm hb
theorem zkU {a b c:Int} (hb:b≠0) (h:k.wrap (a.tdiv b)=c):Bin P .quo t x y (.int k a) (.int k b) (.int k c):=h ▸ zjD hb
theorem zaA (a b:Int):Bin P .lss t x y (.int k a) (.int k b) (.bool (decide (a<b))):=λw=>by simp [eqGuard,binOp,Op.intCmp]
theorem zjE (a b:Int):Bin P .leq t x y (.int k a) (.int k b) (.bool (decide (a<=b))):=λw=>by simp [eqGuard,binOp,Op.intCmp]
theorem zbu (a b:Int):Bin P .gtr t x y (.int k a) (.int k b) (.bool (decide (b<a))):=λw=>by simp [eqGuard,binOp,Op.intCmp]
theorem zeX (a b:Int):Bin P .geq t x y (.int k a) (.int k b) (.bool (decide (b<=a))):=λw=>by simp [eqGuard,binOp,Op.intCmp]
theorem zaJ (a b:Int):Bin P .eql t x y (.int k a) (.int k b) (.bool (decide (a=b))):=λw=>by simp [eqGuard,binOp,Op.intCmp];rw [Bool.eq_iff_iff];simp
theorem zfW (a b:Int):Bin P .neq t x y (.int k a) (.int k b) (.bool (!decide (a=b))):=λw=>by simp [eqGuard,binOp,Op.intCmp];rw [Bool.eq_iff_iff];simp
theorem zaf {op:BinOp} {vx vy:tu} {b c:Bool} (h:Bin P op t x y vx vy (.bool b)) (e:b=c):Bin P op t x y vx vy (.bool c):=e ▸ h
theorem zsZ (a b:Int):Bin P .and t x y (.int k a) (.int k b) (.int k (bits .and k a b)):=λw=>by
  simp only [eqGuard,binOp,Op.intBits,bits];simp
theorem zu2 (a b:Int):Bin P .or t x y (.int k a) (.int k b) (.int k (bits .or k a b)):=λw=>by
  simp only [eqGuard,binOp,Op.intBits,bits];simp
theorem zjF {a b:Int} {k':IntKind} (U:0<=b) (J:b<=k.bits):Bin P .shl t x y (.int k a) (.int k' b) (.int k (k.wrap (a*2 ^ b.toNat))):=λw=>by
  have I : ¬ b<0:=by omega
  have hm:min b.toNat k.bits=b.toNat:=by omega
  simp [eqGuard,binOp,Op.shift,I,hm]
theorem zs0 {a b:Int} {k':IntKind} (V:0<=b) (U:b<=k.bits):Bin P .shr t x y (.int k a) (.int k' b) (.int k (a / 2 ^ b.toNat)):=λw=>by
  have J : ¬ b<0:=by omega
  have hm:min b.toNat k.bits=b.toNat:=by omega
  have I:(0:Int)<=2 ^ b.toNat:=Int.pow_nonneg vd;simp [eqGuard,binOp,Op.shift,J,hm,Int.fdiv_eq_ediv_of_nonneg _ I]
theorem zs1 (b:Bool):Una P .not (.bool b) (.bool !b):=λw=>by simp [Op.unary]
theorem zkV {s d:tx} {k k':IntKind} {n:Int} {I:TypeDesc} (hs:P.underlying s=some I) (hd:P.underlying d=some (.int k')):Mv.Conv P s d (.int k n) (.int k' (k'.wrap n)):=λw=>by
  simp only [convert,Sem.run_bind,run_underlying hs,run_underlying hd,Result.andThen_ok];cases I <;> simp [Go.Conv.intToInt]
theorem zbx {s d:tx} {k k':IntKind} {n m:Int} {I:TypeDesc} (hs:P.underlying s=some I) (hd:P.underlying d=some (.int k')) (h:k'.wrap n=m):Mv.Conv P s d (.int k n) (.int k' m):=h ▸ zkV hs hd
end

/-! ### Through the exits -/
section
variable {P:tz} {N:Nat} {next:Env->Mem->Prop} {Q:Exit->Env->Mem->Prop} {E:Env} {S:Mem} {id:Nat}
theorem zbO (h:next E S):Athen next Q .normal E S:=h
theorem zme (h:Q (.exit id) E S):Athen next Q (.exit id) E S:=h
theorem znn (h:Q .ret E S):Athen next Q .ret E S:=h
theorem zwA (h:Q .normal E S):AinBlock id Q .normal E S:=h
theorem zs2 (h:Q .ret E S):AinBlock id Q .ret E S:=h
theorem zpQ (h:Q .normal E S):AinBlock id Q (.exit id) E S:=by simpa [AinBlock] using h
theorem zno {j:Nat} (I:(j == id)=false) (h:Q (.exit j) E S):AinBlock id Q (.exit j) E S:=by
  have:j≠id:=by simpa using I
  simpa [AinBlock,this] using h
def JoinQ {X:Type} (Q:Exit->Env->Mem->Prop) (st:X->Env) (m:X->Mem) (ok:X->Prop):Exit->Env->Mem->Prop
  | .normal,E,S=>∃ x,ok x/\Sub (st x) E/\(m x).Less S
  | e,E,S=>Q e E S
theorem AWP.join {X:Type} {c:Code} (st:X->Env) (m:X->Mem) (ok:X->Prop) (h:AWP P N c (JoinQ Q st m ok) E S) (k:∀ x,ok x -> ∀ J S',Sub (st x) J->(m x).Less S'->Q .normal J S'):AWP P N c Q E S :=
  h.mono λe J S' I=>match e,I with
    | .normal,⟨x,h1,h2,h3⟩=>k x h1 J S' h2 h3
    | .ret,I=>I
    | .exit _,I=>I
    | .goto _,I=>I
    | .outgrown,I=>I
    | .panic _,I=>I
theorem zad {ops:Array Oper} {K:Env->Mem->Prop} (h:K E S):ARun P N ops [] K E S:=h
theorem zpR {l:List Oper} {W:List Nat} {S0:Mem} {K:Env->Mem->Prop} (h:K E S):DrawRun P N l W S0 [] K E S:=h
theorem znp {l:List Oper} {W:List Nat} {S0:Mem} {K:Env->Mem->Prop} {i:Nat} {is:List (Nat × Bool)} {o:Oper} {d:Nat} {v:tu} (V:l[i]?=some o) (I:o.guard=none) (hd:o.dst=some d) (U:d<N) (hl:S0.Less S)
    (hc:∀ S',(pureOp o=true\/S'=S0)->ACalm P N o E S' v) (h:DrawRun P N l W S0 is K ((d,v) :: E) S):DrawRun P N l W S0 ((i,true) :: is) K E S :=
  ⟨o,d,v,V,hd,U,.inr hl,λa w g J=>.inl ⟨by simp [Region.wanted,I],hc _ (by split <;> simp_all) a w g J⟩,h⟩
theorem zin {l:List Oper} {W:List Nat} {S0:Mem} {K:Env->Mem->Prop} {i:Nat} {is:List (Nat × Bool)} {o:Oper} {d:Nat} {v:tu} (U:l[i]?=some o) (Z:pureOp o=true) (J:o.guard=none) (hd:o.dst=some d) (V:d<N)
    (hc:∀ S',ACalm P N o E S' v) (h:DrawRun P N l W S0 is K ((d,v) :: E) S):DrawRun P N l W S0 ((i,true) :: is) K E S :=
  ⟨o,d,v,U,hd,V,.inl Z,λa w g I=>.inl ⟨by simp [Region.wanted,J],hc _ a w g I⟩,h⟩
theorem zgQ {l:List Oper} {W:List Nat} {S0:Mem} {K:Env->Mem->Prop} {i:Nat} {is:List (Nat × Bool)} {o:Oper} {d:Nat} {v:tu} (j:Nat) (t:Bool) (dj:Nat) (Z:l[i]?=some o) (V:o.guard=some (j,t)) (I:(l.toArray[j]?).bind (·.dst)=some dj) (J:dj<N) (hb:lk E dj=some (.bool t)) (hd:o.dst=some d) (hn:d<N) (hl:S0.Less S)
    (hc:∀ S',(pureOp o=true\/S'=S0)->ACalm P N o E S' v) (h:DrawRun P N l W S0 is K ((d,v) :: E) S):DrawRun P N l W S0 ((i,true) :: is) K E S:=by
  cases e:l.toArray[j]? with
  | none=>rw [e] at I;simp at I
  | some og =>
    rw [e] at I;exact ⟨o,d,v,Z,hd,hn,.inr hl,λa w g U=>.inl ⟨by simp [Region.wanted,V,zcf g e (by simpa using I) J hb],hc _ (by split <;> simp_all) a w g U⟩,h⟩
theorem zmf {l:List Oper} {W:List Nat} {S0:Mem} {K:Env->Mem->Prop} {i:Nat} {is:List (Nat × Bool)} {o:Oper} {d:Nat} (j:Nat) (t u:Bool) (dj:Nat) (Z:l[i]?=some o) (V:o.guard=some (j,t)) (I:(l.toArray[j]?).bind (·.dst)=some dj) (U:dj<N) (hb:lk E dj=some (.bool u)) (J:(u == t)=false) (hd:o.dst=some d) (hn:d<N) (hl:S0.Less S)
    (h:DrawRun P N l W S0 is K ((d,undef) :: E) S):DrawRun P N l W S0 ((i,true) :: is) K E S:=by
  cases e:l.toArray[j]? with
  | none=>rw [e] at I;simp at I
  | some og =>
    rw [e] at I;exact ⟨o,d,undef,Z,hd,hn,.inr hl,λa w g hv=>.inr ⟨by simp [Region.wanted,V,zcf g e (by simpa using I) U hb];intro x;subst x;simp at J,rfl⟩,h⟩
theorem zac {l:List Oper} {W:List Nat} {S0:Mem} {K:Env->Mem->Prop} {i:Nat} {is:List (Nat × Bool)} {o:Oper} (I:l[i]?=some o)
    (h:ARun P N l.toArray [o] (λJ S'=>(W.contains i=false->S0.Less S')/\DrawRun P N l W S0 is K J S') E S):DrawRun P N l W S0 ((i,false) :: is) K E S:=⟨o,I,h⟩
end
theorem zab {a b:Nat} (h:a.blt b=true):a<b:=by simpa using h
end Mv
open Go.RowKit
namespace Mv
def LessB (B:List Nat) (S' S:Mem):Prop:=(∀ k r,k ∉ B->S'.own k=some r->S.own k=some r)/\S'.ro=S.ro
theorem zs3 {S' S:Mem} (h:LessB [] S' S):S'.Less S:=⟨λk r hk=>h.1 k r (by simp) hk,h.2⟩
theorem LessB.refl (B:List Nat) (S:Mem):LessB B S S:=⟨λ_ _ _ h=>h,rfl⟩
theorem LessB.of {B:List Nat} {S' S:Mem} (h:S'.Less S):LessB B S' S:=⟨λk r _ I=>h.1 k r I,h.2⟩
theorem LessB.set {B:List Nat} {S' M:Mem} {b:Nat} {r:Blk} (hb:M.own b=some r) (h:LessB (b :: B) S' M):LessB B (S'.set b r) M:=⟨λk r' hk I=>by
  by_cases e:k=b
  · subst e;rw [vf] at I;cases I;exact hb
  rw [vg _ _ e] at I;exact h.1 k r' (by simp [e,hk]) I,h.2⟩
theorem LessB.skip {B:List Nat} {S' M:Mem} {b:Nat} {r:Blk} (hb:b ∈ B\/S'.own b=none) (h:LessB B S' M):LessB B S' (M.set b r):=⟨λk r' hk I=>by
  by_cases e:k=b
  · subst e;rcases hb with hb | hb
    · exact absurd hb hk
    rw [hb] at I;cases I
  rw [vg _ _ e];exact h.1 k r' hk I,h.2⟩
theorem zbP {S:Mem} {b j:Nat} {r:Blk} {v:tu} (h:S.own b=some r) (I:r.cells[j]?=some v):S.rd ⟨b,j,none⟩=some v:=(zeq h j).trans I
theorem zpS {E:Env} {i:tw} {k:IntKind} (I y:Nat) (h:ev E i=some (.int k 0)):bnd E (some i) I y 0:=⟨k,0,h,by omega,by omega,rfl⟩
theorem zjG (c:UInt8):IntKind.u64.wrap (nb c)=nb c:=IntWalk.u64_in _ (by have:=nb_nonneg c;have:=nb_le c;omega)
theorem zcd {p:Prop} [Decidable p] (h : ¬ p):(!decide p)=true:=by simp [h]
theorem za9 {p:Prop} [Decidable p] (h:p):(!decide p)=false:=by simp [h]
def bldT (P:tz) (T:tx):Option (List (Nat × Nat) × List tu):=match P.underlying T with
  | some (.struct fs)=>match fs.toList.mapM λ(f:Field)=>(P.info? f.type).map λi=>(f.offset,i.size) with
    | some ps=>match (P.info? T).bind (·.zero) with
      | some z=>some (ps,z.cells.toList)
      | none=>none
    | none=>none
  | _=>none
def bldL (ps:List (Nat × Nat)):List tu->List (Nat × tu)->Option (List tu)
  | cs,[]=>some cs
  | cs,(i,v) :: rest=>match ps[i]? with
    | some (off,n)=>if v.cells.size=n/\off+n<=cs.length then bldL ps (spl cs off v.cells.toList) rest else none
    | none=>none
theorem zio (k:Nat):∀ (cs:List tu) (m:Nat) (I:Array tu),k+m+cs.length<=I.size->((cs.zipIdx m).foldl (λ(bs:Array tu) (p:tu × Nat)=>bs.setIfInBounds (k+p.2) p.1) I).toList=spl I.toList (k+m) cs:=by
  intro cs
  induction cs with
  | nil=>intro m I hl;simp [spl]
  | cons c cs J =>
    intro m I hl;simp only [List.length_cons] at hl;rw [List.zipIdx_cons,List.foldl_cons,J (m+1) _ (by simp;omega)];simp only [spl,Array.toList_setIfInBounds,List.length_cons];rw [List.set_eq_take_append_cons_drop,if_pos (by simp;omega)];have e1:(I.toList.take (k+m)).length=k+m:=(by simp;omega);have e2:List.take (k+(m+1)) (I.toList.take (k+m) ++ c :: I.toList.drop (k+m+1))=I.toList.take (k+m) ++ [c]:=by
      rw [List.take_append,e1,show k+(m+1)-(k+m)=1 from by omega,List.take_of_length_le vd];simp
    have e3:List.drop (k+(m+1)+cs.length) (I.toList.take (k+m) ++ c :: I.toList.drop (k+m+1))=I.toList.drop (k+m+(cs.length+1)):=by
      rw [List.drop_append,e1,List.drop_of_length_le vd,List.nil_append,show k+(m+1)+cs.length-(k+m)=cs.length+1 from by omega,List.drop_succ_cons,List.drop_drop];congr 1;omega
    rw [e2,e3];simp
theorem znq (ps:List (Nat × Nat)):∀ (I:List (Nat × tu)) (cells:Array tu) (cs:List tu),bldL ps cells.toList I=some cs->Instr.fill (λi=>ps[i]?) cells I=some cs.toArray:=by
  intro I
  induction I with
  | nil=>intro cells cs h;simp [bldL] at h;subst h;simp [Instr.fill]
  | cons p J ih =>
    obtain ⟨i,v⟩:=p;intro cells cs h;simp only [bldL] at h;cases e:ps[i]? with
    | none=>simp [e] at h
    | some on =>
      obtain ⟨off,n⟩:=on;simp only [e] at h;split at h
      · rename_i hc;obtain ⟨U,h2⟩:=hc;have Z:off+v.cells.size<=cells.size:=(by rw [U];simpa using h2);simp only [Instr.fill,e];have hn:(v.cells.size≠n || decide (off+v.cells.size > cells.size))=false:=(by simp [U];omega);simp only [hn,Bool.false_eq_true,if_false];have V:=zio off v.cells.toList 0 cells (by simp;omega);rw [Nat.add_zero] at V;have e2:Array.foldl (λ(bs:Array tu) (p:tu × Nat)=>bs.setIfInBounds (off+p.2) p.1) cells v.cells.zipIdx=(spl cells.toList off v.cells.toList).toArray:=by
          apply Array.ext';rw [<- Array.foldl_toList,Array.toList_zipIdx,V]
        refine (congrArg (λx=>Instr.fill (λi=>ps[i]?) x J) e2).trans ?_;exact ih _ _ (by simpa using h)
      cases h
section
variable {P:tz} {N:Nat} {ops:Array Oper} {E:Env} {S:Mem}
variable {dst:Option Nat} {ty:tx} {pos:String} {aft:Array Edge} {gd:Option (Nat × Bool)}
theorem zfX {fs:List Field} {ps:List (Nat × Nat)} (h:fs.mapM (λ(f:Field)=>(P.info? f.type).map λi=>(f.offset,i.size))=some ps) (w:tv) :
    (fs.mapM λ(f:Field)=>(do pure (f.offset,<- sizeOf f.type):Sem (Nat × Nat))).run P w = .ok ps w:=by
  induction fs generalizing ps with
  | nil=>simp at h;subst h;simp
  | cons f fs J =>
    rw [List.mapM_cons] at h;cases e1:P.info? f.type with
    | none=>simp [e1] at h
    | some i =>
      cases e2:(fs.mapM λ(f:Field)=>(P.info? f.type).map λi=>(f.offset,i.size)) with
      | none=>simp [e1,e2] at h
      | some I =>
        simp [e1,e2] at h;subst h;rw [List.mapM_cons,Sem.run_bind,Sem.run_bind];simp [sizeOf,typeInfo,e1];have:=J e2;simp [sizeOf,typeInfo] at this;simp [this]
theorem ziq (f:tw->tu) (l:List (Nat × tw)):l.map (λp=>(p.1,f p.2))=(l.map (·.1)).zip (l.map (f ∘ λx=>x.2)):=by
  induction l with
  | nil=>rfl
  | cons p l I=>simp only [List.map_cons,List.zip_cons_cons,I];rfl
theorem Calm.build {T:tx} {ps:List (Nat × Nat)} {z:List tu} {I:List (Nat × tw)} {vs cs:List tu} (V:bldT P T=some (ps,z)) (hx:evs E (I.map (·.2))=some vs) (hb:bldL ps z ((I.map (·.1)).zip vs)=some cs) :
    ACalm P N ⟨dst,.build T I.toArray,ty,pos,aft,gd⟩ E S (.agg cs.toArray):=λc w g hv=>by
  unfold bldT at V;cases e:P.underlying T with
  | none=>simp [e] at V
  | some d =>
    cases d <;> simp [e] at V;rename_i fs;cases e1:(fs.toList.mapM λ(f:Field)=>(P.info? f.type).map λi=>(f.offset,i.size)) with
    | none=>simp [e1] at V
    | some J =>
      cases e2:(P.info? T).bind (·.zero) with
      | none=>simp [e1,e2] at V
      | some zv =>
        simp [e1,e2] at V;obtain ⟨rfl,rfl⟩:=V;have hz:(zeroValue T).run P w = .ok zv w:=by
          cases e3:P.info? T with
          | none=>simp [e3] at e2
          | some i=>simp [e3] at e2;simp [zeroValue,typeInfo,e3,e2]
        have ad:(fs.mapM λ(f:Field)=>(do pure (f.offset,<- sizeOf f.type):Sem (Nat × Nat))).run P w = .ok J.toArray w:=by
          have:=zfX (P:=P) e1 w;rw [<- Array.toArray_toList (xs:=fs),List.mapM_toArray,Sem.run_map,this];rfl
        have ac:=g.evs hx;have U:(I.toArray.map λ(p:Nat × tw)=>(p.1,c.eval p.2)).toList=(I.map (·.1)).zip vs:=by
          rw [<- ac];simp only [List.map_toArray,List.map_map];exact ziq c.eval I
        have Z:=znq J _ zv.cells cs hb;simp only [execOp,Instr.build];simp only [Sem.run_bind,hz,Result.andThen_ok,run_underlying e w];rw [ad];simp only [Result.andThen_ok];have aa:(λ(i:Nat)=>J.toArray[i]?)=λ(i:Nat)=>J[i]?:=(by funext i;simp);rw [U,aa,Z];rfl
theorem Calm.minL {x y:tw} {k k':IntKind} {a b:Int} {ats:Array tx} (U:ev E x=some (.int k a)) (J:ev E y=some (.int k' b)) (h:a<=b):ACalm P N ⟨dst,.call ⟨.builtin .min,#[x,y],ats⟩,ty,pos,aft,gd⟩ E S (.int k a):=λc w g V=>by
  have I:=run_min_int2 (P:=P) (w:=w) ats ty k k' a b;simp only [execOp,resolve,invoke,builtin,List.map_toArray,List.map_cons,List.map_nil,g.ev U,g.ev J,Sem.run_bind,Sem.run_pure,Result.andThen_ok,I];congr 3;split <;> omega
theorem Calm.minR {x y:tw} {k k':IntKind} {a b:Int} {ats:Array tx} (U:ev E x=some (.int k a)) (J:ev E y=some (.int k' b)) (h:b<=a):ACalm P N ⟨dst,.call ⟨.builtin .min,#[x,y],ats⟩,ty,pos,aft,gd⟩ E S (.int k b):=λc w g V=>by
  have I:=run_min_int2 (P:=P) (w:=w) ats ty k k' a b;simp only [execOp,resolve,invoke,builtin,List.map_toArray,List.map_cons,List.map_nil,g.ev U,g.ev J,Sem.run_bind,Sem.run_pure,Result.andThen_ok,I];congr 3;split <;> omega
theorem uN {x y:tw} {k k':IntKind} {a b:Int} {ats:Array tx} (U:ev E x=some (.int k a)) (J:ev E y=some (.int k' b)) (h:b<=a):ACalm P N ⟨dst,.call ⟨.builtin .max,#[x,y],ats⟩,ty,pos,aft,gd⟩ E S (.int k a):=λc w g V=>by
  have I:=run_max_int2 (P:=P) (w:=w) ats ty k k' a b;simp only [execOp,resolve,invoke,builtin,List.map_toArray,List.map_cons,List.map_nil,g.ev U,g.ev J,Sem.run_bind,Sem.run_pure,Result.andThen_ok,I];congr 3;split <;> omega
theorem uQ {x y:tw} {k k':IntKind} {a b:Int} {ats:Array tx} (U:ev E x=some (.int k a)) (J:ev E y=some (.int k' b)) (h:a<=b):ACalm P N ⟨dst,.call ⟨.builtin .max,#[x,y],ats⟩,ty,pos,aft,gd⟩ E S (.int k b):=λc w g V=>by
  have I:=run_max_int2 (P:=P) (w:=w) ats ty k k' a b;simp only [execOp,resolve,invoke,builtin,List.map_toArray,List.map_cons,List.map_nil,g.ev U,g.ev J,Sem.run_bind,Sem.run_pure,Result.andThen_ok,I];congr 3;split <;> omega
theorem vm {os:List Oper} {K:Env->Mem->Prop} {T:tx} {x y:tw} {b o:Nat} {r:Blk} {v:tu} (V:ev E x=some (.pointer (some ⟨b,o,none⟩))) (U:ev E y=some v) (hs:sizeT P T=some 1) (I:v.cells = #[v]) (hb:S.own b=some r) (hl:o<r.cells.length) (J:v.oneCell'=true)
    (h:ARun P N ops os K E (S.set b ⟨r.elem,r.cells.set o v,r.room⟩)):ARun P N ops (⟨none,.store T x y,ty,pos,aft,none⟩ :: os) K E S:=by
  refine ARun.store V U (by rw [I];exact hs) hb (by rw [I];exact hl) (by rw [I];simp [J]) ?_;rw [I];simpa [zsY _ _ _ hl] using h
theorem zet {M I:Mem} {b:Nat} {r:Blk} (h:M.del b=I):(M.set b r).del b=I:=by
  rw [<- h];unfold Mem.set Mem.del;congr 1;funext k;by_cases e:k=b <;> simp [e]
theorem zjH {M J:Mem} {b k:Nat} {r:Blk} (I:k≠b) (h:M.del b=J):(M.set k r).del b=J.set k r:=by
  rw [<- h];unfold Mem.set Mem.del;congr 1;funext j;by_cases e:j=b
  · subst e;simp [Ne.symm I]
  simp [e]
theorem zkW {S:Mem} {b:Nat} (h:Fresh S b):S.del b=S:=znh S b h.1
theorem uL {os:List Oper} {K:Env->Mem->Prop} {T e:tx} {y:Nat} {z:tu} {x1 x2:tw} {b k c:Nat} {xs news:List tu} {a2:Addr} {m c2 d:Nat} (hn:d<N) (hT:slT P T=some (e,1,y,[z]))
    (hx:ev E x1=some (.slice (some ⟨b,0,none⟩) k c)) (hb:S.own b=some ⟨e,xs,c⟩) (ah:xs.length=k)
    (hy:ev E x2=some (.slice (some a2) m c2)) (I:S.rds a2 news) (ai:news.length=m) (h1:∀ v ∈ news,v.oneCell'=true) (U:(k+m)*y<=140737488355328) (V:k+m<=9223372036854775807)
    {Z:Mem} (J:S.del b=Z)
    (h:∀ b' c',Fresh Z b'->k+m<=c'->ARun P N ops os K ((d,.slice (some ⟨b',0,none⟩) (k+m) c') :: E) (Z.set b' ⟨e,xs ++ news,c'⟩)) :
    ARun P N ops (⟨some d,.call ⟨.builtin .append,#[x1,x2],#[T,T]⟩,ty,pos,aft,none⟩ :: os) K E S :=
  uB hn hT rfl hx (by rw [Nat.mul_one];exact hb) vd hy I vd h1 U V (λb' c' h2 h3=>by rw [J] at h2 ⊢;have:=h b' c' h2 h3;rwa [Nat.mul_one])
theorem ue {os:List Oper} {K:Env->Mem->Prop} {T e:tx} {y:Nat} {z:tu} {V Z:tw} {news:List tu} {a2:Addr} {m c2 d:Nat} (hn:d<N) (hT:slT P T=some (e,1,y,[z]))
    (hx:ev E V=some (.slice none 0 0)) (hy:ev E Z=some (.slice (some a2) m c2)) (I:S.rds a2 news) (ae:news.length=m) (hm:0<m) (J:m*y<=140737488355328) (U:m<=9223372036854775807)
    (h:∀ b' c',Fresh S b'->m<=c'->ARun P N ops os K ((d,.slice (some ⟨b',0,none⟩) m c') :: E) (S.set b' ⟨e,news,c'⟩)) :
    ARun P N ops (⟨some d,.call ⟨.builtin .append,#[V,Z],#[T,T]⟩,ty,pos,aft,none⟩ :: os) K E S :=
  uC hn hT rfl hx hy I vd hm J U (λb' c' h2 h3=>by have:=h b' c' h2 h3;rwa [Nat.mul_one])
theorem vF {os:List Oper} {K:Env->Mem->Prop} {T:tx} {x y:tw} {b:Nat} {r:Blk} {cs:List tu} (U:ev E x=some (.pointer (some ⟨b,0,none⟩))) (J:ev E y=some (.agg cs.toArray)) (hs:sizeT P T=some cs.length) (hb:S.own b=some r) (hl:r.cells.length=cs.length) (I:cs.all (·.oneCell')=true)
    (h:ARun P N ops os K E (S.set b ⟨r.elem,cs,r.room⟩)):ARun P N ops (⟨none,.store T x y,ty,pos,aft,none⟩ :: os) K E S:=by
  refine ARun.store U J (by simpa [Value.cells] using hs) hb (by simp [Value.cells,hl]) (by simpa [Value.cells] using I) ?_;have e:spl r.cells 0 (Value.agg cs.toArray).cells.toList=cs:=by
    simp only [Value.cells,spl,List.take_zero,List.nil_append];rw [List.drop_of_length_le (by simp [hl]),List.append_nil]
  rw [e];exact h
theorem vo {os:List Oper} {K:Env->Mem->Prop} {T:tx} {x:tw} {v:tu} {d:Nat} (J:d<N) (U:ev E x=some v) (I:v.cells = #[v])
    (h:∀ b,Fresh S b->ARun P N ops os K ((d,.pointer (some ⟨b,0,none⟩)) :: E) (S.set b ⟨T,[v],1⟩)):ARun P N ops (⟨some d,.box T x,ty,pos,aft,none⟩ :: os) K E S :=
  ARun.box J U λb hb=>by rw [I];exact h b hb
theorem vk {os:List Oper} {K:Env->Mem->Prop} {T e:tx} {y:Nat} {z u:tu} {x:tw} {d:Nat} (V:d<N) (J:slT P T=some (e,1,y,[z])) (U:ev E x=some u) (I:u.cells = #[u])
    (h:∀ b,Fresh S b->ARun P N ops os K ((d,.slice (some ⟨b,0,none⟩) 1 1) :: E) (S.set b ⟨e,[u],1⟩)):ARun P N ops (⟨some d,.buildSlice T 1 #[(0,x)],ty,pos,aft,none⟩ :: os) K E S :=
  vX V J rfl (by decide) (by decide) U (by rw [I];rfl) λb hb=>by rw [I];exact h b hb
theorem vA {os:List Oper} {K:Env->Mem->Prop} {T:tx} {x:tw} {cs:List tu} {d:Nat} (I:d<N) (J:ev E x=some (.agg cs.toArray))
    (h:∀ b,Fresh S b->ARun P N ops os K ((d,.pointer (some ⟨b,0,none⟩)) :: E) (S.set b ⟨T,cs,cs.length⟩)):ARun P N ops (⟨some d,.box T x,ty,pos,aft,none⟩ :: os) K E S :=
  ARun.box I J λb hb=>by
    have:=h b hb;simpa [Value.cells] using this
def Mem.Knows (S:Mem) (a:Addr) (cs:List tu):Prop:=∀ w,View S w -> ∀ j v,cs[j]?=some v->w.cell? (a.add j)=some v
theorem Mem.rds.knows {S:Mem} {a:Addr} {cs:List tu} (h:S.rds a cs):S.Knows a cs:=λw J j v I=>J.rd (h j v I)
theorem Mem.Knows.less {S S':Mem} {a:Addr} {cs:List tu} (h:S'.Knows a cs) (hl:S'.Less S):S.Knows a cs:=λw I=>h w (I.less hl)
theorem uW {T:tx} {x:tw} {a:Addr} {v:tu} (J:plainT P T=true) (Z:ev E x=some (.pointer (some a))) (V:S.Knows a [v]):ACalm P N ⟨dst,.load T x,ty,pos,aft,gd⟩ E S v:=λc w g U=>by
  have I:=V w U 0 v rfl;have e:a.add 0=a:=by simp [Addr.add]
  rw [e] at I;simp [execOp,g.ev Z,Instr.loadAt,Instr.sureAddr,loadVar,zc0 J w,I]
theorem uS {T:tx} {x:tw} {a:Addr} {cs:List tu} (I:aggT P T=true) (hs:sizeT P T=some cs.length) (V:ev E x=some (.pointer (some a))) (J:S.Knows a cs):ACalm P N ⟨dst,.load T x,ty,pos,aft,gd⟩ E S (.agg cs.toArray):=λc w g U=>by
  have hl:=run_loadCells_list (P:=P) w a cs (J w U);simp [execOp,g.ev V,Instr.loadAt,Instr.sureAddr,loadVar,zd3 I w,zaM hs w,hl]
theorem u7 {K:Env->Mem->Prop} {o:Oper} {os:List Oper} {d:Nat} (j:Nat) (t:Bool) (dj:Nat) (Z:o.guard=some (j,t)) (I:(ops[j]?).bind (·.dst)=some dj) (U:dj<N) (hb:lk E dj=some undef) (hd:o.dst=some d) (hn:d<N) (h:ARun P N ops os K ((d,undef) :: E) S):ARun P N ops (o :: os) K E S:=λa w g V=>by
  cases e:ops[j]? with
  | none=>simp [e] at I
  | some og =>
    simp [e] at I;have J:=g.at_ dj _ hb;have h2:a.tmps[dj]?=some undef:=by
      rw [Array.getD_eq_getD_getElem?] at J;have:dj<a.tmps.size:=(by rw [g.size];exact U);rw [Array.getElem?_eq_getElem this] at J ⊢;simpa using J
    have hy:yielded ops a.tmps j=none:=(by simp [yielded,e,I,h2,undef]);rw [if_neg (by simp [Region.wanted,Z,hy])];exact ⟨_,_,h,by rw [hd];exact g.put hn _,Step.refl V⟩
theorem zmg {l:List Oper} {W:List Nat} {S0:Mem} {K:Env->Mem->Prop} {i:Nat} {is:List (Nat × Bool)} {o:Oper} {d:Nat} (j:Nat) (t:Bool) (dj:Nat) (ho:l[i]?=some o) (Z:o.guard=some (j,t)) (I:(l.toArray[j]?).bind (·.dst)=some dj) (U:dj<N) (hb:lk E dj=some undef) (hd:o.dst=some d) (hn:d<N) (hl:S0.Less S)
    (h:DrawRun P N l W S0 is K ((d,undef) :: E) S):DrawRun P N l W S0 ((i,true) :: is) K E S:=by
  cases e:l.toArray[j]? with
  | none=>rw [e] at I;simp at I
  | some og =>
    rw [e] at I;have V:og.dst=some dj:=(by simpa using I);refine ⟨o,d,undef,ho,hd,hn,.inr hl,λa w g hv=>.inr ⟨?_,rfl⟩,h⟩;have J:=g.at_ dj _ hb;have h2:a.tmps[dj]?=some undef:=by
      rw [Array.getD_eq_getD_getElem?] at J;have:dj<a.tmps.size:=(by rw [g.size];exact U);rw [Array.getElem?_eq_getElem this] at J ⊢;simpa using J
    have hy:yielded l.toArray a.tmps j=none:=(by simp only [yielded,e];simp [V,h2,undef]);simp [Region.wanted,Z,hy]
theorem zjI (a b:tt):a.toList=b.toList <-> a=b:=⟨λh=>by rw [ByteArray.toList_eq,ByteArray.toList_eq] at h;cases a;cases b;simpa using h,λh=>by rw [h]⟩
theorem zdl {t:tx} {x y:tw} (a b:Bool) (I:P.underlying t=some .bool):Bin P .neq t x y (.bool a) (.bool b) (.bool (!(a == b))):=λw=>by
  simp only [eqGuard,Sem.run_bind];simp [run_neq_bool w t a b I]
theorem zar {t:tx} {x y:tw} (a b:tt):Bin P .eql t x y (.string a) (.string b) (.bool (decide (a=b))):=λw=>by
  simp [eqGuard,binOp,Op.stringOp];rw [Bool.eq_iff_iff];simp [zjI]
theorem zaT {t:tx} {x y:tw} (a b:tt):Bin P .neq t x y (.string a) (.string b) (.bool (!decide (a=b))):=λw=>by
  simp [eqGuard,binOp,Op.stringOp];rw [Bool.eq_iff_iff];simp [zjI]
end
end Mv
open Go.RowKit
namespace Mv
theorem zah {k:IntKind} {a b:Int} (h:a=b):some (Value.int k a)=some (.int k b):=by rw [h]
theorem zpT {a b:tt} (h:a=b):some (Value.string a)=some (.string b):=by rw [h]
def outV (o:Option (Nat × Nat)) (n:Nat):tu:=match o with
  | none=>.slice none 0 0
  | some (b,c)=>.slice (some ⟨b,0,none⟩) n c
def outM (S:Mem) (o:Option (Nat × Nat)) (e:tx) (cs:List tu):Mem:=match o with
  | none=>S
  | some (b,c)=>S.set b ⟨e,cs,c⟩
structure OkO (S:Mem) (o:Option (Nat × Nat)) (n:Nat):Prop where
  nil:o=none->n=0
  own:∀ b c,o=some (b,c)->Fresh S b/\n<=c
theorem zcb (S:Mem):OkO S none 0:=⟨λ_=>rfl,λb c e=>by cases e⟩
theorem zbg {S:Mem} {o:Option (Nat × Nat)} {n:Nat} {e:tx} {cs:List tu} (h:OkO S o n):S.Less (outM S o e cs):=by
  cases o with
  | none=>exact Mem.Less.refl _
  | some I=>obtain ⟨q,c⟩:=I;exact vi _ _ _ (h.own q c rfl).1.1
theorem zkX {S:Mem} {o:Option (Nat × Nat)} {n:Nat} {e:tx} {cs:List tu} {b:Nat} {r:Blk} (h:OkO S o n) (hb:S.own b=some r):(outM S o e cs).own b=some r:=(zbg h).1 b r hb
theorem zbV {S:Mem} {o:Option (Nat × Nat)} {e:tx} {cs:List tu} {b:Nat} (h:Fresh (outM S o e cs) b):Fresh S b /\ ∀ q c,o=some (q,c)->b≠q:=by
  cases o with
  | none=>exact ⟨h,λq c e=>by cases e⟩
  | some U =>
    obtain ⟨q,c⟩:=U;obtain ⟨J,I⟩:=zaa h;exact ⟨J,λV c' e=>by cases e;exact I⟩
theorem zpU (S:Mem) (b:Nat) (o:Option (Nat × Nat)) (e:tx) (cs:List tu) (r:Blk) (I:∀ q c,o=some (q,c)->b≠q):(outM S o e cs).set b r=outM (S.set b r) o e cs:=by
  cases o with
  | none=>rfl
  | some J=>exact vr _ _ _ (Ne.symm (I _ _ rfl))
theorem zai {S:Mem} {b q:Nat} {r:Blk} (h:Fresh S q) (I:q≠b):Fresh (S.set b r) q:=⟨by rw [vg _ _ I];exact h.1,h.2⟩
theorem OkO.set {S:Mem} {b n:Nat} {o:Option (Nat × Nat)} {r:Blk} (h:OkO S o n) (I:∀ q c,o=some (q,c)->b≠q):OkO (S.set b r) o n :=
  ⟨h.nil,λq c e=>⟨zai (h.own q c e).1 (Ne.symm (I q c e)),(h.own q c e).2⟩⟩
theorem OkO.unset {S:Mem} {b n:Nat} {o:Option (Nat × Nat)} {r:Blk} (h:OkO (S.set b r) o n):OkO S o n :=
  ⟨h.nil,λq c e=>⟨(zaa (h.own q c e).1).1,(h.own q c e).2⟩⟩
structure AppO (M S:Mem) (o:Option (Nat × Nat)) (e:TypeId) (cs:List Value):Prop where
  nil:o=none->cs = []/\S.Less M
  own:∀ b c,o=some (b,c)->M.own b=some ⟨e,cs,c⟩/\S.Less (M.del b)
theorem zc3 {S:Mem} {o:Option (Nat × Nat)} {n t:Nat} {e:tx} {cs:List tu} {r:Blk} (h:OkO S o n) (V:cs.length=n) (ht:Fresh (outM S o e cs) t):AppO ((outM S o e cs).set t r) S o e cs:=by
  obtain ⟨U,Z⟩:=zbV ht;refine ⟨λJ=>?_,λb c J=>?_⟩
  · subst J;exact ⟨List.eq_nil_of_length_eq_zero (by rw [V];exact h.nil rfl),vi _ _ _ U.1⟩
  subst J;have I:=Z b c rfl;refine ⟨(vg _ _ (Ne.symm I)).trans (vf _ _ _),?_⟩;have hb:=(h.own b c rfl).1;rw [show ((outM S (some (b,c)) e cs).set t r).del b=S.set t r from zjH I (zet (zkW hb))];exact vi _ _ _ U.1
section
variable {P:tz} {N:Nat} {ops:Array Oper} {E:Env} {M S:Mem}
variable {ty:tx} {pos:String} {aft:Array Edge}
theorem v_ {o:Oper} {K:Env->Mem->Prop} (h:AOp P N ops o (λV S'=>∃ S0,S0.Less S'/\K V S0) E M):AOp P N ops o K E M:=λa w hg hv=>by
  have I:=h a w hg hv;have next:∀ U J,Post N (λV S'=>∃ S0,S0.Less S'/\K V S0) M w U J->Post N K M w U J:=λU J ⟨E1,S1,⟨S0,hl,k⟩,g,s⟩=>⟨E1,S0,k,g,s.less hl⟩
  split
  · rename_i Z;rw [if_pos Z] at I;exact Oper.wp_mono next I
  rename_i Z;rw [if_neg Z] at I;exact next _ _ I
theorem vJ {os:List Oper} {K:Env->Mem->Prop} {T e:tx} {y:Nat} {z:tu} {x1 x2:tw} {o:Option (Nat × Nat)} {n:Nat} {cs news:List tu} {a2:Addr} {m c2 d:Nat} (hn:d<N) (hT:slT P T=some (e,1,y,[z]))
    (hx:ev E x1=some (outV o n)) (V:cs.length=n) (J:AppO M S o e cs)
    (hy:ev E x2=some (.slice (some a2) m c2)) (I:M.rds a2 news) (aa:news.length=m) (hm:0<m) (h1:∀ v ∈ news,v.oneCell'=true) (U:(n+m)*y<=140737488355328) (ad:n+m<=9223372036854775807)
    (h:∀ b c,OkO S (some (b,c)) (n+m)->ARun P N ops os K ((d,outV (some (b,c)) (n+m)) :: E) (outM S (some (b,c)) e (cs ++ news))) :
    ARun P N ops (⟨some d,.call ⟨.builtin .append,#[x1,x2],#[T,T]⟩,ty,pos,aft,none⟩ :: os) K E M:=by
  cases o with
  | none =>
    obtain ⟨q1,Z⟩:=J.nil rfl;subst q1;simp only [List.length_nil] at V;subst V;refine v_ (K:=λE' S'=>ARun P N ops os K E' S') ?_;refine ue (os:=[]) hn hT hx hy I aa hm (by simpa using U) vd λb c hb hc=>?_;refine ⟨S.set b ⟨e,news,c⟩,Less.set Z _ _,?_⟩;have:=h b c ⟨(λx=>by cases x),λb' c' x=>by cases x;exact ⟨hb.less Z,by omega⟩⟩;simpa [outM,outV] using this
  | some bc =>
    obtain ⟨b0,c0⟩:=bc;obtain ⟨q1,Z⟩:=J.own b0 c0 rfl;refine v_ (K:=λE' S'=>ARun P N ops os K E' S') ?_;refine uL (os:=[]) hn hT hx q1 V hy I aa h1 U ad rfl λb c hb hc=>?_;refine ⟨S.set b ⟨e,cs ++ news,c⟩,Less.set Z _ _,?_⟩;exact h b c ⟨(λx=>by cases x),λb' c' x=>by cases x;exact ⟨hb.less Z,hc⟩⟩
end
end Mv
open Go.RowKit
namespace Mv
theorem ne_ {p:Prop} (h:p:=by (first | assumption | (apply Ne.symm;assumption))):p:=h
theorem rd_ {p:Prop} (h:p:=by (repeat ((with_reducible refine (zim _ _ ?_).trans ?_);(first | assumption | (apply Ne.symm;assumption))));(first | ((with_reducible refine (zfT _ _ _ _).trans ?_);rfl) | ((with_reducible apply zbP);(with_reducible assumption);rfl) | with_reducible assumption)):p:=h
theorem rds_ {p:Prop} (h:p:=by first | with_reducible assumption | ((repeat (apply zkT;((repeat ((with_reducible refine (zim _ _ ?_).trans ?_);(first | assumption | (apply Ne.symm;assumption))));(first | ((with_reducible refine (zfT _ _ _ _).trans ?_);rfl) | ((with_reducible apply zbP);(with_reducible assumption);rfl) | with_reducible assumption))));exact znf _ _)):p:=h
theorem own_ {p:Prop} (h:p:=by (repeat first | ((with_reducible refine (vg _ _ ?_).trans ?_);(first | assumption | (apply Ne.symm;assumption))) | ((with_reducible refine (vv _ ?_).trans ?_);(first | assumption | (apply Ne.symm;assumption))));(first | with_reducible exact vf _ _ _ | with_reducible assumption | exact vf _ _ _)):p:=h
theorem znr {p:Prop} (h:p:=by first | decide | (simp;done) | (simp;omega) | omega):p:=h
theorem zae {p:Prop} (h:p:=by first | with_reducible exact Mem.Less.refl _ | ((with_reducible refine vi _ _ _ (Fresh.own ?_));with_reducible assumption) | (refine zs3 ?_;(repeat first | with_reducible exact LessB.refl _ _ | ((with_reducible refine LessB.set ?_ ?_);((repeat first | ((with_reducible refine (vg _ _ ?_).trans ?_);(first | assumption | (apply Ne.symm;assumption))) | ((with_reducible refine (vv _ ?_).trans ?_);(first | assumption | (apply Ne.symm;assumption))));(first | with_reducible exact vf _ _ _ | with_reducible assumption | exact vf _ _ _))) | (with_reducible refine LessB.delL ?_));(repeat first | with_reducible exact LessB.refl _ _ | ((with_reducible refine LessB.of ?_);with_reducible assumption) | ((with_reducible refine LessB.skip ?_ ?_);(first | ((refine .inl ?_);focus (simp;done)) | ((refine .inr (Fresh.own ?_));with_reducible assumption) | ((refine .inr ?_);with_reducible assumption))) | ((with_reducible refine LessB.skipDel ?_ ?_);(first | ((refine .inl ?_);focus (simp;done)) | ((refine .inr (Fresh.own ?_));with_reducible assumption) | ((refine .inr ?_);with_reducible assumption)))))):p:=h
theorem om_ {p:Prop} (h:p:=by omega):p:=h
section
variable {P:tz} {t:tx} {x y:tw} {vx vy v:tu}
theorem zwB (h:Bin P .shl t x y vx vy v:=by exact zjF vd (by simp only [IntKind.bits];omega)):Bin P .shl t x y vx vy v:=h
end
section
variable {P:tz} {N:Nat} {ops:Array Oper} {E:Env} {S:Mem} {K:Env->Mem->Prop} {os:List Oper}
variable {d:Nat} {op:Op} {ty:tx} {pos:String} {aft:Array Edge} {v:tu} {j:Nat} {t u:Bool}
theorem rC (hc:ACalm P N ⟨some d,op,ty,pos,aft,none⟩ E S v) (h:ARun P N ops os K ((d,v) :: E) S) (I:d<N:=by exact zab rfl):ARun P N ops (⟨some d,op,ty,pos,aft,none⟩ :: os) K E S:=td rfl rfl I hc h
section
variable {l:List Oper} {W:List Nat} {S0:Mem} {K':Env->Mem->Prop} {i:Nat} {is:List (Nat × Bool)} {o:Oper} {d j dj:Nat} {t u:Bool} {w:tu}
theorem dP (J:l[i]?=some o:=by exact rfl) (I:pureOp o=true:=by exact rfl) (V:o.guard=none:=by exact rfl) (hd:o.dst=some d:=by exact rfl) (U:d<N:=by exact zab rfl) (hc:∀ S',ACalm P N o E S' w) (h:DrawRun P N l W S0 is K' ((d,w) :: E) S):DrawRun P N l W S0 ((i,true) :: is) K' E S:=zin J I V hd U hc h
theorem dC (U:l[i]?=some o:=by exact rfl) (Z:pureOp o=false:=by exact rfl) (J:o.guard=none:=by exact rfl) (hd:o.dst=some d:=by exact rfl) (V:d<N:=by exact zab rfl) (hl:S0.Less S:=by exact zae) (hc:ACalm P N o E S0 w) (h:DrawRun P N l W S0 is K' ((d,w) :: E) S):DrawRun P N l W S0 ((i,true) :: is) K' E S :=
  znp U J hd V hl (λS' I=>by rcases I with x | x;(rw [Z] at x;cases x);subst x;exact hc) h
theorem dG (V:l[i]?=some o:=by exact rfl) (U:o.guard=some (j,t):=by exact rfl) (J:(l.toArray[j]?).bind (·.dst)=some dj:=by exact rfl) (I:dj<N:=by exact zab rfl) (hb:lk E dj=some (.bool t):=by exact rfl) (hd:o.dst=some d:=by exact rfl) (Z:d<N:=by exact zab rfl) (hl:S0.Less S:=by exact zae) (hc:∀ S',ACalm P N o E S' w) (h:DrawRun P N l W S0 is K' ((d,w) :: E) S):DrawRun P N l W S0 ((i,true) :: is) K' E S :=
  zgQ j t dj V U J I hb hd Z hl (λS' _=>hc S') h
theorem dL (Z:l[i]?=some o:=by exact rfl) (hp:pureOp o=false:=by exact rfl) (V:o.guard=some (j,t):=by exact rfl) (U:(l.toArray[j]?).bind (·.dst)=some dj:=by exact rfl) (J:dj<N:=by exact zab rfl) (hb:lk E dj=some (.bool t):=by exact rfl) (hd:o.dst=some d:=by exact rfl) (hn:d<N:=by exact zab rfl) (hl:S0.Less S:=by exact zae) (hc:ACalm P N o E S0 w) (h:DrawRun P N l W S0 is K' ((d,w) :: E) S):DrawRun P N l W S0 ((i,true) :: is) K' E S :=
  zgQ j t dj Z V U J hb hd hn hl (λS' I=>by rcases I with x | x;(rw [hp] at x;cases x);subst x;exact hc) h
theorem dS (h:DrawRun P N l W S0 is K' ((d,undef) :: E) S) (Z:l[i]?=some o:=by exact rfl) (V:o.guard=some (j,t):=by exact rfl) (U:(l.toArray[j]?).bind (·.dst)=some dj:=by exact rfl) (J:dj<N:=by exact zab rfl) (hb:lk E dj=some (.bool u):=by exact rfl) (I:(u == t)=false:=by exact rfl) (hd:o.dst=some d:=by exact rfl) (hn:d<N:=by exact zab rfl) (hl:S0.Less S:=by exact zae):DrawRun P N l W S0 ((i,true) :: is) K' E S :=
  zmf j t u dj Z V U J hb I hd hn hl h
theorem dU (h:DrawRun P N l W S0 is K' ((d,undef) :: E) S) (V:l[i]?=some o:=by exact rfl) (U:o.guard=some (j,t):=by exact rfl) (J:(l.toArray[j]?).bind (·.dst)=some dj:=by exact rfl) (I:dj<N:=by exact zab rfl) (hb:lk E dj=some undef:=by exact rfl) (hd:o.dst=some d:=by exact rfl) (Z:d<N:=by exact zab rfl) (hl:S0.Less S:=by exact zae):DrawRun P N l W S0 ((i,true) :: is) K' E S :=
  zmg j t dj V U J I hb hd Z hl h
end
theorem rG (dj:Nat) (hc:ACalm P N ⟨some d,op,ty,pos,aft,some (j,t)⟩ E S v) (h:ARun P N ops os K ((d,v) :: E) S) (hb:lk E dj=some (.bool t):=by exact rfl) (J:(ops[j]?).bind (·.dst)=some dj:=by exact rfl) (I:dj<N:=by exact zab rfl) (U:d<N:=by exact zab rfl):ARun P N ops (⟨some d,op,ty,pos,aft,some (j,t)⟩ :: os) K E S:=uZ j t dj rfl J I hb rfl U hc h
theorem rS (dj:Nat) (h:ARun P N ops os K ((d,undef) :: E) S) (hb:lk E dj=some (.bool u):=by exact rfl) (J:(u == t)=false:=by exact rfl) (U:(ops[j]?).bind (·.dst)=some dj:=by exact rfl) (I:dj<N:=by exact zab rfl) (V:d<N:=by exact zab rfl):ARun P N ops (⟨some d,op,ty,pos,aft,some (j,t)⟩ :: os) K E S:=uV j t u dj rfl U I hb J rfl V h
theorem rU (dj:Nat) (h:ARun P N ops os K ((d,undef) :: E) S) (hb:lk E dj=some undef:=by exact rfl) (J:(ops[j]?).bind (·.dst)=some dj:=by exact rfl) (I:dj<N:=by exact zab rfl) (U:d<N:=by exact zab rfl):ARun P N ops (⟨some d,op,ty,pos,aft,some (j,t)⟩ :: os) K E S:=u7 j t dj rfl J I hb rfl U h
end
end Mv
open Go.RowKit
namespace Mv
theorem Mem.Less.own {S S':Mem} {b:Nat} {r:Blk} (h:S.Less S') (hb:S.own b=some r):S'.own b=some r:=h.1 b r hb
theorem zcA {S:Mem} {b c n:Nat} (h:Fresh S b) (hc:n<=c):OkO S (some (b,c)) n:=⟨λh=>(by cases h),λI J e=>(by cases e;exact ⟨h,hc⟩)⟩
theorem OkO.some {S:Mem} {o:Option (Nat × Nat)} {n:Nat} (h:OkO S o n) (I:0<n):∃ b c,o = .some (b,c):=by
  cases o with
  | none=>have:=h.nil rfl;omega
  | some q=>exact ⟨q.1,q.2,rfl⟩
/-! ### Slices as lists: 'f x' are the cells of an element, n of them -/
def Sl {α : Type} (n:Nat) (f : α->List tu) (S:Mem) (v:tu) (l:List α):Prop :=
  ∃ a cap,v = .slice a l.length cap/\l.length<=cap/\l.length<=9223372036854775807/\(l = [] \/ ∃ b off,a=some ⟨b,off,none⟩ /\ ∀ i (h:i<l.length),S.Knows ⟨b,off+i*n,none⟩ (f l[i]))
theorem Sl.less {α : Type} {n:Nat} {f : α->List tu} {S S':Mem} {v:tu} {l:List α} (h:Sl n f S v l) (hl:S.Less S'):Sl n f S' v l:=by
  obtain ⟨a,cap,V,h2,J,I⟩:=h;refine ⟨a,cap,V,h2,J,?_⟩;rcases I with I | ⟨b,off,U,Z⟩
  · exact .inl I
  exact .inr ⟨b,off,U,λi h=>(Z i h).less hl⟩
theorem Sl.nil {α : Type} (n:Nat) (f : α->List tu) (S:Mem):Sl n f S (.slice none 0 0) []:=⟨none,0,rfl,by simp,by simp,.inl rfl⟩
theorem vq {S:Mem} {b:Nat} {r:Blk} (h:S.own b=some r) (k:Nat) (cs:List tu) (hc:∀ j v,cs[j]?=some v->r.cells[k+j]?=some v):S.Knows ⟨b,k,none⟩ cs:=by
  refine Mem.rds.knows λj v I=>?_;rw [zaz,zeq h];exact hc j v I
theorem zdH {α : Type} {n:Nat} {f : α->List tu} (J:∀ x,(f x).length=n):∀ (l:List α) (i:Nat) (h:i<l.length) (j:Nat) (v:tu),(f l[i])[j]?=some v->(l.flatMap f)[i*n+j]?=some v
  | x :: l,0,h,j,v,hj=>by
    have I:j<(f x).length:=(List.getElem?_eq_some_iff.1 hj).1;simp only [List.getElem_cons_zero] at hj;rw [List.flatMap_cons,Nat.zero_mul,Nat.zero_add,List.getElem?_append_left I];exact hj
  | x :: l,i+1,h,j,v,hj=>by
    have U:=zdH J l i (by simpa using h) j v (by simpa using hj);rw [List.flatMap_cons,List.getElem?_append_right (by rw [J];rw [Nat.succ_mul];omega),J,show (i+1)*n+j-n=i*n+j from by rw [Nat.succ_mul];omega];exact U
theorem Sl.own {α : Type} {n:Nat} {f : α->List tu} {S:Mem} {b:Nat} {r:Blk} {l:List α} {cap len:Nat} (hb:S.own b=some r) (V:∀ x,(f x).length=n) (U:l.flatMap f <+: r.cells) (I:l.length=len) (hc:len<=cap) (hm:len<=9223372036854775807) :
    Sl n f S (.slice (some ⟨b,0,none⟩) len cap) l:=by
  subst I;refine ⟨_,cap,rfl,hc,hm,.inr ⟨b,0,rfl,λi hi=>?_⟩⟩;refine vq hb _ _ λj v J=>?_;have:=zdH V l i hi j v J;rw [Nat.zero_add];exact zce U this
theorem vL {α : Type} {g : α->tu} {S:Mem} {b:Nat} {r:Blk} {l:List α} {cap len:Nat} (hb:S.own b=some r) (J:l.map g <+: r.cells) (I:l.length=len) (hc:len<=cap) (hm:len<=9223372036854775807) :
    Sl 1 (λx=>[g x]) S (.slice (some ⟨b,0,none⟩) len cap) l :=
  Sl.own hb (λ_=>rfl) (by
    have:l.flatMap (λx=>[g x])=l.map g:=by clear J I;induction l with | nil=>rfl | cons x l U=>simp [List.flatMap_cons,U]
    rw [this];exact J) I hc hm
def SlOf {α : Type} (R:Mem->tu -> α->Prop) (S:Mem) (v:tu) (l:List α):Prop :=
  ∃ hs:List tu,hs.length=l.length/\Sl 1 (λx=>[x]) S v hs /\ ∀ i (h:i<l.length) (h':i<hs.length),R S hs[i] l[i]
theorem SlOf.less {α : Type} {R:Mem->tu -> α->Prop} (U:∀ S S' v x,R S v x->S.Less S'->R S' v x) {S S':Mem} {v:tu} {l:List α} (h:SlOf R S v l) (hl:S.Less S'):SlOf R S' v l:=by
  obtain ⟨hs,I,V,J⟩:=h;exact ⟨hs,I,V.less hl,λi h h'=>U _ _ _ _ (J i h h') hl⟩
theorem zns {α : Type} {g : α->tu} {M:Mem} {o:Option (Nat × Nat)} {e:tx} {l:List α} {n:Nat} (h:OkO M o n) (I:l.length=n) (hm:n<=9223372036854775807):Sl 1 (λx=>[g x]) (outM M o e (l.map g)) (outV o n) l:=by
  cases o with
  | none=>have:=h.nil rfl;subst this;obtain rfl:l = []:=List.eq_nil_of_length_eq_zero I;exact Sl.nil _ _ _
  | some q=>exact vL (r:=⟨e,l.map g,q.2⟩) (vf _ _ _) List.prefix_rfl I (h.own _ _ rfl).2 hm
/-! ### Closers for what is known so -/
theorem kn_ {p:Prop} (h:p:=by first | assumption | ((refine Mem.Knows.less (by assumption) ?_);exact zae)):p:=h
section
variable {P:tz} {N:Nat} {E:Env} {S:Mem} {dst:Option Nat} {T ty:tx} {pos:String} {aft:Array Edge} {gd:Option (Nat × Bool)} {x:tw} {a:Addr} {v:tu}
theorem ld_ (I:plainT P T=true) (J:ev E x=some (.pointer (some a))) (h:(S.rd a=some v\/S.Knows a [v]):=by first | exact .inl rd_ | exact .inr kn_):ACalm P N ⟨dst,.load T x,ty,pos,aft,gd⟩ E S v :=
  h.elim (λh=>Calm.load I J h) (λh=>uW I J h)
theorem ldA_ {cs:List tu} (I:aggT P T=true) (hs:sizeT P T=some cs.length) (J:ev E x=some (.pointer (some a))) (h:(S.rds a cs\/S.Knows a cs):=by first | exact .inl rds_ | exact .inr kn_):ACalm P N ⟨dst,.load T x,ty,pos,aft,gd⟩ E S (.agg cs.toArray) :=
  h.elim (λh=>u5 I hs J h) (λh=>uS I hs J h)
end

/-! ### What is built -/
def bldF (f:Nat->Option (Nat × Nat)):List tu->List (Nat × tu)->Option (List tu)
  | cs,[]=>some cs
  | cs,(i,v) :: rest=>match f i with
    | some (off,n)=>if v.cells.size=n/\off+n<=cs.length then bldF f (spl cs off v.cells.toList) rest else none
    | none=>none
theorem zir (f:Nat->Option (Nat × Nat)):∀ (I:List (Nat × tu)) (cells:Array tu) (cs:List tu),bldF f cells.toList I=some cs->Instr.fill f cells I=some cs.toArray:=by
  intro I
  induction I with
  | nil=>intro cells cs h;simp [bldF] at h;subst h;simp [Instr.fill]
  | cons p J ih =>
    obtain ⟨i,v⟩:=p;intro cells cs h;simp only [bldF] at h;cases e:f i with
    | none=>simp [e] at h
    | some on =>
      obtain ⟨off,n⟩:=on;simp only [e] at h;split at h
      · rename_i hc;obtain ⟨U,h2⟩:=hc;have Z:off+v.cells.size<=cells.size:=(by rw [U];simpa using h2);simp only [Instr.fill,e];have hn:(v.cells.size≠n || decide (off+v.cells.size > cells.size))=false:=(by simp [U];omega);simp only [hn,Bool.false_eq_true,if_false];have V:=zio off v.cells.toList 0 cells (by simp;omega);rw [Nat.add_zero] at V;have e2:Array.foldl (λ(bs:Array tu) (p:tu × Nat)=>bs.setIfInBounds (off+p.2) p.1) cells v.cells.zipIdx=(spl cells.toList off v.cells.toList).toArray:=by
          apply Array.ext';rw [<- Array.foldl_toList,Array.toList_zipIdx,V]
        refine (congrArg (λx=>Instr.fill f x J) e2).trans ?_;exact ih _ _ (by simpa using h)
      cases h
def zrep (z:List tu) (n:Nat):List tu:=(List.range n).map λj=>z[j % z.length]!
def arrT (P:tz) (T:tx):Option (Nat × List tu):=match P.underlying T with
  | some (.array _ e)=>match P.info? e,(P.info? T).bind (·.zero) with
    | some i,some z=>some (i.size,z.cells.toList)
    | _,_=>none
  | _=>none
section
variable {P:tz} {N:Nat} {ops:Array Oper} {E:Env} {S:Mem} {K:Env->Mem->Prop}
variable {dst:Option Nat} {ty:tx} {pos:String} {aft:Array Edge} {gd:Option (Nat × Bool)}
theorem zkY {c:Act} (g:Good N E c) {I:List (Nat × tw)} {vs:List tu} (J:evs E (I.map (·.2))=some vs):(I.toArray.map λ(p:Nat × tw)=>(p.1,c.eval p.2)).toList=(I.map (·.1)).zip vs:=by
  rw [<- g.evs J];simp only [List.map_toArray,List.map_map];exact ziq c.eval I
theorem uk {T:tx} {n:Nat} {z:List tu} {I:List (Nat × tw)} {vs cs:List tu} (J:arrT P T=some (n,z)) (Z:evs E (I.map (·.2))=some vs) (hb:bldF (λi=>some (i*n,n)) z ((I.map (·.1)).zip vs)=some cs) :
    ACalm P N ⟨dst,.build T I.toArray,ty,pos,aft,gd⟩ E S (.agg cs.toArray):=λc w g hv=>by
  unfold arrT at J;cases e:P.underlying T with
  | none=>simp [e] at J
  | some d =>
    cases d <;> simp [e] at J;rename_i len el;cases e1:P.info? el with
    | none=>simp [e1] at J
    | some i =>
      cases e2:(P.info? T).bind (·.zero) with
      | none=>simp [e1,e2] at J
      | some V =>
        simp [e1,e2] at J;obtain ⟨rfl,rfl⟩:=J;have hz:(zeroValue T).run P w = .ok V w:=by
          cases e3:P.info? T with
          | none=>simp [e3] at e2
          | some i=>simp [e3] at e2;simp [zeroValue,typeInfo,e3,e2]
        have U:=zir (λk=>some (k*i.size,i.size)) _ V.cells cs hb;simp only [execOp,Instr.build];simp only [Sem.run_bind,hz,Result.andThen_ok,run_underlying e w,zaM (show sizeT P el=some i.size by simp [sizeT,e1]) w];rw [zkY g Z,U];rfl
theorem vD {os:List Oper} {T e:tx} {n y len:Nat} {z:List tu} {I:List (Nat × tw)} {vs cs:List tu} {d:Nat} (hn:d<N) (hT:slT P T=some (e,n,y,z)) (hp:(0<len*n && len*n<=16777216)=true) (hx:evs E (I.map (·.2))=some vs)
    (hb:bldF (λi=>some (i*n,n)) (zrep z (len*n)) ((I.map (·.1)).zip vs)=some cs) (ad:cs.length=len*n)
    (h:∀ b,Fresh S b->ARun P N ops os K ((d,.slice (some ⟨b,0,none⟩) len len) :: E) (S.set b ⟨e,cs,len*n⟩)):ARun P N ops (⟨some d,.buildSlice T len I.toArray,ty,pos,aft,none⟩ :: os) K E S:=λa w g hv=>by
  rw [if_pos (by simp [Region.wanted])];obtain ⟨ac,i,v,e1,e2,rfl,rfl,rfl⟩:=zaP hT;simp only [Bool.and_eq_true,decide_eq_true_eq] at hp;have V:(zeroValue e).run P w = .ok v w:=by simp [zeroValue,typeInfo,e1,e2]
  have Z : ¬ (len*i.size=0):=by omega
  have ae : ¬ (len*i.size > 2 ^ 24):=by omega
  have aa:((Array.range (len*i.size)).map (v.cells[· % v.cells.size]!)).toList=zrep v.cells.toList (len*i.size):=by
    simp only [zrep,Array.toList_map,Array.toList_range];refine List.map_congr_left λj _=>?_;simp only [Array.length_toList];rw [getElem!_def,getElem!_def,Array.getElem?_toList]
  have J:=zir (λk=>some (k*i.size,i.size)) ((I.map (·.1)).zip vs) ((Array.range (len*i.size)).map (v.cells[· % v.cells.size]!)) cs (by rw [aa];exact hb);have U:(execOp a.eval ⟨some d,.buildSlice T len I.toArray,ty,pos,aft,none⟩).run P w = .ok (.value (.slice (some ⟨w.heap.size,0,none⟩) len len)) (w.alloc (.cells cs.toArray e)):=by
    simp only [execOp,Instr.buildSlice];simp only [Sem.run_bind,run_underlying ac w,Result.andThen_ok,zaM (show sizeT P e=some i.size by simp [sizeT,e1]) w,ae,Z,if_false,V,Sem.run_pure];rw [zkY g hx,J];simp [newRow]
  unfold Oper.wp;rw [U];refine ⟨_,_,h _ hv.freshAt,g.put hn _,?_⟩;exact vG hv e cs.toArray cs _ (by simp) (by simp [ad])
theorem zis (z:List tu) {m n:Nat} (h:m<=n):madeL z m <+: madeL z n:=by
  have e:madeL z m=(madeL z n).take m:=by
    apply List.ext_getElem
    · simp [zbf];omega
    intro i I J;rw [zbf] at I;simp only [List.getElem_take];simp [madeL,madeCells]
  rw [e];exact List.take_prefix _ _
theorem vY {os:List Oper} {T e:tx} {n y:Nat} {z:List tu} {U V:tw} {k1 k2:IntKind} {l c:Int} {d:Nat} (hn:d<N) (hT:slT P T=some (e,n,y,z)) (hx:ev E U=some (.int k1 l)) (hy:ev E V=some (.int k2 c))
    (h0:0<=l) (I:l<=c) (hb:(y:Int)*c<=281474976710656) (J:c<=9223372036854775807)
    (h:∀ b,Fresh S b->ARun P N ops os K ((d,.slice (some ⟨b,0,none⟩) l.toNat c.toNat) :: E) (S.set b ⟨e,madeL z (l.toNat*n),c.toNat*n⟩)):ARun P N ops (⟨some d,.makeSlice T U V,ty,pos,aft,none⟩ :: os) K E S:=λa w g Z=>by
  rw [if_pos (by simp [Region.wanted])];obtain ⟨hu,i,v,e1,e2,rfl,rfl,rfl⟩:=zaP hT;unfold Oper.wp;have:(execOp a.eval ⟨some d,.makeSlice T U V,ty,pos,aft,none⟩).run P w = .ok (.value (.slice (some ⟨w.heap.size,0,none⟩) l.toNat c.toNat)) (w.alloc (.cells (madeCells v.cells (c.toNat*i.size)) e)):=by
    simp only [execOp,g.ev hx,g.ev hy];rw [Sem.run_bind,run_make (P:=P) w T e i v hu e1 e2 k1 k2 l c h0 I hb J];rfl
  rw [this];refine ⟨_,_,h _ Z.freshAt,g.put hn _,?_⟩;refine vG Z e _ _ _ ?_ (by simp [size_madeCells]);have hm:l.toNat*i.size<=c.toNat*i.size:=Nat.mul_le_mul_right _ vd;have:=zis v.cells.toList hm;unfold madeL at this ⊢;simpa using this
theorem uH {T e:tx} {x:tw} {hi:Option tw} {b o len n h:Nat} (Z:P.underlying T=some (.array len e)) (he:sizeT P e=some n) (hx:ev E x=some (.pointer (some ⟨b,o,none⟩))) (hh:bnd E hi len len h) :
    ACalm P N ⟨dst,.slice T x none hi none,ty,pos,aft,gd⟩ E S (.slice (some ⟨b,o,none⟩) h len):=λc w g hv=>by
  have e1:(Instr.sliceBounds false len len none (hi.map c.eval) none).run P w = .ok (0,h,len) w:=by
    unfold Instr.sliceBounds;cases hi with
    | none=>have I:h=len:=hh;subst I;simp
    | some i'=>obtain ⟨k',j',J,V,U,rfl⟩:=hh;simp [g.ev J,zbN _ _ rfl V U w]
  simp only [execOp,g.ev hx,Instr.sliceAt,Sem.run_bind,run_underlying Z w,Instr.sureAddr,e1,Option.map_none,Result.andThen_ok,zaM he w,Sem.run_pure,Nat.zero_mul,Nat.sub_zero];split <;> rfl
theorem Calm.makeFunc {fn:Fn} {first I:List tw} {vs us:List tu} (J:evs E first=some vs) (U:evs E I=some us):ACalm P N ⟨dst,.makeFunc fn first.toArray I.toArray,ty,pos,aft,gd⟩ E S (.func fn vs.toArray us.toArray):=λc w g V=>by
  simp [execOp,Instr.makeFunc,g.evs J,g.evs U]
theorem vn {os:List Oper} {f:tA} {x:tw} {xs:List tw} {ats:Array tx} {vs first cap:List tu} {d:Nat} {R:tu->Mem->Prop} (hn:d<N) (V:goFn P f=true) (J:ev E x=some (.func (.func f) first.toArray cap.toArray)) (hx:evs E xs=some vs) (hc:ACall P f (first ++ vs ++ cap).toArray S R)
    (h:∀ v S',R v S'->ARun P N ops os K ((d,v) :: E) S'):ARun P N ops (⟨some d,.call ⟨.value x,xs.toArray,ats⟩,ty,pos,aft,none⟩ :: os) K E S:=λa w g Z=>by
  rw [if_pos (by simp [Region.wanted])];unfold Oper.wp;have I:(execOp a.eval ⟨some d,.call ⟨.value x,xs.toArray,ats⟩,ty,pos,aft,none⟩).run P w=(callFunc f (first ++ vs ++ cap).toArray).run P w:=by
    simp only [execOp,resolve,Deferred.ofValue,g.ev J,Sem.run_bind,Sem.run_pure,Result.andThen_ok,invoke];congr 2;rw [<- g.evs hx];simp
  rw [I,zbe V];simp only [Oper.upon];refine (hc w Z).mono λe w' ⟨v,S',I,U,s⟩=>?_;subst I;exact ⟨_,_,h v S' U,g.put hn v,s⟩

theorem vR {T:tx} {x i:tw} {s:tt} {k:IntKind} {j:Nat} (I:P.underlying T=some .string) (J:ev E x=some (.string s)) (hi:ev E i=some (.int k (j:Int))) (U:j<s.size) :
    ACalm P N ⟨dst,.index T x i,ty,pos,aft,gd⟩ E S (.int .u8 (nb (at8 s.data.toList j))):=by
  have:=vM (S:=S) (N:=N) (dst:=dst) (ty:=ty) (pos:=pos) (aft:=aft) (gd:=gd) I J hi vd vd;simpa using this
theorem Calm.as {o:Oper} {v v':tu} (e:v=v') (h:ACalm P N o E S v):ACalm P N o E S v':=e ▸ h
theorem zgR {b:Nat} {r:Blk} {cs:List tu} (h:S.own b=some r) (hc:cs <+: r.cells):S.rds ⟨b,0,none⟩ cs:=λj v I=>by
  rw [zaz,zeq h,Nat.zero_add];exact zce hc I
theorem rUn {os:List Oper} {d:Option Nat} {op:Op} {j:Nat} {t:Bool} (dj:Nat) (h:ARun P N ops (⟨d,op,ty,pos,aft,none⟩ :: os) K E S) (hb:lk E dj=some (.bool t):=by exact rfl) (I:(ops[j]?).bind (·.dst)=some dj:=by exact rfl) (J:dj<N:=by exact zab rfl) :
    ARun P N ops (⟨d,op,ty,pos,aft,some (j,t)⟩ :: os) K E S:=λa w g V=>by
  cases e:ops[j]? with
  | none=>simp [e] at I
  | some Z =>
    simp [e] at I;have U:=h a w g V;rw [if_pos (by simp [Region.wanted])] at U;rw [if_pos (by simp [Region.wanted,zcf g e I J hb])];exact U
/-! ### Texts -/
theorem zdI (a:tt):a.toList=a.data.toList:=by rw [ByteArray.toList_eq]
theorem zbh {t:tx} {x y:tw} {a b:tt} (h:a.size+b.size<=9223372036854775807):Bin P .add t x y (.string a) (.string b) (.string (a ++ b)):=λw=>by
  have : ¬ (((a.size+b.size:Nat):Int) > IntKind.i64.max):=by
    have e:IntKind.i64.max=9223372036854775807:=rfl;rw [e];omega
  simp only [eqGuard,binOp,Op.stringOp,if_neg this];simp
theorem zc4 {t:tx} {x y:tw} (a b:tt):Bin P .lss t x y (.string a) (.string b) (.bool (Op.bytesLess a.data.toList b.data.toList)):=λw=>by
  simp [eqGuard,binOp,Op.stringOp,zdI]
theorem znt (a b:tt):(a.data.toList == b.data.toList)=decide (a=b):=by
  rw [Bool.eq_iff_iff];simp [<- zdI,zjI]
theorem zcm {t:tx} {x y:tw} (a b:tt):Bin P .leq t x y (.string a) (.string b) (.bool (Op.bytesLess a.data.toList b.data.toList || decide (a=b))):=λw=>by
  simp only [eqGuard,binOp,Op.stringOp,zdI,znt];simp
theorem zd4 {t:tx} {x y:tw} (a b:tt):Bin P .gtr t x y (.string a) (.string b) (.bool (!(Op.bytesLess a.data.toList b.data.toList || decide (a=b)))):=λw=>by
  simp only [eqGuard,binOp,Op.stringOp,zdI,znt];simp
theorem size_append (a b:tt):(a ++ b).size=a.size+b.size:=by simp
theorem za2 (l:List UInt8):(bs l).size=l.length:=bs_size l
theorem za5 (a:tt):a.data.toList.length=a.size:=Array.length_toList
theorem zbQ {a b:tt} (h:a.data.toList=b.data.toList):a=b:=by cases a;cases b;simpa using h
end
end Mv
open Go.RowKit
namespace Mv
def roM (w:tv):Mem:=⟨λ_=>none,⟨λa=>w.cell? a,λ_=>none⟩⟩
theorem zpV (w:tv):View (roM w) w:=⟨λ_ _ h=>(by cases h),λ_ _ h=>⟨h,rfl⟩,λ_ _ h=>(by cases h)⟩
theorem ACall.callsW {P:tz} {f:tA} {args:Array tu} {v:tu} {w:tv} (h:ACall P f args (roM w) λv' S'=>v'=v):Calls P f args w λe w'=>e = .returned v/\Below w.heap.size w w' :=
  (h w (zpV w)).mono λ_ _ ⟨v',S',I,J,s⟩=>⟨by rw [I,J],s.toBelow λ_=>rfl⟩
theorem zit {w:tv} {a:Addr} {cs:List tu} (h:∀ j v,cs[j]?=some v->w.cell? (a.add j)=some v):(roM w).Knows a cs:=λw' J j v I=>(J.ro _ _ (h j v I)).1
section
variable {H:Type} {enc:tx × tu->H} {P:tz} {W:tv} {base:Nat} {held:Bool}
end
end Mv
open Go.RowKit
namespace Mv
theorem zch (l:List Int) (j:Nat) (x:Int):(l.map λx=>Value.int .i64 x).set j (.int .i64 x)=(l.set j x).map λx=>Value.int .i64 x:=by rw [List.map_set]
def i64s (x:Int):List tu:=[.int .i64 x]
theorem znu {S:Mem} {b:Nat} {r:Blk} {v:tu} (h:S.own b=some r) (j:Nat) (I:r.cells[j]?=some v):S.Knows ⟨b,0+j*1,none⟩ [v] :=
  vq h _ _ λi u hi=>by
    cases i with
    | zero=>simp at hi;subst hi;simpa using I
    | succ i=>simp at hi
theorem ziu {S:Mem} {b:Nat} {e:tx} {room:Nat} {l:List Int} (h:S.own b=some ⟨e,l.map (λx=>Value.int .i64 x),room⟩) (j:Nat) {x:Int} (I:l[j]?=some x):S.Knows ⟨b,0+j*1,none⟩ [.int .i64 x] :=
  znu h j (by simp [I])
theorem Sl.at1 {α : Type} {n:Nat} {f : α->List tu} {S:Mem} {b off:Nat} {len cap:Nat} {l:List α} (h:Sl n f S (.slice (some ⟨b,off,none⟩) len cap) l) (i:Nat) (hi:i<l.length):S.Knows ⟨b,off+i*n,none⟩ (f l[i]):=by
  obtain ⟨a,c,e1,_,_,e4⟩:=h;rcases e4 with e4 | ⟨b',I,e5,e6⟩
  · subst e4;cases hi
  subst e5;simp only [Value.slice.injEq,Option.some.injEq,Addr.mk.injEq] at e1;obtain ⟨⟨rfl,rfl,_⟩,_⟩:=e1;exact e6 i hi
section
variable {P:tz} {N:Nat} {ops:Array Oper} {E:Env} {S:Mem} {K:Env->Mem->Prop}
variable {ty:tx} {pos:String} {aft:Array Edge}
theorem zjJ {t e:tx} {x y:tw} {a:Option Addr} {n c:Nat} (h:P.underlying t=some (.slice e)):Bin P .eql t x y (.slice a n c) (.slice none 0 0) (.bool a.isNone):=λw=>by
  have:=_root_.Go.run_eql_slice_nil (P:=P) w t e a n c h;simpa [eqGuard] using this
theorem zjK {t e:tx} {x y:tw} {a:Option Addr} {n c:Nat} (h:P.underlying t=some (.slice e)):Bin P .neq t x y (.slice a n c) (.slice none 0 0) (.bool (!a.isNone)):=λw=>by
  have:=_root_.Go.run_neq_slice_nil (P:=P) w t e a n c h;simpa [eqGuard] using this
theorem uv {os:List Oper} {T e:tx} {n y:Nat} {z:List tu} {d:Nat} (hn:d<N) (Z:slT P T=some (e,n,y,z))
    (h:∀ b,Fresh S b->ARun P N ops os K ((d,.slice (some ⟨b,0,none⟩) 0 0) :: E) (S.set b ⟨e,[],0⟩)):ARun P N ops (⟨some d,.buildSlice T 0 #[],ty,pos,aft,none⟩ :: os) K E S:=λa w g V=>by
  rw [if_pos (by simp [Region.wanted])];obtain ⟨J,i,v,e1,e2,rfl,rfl,rfl⟩:=zaP Z;have I:(execOp a.eval ⟨some d,.buildSlice T 0 #[],ty,pos,aft,none⟩).run P w = .ok (.value (.slice (some ⟨w.heap.size,0,none⟩) 0 0)) (w.alloc (.cells #[] e)):=by
    have U : ¬ (0 > 2 ^ 24):=(by decide);simp only [execOp,Instr.buildSlice];simp only [Sem.run_bind,run_underlying J w,Result.andThen_ok,zaM (show sizeT P e=some i.size by simp [sizeT,e1]) w,Nat.zero_mul,U,if_false,if_true,Sem.run_pure];simp [Instr.fill,newRow];congr 2;apply Array.ext';simp
  unfold Oper.wp;rw [I];exact ⟨_,_,h _ V.freshAt,g.put hn _,vG V e #[] [] 0 (by simp) (by simp)⟩
end
theorem ACall.frame {P:tz} {f:tA} {args:Array tu} {S:Mem} {R:tu->Mem->Prop} (h:ACall P f args S R) {b:Nat} {r:Blk} (V:Fresh S b) :
    ACall P f args (S.set b r) λv ac=>∃ S',R v S'/\Fresh S' b/\ac=S'.set b r:=λw hv=>by
  have hb:b<w.heap.size:=hv.lt (vf S b r);refine (h w (hv.less (vi S b r V.1))).mono λe w' ⟨v,S',he,hR,st⟩=>?_;have hn:S'.own b=none:=by
    cases e0:S'.own b with
    | none=>rfl
    | some r0 =>
      rcases st.dom b (by rw [e0];simp) with x | x
      · exact absurd V.1 x
      omega
  have J:Fresh S' b:=⟨hn,λa v U=>by
    rcases st.ro a v U with x | x | x
    · exact V.2 a v x
    · intro e;rw [e] at x;exact x V.1
    omega⟩
  refine ⟨v,S'.set b r,he,⟨S',hR,J,rfl⟩,⟨⟨λk r' hk=>?_,λa u U=>?_,λg l hg=>let ⟨h1,⟨v,Z⟩,h3⟩:=st.view.fz g l hg;⟨by rw [vg _ _ (J.2 _ v Z)];exact h1,⟨v,Z⟩,h3⟩⟩,st.os,st.tape,st.output,st.size,λk hk I=>?_,λk hk=>?_,λa v U=>by
    rcases st.ro a v U with x | x | x
    · exact .inl x
    · refine .inr (.inl ?_);by_cases e:a.block=b
      · rw [e,vf];simp
      rw [vg _ _ e];exact x
    exact .inr (.inr x)⟩⟩
  · by_cases e:k=b
    · subst e;rw [st.block k hb V.1];exact hv.own k r' (by rw [vf] at hk ⊢;exact hk)
    rw [vg _ _ e] at hk;exact st.view.own k r' hk
  · obtain ⟨h1,h2⟩:=st.view.ro a u U;refine ⟨h1,?_⟩;rw [vg _ _ (J.2 a u U)];exact h2
  · by_cases e:k=b
    · subst e;rw [vf] at I;cases I
    rw [vg _ _ e] at I;exact st.block k hk I
  by_cases e:k=b
  · subst e;left;rw [vf];simp
  rw [vg _ _ e] at hk ⊢;exact st.dom k hk
theorem named {P:tz} {N:Nat} {c:Code} {Q:Exit->Env->Mem->Prop} {E:Env} {S:Mem} {b:Nat} {r:Blk} (hb:S.own b=none) (h:∀ T,S.Less T->T.own b=some r->AWP P N c Q E T):AWP P N c Q E (S.set b r) :=
  h _ (vi S b r hb) (vf S b r)
end Mv
open Go.RowKit
namespace Mv
end Mv
open Go.RowKit
namespace Mv
section
variable {H:Type} {P:tz}
variable {enc:tx × tu->H} {W:tv} {base:Nat} {held:Bool}
end
end Mv
open Go.RowKit
namespace Mv
variable {P:tz} {t e:tx} {α β : Type}
section
variable {H:Type} {enc:tx × tu->H} {W:tv} {base:Nat} {held:Bool} {r:Reach} {d:DataW H} {ps:List MemPlace}
end
end Mv
open Go.RowKit
namespace Mv
/-! ### What walks by itself (printed by step-gen.py) -/
structure Cl (P:Program) (N:Nat) (o:Oper) (E:Env) (S:Mem) (v:Value):Prop where
  h:ACalm P N o E S v
structure Kp (q:Prop):Prop where
  k:q
def nthL:List tu->Nat->Option tu
  | [],_=>none
  | a :: _,0=>some a
  | _ :: l,n+1=>nthL l n
theorem zpW (l:List tu) (i:Nat):l.toArray[i]?=nthL l i:=by
  rw [List.getElem?_toArray]
  induction l generalizing i with
  | nil=>rfl
  | cons a l I=>cases i with
    | zero=>rfl
    | succ i=>exact I i
class TPlain (P:Program) (t:TypeId):Prop where
  h:plainT P t=true
class TAgg (P:Program) (t:TypeId):Prop where
  h:aggT P t=true
class TSize (P:Program) (t:TypeId) (n:outParam Nat):Prop where
  h:sizeT P t=some n
class TField (P:Program) (t:TypeId) (f:Nat) (off n:outParam Nat):Prop where
  h:fieldT P t f=some (off,n+1)
class TStr (P:Program) (t:TypeId):Prop where
  h:strT P t=true
class TBytes (P:Program) (t:TypeId) (e:outParam TypeId):Prop where
  h:bytesT P t=some e
class TBld (P:Program) (t:TypeId) (r:outParam (List (Nat × Nat) × List Value)):Prop where
  h:bldT P t=some r
class TUnd (P:Program) (t:TypeId) (d:outParam TypeDesc):Prop where
  h:P.underlying t=some d
class TGo (P:Program) (f:FuncId):Prop where
  h:goFn P f=true
class TMix (P:Program):Prop where
  h:P.follows .mixedOrders=true
section
variable {P:tz} {N:Nat} {E:Env} {S:Mem} {dst:Option Nat} {T ty:tx} {pos:String} {aft:Array Edge} {gd:Option (Nat × Bool)}
variable {x y i:tw} {v vx vy:tu}
theorem zu3 (I:ev E x=some v):Cl P N ⟨dst,.move x,ty,pos,aft,gd⟩ E S v:=⟨Calm.move I⟩
theorem zpX (I:ev E x=some v):Cl P N ⟨dst,.assign x,ty,pos,aft,gd⟩ E S v:=⟨Calm.assign I⟩
theorem zs4 {c:tw} (hc:ev E c=some (.bool true)) (I:ev E x=some v):Cl P N ⟨dst,.pick c x y,ty,pos,aft,gd⟩ E S v:=⟨u4 hc I⟩
theorem zs5 {c:tw} (hc:ev E c=some (.bool false)) (I:ev E y=some v):Cl P N ⟨dst,.pick c x y,ty,pos,aft,gd⟩ E S v:=⟨uX hc I⟩
theorem zwC {op:BinOp} {I U:tx} (V:ev E x=some vx) (J:ev E y=some vy) (h:Bin P op I x y vx vy v):Cl P N ⟨dst,.binOp op I x y U,ty,pos,aft,gd⟩ E S v:=⟨vh V J h⟩
theorem c_un {op:UnOp} {I:tx} (J:ev E x=some vx) (h:Una P op vx v):Cl P N ⟨dst,.unOp op I x,ty,pos,aft,gd⟩ E S v:=⟨Calm.un J h⟩
theorem zu4 {s t:tx} (I:ev E x=some vx) (h:Conv P s t vx v):Cl P N ⟨dst,.convert s t x,ty,pos,aft,gd⟩ E S v:=⟨Calm.conv I h⟩
theorem znv {i:Nat} {l:List tu} (I:ev E x=some (.tuple l.toArray)) (h:nthL l i=some v):Cl P N ⟨dst,.extract x i,ty,pos,aft,gd⟩ E S v:=⟨Calm.extract I ((zpW l i).trans h)⟩
theorem zmh {a:Addr} (I:ev E x=some (.pointer (some a))):Cl P N ⟨dst,.nilCheck x,ty,pos,aft,gd⟩ E S (.pointer (some a)):=⟨Calm.nilCheck I⟩
theorem zu5 {a:Addr} (I:plainT P T=true) (J:ev E x=some (.pointer (some a))) (h:(S.rd a=some v\/S.Knows a [v])):Cl P N ⟨dst,.load T x,ty,pos,aft,gd⟩ E S v:=⟨ld_ I J h⟩
theorem zu6 {a:Addr} {J I:tu} (U:aggT P T=true) (hs:sizeT P T=some 2) (V:ev E x=some (.pointer (some a))) (h:(S.rds a [J,I]\/S.Knows a [J,I])):Cl P N ⟨dst,.load T x,ty,pos,aft,gd⟩ E S (.agg [J,I].toArray):=⟨ldA_ U hs V h⟩
theorem zu7 {a:Addr} {J I U:tu} (V:aggT P T=true) (hs:sizeT P T=some 3) (Z:ev E x=some (.pointer (some a))) (h:(S.rds a [J,I,U]\/S.Knows a [J,I,U])):Cl P N ⟨dst,.load T x,ty,pos,aft,gd⟩ E S (.agg [J,I,U].toArray):=⟨ldA_ V hs Z h⟩
theorem zu8 {a:Addr} {V U Z J I:tu} (hT:aggT P T=true) (hs:sizeT P T=some 5) (hx:ev E x=some (.pointer (some a))) (h:(S.rds a [V,U,Z,J,I]\/S.Knows a [V,U,Z,J,I])):Cl P N ⟨dst,.load T x,ty,pos,aft,gd⟩ E S (.agg [V,U,Z,J,I].toArray):=⟨ldA_ hT hs hx h⟩
theorem zu9 {a:Addr} {a0 Z a2 V I U J:tu} (hT:aggT P T=true) (hs:sizeT P T=some 7) (hx:ev E x=some (.pointer (some a))) (h:(S.rds a [a0,Z,a2,V,I,U,J]\/S.Knows a [a0,Z,a2,V,I,U,J])):Cl P N ⟨dst,.load T x,ty,pos,aft,gd⟩ E S (.agg [a0,Z,a2,V,I,U,J].toArray):=⟨ldA_ hT hs hx h⟩
theorem zs6 {f b o off n:Nat} (I:fieldT P T f=some (off,n+1)) (J:ev E x=some (.pointer (some ⟨b,o,none⟩))):Cl P N ⟨dst,.fieldAddr T x f,ty,pos,aft,gd⟩ E S (.pointer (some ⟨b,o+off,none⟩)):=⟨Calm.fieldAddr I J⟩
theorem zpY {e:tx} {b o len cap n:Nat} {k:IntKind} {j:Int} (I:P.underlying T=some (.slice e)) (U:sizeT P e=some n) (V:ev E x=some (.slice (some ⟨b,o,none⟩) len cap)) (hi:ev E i=some (.int k j)) (Z:0<=j) (J:j<len):Cl P N ⟨dst,.indexAddr T x i,ty,pos,aft,gd⟩ E S (.pointer (some ⟨b,o+j.toNat*n,none⟩)):=⟨vP I U V hi Z J⟩
theorem zpZ {e:tx} {b o len n:Nat} {k:IntKind} {j:Int} (I:P.underlying T=some (.array len e)) (U:sizeT P e=some n) (V:ev E x=some (.pointer (some ⟨b,o,none⟩))) (hi:ev E i=some (.int k j)) (Z:0<=j) (J:j<len):Cl P N ⟨dst,.indexAddr T x i,ty,pos,aft,gd⟩ E S (.pointer (some ⟨b,o+j.toNat*n,none⟩)):=⟨uU I U V hi Z J⟩
theorem zjL {s:tt} {k:IntKind} {j:Nat} (I:strT P T=true) (U:ev E x=some (.string s)) (hi:ev E i=some (.int k (j:Int))) (J:j<s.size):Cl P N ⟨dst,.index T x i,ty,pos,aft,gd⟩ E S (.int .u8 (nb (at8 s.data.toList j))):=⟨vR (zax I) U hi J⟩
theorem zmi {s:tt} {k:IntKind} {j:Int} (I:strT P T=true) (V:ev E x=some (.string s)) (hi:ev E i=some (.int k j)) (J:0<=j) (U:j<s.size):Cl P N ⟨dst,.index T x i,ty,pos,aft,gd⟩ E S (.int .u8 (nb (at8 s.data.toList j.toNat))):=⟨vM (zax I) V hi J U⟩
theorem zmj {lo hi:Option tw} {s:tt} {l h:Nat} (I:strT P T=true) (J:ev E x=some (.string s)) (hh:bnd E hi s.size s.size h) (hl:bnd E lo 0 h l):Cl P N ⟨dst,.slice T x lo hi none,ty,pos,aft,gd⟩ E S (.string (s.extract l h)):=⟨vU (zax I) J hh hl⟩
theorem znw {e:tx} {lo:tw} {hi mx:Option tw} {b o len cap n l h m:Nat} (J:P.underlying T=some (.slice e)) (U:sizeT P e=some n) (V:ev E x=some (.slice (some ⟨b,o,none⟩) len cap)) (hm:bnd E mx cap cap m) (I:mx.isSome=true->hi.isSome=true) (hh:bnd E hi len m h) (hl:bnd E (some lo) 0 h l):Cl P N ⟨dst,.slice T x (some lo) hi mx,ty,pos,aft,gd⟩ E S (.slice (some ⟨b,if m=l then o else o+l*n,none⟩) (h-l) (m-l)):=⟨vT J U V hm I hh hl⟩
theorem zmk {e:tx} {lo hi mx:Option tw} {n:Nat} (J:P.underlying T=some (.slice e)) (U:sizeT P e=some n) (V:ev E x=some (.slice none 0 0)) (hm:bnd E mx 0 0 0) (I:mx.isSome=true->hi.isSome=true) (hh:bnd E hi 0 0 0) (hl:bnd E lo 0 0 0):Cl P N ⟨dst,.slice T x lo hi mx,ty,pos,aft,gd⟩ E S (.slice none 0 0):=⟨uK J U V hm I hh hl⟩
theorem zml {e:tx} {hi:Option tw} {b o len n h:Nat} (I:P.underlying T=some (.array len e)) (J:sizeT P e=some n) (U:ev E x=some (.pointer (some ⟨b,o,none⟩))) (hh:bnd E hi len len h):Cl P N ⟨dst,.slice T x none hi none,ty,pos,aft,gd⟩ E S (.slice (some ⟨b,o,none⟩) h len):=⟨uH I J U hh⟩
theorem zmm {fn:Fn} {first I:List tw} {vs us:List tu} (J:evs E first=some vs) (U:evs E I=some us):Cl P N ⟨dst,.makeFunc fn first.toArray I.toArray,ty,pos,aft,gd⟩ E S (.func fn vs.toArray us.toArray):=⟨Calm.makeFunc J U⟩
theorem zu_ {ps:List (Nat × Nat)} {z:List tu} {I:List (Nat × tw)} {vs:List tu} {J:tu} (Z:sizeT P T=some 1) (U:bldT P T=some (ps,z)) (V:evs E (I.map (·.2))=some vs) (hb:bldL ps z ((I.map (·.1)).zip vs)=some [J]):Cl P N ⟨dst,.build T I.toArray,ty,pos,aft,gd⟩ E S (.agg [J].toArray):=⟨Calm.build U V hb⟩
theorem zva {ps:List (Nat × Nat)} {z:List tu} {I:List (Nat × tw)} {vs:List tu} {U J:tu} (hz:sizeT P T=some 2) (V:bldT P T=some (ps,z)) (Z:evs E (I.map (·.2))=some vs) (hb:bldL ps z ((I.map (·.1)).zip vs)=some [U,J]):Cl P N ⟨dst,.build T I.toArray,ty,pos,aft,gd⟩ E S (.agg [U,J].toArray):=⟨Calm.build V Z hb⟩
theorem zvb {ps:List (Nat × Nat)} {z:List tu} {I:List (Nat × tw)} {vs:List tu} {U J V:tu} (hz:sizeT P T=some 3) (Z:bldT P T=some (ps,z)) (hx:evs E (I.map (·.2))=some vs) (hb:bldL ps z ((I.map (·.1)).zip vs)=some [U,J,V]):Cl P N ⟨dst,.build T I.toArray,ty,pos,aft,gd⟩ E S (.agg [U,J,V].toArray):=⟨Calm.build Z hx hb⟩
theorem zvc {ps:List (Nat × Nat)} {z:List tu} {I:List (Nat × tw)} {vs:List tu} {Z V a2 U J:tu} (hz:sizeT P T=some 5) (hT:bldT P T=some (ps,z)) (hx:evs E (I.map (·.2))=some vs) (hb:bldL ps z ((I.map (·.1)).zip vs)=some [Z,V,a2,U,J]):Cl P N ⟨dst,.build T I.toArray,ty,pos,aft,gd⟩ E S (.agg [Z,V,a2,U,J].toArray):=⟨Calm.build hT hx hb⟩
theorem zvd {ps:List (Nat × Nat)} {z:List tu} {I:List (Nat × tw)} {vs:List tu} {a0 Z a2 U J V:tu} (hz:sizeT P T=some 6) (hT:bldT P T=some (ps,z)) (hx:evs E (I.map (·.2))=some vs) (hb:bldL ps z ((I.map (·.1)).zip vs)=some [a0,Z,a2,U,J,V]):Cl P N ⟨dst,.build T I.toArray,ty,pos,aft,gd⟩ E S (.agg [a0,Z,a2,U,J,V].toArray):=⟨Calm.build hT hx hb⟩
theorem zve {ps:List (Nat × Nat)} {z:List tu} {I:List (Nat × tw)} {vs:List tu} {a0 a1 a2 Z J V U:tu} (hz:sizeT P T=some 7) (hT:bldT P T=some (ps,z)) (hx:evs E (I.map (·.2))=some vs) (hb:bldL ps z ((I.map (·.1)).zip vs)=some [a0,a1,a2,Z,J,V,U]):Cl P N ⟨dst,.build T I.toArray,ty,pos,aft,gd⟩ E S (.agg [a0,a1,a2,Z,J,V,U].toArray):=⟨Calm.build hT hx hb⟩
theorem zvf {ps:List (Nat × Nat)} {z:List tu} {I:List (Nat × tw)} {vs:List tu} {a0 a1 a2 Z J V U a7:tu} (hz:sizeT P T=some 8) (hT:bldT P T=some (ps,z)) (hx:evs E (I.map (·.2))=some vs) (hb:bldL ps z ((I.map (·.1)).zip vs)=some [a0,a1,a2,Z,J,V,U,a7]):Cl P N ⟨dst,.build T I.toArray,ty,pos,aft,gd⟩ E S (.agg [a0,a1,a2,Z,J,V,U,a7].toArray):=⟨Calm.build hT hx hb⟩
theorem zvg {ps:List (Nat × Nat)} {z:List tu} {I:List (Nat × tw)} {vs:List tu} {a0 a1 a2 Z J V U a7 a8:tu} (hz:sizeT P T=some 9) (hT:bldT P T=some (ps,z)) (hx:evs E (I.map (·.2))=some vs) (hb:bldL ps z ((I.map (·.1)).zip vs)=some [a0,a1,a2,Z,J,V,U,a7,a8]):Cl P N ⟨dst,.build T I.toArray,ty,pos,aft,gd⟩ E S (.agg [a0,a1,a2,Z,J,V,U,a7,a8].toArray):=⟨Calm.build hT hx hb⟩
theorem zs7 {ps:List (Nat × Nat)} {z:List tu} {I:List (Nat × tw)} {vs:List tu} {a0 a1 a2 Z J V U a7 a8 a9:tu} (hz:sizeT P T=some 10) (hT:bldT P T=some (ps,z)) (hx:evs E (I.map (·.2))=some vs) (hb:bldL ps z ((I.map (·.1)).zip vs)=some [a0,a1,a2,Z,J,V,U,a7,a8,a9]):Cl P N ⟨dst,.build T I.toArray,ty,pos,aft,gd⟩ E S (.agg [a0,a1,a2,Z,J,V,U,a7,a8,a9].toArray):=⟨Calm.build hT hx hb⟩
theorem zp0 {s:tt} (I:strT P T=true) (J:ev E x=some (.string s)):Cl P N ⟨dst,.call ⟨.builtin .len,#[x],#[T]⟩,ty,pos,aft,gd⟩ E S (.int .i64 s.size):=⟨uh (zax I) J⟩
theorem zs8 {e:tx} {a:Option Addr} {len cap:Nat} (I:P.underlying T=some (.slice e)) (J:ev E x=some (.slice a len cap)):Cl P N ⟨dst,.call ⟨.builtin .len,#[x],#[T]⟩,ty,pos,aft,gd⟩ E S (.int .i64 len):=⟨vV I J⟩
theorem zvh {k k':IntKind} {a b:Int} {ats:Array tx} (J:ev E x=some (.int k a)) (I:ev E y=some (.int k' b)) (h:a<=b):Cl P N ⟨dst,.call ⟨.builtin .min,#[x,y],ats⟩,ty,pos,aft,gd⟩ E S (.int k a):=⟨Calm.minL J I h⟩
end
section
variable {P:tz} {N:Nat} {ops:Array Oper} {E:Env} {S:Mem} {K:Env->Mem->Prop} {os:List Oper}
variable {d dj:Nat} {op:Op} {ty:tx} {pos:String} {aft:Array Edge} {v w:tu} {j:Nat} {t u:Bool} {x y:tw} {T:tx}
theorem zp1 {P:tz} {t:tx} {x y:tw} {k:IntKind} {a b:Int} (h:a<b):Bin P .lss t x y (.int k a) (.int k b) (.bool true):=zaf (zaA _ _) (decide_eq_true h)
theorem zp2 {P:tz} {t:tx} {x y:tw} {k:IntKind} {a b:Int} (h : ¬ (a<b)):Bin P .lss t x y (.int k a) (.int k b) (.bool false):=zaf (zaA _ _) (decide_eq_false h)
theorem zp3 {P:tz} {t:tx} {x y:tw} {k:IntKind} {a b:Int} (h:a<=b):Bin P .leq t x y (.int k a) (.int k b) (.bool true):=zaf (zjE _ _) (decide_eq_true h)
theorem zp4 {P:tz} {t:tx} {x y:tw} {k:IntKind} {a b:Int} (h : ¬ (a<=b)):Bin P .leq t x y (.int k a) (.int k b) (.bool false):=zaf (zjE _ _) (decide_eq_false h)
theorem zp5 {P:tz} {t:tx} {x y:tw} {k:IntKind} {a b:Int} (h:b<a):Bin P .gtr t x y (.int k a) (.int k b) (.bool true):=zaf (zbu _ _) (decide_eq_true h)
theorem zp6 {P:tz} {t:tx} {x y:tw} {k:IntKind} {a b:Int} (h : ¬ (b<a)):Bin P .gtr t x y (.int k a) (.int k b) (.bool false):=zaf (zbu _ _) (decide_eq_false h)
theorem zp7 {P:tz} {t:tx} {x y:tw} {k:IntKind} {a b:Int} (h:b<=a):Bin P .geq t x y (.int k a) (.int k b) (.bool true):=zaf (zeX _ _) (decide_eq_true h)
theorem zp8 {P:tz} {t:tx} {x y:tw} {k:IntKind} {a b:Int} (h : ¬ (b<=a)):Bin P .geq t x y (.int k a) (.int k b) (.bool false):=zaf (zeX _ _) (decide_eq_false h)
theorem zp9 {P:tz} {t:tx} {x y:tw} {k:IntKind} {a b:Int} (h:a=b):Bin P .eql t x y (.int k a) (.int k b) (.bool true):=zaf (zaJ _ _) (decide_eq_true h)
theorem zp_ {P:tz} {t:tx} {x y:tw} {k:IntKind} {a b:Int} (h : ¬ (a=b)):Bin P .eql t x y (.int k a) (.int k b) (.bool false):=zaf (zaJ _ _) (decide_eq_false h)
theorem zqa {P:tz} {t:tx} {x y:tw} {k:IntKind} {a b:Int} (h:a≠b):Bin P .neq t x y (.int k a) (.int k b) (.bool true):=zaf (zfW _ _) (zcd h)
theorem zqb {P:tz} {t:tx} {x y:tw} {k:IntKind} {a b:Int} (h:a=b):Bin P .neq t x y (.int k a) (.int k b) (.bool false):=zaf (zfW _ _) (za9 h)
theorem bv_ {P:tz} {op:BinOp} {t:tx} {x y:tw} {vx vy v:tu} (h:Bin P op t x y vx vy v:=by first
  | ((with_reducible apply zp9);omega)
  | ((with_reducible apply zp_);omega)
  | (with_reducible exact zaJ _ _)
  | ((with_reducible apply zp1);omega)
  | ((with_reducible apply zp2);omega)
  | (with_reducible exact zaA _ _)
  | ((with_reducible apply zqa);omega)
  | ((with_reducible apply zqb);omega)
  | (with_reducible exact zfW _ _)
  | ((with_reducible apply zp3);omega)
  | ((with_reducible apply zp4);omega)
  | (with_reducible exact zjE _ _)
  | ((with_reducible apply zp5);omega)
  | ((with_reducible apply zp6);omega)
  | (with_reducible exact zbu _ _)
  | ((with_reducible apply zp7);omega)
  | ((with_reducible apply zp8);omega)
  | (with_reducible exact zeX _ _)
  | ((with_reducible apply zpO);first | exact IntWalk.i64_in _ vd | exact IntWalk.u64_in _ vd | exact IntWalk.u32_in _ vd | exact IntWalk.u8_in _ vd)
  | (with_reducible exact znk _ _)
  | ((with_reducible apply zpP);first | exact IntWalk.i64_in _ vd | exact IntWalk.u64_in _ vd | exact IntWalk.u32_in _ vd | exact IntWalk.u8_in _ vd)
  | (with_reducible exact zjC _ _)
  | ((with_reducible apply zhB);first | exact IntWalk.i64_in _ vd | exact IntWalk.u64_in _ vd | exact IntWalk.u32_in _ vd | exact IntWalk.u8_in _ vd)
  | (with_reducible exact znl _ _)
  | ((with_reducible apply zkU);omega;first | exact IntWalk.i64_quo _ _ vd | exact IntWalk.u64_quo _ _ vd | exact IntWalk.u32_quo _ _ vd | exact IntWalk.u8_quo _ _ vd)
  | ((with_reducible apply zjD);omega)
  | ((with_reducible apply zhC);omega;omega)
  | ((with_reducible apply znm);omega)
  | ((with_reducible apply zjF);omega;(simp only [IntKind.bits];omega))
  | ((with_reducible apply zs0);omega;(simp only [IntKind.bits];omega))
  | (with_reducible exact zsZ _ _)
  | (with_reducible exact zu2 _ _)
  | (with_reducible exact bin_xor _ _)
  | (with_reducible exact zar _ _)
  | (with_reducible exact zaT _ _)
  | ((with_reducible apply zbh);omega)
  | (with_reducible exact zc4 _ _)
  | (with_reducible exact zcm _ _)
  | (with_reducible exact zd4 _ _)
  | (with_reducible exact bin_str_geq _ _)
  | ((with_reducible apply bin_bool_eql);exact TUnd.h)
  | ((with_reducible apply zdl);exact TUnd.h)
  | ((with_reducible apply zjJ);exact TUnd.h)
  | ((with_reducible apply zjK);exact TUnd.h)):Bin P op t x y vx vy v:=h
theorem uv_ {P:tz} {op:UnOp} {vx v:tu} (h:Una P op vx v:=by first | exact zs1 _):Una P op vx v:=h
theorem cv_ {P:tz} {s t:tx} {vx v:tu} (h:Conv P s t vx v:=by first
  | ((with_reducible apply zbx);exact TUnd.h;exact TUnd.h;first | exact IntWalk.i64_in _ vd | exact IntWalk.u64_in _ vd | exact IntWalk.u32_in _ vd | exact IntWalk.u8_in _ vd | exact wrap_nb_i64 _ | exact zjG _ | exact wrap_nb_u32 _ | exact wrap_nb_u8 _)
  | ((with_reducible apply zkV);exact TUnd.h;exact TUnd.h)):Conv P s t vx v:=h
theorem bd_ {E:Env} {o:Option tw} {a b r:Nat} (h:bnd E o a b r:=by first | exact zbb _ _ | exact zer _ _ rfl vd vd):bnd E o a b r:=h
theorem bz_ {E:Env} {o:Option tw} (h:bnd E o 0 0 0:=by first | exact zbb _ _ | exact zpS _ _ rfl):bnd E o 0 0 0:=h
theorem ldk_ {S:Mem} {a:Addr} {v:tu} (h:(S.rd a=some v\/S.Knows a [v]):=by first | exact .inl rd_ | exact .inr kn_):S.rd a=some v\/S.Knows a [v]:=h
theorem zfx {S:Mem} {a:Addr} {cs:List tu} (h:(S.rds a cs\/S.Knows a cs):=by first | exact .inl rds_ | exact .inr kn_):S.rds a cs\/S.Knows a cs:=h
theorem cl_ {P:tz} {N:Nat} {o:Oper} {E:Env} {S:Mem} {v:tu} (h:Cl P N o E S v:=by first
  | ((with_reducible apply zu5);exact TPlain.h;exact rfl;exact ldk_)
  | ((with_reducible apply zu3);exact rfl)
  | ((with_reducible apply zwC);exact rfl;exact rfl;exact bv_)
  | ((with_reducible apply zs6);exact TField.h;exact rfl)
  | ((with_reducible apply zmh);exact rfl)
  | ((with_reducible apply zpX);exact rfl)
  | ((with_reducible apply znv);exact rfl;exact rfl)
  | ((with_reducible apply zpY);exact TUnd.h;exact TSize.h;exact rfl;exact rfl;omega;omega)
  | ((with_reducible apply zs8);exact TUnd.h;exact rfl)
  | ((with_reducible apply zp0);exact TStr.h;exact rfl)
  | ((with_reducible apply zs4);exact rfl;exact rfl)
  | ((with_reducible apply zs5);exact rfl;exact rfl)
  | ((with_reducible apply zu4);exact rfl;exact cv_)
  | ((with_reducible apply c_un);exact rfl;exact uv_)
  | ((with_reducible apply zjL);exact TStr.h;exact rfl;exact rfl;omega)
  | ((with_reducible apply zmi);exact TStr.h;exact rfl;exact rfl;omega;omega)
  | ((with_reducible apply zmj);exact TStr.h;exact rfl;exact bd_;exact bd_)
  | ((with_reducible apply c_sliceHead);exact TUnd.h;exact TSize.h;exact rfl;exact bd_;exact λ_=>rfl;exact bd_)
  | ((with_reducible apply znw);exact TUnd.h;exact TSize.h;exact rfl;exact bd_;simp;exact bd_;exact bd_)
  | ((with_reducible apply zmk);exact TUnd.h;exact TSize.h;exact rfl;exact bz_;simp;exact bz_;exact bz_)
  | ((with_reducible apply zml);exact TUnd.h;exact TSize.h;exact rfl;exact bd_)
  | ((with_reducible apply zpZ);exact TUnd.h;exact TSize.h;exact rfl;exact rfl;omega;omega)
  | ((with_reducible apply c_ldA1);exact TAgg.h;exact TSize.h;exact rfl;exact zfx)
  | ((with_reducible apply zu6);exact TAgg.h;exact TSize.h;exact rfl;exact zfx)
  | ((with_reducible apply zu7);exact TAgg.h;exact TSize.h;exact rfl;exact zfx)
  | ((with_reducible apply c_ldA4);exact TAgg.h;exact TSize.h;exact rfl;exact zfx)
  | ((with_reducible apply zu8);exact TAgg.h;exact TSize.h;exact rfl;exact zfx)
  | ((with_reducible apply c_ldA6);exact TAgg.h;exact TSize.h;exact rfl;exact zfx)
  | ((with_reducible apply zu9);exact TAgg.h;exact TSize.h;exact rfl;exact zfx)
  | ((with_reducible apply c_ldA8);exact TAgg.h;exact TSize.h;exact rfl;exact zfx)
  | ((with_reducible apply c_ldA9);exact TAgg.h;exact TSize.h;exact rfl;exact zfx)
  | ((with_reducible apply c_ldA10);exact TAgg.h;exact TSize.h;exact rfl;exact zfx)
  | ((with_reducible apply c_ldA11);exact TAgg.h;exact TSize.h;exact rfl;exact zfx)
  | ((with_reducible apply c_ldA12);exact TAgg.h;exact TSize.h;exact rfl;exact zfx)
  | ((with_reducible apply zu_);exact TSize.h;exact TBld.h;exact rfl;exact rfl)
  | ((with_reducible apply zva);exact TSize.h;exact TBld.h;exact rfl;exact rfl)
  | ((with_reducible apply zvb);exact TSize.h;exact TBld.h;exact rfl;exact rfl)
  | ((with_reducible apply c_bld4);exact TSize.h;exact TBld.h;exact rfl;exact rfl)
  | ((with_reducible apply zvc);exact TSize.h;exact TBld.h;exact rfl;exact rfl)
  | ((with_reducible apply zvd);exact TSize.h;exact TBld.h;exact rfl;exact rfl)
  | ((with_reducible apply zve);exact TSize.h;exact TBld.h;exact rfl;exact rfl)
  | ((with_reducible apply zvf);exact TSize.h;exact TBld.h;exact rfl;exact rfl)
  | ((with_reducible apply zvg);exact TSize.h;exact TBld.h;exact rfl;exact rfl)
  | ((with_reducible apply zs7);exact TSize.h;exact TBld.h;exact rfl;exact rfl)
  | ((with_reducible apply c_toStr);exact TBytes.h;exact TStr.h;exact rfl;exact rds_;exact znr)
  | ((with_reducible apply c_toStrNil);exact TBytes.h;exact TStr.h;exact rfl)
  | ((with_reducible apply zvh);exact rfl;exact rfl;omega)
  | ((with_reducible apply c_minR);exact rfl;exact rfl;omega)
  | ((with_reducible apply c_maxL);exact rfl;exact rfl;omega)
  | ((with_reducible apply c_maxR);exact rfl;exact rfl;omega)
  | ((with_reducible apply zmm);exact rfl;exact rfl)):Cl P N o E S v:=h
theorem rC' (hc:Cl P N ⟨some d,op,ty,pos,aft,none⟩ E S v) (I:d<N) (h:ARun P N ops os K ((d,v) :: E) S):ARun P N ops (⟨some d,op,ty,pos,aft,none⟩ :: os) K E S:=rC hc.h h I
theorem rS' (U:(ops[j]?).bind (·.dst)=some dj) (hb:lk E dj=some (.bool u)) (J:(u == t)=false) (I:dj<N) (V:d<N) (h:ARun P N ops os K ((d,undef) :: E) S):ARun P N ops (⟨some d,op,ty,pos,aft,some (j,t)⟩ :: os) K E S:=rS dj h hb J U I V
theorem rU' (J:(ops[j]?).bind (·.dst)=some dj) (hb:lk E dj=some undef) (I:dj<N) (U:d<N) (h:ARun P N ops os K ((d,undef) :: E) S):ARun P N ops (⟨some d,op,ty,pos,aft,some (j,t)⟩ :: os) K E S:=rU dj h hb J I U
theorem rG' (J:(ops[j]?).bind (·.dst)=some dj) (hb:lk E dj=some (.bool t)) (hc:Cl P N ⟨some d,op,ty,pos,aft,some (j,t)⟩ E S v) (I:dj<N) (U:d<N) (h:ARun P N ops os K ((d,v) :: E) S):ARun P N ops (⟨some d,op,ty,pos,aft,some (j,t)⟩ :: os) K E S:=rG dj hc.h h hb J I U
theorem rW1 {b o:Nat} {r:Blk} (V:ev E x=some (.pointer (some ⟨b,o,none⟩))) (U:ev E y=some v) (hs:sizeT P T=some 1) (I:v.cells = #[v]) (hb:S.own b=some r) (hl:o<r.cells.length) (J:v.oneCell'=true) (h:ARun P N ops os K E (S.set b ⟨r.elem,r.cells.set o v,r.room⟩)):ARun P N ops (⟨none,.store T x y,ty,pos,aft,none⟩ :: os) K E S:=vm V U hs I hb hl J h
theorem rWA {b n:Nat} {r:Blk} {cs:List tu} (Z:aggT P T=true) (U:ev E x=some (.pointer (some ⟨b,0,none⟩))) (V:ev E y=some (.agg cs.toArray)) (hs:sizeT P T=some n) (J:n=cs.length) (hb:S.own b=some r) (hl:r.cells.length=cs.length) (I:cs.all (·.oneCell')=true) (h:ARun P N ops os K E (S.set b ⟨r.elem,cs,r.room⟩)):ARun P N ops (⟨none,.store T x y,ty,pos,aft,none⟩ :: os) K E S:=vF U V (J ▸ hs) hb hl I h
section
variable {l:List Oper} {W:List Nat} {S0:Mem} {K':Env->Mem->Prop} {i:Nat} {is:List (Nat × Bool)} {o:Oper}
theorem dP' (J:l[i]?=some o) (V:o.guard=none) (I:pureOp o=true) (hd:o.dst=some d) (U:d<N) (hc:∀ S',Cl P N o E S' w) (h:DrawRun P N l W S0 is K' ((d,w) :: E) S):DrawRun P N l W S0 ((i,true) :: is) K' E S:=dP J I V hd U (λS'=>(hc S').h) h
theorem dC' (J:l[i]?=some o) (V:o.guard=none) (I:pureOp o=false) (hd:o.dst=some d) (U:d<N) (hl:S0.Less S) (hc:Cl P N o E S0 w) (h:DrawRun P N l W S0 is K' ((d,w) :: E) S):DrawRun P N l W S0 ((i,true) :: is) K' E S:=dC J I V hd U hl hc.h h
theorem dS' (Z:l[i]?=some o) (V:o.guard=some (j,t)) (U:(l.toArray[j]?).bind (·.dst)=some dj) (hb:lk E dj=some (.bool u)) (I:(u == t)=false) (J:dj<N) (hd:o.dst=some d) (hn:d<N) (hl:S0.Less S) (h:DrawRun P N l W S0 is K' ((d,undef) :: E) S):DrawRun P N l W S0 ((i,true) :: is) K' E S:=dS h Z V U J hb I hd hn hl
theorem dG' (V:l[i]?=some o) (U:o.guard=some (j,t)) (J:(l.toArray[j]?).bind (·.dst)=some dj) (hb:lk E dj=some (.bool t)) (hp:pureOp o=true) (I:dj<N) (hd:o.dst=some d) (Z:d<N) (hl:S0.Less S) (hc:∀ S',Cl P N o E S' w) (h:DrawRun P N l W S0 is K' ((d,w) :: E) S):DrawRun P N l W S0 ((i,true) :: is) K' E S:=dG V U J I hb hd Z hl (λS'=>(hc S').h) h
theorem dL' (V:l[i]?=some o) (U:o.guard=some (j,t)) (J:(l.toArray[j]?).bind (·.dst)=some dj) (hb:lk E dj=some (.bool t)) (hp:pureOp o=false) (I:dj<N) (hd:o.dst=some d) (Z:d<N) (hl:S0.Less S) (hc:Cl P N o E S0 w) (h:DrawRun P N l W S0 is K' ((d,w) :: E) S):DrawRun P N l W S0 ((i,true) :: is) K' E S:=dL V hp U J I hb hd Z hl hc.h h
end
theorem s1_ {q p:Prop} (k:q) (h:Kp q->p:=by
  intro I
  first
  | ((with_reducible apply rC');exact cl_;exact zab rfl)
  | ((with_reducible apply dP');exact rfl;exact rfl;exact rfl;exact rfl;exact zab rfl;intro J;exact cl_)
  | ((with_reducible apply dC');exact rfl;exact rfl;exact rfl;exact rfl;exact zab rfl;exact zae;exact cl_)
  | (with_reducible apply zbO)
  | (with_reducible apply AWP.seq)
  | (with_reducible apply AWP.region)
  | (with_reducible apply zad)
  | (with_reducible apply zpR)
  | ((with_reducible apply rS');exact rfl;exact rfl;exact rfl;exact zab rfl;exact zab rfl)
  | ((with_reducible apply rU');exact rfl;exact rfl;exact zab rfl;exact zab rfl)
  | ((with_reducible apply rG');exact rfl;exact rfl;exact cl_;exact zab rfl;exact zab rfl)
  | ((with_reducible apply dS');exact rfl;exact rfl;exact rfl;exact rfl;exact rfl;exact zab rfl;exact rfl;exact zab rfl;exact zae)
  | ((with_reducible apply dU');exact rfl;exact rfl;exact rfl;exact rfl;exact zab rfl;exact rfl;exact zab rfl;exact zae)
  | ((with_reducible apply dG');exact rfl;exact rfl;exact rfl;exact rfl;exact rfl;exact zab rfl;exact rfl;exact zab rfl;exact zae;intro J;exact cl_)
  | ((with_reducible apply dL');exact rfl;exact rfl;exact rfl;exact rfl;exact rfl;exact zab rfl;exact rfl;exact zab rfl;exact zae;exact cl_)
  | (with_reducible apply AWP.block)
  | (with_reducible apply zwA)
  | (with_reducible apply zpQ)
  | ((with_reducible apply zno);exact rfl)
  | (with_reducible apply zs2)
  | (with_reducible apply znn)
  | (with_reducible apply zme)
  | (with_reducible apply AWP.skip)
  | (with_reducible apply AWP.ret)
  | (with_reducible apply AWP.exit)
  | (with_reducible apply join_ret)
  | (with_reducible apply join_exit)
  | ((with_reducible apply rW1);exact rfl;exact rfl;exact TSize.h;exact rfl;exact own_;exact znr;exact rfl;try simp only [Mem.set_set,List.set_cons_zero,List.set_cons_succ,Nat.zero_add,Nat.reduceAdd])
  | ((with_reducible apply rWA);exact TAgg.h;exact rfl;exact rfl;exact TSize.h;exact rfl;exact own_;exact rfl;exact rfl;try simp only [Mem.set_set,List.set_cons_zero,List.set_cons_succ,Nat.zero_add,Nat.reduceAdd])
  | ((with_reducible apply rWP);exact TAgg.h;exact rfl;exact rfl;exact TSize.h;exact rfl;exact own_;exact znr;exact rfl;try simp only [Mem.set_set,List.set_cons_zero,List.set_cons_succ,Nat.zero_add,Nat.reduceAdd])
  | ((with_reducible apply rN);exact rfl;first | ((with_reducible apply rC');exact cl_;exact zab rfl) | ((with_reducible apply rS');exact rfl;exact rfl;exact rfl;exact zab rfl;exact zab rfl) | ((with_reducible apply rU');exact rfl;exact rfl;exact zab rfl;exact zab rfl) | ((with_reducible apply rG');exact rfl;exact rfl;exact cl_;exact zab rfl;exact zab rfl) | ((with_reducible apply rW1);exact rfl;exact rfl;exact TSize.h;exact rfl;exact own_;exact znr;exact rfl;try simp only [Mem.set_set,List.set_cons_zero,List.set_cons_succ,Nat.zero_add,Nat.reduceAdd]) | ((with_reducible apply rWA);exact TAgg.h;exact rfl;exact rfl;exact TSize.h;exact rfl;exact own_;exact rfl;exact rfl;try simp only [Mem.set_set,List.set_cons_zero,List.set_cons_succ,Nat.zero_add,Nat.reduceAdd]) | ((with_reducible apply rWP);exact TAgg.h;exact rfl;exact rfl;exact TSize.h;exact rfl;exact own_;exact znr;exact rfl;try simp only [Mem.set_set,List.set_cons_zero,List.set_cons_succ,Nat.zero_add,Nat.reduceAdd]))
  exact I.k):p:=h ⟨k⟩
theorem nl_ {q p:Prop} (k:q) (h:Kp q->p:=by
  intro I
  try simp only [List.length_cons,List.length_nil,Nat.zero_add,Nat.reduceAdd]
  exact I.k):p:=h ⟨k⟩
theorem nm_ {q p:Prop} (k:q) (h:Kp q->p:=by
  intro I
  try simp only [Mem.set_set,List.set_cons_zero,List.set_cons_succ,Nat.zero_add,Nat.reduceAdd]
  exact I.k):p:=h ⟨k⟩
variable {Q:Exit->Env->Mem->Prop} {c:tw} {X Y:Code} {f:tA} {xs:List tw} {ats:Array tx} {vs:List tu} {R:tu->Mem->Prop}
theorem st_ {b c:Nat} {e:tx} {u:tu} (hb:S.own b=some ⟨e,[u],c⟩) (h:ARun P N ops os K E (S.set b ⟨e,[v],c⟩)) (V:ev E x=some (.pointer (some ⟨b,0,none⟩)):=by exact rfl) (U:ev E y=some v:=by exact rfl) (hs:sizeT P T=some 1:=by exact TSize.h) (I:v.cells = #[v]:=by exact rfl) (J:v.oneCell'=true:=by exact rfl):ARun P N ops (⟨none,.store T x y,ty,pos,aft,none⟩ :: os) K E S:=vm V U hs I hb Nat.zero_lt_one J h
theorem cT_ (h:AWP P N X Q E S) (hc:ev E c=some (.bool t):=by exact rfl) (I:t=true:=by first | rfl | (simp;done) | (simp;omega)):AWP P N (.cond c X Y) Q E S:=AWP.condT hc I h
theorem cF_ (h:AWP P N Y Q E S) (hc:ev E c=some (.bool t):=by exact rfl) (I:t=false:=by first | rfl | (simp;done) | (simp;omega)):AWP P N (.cond c X Y) Q E S:=AWP.condF hc I h
theorem su_ (I:Env) (h:AWP P N X Q I S) (hs:Sub I E:=by repeat first | refine ⟨rfl,?_⟩ | exact trivial):AWP P N X Q E S:=AWP.sub I hs h
theorem ca_ (U:evs E xs=some vs) (hc:ACall P f vs.toArray S R) (h:∀ v S',R v S'->ARun P N ops os K ((d,v) :: E) S') (J:d<N:=by exact zab rfl) (I:goFn P f=true:=by kernel_rfl):ARun P N ops (⟨some d,.call ⟨.value (.func f),xs.toArray,ats⟩,ty,pos,aft,none⟩ :: os) K E S:=ARun.call J I U hc h
end
end Mv
open Go.RowKit
namespace Mv
section
variable {P:tz} {N:Nat} {ops:Array Oper} {E:Env} {S:Mem} {K:Env->Mem->Prop} {os:List Oper}
variable {d:Nat} {op:Op} {ty:tx} {pos:String} {aft:Array Edge} {v:tu} {j:Nat} {t u:Bool}
variable {x y c:tw} {l:List Oper} {C:Code} {Q:Exit->Env->Mem->Prop} {next:Env->Mem->Prop}
theorem cp_ {I : tu} {f : tA} {xs : List tw} {ats : Array tx} {vs : List tu} (Z : evs E xs = some vs) (hc : ACall P f vs.toArray S λr S' => r = I ∧ S' = S) (h : ARun P N ops os K ((d, I) :: E) S) (V : d < N := by exact zab rfl) (U : goFn P f = true := by kernel_rfl) : ARun P N ops (⟨some d, .call ⟨.value (.func f), xs.toArray, ats⟩, ty, pos, aft, none⟩ :: os) K E S := ARun.call V U Z hc λv S' J => by obtain ⟨rfl, rfl⟩ := J; exact h
theorem nz_ {a L : Prop} [Decidable a] (h : ¬ a := by decide) : a → L := λx => absurd x h
theorem ny_ {a L : Prop} (h : L := by exact zae) : a → L := λ_ => h
theorem dr_ {id : Nat} {l : List Oper} {Q : Exit → Env → Mem → Prop} (st : List (Nat × Bool)) (W : List Nat) (h : DrawRun P N l W S st (Q .normal) E S) (hm : P.follows .mixedOrders = true := by exact TMix.h) (I : drawOK l st W = true := by kernel_rfl) : AWP P N (.region id l.toArray true) Q E S := AWP.draw st W hm I h
abbrev i0_ : Nat × Bool := (0, true)
abbrev i1_ : Nat × Bool := (1, true)
abbrev o1_ : Nat × Bool := (1, false)
abbrev i2_ : Nat × Bool := (2, true)
abbrev o2_ : Nat × Bool := (2, false)
abbrev i3_ : Nat × Bool := (3, true)
abbrev o3_ : Nat × Bool := (3, false)
abbrev i4_ : Nat × Bool := (4, true)
abbrev o4_ : Nat × Bool := (4, false)
abbrev i5_ : Nat × Bool := (5, true)
abbrev o5_ : Nat × Bool := (5, false)
abbrev i6_ : Nat × Bool := (6, true)
abbrev o6_ : Nat × Bool := (6, false)
abbrev i7_ : Nat × Bool := (7, true)
abbrev o7_ : Nat × Bool := (7, false)
abbrev i8_ : Nat × Bool := (8, true)
abbrev o8_ : Nat × Bool := (8, false)
abbrev i9_ : Nat × Bool := (9, true)
abbrev o9_ : Nat × Bool := (9, false)
abbrev i10_ : Nat × Bool := (10, true)
abbrev o10_ : Nat × Bool := (10, false)
abbrev i11_ : Nat × Bool := (11, true)
abbrev o11_ : Nat × Bool := (11, false)
abbrev i12_ : Nat × Bool := (12, true)
abbrev o12_ : Nat × Bool := (12, false)
abbrev i13_ : Nat × Bool := (13, true)
abbrev o13_ : Nat × Bool := (13, false)
abbrev i14_ : Nat × Bool := (14, true)
abbrev o14_ : Nat × Bool := (14, false)
abbrev i15_ : Nat × Bool := (15, true)
abbrev o15_ : Nat × Bool := (15, false)
abbrev i16_ : Nat × Bool := (16, true)
abbrev o16_ : Nat × Bool := (16, false)
abbrev i17_ : Nat × Bool := (17, true)
abbrev o17_ : Nat × Bool := (17, false)
abbrev i18_ : Nat × Bool := (18, true)
abbrev o18_ : Nat × Bool := (18, false)
abbrev i19_ : Nat × Bool := (19, true)
abbrev o19_ : Nat × Bool := (19, false)
abbrev i20_ : Nat × Bool := (20, true)
abbrev o20_ : Nat × Bool := (20, false)
abbrev i21_ : Nat × Bool := (21, true)
abbrev o21_ : Nat × Bool := (21, false)
abbrev i22_ : Nat × Bool := (22, true)
abbrev o22_ : Nat × Bool := (22, false)
abbrev i23_ : Nat × Bool := (23, true)
abbrev o23_ : Nat × Bool := (23, false)
abbrev i24_ : Nat × Bool := (24, true)
abbrev o24_ : Nat × Bool := (24, false)
abbrev i25_ : Nat × Bool := (25, true)
abbrev o25_ : Nat × Bool := (25, false)
abbrev i26_ : Nat × Bool := (26, true)
abbrev o26_ : Nat × Bool := (26, false)
abbrev i27_ : Nat × Bool := (27, true)
abbrev o27_ : Nat × Bool := (27, false)
abbrev i28_ : Nat × Bool := (28, true)
abbrev i29_ : Nat × Bool := (29, true)
abbrev i30_ : Nat × Bool := (30, true)
abbrev o30_ : Nat × Bool := (30, false)
abbrev i31_ : Nat × Bool := (31, true)
abbrev i32_ : Nat × Bool := (32, true)
abbrev i33_ : Nat × Bool := (33, true)
abbrev i34_ : Nat × Bool := (34, true)
abbrev i35_ : Nat × Bool := (35, true)
abbrev i36_ : Nat × Bool := (36, true)
abbrev i37_ : Nat × Bool := (37, true)
abbrev i38_ : Nat × Bool := (38, true)
abbrev o38_ : Nat × Bool := (38, false)
abbrev i39_ : Nat × Bool := (39, true)
abbrev o39_ : Nat × Bool := (39, false)
abbrev o40_ : Nat × Bool := (40, false)
abbrev i41_ : Nat × Bool := (41, true)
abbrev o41_ : Nat × Bool := (41, false)
abbrev i42_ : Nat × Bool := (42, true)
inductive Pk_ (E : Env) : List Nat → Env → Prop
  | nil : Pk_ E [] []
  | cons {i : Nat} {v : tu} {is : List Nat} {G : Env} (h : lk E i = some v) (t : Pk_ E is G) : Pk_ E (i :: is) ((i, v) :: G)
theorem pk_ {E F : Env} {is : List Nat} (h : Pk_ E is F) : Sub F E := by
  induction h with
  | nil => exact trivial
  | cons h _ t => exact ⟨h, t⟩
theorem kw_ (is : List Nat) {I : Env} (h : AWP P N C Q I S) (hs : Pk_ E is I := by repeat first | exact .nil | (apply Pk_.cons; exact rfl)) : AWP P N C Q E S := AWP.sub I (pk_ hs) h
def zsf (t:Bool) (w:tu):Prop:=(∃ u,w = .bool u/\(u == t)=false)\/w=undef
theorem k_q (dj:Nat) (h:ARun P N ops os K ((d,undef) :: E) S) {w:tu} (hb:lk E dj=some w:=by exact rfl) (Z:zsf t w:=by first | exact .inl ⟨_,rfl,rfl⟩ | exact .inr rfl) (U:(ops[j]?).bind (·.dst)=some dj:=by exact rfl) (I:dj<N:=by exact zab rfl) (V:d<N:=by exact zab rfl):ARun P N ops (⟨some d,op,ty,pos,aft,some (j,t)⟩ :: os) K E S:=by
  rcases Z with ⟨u,rfl,J⟩ | rfl
  · exact rS dj h hb J U I V
  exact rU dj h hb U I V
theorem k_b9 {T:tx} {a1 a2 V I U J a7 Z a9:tu} (hx:ev E x=some (.agg [a1,a2,V,I,U,J,a7,Z,a9].toArray)) (h:∀ b,Fresh S b->ARun P N ops os K ((d,.pointer (some ⟨b,0,none⟩)) :: E) (S.set b ⟨T,[a1,a2,V,I,U,J,a7,Z,a9],([a1,a2,V,I,U,J,a7,Z,a9] : List tu).length⟩)) (hn:d<N:=by exact zab rfl):ARun P N ops (⟨some d,.box T x,ty,pos,aft,none⟩ :: os) K E S:=vA (cs:=[a1,a2,V,I,U,J,a7,Z,a9]) hn hx h
theorem k_b7 {T:tx} {a1 a2 V I U J Z:tu} (hx:ev E x=some (.agg [a1,a2,V,I,U,J,Z].toArray)) (h:∀ b,Fresh S b->ARun P N ops os K ((d,.pointer (some ⟨b,0,none⟩)) :: E) (S.set b ⟨T,[a1,a2,V,I,U,J,Z],([a1,a2,V,I,U,J,Z] : List tu).length⟩)) (hn:d<N:=by exact zab rfl):ARun P N ops (⟨some d,.box T x,ty,pos,aft,none⟩ :: os) K E S:=vA (cs:=[a1,a2,V,I,U,J,Z]) hn hx h
theorem k_b5 {T:tx} {V Z J I U:tu} (hx:ev E x=some (.agg [V,Z,J,I,U].toArray)) (h:∀ b,Fresh S b->ARun P N ops os K ((d,.pointer (some ⟨b,0,none⟩)) :: E) (S.set b ⟨T,[V,Z,J,I,U],([V,Z,J,I,U] : List tu).length⟩)) (hn:d<N:=by exact zab rfl):ARun P N ops (⟨some d,.box T x,ty,pos,aft,none⟩ :: os) K E S:=vA (cs:=[V,Z,J,I,U]) hn hx h
theorem k_d {l:List Oper} {W:List Nat} {S0:Mem} {K':Env->Mem->Prop} {i:Nat} {is:List (Nat × Bool)} {o:Oper} {dj:Nat} {w:tu} (h:DrawRun P N l W S0 is K' ((d,undef) :: E) S) (Z:l[i]?=some o:=by exact rfl) (V:o.guard=some (j,t):=by exact rfl) (U:(l.toArray[j]?).bind (·.dst)=some dj:=by exact rfl) (I:dj<N:=by exact zab rfl) (hb:lk E dj=some w:=by exact rfl) (hw:zsf t w:=by first | exact .inl ⟨_,rfl,rfl⟩ | exact .inr rfl) (hd:o.dst=some d:=by exact rfl) (hn:d<N:=by exact zab rfl) (hl:S0.Less S:=by exact zae):DrawRun P N l W S0 ((i,true) :: is) K' E S:=by
  rcases hw with ⟨u,rfl,J⟩ | rfl
  · exact dS h Z V U I hb J hd hn hl
  exact dU h Z V U I hb hd hn hl
theorem k_E1 {f:tA} {fn:Func} {c:Code} {rs:List ResultVar} {R:tu->Mem->Prop} {I:tu} (n:Nat) (U:P.funcs[f]?=some fn) (h:AWP P n c (Aret P rs R) [(0,I)] S) (hb:fn.body=some c:=by exact rfl) (V:fn.ntmps=n:=by exact rfl) (J:fn.results=rs.toArray:=by exact rfl) (hl:1<=n:=by exact Nat.le_of_ble_eq_true rfl):ACall P f #[I] S R:=ACall.enter (args:=[I]) n [(0,I)] U hb V hl J ⟨rfl,trivial⟩ h
theorem k_E2 {f:tA} {fn:Func} {c:Code} {rs:List ResultVar} {R:tu->Mem->Prop} {J I:tu} (n:Nat) (V:P.funcs[f]?=some fn) (h:AWP P n c (Aret P rs R) [(0,J),(1,I)] S) (hb:fn.body=some c:=by exact rfl) (Z:fn.ntmps=n:=by exact rfl) (U:fn.results=rs.toArray:=by exact rfl) (hl:2<=n:=by exact Nat.le_of_ble_eq_true rfl):ACall P f #[J,I] S R:=ACall.enter (args:=[J,I]) n [(0,J),(1,I)] V hb Z hl U ⟨rfl,rfl,trivial⟩ h
theorem k_E3 {f:tA} {fn:Func} {c:Code} {rs:List ResultVar} {R:tu->Mem->Prop} {J I U:tu} (n:Nat) (Z:P.funcs[f]?=some fn) (h:AWP P n c (Aret P rs R) [(0,J),(1,I),(2,U)] S) (hb:fn.body=some c:=by exact rfl) (hn:fn.ntmps=n:=by exact rfl) (V:fn.results=rs.toArray:=by exact rfl) (hl:3<=n:=by exact Nat.le_of_ble_eq_true rfl):ACall P f #[J,I,U] S R:=ACall.enter (args:=[J,I,U]) n [(0,J),(1,I),(2,U)] Z hb hn hl V ⟨rfl,rfl,rfl,trivial⟩ h
theorem k_E4 {f:tA} {fn:Func} {c:Code} {rs:List ResultVar} {R:tu->Mem->Prop} {U J V I:tu} (n:Nat) (hf:P.funcs[f]?=some fn) (h:AWP P n c (Aret P rs R) [(0,U),(1,J),(2,V),(3,I)] S) (hb:fn.body=some c:=by exact rfl) (hn:fn.ntmps=n:=by exact rfl) (Z:fn.results=rs.toArray:=by exact rfl) (hl:4<=n:=by exact Nat.le_of_ble_eq_true rfl):ACall P f #[U,J,V,I] S R:=ACall.enter (args:=[U,J,V,I]) n [(0,U),(1,J),(2,V),(3,I)] hf hb hn hl Z ⟨rfl,rfl,rfl,rfl,trivial⟩ h
theorem k_E5 {f:tA} {fn:Func} {c:Code} {rs:List ResultVar} {R:tu->Mem->Prop} {V U Z J I:tu} (n:Nat) (hf:P.funcs[f]?=some fn) (h:AWP P n c (Aret P rs R) [(0,V),(1,U),(2,Z),(3,J),(4,I)] S) (hb:fn.body=some c:=by exact rfl) (hn:fn.ntmps=n:=by exact rfl) (hr:fn.results=rs.toArray:=by exact rfl) (hl:5<=n:=by exact Nat.le_of_ble_eq_true rfl):ACall P f #[V,U,Z,J,I] S R:=ACall.enter (args:=[V,U,Z,J,I]) n [(0,V),(1,U),(2,Z),(3,J),(4,I)] hf hb hn hl hr ⟨rfl,rfl,rfl,rfl,rfl,trivial⟩ h
theorem k_E6 {f:tA} {fn:Func} {c:Code} {rs:List ResultVar} {R:tu->Mem->Prop} {Z V a2 J I U:tu} (n:Nat) (hf:P.funcs[f]?=some fn) (h:AWP P n c (Aret P rs R) [(0,Z),(1,V),(2,a2),(3,J),(4,I),(5,U)] S) (hb:fn.body=some c:=by exact rfl) (hn:fn.ntmps=n:=by exact rfl) (hr:fn.results=rs.toArray:=by exact rfl) (hl:6<=n:=by exact Nat.le_of_ble_eq_true rfl):ACall P f #[Z,V,a2,J,I,U] S R:=ACall.enter (args:=[Z,V,a2,J,I,U]) n [(0,Z),(1,V),(2,a2),(3,J),(4,I),(5,U)] hf hb hn hl hr ⟨rfl,rfl,rfl,rfl,rfl,rfl,trivial⟩ h
structure Wr_ (q:Prop):Prop where
  out:q
theorem r2_ {p q:Prop} (h:q) (f:Wr_ q->p:=by intro h;(iterate 2 refine s1_ ?_);exact h.out):p:=f ⟨h⟩
theorem r3_ {p q:Prop} (h:q) (f:Wr_ q->p:=by intro h;(iterate 3 refine s1_ ?_);exact h.out):p:=f ⟨h⟩
theorem r4_ {p q:Prop} (h:q) (f:Wr_ q->p:=by intro h;(iterate 4 refine s1_ ?_);exact h.out):p:=f ⟨h⟩
theorem r5_ {p q:Prop} (h:q) (f:Wr_ q->p:=by intro h;(iterate 5 refine s1_ ?_);exact h.out):p:=f ⟨h⟩
theorem r6_ {p q:Prop} (h:q) (f:Wr_ q->p:=by intro h;(iterate 6 refine s1_ ?_);exact h.out):p:=f ⟨h⟩
theorem r7_ {p q:Prop} (h:q) (f:Wr_ q->p:=by intro h;(iterate 7 refine s1_ ?_);exact h.out):p:=f ⟨h⟩
theorem r8_ {p q:Prop} (h:q) (f:Wr_ q->p:=by intro h;(iterate 8 refine s1_ ?_);exact h.out):p:=f ⟨h⟩
theorem r9_ {p q:Prop} (h:q) (f:Wr_ q->p:=by intro h;(iterate 9 refine s1_ ?_);exact h.out):p:=f ⟨h⟩
theorem r10_ {p q:Prop} (h:q) (f:Wr_ q->p:=by intro h;(iterate 10 refine s1_ ?_);exact h.out):p:=f ⟨h⟩
theorem r11_ {p q:Prop} (h:q) (f:Wr_ q->p:=by intro h;(iterate 11 refine s1_ ?_);exact h.out):p:=f ⟨h⟩
theorem r12_ {p q:Prop} (h:q) (f:Wr_ q->p:=by intro h;(iterate 12 refine s1_ ?_);exact h.out):p:=f ⟨h⟩
theorem r13_ {p q:Prop} (h:q) (f:Wr_ q->p:=by intro h;(iterate 13 refine s1_ ?_);exact h.out):p:=f ⟨h⟩
theorem r14_ {p q:Prop} (h:q) (f:Wr_ q->p:=by intro h;(iterate 14 refine s1_ ?_);exact h.out):p:=f ⟨h⟩
theorem r15_ {p q:Prop} (h:q) (f:Wr_ q->p:=by intro h;(iterate 15 refine s1_ ?_);exact h.out):p:=f ⟨h⟩
theorem r16_ {p q:Prop} (h:q) (f:Wr_ q->p:=by intro h;(iterate 16 refine s1_ ?_);exact h.out):p:=f ⟨h⟩
theorem r17_ {p q:Prop} (h:q) (f:Wr_ q->p:=by intro h;(iterate 17 refine s1_ ?_);exact h.out):p:=f ⟨h⟩
theorem r18_ {p q:Prop} (h:q) (f:Wr_ q->p:=by intro h;(iterate 18 refine s1_ ?_);exact h.out):p:=f ⟨h⟩
theorem r19_ {p q:Prop} (h:q) (f:Wr_ q->p:=by intro h;(iterate 19 refine s1_ ?_);exact h.out):p:=f ⟨h⟩
theorem r20_ {p q:Prop} (h:q) (f:Wr_ q->p:=by intro h;(iterate 20 refine s1_ ?_);exact h.out):p:=f ⟨h⟩
theorem r21_ {p q:Prop} (h:q) (f:Wr_ q->p:=by intro h;(iterate 21 refine s1_ ?_);exact h.out):p:=f ⟨h⟩
theorem r22_ {p q:Prop} (h:q) (f:Wr_ q->p:=by intro h;(iterate 22 refine s1_ ?_);exact h.out):p:=f ⟨h⟩
theorem r23_ {p q:Prop} (h:q) (f:Wr_ q->p:=by intro h;(iterate 23 refine s1_ ?_);exact h.out):p:=f ⟨h⟩
theorem r24_ {p q:Prop} (h:q) (f:Wr_ q->p:=by intro h;(iterate 24 refine s1_ ?_);exact h.out):p:=f ⟨h⟩
theorem r25_ {p q:Prop} (h:q) (f:Wr_ q->p:=by intro h;(iterate 25 refine s1_ ?_);exact h.out):p:=f ⟨h⟩
theorem r26_ {p q:Prop} (h:q) (f:Wr_ q->p:=by intro h;(iterate 26 refine s1_ ?_);exact h.out):p:=f ⟨h⟩
theorem r27_ {p q:Prop} (h:q) (f:Wr_ q->p:=by intro h;(iterate 27 refine s1_ ?_);exact h.out):p:=f ⟨h⟩
theorem r28_ {p q:Prop} (h:q) (f:Wr_ q->p:=by intro h;(iterate 28 refine s1_ ?_);exact h.out):p:=f ⟨h⟩
theorem r29_ {p q:Prop} (h:q) (f:Wr_ q->p:=by intro h;(iterate 29 refine s1_ ?_);exact h.out):p:=f ⟨h⟩
theorem r30_ {p q:Prop} (h:q) (f:Wr_ q->p:=by intro h;(iterate 30 refine s1_ ?_);exact h.out):p:=f ⟨h⟩
theorem r31_ {p q:Prop} (h:q) (f:Wr_ q->p:=by intro h;(iterate 31 refine s1_ ?_);exact h.out):p:=f ⟨h⟩
theorem r32_ {p q:Prop} (h:q) (f:Wr_ q->p:=by intro h;(iterate 32 refine s1_ ?_);exact h.out):p:=f ⟨h⟩
theorem r35_ {p q:Prop} (h:q) (f:Wr_ q->p:=by intro h;(iterate 35 refine s1_ ?_);exact h.out):p:=f ⟨h⟩
theorem r38_ {p q:Prop} (h:q) (f:Wr_ q->p:=by intro h;(iterate 38 refine s1_ ?_);exact h.out):p:=f ⟨h⟩
end
end Mv
end
end Go.Proofs.YtbgjkpkakoggbaaGreatDoor
