/-
  Texts that belong together: Mem.
-/
import Derived.Test.YtopiogkolaelnaaGreatDoorBase
import Derived.Orders
import Derived.BigCall
import Derived.Laws.MakeOwn
import Derived.OrdersHeld
import Derived.Deep.Slices
import Derived.ChangeSlices
import Derived.Lib.LazyBuf
import Derived.SizedLaws
import Derived.WideShapes
set_option maxHeartbeats 8000000
set_option maxRecDepth 100000
set_option linter.unusedVariables false
set_option linter.unusedSimpArgs false
set_option linter.unusedSectionVars false
namespace Go.Proofs.YtopiogkolaelnaaGreatDoor
section
open Go.RowKit
theorem vd {p:Prop} (h:p:=by omega):p:=h
abbrev tt:=ByteArray
abbrev tu:=Value
abbrev tv:=World
abbrev tw:=Operand
abbrev tx:=TypeId
abbrev tz:=Program
abbrev tA:=FuncId
namespace Mv

/-! ### Memory that is known -/
structure Blk where
  elem:tx
  cells:List tu
  room:Nat
structure RO where
  c:Addr->Option tu
  z:Nat->Option (List UInt8)
instance : CoeFun RO λ_ => Addr -> Option Value := ⟨RO.c⟩
structure Mem where
  own:Nat->Option Blk
  ro:RO
def Mem.set (S:Mem) (b:Nat) (r:Blk):Mem:=⟨λk=>if k=b then some r else S.own k,S.ro⟩
def Mem.del (S:Mem) (b:Nat):Mem:=⟨λk=>if k=b then none else S.own k,S.ro⟩
theorem vf (S:Mem) (b:Nat) (r:Blk):(S.set b r).own b=some r:=by simp [Mem.set]
theorem vg (S:Mem) {b k:Nat} (r:Blk) (h:k≠b):(S.set b r).own k=S.own k:=by simp [Mem.set,h]
theorem vj (S:Mem) {b k:Nat} (h:k≠b):(S.del b).own k=S.own k:=by simp [Mem.del,h]
theorem Mem.set_set (S:Mem) (b:Nat) (r r':Blk):(S.set b r).set b r'=S.set b r':=by
  unfold Mem.set;congr 1;funext k;by_cases h:k=b <;> simp [h]
theorem Mem.del_set (S:Mem) (b:Nat) (r:Blk) (h:S.own b=none):(S.set b r).del b=S:=by
  cases S;unfold Mem.set Mem.del;congr 1;funext k;by_cases e:k=b
  · subst e;simpa using h.symm
  simp [e]
theorem vC (S:Mem) {b c:Nat} (r r':Blk) (h:b≠c):(S.set b r).set c r'=(S.set c r').set b r:=by
  unfold Mem.set;congr 1;funext k;by_cases A:k=b <;> by_cases I:k=c <;> simp_all
theorem vG (S:Mem) (b:Nat) (r:Blk) (h:S.own b=some r):S.set b r=S:=by
  cases S;unfold Mem.set;congr 1;funext k;by_cases e:k=b
  · subst e;simpa using h.symm
  simp [e]
def Mem.rd (S:Mem) (a:Addr):Option tu :=
  match S.own a.block with
  | some r=>if a.spot.isSome then none else r.cells[a.off]?
  | none=>S.ro a

def FzAt (w:tv) (g:Nat) (l:List UInt8):Prop:=∃ cur hi,w.heap[g]?=some (.cells cur 5 (0,hi))/\l.length<=hi/\(l.map λc=>Value.int .u8 (c.toNat:Int)) <+: cur.toList
theorem FzAt.lt {w:tv} {g:Nat} {l:List UInt8} (h:FzAt w g l):g<w.heap.size:=by
  obtain ⟨cur,hi,A,_⟩:=h;exact (Array.getElem?_eq_some_iff.1 A).1
theorem FzAt.of_block {w w':tv} {g:Nat} {l:List UInt8} (h:FzAt w g l) (e:w'.heap[g]?=w.heap[g]?):FzAt w' g l:=by
  obtain ⟨cur,hi,A,I⟩:=h;exact ⟨cur,hi,e.trans A,I⟩
structure View (S:Mem) (w:World):Prop where
  own:∀ b r,S.own b=some r -> ∃ cur fz,w.heap[b]?=some (.cells cur r.elem fz)/\r.cells <+: cur.toList/\r.room<=cur.size/\(∀ j,j<cur.size\/(j=cur.size/\r.elem≠5) -> ¬ (fz.1<=j/\j<fz.2))
  ro:∀ a v,S.ro a=some v->w.cell? a=some v/\S.own a.block=none
  fz:∀ g l,S.ro.z g=some l->S.own g=none/\(∃ v,S.ro ⟨g,0,none⟩=some v)/\FzAt w g l

theorem View.lt {S:Mem} {w:tv} (h:View S w) {b:Nat} {r:Blk} (A:S.own b=some r):b<w.heap.size:=by
  obtain ⟨cur,fz,I,_⟩:=h.own b r A;exact (Array.getElem?_eq_some_iff.1 I).1
theorem View.fzOf {S S':Mem} {w w':tv} (h:View S w) (I:S'.ro=S.ro) (V:∀ k,S.own k=none->k<w.heap.size->S'.own k=none) (hb:∀ k,k<w.heap.size->S.own k=none->w'.heap[k]?=w.heap[k]?) :
    ∀ g l,S'.ro.z g=some l->S'.own g=none/\(∃ v,S'.ro ⟨g,0,none⟩=some v)/\FzAt w' g l:=λg l J=>by
  rw [I] at J ⊢;obtain ⟨U,h2,A⟩:=h.fz g l J;exact ⟨V g U A.lt,h2,A.of_block (hb g A.lt U)⟩
theorem zep {S:Mem} {b k n:Nat} {r:Blk} (A:n<=b) (h:S.own k=none) (I:k<n):(S.set b r).own k=none:=by
  rw [vg _ _ vd];exact h
theorem View.fresh {S:Mem} {w:tv} (h:View S w):S.own w.heap.size=none:=by
  cases e:S.own w.heap.size with
  | none=>rfl
  | some r=>exact absurd (h.lt e) (Nat.lt_irrefl _)
theorem zcb {α : Type} {l m:List α} (h:l <+: m) {j:Nat} {v : α} (A:l[j]?=some v):m[j]?=some v:=by
  obtain ⟨t,rfl⟩:=h;have:j<l.length:=by
    rcases Nat.lt_or_ge j l.length with h | h
    · exact h
    rw [List.getElem?_eq_none h] at A;cases A
  rw [List.getElem?_append_left this];exact A
theorem View.rd {S:Mem} {w:tv} (h:View S w) {a:Addr} {v:tu} (A:S.rd a=some v):w.cell? a=some v:=by
  unfold Mem.rd at A;cases e:S.own a.block with
  | none=>simp only [e] at A;exact (h.ro a v A).1
  | some r =>
    simp only [e] at A;obtain ⟨cur,fz,I,J,_⟩:=h.own _ _ e;split at A
    · cases A
    rename_i hs;have:=zcb J A;simp only [World.cell?,I,hs];simpa using this

structure Step (S:Mem) (w:World) (S':Mem) (w':World):Prop where
  view:View S' w'
  os:w'.os=w.os
  tape:w'.tape=w.tape
  output:w'.output=w.output
  size:w.heap.size<=w'.heap.size
  block:∀ k,k<w.heap.size->S.own k=none->w'.heap[k]?=w.heap[k]?
  dom:∀ k,S'.own k≠none->S.own k≠none\/w.heap.size<=k
  ro:∀ a v,S'.ro a=some v->S.ro a=some v\/S.own a.block≠none\/w.heap.size<=a.block
theorem Step.refl {S:Mem} {w:tv} (h:View S w):Step S w S w:=⟨h,rfl,rfl,rfl,Nat.le_refl _,λ_ _ _=>rfl,λ_ h=>.inl h,λ_ _ h=>.inl h⟩
theorem Step.trans {S I U:Mem} {w V w2:tv} (h:Step S w I V) (k:Step I V U w2):Step S w U w2 :=
  ⟨k.view,k.os.trans h.os,k.tape.trans h.tape,k.output.trans h.output,Nat.le_trans h.size k.size,λb A J=>by
    have h1:I.own b=none:=by
      cases e:I.own b with
      | none=>rfl
      | some r =>
        rcases h.dom b (by rw [e];simp) with x | x
        · exact absurd J x
        omega
    exact (k.block b (Nat.lt_of_lt_of_le A h.size) h1).trans (h.block b A J),λb A=>by
      rcases k.dom b A with x | x
      · exact h.dom b x
      · exact .inr (Nat.le_trans h.size x),λa v hv=>by
      rcases k.ro a v hv with x | x | x
      · exact h.ro a v x
      · exact .inr (h.dom _ x)
      exact .inr (.inr (Nat.le_trans h.size x))⟩
def Mem.Less (S' S:Mem):Prop:=(∀ b r,S'.own b=some r->S.own b=some r)/\S'.ro=S.ro
theorem Mem.Less.refl (S:Mem):S.Less S:=⟨λ_ _ h=>h,rfl⟩
theorem Mem.Less.trans {S S' A:Mem} (h:A.Less S') (k:S'.Less S):A.Less S:=⟨λb r x=>k.1 b r (h.1 b r x),h.2.trans k.2⟩
theorem vh (S:Mem) (b:Nat) (r:Blk) (h:S.own b=none):S.Less (S.set b r) :=
  ⟨λk r' A => by
    by_cases e : k = b
    · subst e;rw [h] at A;cases A
    rw [vg _ _ e];exact A,rfl⟩
theorem View.less {S S':Mem} {w:tv} (h:View S w) (A:S'.Less S):View S' w :=
  ⟨λb r J=>h.own b r (A.1 b r J),λa v I=>by
    rw [A.2] at I;refine ⟨(h.ro a v I).1,?_⟩;cases e:S'.own a.block with
    | none=>rfl
    | some r=>(have:=A.1 _ _ e;rw [(h.ro a v I).2] at this;cases this),h.fzOf A.2 (λk U _=>by
    cases e:S'.own k with
    | none=>rfl
    | some r=>have:=A.1 _ _ e;rw [U] at this;cases this) λ_ _ _=>rfl⟩
theorem Step.less {S S' A:Mem} {w w':tv} (h:Step S w S' w') (I:A.Less S'):Step S w A w' :=
  ⟨h.view.less I,h.os,h.tape,h.output,h.size,h.block,λk J=>h.dom k (by
    cases e:A.own k with
    | none=>exact absurd e J
    | some r=>rw [I.1 _ _ e];simp),λa v U=>h.ro a v (by rw [<- I.2];exact U)⟩
theorem Step.lessL {S S0 S':Mem} {w w':tv} (h:Step S0 w S' w') (A:S0.Less S):Step S w S' w' :=
  ⟨h.view,h.os,h.tape,h.output,h.size,λk I J=>h.block k I (by
    cases e:S0.own k with
    | none=>rfl
    | some r=>have:=A.1 _ _ e;rw [J] at this;cases this),λk I=>by
      rcases h.dom k I with x | x
      · cases e:S0.own k with
        | none=>exact absurd e x
        | some r=>exact .inl (by rw [A.1 _ _ e];simp)
      · exact .inr x,λa v U=>by
      rcases h.ro a v U with x | x | x
      · exact .inl (by rw [<- A.2];exact x)
      · refine .inr (.inl ?_);cases e:S0.own a.block with
        | none=>exact absurd e x
        | some r=>rw [A.1 _ _ e];simp
      exact .inr (.inr x)⟩
theorem View.drawn {S:Mem} {w:tv} (h:View S w) (n:Nat):View S { w with drawn:=n }:=⟨h.own,h.ro,h.fz⟩
theorem Step.drawn {S:Mem} {w:tv} (h:View S w) (n:Nat):Step S w S { w with drawn:=n }:=⟨h.drawn n,rfl,rfl,rfl,Nat.le_refl _,λ_ _ _=>rfl,λ_ h=>.inl h,λ_ _ h=>.inl h⟩
theorem View.below {S:Mem} {w w':tv} (h:View S w) (A:Below w.heap.size w w'):View S w' :=
  ⟨λb r V=>by rw [A.block b (h.lt V)];exact h.own b r V,λa v ha=>by
    obtain ⟨J,I⟩:=h.ro a v ha;exact ⟨cell_later A J,I⟩,λg l hg=>by
    obtain ⟨J,I,U⟩:=h.fz g l hg;exact ⟨J,I,U.of_block (A.block g U.lt)⟩⟩
theorem Step.below {S:Mem} {w w':tv} (h:View S w) (A:Below w.heap.size w w'):Step S w S w' :=
  ⟨h.below A,A.os,A.tape,A.output,A.size,λk I _=>A.block k I,λ_ h=>.inl h,λ_ _ h=>.inl h⟩
theorem Step.toBelow {S S':Mem} {w w':tv} (h:Step S w S' w') (I:∀ k,S.own k=none):Below w.heap.size w w' :=
  ⟨h.os,h.tape,h.output,h.size,λk A=>h.block k A (I k)⟩

/-! ### What is known of the slots -/
abbrev Env:=List (Nat × tu)
def lk:Env->Nat->Option tu
  | [],_=>none
  | (k,v) :: E,d=>if k=d then some v else lk E d
def Sub:Env->Env->Prop
  | [],_=>True
  | (k,v) :: E',E=>lk E k=some v/\Sub E' E
theorem Sub.lk {E' E:Env} (h:Sub E' E) {d:Nat} {v:tu} (hd:Mv.lk E' d=some v):Mv.lk E d=some v:=by
  induction E' with
  | nil=>cases hd
  | cons p E' A =>
    obtain ⟨k,u⟩:=p;simp only [Mv.lk] at hd;split at hd
    · rename_i e;subst e;cases hd;exact h.1
    exact A h.2 hd
def ev (E:Env):tw->Option tu
  | .tmp t=>lk E t
  | .const v=>some v
  | .global g=>some (.pointer (some ⟨g,0,none⟩))
  | .func f=>some (.func (.func f) #[] #[])
def evs (E:Env):List tw->Option (List tu)
  | []=>some []
  | x :: xs=>match ev E x,evs E xs with
    | some v,some vs=>some (v :: vs)
    | _,_=>none
structure Good (N:Nat) (E:Env) (a:Act):Prop where
  size:a.tmps.size=N
  defers:a.defers = []
  at_:∀ d v,lk E d=some v->a.tmps.getD d undef=v
theorem Good.ev {N:Nat} {E:Env} {a:Act} (h:Good N E a) {x:tw} {v:tu} (A:Mv.ev E x=some v):a.eval x=v:=by
  cases x with
  | tmp t=>exact h.at_ t v A
  | const u=>cases A;rfl
  | global g=>cases A;rfl
  | func f=>cases A;rfl
theorem Good.evs {N:Nat} {E:Env} {a:Act} (h:Good N E a) {xs:List tw} {vs:List tu} (A:Mv.evs E xs=some vs):xs.map a.eval=vs:=by
  induction xs generalizing vs with
  | nil=>cases A;rfl
  | cons x xs U =>
    simp only [Mv.evs] at A;split at A
    · rename_i v I V J;cases A;simp only [List.map_cons,h.ev V,U J]
    cases A
theorem Good.sub {N:Nat} {E E':Env} {a:Act} (h:Good N E a) (hs:Sub E' E):Good N E' a:=⟨h.size,h.defers,λd v hd=>h.at_ d v (hs.lk hd)⟩
theorem zmS (T:Array tu) (d:Nat) (v:tu) (h:d<T.size) (k:Nat):(T.setIfInBounds d v).getD k undef=if d=k then v else T.getD k undef:=by
  simp only [Array.getD_eq_getD_getElem?,Array.getElem?_setIfInBounds];by_cases e:d=k
  · subst e;simp [h]
  simp [e]
theorem Good.put {N:Nat} {E:Env} {a:Act} (h:Good N E a) {d:Nat} (hd:d<N) (v:tu):Good N ((d,v) :: E) (a.put (some d) v):=by
  refine ⟨by simp [Act.put,h.size],h.defers,λk u A=>?_⟩;simp only [Act.put,zmS _ _ _ (by rw [h.size];exact hd)];simp only [lk] at A;split at A
  · rename_i e;cases A;rw [if_pos e]
  rename_i e;rw [if_neg e];exact h.at_ k u A
theorem Good.put0 {N:Nat} {E:Env} {a:Act} (h:Good N E a) (v:tu):Good N E (a.put none v):=⟨h.size,h.defers,h.at_⟩

/-! ### Operations -/
section
variable {P:tz} {N:Nat} {ops:Array Oper}
def Post (N:Nat) (K:Env->Mem->Prop) (S:Mem) (w:tv) (a':Act) (w':tv):Prop:=∃ E' S',K E' S'/\Good N E' a'/\Step S w S' w'
def noQ:Exit->Act->tv->Prop:=λ_ _ _=>False
def AOp (P:tz) (N:Nat) (ops:Array Oper) (o:Oper) (K:Env->Mem->Prop) (E:Env) (S:Mem):Prop :=
  ∀ a w,Good N E a->View S w ->
    if Region.wanted o (yielded ops a.tmps) then o.wp P a w (Post N K S w) noQ else Post N K S w (a.put o.dst undef) w
def ARun (P:tz) (N:Nat) (ops:Array Oper):List Oper->(Env->Mem->Prop)->Env->Mem->Prop
  | [],K,E,S=>K E S
  | o :: os,K,E,S=>AOp P N ops o (λE' S'=>ARun P N ops os K E' S') E S
theorem zdS {o:Oper} {a:Act} {K:Act->tv->Prop} {Q:Exit->Act->tv->Prop} {r:Result Next} (h:o.upon P a K noQ r):o.upon P a K Q r:=by
  cases r with
  | ok n w' =>
    cases n <;> simp only [Oper.upon] at h ⊢ <;> first | exact h | skip
    exact Calls.mono h λe I A=>by
      cases e with
      | returned u=>exact A
      | panicked c=>exact A.elim
      | outgrown=>obtain ⟨_,_,x⟩:=A;exact x.elim
  | halt x w'=>cases x <;> simp only [Oper.upon] at h ⊢ <;> first | exact h | exact (h:False).elim
theorem Post.mono {K K':Env->Mem->Prop} {S:Mem} {w:tv} {A:Act} {w':tv} (h:∀ E S,K E S->K' E S) (x:Post N K S w A w'):Post N K' S w A w' :=
  let ⟨E',S',k,g,s⟩:=x;⟨E',S',h _ _ k,g,s⟩
theorem ARun.wp {l:List Oper}:∀ {K:Env->Mem->Prop} {E:Env} {S:Mem},ARun P N ops l K E S -> ∀ {Q:Exit->Act->tv->Prop} (a:Act) (w:tv),Good N E a->View S w ->
    (∀ A w',Post N K S w A w'->Q .normal A w')->wpList P ops Q l a w:=by
  induction l with
  | nil=>exact λ{K E S} h Q a w hg V hq=>hq a w ⟨E,S,h,hg,Step.refl V⟩
  | cons o os ih =>
    intro K E S h Q a w hg V hq;have J:=h a w hg V;have next:∀ I U,Post N (λE' S'=>ARun P N ops os K E' S') S w I U->wpList P ops Q os I U:=λI U ⟨E1,S1,r,g1,s1⟩ =>
      ih r I U g1 s1.view λA w' ⟨E2,S2,k,g2,s2⟩=>hq A w' ⟨E2,S2,k,g2,s1.trans s2⟩
    unfold wpList;split
    · rename_i hw;rw [if_pos hw] at J;exact .inl (zdS (Oper.wp_mono next J))
    rename_i hw;rw [if_neg hw] at J;exact next _ _ J

/-! ### Code -/
def AWP (P:tz) (N:Nat) (c:Code) (Q:Exit->Env->Mem->Prop) (E:Env) (S:Mem):Prop :=
  ∀ a w,Good N E a->View S w->c.wp P (λe a' w'=>Post N (Q e) S w a' w') a w
def Athen (next:Env->Mem->Prop) (Q:Exit->Env->Mem->Prop):Exit->Env->Mem->Prop
  | .normal=>next
  | e=>Q e
variable {Q:Exit->Env->Mem->Prop} {E:Env} {S:Mem}
theorem AWP.mono {c:Code} {A:Exit->Env->Mem->Prop} (h:AWP P N c Q E S) (I:∀ e E S,Q e E S->A e E S):AWP P N c A E S:=λa w J U =>
  wp_mono (h a w J U) λe _ _ x=>x.mono (I e)
theorem AWP.sub {c:Code} (E':Env) (hs:Sub E' E) (h:AWP P N c Q E' S):AWP P N c Q E S:=λa w A I=>h a w (A.sub hs) I
theorem AWP.less {c:Code} (S':Mem) (hs:S'.Less S) (h:AWP P N c Q E S'):AWP P N c Q E S:=λa w I U =>
  wp_mono (h a w I (U.less hs)) λ_ _ _ ⟨A,J,k,g,s⟩=>⟨A,J,k,g,s.lessL hs⟩
theorem AWP.seq {x y:Code} (h:AWP P N x (Athen (AWP P N y Q) Q) E S):AWP P N (.seq x y) Q E S:=λa w hg hv=>by
  refine wp_seq (wp_mono (h a w hg hv) λe a1 w1 ⟨A,I,k,g,s⟩=>?_);cases e with
  | normal=>exact wp_mono (k a1 w1 g s.view) λe a2 w2 ⟨U,S2,J,V,s2⟩=>⟨U,S2,J,V,s.trans s2⟩
  | exit id=>exact ⟨A,I,k,g,s⟩
  | goto l=>exact ⟨A,I,k,g,s⟩
  | ret=>exact ⟨A,I,k,g,s⟩
  | panic c=>exact ⟨A,I,k,g,s⟩
  | outgrown=>exact ⟨A,I,k,g,s⟩
theorem AWP.skip (h:Q .normal E S):AWP P N .skip Q E S:=λa w A I=>wp_skip ⟨E,S,h,A,Step.refl I⟩
theorem AWP.ret (h:Q .ret E S):AWP P N .ret Q E S:=λa w A I=>wp_ret ⟨E,S,h,A,Step.refl I⟩
theorem AWP.exit {id:Nat} (h:Q (.exit id) E S):AWP P N (.exit id) Q E S:=λa w A I=>wp_exit ⟨E,S,h,A,Step.refl I⟩
theorem AWP.cond {c:tw} {x y:Code} (t:Bool) (hc:ev E c=some (.bool t)) (h:AWP P N (if t then x else y) Q E S):AWP P N (.cond c x y) Q E S:=λa w A I =>
  wp_cond (A.ev hc) (h a w A I)
theorem AWP.condT {c:tw} {x y:Code} {t:Bool} (hc:ev E c=some (.bool t)) (A:t=true) (h:AWP P N x Q E S):AWP P N (.cond c x y) Q E S:=AWP.cond t hc (by rw [A];exact h)
theorem AWP.condF {c:tw} {x y:Code} {t:Bool} (hc:ev E c=some (.bool t)) (A:t=false) (h:AWP P N y Q E S):AWP P N (.cond c x y) Q E S:=AWP.cond t hc (by rw [A];exact h)
theorem vp {c:tw} {x y:Code} {t:Bool} (hc:ev E c=some (.bool t)) (I:t=true->AWP P N x Q E S) (A:t=false->AWP P N y Q E S):AWP P N (.cond c x y) Q E S:=AWP.cond t hc (by cases t;exact A rfl;exact I rfl)
def AinBlock (id:Nat) (Q:Exit->Env->Mem->Prop):Exit->Env->Mem->Prop
  | .exit id'=>if id'=id then Q .normal else Q (.exit id')
  | e=>Q e
theorem AWP.block {id:Nat} {c:Code} (h:AWP P N c (AinBlock id Q) E S):AWP P N (.block id c) Q E S:=λa w V U =>
  wp_block (wp_mono (h a w V U) λe a1 w1 x=>by
    cases e with
    | exit J =>
      simp only [Exit.inBlock];obtain ⟨A,I,k,g,s⟩:=x;simp only [AinBlock] at k;split
      · rename_i e;rw [if_pos e] at k;exact ⟨A,I,k,g,s⟩
      rename_i e;rw [if_neg e] at k;exact ⟨A,I,k,g,s⟩
    | normal=>exact x
    | goto l=>exact x
    | ret=>exact x
    | panic c=>exact x
    | outgrown=>exact x)
theorem AWP.region {id:Nat} {l:List Oper} (h:ARun P N l.toArray l (Q .normal) E S):AWP P N (.region id l.toArray false) Q E S:=λa w A I =>
  wp_region_lit (h.wp a w A I λ_ _ x=>x)
theorem zp1 {P:tz} {c:Code} {Q:Exit->Act->tv->Prop} {X:Type} (I:X->Act->tv->Prop) (μ : X->Nat) (x0:X) {a:Act} {w:tv} (h0:I x0 a w)
    (V:∀ x a w,I x a w->c.wp P (Exit.then (λa' w'=>∃ x',I x' a' w' /\ μ x' < μ x) Q) a w):(Code.loop c).wp P Q a w:=by
  intro b k cs;have key:∀ n x a w,μ x=n->I x a w -> ∃ e a' w',Q e a' w'/\Arrives P (lone (b.at a (.code c :: .inLoop c :: k)) cs w) b k cs e a' w':=by
    intro n
    induction n using Nat.strongRecOn with
    | _ n ih =>
      intro x a w hn hI;obtain ⟨e,a1,w1,J,A⟩:=V x a w hI b (.inLoop c :: k) cs;cases e with
      | normal =>
        obtain ⟨x',ae,af⟩:=J;obtain ⟨e2,a2,w2,ag,U⟩:=ih (μ x') (hn ▸ af) x' a1 w1 rfl ae;exact ⟨e2,a2,w2,ag,.of_steps (Steps.trans A (.one step_inLoop)) U⟩
      | exit id=>exact ⟨_,a1,w1,J,.pass (x:=.inLoop c) rfl (λ_ _=>.inl (by simp)) A⟩
      | goto l=>exact ⟨_,a1,w1,J,.pass (x:=.inLoop c) rfl (λ_ _=>.inl (by simp)) A⟩
      | ret=>exact ⟨_,a1,w1,J,.pass (x:=.inLoop c) rfl (λ_ _=>.inl (by simp)) A⟩
      | panic ch=>exact ⟨_,a1,w1,J,.pass (x:=.inLoop c) rfl (λ_ _=>.inl (by simp)) A⟩
      | outgrown=>exact ⟨_,a1,w1,J,.pass (x:=.inLoop c) rfl (λ_ _=>.inl (by simp)) A⟩
  obtain ⟨e,a',w',J,A⟩:=key _ x0 a w rfl h0;exact ⟨e,a',w',J,.of_steps (.one step_loop) A⟩
theorem AWP.loop {X:Type} {c:Code} (st:X->Env) (m:X->Mem) (ok:X->Prop) (μ : X->Nat) (x0:X) (hE:Sub (st x0) E) (hm:(m x0).Less S) (h0:ok x0)
    (I:∀ x,ok x->AWP P N c (Athen (λE' S'=>∃ x',Sub (st x') E'/\(m x').Less S'/\ok x' /\ μ x' < μ x) Q) (st x) (m x)):AWP P N (.loop c) Q E S:=λa w hg hv=>by
  refine zp1 (λx a' w'=>Good N (st x) a'/\Step S w (m x) w'/\ok x) μ x0 ⟨hg.sub hE,(Step.refl hv).less hm,h0⟩ λx a1 w1 ⟨h1,A,h3⟩=>?_;refine wp_mono (I x h3 a1 w1 h1 A.view) λe a2 w2 ⟨J,U,k,g,s⟩=>?_;cases e with
  | normal=>obtain ⟨x',hs,V,ho,hl⟩:=k;exact ⟨x',⟨g.sub hs,(A.trans s).less V,ho⟩,hl⟩
  | exit id=>exact ⟨J,U,k,g,A.trans s⟩
  | goto l=>exact ⟨J,U,k,g,A.trans s⟩
  | ret=>exact ⟨J,U,k,g,A.trans s⟩
  | panic c=>exact ⟨J,U,k,g,A.trans s⟩
  | outgrown=>exact ⟨J,U,k,g,A.trans s⟩
end
end Mv
open Go.RowKit
namespace Mv
theorem zaE (b o j:Nat):(⟨b,o,none⟩ : Addr).add j=⟨b,o+j,none⟩:=by unfold Addr.add;split <;> simp_all
theorem zfs (S:Mem) (b j:Nat) (r:Blk):(S.set b r).rd ⟨b,j,none⟩=r.cells[j]?:=by simp [Mem.rd,Mem.set]
theorem zh_ (S:Mem) {b:Nat} (r:Blk) {a:Addr} (h:a.block≠b):(S.set b r).rd a=S.rd a:=by simp [Mem.rd,Mem.set,h]
theorem zdv {S:Mem} {b:Nat} {r:Blk} (h:S.own b=some r) (j:Nat):S.rd ⟨b,j,none⟩=r.cells[j]?:=by simp [Mem.rd,h]
def Fresh (S:Mem) (b:Nat):Prop:=S.own b=none /\ ∀ a v,S.ro a=some v->a.block≠b
theorem Fresh.own {S:Mem} {b:Nat} (h:Fresh S b):S.own b=none:=h.1
theorem Fresh.ne {S:Mem} {b p:Nat} {r:Blk} (h:Fresh S b) (A:S.own p=some r):p≠b:=λe=>by subst e;rw [h.1] at A;cases A
theorem Fresh.ne' {S:Mem} {b p:Nat} {r:Blk} (h:Fresh S b) (A:S.own p=some r):b≠p:=(h.ne A).symm
theorem View.freshAt {S:Mem} {w:tv} (h:View S w):Fresh S w.heap.size:=⟨h.fresh,λa v A e=>by
  have:=World.block_lt_of_cell? _ _ (h.ro a v A).1;omega⟩
theorem Fresh.less {S S':Mem} {b:Nat} (h:Fresh S b) (A:S'.Less S):Fresh S' b:=by
  refine ⟨?_,λa v I=>h.2 a v (by rw [<- A.2];exact I)⟩;cases e:S'.own b with
  | none=>rfl
  | some r=>have:=A.1 _ _ e;rw [h.1] at this;cases this
theorem zaa {S:Mem} {b c:Nat} {r:Blk} (h:Fresh (S.set c r) b):Fresh S b/\b≠c:=by
  obtain ⟨I,J⟩:=h;have A:b≠c:=λe=>by subst e;simp [Mem.set] at I
  exact ⟨⟨by simpa [Mem.set,A] using I,J⟩,A⟩

/-! ### What a type is -/
def plainT (P:tz) (T:tx):Bool:=match P.underlying T with | none=>false | some (.struct _) | some (.array _ _)=>false | some _=>true
def aggT (P:tz) (T:tx):Bool:=match P.underlying T with | some (.struct _) | some (.array _ _)=>true | _=>false
def sizeT (P:tz) (T:tx):Option Nat:=(P.info? T).map (·.size)
def fieldT (P:tz) (T:tx) (f:Nat):Option (Nat × Nat):=match P.underlying T with
  | some (.struct fs)=>match (fs[f]? : Option Field) with
    | some g=>match P.info? g.type with
      | some i=>some (g.offset,i.size)
      | none=>none
    | none=>none
  | _=>none
theorem zcM {P:tz} {T:tx} (h:plainT P T=true) (w:tv):(isAgg T).run P w = .ok false w:=by
  unfold plainT at h;cases e:P.underlying T with
  | none=>simp [e] at h
  | some d =>
    unfold isAgg;rw [Sem.run_bind,run_underlying e w];cases d <;> simp_all
theorem zdB {P:tz} {T:tx} (h:aggT P T=true) (w:tv):(isAgg T).run P w = .ok true w:=by
  unfold aggT at h;cases e:P.underlying T with
  | none=>simp [e] at h
  | some d =>
    unfold isAgg;rw [Sem.run_bind,run_underlying e w];cases d <;> simp_all
theorem zaZ {P:tz} {T:tx} {n:Nat} (h:sizeT P T=some n) (w:tv):(sizeOf T).run P w = .ok n w:=by
  unfold sizeT at h;cases e:P.info? T with
  | none=>simp [e] at h
  | some i=>simp [e] at h;simp [sizeOf,typeInfo,e,h]

section
variable {P:tz} {N:Nat} {ops:Array Oper} {E:Env} {S:Mem} {K:Env->Mem->Prop}
def ACalm (P:tz) (N:Nat) (o:Oper) (E:Env) (S:Mem) (v:tu):Prop:=∀ a w,Good N E a->View S w->(execOp a.eval o).run P w = .ok (.value v) w
theorem tj {o:Oper} {os:List Oper} {d:Nat} {v:tu} (I:o.guard=none) (hd:o.dst=some d) (J:d<N) (hc:ACalm P N o E S v) (h:ARun P N ops os K ((d,v) :: E) S):ARun P N ops (o :: os) K E S:=λa w g A=>by
  rw [if_pos (by simp [Region.wanted,I])];unfold Oper.wp;rw [hc a w g A];exact ⟨_,_,h,by rw [hd];exact g.put J v,Step.refl A⟩
theorem zcc {N:Nat} {E:Env} {a:Act} (g:Good N E a) {j d:Nat} {I:Oper} (hj:ops[j]?=some I) (hd:I.dst=some d) (U:d<N) {b:Bool} (J:lk E d=some (.bool b)):yielded ops a.tmps j=some b:=by
  have A:=g.at_ d _ J;have V:a.tmps[d]?=some (Value.bool b):=by
    rw [Array.getD_eq_getD_getElem?] at A;have:d<a.tmps.size:=(by rw [g.size];exact U);rw [Array.getElem?_eq_getElem this] at A ⊢;simpa using A
  simp [yielded,hj,hd,V]
theorem u9 {o:Oper} {os:List Oper} {d:Nat} {v:tu} (j:Nat) (t:Bool) (dj:Nat) (hg:o.guard=some (j,t)) (I:(ops[j]?).bind (·.dst)=some dj) (A:dj<N) (U:lk E dj=some (.bool t)) (hd:o.dst=some d) (V:d<N) (hc:ACalm P N o E S v) (h:ARun P N ops os K ((d,v) :: E) S):ARun P N ops (o :: os) K E S:=λa w g J=>by
  cases e:ops[j]? with
  | none=>simp [e] at I
  | some og =>
    simp [e] at I;rw [if_pos (by simp [Region.wanted,hg,zcc g e I A U])];unfold Oper.wp;rw [hc a w g J];exact ⟨_,_,h,by rw [hd];exact g.put V v,Step.refl J⟩
theorem tb {o:Oper} {os:List Oper} {d:Nat} (j:Nat) (t u:Bool) (dj:Nat) (hg:o.guard=some (j,t)) (I:(ops[j]?).bind (·.dst)=some dj) (A:dj<N) (U:lk E dj=some (.bool u)) (J:(u == t)=false) (hd:o.dst=some d) (V:d<N) (h:ARun P N ops os K ((d,undef) :: E) S):ARun P N ops (o :: os) K E S:=λa w g hv=>by
  cases e:ops[j]? with
  | none=>simp [e] at I
  | some og =>
    simp [e] at I;rw [if_neg (by simp [Region.wanted,hg,zcc g e I A U];intro x;subst x;simp at J)];exact ⟨_,_,h,by rw [hd];exact g.put V _,Step.refl hv⟩

/-! #### Operations that only look -/
variable {dst:Option Nat} {ty:tx} {pos:String} {aft:Array Edge} {gd:Option (Nat × Bool)}
theorem Calm.move {x:tw} {v:tu} (A:ev E x=some v):ACalm P N ⟨dst,.move x,ty,pos,aft,gd⟩ E S v:=λa w g I=>by
  simp [execOp,g.ev A]
theorem Calm.assign {x:tw} {v:tu} (A:ev E x=some v):ACalm P N ⟨dst,.assign x,ty,pos,aft,gd⟩ E S v:=λa w g I=>by
  simp [execOp,g.ev A]
theorem uf {c x y:tw} {v:tu} (hc:ev E c=some (.bool true)) (A:ev E x=some v):ACalm P N ⟨dst,.pick c x y,ty,pos,aft,gd⟩ E S v:=λa w g I=>by
  simp [execOp,g.ev hc,g.ev A,asBool]
theorem ug {c x y:tw} {v:tu} (hc:ev E c=some (.bool false)) (A:ev E y=some v):ACalm P N ⟨dst,.pick c x y,ty,pos,aft,gd⟩ E S v:=λa w g I=>by
  simp [execOp,g.ev hc,g.ev A,asBool]
def Bin (P:tz) (op:BinOp) (xt:tx) (x y:tw) (vx vy v:tu):Prop:=∀ w,(do eqGuard op xt x y vx vy;binOp op xt vx vy:Sem tu).run P w = .ok v w
theorem vi {op:BinOp} {A U:tx} {x y:tw} {vx vy v:tu} (I:ev E x=some vx) (J:ev E y=some vy) (h:Bin P op A x y vx vy v):ACalm P N ⟨dst,.binOp op A x y U,ty,pos,aft,gd⟩ E S v:=λa w g V=>by
  have:=h w;simp only [execOp,g.ev I,g.ev J];rw [Sem.run_bind,this];rfl
def Una (P:tz) (op:UnOp) (vx v:tu):Prop:=∀ w,(Op.unary op vx).run P w = .ok v w
theorem Calm.un {op:UnOp} {A:tx} {x:tw} {vx v:tu} (I:ev E x=some vx) (h:Una P op vx v):ACalm P N ⟨dst,.unOp op A x,ty,pos,aft,gd⟩ E S v:=λa w g J=>by
  simp only [execOp,g.ev I];rw [Sem.run_bind,h w];rfl
def Conv (P:tz) (src dst:tx) (vx v:tu):Prop:=∀ w,(convert src dst vx).run P w = .ok v w
theorem Calm.conv {s t:tx} {x:tw} {vx v:tu} (A:ev E x=some vx) (h:Conv P s t vx v):ACalm P N ⟨dst,.convert s t x,ty,pos,aft,gd⟩ E S v:=λa w g I=>by
  simp only [execOp,g.ev A];rw [Sem.run_bind,h w];rfl
theorem Calm.extract {x:tw} {i:Nat} {vs:Array tu} {v:tu} (A:ev E x=some (.tuple vs)) (h:vs[i]?=some v):ACalm P N ⟨dst,.extract x i,ty,pos,aft,gd⟩ E S v:=λa w g I=>by
  simp [execOp,g.ev A,Instr.extract,h]
theorem Calm.nilCheck {x:tw} {a:Addr} (A:ev E x=some (.pointer (some a))):ACalm P N ⟨dst,.nilCheck x,ty,pos,aft,gd⟩ E S (.pointer (some a)):=λa w g I=>by
  simp [execOp,g.ev A]
theorem Calm.load {T:tx} {x:tw} {a:Addr} {v:tu} (I:plainT P T=true) (A:ev E x=some (.pointer (some a))) (J:S.rd a=some v):ACalm P N ⟨dst,.load T x,ty,pos,aft,gd⟩ E S v:=λc w g U=>by
  simp [execOp,g.ev A,Instr.loadAt,Instr.sureAddr,loadVar,zcM I w,U.rd J]
def Mem.rds (S:Mem) (a:Addr) (cs:List tu):Prop:=∀ j v,cs[j]?=some v->S.rd (a.add j)=some v
theorem zmT (S:Mem) (a:Addr):S.rds a []:=λj v h=>by simp at h
theorem zkA {S:Mem} {b o:Nat} {v:tu} {cs:List tu} (h:S.rd ⟨b,o,none⟩=some v) (hs:S.rds ⟨b,o+1,none⟩ cs):S.rds ⟨b,o,none⟩ (v :: cs):=λj u A=>by
  cases j with
  | zero=>simp at A;subst A;rw [zaE];exact h
  | succ j=>simp at A;have:=hs j u A;rw [zaE] at this ⊢;rw [show o+(j+1)=o+1+j from by omega];exact this
theorem zb_ {S:Mem} {b:Nat} {r:Blk} (h:S.own b=some r):S.rds ⟨b,0,none⟩ r.cells:=λj v A=>by
  rw [zaE,zdv h,Nat.zero_add];exact A
theorem View.rds {w:tv} (h:View S w) {a:Addr} {cs:List tu} (A:S.rds a cs):(loadCells a cs.length).run P w = .ok cs.toArray w :=
  run_loadCells_list w a cs λj v I=>h.rd (A j v I)
theorem u7 {T:tx} {x:tw} {a:Addr} {cs:List tu} (I:aggT P T=true) (hs:sizeT P T=some cs.length) (A:ev E x=some (.pointer (some a))) (J:S.rds a cs):ACalm P N ⟨dst,.load T x,ty,pos,aft,gd⟩ E S (.agg cs.toArray):=λc w g U=>by
  simp [execOp,g.ev A,Instr.loadAt,Instr.sureAddr,loadVar,zdB I w,zaZ hs w,U.rds (P:=P) J]
theorem Calm.fieldAddr {T:tx} {x:tw} {f b o off n:Nat} (A:fieldT P T f=some (off,n+1)) (I:ev E x=some (.pointer (some ⟨b,o,none⟩))):ACalm P N ⟨dst,.fieldAddr T x f,ty,pos,aft,gd⟩ E S (.pointer (some ⟨b,o+off,none⟩)):=λc w g U=>by
  unfold fieldT at A;cases e:P.underlying T with
  | none=>simp [e] at A
  | some d =>
    cases d <;> simp [e] at A;rename_i J;cases e1:J[f]? with
    | none=>simp [e1] at A
    | some gf =>
      simp [e1] at A;cases e2:P.info? gf.type with
      | none=>simp [e2] at A
      | some i =>
        simp [e2] at A;simp [execOp,g.ev I,Instr.fieldAt,run_underlying e w,e1,Instr.sureAddr,fieldPlace,sizeOf,typeInfo,e2,A.2,zaE,A.1]
theorem vK {T e:tx} {x i:tw} {b o len cap n:Nat} {k:IntKind} {j:Int} (U:P.underlying T=some (.slice e)) (A:sizeT P e=some n) (I:ev E x=some (.slice (some ⟨b,o,none⟩) len cap)) (hi:ev E i=some (.int k j)) (J:0<=j) (V:j<len) :
    ACalm P N ⟨dst,.indexAddr T x i,ty,pos,aft,gd⟩ E S (.pointer (some ⟨b,o+j.toNat*n,none⟩)):=λc w g hv=>by
  simp [execOp,g.ev I,g.ev hi,Instr.indexAt,asIntOf,run_underlying U w,zaZ A w,J,V,zaE]
theorem uZ {T e:tx} {x i:tw} {b o len n:Nat} {k:IntKind} {j:Int} (U:P.underlying T=some (.array len e)) (A:sizeT P e=some n) (I:ev E x=some (.pointer (some ⟨b,o,none⟩))) (hi:ev E i=some (.int k j)) (J:0<=j) (V:j<len) :
    ACalm P N ⟨dst,.indexAddr T x i,ty,pos,aft,gd⟩ E S (.pointer (some ⟨b,o+j.toNat*n,none⟩)):=λc w g hv=>by
  simp [execOp,g.ev I,g.ev hi,Instr.indexAt,asIntOf,run_underlying U w,zaZ A w,J,V,zaE,Instr.sureAddr]
theorem vQ {T:tx} {x i:tw} {s:tt} {k:IntKind} {j:Int} (U:P.underlying T=some .string) (I:ev E x=some (.string s)) (hi:ev E i=some (.int k j)) (J:0<=j) (h1:j<s.size) :
    ACalm P N ⟨dst,.index T x i,ty,pos,aft,gd⟩ E S (.int .u8 (nb (at8 s.data.toList j.toNat))):=λc w g V=>by
  have A:j.toNat<s.size:=by omega
  have e:=at8_str s j.toNat A;simp [execOp,g.ev I,g.ev hi,Instr.index,asIntOf,run_underlying U w,J,A,<- e]
theorem zbN {x:tu} {k:IntKind} {j:Int} (y:Nat) (c:BoundsCode) (h:x = .int k j) (A:0<=j) (I:j<=y) (w:tv):(Instr.sliceBound x y c).run P w = .ok j.toNat w:=by
  subst h;simp [Instr.sliceBound,asIntOf,A,I]
def bnd (E:Env) (x:Option tw) (df y r:Nat):Prop:=match x with
  | none=>r=df
  | some i=>∃ k j,ev E i=some (.int k j)/\0<=j/\j<=y/\r=j.toNat
theorem zaU {E:Env} (A y:Nat):bnd E none A y A:=rfl
theorem zb1 {E:Env} {i:tw} {k:IntKind} {j:Int} (J y:Nat) (h:ev E i=some (.int k j)) (A:0<=j) (I:j<=y):bnd E (some i) J y j.toNat:=⟨k,j,h,A,I,rfl⟩
theorem zeq {lo hi mx:Option tw} {isS:Bool} {len cap l h m:Nat} {c:Act} (g:Good N E c) (hm:bnd E mx cap cap m) (hx:mx.isSome=true->hi.isSome=true) (hh:bnd E hi len m h) (V:bnd E lo 0 h l) (w:tv) :
    (Instr.sliceBounds isS len cap (lo.map c.eval) (hi.map c.eval) (mx.map c.eval)).run P w = .ok (l,h,m) w:=by
  unfold Instr.sliceBounds;cases mx with
  | none =>
    have ag:m=cap:=hm;subst ag;cases hi with
    | none =>
      have af:h=len:=hh;subst af;cases lo with
      | none=>have A:l=0:=V;subst A;simp
      | some i=>obtain ⟨k,j,g1,g2,g3,rfl⟩:=V;simp [g.ev g1,zbN _ _ rfl g2 g3 w]
    | some i' =>
      obtain ⟨k',j',I,J,U,rfl⟩:=hh;cases lo with
      | none=>have A:l=0:=V;subst A;simp [g.ev I,zbN _ _ rfl J U w]
      | some i=>obtain ⟨k,j,g1,g2,g3,rfl⟩:=V;simp [g.ev g1,g.ev I,zbN _ _ rfl g2 g3 w,zbN _ _ rfl J U w]
  | some i2 =>
    obtain ⟨k2,j2,y1,y2,y3,rfl⟩:=hm;cases hi with
    | none=>simp at hx
    | some i' =>
      obtain ⟨k',j',I,J,U,rfl⟩:=hh;cases lo with
      | none=>have A:l=0:=V;subst A;simp [g.ev y1,g.ev I,zbN _ _ rfl J U w,zbN _ _ rfl y2 y3 w]
      | some i=>obtain ⟨k,j,g1,g2,g3,rfl⟩:=V;simp [g.ev y1,g.ev g1,g.ev I,zbN _ _ rfl g2 g3 w,zbN _ _ rfl J U w,zbN _ _ rfl y2 y3 w]
theorem vP {T:tx} {x:tw} {lo hi:Option tw} {s:tt} {l h:Nat} (U:P.underlying T=some .string) (A:ev E x=some (.string s))
    (I:bnd E hi s.size s.size h) (J:bnd E lo 0 h l) :
    ACalm P N ⟨dst,.slice T x lo hi none,ty,pos,aft,gd⟩ E S (.string (s.extract l h)):=λc w g V=>by
  have e1:=zeq (P:=P) (isS:=false) (mx:=none) (cap:=s.size) g (zaU s.size s.size) (by simp) I J w;simp only [Option.map_none] at e1;simp [execOp,g.ev A,Instr.sliceAt,run_underlying U w,Instr.slice,e1]
theorem vX {T e:tx} {x:tw} {lo hi mx:Option tw} {b o len cap n l h m:Nat} (hT:P.underlying T=some (.slice e)) (I:sizeT P e=some n) (U:ev E x=some (.slice (some ⟨b,o,none⟩) len cap))
    (hm:bnd E mx cap cap m) (A:mx.isSome=true->hi.isSome=true) (J:bnd E hi len m h) (V:bnd E lo 0 h l) :
    ACalm P N ⟨dst,.slice T x lo hi mx,ty,pos,aft,gd⟩ E S (.slice (some ⟨b,if m=l then o else o+l*n,none⟩) (h-l) (m-l)):=λc w g hv=>by
  have e1:=zeq (P:=P) (isS:=true) g hm A J V w;simp only [execOp,g.ev U,Instr.sliceAt,Sem.run_bind,run_underlying hT w,Instr.slice,e1,Result.andThen_ok,zaZ I w,Sem.run_pure,Option.map_some,zaE];split <;> rfl
theorem vZ {T e:tx} {x:tw} {hi mx:Option tw} {b o len cap n h m:Nat} (V:P.underlying T=some (.slice e)) (I:sizeT P e=some n) (U:ev E x=some (.slice (some ⟨b,o,none⟩) len cap))
    (hm:bnd E mx cap cap m) (A:mx.isSome=true->hi.isSome=true) (J:bnd E hi len m h) :
    ACalm P N ⟨dst,.slice T x none hi mx,ty,pos,aft,gd⟩ E S (.slice (some ⟨b,o,none⟩) h m):=by
  have:=vX (S:=S) (N:=N) (dst:=dst) (ty:=ty) (pos:=pos) (aft:=aft) (gd:=gd) V I U hm A J (zaU 0 h);simpa using this
theorem uk {T e:tx} {x:tw} {lo hi mx:Option tw} {n:Nat} (hT:P.underlying T=some (.slice e)) (I:sizeT P e=some n) (U:ev E x=some (.slice none 0 0))
    (hm:bnd E mx 0 0 0) (A:mx.isSome=true->hi.isSome=true) (J:bnd E hi 0 0 0) (V:bnd E lo 0 0 0) :
    ACalm P N ⟨dst,.slice T x lo hi mx,ty,pos,aft,gd⟩ E S (.slice none 0 0):=λc w g hv=>by
  have e1:=zeq (P:=P) (isS:=true) g hm A J V w;simp only [execOp,g.ev U,Instr.sliceAt,Sem.run_bind,run_underlying hT w,Instr.slice,e1,Result.andThen_ok,zaZ I w,Sem.run_pure,Option.map_none];rfl
theorem ui {T:tx} {x:tw} {s:tt} (I:P.underlying T=some .string) (A:ev E x=some (.string s)) :
    ACalm P N ⟨dst,.call ⟨.builtin .len,#[x],#[T]⟩,ty,pos,aft,gd⟩ E S (.int .i64 s.size):=λc w g J=>by
  simp [execOp,resolve,invoke,builtin,Builtin.len_,g.ev A,run_underlying I w,goInt]
theorem vL {T e:tx} {x:tw} {a:Option Addr} {len cap:Nat} (I:P.underlying T=some (.slice e)) (A:ev E x=some (.slice a len cap)) :
    ACalm P N ⟨dst,.call ⟨.builtin .len,#[x],#[T]⟩,ty,pos,aft,gd⟩ E S (.int .i64 len):=λc w g J=>by
  simp [execOp,resolve,invoke,builtin,Builtin.len_,g.ev A,run_underlying I w,goInt]
/-! #### Operations that do something -/
theorem View.alloc {w:tv} (h:View S w) (T:tx) (cs:Array tu) (hf:Fresh S w.heap.size):View (S.set w.heap.size ⟨T,cs.toList,cs.size⟩) (w.alloc (.cells cs T)):=by
  constructor
  · intro b r I;by_cases e:b=w.heap.size
    · subst e;rw [vf] at I;cases I;exact ⟨cs,(0,0),heap_alloc_new w _,List.prefix_rfl,Nat.le_refl _,λj _ x=>by simp at x⟩
    rw [vg _ _ e] at I;have A:=h.lt I;rw [Below.heap_alloc w _ b A];exact h.own b r I
  · intro a v ha;obtain ⟨U,V⟩:=h.ro a v ha;have A:=World.block_lt_of_cell? _ _ U;refine ⟨cell_later ((Below.refl _ _).alloc (Nat.le_refl _) _) U,?_⟩;rw [vg _ _ vd];exact V
  exact h.fzOf rfl (λk J A=>zep (Nat.le_refl _) J A) λk J _=>Below.heap_alloc w _ k J
theorem Step.alloc {w:tv} (h:View S w) (T:tx) (cs:Array tu):Step S w (S.set w.heap.size ⟨T,cs.toList,cs.size⟩) (w.alloc (.cells cs T)) :=
  ⟨h.alloc T cs h.freshAt,rfl,rfl,rfl,by rw [World.size_alloc];omega,λk A _=>Below.heap_alloc w _ k A,λk A=>by
    by_cases e:k=w.heap.size
    · exact .inr vd
    rw [vg _ _ e] at A;exact .inl A,λ_ _ h=>.inl h⟩
theorem ARun.box {os:List Oper} {T:tx} {x:tw} {v:tu} {d:Nat} (I:d<N) (J:ev E x=some v)
    (h:∀ b,Fresh S b->ARun P N ops os K ((d,.pointer (some ⟨b,0,none⟩)) :: E) (S.set b ⟨T,v.cells.toList,v.cells.size⟩)):ARun P N ops (⟨some d,.box T x,ty,pos,aft,none⟩ :: os) K E S:=λa w g A=>by
  rw [if_pos (by simp [Region.wanted])];unfold Oper.wp;have:(execOp a.eval ⟨some d,.box T x,ty,pos,aft,none⟩).run P w = .ok (.value (.pointer (some ⟨w.heap.size,0,none⟩))) (w.alloc (.cells v.cells T)):=by
    simp [execOp,g.ev J,Instr.box,newVar,newRow]
  rw [this];exact ⟨_,_,h _ A.freshAt,g.put I _,Step.alloc A T v.cells⟩
def zeroT (P:tz) (T:tx):Option (List tu):=((P.info? T).bind (·.zero)).map λz=>z.cells.toList
theorem zmU {T:tx} {z:List tu} (h:zeroT P T=some z) (w:tv):∃ v,(zeroValue T).run P w = .ok v w/\v.cells.toList=z:=by
  unfold zeroT at h;cases e:P.info? T with
  | none=>simp [e] at h
  | some i =>
    cases e2:i.zero with
    | none=>simp [e,e2] at h
    | some v=>simp [e,e2] at h;exact ⟨v,by simp [zeroValue,typeInfo,e,e2],h⟩
theorem ARun.alloc {os:List Oper} {T:tx} {z:List tu} {d:Nat} (J:d<N) (I:zeroT P T=some z)
    (h:∀ b,Fresh S b->ARun P N ops os K ((d,.pointer (some ⟨b,0,none⟩)) :: E) (S.set b ⟨T,z,z.length⟩)):ARun P N ops (⟨some d,.alloc T,ty,pos,aft,none⟩ :: os) K E S:=λa w g A=>by
  rw [if_pos (by simp [Region.wanted])];obtain ⟨v,V,U⟩:=zmU I w;unfold Oper.wp;have:(execOp a.eval ⟨some d,.alloc T,ty,pos,aft,none⟩).run P w = .ok (.value (.pointer (some ⟨w.heap.size,0,none⟩))) (w.alloc (.cells v.cells T)):=by
    simp [execOp,Instr.alloc,newVar,newRow,V]
  rw [this];refine ⟨_,_,h _ A.freshAt,g.put J _,?_⟩;rw [<- U,Array.length_toList];exact Step.alloc A T v.cells
def spl (cs:List tu) (k:Nat) (vs:List tu):List tu:=cs.take k ++ vs ++ cs.drop (k+vs.length)
theorem zer (cs:List tu) (k:Nat) (vs:List tu) (h:k+vs.length<=cs.length):(spl cs k vs).length=cs.length:=by simp [spl];omega
theorem ztd (cs:List tu) (k:Nat) (v:tu) (h:k<cs.length):spl cs k [v]=cs.set k v:=by
  unfold spl;rw [List.set_eq_take_append_cons_drop,if_pos h];simp
theorem zlH {cs:List tu} {cur:List tu} (h:cs <+: cur) (k:Nat) (vs:List tu) (A:k<=cs.length) (I:k+vs.length<=cur.length):spl cs k vs <+: spl cur k vs:=by
  obtain ⟨t,rfl⟩:=h;unfold spl;rw [List.take_append_of_le_length A,List.append_assoc,List.append_assoc,List.prefix_append_right_inj,List.prefix_append_right_inj,List.drop_append];exact List.prefix_append _ _
theorem zes (w:tv) (b o:Nat) (v:tu) (cur:Array tu) (e:tx) (fz:Nat × Nat) (h:w.heap[b]?=some (.cells cur e fz)):(w.setCell ⟨b,o,none⟩ v).heap[b]?=some (.cells (cur.setIfInBounds o v) e fz):=by
  simp [World.setCell,Array.getElem?_modify,h]
theorem zcl (b:Nat) (e:tx) (fz:Nat × Nat):∀ (vs:List tu) (o:Nat) (w:tv) (cur:Array tu),w.heap[b]?=some (.cells cur e fz)->o+vs.length<=cur.size -> ∃ A,(w.setCells b o vs).heap[b]?=some (.cells A e fz)/\A.toList=spl cur.toList o vs
  | [],o,w,cur,h,_=>⟨cur,h,by simp [spl]⟩
  | v :: vs,o,w,cur,h,hl=>by
    simp only [List.length_cons] at hl;obtain ⟨A,I,J⟩:=zcl b e fz vs (o+1) _ _ (zes w b o v cur e fz h) (by simp;omega);refine ⟨A,I,?_⟩;rw [J];simp only [spl,Array.toList_setIfInBounds,List.length_cons];rw [List.set_eq_take_append_cons_drop,if_pos (by simp;omega)];have e1:(cur.toList.take o).length=o:=(by simp;omega);have e2:List.take (o+1) (cur.toList.take o ++ v :: cur.toList.drop (o+1))=cur.toList.take o ++ [v]:=by
      rw [List.take_append,e1];simp;rw [List.take_of_length_le (by simp;omega)]
    have e3:List.drop (o+1+vs.length) (cur.toList.take o ++ v :: cur.toList.drop (o+1))=cur.toList.drop (o+(vs.length+1)):=by
      rw [List.drop_append,e1,List.drop_of_length_le (by simp;omega),List.nil_append,show o+1+vs.length-o=vs.length+1 from by omega,List.drop_succ_cons,List.drop_drop];congr 1;omega
    rw [e2,e3];simp
theorem za0 (b k:Nat) (A:k≠b):∀ (vs:List tu) (o:Nat) (w:tv),(w.setCells b o vs).heap[k]?=w.heap[k]?
  | [],_,_=>rfl
  | v :: vs,o,w=>by rw [World.setCells,za0 b k A vs,Below.heap_setCell _ _ _ _ A]
theorem zdT (b:Nat):∀ (vs:List tu) (o:Nat) (w:tv),(w.setCells b o vs).os=w.os/\(w.setCells b o vs).tape=w.tape/\(w.setCells b o vs).output=w.output/\(w.setCells b o vs).heap.size=w.heap.size
  | [],_,_=>⟨rfl,rfl,rfl,rfl⟩
  | v :: vs,o,w=>by
    have:=zdT b vs (o+1) (w.setCell ⟨b,o,none⟩ v);rw [World.size_setCell] at this;exact this
theorem zbp {w:tv} (hv:View S w) {b o:Nat} {r:Blk} {vs:List tu} (hb:S.own b=some r) (ho:o<=r.cells.length) (hl:o+vs.length<=r.cells.length\/o+vs.length<=r.room) (h1:∀ v ∈ vs,v.oneCell'=true) :
    (storeCells ⟨b,o,none⟩ vs).run P w = .ok () (w.setCells b o vs)/\Step S w (S.set b ⟨r.elem,spl r.cells o vs,r.room⟩) (w.setCells b o vs):=by
  obtain ⟨cur,fz,e1,e2,e3,e4⟩:=hv.own b r hb;have aj:r.cells.length<=cur.size:=by have:=e2.length_le;simpa using this
  have I:o+vs.length<=cur.size:=by omega
  have U:=run_storeCells_cells (P:=P) b o vs 0 w (λj hj=>by simp [World.cell?,e1];omega) (λj hj=>by
    simp only [World.frozen?,e1];have:=e4 (o+j) vd;simpa using this) h1
  rw [Nat.add_zero] at U;obtain ⟨V,g1,g2⟩:=zcl b r.elem fz vs o w cur e1 I;obtain ⟨q1,q2,q3,q4⟩:=zdT b vs o w;have ac:V.size=cur.size:=by rw [<- Array.length_toList,g2,zer _ _ _ (by simpa using I),Array.length_toList]
  refine ⟨U,⟨⟨λk r' A=>?_,λa v ha=>?_,hv.fzOf rfl (λk A _=>by
      rw [vg _ _ (λe=>by rw [e,hb] at A;cases A)];exact A) λk _ A=>za0 b k (λe=>by rw [e,hb] at A;cases A) vs o w⟩,q1,q2,q3,by omega,λk A hn=>?_,λk A=>?_,λ_ _ h=>.inl h⟩⟩
  · by_cases e:k=b
    · subst e;rw [vf] at A;cases A;exact ⟨V,fz,g1,by rw [g2];exact zlH e2 o vs ho (by simpa using I),by rw [ac];exact e3,λj hj=>e4 j (by rw [<- ac];exact hj)⟩
    rw [vg _ _ e] at A;rw [za0 b k e];exact hv.own k r' A
  · obtain ⟨h1,h2⟩:=hv.ro a v ha;have J:a.block≠b:=λe=>(by rw [e,hb] at h2;cases h2);refine ⟨(World.cell?_of_block (w:=w) (za0 b _ J vs o w)).trans h1,?_⟩;rw [vg _ _ J];exact h2
  · have J:k≠b:=λe=>(by rw [e,hb] at hn;cases hn);exact za0 b k J vs o w
  by_cases e:k=b
  · subst e;exact .inl (by rw [hb];simp)
  rw [vg _ _ e] at A;exact .inl A
theorem ARun.store {os:List Oper} {T:tx} {x y:tw} {b o:Nat} {r:Blk} {v:tu} (hx:ev E x=some (.pointer (some ⟨b,o,none⟩))) (hy:ev E y=some v) (hs:sizeT P T=some v.cells.size) (A:S.own b=some r) (hl:o+v.cells.size<=r.cells.length) (h1:v.cells.all (·.oneCell')=true)
    (h:ARun P N ops os K E (S.set b ⟨r.elem,spl r.cells o v.cells.toList,r.room⟩)):ARun P N ops (⟨none,.store T x y,ty,pos,aft,none⟩ :: os) K E S:=λa w g V=>by
  rw [if_pos (by simp [Region.wanted])];obtain ⟨J,I⟩:=zbp (P:=P) V A (vs:=v.cells.toList) (o:=o) vd (.inl (by simpa using hl)) (λu U=>(Array.all_eq_true_iff_forall_mem.1 h1) u (by simpa using U));unfold Oper.wp;have:(execOp a.eval ⟨none,.store T x y,ty,pos,aft,none⟩).run P w = .ok .skip (w.setCells b o v.cells.toList):=by
    simp [execOp,g.ev hx,g.ev hy,Instr.storeAt,Instr.sureAddr,storeVar,zaZ hs w,J]
  rw [this];exact ⟨_,_,h,g.put0 _,I⟩
end
end Mv
open Go.RowKit
namespace Mv
section
variable {P:tz} {N:Nat} {ops:Array Oper} {E:Env} {S:Mem} {K:Env->Mem->Prop}
variable {dst:Option Nat} {ty:tx} {pos:String} {aft:Array Edge} {gd:Option (Nat × Bool)}
def ACall (P:tz) (f:tA) (args:Array tu) (S:Mem) (R:tu->Mem->Prop):Prop :=
  ∀ w,View S w->Calls P f args w λe w'=>∃ v S',e = .returned v/\R v S'/\Step S w S' w'
theorem ACall.mono {f:tA} {args:Array tu} {R A:tu->Mem->Prop} (h:ACall P f args S R) (I:∀ v S',R v S'->A v S'):ACall P f args S A:=λw J =>
  (h w J).mono λ_ _ ⟨v,S',e,r,s⟩=>⟨v,S',e,I _ _ r,s⟩
theorem vR {f:tA} {args:Array tu} {v:tu} (h:∀ w,Calls P f args w λe w'=>e = .returned v/\Below w.heap.size w w'):ACall P f args S λv' S'=>v'=v/\S'=S:=λw J =>
  (h w).mono λ_ _ ⟨I,A⟩=>⟨v,S,I,⟨rfl,rfl⟩,Step.below J A⟩
theorem uq {f:tA} {args:Array tu} {v:tu} (h:∀ w,Calls P f args w λe w'=>e = .returned v/\w'=w):ACall P f args S λv' S'=>v'=v/\S'=S :=
  vR λw=>(h w).mono λ_ _ ⟨I,A⟩=>⟨I,by rw [A];exact Below.refl _ _⟩
def goFn (P:tz) (f:tA):Bool:=match (P.funcs[f]? : Option Func) with
  | some fn => fn.body.isSome && !(fn.name == "runtime.NumGoroutine")
  | none=>false
theorem zbg {f:tA} (h:goFn P f=true) (args:Array tu) (w:tv):(callFunc f args).run P w = .ok (.enter f args) w:=by
  unfold goFn at h;cases e:P.funcs[f]? with
  | none=>simp [e] at h
  | some fn =>
    simp [e] at h;cases A:fn.body with
    | none=>simp [A] at h
    | some c=>simp [callFunc,e,h.2,A]
theorem ARun.call {os:List Oper} {f:tA} {xs:List tw} {ats:Array tx} {vs:List tu} {d:Nat} {R:tu->Mem->Prop} (I:d<N) (hf:goFn P f=true) (V:evs E xs=some vs) (hc:ACall P f vs.toArray S R)
    (h:∀ v S',R v S'->ARun P N ops os K ((d,v) :: E) S'):ARun P N ops (⟨some d,.call ⟨.value (.func f),xs.toArray,ats⟩,ty,pos,aft,none⟩ :: os) K E S:=λa w g U=>by
  rw [if_pos (by simp [Region.wanted])];unfold Oper.wp;have A:execOp a.eval ⟨some d,.call ⟨.value (.func f),xs.toArray,ats⟩,ty,pos,aft,none⟩=callFunc f vs.toArray:=by
    rw [execOp_call_go];simp [g.evs V]
  rw [A,zbg hf];simp only [Oper.upon];refine (hc w U).mono λe w' ⟨v,S',A,J,s⟩=>?_;subst A;exact ⟨_,_,h v S' J,g.put I v,s⟩
theorem vv {os:List Oper} {f:tA} {xs:List tw} {ats:Array tx} {vs:List tu} {d:Nat} {R:tu->Mem->Prop} (j:Nat) (t:Bool) (dj:Nat) (J:(ops[j]?).bind (·.dst)=some dj) (A:dj<N) (U:lk E dj=some (.bool t))
    (V:d<N) (hf:goFn P f=true) (hx:evs E xs=some vs) (hc:ACall P f vs.toArray S R)
    (h:∀ v S',R v S'->ARun P N ops os K ((d,v) :: E) S'):ARun P N ops (⟨some d,.call ⟨.value (.func f),xs.toArray,ats⟩,ty,pos,aft,some (j,t)⟩ :: os) K E S:=λa w g hv=>by
  cases e:ops[j]? with
  | none=>simp [e] at J
  | some og =>
    simp [e] at J;rw [if_pos (by simp [Region.wanted,zcc g e J A U])];unfold Oper.wp;have I:execOp a.eval ⟨some d,.call ⟨.value (.func f),xs.toArray,ats⟩,ty,pos,aft,some (j,t)⟩=callFunc f vs.toArray:=by
      rw [execOp_call_go];simp [g.evs hx]
    rw [I,zbg hf];simp only [Oper.upon];refine (hc w hv).mono λe w' ⟨v,S',I,hr,s⟩=>?_;subst I;exact ⟨_,_,h v S' hr,g.put V v,s⟩

/-! ### A function's beginning and end -/
def ResV (P:tz):List ResultVar->Env->Mem->List tu->Prop
  | [],_,_,vs=>vs = []
  | .tmp t :: rs,E,S,vs=>∃ v us,lk E t=some v/\ResV P rs E S us/\vs=v :: us
  | .cell t T :: rs,E,S,vs=>∃ a v us,lk E t=some (.pointer (some a))/\((plainT P T=true/\S.rd a=some v)\/(aggT P T=true /\ ∃ cs,sizeT P T=some cs.length/\S.rds a cs/\v = .agg cs.toArray))/\ResV P rs E S us/\vs=v :: us
def one (vs:List tu):tu:=match vs with
  | [v]=>v
  | vs=>.tuple vs.toArray
def Aret (P:tz) (rs:List ResultVar) (R:tu->Mem->Prop):Exit->Env->Mem->Prop
  | .normal,E,S=>∃ vs S',ResV P rs E S vs/\S'.Less S/\R (one vs) S'
  | .ret,E,S=>∃ vs S',ResV P rs E S vs/\S'.Less S/\R (one vs) S'
  | _,_,_=>False
def rvS (tmps:Array tu):ResultVar->Sem tu
  | .tmp t=>pure (tmps.getD t undef)
  | .cell x t=>do loadVar t (<- asAddr (tmps.getD x undef))
theorem zlI (fn:Func) (tmps:Array tu):results fn tmps=(fn.results.mapM (rvS tmps) >>= λvs=>pure (if h:vs.size=1 then vs[0] else .tuple vs)):=by
  unfold results;congr 1
  try (congr 1;funext r;cases r <;> rfl)
theorem ze6 {E:Env} {S:Mem} {a:Act} {w:tv} (g:Good N E a) (hv:View S w):∀ (rs:List ResultVar) (vs:List tu),ResV P rs E S vs ->
    (rs.mapM (rvS a.tmps)).run P w = .ok vs w:=by
  intro rs
  induction rs with
  | nil=>intro vs h;cases h;simp
  | cons r rs V =>
    intro vs h;cases r with
    | tmp t =>
      obtain ⟨v,us,U,I,rfl⟩:=h;rw [List.mapM_cons,Sem.run_bind];simp only [rvS,Sem.run_pure,Result.andThen_ok,Sem.run_bind,V us I,g.at_ t v U]
    | cell x T =>
      obtain ⟨ad,v,us,U,h3,I,rfl⟩:=h;have hl:(loadVar T ad).run P w = .ok v w:=by
        rcases h3 with ⟨A,J⟩ | ⟨A,cs,hs,J,rfl⟩
        · simp [loadVar,zcM A w,hv.rd J]
        simp [loadVar,zdB A w,zaZ hs w,hv.rds (P:=P) J]
      rw [List.mapM_cons,Sem.run_bind];simp only [rvS,Sem.run_pure,Result.andThen_ok,Sem.run_bind,V us I,g.at_ x _ U,asAddr,hl]
theorem zcN {fn:Func} {rs:List ResultVar} (A:fn.results=rs.toArray) {E:Env} {S:Mem} {a:Act} {w:tv} {vs:List tu} (g:Good N E a) (J:View S w) (h:ResV P rs E S vs):(results fn a.tmps).run P w = .ok (one vs) w:=by
  have I:=ze6 g J rs vs h;rw [zlI,A,List.mapM_toArray,Sem.run_bind,Sem.run_map,I];simp only [Result.andThen_ok,Sem.run_pure];congr 1
  match vs with
  | []=>rfl
  | [v]=>rfl
  | v :: u :: us=>rfl
def SubA:Env->List tu->Prop
  | [],_=>True
  | (k,v) :: E,args=>args[k]?=some v/\SubA E args
theorem SubA.lk {E:Env} {args:List tu} (h:SubA E args) {d:Nat} {v:tu} (hd:Mv.lk E d=some v):args[d]?=some v:=by
  induction E with
  | nil=>cases hd
  | cons p E A =>
    obtain ⟨k,u⟩:=p;simp only [Mv.lk] at hd;split at hd
    · rename_i e;subst e;cases hd;exact h.1
    exact A h.2 hd
theorem ACall.enter {f:tA} {fn:Func} {c:Code} {args:List tu} {rs:List ResultVar} {R:tu->Mem->Prop} (n:Nat) (E0:Env) (hf:P.funcs[f]?=some fn) (hb:fn.body=some c) (hn:fn.ntmps=n) (hl:args.length<=n) (hr:fn.results=rs.toArray) (hE:SubA E0 args)
    (h:AWP P n c (Aret P rs R) E0 S):ACall P f args.toArray S R:=λw hv=>by
  refine calls_of_wp hf hb (wp_mono (h _ w ⟨?_,rfl,λd v hd=>?_⟩ hv) λe a' w' ⟨E',S',k,g,s⟩=>?_)
  · simp only [Array.size_append,List.size_toArray,Array.size_replicate];omega
  · have:=hE.lk hd;have U:d<args.length:=by
      rcases Nat.lt_or_ge d args.length with h | h
      · exact h
      rw [List.getElem?_eq_none h] at this;cases this
    simp only [Array.getD_eq_getD_getElem?,Array.getElem?_append,List.size_toArray,U,if_true,List.getElem?_toArray,this,Option.getD_some]
  cases e with
  | normal =>
    obtain ⟨vs,J,V,I,A⟩:=k;exact ⟨g.defers,one vs,zcN hr g s.view V,one vs,J,rfl,A,s.less I⟩
  | ret =>
    obtain ⟨vs,J,V,I,A⟩:=k;exact ⟨g.defers,one vs,zcN hr g s.view V,one vs,J,rfl,A,s.less I⟩
  | exit id=>exact k.elim
  | goto l=>exact k.elim
  | panic c=>exact k.elim
  | outgrown=>exact k.elim
end
end Mv
open Go.RowKit
namespace Mv
def slT (P:tz) (T:tx):Option (tx × Nat × Nat × List tu):=match P.underlying T with
  | some (.slice e)=>match P.info? e with
    | some i=>match i.zero with
      | some z=>some (e,i.size,i.bytes,z.cells.toList)
      | none=>none
    | none=>none
  | _=>none
theorem za4 {P:tz} {T e:tx} {n y:Nat} {z:List tu} (h:slT P T=some (e,n,y,z)):P.underlying T=some (.slice e) /\ ∃ i v,P.info? e=some i/\i.zero=some v/\i.size=n/\i.bytes=y/\v.cells.toList=z:=by
  unfold slT at h;cases e1:P.underlying T with
  | none=>simp [e1] at h
  | some d =>
    cases d <;> simp [e1] at h;rename_i A;cases e2:P.info? A with
    | none=>simp [e2] at h
    | some i =>
      cases e3:i.zero with
      | none=>simp [e2,e3] at h
      | some v =>
        simp [e2,e3] at h;obtain ⟨rfl,rfl,rfl,rfl⟩:=h;exact ⟨rfl,i,v,e2,e3,rfl,rfl,rfl⟩
theorem del_set (S:Mem) (b:Nat) (r:Blk):(S.del b).set b r=S.set b r:=by
  unfold Mem.del Mem.set;congr 1;funext k;by_cases h:k=b <;> simp [h]
theorem zft {S:Mem} {b:Nat} {r:Blk} (h:∀ a v,S.ro a=some v->S.own a.block=none) (A:S.own b=some r):Fresh (S.del b) b:=⟨by simp [Mem.del],λa v I e=>by
  have:=h a v I;rw [e,A] at this;cases this⟩
theorem zaI (S:Mem) (b c:Nat) (r:Blk):((S.del b).set c r).Less (S.set c r):=⟨λk r' A=>by
  by_cases h:k=c
  · subst h;simpa [Mem.set] using A
  rw [vg _ _ h] at A ⊢;simp only [Mem.del] at A;split at A
  · cases A
  exact A,rfl⟩
theorem Less.del (S:Mem) (b:Nat):(S.del b).Less S:=⟨λk r' A=>by
  simp only [Mem.del] at A;split at A
  · cases A
  exact A,rfl⟩
theorem Less.set {S S':Mem} (h:S'.Less S) (b:Nat) (r:Blk):(S'.set b r).Less (S.set b r):=⟨λk r' A=>by
  by_cases e:k=b
  · subst e;rw [vf] at A ⊢;exact A
  rw [vg _ _ e] at A ⊢;exact h.1 k r' A,h.2⟩
theorem zmV (S:Mem) (b:Nat) (h:S.own b=none):S.del b=S:=by
  cases S;unfold Mem.del;congr 1;funext k;by_cases e:k=b
  · subst e;simpa using h.symm
  simp [e]
section
variable {P:tz} {N:Nat} {ops:Array Oper} {E:Env} {S:Mem} {K:Env->Mem->Prop}
variable {dst:Option Nat} {ty:tx} {pos:String} {aft:Array Edge} {gd:Option (Nat × Bool)}
theorem vH {w:tv} (h:View S w) (T:tx) (cs:Array tu) (A:List tu) (room:Nat) (I:A <+: cs.toList) (hr:room<=cs.size):Step S w (S.set w.heap.size ⟨T,A,room⟩) (w.alloc (.cells cs T)):=by
  have hs:=Step.alloc h T cs;refine ⟨⟨λb r J=>?_,λa v ha=>?_,h.fzOf rfl (λk I V=>zep (Nat.le_refl _) I V) hs.block⟩,hs.os,hs.tape,hs.output,hs.size,hs.block,λk I=>?_,hs.ro⟩
  · by_cases e:b=w.heap.size
    · subst e;rw [vf] at J;cases J;exact ⟨cs,(0,0),heap_alloc_new w _,I,hr,λj _ x=>by simp at x⟩
    rw [vg _ _ e] at J;exact hs.view.own b r (by rw [vg _ _ e];exact J)
  · obtain ⟨h1,U⟩:=hs.view.ro a v ha;refine ⟨h1,?_⟩;by_cases e:a.block=w.heap.size
    · rw [e,vf] at U;cases U
    rw [vg _ _ e] at U ⊢;exact U
  by_cases e:k=w.heap.size
  · exact .inr vd
  rw [vg _ _ e] at I;exact .inl I
def madeL (z:List tu) (n:Nat):List tu:=(madeCells z.toArray n).toList
theorem zbq (z:List tu) (n:Nat):(madeL z n).length=n:=by simp [madeL,size_madeCells]
theorem zaT (v:tu) (n:Nat):madeL [v] n=List.replicate n v:=by
  apply List.ext_getElem
  · simp [zbq]
  intro i A I;simp [madeL,madeCells,Nat.mod_one]
theorem ARun.makeSlice {os:List Oper} {T e:tx} {n y:Nat} {z:List tu} {A J:tw} {k1 V:IntKind} {l c:Int} {d:Nat} (hn:d<N) (hT:slT P T=some (e,n,y,z)) (hx:ev E A=some (.int k1 l)) (hy:ev E J=some (.int V c))
    (h0:0<=l) (U:l<=c) (hb:(y:Int)*c<=281474976710656) (I:c<=9223372036854775807)
    (h:∀ b,Fresh S b->ARun P N ops os K ((d,.slice (some ⟨b,0,none⟩) l.toNat c.toNat) :: E) (S.set b ⟨e,madeL z (c.toNat*n),c.toNat*n⟩)):ARun P N ops (⟨some d,.makeSlice T A J,ty,pos,aft,none⟩ :: os) K E S:=λa w g hv=>by
  rw [if_pos (by simp [Region.wanted])];obtain ⟨hu,i,v,e1,e2,rfl,rfl,rfl⟩:=za4 hT;unfold Oper.wp;have:(execOp a.eval ⟨some d,.makeSlice T A J,ty,pos,aft,none⟩).run P w = .ok (.value (.slice (some ⟨w.heap.size,0,none⟩) l.toNat c.toNat)) (w.alloc (.cells (madeCells v.cells (c.toNat*i.size)) e)):=by
    simp only [execOp,g.ev hx,g.ev hy];rw [Sem.run_bind,run_make (P:=P) w T e i v hu e1 e2 k1 V l c h0 U hb I];rfl
  rw [this];refine ⟨_,_,h _ hv.freshAt,g.put hn _,?_⟩;exact vH hv e _ _ _ (by unfold madeL;simp) (by simp [size_madeCells])
theorem uj {os:List Oper} {T e:tx} {n y:Nat} {z:List tu} {x:tw} {u:tu} {d:Nat} (hn:d<N) (hT:slT P T=some (e,n,y,z)) (hz:z.length=n) (hp:0<n) (ai:n<=16777216) (hx:ev E x=some u) (hu:u.cells.size=n)
    (h:∀ b,Fresh S b->ARun P N ops os K ((d,.slice (some ⟨b,0,none⟩) 1 1) :: E) (S.set b ⟨e,u.cells.toList,n⟩)):ARun P N ops (⟨some d,.buildSlice T 1 #[(0,x)],ty,pos,aft,none⟩ :: os) K E S:=λa w g hv=>by
  rw [if_pos (by simp [Region.wanted])];obtain ⟨ac,i,v,e1,e2,rfl,rfl,rfl⟩:=za4 hT;have al:v.cells.size=i.size:=by simpa using hz
  unfold Oper.wp;have I:∀ (cs:List tu) (k:Nat) (A:Array tu),k+cs.length=A.size->(cs.zipIdx.foldl (λ(bs:Array tu) (p:tu × Nat)=>bs.setIfInBounds (k+p.2) p.1) A).toList=A.toList.take k ++ cs:=by
    intro cs k A V;have key:∀ (cs:List tu) (m:Nat) (A:Array tu),k+m+cs.length=A.size->((cs.zipIdx m).foldl (λ(bs:Array tu) (p:tu × Nat)=>bs.setIfInBounds (k+p.2) p.1) A).toList=A.toList.take (k+m) ++ cs:=by
      intro cs
      induction cs with
      | nil=>intro m A V;simp at V ⊢;rw [List.take_of_length_le (by simp;omega)]
      | cons c cs ih =>
        intro m A V;simp only [List.length_cons] at V;rw [List.zipIdx_cons,List.foldl_cons,ih (m+1) _ (by simp;omega)];simp only [Array.toList_setIfInBounds];rw [List.set_eq_take_append_cons_drop,if_pos (by simp;omega)];have e1:(A.toList.take (k+m)).length=k+m:=(by simp;omega);rw [List.take_append,e1,List.take_of_length_le vd,show k+(m+1)-(k+m)=1 from by omega];simp
    exact key cs 0 A V
  have J:(execOp a.eval ⟨some d,.buildSlice T 1 #[(0,x)],ty,pos,aft,none⟩).run P w = .ok (.value (.slice (some ⟨w.heap.size,0,none⟩) 1 1)) (w.alloc (.cells u.cells e)):=by
    have aa:(zeroValue e).run P w = .ok v w:=(by simp [zeroValue,typeInfo,e1,e2]);have ag : ¬ (i.size=0):=(by omega);have ad : ¬ (16777216<i.size):=(by omega);have hf:=I u.cells.toList 0 ((Array.range i.size).map (v.cells[· % v.cells.size]!)) (by simp [hu]);simp only [List.take_zero,List.nil_append,Nat.zero_add] at hf;have U:Array.foldl (λ(bs:Array tu) (p:tu × Nat)=>bs.setIfInBounds p.2 p.1) ((Array.range i.size).map (v.cells[· % v.cells.size]!)) u.cells.zipIdx=u.cells:=by
      apply Array.ext';rw [<- hf,<- Array.foldl_toList,Array.toList_zipIdx]
    simp [execOp,g.ev hx,Instr.buildSlice,run_underlying ac w,sizeOf,typeInfo,e1,ag,ad,aa,Instr.fill,hu,newRow];have ae:i.size=u.cells.zipIdx.size:=(by simp [hu]);rw [ae] at U ⊢;rw [U]
  rw [J];refine ⟨_,_,h _ hv.freshAt,g.put hn _,?_⟩;exact vH hv e u.cells _ _ List.prefix_rfl vd
theorem uH {os:List Oper} {T e:tx} {n y:Nat} {z:List tu} {x1 x2:tw} {b k c:Nat} {xs news:List tu} {a2:Addr} {m c2 d:Nat} (hn:d<N) (hT:slT P T=some (e,n,y,z)) (hz:z.length=n)
    (hx:ev E x1=some (.slice (some ⟨b,0,none⟩) k c)) (hb:S.own b=some ⟨e,xs,c*n⟩) (aa:xs.length=k*n)
    (hy:ev E x2=some (.slice (some a2) m c2)) (I:S.rds a2 news) (J:news.length=m*n) (h1:∀ v ∈ news,v.oneCell'=true) (ae:(k+m)*y<=140737488355328) (aA:k+m<=9223372036854775807)
    (h:∀ b' c',Fresh (S.del b) b'->k+m<=c'->ARun P N ops os K ((d,.slice (some ⟨b',0,none⟩) (k+m) c') :: E) ((S.del b).set b' ⟨e,xs ++ news,c'*n⟩)) :
    ARun P N ops (⟨some d,.call ⟨.builtin .append,#[x1,x2],#[T,T]⟩,ty,pos,aft,none⟩ :: os) K E S:=λa w g U=>by
  rw [if_pos (by simp [Region.wanted])];obtain ⟨hu,i,v,e1,e2,rfl,rfl,rfl⟩:=za4 hT;have ai:v.cells.size=i.size:=by simpa using hz
  have ah:(execOp a.eval ⟨some d,.call ⟨.builtin .append,#[x1,x2],#[T,T]⟩,ty,pos,aft,none⟩).run P w=((Builtin.append_ #[T,T] ty #[.slice (some ⟨b,0,none⟩) k c,.slice (some a2) m c2]).run P w).andThen λv w'=>.ok (.value v) w':=by
    simp [execOp,resolve,invoke,builtin,g.ev hx,g.ev hy]
  unfold Oper.wp;rw [ah];by_cases A:k+m<=c
  · obtain ⟨q1,q2⟩:=zbp (P:=P) U hb (vs:=news) (o:=k*i.size) (by simp [aa]) (.inr (by simp only [J];rw [<- Nat.add_mul];exact Nat.mul_le_mul_right _ A)) h1;have hf:=run_firstCells_some (P:=P) w i.size m a2 m c2 news J (λj u hj=>U.rd (I j u hj));have hr:(Builtin.append_ #[T,T] ty #[.slice (some ⟨b,0,none⟩) k c,.slice (some a2) m c2]).run P w = .ok (.slice (some ⟨b,0,none⟩) (k+m) c) (w.setCells b (k*i.size) news):=by
      simp [Builtin.append_,run_underlying hu,sizeOf,typeInfo,e1,Builtin.lenOf,A,hf,zaE,q1]
    rw [hr];have aq:spl xs (k*i.size) news=xs ++ news:=by
      unfold spl;rw [List.take_of_length_le vd,List.drop_of_length_le vd,List.append_nil]
    simp only [aq] at q2;refine ⟨_,_,h b c (zft (λa v ha=>(U.ro a v ha).2) hb) A,g.put hn _,?_⟩;rw [del_set];exact q2
  have V:Builtin.nextslicecap (k+m) c*i.bytes<=281474976710656:=growslice_fits vd ae;have hr:=run_append_grow (P:=P) w T ty e i v hu e1 e2 ⟨b,0,none⟩ k c xs aa (λj u hj=>U.rd (by rw [zaE,Nat.zero_add,zdv hb];exact hj)) a2 m c2 news J (λj u hj=>U.rd (I j u hj)) vd vd V;rw [hr];have aj:=grownCap_ge w (k+m) c e;have am:View S w.drew:=U.drawn _;have ak:=vH am e (xs.toArray ++ news.toArray ++ Builtin.zeroCells v.cells (grownCap w (k+m) c e-(k+m))) (xs ++ news) (grownCap w (k+m) c e*i.size) (by simp [List.append_assoc]) (by
    simp only [Array.size_append,List.size_toArray,size_zeroCells,ai,aa,J,<- Nat.add_mul];exact Nat.mul_le_mul_right _ vd)
  refine ⟨_,_,h w.heap.size (grownCap w (k+m) c e) (U.freshAt.less (Less.del S b)) aj,g.put hn _,?_⟩;exact ((Step.drawn U _).trans ak).less (zaI S b _ _)
theorem uG {os:List Oper} {T e:tx} {n y:Nat} {z:List tu} {V x2:tw} {news:List tu} {U:Addr} {m c2 d:Nat} (hn:d<N) (hT:slT P T=some (e,n,y,z)) (hz:z.length=n)
    (hx:ev E V=some (.slice none 0 0)) (hy:ev E x2=some (.slice (some U) m c2)) (A:S.rds U news) (I:news.length=m*n) (hm:0<m) (ai:m*y<=140737488355328) (al:m<=9223372036854775807)
    (h:∀ b' c',Fresh S b'->m<=c'->ARun P N ops os K ((d,.slice (some ⟨b',0,none⟩) m c') :: E) (S.set b' ⟨e,news,c'*n⟩)) :
    ARun P N ops (⟨some d,.call ⟨.builtin .append,#[V,x2],#[T,T]⟩,ty,pos,aft,none⟩ :: os) K E S:=λa w g J=>by
  rw [if_pos (by simp [Region.wanted])];obtain ⟨hu,i,v,e1,e2,rfl,rfl,rfl⟩:=za4 hT;have ac:v.cells.size=i.size:=by simpa using hz
  have aa:(execOp a.eval ⟨some d,.call ⟨.builtin .append,#[V,x2],#[T,T]⟩,ty,pos,aft,none⟩).run P w=((Builtin.append_ #[T,T] ty #[.slice none 0 0,.slice (some U) m c2]).run P w).andThen λv w'=>.ok (.value v) w':=by
    simp [execOp,resolve,invoke,builtin,g.ev hx,g.ev hy]
  unfold Oper.wp;rw [aa,run_append_nil (P:=P) w T ty e i v hu e1 e2 U m c2 news I (λj u hj=>J.rd (A j u hj)) hm vd vd];have ad:=grownCap_ge w m 0 e;have af:View S w.drew:=J.drawn _;have ae:=vH af e (news.toArray ++ Builtin.zeroCells v.cells (grownCap w m 0 e-m)) news (grownCap w m 0 e*i.size) (by simp) (by
    simp only [Array.size_append,List.size_toArray,size_zeroCells,ac,I,<- Nat.add_mul];exact Nat.mul_le_mul_right _ vd)
  exact ⟨_,_,h w.heap.size (grownCap w m 0 e) J.freshAt ad,g.put hn _,(Step.drawn J _).trans ae⟩
theorem ud {os:List Oper} {T e:tx} {n y:Nat} {z:List tu} {I U:tw} {A:Option Addr} {k c d V:Nat} {J:Option Addr} (hn:d<N) (hT:slT P T=some (e,n,y,z)) (hk:k<=c)
    (hx:ev E I=some (.slice A k c)) (hy:ev E U=some (.slice J 0 V)) (h:ARun P N ops os K ((d,.slice A k c) :: E) S) :
    ARun P N ops (⟨some d,.call ⟨.builtin .append,#[I,U],#[T,T]⟩,ty,pos,aft,none⟩ :: os) K E S:=λa w g hv=>by
  rw [if_pos (by simp [Region.wanted])];obtain ⟨hu,i,v,e1,e2,rfl,rfl,rfl⟩:=za4 hT;have hf:(Builtin.firstCells i.size 0 (.slice J 0 V)).run P w = .ok #[] w:=by
    cases J <;> simp [Builtin.firstCells,loadCells,loadCellsFrom]
  have hr:(execOp a.eval ⟨some d,.call ⟨.builtin .append,#[I,U],#[T,T]⟩,ty,pos,aft,none⟩).run P w = .ok (.value (.slice A k c)) w:=by
    cases A <;> simp [execOp,resolve,invoke,builtin,g.ev hx,g.ev hy,Builtin.append_,run_underlying hu,sizeOf,typeInfo,e1,Builtin.lenOf,hk,hf,storeCells]
  unfold Oper.wp;rw [hr];exact ⟨_,_,h,g.put hn _,Step.refl hv⟩

/-! ### Bytes and texts -/
def bytesT (P:tz) (T:tx):Option tx:=match P.underlying T with
  | some (.slice e)=>match P.underlying e with
    | some (.int .u8)=>some e
    | _=>none
  | _=>none
def strT (P:tz) (T:tx):Bool:=match P.underlying T with | some .string=>true | _=>false
theorem zfu {T e:tx} (h:bytesT P T=some e):P.underlying T=some (.slice e)/\P.underlying e=some (.int .u8):=by
  unfold bytesT at h;cases e1:P.underlying T with
  | none=>simp [e1] at h
  | some d =>
    cases d <;> simp [e1] at h;rename_i A;cases e2:P.underlying A with
    | none=>simp [e2] at h
    | some I =>
      cases I <;> simp [e2] at h;rename_i k;cases k <;> simp at h;subst h;exact ⟨rfl,e2⟩
theorem zav {T:tx} (h:strT P T=true):P.underlying T=some .string:=by
  unfold strT at h;cases e1:P.underlying T with
  | none=>simp [e1] at h
  | some d=>cases d <;> simp_all
def cellsB (l:List UInt8):List tu:=l.map λc=>.int .u8 (nb c)
theorem zaF (l:List UInt8):(cellsB l).length=l.length:=by simp [cellsB]
theorem vT {s t e:tx} {x:tw} {a:Addr} {n cap:Nat} {l:List UInt8} (hs:bytesT P s=some e) (A:strT P t=true) (hx:ev E x=some (.slice (some a) n cap)) (I:l.length=n) (hl:S.rds a (cellsB l)) :
    ACalm P N ⟨dst,.convert s t x,ty,pos,aft,gd⟩ E S (.string (bs l)):=λc w g V=>by
  obtain ⟨h1,J⟩:=zfu hs;subst I;have:=run_convert_bytes_back (P:=P) w s t e a cap l h1 J (zav A) (λj U=>V.rd (hl j _ (by simp [cellsB,U,nb])));simp only [execOp,g.ev hx];rw [Sem.run_bind,this];rfl
theorem uX {os:List Oper} {s t e:tx} {x:tw} {u:tt} {d:Nat} (hn:d<N) (hs:strT P s=true) (ht:bytesT P t=some e) (hx:ev E x=some (.string u))
    (h:∀ b c,Fresh S b->u.size<=c->ARun P N ops os K ((d,.slice (some ⟨b,0,none⟩) u.size c) :: E) (S.set b ⟨e,cellsB u.data.toList,c⟩)) (ac:e=5:=by rfl):ARun P N ops (⟨some d,.convert s t x,ty,pos,aft,none⟩ :: os) K E S:=λa w g U=>by
  rw [if_pos (by simp [Region.wanted])];obtain ⟨h1,h2⟩:=zfu ht;have hr:=Lib.run_convert_string_bytes (P:=P) w s t e u (zav hs) h1 h2;unfold Oper.wp;have V:(execOp a.eval ⟨some d,.convert s t x,ty,pos,aft,none⟩).run P w = .ok (.value (.slice (some ⟨w.heap.size,0,none⟩) u.size (grownCap w u.size 0 e))) (Lib.bytesWorld w e u):=by
    simp only [execOp,g.ev hx];rw [Sem.run_bind,hr];rfl
  rw [V];have aa:=grownCap_ge w u.size 0 e;have hb:=conv_below w e u;have A:=Step.below U hb;refine ⟨_,_,h w.heap.size _ U.freshAt aa,g.put hn _,⟨⟨λk r I=>?_,λad v ha=>?_,U.fzOf rfl (λk I J=>zep (Nat.le_refl _) I J) A.block⟩,A.os,A.tape,A.output,A.size,A.block,λk I=>?_,λ_ _ h=>.inl h⟩⟩
  · by_cases e0:k=w.heap.size
    · subst e0;rw [vf] at I;cases I;have ag:u.size=u.data.size:=rfl;refine ⟨_,_,Lib.bytesWorld_at_new w e u,?_,?_,λj hj x=>?_⟩
      · simp [Lib.bytesCells,cellsB,nb]
      · simp only [Lib.bytesCells,Array.size_append,Array.size_map,Array.size_replicate];omega
      have ak:=hj.resolve_right (λh=>h.2 ac);simp at x;omega
    rw [vg _ _ e0] at I;exact A.view.own k r I
  · obtain ⟨q1,q2⟩:=A.view.ro ad v ha;refine ⟨q1,?_⟩;have J:=World.block_lt_of_cell? _ _ (U.ro ad v ha).1;rw [vg _ _ vd];exact q2
  by_cases e0:k=w.heap.size
  · exact .inr vd
  rw [vg _ _ e0] at I;exact .inl I
end
end Mv
open Go.RowKit
namespace Mv
def Closed (ops:Array Oper) (listed:Array Bool):Prop:=∀ k o,ops[k]?=some o->listed.getD k false=true -> ∀ e ∈ o.after,Region.binds .any e=true->listed.getD e.on false=true
theorem zb5 (ops:Array Oper) (n:Nat):Closed ops (Array.replicate n false):=λk o _ h=>by
  by_cases e:k<n <;> simp [e] at h
theorem zbU {ops:Array Oper} {A:Array Bool} (h:Closed ops A) {i:Nat} (hi:i ∈ Region.ready .any ops A):Closed ops (A.setIfInBounds i true):=λk o hk hl e he V=>by
  refine getD_set_true ?_;by_cases I:i=k
  · subst I;obtain ⟨_,o',U,J⟩:=mem_ready.1 hi;obtain rfl:o=o':=Option.some.inj (hk.symm.trans U);exact J e he V
  rw [getD_set_ne false I] at hl;exact h k o hk hl e he V
def anc1 (acc:List Nat) (o:Oper):Nat:=o.after.toList.foldl (λm e=>if Region.binds .any e then m ||| (1 <<< e.on) ||| acc.getD e.on 0 else m) 0
def ancs (l:List Oper):List Nat:=l.foldl (λacc o=>acc ++ [anc1 acc o]) []
theorem zje (i n:Nat) (h:Nat.testBit (1 <<< n) i=true):i=n:=by
  rw [Nat.one_shiftLeft,Nat.testBit_two_pow] at h;have:n=i:=by simpa using h
  exact this.symm
theorem zmW (acc:List Nat) (I:List Edge) (U i:Nat) (h:Nat.testBit (I.foldl (λm e=>if Region.binds .any e then m ||| (1 <<< e.on) ||| acc.getD e.on 0 else m) U) i=true) :
    Nat.testBit U i=true \/ ∃ e ∈ I,Region.binds .any e=true/\(i=e.on\/Nat.testBit (acc.getD e.on 0) i=true):=by
  induction I generalizing U with
  | nil=>exact .inl h
  | cons e I ih =>
    rw [List.foldl_cons] at h;rcases ih _ h with h1 | ⟨V,J,A,h2⟩
    · split at h1
      · rename_i A;simp only [Nat.testBit_or,Bool.or_eq_true] at h1;rcases h1 with (h1 | h1) | h1
        · exact .inl h1
        · exact .inr ⟨e,by simp,A,.inl (zje _ _ h1)⟩
        exact .inr ⟨e,by simp,A,.inr h1⟩
      exact .inl h1
    exact .inr ⟨V,by simp [J],A,h2⟩
def Anc (ops:Array Oper) (i j:Nat):Prop:=∀ listed,Closed ops listed->(∀ o,ops[j]?=some o -> ∀ e ∈ o.after,Region.binds .any e=true->listed.getD e.on false=true)->listed.getD i false=true
theorem zmX (ops:Array Oper):∀ (l:List Oper) (pre A:List Nat) (k:Nat),(∀ j,l[j]?=ops[k+j]?)->A.length=k->(∀ j i,Nat.testBit (A.getD j 0) i=true -> ∃ o,ops[j]?=some o/\Anc ops i j) ->
    ∀ j i,Nat.testBit ((l.foldl (λA o=>A ++ [anc1 A o]) A).getD j 0) i=true -> ∃ o,ops[j]?=some o/\Anc ops i j:=by
  intro l
  induction l with
  | nil=>intro pre A k _ _ h;exact h
  | cons o l ih =>
    intro pre A k hl hk h;rw [List.foldl_cons];have h0:ops[k]?=some o:=(by simpa using (hl 0).symm);refine ih [] (A ++ [anc1 A o]) (k+1) (λj=>by have:=hl (j+1);simpa [Nat.add_assoc,Nat.add_comm 1 j] using this) (by simp [hk]) λj i J=>?_;rcases Nat.lt_trichotomy j A.length with hj | hj | hj
    · have e:(A ++ [anc1 A o]).getD j 0=A.getD j 0:=(by simp [List.getD,List.getElem?_append_left hj]);rw [e] at J;exact h j i J
    · have e:(A ++ [anc1 A o]).getD j 0=anc1 A o:=(by subst hj;simp [List.getD]);rw [e] at J;have ac:j=k:=(by omega);subst ac;refine ⟨o,h0,λI hc U=>?_⟩;rcases zmW A o.after.toList 0 i J with h1 | ⟨e,he,ae,h1⟩
      · simp at h1
      have V:=U o h0 e (by simpa using he) ae;rcases h1 with h1 | h1
      · rw [h1];exact V
      obtain ⟨o',aj,ha⟩:=h e.on i h1;exact ha I hc λo2 af e2 ad aa=>hc e.on o2 af V e2 ad aa
    have e:(A ++ [anc1 A o]).getD j 0=0:=(by simp [List.getD];rw [List.getElem?_eq_none (by simp;omega)];rfl);rw [e] at J;simp at J
def waitsFor (l:List Oper) (i j:Nat):Bool:=Nat.testBit ((ancs l).getD j 0) i
theorem zcO {l:List Oper} {i j:Nat} (h:waitsFor l i j=true):Anc l.toArray i j:=by
  obtain ⟨_,_,I⟩:=zmX l.toArray l [] [] 0 (by simp) rfl (λj i A=>by simp at A) j i h;exact I

section
variable {P:tz} {ops:Array Oper} {Q:Exit->Act->tv->Prop} {W:Nat->Bool} {C:tv->Prop}
def wpAnyG (P:tz) (ops:Array Oper) (Q:Exit->Act->tv->Prop) (W:Nat->Bool) (C:tv->Prop):Nat->Array Bool->Act->tv->Prop
  | 0,listed,a,w=>Region.ready .any ops listed = []/\Q .normal a w
  | fuel+1,listed,a,w =>
    (Region.ready .any ops listed = []->Q .normal a w) /\
    ∀ i ∈ Region.ready .any ops listed,wpOp P ops Q i (λa' w'=>(W i=false->C w->C w')/\wpAnyG P ops Q W C fuel (listed.setIfInBounds i true) a' w') a w
theorem zcd:∀ (fuel:Nat) (A:Array Bool) (a:Act) (w:tv),wpAnyG P ops Q W C fuel A a w->wpAny P .any ops Q fuel A a w
  | 0,_,_,_,h=>h
  | fuel+1,_,_,_,h=>⟨h.1,λi hi=>wpOp_mono (λI w' h'=>zcd fuel _ I w' h'.2) (h.2 i hi)⟩
theorem zc6 {D:tv->Prop} {i:Nat} {oi:Oper} {v:tu} (hi:ops[i]?=some oi) (ac:∀ (j:Nat) (o:Oper) cs b,ops[j]?=some o->o.op ≠ .select cs b)
    (hQ:∀ c a w,Q (.panic c) (a.put oi.dst v) w->Q (.panic c) a w)
    (hD:∀ j w w' A,Closed ops A->A.getD i true=false->j ∈ Region.ready .any ops A->D w->(W j=false->C w->C w')->D w') :
    ∀ (I:Nat) (A:Array Bool) (a:Act) (w:tv),Closed ops A ->
      (∀ j oj,ops[j]?=some oj->j≠i->A.getD j true=false->(∀ e ∈ oj.after,Region.binds .any e=true->e.on≠i)->oi.apart ops oj=true) ->
      i ∈ Region.ready .any ops A->YieldsIf P ops D oi v a->D w ->
      wpAnyG P ops Q W C I (A.setIfInBounds i true) (a.put oi.dst v) w->wpAnyG P ops Q W C (I+1) A a w:=by
  intro I
  induction I with
  | zero =>
    intro A a w ae _ hr hy hS H;refine ⟨λh=>(by rw [h] at hr;cases hr),λj hj=>?_⟩;by_cases J:j=i
    · subst J;exact hy.wpOp hi hS ⟨λ_ h=>h,H⟩
    have:=ready_mono hj J;rw [H.1] at this;cases this
  | succ I ih =>
    intro A a w ae V hr hy hS H;refine ⟨λh=>(by rw [h] at hr;cases hr),λj hj=>?_⟩;by_cases J:j=i
    · subst J;exact hy.wpOp hi hS ⟨λ_ h=>h,H⟩
    have h1:=H.2 j (ready_mono hj J);obtain ⟨ad,oj,aj,al⟩:=mem_ready.1 hj;have U:A.getD i true=false:=(mem_ready.1 hr).1;have am:∀ e ∈ oj.after,Region.binds .any e=true->e.on≠i:=λe he hb av=>by
      have h1:=al e he hb;rw [av] at h1;rcases Nat.lt_or_ge i A.size with h' | h'
      · simp [h'] at U h1;rw [U] at h1;cases h1
      simp [Array.getElem?_eq_none h'] at h1
    have h2:=wpOp_putIf aj (V j oj aj J ad am) (λcs b=>ac i oi cs b hi) (λcs b=>ac j oj cs b aj) hQ hy h1;have aa:∀ k ok,ops[k]?=some ok->k≠i->(A.setIfInBounds j true).getD k true=false ->
        (∀ e ∈ ok.after,Region.binds .any e=true->e.on≠i)->oi.apart ops ok=true:=λk ok hk aw U ax=>by
      refine V k ok hk aw ?_ ax;by_cases an:j=k
      · subst an;exact ad
      rw [getD_set_ne true an] at U;exact U
    refine wpOp_mono (λa' w' h3=>?_) h2;refine ⟨h3.2.1,ih (A.setIfInBounds j true) a' w' (zbU ae hj) aa (ready_mono hr (Ne.symm J)) h3.1 (hD j w w' A ae U hj hS h3.2.1) ?_⟩;rw [Array.setIfInBounds_comm _ _ J];exact h3.2.2
end

/-! ### The walk of such a region -/
def pureOp (o:Oper):Bool:=match o.op with
  | .move _ | .assign _ | .pick .. | .binOp .. | .unOp .. | .nilCheck _ | .fieldAddr .. | .extract .. | .indexAddr .. | .slice .. | .build .. | .call ⟨.builtin .len,_,_⟩=>true
  | _=>false
def noMem:Mem:=⟨λ_=>none,⟨λ_=>none,λ_=>none⟩⟩
theorem zet (w:tv):View noMem w:=⟨λ_ _ h=>(by cases h),λ_ _ h=>(by cases h),λ_ _ h=>(by cases h)⟩
def mayFirst (l:List Oper) (W:List Nat) (listed:Array Bool) (i:Nat):Bool :=
  (Region.ready .any l.toArray listed).contains i && Region.free .any l.toArray listed i && ((l[i]?).any pureOp || W.all λj=>waitsFor l i j)
def stepsOK (l:List Oper) (W:List Nat):List (Nat × Bool)->Array Bool->Bool
  | [],listed=>(Region.ready .any l.toArray listed).isEmpty
  | (i,b) :: is,listed=>(if b then mayFirst l W listed i else Region.ready .any l.toArray listed == [i]) && stepsOK l W is (listed.setIfInBounds i true)
def drawOK (l:List Oper) (st:List (Nat × Bool)) (W:List Nat):Bool :=
  Region.noSelect l.toArray && (st.length == l.length) && stepsOK l W st (Array.replicate l.length false)
section
variable {P:tz} {N:Nat}
def ACalmG (P:tz) (N:Nat) (ops:Array Oper) (o:Oper) (E:Env) (S:Mem) (v:tu):Prop:=∀ a w,Good N E a->View S w ->
  (Region.wanted o (yielded ops a.tmps)=true/\(execOp a.eval o).run P w = .ok (.value v) w)\/(Region.wanted o (yielded ops a.tmps)=false/\v=undef)
def DrawRun (P:tz) (N:Nat) (l:List Oper) (W:List Nat) (S0:Mem):List (Nat × Bool)->(Env->Mem->Prop)->Env->Mem->Prop
  | [],K,E,S=>K E S
  | (i,true) :: is,K,E,S=>∃ o d v,l[i]?=some o/\o.dst=some d/\d<N/\(pureOp o=true\/S0.Less S)/\ACalmG P N l.toArray o E (if pureOp o then noMem else S0) v/\DrawRun P N l W S0 is K ((d,v) :: E) S
  | (i,false) :: is,K,E,S=>∃ o,l[i]?=some o/\AOp P N l.toArray o (λE' S'=>(W.contains i=false->S0.Less S')/\DrawRun P N l W S0 is K E' S') E S
def Q0 (N:Nat) (K:Env->Mem->Prop) (S:Mem) (w:tv):Exit->Act->tv->Prop
  | .normal,a',w'=>Post N K S w a' w'
  | _,_,_=>False
theorem zsp {l:List Oper} {W:List Nat} {S0:Mem} {w0:tv} {K:Env->Mem->Prop} (ao:Region.noSelect l.toArray=true):∀ (st:List (Nat × Bool)) (A:Array Bool) (E:Env) (S:Mem) (a:Act) (w:tv),
    stepsOK l W st A=true->Closed l.toArray A->DrawRun P N l W S0 st K E S->Good N E a->View S w->Step S0 w0 S w->wpAnyG P l.toArray (Q0 N K S0 w0) (λi=>W.contains i) (View S0) st.length A a w:=by
  intro st
  induction st with
  | nil =>
    intro A E S a w hr aa h g hv hs;exact ⟨by simpa [stepsOK] using hr,E,S,h,g,hs⟩
  | cons p is ih =>
    obtain ⟨i,b⟩:=p;intro A E S a w hr aa h g hv hs;cases b with
    | false =>
      simp only [stepsOK,Bool.and_eq_true,beq_iff_eq,Bool.false_eq_true,if_false] at hr;obtain ⟨av,aE⟩:=hr;refine ⟨λh0=>(by rw [av] at h0;cases h0),λj hj=>?_⟩;have aC:=hj;rw [av] at hj;obtain rfl:j=i:=(by simpa using hj);obtain ⟨o,ho,aB⟩:=h;have h1:=aB a w g hv;unfold wpOp;have U:l.toArray[j]?=some o:=(by simpa using ho);simp only [U];have next:∀ a1 w1,Post N (λE' S'=>(W.contains j=false->S0.Less S')/\DrawRun P N l W S0 is K E' S') S w a1 w1->(W.contains j=false->View S0 w->View S0 w1)/\wpAnyG P l.toArray (Q0 N K S0 w0) (λi=>W.contains i) (View S0) is.length (A.setIfInBounds j true) a1 w1:=λa1 w1 ⟨E1,S1,⟨k1,k2⟩,g1,s1⟩ =>
        ⟨λV _=>s1.view.less (k1 V),ih _ E1 S1 a1 w1 aE (zbU aa aC) k2 g1 s1.view (hs.trans s1)⟩
      split
      · rename_i V;rw [if_pos V] at h1;exact .inl (zdS (Oper.wp_mono next h1))
      rename_i V;rw [if_neg V] at h1;exact next _ _ h1
    | true =>
      simp only [stepsOK,Bool.and_eq_true,if_true] at hr;obtain ⟨al,aF⟩:=hr;obtain ⟨o,d,v,ho,hd,hn,ah,J,ae⟩:=h;simp only [mayFirst,Bool.and_eq_true,Bool.or_eq_true] at al;obtain ⟨⟨hr,hf⟩,hp⟩:=al;have U:l.toArray[i]?=some o:=(by simpa using ho);have au:i ∈ Region.ready .any l.toArray A:=(by simpa using hr);let D:tv->Prop:=λw'=>if pureOp o=true then True else View S0 w'
      have ak:D w:=by
        simp only [D];split
        · trivial
        rename_i hx;exact hv.less (ah.resolve_left hx)
      have ac:∀ w',D w'->View (if pureOp o then noMem else S0) w':=λw' h=>by
        simp only [D] at h;split
        · exact zet _
        rename_i hx;rw [if_neg hx] at h;exact h
      refine zc6 (D:=D) (v:=v) U (Region.noSelect_spec ao) (λc a w h=>h) ?_ is.length A a w aa (Region.free_spec U hf) au ?_ ak ?_
      · intro j w1 w2 I aq am hj af ag;simp only [D] at af ⊢;split
        · trivial
        rename_i hx;rw [if_neg hx] at af;refine ag ?_ af;rcases hp with hp | hp
        · rw [ho] at hp;exact absurd (by simpa using hp) hx
        cases aH:W.contains j with
        | false=>rfl
        | true =>
          have h1:=List.all_eq_true.1 hp j (by simpa using aH);obtain ⟨aX,oj,aJ,an⟩:=mem_ready.1 hj;have h2:=zcO h1 I aq λo2 aI e he hb=>by
            obtain rfl:oj=o2:=Option.some.inj (aJ.symm.trans aI);exact an e he hb
          rcases Nat.lt_or_ge i I.size with aD | hge
          · simp [aD] at am h2;rw [am] at h2;cases h2
          simp [Array.getElem?_eq_none hge] at h2
      · by_cases V:Region.wanted o (yielded l.toArray a.tmps)=true
        · refine .inl ⟨V,λw' aG=>?_⟩;rcases J a w' g (ac w' aG) with h1 | h1
          · exact h1.2
          rw [V] at h1;cases h1.1
        rcases J a w g (ac w ak) with h1 | h1
        · exact absurd h1.1 V
        exact .inr h1
      rw [hd];exact ih (A.setIfInBounds i true) _ S _ w aF (zbU aa au) ae (g.put hn v) hv hs
theorem AWP.draw {id:Nat} {l:List Oper} {Q:Exit->Env->Mem->Prop} {E:Env} {S:Mem} (st:List (Nat × Bool)) (W:List Nat) (hm:P.follows .mixedOrders=true) (A:drawOK l st W=true)
    (h:DrawRun P N l W S st (Q .normal) E S):AWP P N (.region id l.toArray true) Q E S:=λa w g hv=>by
  simp only [drawOK,Bool.and_eq_true,beq_iff_eq] at A;obtain ⟨⟨h1,U⟩,V⟩:=A;refine wp_mono (Q:=Q0 N (Q .normal) S w) ?_ (λe a' w' x=>by cases e <;> first | exact x | exact x.elim);refine wp_region_any hm ?_;refine zcd (W:=λi=>W.contains i) (C:=View S) _ _ _ _ ?_;have J:l.toArray.size=st.length:=by simp [U]
  rw [J];have I:Step S w S { w with drawn:=w.drawn+1 }:=Step.drawn hv _;exact zsp h1 st _ E S a _ (by rw [U];exact V) (zb5 _ _) h g I.view I
end
end Mv
open Go.RowKit
namespace Mv
section
variable {P:tz} {t:tx} {x y:tw} {k:IntKind}
theorem zhd (a b:Int):Bin P .add t x y (.int k a) (.int k b) (.int k (k.wrap (a+b))):=λw=>by simp [eqGuard,binOp,Op.intArith]
theorem zjf (a b:Int):Bin P .sub t x y (.int k a) (.int k b) (.int k (k.wrap (a-b))):=λw=>by simp [eqGuard,binOp,Op.intArith]
theorem zjg (a b:Int):Bin P .mul t x y (.int k a) (.int k b) (.int k (k.wrap (a*b))):=λw=>by simp [eqGuard,binOp,Op.intArith]
theorem zhe {a b c:Int} (h:k.wrap (a+b)=c):Bin P .add t x y (.int k a) (.int k b) (.int k c):=h ▸ zhd a b
theorem zkB {a b c:Int} (h:k.wrap (a-b)=c):Bin P .sub t x y (.int k a) (.int k b) (.int k c):=h ▸ zjf a b
theorem ze_ {a b c:Int} (h:k.wrap (a*b)=c):Bin P .mul t x y (.int k a) (.int k b) (.int k c):=h ▸ zjg a b
theorem zjh {a b:Int} (A:b≠0):Bin P .quo t x y (.int k a) (.int k b) (.int k (k.wrap (a.tdiv b))):=λw=>by simp [eqGuard,binOp,Op.intDiv,A]
theorem zmY {a b:Int} (A:b≠0):Bin P .rem t x y (.int k a) (.int k b) (.int k (a.tmod b)):=λw=>by simp [eqGuard,binOp,Op.intDiv,A]
theorem zhf {a b:Int} (A:b≠0) (I:0<=a):Bin P .rem t x y (.int k a) (.int k b) (.int k (a % b)):=by rw [<- Int.tmod_eq_emod_of_nonneg I];exact zmY A
theorem zkC {a b c:Int} (A:b≠0) (h:k.wrap (a.tdiv b)=c):Bin P .quo t x y (.int k a) (.int k b) (.int k c):=h ▸ zjh A
theorem za9 (a b:Int):Bin P .lss t x y (.int k a) (.int k b) (.bool (decide (a<b))):=λw=>by simp [eqGuard,binOp,Op.intCmp]
theorem zeu (a b:Int):Bin P .leq t x y (.int k a) (.int k b) (.bool (decide (a<=b))):=λw=>by simp [eqGuard,binOp,Op.intCmp]
theorem zev (a b:Int):Bin P .gtr t x y (.int k a) (.int k b) (.bool (decide (b<a))):=λw=>by simp [eqGuard,binOp,Op.intCmp]
theorem zcP (a b:Int):Bin P .geq t x y (.int k a) (.int k b) (.bool (decide (b<=a))):=λw=>by simp [eqGuard,binOp,Op.intCmp]
theorem zaV (a b:Int):Bin P .eql t x y (.int k a) (.int k b) (.bool (decide (a=b))):=λw=>by simp [eqGuard,binOp,Op.intCmp];rw [Bool.eq_iff_iff];simp
theorem zcp (a b:Int):Bin P .neq t x y (.int k a) (.int k b) (.bool (!decide (a=b))):=λw=>by simp [eqGuard,binOp,Op.intCmp];rw [Bool.eq_iff_iff];simp
theorem zag {op:BinOp} {vx vy:tu} {b c:Bool} (h:Bin P op t x y vx vy (.bool b)) (e:b=c):Bin P op t x y vx vy (.bool c):=e ▸ h
theorem zmZ (a b:Int):Bin P .and t x y (.int k a) (.int k b) (.int k (bits .and k a b)):=λw=>by
  simp only [eqGuard,binOp,Op.intBits,bits];simp
theorem zu8 (a b:Int):Bin P .or t x y (.int k a) (.int k b) (.int k (bits .or k a b)):=λw=>by
  simp only [eqGuard,binOp,Op.intBits,bits];simp
theorem zm0 (a b:Int):Bin P .xor t x y (.int k a) (.int k b) (.int k (bits .xor k a b)):=λw=>by
  simp only [eqGuard,binOp,Op.intBits,bits];simp
theorem zew {a b:Int} {k':IntKind} (J:0<=b) (U:b<=k.bits):Bin P .shl t x y (.int k a) (.int k' b) (.int k (k.wrap (a*2 ^ b.toNat))):=λw=>by
  have A : ¬ b<0:=by omega
  have I:min b.toNat k.bits=b.toNat:=by omega
  simp [eqGuard,binOp,Op.shift,A,I]
theorem zm1 {a b:Int} {k':IntKind} (U:0<=b) (V:b<=k.bits):Bin P .shr t x y (.int k a) (.int k' b) (.int k (a / 2 ^ b.toNat)):=λw=>by
  have I : ¬ b<0:=by omega
  have J:min b.toNat k.bits=b.toNat:=by omega
  have A:(0:Int)<=2 ^ b.toNat:=Int.pow_nonneg vd;simp [eqGuard,binOp,Op.shift,I,J,Int.fdiv_eq_ediv_of_nonneg _ A]
theorem zji (b:Bool):Una P .not (.bool b) (.bool !b):=λw=>by simp [Op.unary]
theorem zkD {s d:tx} {k k':IntKind} {n:Int} {A:TypeDesc} (hs:P.underlying s=some A) (hd:P.underlying d=some (.int k')):Mv.Conv P s d (.int k n) (.int k' (k'.wrap n)):=λw=>by
  simp only [convert,Sem.run_bind,run_underlying hs,run_underlying hd,Result.andThen_ok];cases A <;> simp [Go.Conv.intToInt]
theorem zbz {s d:tx} {k k':IntKind} {n m:Int} {A:TypeDesc} (hs:P.underlying s=some A) (hd:P.underlying d=some (.int k')) (h:k'.wrap n=m):Mv.Conv P s d (.int k n) (.int k' m):=h ▸ zkD hs hd
end

/-! ### Through the exits -/
section
variable {P:tz} {N:Nat} {next:Env->Mem->Prop} {Q:Exit->Env->Mem->Prop} {E:Env} {S:Mem} {id:Nat}
theorem zau (h:next E S):Athen next Q .normal E S:=h
theorem zcy (h:Q (.exit id) E S):Athen next Q (.exit id) E S:=h
theorem zm2 (h:Q .ret E S):Athen next Q .ret E S:=h
theorem zhg (h:Q .normal E S):AinBlock id Q .normal E S:=h
theorem zm3 (h:Q .ret E S):AinBlock id Q .ret E S:=h
theorem zhh (h:Q .normal E S):AinBlock id Q (.exit id) E S:=by simpa [AinBlock] using h
theorem zm4 {j:Nat} (A:(j == id)=false) (h:Q (.exit j) E S):AinBlock id Q (.exit j) E S:=by
  have:j≠id:=by simpa using A
  simpa [AinBlock,this] using h
def JoinQ {X:Type} (Q:Exit->Env->Mem->Prop) (st:X->Env) (m:X->Mem) (ok:X->Prop):Exit->Env->Mem->Prop
  | .normal,E,S=>∃ x,ok x/\Sub (st x) E/\(m x).Less S
  | e,E,S=>Q e E S
theorem AWP.join {X:Type} {c:Code} (st:X->Env) (m:X->Mem) (ok:X->Prop) (h:AWP P N c (JoinQ Q st m ok) E S) (k:∀ x,ok x -> ∀ E' S',Sub (st x) E'->(m x).Less S'->Q .normal E' S'):AWP P N c Q E S :=
  h.mono λe E' S' A=>match e,A with
    | .normal,⟨x,h1,h2,h3⟩=>k x h1 E' S' h2 h3
    | .ret,A=>A
    | .exit _,A=>A
    | .goto _,A=>A
    | .outgrown,A=>A
    | .panic _,A=>A
theorem zp2 {X:Type} {st:X->Env} {m:X->Mem} {ok:X->Prop} (h:Q .ret E S):JoinQ Q st m ok .ret E S:=h
theorem zad {ops:Array Oper} {K:Env->Mem->Prop} (h:K E S):ARun P N ops [] K E S:=h
theorem zcQ {l:List Oper} {W:List Nat} {S0:Mem} {K:Env->Mem->Prop} (h:K E S):DrawRun P N l W S0 [] K E S:=h
theorem zm5 {l:List Oper} {W:List Nat} {S0:Mem} {K:Env->Mem->Prop} {i:Nat} {is:List (Nat × Bool)} {o:Oper} {d:Nat} {v:tu} (A:l[i]?=some o) (V:o.guard=none) (hd:o.dst=some d) (I:d<N) (U:S0.Less S)
    (hc:∀ S',(pureOp o=true\/S'=S0)->ACalm P N o E S' v) (h:DrawRun P N l W S0 is K ((d,v) :: E) S):DrawRun P N l W S0 ((i,true) :: is) K E S :=
  ⟨o,d,v,A,hd,I,.inr U,λa w g J=>.inl ⟨by simp [Region.wanted,V],hc _ (by split <;> simp_all) a w g J⟩,h⟩
theorem zia {l:List Oper} {W:List Nat} {S0:Mem} {K:Env->Mem->Prop} {i:Nat} {is:List (Nat × Bool)} {o:Oper} {d:Nat} {v:tu} (I:l[i]?=some o) (A:pureOp o=true) (V:o.guard=none) (hd:o.dst=some d) (J:d<N)
    (hc:∀ S',ACalm P N o E S' v) (h:DrawRun P N l W S0 is K ((d,v) :: E) S):DrawRun P N l W S0 ((i,true) :: is) K E S :=
  ⟨o,d,v,I,hd,J,.inl A,λa w g U=>.inl ⟨by simp [Region.wanted,V],hc _ a w g U⟩,h⟩
theorem zgq {l:List Oper} {W:List Nat} {S0:Mem} {K:Env->Mem->Prop} {i:Nat} {is:List (Nat × Bool)} {o:Oper} {d:Nat} {v:tu} (j:Nat) (t:Bool) (dj:Nat) (U:l[i]?=some o) (hg:o.guard=some (j,t)) (A:(l.toArray[j]?).bind (·.dst)=some dj) (I:dj<N) (J:lk E dj=some (.bool t)) (hd:o.dst=some d) (V:d<N) (hl:S0.Less S)
    (hc:∀ S',(pureOp o=true\/S'=S0)->ACalm P N o E S' v) (h:DrawRun P N l W S0 is K ((d,v) :: E) S):DrawRun P N l W S0 ((i,true) :: is) K E S:=by
  cases e:l.toArray[j]? with
  | none=>rw [e] at A;simp at A
  | some og =>
    rw [e] at A;exact ⟨o,d,v,U,hd,V,.inr hl,λa w g hv=>.inl ⟨by simp [Region.wanted,hg,zcc g e (by simpa using A) I J],hc _ (by split <;> simp_all) a w g hv⟩,h⟩
theorem zlJ {l:List Oper} {W:List Nat} {S0:Mem} {K:Env->Mem->Prop} {i:Nat} {is:List (Nat × Bool)} {o:Oper} {d:Nat} (j:Nat) (t u:Bool) (dj:Nat) (V:l[i]?=some o) (hg:o.guard=some (j,t)) (A:(l.toArray[j]?).bind (·.dst)=some dj) (I:dj<N) (U:lk E dj=some (.bool u)) (J:(u == t)=false) (hd:o.dst=some d) (hn:d<N) (hl:S0.Less S)
    (h:DrawRun P N l W S0 is K ((d,undef) :: E) S):DrawRun P N l W S0 ((i,true) :: is) K E S:=by
  cases e:l.toArray[j]? with
  | none=>rw [e] at A;simp at A
  | some og =>
    rw [e] at A;exact ⟨o,d,undef,V,hd,hn,.inr hl,λa w g hv=>.inr ⟨by simp [Region.wanted,hg,zcc g e (by simpa using A) I U];intro x;subst x;simp at J,rfl⟩,h⟩
theorem zac {l:List Oper} {W:List Nat} {S0:Mem} {K:Env->Mem->Prop} {i:Nat} {is:List (Nat × Bool)} {o:Oper} (A:l[i]?=some o)
    (h:ARun P N l.toArray [o] (λE' S'=>(W.contains i=false->S0.Less S')/\DrawRun P N l W S0 is K E' S') E S):DrawRun P N l W S0 ((i,false) :: is) K E S:=⟨o,A,h⟩
end
theorem zab {a b:Nat} (h:a.blt b=true):a<b:=by simpa using h
end Mv
open Go.RowKit
namespace Mv
def LessB (B:List Nat) (S' S:Mem):Prop:=(∀ k r,k ∉ B->S'.own k=some r->S.own k=some r)/\S'.ro=S.ro
theorem zte {S' S:Mem} (h:LessB [] S' S):S'.Less S:=⟨λk r A=>h.1 k r (by simp) A,h.2⟩
theorem LessB.refl (B:List Nat) (S:Mem):LessB B S S:=⟨λ_ _ _ h=>h,rfl⟩
theorem LessB.of {B:List Nat} {S' S:Mem} (h:S'.Less S):LessB B S' S:=⟨λk r _ A=>h.1 k r A,h.2⟩
theorem LessB.set {B:List Nat} {S' M:Mem} {b:Nat} {r:Blk} (I:M.own b=some r) (h:LessB (b :: B) S' M):LessB B (S'.set b r) M:=⟨λk r' J A=>by
  by_cases e:k=b
  · subst e;rw [vf] at A;cases A;exact I
  rw [vg _ _ e] at A;exact h.1 k r' (by simp [e,J]) A,h.2⟩
theorem LessB.skip {B:List Nat} {S' M:Mem} {b:Nat} {r:Blk} (hb:b ∈ B\/S'.own b=none) (h:LessB B S' M):LessB B S' (M.set b r):=⟨λk r' I A=>by
  by_cases e:k=b
  · subst e;rcases hb with hb | hb
    · exact absurd hb I
    rw [hb] at A;cases A
  rw [vg _ _ e];exact h.1 k r' I A,h.2⟩
theorem zcq {S:Mem} {b j:Nat} {r:Blk} {v:tu} (h:S.own b=some r) (A:r.cells[j]?=some v):S.rd ⟨b,j,none⟩=some v:=(zdv h j).trans A
theorem zkE {E:Env} {i:tw} {k:IntKind} (A y:Nat) (h:ev E i=some (.int k 0)):bnd E (some i) A y 0:=⟨k,0,h,by omega,by omega,rfl⟩
theorem zjj (c:UInt8):IntKind.u64.wrap (nb c)=nb c:=IntWalk.u64_in _ (by have:=nb_nonneg c;have:=nb_le c;omega)
theorem zbh {p:Prop} [Decidable p] (h : ¬ p):(!decide p)=true:=by simp [h]
theorem zaM {p:Prop} [Decidable p] (h:p):(!decide p)=false:=by simp [h]
def bldT (P:tz) (T:tx):Option (List (Nat × Nat) × List tu):=match P.underlying T with
  | some (.struct fs)=>match fs.toList.mapM λ(f:Field)=>(P.info? f.type).map λi=>(f.offset,i.size) with
    | some ps=>match (P.info? T).bind (·.zero) with
      | some z=>some (ps,z.cells.toList)
      | none=>none
    | none=>none
  | _=>none
def bldL (ps:List (Nat × Nat)):List tu->List (Nat × tu)->Option (List tu)
  | cs,[]=>some cs
  | cs,(i,v) :: rest=>match ps[i]? with
    | some (off,n)=>if v.cells.size=n/\off+n<=cs.length then bldL ps (spl cs off v.cells.toList) rest else none
    | none=>none
theorem zib (k:Nat):∀ (cs:List tu) (m:Nat) (A:Array tu),k+m+cs.length<=A.size->((cs.zipIdx m).foldl (λ(bs:Array tu) (p:tu × Nat)=>bs.setIfInBounds (k+p.2) p.1) A).toList=spl A.toList (k+m) cs:=by
  intro cs
  induction cs with
  | nil=>intro m A I;simp [spl]
  | cons c cs J =>
    intro m A I;simp only [List.length_cons] at I;rw [List.zipIdx_cons,List.foldl_cons,J (m+1) _ (by simp;omega)];simp only [spl,Array.toList_setIfInBounds,List.length_cons];rw [List.set_eq_take_append_cons_drop,if_pos (by simp;omega)];have e1:(A.toList.take (k+m)).length=k+m:=(by simp;omega);have e2:List.take (k+(m+1)) (A.toList.take (k+m) ++ c :: A.toList.drop (k+m+1))=A.toList.take (k+m) ++ [c]:=by
      rw [List.take_append,e1,show k+(m+1)-(k+m)=1 from by omega,List.take_of_length_le vd];simp
    have e3:List.drop (k+(m+1)+cs.length) (A.toList.take (k+m) ++ c :: A.toList.drop (k+m+1))=A.toList.drop (k+m+(cs.length+1)):=by
      rw [List.drop_append,e1,List.drop_of_length_le vd,List.nil_append,show k+(m+1)+cs.length-(k+m)=cs.length+1 from by omega,List.drop_succ_cons,List.drop_drop];congr 1;omega
    rw [e2,e3];simp
theorem zm6 (ps:List (Nat × Nat)):∀ (A:List (Nat × tu)) (cells:Array tu) (cs:List tu),bldL ps cells.toList A=some cs->Instr.fill (λi=>ps[i]?) cells A=some cs.toArray:=by
  intro A
  induction A with
  | nil=>intro cells cs h;simp [bldL] at h;subst h;simp [Instr.fill]
  | cons p rest ih =>
    obtain ⟨i,v⟩:=p;intro cells cs h;simp only [bldL] at h;cases e:ps[i]? with
    | none=>simp [e] at h
    | some on =>
      obtain ⟨off,n⟩:=on;simp only [e] at h;split at h
      · rename_i hc;obtain ⟨I,V⟩:=hc;have ac:off+v.cells.size<=cells.size:=(by rw [I];simpa using V);simp only [Instr.fill,e];have U:(v.cells.size≠n || decide (off+v.cells.size > cells.size))=false:=(by simp [I];omega);simp only [U,Bool.false_eq_true,if_false];have J:=zib off v.cells.toList 0 cells (by simp;omega);rw [Nat.add_zero] at J;have e2:Array.foldl (λ(bs:Array tu) (p:tu × Nat)=>bs.setIfInBounds (off+p.2) p.1) cells v.cells.zipIdx=(spl cells.toList off v.cells.toList).toArray:=by
          apply Array.ext';rw [<- Array.foldl_toList,Array.toList_zipIdx,J]
        refine (congrArg (λx=>Instr.fill (λi=>ps[i]?) x rest) e2).trans ?_;exact ih _ _ (by simpa using h)
      cases h
section
variable {P:tz} {N:Nat} {ops:Array Oper} {E:Env} {S:Mem}
variable {dst:Option Nat} {ty:tx} {pos:String} {aft:Array Edge} {gd:Option (Nat × Bool)}
theorem zfv {A:List Field} {ps:List (Nat × Nat)} (h:A.mapM (λ(f:Field)=>(P.info? f.type).map λi=>(f.offset,i.size))=some ps) (w:tv) :
    (A.mapM λ(f:Field)=>(do pure (f.offset,<- sizeOf f.type):Sem (Nat × Nat))).run P w = .ok ps w:=by
  induction A generalizing ps with
  | nil=>simp at h;subst h;simp
  | cons f A J =>
    rw [List.mapM_cons] at h;cases e1:P.info? f.type with
    | none=>simp [e1] at h
    | some i =>
      cases e2:(A.mapM λ(f:Field)=>(P.info? f.type).map λi=>(f.offset,i.size)) with
      | none=>simp [e1,e2] at h
      | some I =>
        simp [e1,e2] at h;subst h;rw [List.mapM_cons,Sem.run_bind,Sem.run_bind];simp [sizeOf,typeInfo,e1];have:=J e2;simp [sizeOf,typeInfo] at this;simp [this]
theorem zic (f:tw->tu) (l:List (Nat × tw)):l.map (λp=>(p.1,f p.2))=(l.map (·.1)).zip (l.map (f ∘ λx=>x.2)):=by
  induction l with
  | nil=>rfl
  | cons p l A=>simp only [List.map_cons,List.zip_cons_cons,A];rfl
theorem Calm.build {T:tx} {ps:List (Nat × Nat)} {z:List tu} {A:List (Nat × tw)} {vs cs:List tu} (U:bldT P T=some (ps,z)) (hx:evs E (A.map (·.2))=some vs) (hb:bldL ps z ((A.map (·.1)).zip vs)=some cs) :
    ACalm P N ⟨dst,.build T A.toArray,ty,pos,aft,gd⟩ E S (.agg cs.toArray):=λc w g hv=>by
  unfold bldT at U;cases e:P.underlying T with
  | none=>simp [e] at U
  | some d =>
    cases d <;> simp [e] at U;rename_i fs;cases e1:(fs.toList.mapM λ(f:Field)=>(P.info? f.type).map λi=>(f.offset,i.size)) with
    | none=>simp [e1] at U
    | some I =>
      cases e2:(P.info? T).bind (·.zero) with
      | none=>simp [e1,e2] at U
      | some zv =>
        simp [e1,e2] at U;obtain ⟨rfl,rfl⟩:=U;have hz:(zeroValue T).run P w = .ok zv w:=by
          cases e3:P.info? T with
          | none=>simp [e3] at e2
          | some i=>simp [e3] at e2;simp [zeroValue,typeInfo,e3,e2]
        have ad:(fs.mapM λ(f:Field)=>(do pure (f.offset,<- sizeOf f.type):Sem (Nat × Nat))).run P w = .ok I.toArray w:=by
          have:=zfv (P:=P) e1 w;rw [<- Array.toArray_toList (xs:=fs),List.mapM_toArray,Sem.run_map,this];rfl
        have ac:=g.evs hx;have J:(A.toArray.map λ(p:Nat × tw)=>(p.1,c.eval p.2)).toList=(A.map (·.1)).zip vs:=by
          rw [<- ac];simp only [List.map_toArray,List.map_map];exact zic c.eval A
        have V:=zm6 I _ zv.cells cs hb;simp only [execOp,Instr.build];simp only [Sem.run_bind,hz,Result.andThen_ok,run_underlying e w];rw [ad];simp only [Result.andThen_ok];have aa:(λ(i:Nat)=>I.toArray[i]?)=λ(i:Nat)=>I[i]?:=(by funext i;simp);rw [J,aa,V];rfl
theorem Calm.minL {x y:tw} {k k':IntKind} {a b:Int} {ats:Array tx} (A:ev E x=some (.int k a)) (J:ev E y=some (.int k' b)) (h:a<=b):ACalm P N ⟨dst,.call ⟨.builtin .min,#[x,y],ats⟩,ty,pos,aft,gd⟩ E S (.int k a):=λc w g U=>by
  have I:=run_min_int2 (P:=P) (w:=w) ats ty k k' a b;simp only [execOp,resolve,invoke,builtin,List.map_toArray,List.map_cons,List.map_nil,g.ev A,g.ev J,Sem.run_bind,Sem.run_pure,Result.andThen_ok,I];congr 3;split <;> omega
theorem Calm.minR {x y:tw} {k k':IntKind} {a b:Int} {ats:Array tx} (A:ev E x=some (.int k a)) (J:ev E y=some (.int k' b)) (h:b<=a):ACalm P N ⟨dst,.call ⟨.builtin .min,#[x,y],ats⟩,ty,pos,aft,gd⟩ E S (.int k b):=λc w g U=>by
  have I:=run_min_int2 (P:=P) (w:=w) ats ty k k' a b;simp only [execOp,resolve,invoke,builtin,List.map_toArray,List.map_cons,List.map_nil,g.ev A,g.ev J,Sem.run_bind,Sem.run_pure,Result.andThen_ok,I];congr 3;split <;> omega
theorem uR {x y:tw} {k k':IntKind} {a b:Int} {ats:Array tx} (A:ev E x=some (.int k a)) (J:ev E y=some (.int k' b)) (h:b<=a):ACalm P N ⟨dst,.call ⟨.builtin .max,#[x,y],ats⟩,ty,pos,aft,gd⟩ E S (.int k a):=λc w g U=>by
  have I:=run_max_int2 (P:=P) (w:=w) ats ty k k' a b;simp only [execOp,resolve,invoke,builtin,List.map_toArray,List.map_cons,List.map_nil,g.ev A,g.ev J,Sem.run_bind,Sem.run_pure,Result.andThen_ok,I];congr 3;split <;> omega
theorem uO {x y:tw} {k k':IntKind} {a b:Int} {ats:Array tx} (A:ev E x=some (.int k a)) (J:ev E y=some (.int k' b)) (h:a<=b):ACalm P N ⟨dst,.call ⟨.builtin .max,#[x,y],ats⟩,ty,pos,aft,gd⟩ E S (.int k b):=λc w g U=>by
  have I:=run_max_int2 (P:=P) (w:=w) ats ty k k' a b;simp only [execOp,resolve,invoke,builtin,List.map_toArray,List.map_cons,List.map_nil,g.ev A,g.ev J,Sem.run_bind,Sem.run_pure,Result.andThen_ok,I];congr 3;split <;> omega
theorem vk {os:List Oper} {K:Env->Mem->Prop} {T:tx} {x y:tw} {b o:Nat} {r:Blk} {v:tu} (U:ev E x=some (.pointer (some ⟨b,o,none⟩))) (V:ev E y=some v) (hs:sizeT P T=some 1) (A:v.cells = #[v]) (J:S.own b=some r) (I:o<r.cells.length) (h1:v.oneCell'=true)
    (h:ARun P N ops os K E (S.set b ⟨r.elem,r.cells.set o v,r.room⟩)):ARun P N ops (⟨none,.store T x y,ty,pos,aft,none⟩ :: os) K E S:=by
  refine ARun.store U V (by rw [A];exact hs) J (by rw [A];exact I) (by rw [A];simp [h1]) ?_;rw [A];simpa [ztd _ _ _ I] using h
theorem zdU {M A:Mem} {b:Nat} {r:Blk} (h:M.del b=A):(M.set b r).del b=A:=by
  rw [<- h];unfold Mem.set Mem.del;congr 1;funext k;by_cases e:k=b <;> simp [e]
theorem zjk {M I:Mem} {b k:Nat} {r:Blk} (A:k≠b) (h:M.del b=I):(M.set k r).del b=I.set k r:=by
  rw [<- h];unfold Mem.set Mem.del;congr 1;funext j;by_cases e:j=b
  · subst e;simp [Ne.symm A]
  simp [e]
theorem zkF {S:Mem} {b:Nat} (h:Fresh S b):S.del b=S:=zmV S b h.1
theorem uW {os:List Oper} {K:Env->Mem->Prop} {T e:tx} {y:Nat} {z:tu} {x1 x2:tw} {b k c:Nat} {xs news:List tu} {a2:Addr} {m c2 d:Nat} (hn:d<N) (hT:slT P T=some (e,1,y,[z]))
    (hx:ev E x1=some (.slice (some ⟨b,0,none⟩) k c)) (hb:S.own b=some ⟨e,xs,c⟩) (an:xs.length=k)
    (hy:ev E x2=some (.slice (some a2) m c2)) (A:S.rds a2 news) (ao:news.length=m) (h1:∀ v ∈ news,v.oneCell'=true) (J:(k+m)*y<=140737488355328) (U:k+m<=9223372036854775807)
    {V:Mem} (I:S.del b=V)
    (h:∀ b' c',Fresh V b'->k+m<=c'->ARun P N ops os K ((d,.slice (some ⟨b',0,none⟩) (k+m) c') :: E) (V.set b' ⟨e,xs ++ news,c'⟩)) :
    ARun P N ops (⟨some d,.call ⟨.builtin .append,#[x1,x2],#[T,T]⟩,ty,pos,aft,none⟩ :: os) K E S :=
  uH hn hT rfl hx (by rw [Nat.mul_one];exact hb) vd hy A vd h1 J U (λb' c' h2 h3=>by rw [I] at h2 ⊢;have:=h b' c' h2 h3;rwa [Nat.mul_one])
theorem ue {os:List Oper} {K:Env->Mem->Prop} {T e:tx} {y:Nat} {z:tu} {U x2:tw} {news:List tu} {V:Addr} {m c2 d:Nat} (hn:d<N) (hT:slT P T=some (e,1,y,[z]))
    (hx:ev E U=some (.slice none 0 0)) (hy:ev E x2=some (.slice (some V) m c2)) (A:S.rds V news) (af:news.length=m) (hm:0<m) (I:m*y<=140737488355328) (J:m<=9223372036854775807)
    (h:∀ b' c',Fresh S b'->m<=c'->ARun P N ops os K ((d,.slice (some ⟨b',0,none⟩) m c') :: E) (S.set b' ⟨e,news,c'⟩)) :
    ARun P N ops (⟨some d,.call ⟨.builtin .append,#[U,x2],#[T,T]⟩,ty,pos,aft,none⟩ :: os) K E S :=
  uG hn hT rfl hx hy A vd hm I J (λb' c' h2 h3=>by have:=h b' c' h2 h3;rwa [Nat.mul_one])
theorem v8 {os:List Oper} {K:Env->Mem->Prop} {T:tx} {x y:tw} {b:Nat} {r:Blk} {cs:List tu} (J:ev E x=some (.pointer (some ⟨b,0,none⟩))) (U:ev E y=some (.agg cs.toArray)) (hs:sizeT P T=some cs.length) (I:S.own b=some r) (A:r.cells.length=cs.length) (V:cs.all (·.oneCell')=true)
    (h:ARun P N ops os K E (S.set b ⟨r.elem,cs,r.room⟩)):ARun P N ops (⟨none,.store T x y,ty,pos,aft,none⟩ :: os) K E S:=by
  refine ARun.store J U (by simpa [Value.cells] using hs) I (by simp [Value.cells,A]) (by simpa [Value.cells] using V) ?_;have e:spl r.cells 0 (Value.agg cs.toArray).cells.toList=cs:=by
    simp only [Value.cells,spl,List.take_zero,List.nil_append];rw [List.drop_of_length_le (by simp [A]),List.append_nil]
  rw [e];exact h
theorem vB {os:List Oper} {K:Env->Mem->Prop} {T:tx} {x:tw} {v:tu} {d:Nat} (J:d<N) (I:ev E x=some v) (U:v.cells = #[v])
    (h:∀ b,Fresh S b->ARun P N ops os K ((d,.pointer (some ⟨b,0,none⟩)) :: E) (S.set b ⟨T,[v],1⟩)):ARun P N ops (⟨some d,.box T x,ty,pos,aft,none⟩ :: os) K E S :=
  ARun.box J I λb A=>by rw [U];exact h b A
theorem vu {os:List Oper} {K:Env->Mem->Prop} {T e:tx} {y:Nat} {z u:tu} {x:tw} {d:Nat} (J:d<N) (V:slT P T=some (e,1,y,[z])) (U:ev E x=some u) (A:u.cells = #[u])
    (h:∀ b,Fresh S b->ARun P N ops os K ((d,.slice (some ⟨b,0,none⟩) 1 1) :: E) (S.set b ⟨e,[u],1⟩)):ARun P N ops (⟨some d,.buildSlice T 1 #[(0,x)],ty,pos,aft,none⟩ :: os) K E S :=
  uj J V rfl (by decide) (by decide) U (by rw [A];rfl) λb I=>by rw [A];exact h b I
theorem vD {os:List Oper} {K:Env->Mem->Prop} {T:tx} {x:tw} {cs:List tu} {d:Nat} (J:d<N) (I:ev E x=some (.agg cs.toArray))
    (h:∀ b,Fresh S b->ARun P N ops os K ((d,.pointer (some ⟨b,0,none⟩)) :: E) (S.set b ⟨T,cs,cs.length⟩)):ARun P N ops (⟨some d,.box T x,ty,pos,aft,none⟩ :: os) K E S :=
  ARun.box J I λb A=>by
    have:=h b A;simpa [Value.cells] using this
def Mem.Knows (S:Mem) (a:Addr) (cs:List tu):Prop:=∀ w,View S w -> ∀ j v,cs[j]?=some v->w.cell? (a.add j)=some v
theorem Mem.rds.knows {S:Mem} {a:Addr} {cs:List tu} (h:S.rds a cs):S.Knows a cs:=λw I j v A=>I.rd (h j v A)
theorem Mem.Knows.less {S S':Mem} {a:Addr} {cs:List tu} (h:S'.Knows a cs) (A:S'.Less S):S.Knows a cs:=λw I=>h w (I.less A)
theorem u_ {T:tx} {x:tw} {a:Addr} {v:tu} (V:plainT P T=true) (J:ev E x=some (.pointer (some a))) (I:S.Knows a [v]):ACalm P N ⟨dst,.load T x,ty,pos,aft,gd⟩ E S v:=λc w g U=>by
  have A:=I w U 0 v rfl;have e:a.add 0=a:=by simp [Addr.add]
  rw [e] at A;simp [execOp,g.ev J,Instr.loadAt,Instr.sureAddr,loadVar,zcM V w,A]
theorem uY {T:tx} {x:tw} {a:Addr} {cs:List tu} (V:aggT P T=true) (hs:sizeT P T=some cs.length) (I:ev E x=some (.pointer (some a))) (A:S.Knows a cs):ACalm P N ⟨dst,.load T x,ty,pos,aft,gd⟩ E S (.agg cs.toArray):=λc w g J=>by
  have U:=run_loadCells_list (P:=P) w a cs (A w J);simp [execOp,g.ev I,Instr.loadAt,Instr.sureAddr,loadVar,zdB V w,zaZ hs w,U]
theorem u0 {K:Env->Mem->Prop} {o:Oper} {os:List Oper} {d:Nat} (j:Nat) (t:Bool) (dj:Nat) (hg:o.guard=some (j,t)) (I:(ops[j]?).bind (·.dst)=some dj) (A:dj<N) (U:lk E dj=some undef) (hd:o.dst=some d) (hn:d<N) (h:ARun P N ops os K ((d,undef) :: E) S):ARun P N ops (o :: os) K E S:=λa w g hv=>by
  cases e:ops[j]? with
  | none=>simp [e] at I
  | some og =>
    simp [e] at I;have J:=g.at_ dj _ U;have V:a.tmps[dj]?=some undef:=by
      rw [Array.getD_eq_getD_getElem?] at J;have:dj<a.tmps.size:=(by rw [g.size];exact A);rw [Array.getElem?_eq_getElem this] at J ⊢;simpa using J
    have hy:yielded ops a.tmps j=none:=(by simp [yielded,e,I,V,undef]);rw [if_neg (by simp [Region.wanted,hg,hy])];exact ⟨_,_,h,by rw [hd];exact g.put hn _,Step.refl hv⟩
theorem zlK {l:List Oper} {W:List Nat} {S0:Mem} {K:Env->Mem->Prop} {i:Nat} {is:List (Nat × Bool)} {o:Oper} {d:Nat} (j:Nat) (t:Bool) (dj:Nat) (ho:l[i]?=some o) (hg:o.guard=some (j,t)) (A:(l.toArray[j]?).bind (·.dst)=some dj) (I:dj<N) (V:lk E dj=some undef) (hd:o.dst=some d) (hn:d<N) (hl:S0.Less S)
    (h:DrawRun P N l W S0 is K ((d,undef) :: E) S):DrawRun P N l W S0 ((i,true) :: is) K E S:=by
  cases e:l.toArray[j]? with
  | none=>rw [e] at A;simp at A
  | some og =>
    rw [e] at A;have J:og.dst=some dj:=(by simpa using A);refine ⟨o,d,undef,ho,hd,hn,.inr hl,λa w g hv=>.inr ⟨?_,rfl⟩,h⟩;have U:=g.at_ dj _ V;have h2:a.tmps[dj]?=some undef:=by
      rw [Array.getD_eq_getD_getElem?] at U;have:dj<a.tmps.size:=(by rw [g.size];exact I);rw [Array.getElem?_eq_getElem this] at U ⊢;simpa using U
    have hy:yielded l.toArray a.tmps j=none:=(by simp only [yielded,e];simp [J,h2,undef]);simp [Region.wanted,hg,hy]
theorem zjl (a b:tt):a.toList=b.toList <-> a=b:=⟨λh=>by rw [ByteArray.toList_eq,ByteArray.toList_eq] at h;cases a;cases b;simpa using h,λh=>by rw [h]⟩
theorem zc7 {t:tx} {x y:tw} (a b:Bool) (A:P.underlying t=some .bool):Bin P .neq t x y (.bool a) (.bool b) (.bool (!(a == b))):=λw=>by
  simp only [eqGuard,Sem.run_bind];simp [run_neq_bool w t a b A]
theorem zaw {t:tx} {x y:tw} (a b:tt):Bin P .eql t x y (.string a) (.string b) (.bool (decide (a=b))):=λw=>by
  simp [eqGuard,binOp,Op.stringOp];rw [Bool.eq_iff_iff];simp [zjl]
theorem zaP {t:tx} {x y:tw} (a b:tt):Bin P .neq t x y (.string a) (.string b) (.bool (!decide (a=b))):=λw=>by
  simp [eqGuard,binOp,Op.stringOp];rw [Bool.eq_iff_iff];simp [zjl]
end
end Mv
open Go.RowKit
namespace Mv
theorem zan {k:IntKind} {a b:Int} (h:a=b):some (Value.int k a)=some (.int k b):=by rw [h]
theorem zp3 {a b:tt} (h:a=b):some (Value.string a)=some (.string b):=by rw [h]
def outV (o:Option (Nat × Nat)) (n:Nat):tu:=match o with
  | none=>.slice none 0 0
  | some (b,c)=>.slice (some ⟨b,0,none⟩) n c
def outM (S:Mem) (o:Option (Nat × Nat)) (e:tx) (cs:List tu):Mem:=match o with
  | none=>S
  | some (b,c)=>S.set b ⟨e,cs,c⟩
structure OkO (S:Mem) (o:Option (Nat × Nat)) (n:Nat):Prop where
  nil:o=none->n=0
  own:∀ b c,o=some (b,c)->Fresh S b/\n<=c
theorem zbO (S:Mem):OkO S none 0:=⟨λ_=>rfl,λb c e=>by cases e⟩
theorem zaG {S:Mem} {o:Option (Nat × Nat)} {n:Nat} {e:tx} {cs:List tu} (h:OkO S o n):S.Less (outM S o e cs):=by
  cases o with
  | none=>exact Mem.Less.refl _
  | some A=>obtain ⟨q,c⟩:=A;exact vh _ _ _ (h.own q c rfl).1.1
theorem zp4 {S:Mem} {o:Option (Nat × Nat)} {n:Nat} {e:tx} {cs:List tu} {b:Nat} {r:Blk} (h:OkO S o n) (A:S.own b=some r):(outM S o e cs).own b=some r:=(zaG h).1 b r A
theorem zcz {S:Mem} {o:Option (Nat × Nat)} {e:tx} {cs:List tu} {b:Nat} (h:Fresh (outM S o e cs) b):Fresh S b /\ ∀ q c,o=some (q,c)->b≠q:=by
  cases o with
  | none=>exact ⟨h,λq c e=>by cases e⟩
  | some A =>
    obtain ⟨q,c⟩:=A;obtain ⟨I,J⟩:=zaa h;exact ⟨I,λU c' e=>by cases e;exact J⟩
theorem zm7 {S S':Mem} (o:Option (Nat × Nat)) (e:tx) (cs:List tu) (h:S.Less S'):(outM S o e cs).Less (outM S' o e cs):=by
  cases o with
  | none=>exact h
  | some A=>exact Less.set h _ _
theorem zkG (S:Mem) (b:Nat) (o:Option (Nat × Nat)) (e:tx) (cs:List tu) (r:Blk) (A:∀ q c,o=some (q,c)->b≠q):(outM S o e cs).set b r=outM (S.set b r) o e cs:=by
  cases o with
  | none=>rfl
  | some I=>exact vC _ _ _ (Ne.symm (A _ _ rfl))
theorem zam {S:Mem} {b q:Nat} {r:Blk} (h:Fresh S q) (A:q≠b):Fresh (S.set b r) q:=⟨by rw [vg _ _ A];exact h.1,h.2⟩
theorem OkO.set {S:Mem} {b n:Nat} {o:Option (Nat × Nat)} {r:Blk} (h:OkO S o n) (A:∀ q c,o=some (q,c)->b≠q):OkO (S.set b r) o n :=
  ⟨h.nil,λq c e=>⟨zam (h.own q c e).1 (Ne.symm (A q c e)),(h.own q c e).2⟩⟩
theorem OkO.unset {S:Mem} {b n:Nat} {o:Option (Nat × Nat)} {r:Blk} (h:OkO (S.set b r) o n):OkO S o n :=
  ⟨h.nil,λq c e=>⟨(zaa (h.own q c e).1).1,(h.own q c e).2⟩⟩
structure AppO (M S:Mem) (o:Option (Nat × Nat)) (e:TypeId) (cs:List Value):Prop where
  nil:o=none->cs = []/\S.Less M
  own:∀ b c,o=some (b,c)->M.own b=some ⟨e,cs,c⟩/\S.Less (M.del b)
theorem zcf {S:Mem} {o:Option (Nat × Nat)} {n t:Nat} {e:tx} {cs:List tu} {r:Blk} (h:OkO S o n) (hn:cs.length=n) (V:Fresh (outM S o e cs) t):AppO ((outM S o e cs).set t r) S o e cs:=by
  obtain ⟨J,h2⟩:=zcz V;refine ⟨λI=>?_,λb c I=>?_⟩
  · subst I;exact ⟨List.eq_nil_of_length_eq_zero (by rw [hn];exact h.nil rfl),vh _ _ _ J.1⟩
  subst I;have A:=h2 b c rfl;refine ⟨(vg _ _ (Ne.symm A)).trans (vf _ _ _),?_⟩;have U:=(h.own b c rfl).1;rw [show ((outM S (some (b,c)) e cs).set t r).del b=S.set t r from zjk A (zdU (zkF U))];exact vh _ _ _ J.1
section
variable {P:tz} {N:Nat} {ops:Array Oper} {E:Env} {M S:Mem}
variable {ty:tx} {pos:String} {aft:Array Edge}
theorem v7 {o:Oper} {K:Env->Mem->Prop} (h:AOp P N ops o (λE' S'=>∃ S0,S0.Less S'/\K E' S0) E M):AOp P N ops o K E M:=λa w hg hv=>by
  have A:=h a w hg hv;have next:∀ I U,Post N (λE' S'=>∃ S0,S0.Less S'/\K E' S0) M w I U->Post N K M w I U:=λI U ⟨V,S1,⟨S0,hl,k⟩,g,s⟩=>⟨V,S0,k,g,s.less hl⟩
  split
  · rename_i J;rw [if_pos J] at A;exact Oper.wp_mono next A
  rename_i J;rw [if_neg J] at A;exact next _ _ A
theorem vF {os:List Oper} {K:Env->Mem->Prop} {T e:tx} {y:Nat} {z:tu} {x1 x2:tw} {o:Option (Nat × Nat)} {n:Nat} {cs news:List tu} {a2:Addr} {m c2 d:Nat} (hn:d<N) (hT:slT P T=some (e,1,y,[z]))
    (hx:ev E x1=some (outV o n)) (U:cs.length=n) (I:AppO M S o e cs)
    (hy:ev E x2=some (.slice (some a2) m c2)) (A:M.rds a2 news) (aa:news.length=m) (hm:0<m) (h1:∀ v ∈ news,v.oneCell'=true) (J:(n+m)*y<=140737488355328) (ad:n+m<=9223372036854775807)
    (h:∀ b c,OkO S (some (b,c)) (n+m)->ARun P N ops os K ((d,outV (some (b,c)) (n+m)) :: E) (outM S (some (b,c)) e (cs ++ news))) :
    ARun P N ops (⟨some d,.call ⟨.builtin .append,#[x1,x2],#[T,T]⟩,ty,pos,aft,none⟩ :: os) K E M:=by
  cases o with
  | none =>
    obtain ⟨q1,V⟩:=I.nil rfl;subst q1;simp only [List.length_nil] at U;subst U;refine v7 (K:=λE' S'=>ARun P N ops os K E' S') ?_;refine ue (os:=[]) hn hT hx hy A aa hm (by simpa using J) vd λb c hb hc=>?_;refine ⟨S.set b ⟨e,news,c⟩,Less.set V _ _,?_⟩;have:=h b c ⟨(λx=>by cases x),λb' c' x=>by cases x;exact ⟨hb.less V,by omega⟩⟩;simpa [outM,outV] using this
  | some bc =>
    obtain ⟨b0,c0⟩:=bc;obtain ⟨q1,V⟩:=I.own b0 c0 rfl;refine v7 (K:=λE' S'=>ARun P N ops os K E' S') ?_;refine uW (os:=[]) hn hT hx q1 U hy A aa h1 J ad rfl λb c hb hc=>?_;refine ⟨S.set b ⟨e,cs ++ news,c⟩,Less.set V _ _,?_⟩;exact h b c ⟨(λx=>by cases x),λb' c' x=>by cases x;exact ⟨hb.less V,hc⟩⟩
end
end Mv
open Go.RowKit
namespace Mv
theorem ne_ {p:Prop} (h:p:=by (first | assumption | (apply Ne.symm;assumption))):p:=h
theorem rd_ {p:Prop} (h:p:=by (repeat ((with_reducible refine (zh_ _ _ ?_).trans ?_);(first | assumption | (apply Ne.symm;assumption))));(first | ((with_reducible refine (zfs _ _ _ _).trans ?_);rfl) | ((with_reducible apply zcq);(with_reducible assumption);rfl) | with_reducible assumption)):p:=h
theorem rds_ {p:Prop} (h:p:=by first | with_reducible assumption | ((repeat (apply zkA;((repeat ((with_reducible refine (zh_ _ _ ?_).trans ?_);(first | assumption | (apply Ne.symm;assumption))));(first | ((with_reducible refine (zfs _ _ _ _).trans ?_);rfl) | ((with_reducible apply zcq);(with_reducible assumption);rfl) | with_reducible assumption))));exact zmT _ _)):p:=h
theorem own_ {p:Prop} (h:p:=by (repeat first | ((with_reducible refine (vg _ _ ?_).trans ?_);(first | assumption | (apply Ne.symm;assumption))) | ((with_reducible refine (vj _ ?_).trans ?_);(first | assumption | (apply Ne.symm;assumption))));(first | with_reducible exact vf _ _ _ | with_reducible assumption | exact vf _ _ _)):p:=h
theorem zdC {p:Prop} (h:p:=by first | decide | (simp;done) | (simp;omega) | omega):p:=h
theorem zae {p:Prop} (h:p:=by first | with_reducible exact Mem.Less.refl _ | ((with_reducible refine vh _ _ _ (Fresh.own ?_));with_reducible assumption) | (refine zte ?_;(repeat first | with_reducible exact LessB.refl _ _ | ((with_reducible refine LessB.set ?_ ?_);((repeat first | ((with_reducible refine (vg _ _ ?_).trans ?_);(first | assumption | (apply Ne.symm;assumption))) | ((with_reducible refine (vj _ ?_).trans ?_);(first | assumption | (apply Ne.symm;assumption))));(first | with_reducible exact vf _ _ _ | with_reducible assumption | exact vf _ _ _))) | (with_reducible refine LessB.delL ?_));(repeat first | with_reducible exact LessB.refl _ _ | ((with_reducible refine LessB.of ?_);with_reducible assumption) | ((with_reducible refine LessB.skip ?_ ?_);(first | ((refine .inl ?_);focus (simp;done)) | ((refine .inr (Fresh.own ?_));with_reducible assumption) | ((refine .inr ?_);with_reducible assumption))) | ((with_reducible refine LessB.skipDel ?_ ?_);(first | ((refine .inl ?_);focus (simp;done)) | ((refine .inr (Fresh.own ?_));with_reducible assumption) | ((refine .inr ?_);with_reducible assumption)))))):p:=h
theorem om_ {p:Prop} (h:p:=by omega):p:=h
section
variable {P:tz} {t:tx} {x y:tw} {vx vy v:tu}
theorem zid (h:Bin P .add t x y vx vy v:=by first | exact zhe (IntWalk.i64_in _ vd) | exact zhd _ _):Bin P .add t x y vx vy v:=h
theorem zfw (h:Bin P .mul t x y vx vy v:=by first | exact ze_ (IntWalk.i64_in _ vd) | exact zjg _ _):Bin P .mul t x y vx vy v:=h
theorem zm8 (h:Bin P .add t x y vx vy v:=by first | exact zhe (IntWalk.u64_in _ vd) | exact zhd _ _):Bin P .add t x y vx vy v:=h
theorem zwR (h:Bin P .shl t x y vx vy v:=by exact zew vd (by simp only [IntKind.bits];omega)):Bin P .shl t x y vx vy v:=h
theorem zu9 (h:Bin P .lss t x y vx vy v:=by first | exact zag (za9 _ _) (decide_eq_true vd) | exact zag (za9 _ _) (decide_eq_false vd) | exact za9 _ _):Bin P .lss t x y vx vy v:=h
theorem zu_ (h:Bin P .leq t x y vx vy v:=by first | exact zag (zeu _ _) (decide_eq_true vd) | exact zag (zeu _ _) (decide_eq_false vd) | exact zeu _ _):Bin P .leq t x y vx vy v:=h
theorem zva (h:Bin P .neq t x y vx vy v:=by first | exact zag (zcp _ _) (zbh vd) | exact zag (zcp _ _) (zaM vd) | exact zcp _ _):Bin P .neq t x y vx vy v:=h
end
section
variable {P:tz} {N:Nat} {ops:Array Oper} {E:Env} {S:Mem} {K:Env->Mem->Prop} {os:List Oper}
variable {d:Nat} {op:Op} {ty:tx} {pos:String} {aft:Array Edge} {v:tu} {j:Nat} {t u:Bool}
theorem rC (hc:ACalm P N ⟨some d,op,ty,pos,aft,none⟩ E S v) (h:ARun P N ops os K ((d,v) :: E) S) (A:d<N:=by exact zab rfl):ARun P N ops (⟨some d,op,ty,pos,aft,none⟩ :: os) K E S:=tj rfl rfl A hc h
section
variable {l:List Oper} {W:List Nat} {S0:Mem} {K':Env->Mem->Prop} {i:Nat} {is:List (Nat × Bool)} {o:Oper} {d j dj:Nat} {t u:Bool} {w:tu}
theorem dP (A:l[i]?=some o:=by exact rfl) (U:pureOp o=true:=by exact rfl) (I:o.guard=none:=by exact rfl) (hd:o.dst=some d:=by exact rfl) (J:d<N:=by exact zab rfl) (hc:∀ S',ACalm P N o E S' w) (h:DrawRun P N l W S0 is K' ((d,w) :: E) S):DrawRun P N l W S0 ((i,true) :: is) K' E S:=zia A U I hd J hc h
theorem dC (I:l[i]?=some o:=by exact rfl) (J:pureOp o=false:=by exact rfl) (hg:o.guard=none:=by exact rfl) (hd:o.dst=some d:=by exact rfl) (U:d<N:=by exact zab rfl) (V:S0.Less S:=by exact zae) (hc:ACalm P N o E S0 w) (h:DrawRun P N l W S0 is K' ((d,w) :: E) S):DrawRun P N l W S0 ((i,true) :: is) K' E S :=
  zm5 I hg hd U V (λS' A=>by rcases A with x | x;(rw [J] at x;cases x);subst x;exact hc) h
theorem dG (I:l[i]?=some o:=by exact rfl) (hg:o.guard=some (j,t):=by exact rfl) (V:(l.toArray[j]?).bind (·.dst)=some dj:=by exact rfl) (A:dj<N:=by exact zab rfl) (J:lk E dj=some (.bool t):=by exact rfl) (hd:o.dst=some d:=by exact rfl) (U:d<N:=by exact zab rfl) (hl:S0.Less S:=by exact zae) (hc:∀ S',ACalm P N o E S' w) (h:DrawRun P N l W S0 is K' ((d,w) :: E) S):DrawRun P N l W S0 ((i,true) :: is) K' E S :=
  zgq j t dj I hg V A J hd U hl (λS' _=>hc S') h
theorem dL (J:l[i]?=some o:=by exact rfl) (V:pureOp o=false:=by exact rfl) (hg:o.guard=some (j,t):=by exact rfl) (hj:(l.toArray[j]?).bind (·.dst)=some dj:=by exact rfl) (A:dj<N:=by exact zab rfl) (U:lk E dj=some (.bool t):=by exact rfl) (hd:o.dst=some d:=by exact rfl) (hn:d<N:=by exact zab rfl) (hl:S0.Less S:=by exact zae) (hc:ACalm P N o E S0 w) (h:DrawRun P N l W S0 is K' ((d,w) :: E) S):DrawRun P N l W S0 ((i,true) :: is) K' E S :=
  zgq j t dj J hg hj A U hd hn hl (λS' I=>by rcases I with x | x;(rw [V] at x;cases x);subst x;exact hc) h
theorem dS (h:DrawRun P N l W S0 is K' ((d,undef) :: E) S) (J:l[i]?=some o:=by exact rfl) (hg:o.guard=some (j,t):=by exact rfl) (hj:(l.toArray[j]?).bind (·.dst)=some dj:=by exact rfl) (A:dj<N:=by exact zab rfl) (U:lk E dj=some (.bool u):=by exact rfl) (I:(u == t)=false:=by exact rfl) (hd:o.dst=some d:=by exact rfl) (V:d<N:=by exact zab rfl) (hl:S0.Less S:=by exact zae):DrawRun P N l W S0 ((i,true) :: is) K' E S :=
  zlJ j t u dj J hg hj A U I hd V hl h
theorem dU (h:DrawRun P N l W S0 is K' ((d,undef) :: E) S) (I:l[i]?=some o:=by exact rfl) (hg:o.guard=some (j,t):=by exact rfl) (V:(l.toArray[j]?).bind (·.dst)=some dj:=by exact rfl) (A:dj<N:=by exact zab rfl) (J:lk E dj=some undef:=by exact rfl) (hd:o.dst=some d:=by exact rfl) (U:d<N:=by exact zab rfl) (hl:S0.Less S:=by exact zae):DrawRun P N l W S0 ((i,true) :: is) K' E S :=
  zlK j t dj I hg V A J hd U hl h
end
theorem rG (dj:Nat) (hc:ACalm P N ⟨some d,op,ty,pos,aft,some (j,t)⟩ E S v) (h:ARun P N ops os K ((d,v) :: E) S) (I:lk E dj=some (.bool t):=by exact rfl) (J:(ops[j]?).bind (·.dst)=some dj:=by exact rfl) (A:dj<N:=by exact zab rfl) (U:d<N:=by exact zab rfl):ARun P N ops (⟨some d,op,ty,pos,aft,some (j,t)⟩ :: os) K E S:=u9 j t dj rfl J A I rfl U hc h
theorem rS (dj:Nat) (h:ARun P N ops os K ((d,undef) :: E) S) (J:lk E dj=some (.bool u):=by exact rfl) (I:(u == t)=false:=by exact rfl) (V:(ops[j]?).bind (·.dst)=some dj:=by exact rfl) (A:dj<N:=by exact zab rfl) (U:d<N:=by exact zab rfl):ARun P N ops (⟨some d,op,ty,pos,aft,some (j,t)⟩ :: os) K E S:=tb j t u dj rfl V A J I rfl U h
theorem rU (dj:Nat) (h:ARun P N ops os K ((d,undef) :: E) S) (I:lk E dj=some undef:=by exact rfl) (J:(ops[j]?).bind (·.dst)=some dj:=by exact rfl) (A:dj<N:=by exact zab rfl) (U:d<N:=by exact zab rfl):ARun P N ops (⟨some d,op,ty,pos,aft,some (j,t)⟩ :: os) K E S:=u0 j t dj rfl J A I rfl U h
end
end Mv
open Go.RowKit
namespace Mv
theorem Mem.Less.own {S S':Mem} {b:Nat} {r:Blk} (h:S.Less S') (A:S.own b=some r):S'.own b=some r:=h.1 b r A
theorem zbE {S:Mem} {b c n:Nat} (h:Fresh S b) (hc:n<=c):OkO S (some (b,c)) n:=⟨λh=>(by cases h),λA I e=>(by cases e;exact ⟨h,hc⟩)⟩
theorem OkO.some {S:Mem} {o:Option (Nat × Nat)} {n:Nat} (h:OkO S o n) (A:0<n):∃ b c,o = .some (b,c):=by
  cases o with
  | none=>have:=h.nil rfl;omega
  | some q=>exact ⟨q.1,q.2,rfl⟩
theorem zp5 (S:Mem) (b c:Nat) (e:tx) (cs:List tu):(outM S (.some (b,c)) e cs).rds ⟨b,0,none⟩ cs:=zb_ (r:=⟨e,cs,c⟩) (vf _ _ _)
/-! ### Slices as lists: 'f x' are the cells of an element, n of them -/
def Sl {α : Type} (n:Nat) (f : α->List tu) (S:Mem) (v:tu) (l:List α):Prop :=
  ∃ a cap,v = .slice a l.length cap/\l.length<=cap/\l.length<=9223372036854775807/\(l = [] \/ ∃ b off,a=some ⟨b,off,none⟩ /\ ∀ i (h:i<l.length),S.Knows ⟨b,off+i*n,none⟩ (f l[i]))
theorem Sl.less {α : Type} {n:Nat} {f : α->List tu} {S S':Mem} {v:tu} {l:List α} (h:Sl n f S v l) (V:S.Less S'):Sl n f S' v l:=by
  obtain ⟨a,cap,h1,J,I,A⟩:=h;refine ⟨a,cap,h1,J,I,?_⟩;rcases A with A | ⟨b,off,h5,U⟩
  · exact .inl A
  exact .inr ⟨b,off,h5,λi h=>(U i h).less V⟩
theorem Sl.nil {α : Type} (n:Nat) (f : α->List tu) (S:Mem):Sl n f S (.slice none 0 0) []:=⟨none,0,rfl,by simp,by simp,.inl rfl⟩
theorem vA {S:Mem} {b:Nat} {r:Blk} (h:S.own b=some r) (k:Nat) (cs:List tu) (hc:∀ j v,cs[j]?=some v->r.cells[k+j]?=some v):S.Knows ⟨b,k,none⟩ cs:=by
  refine Mem.rds.knows λj v A=>?_;rw [zaE,zdv h];exact hc j v A
theorem zdV {α : Type} {n:Nat} {f : α->List tu} (I:∀ x,(f x).length=n):∀ (l:List α) (i:Nat) (h:i<l.length) (j:Nat) (v:tu),(f l[i])[j]?=some v->(l.flatMap f)[i*n+j]?=some v
  | x :: l,0,h,j,v,hj=>by
    have A:j<(f x).length:=(List.getElem?_eq_some_iff.1 hj).1;simp only [List.getElem_cons_zero] at hj;rw [List.flatMap_cons,Nat.zero_mul,Nat.zero_add,List.getElem?_append_left A];exact hj
  | x :: l,i+1,h,j,v,hj=>by
    have J:=zdV I l i (by simpa using h) j v (by simpa using hj);rw [List.flatMap_cons,List.getElem?_append_right (by rw [I];rw [Nat.succ_mul];omega),I,show (i+1)*n+j-n=i*n+j from by rw [Nat.succ_mul];omega];exact J
theorem Sl.own {α : Type} {n:Nat} {f : α->List tu} {S:Mem} {b:Nat} {r:Blk} {l:List α} {cap len:Nat} (I:S.own b=some r) (J:∀ x,(f x).length=n) (U:l.flatMap f <+: r.cells) (A:l.length=len) (hc:len<=cap) (hm:len<=9223372036854775807) :
    Sl n f S (.slice (some ⟨b,0,none⟩) len cap) l:=by
  subst A;refine ⟨_,cap,rfl,hc,hm,.inr ⟨b,0,rfl,λi hi=>?_⟩⟩;refine vA I _ _ λj v V=>?_;have:=zdV J l i hi j v V;rw [Nat.zero_add];exact zcb U this
theorem vN {α : Type} {g : α->tu} {S:Mem} {b:Nat} {r:Blk} {l:List α} {cap len:Nat} (J:S.own b=some r) (I:l.map g <+: r.cells) (A:l.length=len) (hc:len<=cap) (V:len<=9223372036854775807) :
    Sl 1 (λx=>[g x]) S (.slice (some ⟨b,0,none⟩) len cap) l :=
  Sl.own J (λ_=>rfl) (by
    have:l.flatMap (λx=>[g x])=l.map g:=by clear I A;induction l with | nil=>rfl | cons x l U=>simp [List.flatMap_cons,U]
    rw [this];exact I) A hc V
def SlOf {α : Type} (R:Mem->tu -> α->Prop) (S:Mem) (v:tu) (l:List α):Prop :=
  ∃ hs:List tu,hs.length=l.length/\Sl 1 (λx=>[x]) S v hs /\ ∀ i (h:i<l.length) (h':i<hs.length),R S hs[i] l[i]
theorem SlOf.less {α : Type} {R:Mem->tu -> α->Prop} (U:∀ S S' v x,R S v x->S.Less S'->R S' v x) {S S':Mem} {v:tu} {l:List α} (h:SlOf R S v l) (A:S.Less S'):SlOf R S' v l:=by
  obtain ⟨hs,V,J,I⟩:=h;exact ⟨hs,V,J.less A,λi h h'=>U _ _ _ _ (I i h h') A⟩
theorem SlOf.nil {α : Type} (R:Mem->tu -> α->Prop) (S:Mem):SlOf R S (.slice none 0 0) ([] : List α):=⟨[],rfl,Sl.nil _ _ _,λi h=>by cases h⟩

structure GrowI {α : Type} (R:Mem->Value -> α->Prop) (S M:Mem) (o:Option (Nat × Nat)) (hs:List Value) (xs:List α):Prop where
  less:S.Less M
  ok:OkO M o hs.length
  len:hs.length=xs.length
  at_:∀ i (h:i<xs.length) (h':i<hs.length),R M hs[i] xs[i]
theorem GrowI.nil {α : Type} (R:Mem->tu -> α->Prop) (S:Mem):GrowI R S S none [] ([] : List α):=⟨Mem.Less.refl _,zbO S,rfl,λi h=>by cases h⟩
theorem GrowI.step {α : Type} {R:Mem->tu -> α->Prop} (hR:∀ S S' v x,R S v x->S.Less S'->R S' v x) {S M I:Mem} {o:Option (Nat × Nat)} {hs:List tu} {xs:List α} (h:GrowI R S M o hs xs) (U:M.Less I) {A:tu} {x : α} (hr:R I A x) {o':Option (Nat × Nat)} (V:OkO I o' (hs.length+1)) :
    GrowI R S I o' (hs ++ [A]) (xs ++ [x]):=by
  refine ⟨h.less.trans U,by rw [List.length_append];exact V,by simp [h.len],λi hi ac=>?_⟩;by_cases e:i<xs.length
  · have J:i<hs.length:=(by rw [h.len];exact e);rw [List.getElem_append_left e,List.getElem_append_left J];exact hR _ _ _ _ (h.at_ i e J) U
  have e1:i=xs.length:=by simp at hi;omega
  subst e1;simp only [List.getElem_append_right (Nat.le_refl _),Nat.sub_self,List.getElem_cons_zero];rw [List.getElem_append_right (by rw [h.len];exact Nat.le_refl _)];simpa [h.len] using hr
theorem zhi {α : Type} {g : α->tu} {M:Mem} {o:Option (Nat × Nat)} {e:tx} {l:List α} {n:Nat} (h:OkO M o n) (A:l.length=n) (I:n<=9223372036854775807):Sl 1 (λx=>[g x]) (outM M o e (l.map g)) (outV o n) l:=by
  cases o with
  | none=>have:=h.nil rfl;subst this;obtain rfl:l = []:=List.eq_nil_of_length_eq_zero A;exact Sl.nil _ _ _
  | some q=>exact vN (r:=⟨e,l.map g,q.2⟩) (vf _ _ _) List.prefix_rfl A (h.own _ _ rfl).2 I
theorem GrowI.slOf {α : Type} {R:Mem->tu -> α->Prop} (I:∀ S S' v x,R S v x->S.Less S'->R S' v x) {S M:Mem} {o:Option (Nat × Nat)} {hs:List tu} {xs:List α} {e:tx} (h:GrowI R S M o hs xs) (J:hs.length<=9223372036854775807) :
    SlOf R (outM M o e hs) (outV o hs.length) xs :=
  ⟨hs,h.len,by have:=zhi (g:=λx:tu=>x) (e:=e) h.ok rfl J;rwa [List.map_id'] at this,λi hi A=>I _ _ _ _ (h.at_ i hi A) (zaG h.ok)⟩

/-! ### Closers for what is known so -/
theorem kn_ {p:Prop} (h:p:=by first | assumption | ((refine Mem.Knows.less (by assumption) ?_);exact zae)):p:=h
section
variable {P:tz} {N:Nat} {E:Env} {S:Mem} {dst:Option Nat} {T ty:tx} {pos:String} {aft:Array Edge} {gd:Option (Nat × Bool)} {x:tw} {a:Addr} {v:tu}
theorem ld_ (A:plainT P T=true) (I:ev E x=some (.pointer (some a))) (h:(S.rd a=some v\/S.Knows a [v]):=by first | exact .inl rd_ | exact .inr kn_):ACalm P N ⟨dst,.load T x,ty,pos,aft,gd⟩ E S v :=
  h.elim (λh=>Calm.load A I h) (λh=>u_ A I h)
theorem ldA_ {cs:List tu} (I:aggT P T=true) (hs:sizeT P T=some cs.length) (A:ev E x=some (.pointer (some a))) (h:(S.rds a cs\/S.Knows a cs):=by first | exact .inl rds_ | exact .inr kn_):ACalm P N ⟨dst,.load T x,ty,pos,aft,gd⟩ E S (.agg cs.toArray) :=
  h.elim (λh=>u7 I hs A h) (λh=>uY I hs A h)
end

/-! ### What is built -/
def bldF (f:Nat->Option (Nat × Nat)):List tu->List (Nat × tu)->Option (List tu)
  | cs,[]=>some cs
  | cs,(i,v) :: rest=>match f i with
    | some (off,n)=>if v.cells.size=n/\off+n<=cs.length then bldF f (spl cs off v.cells.toList) rest else none
    | none=>none
theorem zie (f:Nat->Option (Nat × Nat)):∀ (A:List (Nat × tu)) (cells:Array tu) (cs:List tu),bldF f cells.toList A=some cs->Instr.fill f cells A=some cs.toArray:=by
  intro A
  induction A with
  | nil=>intro cells cs h;simp [bldF] at h;subst h;simp [Instr.fill]
  | cons p rest ih =>
    obtain ⟨i,v⟩:=p;intro cells cs h;simp only [bldF] at h;cases e:f i with
    | none=>simp [e] at h
    | some on =>
      obtain ⟨off,n⟩:=on;simp only [e] at h;split at h
      · rename_i hc;obtain ⟨I,V⟩:=hc;have ac:off+v.cells.size<=cells.size:=(by rw [I];simpa using V);simp only [Instr.fill,e];have U:(v.cells.size≠n || decide (off+v.cells.size > cells.size))=false:=(by simp [I];omega);simp only [U,Bool.false_eq_true,if_false];have J:=zib off v.cells.toList 0 cells (by simp;omega);rw [Nat.add_zero] at J;have e2:Array.foldl (λ(bs:Array tu) (p:tu × Nat)=>bs.setIfInBounds (off+p.2) p.1) cells v.cells.zipIdx=(spl cells.toList off v.cells.toList).toArray:=by
          apply Array.ext';rw [<- Array.foldl_toList,Array.toList_zipIdx,J]
        refine (congrArg (λx=>Instr.fill f x rest) e2).trans ?_;exact ih _ _ (by simpa using h)
      cases h
def zrep (z:List tu) (n:Nat):List tu:=(List.range n).map λj=>z[j % z.length]!
def arrT (P:tz) (T:tx):Option (Nat × List tu):=match P.underlying T with
  | some (.array _ e)=>match P.info? e,(P.info? T).bind (·.zero) with
    | some i,some z=>some (i.size,z.cells.toList)
    | _,_=>none
  | _=>none
section
variable {P:tz} {N:Nat} {ops:Array Oper} {E:Env} {S:Mem} {K:Env->Mem->Prop}
variable {dst:Option Nat} {ty:tx} {pos:String} {aft:Array Edge} {gd:Option (Nat × Bool)}
theorem zkH {c:Act} (g:Good N E c) {A:List (Nat × tw)} {vs:List tu} (I:evs E (A.map (·.2))=some vs):(A.toArray.map λ(p:Nat × tw)=>(p.1,c.eval p.2)).toList=(A.map (·.1)).zip vs:=by
  rw [<- g.evs I];simp only [List.map_toArray,List.map_map];exact zic c.eval A
theorem um {T:tx} {n:Nat} {z:List tu} {A:List (Nat × tw)} {vs cs:List tu} (I:arrT P T=some (n,z)) (hx:evs E (A.map (·.2))=some vs) (V:bldF (λi=>some (i*n,n)) z ((A.map (·.1)).zip vs)=some cs) :
    ACalm P N ⟨dst,.build T A.toArray,ty,pos,aft,gd⟩ E S (.agg cs.toArray):=λc w g hv=>by
  unfold arrT at I;cases e:P.underlying T with
  | none=>simp [e] at I
  | some d =>
    cases d <;> simp [e] at I;rename_i len el;cases e1:P.info? el with
    | none=>simp [e1] at I
    | some i =>
      cases e2:(P.info? T).bind (·.zero) with
      | none=>simp [e1,e2] at I
      | some U =>
        simp [e1,e2] at I;obtain ⟨rfl,rfl⟩:=I;have hz:(zeroValue T).run P w = .ok U w:=by
          cases e3:P.info? T with
          | none=>simp [e3] at e2
          | some i=>simp [e3] at e2;simp [zeroValue,typeInfo,e3,e2]
        have J:=zie (λk=>some (k*i.size,i.size)) _ U.cells cs V;simp only [execOp,Instr.build];simp only [Sem.run_bind,hz,Result.andThen_ok,run_underlying e w,zaZ (show sizeT P el=some i.size by simp [sizeT,e1]) w];rw [zkH g hx,J];rfl
theorem vO {os:List Oper} {T e:tx} {n y len:Nat} {z:List tu} {A:List (Nat × tw)} {vs cs:List tu} {d:Nat} (hn:d<N) (hT:slT P T=some (e,n,y,z)) (hp:(0<len*n && len*n<=16777216)=true) (hx:evs E (A.map (·.2))=some vs)
    (hb:bldF (λi=>some (i*n,n)) (zrep z (len*n)) ((A.map (·.1)).zip vs)=some cs) (U:cs.length=len*n)
    (h:∀ b,Fresh S b->ARun P N ops os K ((d,.slice (some ⟨b,0,none⟩) len len) :: E) (S.set b ⟨e,cs,len*n⟩)):ARun P N ops (⟨some d,.buildSlice T len A.toArray,ty,pos,aft,none⟩ :: os) K E S:=λa w g hv=>by
  rw [if_pos (by simp [Region.wanted])];obtain ⟨ad,i,v,e1,e2,rfl,rfl,rfl⟩:=za4 hT;simp only [Bool.and_eq_true,decide_eq_true_eq] at hp;have V:(zeroValue e).run P w = .ok v w:=by simp [zeroValue,typeInfo,e1,e2]
  have aa : ¬ (len*i.size=0):=by omega
  have ae : ¬ (len*i.size > 2 ^ 24):=by omega
  have ac:((Array.range (len*i.size)).map (v.cells[· % v.cells.size]!)).toList=zrep v.cells.toList (len*i.size):=by
    simp only [zrep,Array.toList_map,Array.toList_range];refine List.map_congr_left λj _=>?_;simp only [Array.length_toList];rw [getElem!_def,getElem!_def,Array.getElem?_toList]
  have I:=zie (λk=>some (k*i.size,i.size)) ((A.map (·.1)).zip vs) ((Array.range (len*i.size)).map (v.cells[· % v.cells.size]!)) cs (by rw [ac];exact hb);have J:(execOp a.eval ⟨some d,.buildSlice T len A.toArray,ty,pos,aft,none⟩).run P w = .ok (.value (.slice (some ⟨w.heap.size,0,none⟩) len len)) (w.alloc (.cells cs.toArray e)):=by
    simp only [execOp,Instr.buildSlice];simp only [Sem.run_bind,run_underlying ad w,Result.andThen_ok,zaZ (show sizeT P e=some i.size by simp [sizeT,e1]) w,ae,aa,if_false,V,Sem.run_pure];rw [zkH g hx,I];simp [newRow]
  unfold Oper.wp;rw [J];refine ⟨_,_,h _ hv.freshAt,g.put hn _,?_⟩;exact vH hv e cs.toArray cs _ (by simp) (by simp [U])
theorem zif (z:List tu) {m n:Nat} (h:m<=n):madeL z m <+: madeL z n:=by
  have e:madeL z m=(madeL z n).take m:=by
    apply List.ext_getElem
    · simp [zbq];omega
    intro i A I;rw [zbq] at A;simp only [List.getElem_take];simp [madeL,madeCells]
  rw [e];exact List.take_prefix _ _
theorem vS {os:List Oper} {T e:tx} {n y:Nat} {z:List tu} {A J:tw} {k1 V:IntKind} {l c:Int} {d:Nat} (hn:d<N) (hT:slT P T=some (e,n,y,z)) (hx:ev E A=some (.int k1 l)) (hy:ev E J=some (.int V c))
    (h0:0<=l) (U:l<=c) (hb:(y:Int)*c<=281474976710656) (I:c<=9223372036854775807)
    (h:∀ b,Fresh S b->ARun P N ops os K ((d,.slice (some ⟨b,0,none⟩) l.toNat c.toNat) :: E) (S.set b ⟨e,madeL z (l.toNat*n),c.toNat*n⟩)):ARun P N ops (⟨some d,.makeSlice T A J,ty,pos,aft,none⟩ :: os) K E S:=λa w g hv=>by
  rw [if_pos (by simp [Region.wanted])];obtain ⟨hu,i,v,e1,e2,rfl,rfl,rfl⟩:=za4 hT;unfold Oper.wp;have:(execOp a.eval ⟨some d,.makeSlice T A J,ty,pos,aft,none⟩).run P w = .ok (.value (.slice (some ⟨w.heap.size,0,none⟩) l.toNat c.toNat)) (w.alloc (.cells (madeCells v.cells (c.toNat*i.size)) e)):=by
    simp only [execOp,g.ev hx,g.ev hy];rw [Sem.run_bind,run_make (P:=P) w T e i v hu e1 e2 k1 V l c h0 U hb I];rfl
  rw [this];refine ⟨_,_,h _ hv.freshAt,g.put hn _,?_⟩;refine vH hv e _ _ _ ?_ (by simp [size_madeCells]);have hm:l.toNat*i.size<=c.toNat*i.size:=Nat.mul_le_mul_right _ vd;have:=zif v.cells.toList hm;unfold madeL at this ⊢;simpa using this
theorem uL {T e:tx} {x:tw} {hi:Option tw} {b o len n h:Nat} (hT:P.underlying T=some (.array len e)) (he:sizeT P e=some n) (hx:ev E x=some (.pointer (some ⟨b,o,none⟩))) (V:bnd E hi len len h) :
    ACalm P N ⟨dst,.slice T x none hi none,ty,pos,aft,gd⟩ E S (.slice (some ⟨b,o,none⟩) h len):=λc w g hv=>by
  have e1:(Instr.sliceBounds false len len none (hi.map c.eval) none).run P w = .ok (0,h,len) w:=by
    unfold Instr.sliceBounds;cases hi with
    | none=>have U:h=len:=V;subst U;simp
    | some i'=>obtain ⟨k',j',I,J,A,rfl⟩:=V;simp [g.ev I,zbN _ _ rfl J A w]
  simp only [execOp,g.ev hx,Instr.sliceAt,Sem.run_bind,run_underlying hT w,Instr.sureAddr,e1,Option.map_none,Result.andThen_ok,zaZ he w,Sem.run_pure,Nat.zero_mul,Nat.sub_zero];split <;> rfl
theorem Calm.makeFunc {fn:Fn} {first A:List tw} {vs us:List tu} (I:evs E first=some vs) (J:evs E A=some us):ACalm P N ⟨dst,.makeFunc fn first.toArray A.toArray,ty,pos,aft,gd⟩ E S (.func fn vs.toArray us.toArray):=λc w g U=>by
  simp [execOp,Instr.makeFunc,g.evs I,g.evs J]
theorem vq {os:List Oper} {f:tA} {x:tw} {xs:List tw} {ats:Array tx} {vs first cap:List tu} {d:Nat} {R:tu->Mem->Prop} (I:d<N) (hf:goFn P f=true) (U:ev E x=some (.func (.func f) first.toArray cap.toArray)) (V:evs E xs=some vs) (hc:ACall P f (first ++ vs ++ cap).toArray S R)
    (h:∀ v S',R v S'->ARun P N ops os K ((d,v) :: E) S'):ARun P N ops (⟨some d,.call ⟨.value x,xs.toArray,ats⟩,ty,pos,aft,none⟩ :: os) K E S:=λa w g hw=>by
  rw [if_pos (by simp [Region.wanted])];unfold Oper.wp;have A:(execOp a.eval ⟨some d,.call ⟨.value x,xs.toArray,ats⟩,ty,pos,aft,none⟩).run P w=(callFunc f (first ++ vs ++ cap).toArray).run P w:=by
    simp only [execOp,resolve,Deferred.ofValue,g.ev U,Sem.run_bind,Sem.run_pure,Result.andThen_ok,invoke];congr 2;rw [<- g.evs V];simp
  rw [A,zbg hf];simp only [Oper.upon];refine (hc w hw).mono λe w' ⟨v,S',A,J,s⟩=>?_;subst A;exact ⟨_,_,h v S' J,g.put I v,s⟩

theorem vV {T:tx} {x i:tw} {s:tt} {k:IntKind} {j:Nat} (A:P.underlying T=some .string) (I:ev E x=some (.string s)) (hi:ev E i=some (.int k (j:Int))) (J:j<s.size) :
    ACalm P N ⟨dst,.index T x i,ty,pos,aft,gd⟩ E S (.int .u8 (nb (at8 s.data.toList j))):=by
  have:=vQ (S:=S) (N:=N) (dst:=dst) (ty:=ty) (pos:=pos) (aft:=aft) (gd:=gd) A I hi vd vd;simpa using this
theorem Calm.as {o:Oper} {v v':tu} (e:v=v') (h:ACalm P N o E S v):ACalm P N o E S v':=e ▸ h
theorem zp6 {t:tx} {x y:tw} {k:IntKind} {a b c:Int} (h:bits .and k a b=c):Bin P .and t x y (.int k a) (.int k b) (.int k c):=h ▸ zmZ a b
theorem zhj {t:tx} {x y:tw} {k:IntKind} {a b c:Int} (h:bits .xor k a b=c):Bin P .xor t x y (.int k a) (.int k b) (.int k c):=h ▸ zm0 a b
theorem zgr {b:Nat} {r:Blk} {cs:List tu} (h:S.own b=some r) (hc:cs <+: r.cells):S.rds ⟨b,0,none⟩ cs:=λj v A=>by
  rw [zaE,zdv h,Nat.zero_add];exact zcb hc A
theorem rUn {os:List Oper} {d:Option Nat} {op:Op} {j:Nat} {t:Bool} (dj:Nat) (h:ARun P N ops (⟨d,op,ty,pos,aft,none⟩ :: os) K E S) (U:lk E dj=some (.bool t):=by exact rfl) (I:(ops[j]?).bind (·.dst)=some dj:=by exact rfl) (A:dj<N:=by exact zab rfl) :
    ARun P N ops (⟨d,op,ty,pos,aft,some (j,t)⟩ :: os) K E S:=λa w g V=>by
  cases e:ops[j]? with
  | none=>simp [e] at I
  | some og =>
    simp [e] at I;have J:=h a w g V;rw [if_pos (by simp [Region.wanted])] at J;rw [if_pos (by simp [Region.wanted,zcc g e I A U])];exact J
/-! ### Texts -/
theorem zdk (a:tt):a.toList=a.data.toList:=by rw [ByteArray.toList_eq]
theorem zbF {t:tx} {x y:tw} {a b:tt} (h:a.size+b.size<=9223372036854775807):Bin P .add t x y (.string a) (.string b) (.string (a ++ b)):=λw=>by
  have : ¬ (((a.size+b.size:Nat):Int) > IntKind.i64.max):=by
    have e:IntKind.i64.max=9223372036854775807:=rfl;rw [e];omega
  simp only [eqGuard,binOp,Op.stringOp,if_neg this];simp
theorem zcR {t:tx} {x y:tw} (a b:tt):Bin P .lss t x y (.string a) (.string b) (.bool (Op.bytesLess a.data.toList b.data.toList)):=λw=>by
  simp [eqGuard,binOp,Op.stringOp,zdk]
theorem zm9 (a b:tt):(a.data.toList == b.data.toList)=decide (a=b):=by
  rw [Bool.eq_iff_iff];simp [<- zdk,zjl]
theorem zcg {t:tx} {x y:tw} (a b:tt):Bin P .leq t x y (.string a) (.string b) (.bool (Op.bytesLess a.data.toList b.data.toList || decide (a=b))):=λw=>by
  simp only [eqGuard,binOp,Op.stringOp,zdk,zm9];simp
theorem zdD {t:tx} {x y:tw} (a b:tt):Bin P .gtr t x y (.string a) (.string b) (.bool (!(Op.bytesLess a.data.toList b.data.toList || decide (a=b)))):=λw=>by
  simp only [eqGuard,binOp,Op.stringOp,zdk,zm9];simp
theorem size_append (a b:tt):(a ++ b).size=a.size+b.size:=by simp
theorem zaJ (l:List UInt8):(bs l).size=l.length:=bs_size l
theorem za6 (a:tt):a.data.toList.length=a.size:=Array.length_toList
theorem data_extract (a:tt) (i j:Nat):(a.extract i j).data.toList=(a.data.toList.take j).drop i:=by
  rw [ByteArray.data_extract,Array.toList_extract,List.extract_eq_take_drop,<- List.drop_take]
theorem zbG {a b:tt} (h:a.data.toList=b.data.toList):a=b:=by cases a;cases b;simpa using h
end
end Mv
open Go.RowKit
namespace Mv
def roM (w:tv):Mem:=⟨λ_=>none,⟨λa=>w.cell? a,λ_=>none⟩⟩
theorem zp7 (w:tv):View (roM w) w:=⟨λ_ _ h=>(by cases h),λ_ _ h=>⟨h,rfl⟩,λ_ _ h=>(by cases h)⟩
theorem ACall.callsW {P:tz} {f:tA} {args:Array tu} {v:tu} {w:tv} (h:ACall P f args (roM w) λv' S'=>v'=v):Calls P f args w λe w'=>e = .returned v/\Below w.heap.size w w' :=
  (h w (zp7 w)).mono λ_ _ ⟨v',S',I,A,s⟩=>⟨by rw [I,A],s.toBelow λ_=>rfl⟩
theorem zfx {w:tv} {a:Addr} {cs:List tu} (h:∀ j v,cs[j]?=some v->w.cell? (a.add j)=some v):(roM w).Knows a cs:=λw' I j v A=>(I.ro _ _ (h j v A)).1
theorem zm_ {α : Type} {m:Nat} {p:Nat -> α->Prop} (d:0<m -> α) (h:∀ i,i<m -> ∃ y,p i y):∃ l:List α,l.length=m /\ ∀ i (hi:i<l.length),p i l[i]:=by
  by_cases U:m=0
  · subst U;exact ⟨[],rfl,λi hi=>by cases hi⟩
  have A:∀ i,∃ y,i<m->p i y:=λi=>by
    by_cases hi:i<m
    · obtain ⟨y,I⟩:=h i hi;exact ⟨y,λ_=>I⟩
    exact ⟨d vd,λh=>absurd h hi⟩
  obtain ⟨g,J⟩:=Classical.axiomOfChoice A;exact ⟨(List.range m).map g,by simp,λi hi=>by simp at hi ⊢;exact J i hi⟩
section
variable {H:Type} {enc:tx × tu->H} {P:tz} {W:tv} {base:Nat} {held:Bool}
theorem zwS {α : Type} [Nonempty α] {t e:tx} {n:Nat} {f : α->List tu} {Q : α->DataW H->Prop} {a:Option Addr} {len cap:Nat} {d:DataW H} {ps:List MemPlace}
    (ht:P.underlying t=some (.slice e)) (hc:P.cellsOf e=n) (ai:0<n) (am:∀ x,(f x).length=n) (he:∀ I cs x,DataW.trod enc P W base (λ_=>true) held I e cs=some x -> ∃ y : α,cs=f y/\Q y x.1)
    (h:DataW.Trod enc P W base (λ_=>true) held t (.slice a len cap) d ps) :
    ∃ l:List α,Sl n f (roM W) (.slice a len cap) l/\(l = [] \/ ∃ ds rest,d = .slice ds rest/\ds.length=l.length /\ ∀ i (hi:i<l.length) (al:i<ds.length),Q l[i] ds[i]):=by
  obtain ⟨I,hf⟩:=h;rcases Go.Deep.open_slice ht hf with ⟨A,_⟩ | ⟨x,l,c,m,n',D,Pl,A,_,hl,hm,aj,hx,ao⟩
  · simp [Value.cells] at A;obtain ⟨rfl,rfl,rfl⟩:=A;exact ⟨[],Sl.nil _ _ _,.inl rfl⟩
  simp [Value.cells] at A;obtain ⟨rfl,rfl,rfl⟩:=A;have aA:m=cap:=by simpa using aj
  obtain ⟨ys,af,ad⟩:=zm_ (α:=α) (m:=len) (p:=λi y=>(∀ j v,(f y)[j]?=some v->W.cell? ((x.add (i*n)).add j)=some v)/\Q y (D i)) (λ_=>Classical.choice inferInstance) λi hi=>by
    obtain ⟨cs',h1,h2⟩:=ao i vd;obtain ⟨y,rfl,hq⟩:=he _ _ _ h2;rw [hc] at h1;refine ⟨y,λj v hj=>?_,hq⟩;obtain ⟨_,ae,V⟩:=World.cells?_some h1;have ak:j<n:=(by rw [<- ae];exact (List.getElem?_eq_some_iff.1 hj).1);rw [V j ak];exact hj
  refine ⟨ys,⟨some x,cap,by rw [af],by omega,by unfold maxLen at hm;omega,?_⟩,.inr ⟨_,_,congrArg Prod.fst hx,by simp [af],λi hi al=>by simp;exact (ad i hi).2⟩⟩;by_cases h0:len=0
  · left;exact List.eq_nil_of_length_eq_zero vd
  right;obtain ⟨b,off,J⟩:=x;have hz:∀ i (hi:i<ys.length) j v,(f ys[i])[j]?=some v->W.cell? (((⟨b,off,J⟩ : Addr).add (i*n)).add j)=some v:=λi hi=>(ad i hi).1;have U:0<ys.length:=by omega
  have aq:0<(f ys[0]).length:=by rw [am];exact ai
  have an:(f ys[0])[0]?=some (f ys[0])[0]:=List.getElem?_eq_getElem aq;have ac:J=none:=by simpa [Addr.add] using World.cell?_spot (hz 0 U 0 _ an)
  subst ac;refine ⟨b,off,rfl,λi hi=>zfx λj v hj=>?_⟩;have:=hz i hi j v hj;rwa [zaE] at this
theorem Sl.map {α β : Type} {n:Nat} {f : α->List tu} {g : β->List tu} (q : β -> α) (A:∀ x,f (q x)=g x) {S:Mem} {v:tu} {l:List β} (h:Sl n f S v (l.map q)):Sl n g S v l:=by
  obtain ⟨a,c,e1,e2,e3,e4⟩:=h;rw [List.length_map] at e1 e2 e3;refine ⟨a,c,e1,e2,e3,?_⟩;rcases e4 with e4 | ⟨b,off,e5,e6⟩
  · left;exact List.map_eq_nil_iff.1 e4
  right;refine ⟨b,off,e5,λi hi=>?_⟩;have:=e6 i (by simpa using hi);rw [List.getElem_map,A] at this;exact this
theorem ztf (l:List Int) (k:Int) (h:∀ x ∈ l,0<=x/\x<=k):∃ m:List Nat,l=m.map (λn:Nat=>(n:Int)) /\ ∀ x ∈ m,(x:Int)<=k:=by
  refine ⟨l.map Int.toNat,?_,?_⟩
  · rw [List.map_map];have:∀ x ∈ l,((λn:Nat=>(n:Int)) ∘ Int.toNat) x=id x:=λx A=>(by have:=h x A;simp [Function.comp];omega);rw [List.map_congr_left this];simp
  intro x A;obtain ⟨y,I,rfl⟩:=List.mem_map.1 A;have:=h y I;omega
end
end Mv
open Go.RowKit
namespace Mv
def i64s (x:Int):List tu:=[.int .i64 x]
theorem Sl.at1 {α : Type} {n:Nat} {f : α->List tu} {S:Mem} {b off:Nat} {len cap:Nat} {l:List α} (h:Sl n f S (.slice (some ⟨b,off,none⟩) len cap) l) (i:Nat) (hi:i<l.length):S.Knows ⟨b,off+i*n,none⟩ (f l[i]):=by
  obtain ⟨a,c,e1,_,_,e4⟩:=h;rcases e4 with e4 | ⟨b',A,e5,e6⟩
  · subst e4;cases hi
  subst e5;simp only [Value.slice.injEq,Option.some.injEq,Addr.mk.injEq] at e1;obtain ⟨⟨rfl,rfl,_⟩,_⟩:=e1;exact e6 i hi
section
variable {P:tz} {N:Nat} {ops:Array Oper} {E:Env} {S:Mem} {K:Env->Mem->Prop}
variable {ty:tx} {pos:String} {aft:Array Edge}
theorem zdE {t e:tx} {x y:tw} {a:Option Addr} {n c:Nat} (h:P.underlying t=some (.slice e)):Bin P .eql t x y (.slice a n c) (.slice none 0 0) (.bool a.isNone):=λw=>by
  have:=_root_.Go.run_eql_slice_nil (P:=P) w t e a n c h;simpa [eqGuard] using this
theorem zjm {t e:tx} {x y:tw} {a:Option Addr} {n c:Nat} (h:P.underlying t=some (.slice e)):Bin P .neq t x y (.slice a n c) (.slice none 0 0) (.bool (!a.isNone)):=λw=>by
  have:=_root_.Go.run_neq_slice_nil (P:=P) w t e a n c h;simpa [eqGuard] using this
theorem uh {os:List Oper} {T e:tx} {n y:Nat} {z:List tu} {d:Nat} (V:d<N) (hT:slT P T=some (e,n,y,z))
    (h:∀ b,Fresh S b->ARun P N ops os K ((d,.slice (some ⟨b,0,none⟩) 0 0) :: E) (S.set b ⟨e,[],0⟩)):ARun P N ops (⟨some d,.buildSlice T 0 #[],ty,pos,aft,none⟩ :: os) K E S:=λa w g U=>by
  rw [if_pos (by simp [Region.wanted])];obtain ⟨I,i,v,e1,e2,rfl,rfl,rfl⟩:=za4 hT;have A:(execOp a.eval ⟨some d,.buildSlice T 0 #[],ty,pos,aft,none⟩).run P w = .ok (.value (.slice (some ⟨w.heap.size,0,none⟩) 0 0)) (w.alloc (.cells #[] e)):=by
    have J : ¬ (0 > 2 ^ 24):=(by decide);simp only [execOp,Instr.buildSlice];simp only [Sem.run_bind,run_underlying I w,Result.andThen_ok,zaZ (show sizeT P e=some i.size by simp [sizeT,e1]) w,Nat.zero_mul,J,if_false,if_true,Sem.run_pure];simp [Instr.fill,newRow];congr 2;apply Array.ext';simp
  unfold Oper.wp;rw [A];exact ⟨_,_,h _ U.freshAt,g.put V _,vH U e #[] [] 0 (by simp) (by simp)⟩
end
theorem ACall.frame {P:tz} {f:tA} {args:Array tu} {S:Mem} {R:tu->Mem->Prop} (h:ACall P f args S R) {b:Nat} {r:Blk} (hf:Fresh S b) :
    ACall P f args (S.set b r) λv ad=>∃ S',R v S'/\Fresh S' b/\ad=S'.set b r:=λw hv=>by
  have hb:b<w.heap.size:=hv.lt (vf S b r);refine (h w (hv.less (vh S b r hf.1))).mono λe w' ⟨v,S',he,hR,st⟩=>?_;have hn:S'.own b=none:=by
    cases e0:S'.own b with
    | none=>rfl
    | some r0 =>
      rcases st.dom b (by rw [e0];simp) with x | x
      · exact absurd hf.1 x
      omega
  have J:Fresh S' b:=⟨hn,λa v U=>by
    rcases st.ro a v U with x | x | x
    · exact hf.2 a v x
    · intro e;rw [e] at x;exact x hf.1
    omega⟩
  refine ⟨v,S'.set b r,he,⟨S',hR,J,rfl⟩,⟨⟨λk r' A=>?_,λa u U=>?_,λg l hg=>let ⟨h1,⟨v,V⟩,h3⟩:=st.view.fz g l hg;⟨by rw [vg _ _ (J.2 _ v V)];exact h1,⟨v,V⟩,h3⟩⟩,st.os,st.tape,st.output,st.size,λk A I=>?_,λk A=>?_,λa v U=>by
    rcases st.ro a v U with x | x | x
    · exact .inl x
    · refine .inr (.inl ?_);by_cases e:a.block=b
      · rw [e,vf];simp
      rw [vg _ _ e];exact x
    exact .inr (.inr x)⟩⟩
  · by_cases e:k=b
    · subst e;rw [st.block k hb hf.1];exact hv.own k r' (by rw [vf] at A ⊢;exact A)
    rw [vg _ _ e] at A;exact st.view.own k r' A
  · obtain ⟨h1,h2⟩:=st.view.ro a u U;refine ⟨h1,?_⟩;rw [vg _ _ (J.2 a u U)];exact h2
  · by_cases e:k=b
    · subst e;rw [vf] at I;cases I
    rw [vg _ _ e] at I;exact st.block k A I
  by_cases e:k=b
  · subst e;left;rw [vf];simp
  rw [vg _ _ e] at A ⊢;exact st.dom k A
theorem named {P:tz} {N:Nat} {c:Code} {Q:Exit->Env->Mem->Prop} {E:Env} {S:Mem} {b:Nat} {r:Blk} (A:S.own b=none) (h:∀ T,S.Less T->T.own b=some r->AWP P N c Q E T):AWP P N c Q E (S.set b r) :=
  h _ (vh S b r A) (vf S b r)
end Mv
open Go.RowKit
namespace Mv
end Mv
open Go.RowKit
namespace Mv
section
variable {H:Type} {P:tz}
def Small (P:tz) (t:tx) (d:DataW H):Prop:=∀ n ∈ d.weights P t,n<=reachBytes
theorem zna {ts:List tx} {A:List (DataW H)} {t:tx} {d:DataW H} {j:Nat} (h:(DataW.weightsEach P ts A).all (·<=reachBytes)=true) (I:ts[j]?=some t) (hd:A[j]?=some d):Small P t d:=λn J=>by
  simpa using List.all_eq_true.1 h n (DataW.weights_mem_each I hd n J)
theorem znb {t e:tx} {A rest:List (DataW H)} (I:P.underlying t=some (.slice e)) (h:Small P t (.slice A rest)):A.length*P.bytesOf e<=reachBytes:=by
  have:=h ((A.length+rest.length)*P.bytesOf e) (by simp [DataW.weights,I]);exact Nat.le_trans (Nat.mul_le_mul_right _ (Nat.le_add_right _ _)) this
variable {enc:tx × tu->H} {W:tv} {base:Nat} {held:Bool}
theorem zhk {t e:tx} {k:IntKind} {a:Option Addr} {len cap:Nat} {d:DataW H} {ps:List MemPlace} (I:P.underlying t=some (.slice e)) (he:P.underlying e=some (.int k)) (hc:P.cellsOf e=1)
    (h:DataW.Trod enc P W base (λ_=>true) held t (.slice a len cap) d ps) :
    ∃ l:List Int,Sl 1 (λx=>[.int k x]) (roM W) (.slice a len cap) l/\(∀ x ∈ l,(Lit.int k x).wf=true)/\(Small P t d->l.length*P.bytesOf e<=reachBytes):=by
  have:Nonempty Int:=⟨0⟩;obtain ⟨l,h1,J⟩:=zwS (α:=Int) (n:=1) (f:=λx=>[.int k x]) (Q:=λx _=>(Lit.int k x).wf=true) I hc (by decide) (λ_=>rfl) (λU cs x A=>by
    obtain ⟨m,e1,_,hw⟩:=DataW.trod_int he A;exact ⟨m,e1,hw⟩) h
  refine ⟨l,h1,λx A=>?_,λhs=>?_⟩
  · rcases J with rfl | ⟨ds,rest,rfl,V,hq⟩
    · cases A
    obtain ⟨i,hi,rfl⟩:=List.getElem_of_mem A;exact hq i hi vd
  rcases J with rfl | ⟨ds,rest,rfl,V,hq⟩
  · simp
  have:=znb I hs;rwa [V] at this
theorem zhl {t e:tx} {a:Option Addr} {len cap:Nat} {d:DataW H} {ps:List MemPlace} (J:P.underlying t=some (.slice e)) (V:P.underlying e=some (.int .u64)) (hc:P.cellsOf e=1)
    (h:DataW.Trod enc P W base (λ_=>true) held t (.slice a len cap) d ps) :
    ∃ l:List Nat,Sl 1 (λx:Nat=>[.int .u64 (x:Int)]) (roM W) (.slice a len cap) l/\(∀ x ∈ l,x<18446744073709551616)/\(Small P t d->l.length*P.bytesOf e<=reachBytes):=by
  obtain ⟨l,h1,U,h4⟩:=zhk J V hc h;obtain ⟨m,rfl,I⟩:=ztf l 18446744073709551615 (λx A=>by
    have:=U x A;simp [Lit.wf,IntKind.min,IntKind.max,IntKind.signed,IntKind.bits] at this;omega)
  exact ⟨m,h1.map _ (λ_=>rfl),λx A=>by have:=I x A;omega,by simpa using h4⟩
end
theorem zvb {n b:Nat} (h:n*b<=reachBytes) (A:b=8):n<=17592186043904:=by
  subst A;have:reachBytes=140737488351232:=by decide
  omega
end Mv
open Go.RowKit
namespace Mv
variable {P:tz} {t e:tx} {α β : Type}
section
variable {H:Type} {enc:tx × tu->H} {W:tv} {base:Nat} {held:Bool} {r:Reach} {d:DataW H} {ps:List MemPlace}
end
end Mv
open Go.RowKit
namespace Mv
/-! ### What walks by itself (printed by step-gen.py) -/
structure Cl (P:Program) (N:Nat) (o:Oper) (E:Env) (S:Mem) (v:Value):Prop where
  h:ACalm P N o E S v
structure Kp (q:Prop):Prop where
  k:q
def nthL:List tu->Nat->Option tu
  | [],_=>none
  | a :: _,0=>some a
  | _ :: l,n+1=>nthL l n
theorem zp8 (l:List tu) (i:Nat):l.toArray[i]?=nthL l i:=by
  rw [List.getElem?_toArray]
  induction l generalizing i with
  | nil=>rfl
  | cons a l A=>cases i with
    | zero=>rfl
    | succ i=>exact A i
class TPlain (P:Program) (t:TypeId):Prop where
  h:plainT P t=true
class TAgg (P:Program) (t:TypeId):Prop where
  h:aggT P t=true
class TSize (P:Program) (t:TypeId) (n:outParam Nat):Prop where
  h:sizeT P t=some n
class TField (P:Program) (t:TypeId) (f:Nat) (off n:outParam Nat):Prop where
  h:fieldT P t f=some (off,n+1)
class TStr (P:Program) (t:TypeId):Prop where
  h:strT P t=true
class TBytes (P:Program) (t:TypeId) (e:outParam TypeId):Prop where
  h:bytesT P t=some e
class TBld (P:Program) (t:TypeId) (r:outParam (List (Nat × Nat) × List Value)):Prop where
  h:bldT P t=some r
class TUnd (P:Program) (t:TypeId) (d:outParam TypeDesc):Prop where
  h:P.underlying t=some d
class TGo (P:Program) (f:FuncId):Prop where
  h:goFn P f=true
class TMix (P:Program):Prop where
  h:P.follows .mixedOrders=true
section
variable {P:tz} {N:Nat} {E:Env} {S:Mem} {dst:Option Nat} {T ty:tx} {pos:String} {aft:Array Edge} {gd:Option (Nat × Bool)}
variable {x y i:tw} {v vx vy:tu}
theorem zvc (A:ev E x=some v):Cl P N ⟨dst,.move x,ty,pos,aft,gd⟩ E S v:=⟨Calm.move A⟩
theorem zp9 (A:ev E x=some v):Cl P N ⟨dst,.assign x,ty,pos,aft,gd⟩ E S v:=⟨Calm.assign A⟩
theorem ztg {c:tw} (hc:ev E c=some (.bool true)) (A:ev E x=some v):Cl P N ⟨dst,.pick c x y,ty,pos,aft,gd⟩ E S v:=⟨uf hc A⟩
theorem zth {c:tw} (hc:ev E c=some (.bool false)) (A:ev E y=some v):Cl P N ⟨dst,.pick c x y,ty,pos,aft,gd⟩ E S v:=⟨ug hc A⟩
theorem zwT {op:BinOp} {A I:tx} (U:ev E x=some vx) (J:ev E y=some vy) (h:Bin P op A x y vx vy v):Cl P N ⟨dst,.binOp op A x y I,ty,pos,aft,gd⟩ E S v:=⟨vi U J h⟩
theorem c_un {op:UnOp} {A:tx} (I:ev E x=some vx) (h:Una P op vx v):Cl P N ⟨dst,.unOp op A x,ty,pos,aft,gd⟩ E S v:=⟨Calm.un I h⟩
theorem zvd {s t:tx} (A:ev E x=some vx) (h:Conv P s t vx v):Cl P N ⟨dst,.convert s t x,ty,pos,aft,gd⟩ E S v:=⟨Calm.conv A h⟩
theorem znc {i:Nat} {l:List tu} (A:ev E x=some (.tuple l.toArray)) (h:nthL l i=some v):Cl P N ⟨dst,.extract x i,ty,pos,aft,gd⟩ E S v:=⟨Calm.extract A ((zp8 l i).trans h)⟩
theorem zlL {a:Addr} (A:ev E x=some (.pointer (some a))):Cl P N ⟨dst,.nilCheck x,ty,pos,aft,gd⟩ E S (.pointer (some a)):=⟨Calm.nilCheck A⟩
theorem zve {a:Addr} (A:plainT P T=true) (I:ev E x=some (.pointer (some a))) (h:(S.rd a=some v\/S.Knows a [v])):Cl P N ⟨dst,.load T x,ty,pos,aft,gd⟩ E S v:=⟨ld_ A I h⟩
theorem zvf {a:Addr} {A I:tu} (U:aggT P T=true) (hs:sizeT P T=some 2) (J:ev E x=some (.pointer (some a))) (h:(S.rds a [A,I]\/S.Knows a [A,I])):Cl P N ⟨dst,.load T x,ty,pos,aft,gd⟩ E S (.agg [A,I].toArray):=⟨ldA_ U hs J h⟩
theorem zvg {a:Addr} {J A I:tu} (V:aggT P T=true) (hs:sizeT P T=some 3) (U:ev E x=some (.pointer (some a))) (h:(S.rds a [J,A,I]\/S.Knows a [J,A,I])):Cl P N ⟨dst,.load T x,ty,pos,aft,gd⟩ E S (.agg [J,A,I].toArray):=⟨ldA_ V hs U h⟩
theorem zvh {a:Addr} {J A I V U:tu} (hT:aggT P T=true) (hs:sizeT P T=some 5) (hx:ev E x=some (.pointer (some a))) (h:(S.rds a [J,A,I,V,U]\/S.Knows a [J,A,I,V,U])):Cl P N ⟨dst,.load T x,ty,pos,aft,gd⟩ E S (.agg [J,A,I,V,U].toArray):=⟨ldA_ hT hs hx h⟩
theorem zvi {a:Addr} {V I J a3 U A a6:tu} (hT:aggT P T=true) (hs:sizeT P T=some 7) (hx:ev E x=some (.pointer (some a))) (h:(S.rds a [V,I,J,a3,U,A,a6]\/S.Knows a [V,I,J,a3,U,A,a6])):Cl P N ⟨dst,.load T x,ty,pos,aft,gd⟩ E S (.agg [V,I,J,a3,U,A,a6].toArray):=⟨ldA_ hT hs hx h⟩
theorem zti {f b o off n:Nat} (A:fieldT P T f=some (off,n+1)) (I:ev E x=some (.pointer (some ⟨b,o,none⟩))):Cl P N ⟨dst,.fieldAddr T x f,ty,pos,aft,gd⟩ E S (.pointer (some ⟨b,o+off,none⟩)):=⟨Calm.fieldAddr A I⟩
theorem zp_ {e:tx} {b o len cap n:Nat} {k:IntKind} {j:Int} (U:P.underlying T=some (.slice e)) (A:sizeT P e=some n) (I:ev E x=some (.slice (some ⟨b,o,none⟩) len cap)) (hi:ev E i=some (.int k j)) (J:0<=j) (V:j<len):Cl P N ⟨dst,.indexAddr T x i,ty,pos,aft,gd⟩ E S (.pointer (some ⟨b,o+j.toNat*n,none⟩)):=⟨vK U A I hi J V⟩
theorem zqa {e:tx} {b o len n:Nat} {k:IntKind} {j:Int} (U:P.underlying T=some (.array len e)) (A:sizeT P e=some n) (I:ev E x=some (.pointer (some ⟨b,o,none⟩))) (hi:ev E i=some (.int k j)) (J:0<=j) (V:j<len):Cl P N ⟨dst,.indexAddr T x i,ty,pos,aft,gd⟩ E S (.pointer (some ⟨b,o+j.toNat*n,none⟩)):=⟨uZ U A I hi J V⟩
theorem zjn {s:tt} {k:IntKind} {j:Nat} (J:strT P T=true) (A:ev E x=some (.string s)) (hi:ev E i=some (.int k (j:Int))) (I:j<s.size):Cl P N ⟨dst,.index T x i,ty,pos,aft,gd⟩ E S (.int .u8 (nb (at8 s.data.toList j))):=⟨vV (zav J) A hi I⟩
theorem zlM {s:tt} {k:IntKind} {j:Int} (U:strT P T=true) (A:ev E x=some (.string s)) (hi:ev E i=some (.int k j)) (I:0<=j) (J:j<s.size):Cl P N ⟨dst,.index T x i,ty,pos,aft,gd⟩ E S (.int .u8 (nb (at8 s.data.toList j.toNat))):=⟨vQ (zav U) A hi I J⟩
theorem zlN {lo hi:Option tw} {s:tt} {l h:Nat} (U:strT P T=true) (I:ev E x=some (.string s)) (J:bnd E hi s.size s.size h) (A:bnd E lo 0 h l):Cl P N ⟨dst,.slice T x lo hi none,ty,pos,aft,gd⟩ E S (.string (s.extract l h)):=⟨vP (zav U) I J A⟩
theorem zjo {e:tx} {hi mx:Option tw} {b o len cap n h m:Nat} (V:P.underlying T=some (.slice e)) (I:sizeT P e=some n) (U:ev E x=some (.slice (some ⟨b,o,none⟩) len cap)) (hm:bnd E mx cap cap m) (A:mx.isSome=true->hi.isSome=true) (J:bnd E hi len m h):Cl P N ⟨dst,.slice T x none hi mx,ty,pos,aft,gd⟩ E S (.slice (some ⟨b,o,none⟩) h m):=⟨vZ V I U hm A J⟩
theorem znd {e:tx} {lo:tw} {hi mx:Option tw} {b o len cap n l h m:Nat} (hT:P.underlying T=some (.slice e)) (I:sizeT P e=some n) (J:ev E x=some (.slice (some ⟨b,o,none⟩) len cap)) (hm:bnd E mx cap cap m) (A:mx.isSome=true->hi.isSome=true) (U:bnd E hi len m h) (V:bnd E (some lo) 0 h l):Cl P N ⟨dst,.slice T x (some lo) hi mx,ty,pos,aft,gd⟩ E S (.slice (some ⟨b,if m=l then o else o+l*n,none⟩) (h-l) (m-l)):=⟨vX hT I J hm A U V⟩
theorem zlO {e:tx} {lo hi mx:Option tw} {n:Nat} (hT:P.underlying T=some (.slice e)) (I:sizeT P e=some n) (U:ev E x=some (.slice none 0 0)) (hm:bnd E mx 0 0 0) (A:mx.isSome=true->hi.isSome=true) (J:bnd E hi 0 0 0) (V:bnd E lo 0 0 0):Cl P N ⟨dst,.slice T x lo hi mx,ty,pos,aft,gd⟩ E S (.slice none 0 0):=⟨uk hT I U hm A J V⟩
theorem zlP {e:tx} {hi:Option tw} {b o len n h:Nat} (A:P.underlying T=some (.array len e)) (J:sizeT P e=some n) (U:ev E x=some (.pointer (some ⟨b,o,none⟩))) (I:bnd E hi len len h):Cl P N ⟨dst,.slice T x none hi none,ty,pos,aft,gd⟩ E S (.slice (some ⟨b,o,none⟩) h len):=⟨uL A J U I⟩
theorem zlQ {fn:Fn} {first A:List tw} {vs us:List tu} (I:evs E first=some vs) (J:evs E A=some us):Cl P N ⟨dst,.makeFunc fn first.toArray A.toArray,ty,pos,aft,gd⟩ E S (.func fn vs.toArray us.toArray):=⟨Calm.makeFunc I J⟩
theorem zvj {ps:List (Nat × Nat)} {z:List tu} {A:List (Nat × tw)} {vs:List tu} {J I:tu} (hz:sizeT P T=some 2) (hT:bldT P T=some (ps,z)) (V:evs E (A.map (·.2))=some vs) (U:bldL ps z ((A.map (·.1)).zip vs)=some [J,I]):Cl P N ⟨dst,.build T A.toArray,ty,pos,aft,gd⟩ E S (.agg [J,I].toArray):=⟨Calm.build hT V U⟩
theorem zvk {ps:List (Nat × Nat)} {z:List tu} {A:List (Nat × tw)} {vs:List tu} {U I J:tu} (hz:sizeT P T=some 3) (hT:bldT P T=some (ps,z)) (hx:evs E (A.map (·.2))=some vs) (V:bldL ps z ((A.map (·.1)).zip vs)=some [U,I,J]):Cl P N ⟨dst,.build T A.toArray,ty,pos,aft,gd⟩ E S (.agg [U,I,J].toArray):=⟨Calm.build hT hx V⟩
theorem zvl {ps:List (Nat × Nat)} {z:List tu} {A:List (Nat × tw)} {vs:List tu} {V I J a3 U:tu} (hz:sizeT P T=some 5) (hT:bldT P T=some (ps,z)) (hx:evs E (A.map (·.2))=some vs) (hb:bldL ps z ((A.map (·.1)).zip vs)=some [V,I,J,a3,U]):Cl P N ⟨dst,.build T A.toArray,ty,pos,aft,gd⟩ E S (.agg [V,I,J,a3,U].toArray):=⟨Calm.build hT hx hb⟩
theorem zvm {ps:List (Nat × Nat)} {z:List tu} {A:List (Nat × tw)} {vs:List tu} {a0 J U a3 V I:tu} (hz:sizeT P T=some 6) (hT:bldT P T=some (ps,z)) (hx:evs E (A.map (·.2))=some vs) (hb:bldL ps z ((A.map (·.1)).zip vs)=some [a0,J,U,a3,V,I]):Cl P N ⟨dst,.build T A.toArray,ty,pos,aft,gd⟩ E S (.agg [a0,J,U,a3,V,I].toArray):=⟨Calm.build hT hx hb⟩
theorem zvn {ps:List (Nat × Nat)} {z:List tu} {A:List (Nat × tw)} {vs:List tu} {a0 J U a3 V I a6:tu} (hz:sizeT P T=some 7) (hT:bldT P T=some (ps,z)) (hx:evs E (A.map (·.2))=some vs) (hb:bldL ps z ((A.map (·.1)).zip vs)=some [a0,J,U,a3,V,I,a6]):Cl P N ⟨dst,.build T A.toArray,ty,pos,aft,gd⟩ E S (.agg [a0,J,U,a3,V,I,a6].toArray):=⟨Calm.build hT hx hb⟩
theorem zvo {ps:List (Nat × Nat)} {z:List tu} {A:List (Nat × tw)} {vs:List tu} {a0 J U a3 V I a6 a7:tu} (hz:sizeT P T=some 8) (hT:bldT P T=some (ps,z)) (hx:evs E (A.map (·.2))=some vs) (hb:bldL ps z ((A.map (·.1)).zip vs)=some [a0,J,U,a3,V,I,a6,a7]):Cl P N ⟨dst,.build T A.toArray,ty,pos,aft,gd⟩ E S (.agg [a0,J,U,a3,V,I,a6,a7].toArray):=⟨Calm.build hT hx hb⟩
theorem ztj {ps:List (Nat × Nat)} {z:List tu} {A:List (Nat × tw)} {vs:List tu} {a0 V a2 a3 a4 J a6 a7 I U:tu} (hz:sizeT P T=some 10) (hT:bldT P T=some (ps,z)) (hx:evs E (A.map (·.2))=some vs) (hb:bldL ps z ((A.map (·.1)).zip vs)=some [a0,V,a2,a3,a4,J,a6,a7,I,U]):Cl P N ⟨dst,.build T A.toArray,ty,pos,aft,gd⟩ E S (.agg [a0,V,a2,a3,a4,J,a6,a7,I,U].toArray):=⟨Calm.build hT hx hb⟩
theorem zqb {s:tt} (A:strT P T=true) (I:ev E x=some (.string s)):Cl P N ⟨dst,.call ⟨.builtin .len,#[x],#[T]⟩,ty,pos,aft,gd⟩ E S (.int .i64 s.size):=⟨ui (zav A) I⟩
theorem ztk {e:tx} {a:Option Addr} {len cap:Nat} (A:P.underlying T=some (.slice e)) (I:ev E x=some (.slice a len cap)):Cl P N ⟨dst,.call ⟨.builtin .len,#[x],#[T]⟩,ty,pos,aft,gd⟩ E S (.int .i64 len):=⟨vL A I⟩
theorem zvp {k k':IntKind} {a b:Int} {ats:Array tx} (I:ev E x=some (.int k a)) (A:ev E y=some (.int k' b)) (h:a<=b):Cl P N ⟨dst,.call ⟨.builtin .min,#[x,y],ats⟩,ty,pos,aft,gd⟩ E S (.int k a):=⟨Calm.minL I A h⟩
end
section
variable {P:tz} {N:Nat} {ops:Array Oper} {E:Env} {S:Mem} {K:Env->Mem->Prop} {os:List Oper}
variable {d dj:Nat} {op:Op} {ty:tx} {pos:String} {aft:Array Edge} {v w:tu} {j:Nat} {t u:Bool} {x y:tw} {T:tx}
theorem zqc {P:tz} {t:tx} {x y:tw} {k:IntKind} {a b:Int} (h:a<b):Bin P .lss t x y (.int k a) (.int k b) (.bool true):=zag (za9 _ _) (decide_eq_true h)
theorem zqd {P:tz} {t:tx} {x y:tw} {k:IntKind} {a b:Int} (h : ¬ (a<b)):Bin P .lss t x y (.int k a) (.int k b) (.bool false):=zag (za9 _ _) (decide_eq_false h)
theorem zqe {P:tz} {t:tx} {x y:tw} {k:IntKind} {a b:Int} (h:a<=b):Bin P .leq t x y (.int k a) (.int k b) (.bool true):=zag (zeu _ _) (decide_eq_true h)
theorem zqf {P:tz} {t:tx} {x y:tw} {k:IntKind} {a b:Int} (h : ¬ (a<=b)):Bin P .leq t x y (.int k a) (.int k b) (.bool false):=zag (zeu _ _) (decide_eq_false h)
theorem zqg {P:tz} {t:tx} {x y:tw} {k:IntKind} {a b:Int} (h:b<a):Bin P .gtr t x y (.int k a) (.int k b) (.bool true):=zag (zev _ _) (decide_eq_true h)
theorem zqh {P:tz} {t:tx} {x y:tw} {k:IntKind} {a b:Int} (h : ¬ (b<a)):Bin P .gtr t x y (.int k a) (.int k b) (.bool false):=zag (zev _ _) (decide_eq_false h)
theorem zqi {P:tz} {t:tx} {x y:tw} {k:IntKind} {a b:Int} (h:b<=a):Bin P .geq t x y (.int k a) (.int k b) (.bool true):=zag (zcP _ _) (decide_eq_true h)
theorem zqj {P:tz} {t:tx} {x y:tw} {k:IntKind} {a b:Int} (h : ¬ (b<=a)):Bin P .geq t x y (.int k a) (.int k b) (.bool false):=zag (zcP _ _) (decide_eq_false h)
theorem zqk {P:tz} {t:tx} {x y:tw} {k:IntKind} {a b:Int} (h:a=b):Bin P .eql t x y (.int k a) (.int k b) (.bool true):=zag (zaV _ _) (decide_eq_true h)
theorem zql {P:tz} {t:tx} {x y:tw} {k:IntKind} {a b:Int} (h : ¬ (a=b)):Bin P .eql t x y (.int k a) (.int k b) (.bool false):=zag (zaV _ _) (decide_eq_false h)
theorem zqm {P:tz} {t:tx} {x y:tw} {k:IntKind} {a b:Int} (h:a≠b):Bin P .neq t x y (.int k a) (.int k b) (.bool true):=zag (zcp _ _) (zbh h)
theorem zqn {P:tz} {t:tx} {x y:tw} {k:IntKind} {a b:Int} (h:a=b):Bin P .neq t x y (.int k a) (.int k b) (.bool false):=zag (zcp _ _) (zaM h)
theorem bv_ {P:tz} {op:BinOp} {t:tx} {x y:tw} {vx vy v:tu} (h:Bin P op t x y vx vy v:=by first
  | ((with_reducible apply zqk);omega)
  | ((with_reducible apply zql);omega)
  | (with_reducible exact zaV _ _)
  | ((with_reducible apply zqc);omega)
  | ((with_reducible apply zqd);omega)
  | (with_reducible exact za9 _ _)
  | ((with_reducible apply zqm);omega)
  | ((with_reducible apply zqn);omega)
  | (with_reducible exact zcp _ _)
  | ((with_reducible apply zqe);omega)
  | ((with_reducible apply zqf);omega)
  | (with_reducible exact zeu _ _)
  | ((with_reducible apply zqg);omega)
  | ((with_reducible apply zqh);omega)
  | (with_reducible exact zev _ _)
  | ((with_reducible apply zqi);omega)
  | ((with_reducible apply zqj);omega)
  | (with_reducible exact zcP _ _)
  | ((with_reducible apply zhe);first | exact IntWalk.i64_in _ vd | exact IntWalk.u64_in _ vd | exact IntWalk.u32_in _ vd | exact IntWalk.u8_in _ vd)
  | (with_reducible exact zhd _ _)
  | ((with_reducible apply zkB);first | exact IntWalk.i64_in _ vd | exact IntWalk.u64_in _ vd | exact IntWalk.u32_in _ vd | exact IntWalk.u8_in _ vd)
  | (with_reducible exact zjf _ _)
  | ((with_reducible apply ze_);first | exact IntWalk.i64_in _ vd | exact IntWalk.u64_in _ vd | exact IntWalk.u32_in _ vd | exact IntWalk.u8_in _ vd)
  | (with_reducible exact zjg _ _)
  | ((with_reducible apply zkC);omega;first | exact IntWalk.i64_quo _ _ vd | exact IntWalk.u64_quo _ _ vd | exact IntWalk.u32_quo _ _ vd | exact IntWalk.u8_quo _ _ vd)
  | ((with_reducible apply zjh);omega)
  | ((with_reducible apply zhf);omega;omega)
  | ((with_reducible apply zmY);omega)
  | ((with_reducible apply zew);omega;(simp only [IntKind.bits];omega))
  | ((with_reducible apply zm1);omega;(simp only [IntKind.bits];omega))
  | (with_reducible exact zmZ _ _)
  | (with_reducible exact zu8 _ _)
  | (with_reducible exact zm0 _ _)
  | (with_reducible exact zaw _ _)
  | (with_reducible exact zaP _ _)
  | ((with_reducible apply zbF);omega)
  | (with_reducible exact zcR _ _)
  | (with_reducible exact zcg _ _)
  | (with_reducible exact zdD _ _)
  | (with_reducible exact bin_str_geq _ _)
  | ((with_reducible apply bin_bool_eql);exact TUnd.h)
  | ((with_reducible apply zc7);exact TUnd.h)
  | ((with_reducible apply zdE);exact TUnd.h)
  | ((with_reducible apply zjm);exact TUnd.h)):Bin P op t x y vx vy v:=h
theorem uv_ {P:tz} {op:UnOp} {vx v:tu} (h:Una P op vx v:=by first | exact zji _):Una P op vx v:=h
theorem cv_ {P:tz} {s t:tx} {vx v:tu} (h:Conv P s t vx v:=by first
  | ((with_reducible apply zbz);exact TUnd.h;exact TUnd.h;first | exact IntWalk.i64_in _ vd | exact IntWalk.u64_in _ vd | exact IntWalk.u32_in _ vd | exact IntWalk.u8_in _ vd | exact wrap_nb_i64 _ | exact zjj _ | exact wrap_nb_u32 _ | exact wrap_nb_u8 _)
  | ((with_reducible apply zkD);exact TUnd.h;exact TUnd.h)):Conv P s t vx v:=h
theorem bd_ {E:Env} {o:Option tw} {a b r:Nat} (h:bnd E o a b r:=by first | exact zaU _ _ | exact zb1 _ _ rfl vd vd):bnd E o a b r:=h
theorem bz_ {E:Env} {o:Option tw} (h:bnd E o 0 0 0:=by first | exact zaU _ _ | exact zkE _ _ rfl):bnd E o 0 0 0:=h
theorem ldk_ {S:Mem} {a:Addr} {v:tu} (h:(S.rd a=some v\/S.Knows a [v]):=by first | exact .inl rd_ | exact .inr kn_):S.rd a=some v\/S.Knows a [v]:=h
theorem ze7 {S:Mem} {a:Addr} {cs:List tu} (h:(S.rds a cs\/S.Knows a cs):=by first | exact .inl rds_ | exact .inr kn_):S.rds a cs\/S.Knows a cs:=h
theorem cl_ {P:tz} {N:Nat} {o:Oper} {E:Env} {S:Mem} {v:tu} (h:Cl P N o E S v:=by first
  | ((with_reducible apply zve);exact TPlain.h;exact rfl;exact ldk_)
  | ((with_reducible apply zvc);exact rfl)
  | ((with_reducible apply zwT);exact rfl;exact rfl;exact bv_)
  | ((with_reducible apply zti);exact TField.h;exact rfl)
  | ((with_reducible apply zlL);exact rfl)
  | ((with_reducible apply zp9);exact rfl)
  | ((with_reducible apply znc);exact rfl;exact rfl)
  | ((with_reducible apply zp_);exact TUnd.h;exact TSize.h;exact rfl;exact rfl;omega;omega)
  | ((with_reducible apply ztk);exact TUnd.h;exact rfl)
  | ((with_reducible apply zqb);exact TStr.h;exact rfl)
  | ((with_reducible apply ztg);exact rfl;exact rfl)
  | ((with_reducible apply zth);exact rfl;exact rfl)
  | ((with_reducible apply zvd);exact rfl;exact cv_)
  | ((with_reducible apply c_un);exact rfl;exact uv_)
  | ((with_reducible apply zjn);exact TStr.h;exact rfl;exact rfl;omega)
  | ((with_reducible apply zlM);exact TStr.h;exact rfl;exact rfl;omega;omega)
  | ((with_reducible apply zlN);exact TStr.h;exact rfl;exact bd_;exact bd_)
  | ((with_reducible apply zjo);exact TUnd.h;exact TSize.h;exact rfl;exact bd_;exact λ_=>rfl;exact bd_)
  | ((with_reducible apply znd);exact TUnd.h;exact TSize.h;exact rfl;exact bd_;simp;exact bd_;exact bd_)
  | ((with_reducible apply zlO);exact TUnd.h;exact TSize.h;exact rfl;exact bz_;simp;exact bz_;exact bz_)
  | ((with_reducible apply zlP);exact TUnd.h;exact TSize.h;exact rfl;exact bd_)
  | ((with_reducible apply zqa);exact TUnd.h;exact TSize.h;exact rfl;exact rfl;omega;omega)
  | ((with_reducible apply c_ldA1);exact TAgg.h;exact TSize.h;exact rfl;exact ze7)
  | ((with_reducible apply zvf);exact TAgg.h;exact TSize.h;exact rfl;exact ze7)
  | ((with_reducible apply zvg);exact TAgg.h;exact TSize.h;exact rfl;exact ze7)
  | ((with_reducible apply c_ldA4);exact TAgg.h;exact TSize.h;exact rfl;exact ze7)
  | ((with_reducible apply zvh);exact TAgg.h;exact TSize.h;exact rfl;exact ze7)
  | ((with_reducible apply c_ldA6);exact TAgg.h;exact TSize.h;exact rfl;exact ze7)
  | ((with_reducible apply zvi);exact TAgg.h;exact TSize.h;exact rfl;exact ze7)
  | ((with_reducible apply c_ldA8);exact TAgg.h;exact TSize.h;exact rfl;exact ze7)
  | ((with_reducible apply c_ldA9);exact TAgg.h;exact TSize.h;exact rfl;exact ze7)
  | ((with_reducible apply c_ldA10);exact TAgg.h;exact TSize.h;exact rfl;exact ze7)
  | ((with_reducible apply c_ldA11);exact TAgg.h;exact TSize.h;exact rfl;exact ze7)
  | ((with_reducible apply c_ldA12);exact TAgg.h;exact TSize.h;exact rfl;exact ze7)
  | ((with_reducible apply c_bld1);exact TSize.h;exact TBld.h;exact rfl;exact rfl)
  | ((with_reducible apply zvj);exact TSize.h;exact TBld.h;exact rfl;exact rfl)
  | ((with_reducible apply zvk);exact TSize.h;exact TBld.h;exact rfl;exact rfl)
  | ((with_reducible apply c_bld4);exact TSize.h;exact TBld.h;exact rfl;exact rfl)
  | ((with_reducible apply zvl);exact TSize.h;exact TBld.h;exact rfl;exact rfl)
  | ((with_reducible apply zvm);exact TSize.h;exact TBld.h;exact rfl;exact rfl)
  | ((with_reducible apply zvn);exact TSize.h;exact TBld.h;exact rfl;exact rfl)
  | ((with_reducible apply zvo);exact TSize.h;exact TBld.h;exact rfl;exact rfl)
  | ((with_reducible apply c_bld9);exact TSize.h;exact TBld.h;exact rfl;exact rfl)
  | ((with_reducible apply ztj);exact TSize.h;exact TBld.h;exact rfl;exact rfl)
  | ((with_reducible apply c_toStr);exact TBytes.h;exact TStr.h;exact rfl;exact rds_;exact zdC)
  | ((with_reducible apply c_toStrNil);exact TBytes.h;exact TStr.h;exact rfl)
  | ((with_reducible apply zvp);exact rfl;exact rfl;omega)
  | ((with_reducible apply c_minR);exact rfl;exact rfl;omega)
  | ((with_reducible apply c_maxL);exact rfl;exact rfl;omega)
  | ((with_reducible apply c_maxR);exact rfl;exact rfl;omega)
  | ((with_reducible apply zlQ);exact rfl;exact rfl)):Cl P N o E S v:=h
theorem rC' (hc:Cl P N ⟨some d,op,ty,pos,aft,none⟩ E S v) (A:d<N) (h:ARun P N ops os K ((d,v) :: E) S):ARun P N ops (⟨some d,op,ty,pos,aft,none⟩ :: os) K E S:=rC hc.h h A
theorem rS' (V:(ops[j]?).bind (·.dst)=some dj) (J:lk E dj=some (.bool u)) (I:(u == t)=false) (A:dj<N) (U:d<N) (h:ARun P N ops os K ((d,undef) :: E) S):ARun P N ops (⟨some d,op,ty,pos,aft,some (j,t)⟩ :: os) K E S:=rS dj h J I V A U
theorem rU' (J:(ops[j]?).bind (·.dst)=some dj) (I:lk E dj=some undef) (A:dj<N) (U:d<N) (h:ARun P N ops os K ((d,undef) :: E) S):ARun P N ops (⟨some d,op,ty,pos,aft,some (j,t)⟩ :: os) K E S:=rU dj h I J A U
theorem rG' (J:(ops[j]?).bind (·.dst)=some dj) (I:lk E dj=some (.bool t)) (hc:Cl P N ⟨some d,op,ty,pos,aft,some (j,t)⟩ E S v) (A:dj<N) (U:d<N) (h:ARun P N ops os K ((d,v) :: E) S):ARun P N ops (⟨some d,op,ty,pos,aft,some (j,t)⟩ :: os) K E S:=rG dj hc.h h I J A U
theorem rW1 {b o:Nat} {r:Blk} (J:ev E x=some (.pointer (some ⟨b,o,none⟩))) (V:ev E y=some v) (hs:sizeT P T=some 1) (A:v.cells = #[v]) (I:S.own b=some r) (U:o<r.cells.length) (h1:v.oneCell'=true) (h:ARun P N ops os K E (S.set b ⟨r.elem,r.cells.set o v,r.room⟩)):ARun P N ops (⟨none,.store T x y,ty,pos,aft,none⟩ :: os) K E S:=vk J V hs A I U h1 h
theorem rWA {b n:Nat} {r:Blk} {cs:List tu} (ht:aggT P T=true) (J:ev E x=some (.pointer (some ⟨b,0,none⟩))) (V:ev E y=some (.agg cs.toArray)) (hs:sizeT P T=some n) (I:n=cs.length) (A:S.own b=some r) (U:r.cells.length=cs.length) (h1:cs.all (·.oneCell')=true) (h:ARun P N ops os K E (S.set b ⟨r.elem,cs,r.room⟩)):ARun P N ops (⟨none,.store T x y,ty,pos,aft,none⟩ :: os) K E S:=v8 J V (I ▸ hs) A U h1 h
section
variable {l:List Oper} {W:List Nat} {S0:Mem} {K':Env->Mem->Prop} {i:Nat} {is:List (Nat × Bool)} {o:Oper}
theorem dP' (A:l[i]?=some o) (I:o.guard=none) (U:pureOp o=true) (hd:o.dst=some d) (J:d<N) (hc:∀ S',Cl P N o E S' w) (h:DrawRun P N l W S0 is K' ((d,w) :: E) S):DrawRun P N l W S0 ((i,true) :: is) K' E S:=dP A U I hd J (λS'=>(hc S').h) h
theorem dC' (A:l[i]?=some o) (V:o.guard=none) (I:pureOp o=false) (hd:o.dst=some d) (J:d<N) (U:S0.Less S) (hc:Cl P N o E S0 w) (h:DrawRun P N l W S0 is K' ((d,w) :: E) S):DrawRun P N l W S0 ((i,true) :: is) K' E S:=dC A I V hd J U hc.h h
theorem dS' (J:l[i]?=some o) (hg:o.guard=some (j,t)) (hj:(l.toArray[j]?).bind (·.dst)=some dj) (U:lk E dj=some (.bool u)) (I:(u == t)=false) (A:dj<N) (hd:o.dst=some d) (V:d<N) (hl:S0.Less S) (h:DrawRun P N l W S0 is K' ((d,undef) :: E) S):DrawRun P N l W S0 ((i,true) :: is) K' E S:=dS h J hg hj A U I hd V hl
theorem dG' (I:l[i]?=some o) (hg:o.guard=some (j,t)) (V:(l.toArray[j]?).bind (·.dst)=some dj) (J:lk E dj=some (.bool t)) (hp:pureOp o=true) (A:dj<N) (hd:o.dst=some d) (U:d<N) (hl:S0.Less S) (hc:∀ S',Cl P N o E S' w) (h:DrawRun P N l W S0 is K' ((d,w) :: E) S):DrawRun P N l W S0 ((i,true) :: is) K' E S:=dG I hg V A J hd U hl (λS'=>(hc S').h) h
theorem dL' (I:l[i]?=some o) (hg:o.guard=some (j,t)) (hj:(l.toArray[j]?).bind (·.dst)=some dj) (J:lk E dj=some (.bool t)) (U:pureOp o=false) (A:dj<N) (hd:o.dst=some d) (V:d<N) (hl:S0.Less S) (hc:Cl P N o E S0 w) (h:DrawRun P N l W S0 is K' ((d,w) :: E) S):DrawRun P N l W S0 ((i,true) :: is) K' E S:=dL I U hg hj A J hd V hl hc.h h
end
theorem s1_ {q p:Prop} (k:q) (h:Kp q->p:=by
  intro I
  first
  | ((with_reducible apply rC');exact cl_;exact zab rfl)
  | ((with_reducible apply dP');exact rfl;exact rfl;exact rfl;exact rfl;exact zab rfl;intro A;exact cl_)
  | ((with_reducible apply dC');exact rfl;exact rfl;exact rfl;exact rfl;exact zab rfl;exact zae;exact cl_)
  | (with_reducible apply zau)
  | (with_reducible apply AWP.seq)
  | (with_reducible apply AWP.region)
  | (with_reducible apply zad)
  | (with_reducible apply zcQ)
  | ((with_reducible apply rS');exact rfl;exact rfl;exact rfl;exact zab rfl;exact zab rfl)
  | ((with_reducible apply rU');exact rfl;exact rfl;exact zab rfl;exact zab rfl)
  | ((with_reducible apply rG');exact rfl;exact rfl;exact cl_;exact zab rfl;exact zab rfl)
  | ((with_reducible apply dS');exact rfl;exact rfl;exact rfl;exact rfl;exact rfl;exact zab rfl;exact rfl;exact zab rfl;exact zae)
  | ((with_reducible apply dU');exact rfl;exact rfl;exact rfl;exact rfl;exact zab rfl;exact rfl;exact zab rfl;exact zae)
  | ((with_reducible apply dG');exact rfl;exact rfl;exact rfl;exact rfl;exact rfl;exact zab rfl;exact rfl;exact zab rfl;exact zae;intro A;exact cl_)
  | ((with_reducible apply dL');exact rfl;exact rfl;exact rfl;exact rfl;exact rfl;exact zab rfl;exact rfl;exact zab rfl;exact zae;exact cl_)
  | (with_reducible apply AWP.block)
  | (with_reducible apply zhg)
  | (with_reducible apply zhh)
  | ((with_reducible apply zm4);exact rfl)
  | (with_reducible apply zm3)
  | (with_reducible apply zm2)
  | (with_reducible apply zcy)
  | (with_reducible apply AWP.skip)
  | (with_reducible apply AWP.ret)
  | (with_reducible apply AWP.exit)
  | (with_reducible apply zp2)
  | (with_reducible apply join_exit)
  | ((with_reducible apply rW1);exact rfl;exact rfl;exact TSize.h;exact rfl;exact own_;exact zdC;exact rfl;try simp only [Mem.set_set,List.set_cons_zero,List.set_cons_succ,Nat.zero_add,Nat.reduceAdd])
  | ((with_reducible apply rWA);exact TAgg.h;exact rfl;exact rfl;exact TSize.h;exact rfl;exact own_;exact rfl;exact rfl;try simp only [Mem.set_set,List.set_cons_zero,List.set_cons_succ,Nat.zero_add,Nat.reduceAdd])
  | ((with_reducible apply rWP);exact TAgg.h;exact rfl;exact rfl;exact TSize.h;exact rfl;exact own_;exact zdC;exact rfl;try simp only [Mem.set_set,List.set_cons_zero,List.set_cons_succ,Nat.zero_add,Nat.reduceAdd])
  | ((with_reducible apply rN);exact rfl;first | ((with_reducible apply rC');exact cl_;exact zab rfl) | ((with_reducible apply rS');exact rfl;exact rfl;exact rfl;exact zab rfl;exact zab rfl) | ((with_reducible apply rU');exact rfl;exact rfl;exact zab rfl;exact zab rfl) | ((with_reducible apply rG');exact rfl;exact rfl;exact cl_;exact zab rfl;exact zab rfl) | ((with_reducible apply rW1);exact rfl;exact rfl;exact TSize.h;exact rfl;exact own_;exact zdC;exact rfl;try simp only [Mem.set_set,List.set_cons_zero,List.set_cons_succ,Nat.zero_add,Nat.reduceAdd]) | ((with_reducible apply rWA);exact TAgg.h;exact rfl;exact rfl;exact TSize.h;exact rfl;exact own_;exact rfl;exact rfl;try simp only [Mem.set_set,List.set_cons_zero,List.set_cons_succ,Nat.zero_add,Nat.reduceAdd]) | ((with_reducible apply rWP);exact TAgg.h;exact rfl;exact rfl;exact TSize.h;exact rfl;exact own_;exact zdC;exact rfl;try simp only [Mem.set_set,List.set_cons_zero,List.set_cons_succ,Nat.zero_add,Nat.reduceAdd]))
  exact I.k):p:=h ⟨k⟩
theorem nl_ {q p:Prop} (k:q) (h:Kp q->p:=by
  intro A
  try simp only [List.length_cons,List.length_nil,Nat.zero_add,Nat.reduceAdd]
  exact A.k):p:=h ⟨k⟩
variable {Q:Exit->Env->Mem->Prop} {c:tw} {X Y:Code} {f:tA} {xs:List tw} {ats:Array tx} {vs:List tu} {R:tu->Mem->Prop}
theorem cT_ (h:AWP P N X Q E S) (hc:ev E c=some (.bool t):=by exact rfl) (A:t=true:=by first | rfl | (simp;done) | (simp;omega)):AWP P N (.cond c X Y) Q E S:=AWP.condT hc A h
theorem cF_ (h:AWP P N Y Q E S) (hc:ev E c=some (.bool t):=by exact rfl) (A:t=false:=by first | rfl | (simp;done) | (simp;omega)):AWP P N (.cond c X Y) Q E S:=AWP.condF hc A h
theorem su_ (E':Env) (h:AWP P N X Q E' S) (hs:Sub E' E:=by repeat first | refine ⟨rfl,?_⟩ | exact trivial):AWP P N X Q E S:=AWP.sub E' hs h
theorem ca_ (A:evs E xs=some vs) (hc:ACall P f vs.toArray S R) (h:∀ v S',R v S'->ARun P N ops os K ((d,v) :: E) S') (J:d<N:=by exact zab rfl) (I:goFn P f=true:=by exact TGo.h):ARun P N ops (⟨some d,.call ⟨.value (.func f),xs.toArray,ats⟩,ty,pos,aft,none⟩ :: os) K E S:=ARun.call J I A hc h
end
end Mv
open Go.RowKit
namespace Mv
section
variable {P:tz} {N:Nat} {ops:Array Oper} {E:Env} {S:Mem} {K:Env->Mem->Prop} {os:List Oper}
variable {d:Nat} {op:Op} {ty:tx} {pos:String} {aft:Array Edge} {v:tu} {j:Nat} {t u:Bool}
variable {x y c:tw} {l:List Oper} {C:Code} {Q:Exit->Env->Mem->Prop} {next:Env->Mem->Prop}
theorem cp_ {A : tu} {f : tA} {xs : List tw} {ats : Array tx} {vs : List tu} (J : evs E xs = some vs) (hc : ACall P f vs.toArray S λr S' => r = A ∧ S' = S) (h : ARun P N ops os K ((d, A) :: E) S) (I : d < N := by exact zab rfl) (V : goFn P f = true := by exact TGo.h) : ARun P N ops (⟨some d, .call ⟨.value (.func f), xs.toArray, ats⟩, ty, pos, aft, none⟩ :: os) K E S := ARun.call I V J hc λv S' U => by obtain ⟨rfl, rfl⟩ := U; exact h
theorem nz_ {a L : Prop} [Decidable a] (h : ¬ a := by decide) : a → L := λx => absurd x h
theorem ny_ {a L : Prop} (h : L := by exact zae) : a → L := λ_ => h
theorem dr_ {id : Nat} {l : List Oper} {Q : Exit → Env → Mem → Prop} (st : List (Nat × Bool)) (W : List Nat) (h : DrawRun P N l W S st (Q .normal) E S) (I : P.follows .mixedOrders = true := by exact TMix.h) (A : drawOK l st W = true := by kernel_rfl) : AWP P N (.region id l.toArray true) Q E S := AWP.draw st W I A h
abbrev i0_ : Nat × Bool := (0, true)
abbrev i1_ : Nat × Bool := (1, true)
abbrev o1_ : Nat × Bool := (1, false)
abbrev i2_ : Nat × Bool := (2, true)
abbrev o2_ : Nat × Bool := (2, false)
abbrev i3_ : Nat × Bool := (3, true)
abbrev o3_ : Nat × Bool := (3, false)
abbrev i4_ : Nat × Bool := (4, true)
abbrev o4_ : Nat × Bool := (4, false)
abbrev i5_ : Nat × Bool := (5, true)
abbrev o5_ : Nat × Bool := (5, false)
abbrev i6_ : Nat × Bool := (6, true)
abbrev o6_ : Nat × Bool := (6, false)
abbrev i7_ : Nat × Bool := (7, true)
abbrev o7_ : Nat × Bool := (7, false)
abbrev i8_ : Nat × Bool := (8, true)
abbrev o8_ : Nat × Bool := (8, false)
abbrev i9_ : Nat × Bool := (9, true)
abbrev o9_ : Nat × Bool := (9, false)
abbrev i10_ : Nat × Bool := (10, true)
abbrev o10_ : Nat × Bool := (10, false)
abbrev i11_ : Nat × Bool := (11, true)
abbrev o11_ : Nat × Bool := (11, false)
abbrev i12_ : Nat × Bool := (12, true)
abbrev o12_ : Nat × Bool := (12, false)
abbrev i13_ : Nat × Bool := (13, true)
abbrev o13_ : Nat × Bool := (13, false)
abbrev i14_ : Nat × Bool := (14, true)
abbrev o14_ : Nat × Bool := (14, false)
abbrev i15_ : Nat × Bool := (15, true)
abbrev o15_ : Nat × Bool := (15, false)
abbrev i16_ : Nat × Bool := (16, true)
abbrev o16_ : Nat × Bool := (16, false)
abbrev i17_ : Nat × Bool := (17, true)
abbrev o17_ : Nat × Bool := (17, false)
abbrev i18_ : Nat × Bool := (18, true)
abbrev o18_ : Nat × Bool := (18, false)
abbrev i19_ : Nat × Bool := (19, true)
abbrev o19_ : Nat × Bool := (19, false)
abbrev i20_ : Nat × Bool := (20, true)
abbrev o20_ : Nat × Bool := (20, false)
abbrev i21_ : Nat × Bool := (21, true)
abbrev o21_ : Nat × Bool := (21, false)
abbrev i22_ : Nat × Bool := (22, true)
abbrev o22_ : Nat × Bool := (22, false)
abbrev i23_ : Nat × Bool := (23, true)
abbrev o23_ : Nat × Bool := (23, false)
abbrev i24_ : Nat × Bool := (24, true)
abbrev o24_ : Nat × Bool := (24, false)
abbrev i25_ : Nat × Bool := (25, true)
abbrev o25_ : Nat × Bool := (25, false)
abbrev i26_ : Nat × Bool := (26, true)
abbrev o26_ : Nat × Bool := (26, false)
abbrev i27_ : Nat × Bool := (27, true)
abbrev o27_ : Nat × Bool := (27, false)
abbrev i28_ : Nat × Bool := (28, true)
abbrev i29_ : Nat × Bool := (29, true)
abbrev i30_ : Nat × Bool := (30, true)
abbrev o30_ : Nat × Bool := (30, false)
abbrev i31_ : Nat × Bool := (31, true)
abbrev i32_ : Nat × Bool := (32, true)
abbrev i33_ : Nat × Bool := (33, true)
abbrev i34_ : Nat × Bool := (34, true)
abbrev i35_ : Nat × Bool := (35, true)
abbrev i36_ : Nat × Bool := (36, true)
abbrev i37_ : Nat × Bool := (37, true)
abbrev i38_ : Nat × Bool := (38, true)
abbrev o38_ : Nat × Bool := (38, false)
abbrev i39_ : Nat × Bool := (39, true)
abbrev o39_ : Nat × Bool := (39, false)
abbrev o40_ : Nat × Bool := (40, false)
abbrev i41_ : Nat × Bool := (41, true)
abbrev o41_ : Nat × Bool := (41, false)
abbrev i42_ : Nat × Bool := (42, true)
inductive Pk_ (E : Env) : List Nat → Env → Prop
  | nil : Pk_ E [] []
  | cons {i : Nat} {v : tu} {is : List Nat} {G : Env} (h : lk E i = some v) (t : Pk_ E is G) : Pk_ E (i :: is) ((i, v) :: G)
theorem pk_ {E F : Env} {is : List Nat} (h : Pk_ E is F) : Sub F E := by
  induction h with
  | nil => exact trivial
  | cons h _ t => exact ⟨h, t⟩
theorem kw_ (is : List Nat) {E' : Env} (h : AWP P N C Q E' S) (hs : Pk_ E is E' := by repeat first | exact .nil | (apply Pk_.cons; exact rfl)) : AWP P N C Q E S := AWP.sub E' (pk_ hs) h
theorem k_a {id:Nat} (h:ARun P N l.toArray l (Athen (AWP P N C Q) Q .normal) E S):AWP P N (.seq (.region id l.toArray false) C) Q E S:=AWP.seq (AWP.region h)
theorem k_n (h:next E S):ARun P N ops [] (Athen next Q .normal) E S:=zad (zau h)
theorem k_m (A:ev E x=some v) (h:ARun P N ops os K ((d,v) :: E) S) (I:d<N:=by exact zab rfl):ARun P N ops (⟨some d,.move x,ty,pos,aft,none⟩ :: os) K E S:=rC (Calm.move A) h I
theorem k_s (A:ev E x=some v) (h:ARun P N ops os K ((d,v) :: E) S) (I:d<N:=by exact zab rfl):ARun P N ops (⟨some d,.assign x,ty,pos,aft,none⟩ :: os) K E S:=rC (Calm.assign A) h I
theorem k_e (A:ev E x=some v) (h:next ((d,v) :: E) S) (I:d<N:=by exact zab rfl):ARun P N ops [⟨some d,.assign x,ty,pos,aft,none⟩] (Athen next Q .normal) E S:=rC (Calm.assign A) h I
theorem k_t (hc:ev E c=some (.bool true)) (A:ev E x=some v) (h:ARun P N ops os K ((d,v) :: E) S) (I:d<N:=by exact zab rfl):ARun P N ops (⟨some d,.pick c x y,ty,pos,aft,none⟩ :: os) K E S:=rC (uf hc A) h I
theorem k_f (hc:ev E c=some (.bool false)) (A:ev E y=some v) (h:ARun P N ops os K ((d,v) :: E) S) (I:d<N:=by exact zab rfl):ARun P N ops (⟨some d,.pick c x y,ty,pos,aft,none⟩ :: os) K E S:=rC (ug hc A) h I
theorem k_T {X Y:Code} (hc:ev E c=some (.bool t)) (h:AWP P N X Q E S) (A:t=true:=by first | rfl | (simp;done) | (simp;omega)):AWP P N (.cond c X Y) Q E S:=AWP.condT hc A h
theorem k_F {X Y:Code} (hc:ev E c=some (.bool t)) (h:AWP P N Y Q E S) (A:t=false:=by first | rfl | (simp;done) | (simp;omega)):AWP P N (.cond c X Y) Q E S:=AWP.condF hc A h
theorem k_u (E':Env) (h:AWP P N C Q E' S) (hs:Sub E' E:=by repeat first | refine ⟨rfl,?_⟩ | exact trivial):AWP P N C Q E S:=AWP.sub E' hs h
def zsq (t:Bool) (w:tu):Prop:=(∃ u,w = .bool u/\(u == t)=false)\/w=undef
theorem k_q (dj:Nat) (h:ARun P N ops os K ((d,undef) :: E) S) {w:tu} (J:lk E dj=some w:=by exact rfl) (hw:zsq t w:=by first | exact .inl ⟨_,rfl,rfl⟩ | exact .inr rfl) (V:(ops[j]?).bind (·.dst)=some dj:=by exact rfl) (A:dj<N:=by exact zab rfl) (U:d<N:=by exact zab rfl):ARun P N ops (⟨some d,op,ty,pos,aft,some (j,t)⟩ :: os) K E S:=by
  rcases hw with ⟨u,rfl,I⟩ | rfl
  · exact rS dj h J I V A U
  exact rU dj h J V A U
theorem k_b7 {T:tx} {I J a3 U A a6 V:tu} (hx:ev E x=some (.agg [I,J,a3,U,A,a6,V].toArray)) (h:∀ b,Fresh S b->ARun P N ops os K ((d,.pointer (some ⟨b,0,none⟩)) :: E) (S.set b ⟨T,[I,J,a3,U,A,a6,V],([I,J,a3,U,A,a6,V] : List tu).length⟩)) (hn:d<N:=by exact zab rfl):ARun P N ops (⟨some d,.box T x,ty,pos,aft,none⟩ :: os) K E S:=vD (cs:=[I,J,a3,U,A,a6,V]) hn hx h
theorem k_b5 {T:tx} {I J V U A:tu} (hx:ev E x=some (.agg [I,J,V,U,A].toArray)) (h:∀ b,Fresh S b->ARun P N ops os K ((d,.pointer (some ⟨b,0,none⟩)) :: E) (S.set b ⟨T,[I,J,V,U,A],([I,J,V,U,A] : List tu).length⟩)) (hn:d<N:=by exact zab rfl):ARun P N ops (⟨some d,.box T x,ty,pos,aft,none⟩ :: os) K E S:=vD (cs:=[I,J,V,U,A]) hn hx h
theorem k_A {T:tx} {b:Nat} {r:Blk} {cs:List tu} (I:ev E x=some (.pointer (some ⟨b,0,none⟩))) (U:ev E y=some (.agg cs.toArray)) (hs:sizeT P T=some cs.length) (h:ARun P N ops os K E (S.set b ⟨r.elem,cs,r.room⟩)) (A:S.own b=some r:=by exact own_) (J:r.cells.length=cs.length:=by exact rfl) (V:cs.all (·.oneCell')=true:=by exact rfl):ARun P N ops (⟨none,.store T x y,ty,pos,aft,none⟩ :: os) K E S:=v8 I U hs A J V h
theorem k_B {T:tx} {b o:Nat} {r:Blk} {v:tu} (I:ev E x=some (.pointer (some ⟨b,o,none⟩))) (U:ev E y=some v) (hs:sizeT P T=some v.cells.size) (h:ARun P N ops os K E (S.set b ⟨r.elem,spl r.cells o v.cells.toList,r.room⟩)) (A:S.own b=some r:=by exact own_) (J:o+v.cells.size<=r.cells.length:=by exact zdC) (V:v.cells.all (·.oneCell')=true:=by exact rfl):ARun P N ops (⟨none,.store T x y,ty,pos,aft,none⟩ :: os) K E S:=ARun.store I U hs A J V h
theorem k_l1 {α : Type _} (a : α) (l:List α):(a :: l).length=l.length+1:=rfl
theorem k_l0 {α : Type _}:([] : List α).length=0:=rfl
theorem k_za (n:Nat):0+n=n:=Nat.zero_add n
theorem k_sz {α : Type _} (a b : α) (l:List α):(a :: l).set 0 b=b :: l:=rfl
theorem k_ss {α : Type _} (a b : α) (l:List α) (n:Nat):(a :: l).set (n+1) b=a :: l.set n b:=rfl
theorem k_ms (S:Mem) (b:Nat) (r r':Blk):(S.set b r).set b r'=S.set b r':=Mem.set_set S b r r'
theorem k_d {l:List Oper} {W:List Nat} {S0:Mem} {K':Env->Mem->Prop} {i:Nat} {is:List (Nat × Bool)} {o:Oper} {dj:Nat} {w:tu} (h:DrawRun P N l W S0 is K' ((d,undef) :: E) S) (U:l[i]?=some o:=by exact rfl) (hg:o.guard=some (j,t):=by exact rfl) (hj:(l.toArray[j]?).bind (·.dst)=some dj:=by exact rfl) (A:dj<N:=by exact zab rfl) (J:lk E dj=some w:=by exact rfl) (hw:zsq t w:=by first | exact .inl ⟨_,rfl,rfl⟩ | exact .inr rfl) (hd:o.dst=some d:=by exact rfl) (V:d<N:=by exact zab rfl) (hl:S0.Less S:=by exact zae):DrawRun P N l W S0 ((i,true) :: is) K' E S:=by
  rcases hw with ⟨u,rfl,I⟩ | rfl
  · exact dS h U hg hj A J I hd V hl
  exact dU h U hg hj A J hd V hl
theorem k_E1 {f:tA} {fn:Func} {c:Code} {rs:List ResultVar} {R:tu->Mem->Prop} {A:tu} (n:Nat) (hf:P.funcs[f]?=some fn) (h:AWP P n c (Aret P rs R) [(0,A)] S) (I:fn.body=some c:=by exact rfl) (J:fn.ntmps=n:=by exact rfl) (U:fn.results=rs.toArray:=by exact rfl) (V:1<=n:=by exact Nat.le_of_ble_eq_true rfl):ACall P f #[A] S R:=ACall.enter (args:=[A]) n [(0,A)] hf I J V U ⟨rfl,trivial⟩ h
theorem k_E2 {f:tA} {fn:Func} {c:Code} {rs:List ResultVar} {R:tu->Mem->Prop} {I A:tu} (n:Nat) (hf:P.funcs[f]?=some fn) (h:AWP P n c (Aret P rs R) [(0,I),(1,A)] S) (J:fn.body=some c:=by exact rfl) (U:fn.ntmps=n:=by exact rfl) (V:fn.results=rs.toArray:=by exact rfl) (hl:2<=n:=by exact Nat.le_of_ble_eq_true rfl):ACall P f #[I,A] S R:=ACall.enter (args:=[I,A]) n [(0,I),(1,A)] hf J U hl V ⟨rfl,rfl,trivial⟩ h
theorem k_E3 {f:tA} {fn:Func} {c:Code} {rs:List ResultVar} {R:tu->Mem->Prop} {J A I:tu} (n:Nat) (hf:P.funcs[f]?=some fn) (h:AWP P n c (Aret P rs R) [(0,J),(1,A),(2,I)] S) (U:fn.body=some c:=by exact rfl) (V:fn.ntmps=n:=by exact rfl) (hr:fn.results=rs.toArray:=by exact rfl) (hl:3<=n:=by exact Nat.le_of_ble_eq_true rfl):ACall P f #[J,A,I] S R:=ACall.enter (args:=[J,A,I]) n [(0,J),(1,A),(2,I)] hf U V hl hr ⟨rfl,rfl,rfl,trivial⟩ h
theorem k_E4 {f:tA} {fn:Func} {c:Code} {rs:List ResultVar} {R:tu->Mem->Prop} {J A I U:tu} (n:Nat) (hf:P.funcs[f]?=some fn) (h:AWP P n c (Aret P rs R) [(0,J),(1,A),(2,I),(3,U)] S) (V:fn.body=some c:=by exact rfl) (hn:fn.ntmps=n:=by exact rfl) (hr:fn.results=rs.toArray:=by exact rfl) (hl:4<=n:=by exact Nat.le_of_ble_eq_true rfl):ACall P f #[J,A,I,U] S R:=ACall.enter (args:=[J,A,I,U]) n [(0,J),(1,A),(2,I),(3,U)] hf V hn hl hr ⟨rfl,rfl,rfl,rfl,trivial⟩ h
theorem k_E5 {f:tA} {fn:Func} {c:Code} {rs:List ResultVar} {R:tu->Mem->Prop} {U A I V J:tu} (n:Nat) (hf:P.funcs[f]?=some fn) (h:AWP P n c (Aret P rs R) [(0,U),(1,A),(2,I),(3,V),(4,J)] S) (hb:fn.body=some c:=by exact rfl) (hn:fn.ntmps=n:=by exact rfl) (hr:fn.results=rs.toArray:=by exact rfl) (hl:5<=n:=by exact Nat.le_of_ble_eq_true rfl):ACall P f #[U,A,I,V,J] S R:=ACall.enter (args:=[U,A,I,V,J]) n [(0,U),(1,A),(2,I),(3,V),(4,J)] hf hb hn hl hr ⟨rfl,rfl,rfl,rfl,rfl,trivial⟩ h
structure Wr_ (q:Prop):Prop where
  out:q
theorem r2_ {p q:Prop} (h:q) (f:Wr_ q->p:=by intro h;(iterate 2 refine s1_ ?_);exact h.out):p:=f ⟨h⟩
theorem r3_ {p q:Prop} (h:q) (f:Wr_ q->p:=by intro h;(iterate 3 refine s1_ ?_);exact h.out):p:=f ⟨h⟩
theorem r4_ {p q:Prop} (h:q) (f:Wr_ q->p:=by intro h;(iterate 4 refine s1_ ?_);exact h.out):p:=f ⟨h⟩
theorem r5_ {p q:Prop} (h:q) (f:Wr_ q->p:=by intro h;(iterate 5 refine s1_ ?_);exact h.out):p:=f ⟨h⟩
theorem r6_ {p q:Prop} (h:q) (f:Wr_ q->p:=by intro h;(iterate 6 refine s1_ ?_);exact h.out):p:=f ⟨h⟩
theorem r7_ {p q:Prop} (h:q) (f:Wr_ q->p:=by intro h;(iterate 7 refine s1_ ?_);exact h.out):p:=f ⟨h⟩
theorem r8_ {p q:Prop} (h:q) (f:Wr_ q->p:=by intro h;(iterate 8 refine s1_ ?_);exact h.out):p:=f ⟨h⟩
theorem r9_ {p q:Prop} (h:q) (f:Wr_ q->p:=by intro h;(iterate 9 refine s1_ ?_);exact h.out):p:=f ⟨h⟩
theorem r10_ {p q:Prop} (h:q) (f:Wr_ q->p:=by intro h;(iterate 10 refine s1_ ?_);exact h.out):p:=f ⟨h⟩
theorem r11_ {p q:Prop} (h:q) (f:Wr_ q->p:=by intro h;(iterate 11 refine s1_ ?_);exact h.out):p:=f ⟨h⟩
theorem r12_ {p q:Prop} (h:q) (f:Wr_ q->p:=by intro h;(iterate 12 refine s1_ ?_);exact h.out):p:=f ⟨h⟩
theorem r13_ {p q:Prop} (h:q) (f:Wr_ q->p:=by intro h;(iterate 13 refine s1_ ?_);exact h.out):p:=f ⟨h⟩
theorem r14_ {p q:Prop} (h:q) (f:Wr_ q->p:=by intro h;(iterate 14 refine s1_ ?_);exact h.out):p:=f ⟨h⟩
theorem r15_ {p q:Prop} (h:q) (f:Wr_ q->p:=by intro h;(iterate 15 refine s1_ ?_);exact h.out):p:=f ⟨h⟩
theorem r16_ {p q:Prop} (h:q) (f:Wr_ q->p:=by intro h;(iterate 16 refine s1_ ?_);exact h.out):p:=f ⟨h⟩
theorem r17_ {p q:Prop} (h:q) (f:Wr_ q->p:=by intro h;(iterate 17 refine s1_ ?_);exact h.out):p:=f ⟨h⟩
theorem r18_ {p q:Prop} (h:q) (f:Wr_ q->p:=by intro h;(iterate 18 refine s1_ ?_);exact h.out):p:=f ⟨h⟩
theorem r19_ {p q:Prop} (h:q) (f:Wr_ q->p:=by intro h;(iterate 19 refine s1_ ?_);exact h.out):p:=f ⟨h⟩
theorem r20_ {p q:Prop} (h:q) (f:Wr_ q->p:=by intro h;(iterate 20 refine s1_ ?_);exact h.out):p:=f ⟨h⟩
theorem r21_ {p q:Prop} (h:q) (f:Wr_ q->p:=by intro h;(iterate 21 refine s1_ ?_);exact h.out):p:=f ⟨h⟩
theorem r22_ {p q:Prop} (h:q) (f:Wr_ q->p:=by intro h;(iterate 22 refine s1_ ?_);exact h.out):p:=f ⟨h⟩
theorem r23_ {p q:Prop} (h:q) (f:Wr_ q->p:=by intro h;(iterate 23 refine s1_ ?_);exact h.out):p:=f ⟨h⟩
theorem r24_ {p q:Prop} (h:q) (f:Wr_ q->p:=by intro h;(iterate 24 refine s1_ ?_);exact h.out):p:=f ⟨h⟩
theorem r25_ {p q:Prop} (h:q) (f:Wr_ q->p:=by intro h;(iterate 25 refine s1_ ?_);exact h.out):p:=f ⟨h⟩
theorem r26_ {p q:Prop} (h:q) (f:Wr_ q->p:=by intro h;(iterate 26 refine s1_ ?_);exact h.out):p:=f ⟨h⟩
theorem r27_ {p q:Prop} (h:q) (f:Wr_ q->p:=by intro h;(iterate 27 refine s1_ ?_);exact h.out):p:=f ⟨h⟩
theorem r28_ {p q:Prop} (h:q) (f:Wr_ q->p:=by intro h;(iterate 28 refine s1_ ?_);exact h.out):p:=f ⟨h⟩
theorem r29_ {p q:Prop} (h:q) (f:Wr_ q->p:=by intro h;(iterate 29 refine s1_ ?_);exact h.out):p:=f ⟨h⟩
theorem r30_ {p q:Prop} (h:q) (f:Wr_ q->p:=by intro h;(iterate 30 refine s1_ ?_);exact h.out):p:=f ⟨h⟩
theorem r31_ {p q:Prop} (h:q) (f:Wr_ q->p:=by intro h;(iterate 31 refine s1_ ?_);exact h.out):p:=f ⟨h⟩
theorem r32_ {p q:Prop} (h:q) (f:Wr_ q->p:=by intro h;(iterate 32 refine s1_ ?_);exact h.out):p:=f ⟨h⟩
theorem r35_ {p q:Prop} (h:q) (f:Wr_ q->p:=by intro h;(iterate 35 refine s1_ ?_);exact h.out):p:=f ⟨h⟩
theorem r38_ {p q:Prop} (h:q) (f:Wr_ q->p:=by intro h;(iterate 38 refine s1_ ?_);exact h.out):p:=f ⟨h⟩
theorem r39_ {p q:Prop} (h:q) (f:Wr_ q->p:=by intro h;(iterate 39 refine s1_ ?_);exact h.out):p:=f ⟨h⟩
theorem k_k (h:next E S):AWP P N .skip (Athen next Q) E S:=AWP.skip h
theorem k_r (h:Q .ret E S):AWP P N .ret (Athen next Q) E S:=AWP.ret h
end
end Mv
end
end Go.Proofs.YtopiogkolaelnaaGreatDoor
