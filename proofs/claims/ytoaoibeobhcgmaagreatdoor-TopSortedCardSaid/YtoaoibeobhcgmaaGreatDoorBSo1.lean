/-
  Texts that belong together: Mem.
-/
import Derived.Test.YtoaoibeobhcgmaaGreatDoorBase
import Derived.Orders
import Derived.BigCall
import Derived.Laws.MakeOwn
import Derived.OrdersHeld
import Derived.Deep.Slices
import Derived.ChangeSlices
import Derived.Lib.LazyBuf
import Derived.SizedLaws
import Derived.WideShapes
set_option linter.unusedVariables false
set_option linter.unusedSimpArgs false
set_option linter.unusedSectionVars false
namespace Go.Proofs.YtoaoibeobhcgmaaGreatDoor
section
open Go.RowKit
namespace Mv

/-! ### Memory that is known -/
structure Blk where
  elem:TypeId
  cells:List Value
  room:Nat
structure RO where
  c:Addr→Option Value
  z:Nat→Option (List UInt8)
instance : CoeFun RO fun _ => Addr → Option Value := ⟨RO.c⟩
structure Mem where
  own:Nat→Option Blk
  ro:RO
def Mem.set (S:Mem) (b:Nat) (r:Blk):Mem:=⟨fun k=>if k=b then some r else S.own k,S.ro⟩
def Mem.del (S:Mem) (b:Nat):Mem:=⟨fun k=>if k=b then none else S.own k,S.ro⟩
theorem Mem.own_set_same (S:Mem) (b:Nat) (r:Blk):(S.set b r).own b=some r:=by simp [Mem.set]
theorem Mem.own_set_other (S:Mem) {b k:Nat} (r:Blk) (h:k≠b):(S.set b r).own k=S.own k:=by simp [Mem.set,h]
theorem Mem.own_del_other (S:Mem) {b k:Nat} (h:k≠b):(S.del b).own k=S.own k:=by simp [Mem.del,h]
theorem Mem.set_set (S:Mem) (b:Nat) (r r':Blk):(S.set b r).set b r'=S.set b r':=by
  unfold Mem.set;congr 1;funext k;by_cases h:k=b <;> simp [h]
theorem Mem.del_set (S:Mem) (b:Nat) (r:Blk) (h:S.own b=none):(S.set b r).del b=S:=by
  cases S;unfold Mem.set Mem.del;congr 1;funext k;by_cases e:k=b
  · subst e;simpa using h.symm
  · simp [e]
theorem Mem.set_comm (S:Mem) {b c:Nat} (r r':Blk) (h:b≠c):(S.set b r).set c r'=(S.set c r').set b r:=by
  unfold Mem.set;congr 1;funext k;by_cases h1:k=b <;> by_cases h2:k=c <;> simp_all
theorem Mem.set_same (S:Mem) (b:Nat) (r:Blk) (h:S.own b=some r):S.set b r=S:=by
  cases S;unfold Mem.set;congr 1;funext k;by_cases e:k=b
  · subst e;simpa using h.symm
  · simp [e]
def Mem.rd (S:Mem) (a:Addr):Option Value :=
  match S.own a.block with
  | some r=>if a.spot.isSome then none else r.cells[a.off]?
  | none=>S.ro a

def FzAt (w:World) (g:Nat) (l:List UInt8):Prop:=∃ cur hi,w.heap[g]?=some (.cells cur 5 (0,hi))∧l.length≤hi∧(l.map fun c=>Value.int .u8 (c.toNat:Int)) <+: cur.toList
theorem FzAt.lt {w:World} {g:Nat} {l:List UInt8} (h:FzAt w g l):g<w.heap.size:=by
  obtain ⟨cur,hi,h1,_⟩:=h
  exact (Array.getElem?_eq_some_iff.1 h1).1
theorem FzAt.of_block {w w':World} {g:Nat} {l:List UInt8} (h:FzAt w g l) (e:w'.heap[g]?=w.heap[g]?):FzAt w' g l:=by
  obtain ⟨cur,hi,h1,h2⟩:=h
  exact ⟨cur,hi,e.trans h1,h2⟩
structure View (S:Mem) (w:World):Prop where
  own:∀ b r,S.own b=some r → ∃ cur fz,w.heap[b]?=some (.cells cur r.elem fz)∧r.cells <+: cur.toList∧r.room≤cur.size∧(∀ j,j<cur.size∨(j=cur.size∧r.elem≠5) → ¬ (fz.1≤j∧j<fz.2))
  ro:∀ a v,S.ro a=some v→w.cell? a=some v∧S.own a.block=none
  fz:∀ g l,S.ro.z g=some l→S.own g=none∧(∃ v,S.ro ⟨g,0,none⟩=some v)∧FzAt w g l

theorem View.lt {S:Mem} {w:World} (h:View S w) {b:Nat} {r:Blk} (hb:S.own b=some r):b<w.heap.size:=by
  obtain ⟨cur,fz,h1,_⟩:=h.own b r hb
  exact (Array.getElem?_eq_some_iff.1 h1).1
theorem View.fzOf {S S':Mem} {w w':World} (h:View S w) (hro:S'.ro=S.ro) (ho:∀ k,S.own k=none→k<w.heap.size→S'.own k=none) (hb:∀ k,k<w.heap.size→S.own k=none→w'.heap[k]?=w.heap[k]?) :
    ∀ g l,S'.ro.z g=some l→S'.own g=none∧(∃ v,S'.ro ⟨g,0,none⟩=some v)∧FzAt w' g l:=fun g l hg=>by
  rw [hro] at hg ⊢
  obtain ⟨h1,h2,h3⟩:=h.fz g l hg
  exact ⟨ho g h1 h3.lt,h2,h3.of_block (hb g h3.lt h1)⟩
theorem zdZ {S:Mem} {b k n:Nat} {r:Blk} (hb:n≤b) (h:S.own k=none) (hk:k<n):(S.set b r).own k=none:=by
  rw [Mem.own_set_other _ _ (by omega)];exact h
theorem View.fresh {S:Mem} {w:World} (h:View S w):S.own w.heap.size=none:=by
  cases e:S.own w.heap.size with
  | none=>rfl
  | some r=>exact absurd (h.lt e) (Nat.lt_irrefl _)
theorem zbU {α : Type} {l m:List α} (h:l <+: m) {j:Nat} {v : α} (hj:l[j]?=some v):m[j]?=some v:=by
  obtain ⟨t,rfl⟩:=h
  have:j<l.length:=by
    rcases Nat.lt_or_ge j l.length with h | h
    · exact h
    · rw [List.getElem?_eq_none h] at hj;cases hj
  rw [List.getElem?_append_left this];exact hj
theorem View.rd {S:Mem} {w:World} (h:View S w) {a:Addr} {v:Value} (ha:S.rd a=some v):w.cell? a=some v:=by
  unfold Mem.rd at ha
  cases e:S.own a.block with
  | none=>simp only [e] at ha;exact (h.ro a v ha).1
  | some r =>
    simp only [e] at ha
    obtain ⟨cur,fz,h1,h2,_⟩:=h.own _ _ e
    split at ha
    · cases ha
    · rename_i hs
      have:=zbU h2 ha
      simp only [World.cell?,h1,hs]
      simpa using this

structure Step (S:Mem) (w:World) (S':Mem) (w':World):Prop where
  view:View S' w'
  os:w'.os=w.os
  tape:w'.tape=w.tape
  output:w'.output=w.output
  size:w.heap.size≤w'.heap.size
  block:∀ k,k<w.heap.size→S.own k=none→w'.heap[k]?=w.heap[k]?
  dom:∀ k,S'.own k≠none→S.own k≠none∨w.heap.size≤k
  ro:∀ a v,S'.ro a=some v→S.ro a=some v∨S.own a.block≠none∨w.heap.size≤a.block
theorem Step.refl {S:Mem} {w:World} (h:View S w):Step S w S w:=⟨h,rfl,rfl,rfl,Nat.le_refl _,fun _ _ _=>rfl,fun _ h=>.inl h,fun _ _ h=>.inl h⟩
theorem Step.trans {S S1 S2:Mem} {w w1 w2:World} (h:Step S w S1 w1) (k:Step S1 w1 S2 w2):Step S w S2 w2 :=
  ⟨k.view,k.os.trans h.os,k.tape.trans h.tape,k.output.trans h.output,Nat.le_trans h.size k.size,fun b hb hn=>by
    have h1:S1.own b=none:=by
      cases e:S1.own b with
      | none=>rfl
      | some r =>
        rcases h.dom b (by rw [e];simp) with x | x
        · exact absurd hn x
        · omega
    exact (k.block b (Nat.lt_of_lt_of_le hb h.size) h1).trans (h.block b hb hn),fun b hb=>by
      rcases k.dom b hb with x | x
      · exact h.dom b x
      · exact .inr (Nat.le_trans h.size x),fun a v hv=>by
      rcases k.ro a v hv with x | x | x
      · exact h.ro a v x
      · exact .inr (h.dom _ x)
      · exact .inr (.inr (Nat.le_trans h.size x))⟩
def Mem.Less (S' S:Mem):Prop:=(∀ b r,S'.own b=some r→S.own b=some r)∧S'.ro=S.ro
theorem Mem.Less.refl (S:Mem):S.Less S:=⟨fun _ _ h=>h,rfl⟩
theorem Mem.Less.trans {S S' S'':Mem} (h:S''.Less S') (k:S'.Less S):S''.Less S:=⟨fun b r x=>k.1 b r (h.1 b r x),h.2.trans k.2⟩
theorem Mem.less_set (S:Mem) (b:Nat) (r:Blk) (h:S.own b=none):S.Less (S.set b r) :=
  ⟨fun k r' hk => by by_cases e : k = b
                     · subst e;rw [h] at hk;cases hk
                     · rw [Mem.own_set_other _ _ e];exact hk,rfl⟩
theorem View.less {S S':Mem} {w:World} (h:View S w) (hl:S'.Less S):View S' w :=
  ⟨fun b r hb=>h.own b r (hl.1 b r hb),fun a v ha=>by
    rw [hl.2] at ha
    refine ⟨(h.ro a v ha).1,?_⟩
    cases e:S'.own a.block with
    | none=>rfl
    | some r=>(have:=hl.1 _ _ e;rw [(h.ro a v ha).2] at this;cases this),h.fzOf hl.2 (fun k hk _=>by
    cases e:S'.own k with
    | none=>rfl
    | some r=>have:=hl.1 _ _ e;rw [hk] at this;cases this) fun _ _ _=>rfl⟩
theorem Step.less {S S' S'':Mem} {w w':World} (h:Step S w S' w') (hl:S''.Less S'):Step S w S'' w' :=
  ⟨h.view.less hl,h.os,h.tape,h.output,h.size,h.block,fun k hk=>h.dom k (by
    cases e:S''.own k with
    | none=>exact absurd e hk
    | some r=>rw [hl.1 _ _ e];simp),fun a v hv=>h.ro a v (by rw [← hl.2];exact hv)⟩
theorem Step.lessL {S S0 S':Mem} {w w':World} (h:Step S0 w S' w') (hl:S0.Less S):Step S w S' w' :=
  ⟨h.view,h.os,h.tape,h.output,h.size,fun k hk hn=>h.block k hk (by
    cases e:S0.own k with
    | none=>rfl
    | some r=>have:=hl.1 _ _ e;rw [hn] at this;cases this),fun k hk=>by
      rcases h.dom k hk with x | x
      · cases e:S0.own k with
        | none=>exact absurd e x
        | some r=>exact .inl (by rw [hl.1 _ _ e];simp)
      · exact .inr x,fun a v hv=>by
      rcases h.ro a v hv with x | x | x
      · exact .inl (by rw [← hl.2];exact x)
      · refine .inr (.inl ?_)
        cases e:S0.own a.block with
        | none=>exact absurd e x
        | some r=>rw [hl.1 _ _ e];simp
      · exact .inr (.inr x)⟩
theorem View.drawn {S:Mem} {w:World} (h:View S w) (n:Nat):View S { w with drawn:=n }:=⟨h.own,h.ro,h.fz⟩
theorem Step.drawn {S:Mem} {w:World} (h:View S w) (n:Nat):Step S w S { w with drawn:=n }:=⟨h.drawn n,rfl,rfl,rfl,Nat.le_refl _,fun _ _ _=>rfl,fun _ h=>.inl h,fun _ _ h=>.inl h⟩
theorem View.below {S:Mem} {w w':World} (h:View S w) (hb:Below w.heap.size w w'):View S w' :=
  ⟨fun b r hr=>by rw [hb.block b (h.lt hr)];exact h.own b r hr,fun a v ha=>by
    obtain ⟨h1,h2⟩:=h.ro a v ha
    exact ⟨cell_later hb h1,h2⟩,fun g l hg=>by
    obtain ⟨h1,h2,h3⟩:=h.fz g l hg
    exact ⟨h1,h2,h3.of_block (hb.block g h3.lt)⟩⟩
theorem Step.below {S:Mem} {w w':World} (h:View S w) (hb:Below w.heap.size w w'):Step S w S w' :=
  ⟨h.below hb,hb.os,hb.tape,hb.output,hb.size,fun k hk _=>hb.block k hk,fun _ h=>.inl h,fun _ _ h=>.inl h⟩
theorem Step.toBelow {S S':Mem} {w w':World} (h:Step S w S' w') (hn:∀ k,S.own k=none):Below w.heap.size w w' :=
  ⟨h.os,h.tape,h.output,h.size,fun k hk=>h.block k hk (hn k)⟩

/-! ### What is known of the slots -/
abbrev Env:=List (Nat × Value)
def lk:Env→Nat→Option Value
  | [],_=>none
  | (k,v) :: E,d=>if k=d then some v else lk E d
def Sub:Env→Env→Prop
  | [],_=>True
  | (k,v) :: E',E=>lk E k=some v∧Sub E' E
theorem Sub.lk {E' E:Env} (h:Sub E' E) {d:Nat} {v:Value} (hd:Mv.lk E' d=some v):Mv.lk E d=some v:=by
  induction E' with
  | nil=>cases hd
  | cons p E' ih =>
    obtain ⟨k,u⟩:=p
    simp only [Mv.lk] at hd
    split at hd
    · rename_i e;subst e;cases hd;exact h.1
    · exact ih h.2 hd
def ev (E:Env):Operand→Option Value
  | .tmp t=>lk E t
  | .const v=>some v
  | .global g=>some (.pointer (some ⟨g,0,none⟩))
  | .func f=>some (.func (.func f) #[] #[])
def evs (E:Env):List Operand→Option (List Value)
  | []=>some []
  | x :: xs=>match ev E x,evs E xs with
    | some v,some vs=>some (v :: vs)
    | _,_=>none
structure Good (N:Nat) (E:Env) (a:Act):Prop where
  size:a.tmps.size=N
  defers:a.defers = []
  at_:∀ d v,lk E d=some v→a.tmps.getD d undef=v
theorem Good.ev {N:Nat} {E:Env} {a:Act} (h:Good N E a) {x:Operand} {v:Value} (hx:Mv.ev E x=some v):a.eval x=v:=by
  cases x with
  | tmp t=>exact h.at_ t v hx
  | const u=>cases hx;rfl
  | global g=>cases hx;rfl
  | func f=>cases hx;rfl
theorem Good.evs {N:Nat} {E:Env} {a:Act} (h:Good N E a) {xs:List Operand} {vs:List Value} (hx:Mv.evs E xs=some vs):xs.map a.eval=vs:=by
  induction xs generalizing vs with
  | nil=>cases hx;rfl
  | cons x xs ih =>
    simp only [Mv.evs] at hx
    split at hx
    · rename_i v vs' h1 h2
      cases hx
      simp only [List.map_cons,h.ev h1,ih h2]
    · cases hx
theorem Good.sub {N:Nat} {E E':Env} {a:Act} (h:Good N E a) (hs:Sub E' E):Good N E' a:=⟨h.size,h.defers,fun d v hd=>h.at_ d v (hs.lk hd)⟩
theorem zk6 (T:Array Value) (d:Nat) (v:Value) (h:d<T.size) (k:Nat):(T.setIfInBounds d v).getD k undef=if d=k then v else T.getD k undef:=by
  simp only [Array.getD_eq_getD_getElem?,Array.getElem?_setIfInBounds]
  by_cases e:d=k
  · subst e;simp [h]
  · simp [e]
theorem Good.put {N:Nat} {E:Env} {a:Act} (h:Good N E a) {d:Nat} (hd:d<N) (v:Value):Good N ((d,v) :: E) (a.put (some d) v):=by
  refine ⟨by simp [Act.put,h.size],h.defers,fun k u hk=>?_⟩
  simp only [Act.put,zk6 _ _ _ (by rw [h.size];exact hd)]
  simp only [lk] at hk
  split at hk
  · rename_i e;cases hk;rw [if_pos e]
  · rename_i e;rw [if_neg e];exact h.at_ k u hk
theorem Good.put0 {N:Nat} {E:Env} {a:Act} (h:Good N E a) (v:Value):Good N E (a.put none v):=⟨h.size,h.defers,h.at_⟩

/-! ### Operations -/
section
variable {P:Program} {N:Nat} {ops:Array Oper}
def Post (N:Nat) (K:Env→Mem→Prop) (S:Mem) (w:World) (a':Act) (w':World):Prop:=∃ E' S',K E' S'∧Good N E' a'∧Step S w S' w'
def noQ:Exit→Act→World→Prop:=fun _ _ _=>False
def AOp (P:Program) (N:Nat) (ops:Array Oper) (o:Oper) (K:Env→Mem→Prop) (E:Env) (S:Mem):Prop :=
  ∀ a w,Good N E a→View S w →
    if Region.wanted o (yielded ops a.tmps) then o.wp P a w (Post N K S w) noQ else Post N K S w (a.put o.dst undef) w
def ARun (P:Program) (N:Nat) (ops:Array Oper):List Oper→(Env→Mem→Prop)→Env→Mem→Prop
  | [],K,E,S=>K E S
  | o :: os,K,E,S=>AOp P N ops o (fun E' S'=>ARun P N ops os K E' S') E S
theorem zeA {o:Oper} {a:Act} {K:Act→World→Prop} {Q:Exit→Act→World→Prop} {r:Result Next} (h:o.upon P a K noQ r):o.upon P a K Q r:=by
  cases r with
  | ok n w' =>
    cases n <;> simp only [Oper.upon] at h ⊢ <;> first | exact h | skip
    exact Calls.mono h fun e w'' he=>by
      cases e with
      | returned u=>exact he
      | panicked c=>exact he.elim
      | outgrown=>obtain ⟨_,_,x⟩:=he;exact x.elim
  | halt x w'=>cases x <;> simp only [Oper.upon] at h ⊢ <;> first | exact h | exact (h:False).elim
theorem Post.mono {K K':Env→Mem→Prop} {S:Mem} {w:World} {a':Act} {w':World} (h:∀ E S,K E S→K' E S) (x:Post N K S w a' w'):Post N K' S w a' w' :=
  let ⟨E',S',k,g,s⟩:=x;⟨E',S',h _ _ k,g,s⟩
theorem ARun.wp {l:List Oper}:∀ {K:Env→Mem→Prop} {E:Env} {S:Mem},ARun P N ops l K E S → ∀ {Q:Exit→Act→World→Prop} (a:Act) (w:World),Good N E a→View S w →
    (∀ a' w',Post N K S w a' w'→Q .normal a' w')→wpList P ops Q l a w:=by
  induction l with
  | nil=>exact fun {K E S} h Q a w hg hv hq=>hq a w ⟨E,S,h,hg,Step.refl hv⟩
  | cons o os ih =>
    intro K E S h Q a w hg hv hq
    have h1:=h a w hg hv
    have next:∀ a1 w1,Post N (fun E' S'=>ARun P N ops os K E' S') S w a1 w1→wpList P ops Q os a1 w1:=fun a1 w1 ⟨E1,S1,r,g1,s1⟩ =>
      ih r a1 w1 g1 s1.view fun a' w' ⟨E2,S2,k,g2,s2⟩=>hq a' w' ⟨E2,S2,k,g2,s1.trans s2⟩
    unfold wpList
    split
    · rename_i hw;rw [if_pos hw] at h1
      exact .inl (zeA (Oper.wp_mono next h1))
    · rename_i hw;rw [if_neg hw] at h1
      exact next _ _ h1

/-! ### Code -/
def AWP (P:Program) (N:Nat) (c:Code) (Q:Exit→Env→Mem→Prop) (E:Env) (S:Mem):Prop :=
  ∀ a w,Good N E a→View S w→c.wp P (fun e a' w'=>Post N (Q e) S w a' w') a w
def Athen (next:Env→Mem→Prop) (Q:Exit→Env→Mem→Prop):Exit→Env→Mem→Prop
  | .normal=>next
  | e=>Q e
variable {Q:Exit→Env→Mem→Prop} {E:Env} {S:Mem}
theorem AWP.mono {c:Code} {Q':Exit→Env→Mem→Prop} (h:AWP P N c Q E S) (hq:∀ e E S,Q e E S→Q' e E S):AWP P N c Q' E S:=fun a w hg hv =>
  wp_mono (h a w hg hv) fun e _ _ x=>x.mono (hq e)
theorem AWP.sub {c:Code} (E':Env) (hs:Sub E' E) (h:AWP P N c Q E' S):AWP P N c Q E S:=fun a w hg hv=>h a w (hg.sub hs) hv
theorem AWP.less {c:Code} (S':Mem) (hs:S'.Less S) (h:AWP P N c Q E S'):AWP P N c Q E S:=fun a w hg hv =>
  wp_mono (h a w hg (hv.less hs)) fun _ _ _ ⟨E1,S1,k,g,s⟩=>⟨E1,S1,k,g,s.lessL hs⟩
theorem AWP.seq {x y:Code} (h:AWP P N x (Athen (AWP P N y Q) Q) E S):AWP P N (.seq x y) Q E S:=fun a w hg hv=>by
  refine wp_seq (wp_mono (h a w hg hv) fun e a1 w1 ⟨E1,S1,k,g,s⟩=>?_)
  cases e with
  | normal=>exact wp_mono (k a1 w1 g s.view) fun e a2 w2 ⟨E2,S2,k2,g2,s2⟩=>⟨E2,S2,k2,g2,s.trans s2⟩
  | exit id=>exact ⟨E1,S1,k,g,s⟩
  | goto l=>exact ⟨E1,S1,k,g,s⟩
  | ret=>exact ⟨E1,S1,k,g,s⟩
  | panic c=>exact ⟨E1,S1,k,g,s⟩
  | outgrown=>exact ⟨E1,S1,k,g,s⟩
theorem AWP.skip (h:Q .normal E S):AWP P N .skip Q E S:=fun a w hg hv=>wp_skip ⟨E,S,h,hg,Step.refl hv⟩
theorem AWP.ret (h:Q .ret E S):AWP P N .ret Q E S:=fun a w hg hv=>wp_ret ⟨E,S,h,hg,Step.refl hv⟩
theorem AWP.exit {id:Nat} (h:Q (.exit id) E S):AWP P N (.exit id) Q E S:=fun a w hg hv=>wp_exit ⟨E,S,h,hg,Step.refl hv⟩
theorem AWP.cond {c:Operand} {x y:Code} (t:Bool) (hc:ev E c=some (.bool t)) (h:AWP P N (if t then x else y) Q E S):AWP P N (.cond c x y) Q E S:=fun a w hg hv =>
  wp_cond (hg.ev hc) (h a w hg hv)
theorem AWP.condT {c:Operand} {x y:Code} {t:Bool} (hc:ev E c=some (.bool t)) (ht:t=true) (h:AWP P N x Q E S):AWP P N (.cond c x y) Q E S:=AWP.cond t hc (by rw [ht];exact h)
theorem AWP.condF {c:Operand} {x y:Code} {t:Bool} (hc:ev E c=some (.bool t)) (ht:t=false) (h:AWP P N y Q E S):AWP P N (.cond c x y) Q E S:=AWP.cond t hc (by rw [ht];exact h)
theorem AWP.condB {c:Operand} {x y:Code} {t:Bool} (hc:ev E c=some (.bool t)) (h1:t=true→AWP P N x Q E S) (h0:t=false→AWP P N y Q E S):AWP P N (.cond c x y) Q E S:=AWP.cond t hc (by cases t;exact h0 rfl;exact h1 rfl)
def AinBlock (id:Nat) (Q:Exit→Env→Mem→Prop):Exit→Env→Mem→Prop
  | .exit id'=>if id'=id then Q .normal else Q (.exit id')
  | e=>Q e
theorem AWP.block {id:Nat} {c:Code} (h:AWP P N c (AinBlock id Q) E S):AWP P N (.block id c) Q E S:=fun a w hg hv =>
  wp_block (wp_mono (h a w hg hv) fun e a1 w1 x=>by
    cases e with
    | exit id' =>
      simp only [Exit.inBlock]
      obtain ⟨E1,S1,k,g,s⟩:=x
      simp only [AinBlock] at k
      split
      · rename_i e;rw [if_pos e] at k;exact ⟨E1,S1,k,g,s⟩
      · rename_i e;rw [if_neg e] at k;exact ⟨E1,S1,k,g,s⟩
    | normal=>exact x
    | goto l=>exact x
    | ret=>exact x
    | panic c=>exact x
    | outgrown=>exact x)
theorem AWP.region {id:Nat} {l:List Oper} (h:ARun P N l.toArray l (Q .normal) E S):AWP P N (.region id l.toArray false) Q E S:=fun a w hg hv =>
  wp_region_lit (h.wp a w hg hv fun _ _ x=>x)
theorem znN {P:Program} {c:Code} {Q:Exit→Act→World→Prop} {X:Type} (I:X→Act→World→Prop) (μ : X→Nat) (x0:X) {a:Act} {w:World} (h0:I x0 a w)
    (round:∀ x a w,I x a w→c.wp P (Exit.then (fun a' w'=>∃ x',I x' a' w' ∧ μ x' < μ x) Q) a w):(Code.loop c).wp P Q a w:=by
  intro b k cs
  have key:∀ n x a w,μ x=n→I x a w → ∃ e a' w',Q e a' w'∧Arrives P (lone (b.at a (.code c :: .inLoop c :: k)) cs w) b k cs e a' w':=by
    intro n
    induction n using Nat.strongRecOn with
    | _ n ih =>
      intro x a w hn hI
      obtain ⟨e,a1,w1,hq,harr⟩:=round x a w hI b (.inLoop c :: k) cs
      cases e with
      | normal =>
        obtain ⟨x',hI1,hlt⟩:=hq
        obtain ⟨e2,a2,w2,hq2,harr2⟩:=ih (μ x') (hn ▸ hlt) x' a1 w1 rfl hI1
        exact ⟨e2,a2,w2,hq2,.of_steps (Steps.trans harr (.one step_inLoop)) harr2⟩
      | exit id=>exact ⟨_,a1,w1,hq,.pass (x:=.inLoop c) rfl (fun _ _=>.inl (by simp)) harr⟩
      | goto l=>exact ⟨_,a1,w1,hq,.pass (x:=.inLoop c) rfl (fun _ _=>.inl (by simp)) harr⟩
      | ret=>exact ⟨_,a1,w1,hq,.pass (x:=.inLoop c) rfl (fun _ _=>.inl (by simp)) harr⟩
      | panic ch=>exact ⟨_,a1,w1,hq,.pass (x:=.inLoop c) rfl (fun _ _=>.inl (by simp)) harr⟩
      | outgrown=>exact ⟨_,a1,w1,hq,.pass (x:=.inLoop c) rfl (fun _ _=>.inl (by simp)) harr⟩
  obtain ⟨e,a',w',hq,harr⟩:=key _ x0 a w rfl h0
  exact ⟨e,a',w',hq,.of_steps (.one step_loop) harr⟩
theorem AWP.loop {X:Type} {c:Code} (st:X→Env) (m:X→Mem) (ok:X→Prop) (μ : X→Nat) (x0:X) (hE:Sub (st x0) E) (hm:(m x0).Less S) (h0:ok x0)
    (round:∀ x,ok x→AWP P N c (Athen (fun E' S'=>∃ x',Sub (st x') E'∧(m x').Less S'∧ok x' ∧ μ x' < μ x) Q) (st x) (m x)):AWP P N (.loop c) Q E S:=fun a w hg hv=>by
  refine znN (fun x a' w'=>Good N (st x) a'∧Step S w (m x) w'∧ok x) μ x0 ⟨hg.sub hE,(Step.refl hv).less hm,h0⟩ fun x a1 w1 ⟨h1,h2,h3⟩=>?_
  refine wp_mono (round x h3 a1 w1 h1 h2.view) fun e a2 w2 ⟨E2,S2,k,g,s⟩=>?_
  cases e with
  | normal=>obtain ⟨x',hs,hm',ho,hl⟩:=k;exact ⟨x',⟨g.sub hs,(h2.trans s).less hm',ho⟩,hl⟩
  | exit id=>exact ⟨E2,S2,k,g,h2.trans s⟩
  | goto l=>exact ⟨E2,S2,k,g,h2.trans s⟩
  | ret=>exact ⟨E2,S2,k,g,h2.trans s⟩
  | panic c=>exact ⟨E2,S2,k,g,h2.trans s⟩
  | outgrown=>exact ⟨E2,S2,k,g,h2.trans s⟩
end
end Mv
open Go.RowKit
namespace Mv
theorem zaz (b o j:Nat):(⟨b,o,none⟩ : Addr).add j=⟨b,o+j,none⟩:=by unfold Addr.add;split <;> simp_all
theorem zdk (S:Mem) (b j:Nat) (r:Blk):(S.set b r).rd ⟨b,j,none⟩=r.cells[j]?:=by simp [Mem.rd,Mem.set]
theorem zgS (S:Mem) {b:Nat} (r:Blk) {a:Addr} (h:a.block≠b):(S.set b r).rd a=S.rd a:=by simp [Mem.rd,Mem.set,h]
theorem zdf {S:Mem} {b:Nat} {r:Blk} (h:S.own b=some r) (j:Nat):S.rd ⟨b,j,none⟩=r.cells[j]?:=by simp [Mem.rd,h]
def Fresh (S:Mem) (b:Nat):Prop:=S.own b=none ∧ ∀ a v,S.ro a=some v→a.block≠b
theorem Fresh.own {S:Mem} {b:Nat} (h:Fresh S b):S.own b=none:=h.1
theorem Fresh.ne {S:Mem} {b p:Nat} {r:Blk} (h:Fresh S b) (hp:S.own p=some r):p≠b:=fun e=>by subst e;rw [h.1] at hp;cases hp
theorem Fresh.ne' {S:Mem} {b p:Nat} {r:Blk} (h:Fresh S b) (hp:S.own p=some r):b≠p:=(h.ne hp).symm
theorem View.freshAt {S:Mem} {w:World} (h:View S w):Fresh S w.heap.size:=⟨h.fresh,fun a v ha e=>by
  have:=World.block_lt_of_cell? _ _ (h.ro a v ha).1
  omega⟩
theorem Fresh.less {S S':Mem} {b:Nat} (h:Fresh S b) (hl:S'.Less S):Fresh S' b:=by
  refine ⟨?_,fun a v ha=>h.2 a v (by rw [← hl.2];exact ha)⟩
  cases e:S'.own b with
  | none=>rfl
  | some r=>have:=hl.1 _ _ e;rw [h.1] at this;cases this
theorem zaa {S:Mem} {b c:Nat} {r:Blk} (h:Fresh (S.set c r) b):Fresh S b∧b≠c:=by
  obtain ⟨h1,h2⟩:=h
  have hne:b≠c:=fun e=>by subst e;simp [Mem.set] at h1
  exact ⟨⟨by simpa [Mem.set,hne] using h1,h2⟩,hne⟩

/-! ### What a type is -/
def plainT (P:Program) (T:TypeId):Bool:=match P.underlying T with | none=>false | some (.struct _) | some (.array _ _)=>false | some _=>true
def aggT (P:Program) (T:TypeId):Bool:=match P.underlying T with | some (.struct _) | some (.array _ _)=>true | _=>false
def sizeT (P:Program) (T:TypeId):Option Nat:=(P.info? T).map (·.size)
def fieldT (P:Program) (T:TypeId) (f:Nat):Option (Nat × Nat):=match P.underlying T with
  | some (.struct fs)=>match (fs[f]? : Option Field) with
    | some g=>match P.info? g.type with
      | some i=>some (g.offset,i.size)
      | none=>none
    | none=>none
  | _=>none
theorem zdl {P:Program} {T:TypeId} (h:plainT P T=true) (w:World):(isAgg T).run P w = .ok false w:=by
  unfold plainT at h
  cases e:P.underlying T with
  | none=>simp [e] at h
  | some d =>
    unfold isAgg
    rw [Sem.run_bind,run_underlying e w]
    cases d <;> simp_all
theorem zdm {P:Program} {T:TypeId} (h:aggT P T=true) (w:World):(isAgg T).run P w = .ok true w:=by
  unfold aggT at h
  cases e:P.underlying T with
  | none=>simp [e] at h
  | some d =>
    unfold isAgg
    rw [Sem.run_bind,run_underlying e w]
    cases d <;> simp_all
theorem zaS {P:Program} {T:TypeId} {n:Nat} (h:sizeT P T=some n) (w:World):(sizeOf T).run P w = .ok n w:=by
  unfold sizeT at h
  cases e:P.info? T with
  | none=>simp [e] at h
  | some i=>simp [e] at h;simp [sizeOf,typeInfo,e,h]

section
variable {P:Program} {N:Nat} {ops:Array Oper} {E:Env} {S:Mem} {K:Env→Mem→Prop}
def ACalm (P:Program) (N:Nat) (o:Oper) (E:Env) (S:Mem) (v:Value):Prop:=∀ a w,Good N E a→View S w→(execOp a.eval o).run P w = .ok (.value v) w
theorem ARun.calm {o:Oper} {os:List Oper} {d:Nat} {v:Value} (hg:o.guard=none) (hd:o.dst=some d) (hn:d<N) (hc:ACalm P N o E S v) (h:ARun P N ops os K ((d,v) :: E) S):ARun P N ops (o :: os) K E S:=fun a w g hv=>by
  rw [if_pos (by simp [Region.wanted,hg])]
  unfold Oper.wp
  rw [hc a w g hv]
  exact ⟨_,_,h,by rw [hd];exact g.put hn v,Step.refl hv⟩
theorem zbV {N:Nat} {E:Env} {a:Act} (g:Good N E a) {j d:Nat} {og:Oper} (hj:ops[j]?=some og) (hd:og.dst=some d) (hn:d<N) {b:Bool} (hb:lk E d=some (.bool b)):yielded ops a.tmps j=some b:=by
  have h1:=g.at_ d _ hb
  have h2:a.tmps[d]?=some (Value.bool b):=by
    rw [Array.getD_eq_getD_getElem?] at h1
    have:d<a.tmps.size:=by rw [g.size];exact hn
    rw [Array.getElem?_eq_getElem this] at h1 ⊢
    simpa using h1
  simp [yielded,hj,hd,h2]
theorem ARun.calmG {o:Oper} {os:List Oper} {d:Nat} {v:Value} (j:Nat) (t:Bool) (dj:Nat) (hg:o.guard=some (j,t)) (hj:(ops[j]?).bind (·.dst)=some dj) (hjn:dj<N) (hb:lk E dj=some (.bool t)) (hd:o.dst=some d) (hn:d<N) (hc:ACalm P N o E S v) (h:ARun P N ops os K ((d,v) :: E) S):ARun P N ops (o :: os) K E S:=fun a w g hv=>by
  cases e:ops[j]? with
  | none=>simp [e] at hj
  | some og =>
    simp [e] at hj
    rw [if_pos (by simp [Region.wanted,hg,zbV g e hj hjn hb])]
    unfold Oper.wp
    rw [hc a w g hv]
    exact ⟨_,_,h,by rw [hd];exact g.put hn v,Step.refl hv⟩
theorem ARun.skipG {o:Oper} {os:List Oper} {d:Nat} (j:Nat) (t u:Bool) (dj:Nat) (hg:o.guard=some (j,t)) (hj:(ops[j]?).bind (·.dst)=some dj) (hjn:dj<N) (hb:lk E dj=some (.bool u)) (hne:(u == t)=false) (hd:o.dst=some d) (hn:d<N) (h:ARun P N ops os K ((d,undef) :: E) S):ARun P N ops (o :: os) K E S:=fun a w g hv=>by
  cases e:ops[j]? with
  | none=>simp [e] at hj
  | some og =>
    simp [e] at hj
    rw [if_neg (by simp [Region.wanted,hg,zbV g e hj hjn hb];intro x;subst x;simp at hne)]
    exact ⟨_,_,h,by rw [hd];exact g.put hn _,Step.refl hv⟩

/-! #### Operations that only look -/
variable {dst:Option Nat} {ty:TypeId} {pos:String} {aft:Array Edge} {gd:Option (Nat × Bool)}
theorem Calm.move {x:Operand} {v:Value} (hx:ev E x=some v):ACalm P N ⟨dst,.move x,ty,pos,aft,gd⟩ E S v:=fun a w g hv=>by
  simp [execOp,g.ev hx]
theorem Calm.assign {x:Operand} {v:Value} (hx:ev E x=some v):ACalm P N ⟨dst,.assign x,ty,pos,aft,gd⟩ E S v:=fun a w g hv=>by
  simp [execOp,g.ev hx]
theorem Calm.pickT {c x y:Operand} {v:Value} (hc:ev E c=some (.bool true)) (hx:ev E x=some v):ACalm P N ⟨dst,.pick c x y,ty,pos,aft,gd⟩ E S v:=fun a w g hv=>by
  simp [execOp,g.ev hc,g.ev hx,asBool]
theorem Calm.pickF {c x y:Operand} {v:Value} (hc:ev E c=some (.bool false)) (hx:ev E y=some v):ACalm P N ⟨dst,.pick c x y,ty,pos,aft,gd⟩ E S v:=fun a w g hv=>by
  simp [execOp,g.ev hc,g.ev hx,asBool]
def Bin (P:Program) (op:BinOp) (xt:TypeId) (x y:Operand) (vx vy v:Value):Prop:=∀ w,(do eqGuard op xt x y vx vy;binOp op xt vx vy:Sem Value).run P w = .ok v w
theorem Calm.bin {op:BinOp} {xt yt:TypeId} {x y:Operand} {vx vy v:Value} (hx:ev E x=some vx) (hy:ev E y=some vy) (h:Bin P op xt x y vx vy v):ACalm P N ⟨dst,.binOp op xt x y yt,ty,pos,aft,gd⟩ E S v:=fun a w g hv=>by
  have:=h w
  simp only [execOp,g.ev hx,g.ev hy]
  rw [Sem.run_bind,this]
  rfl
def Una (P:Program) (op:UnOp) (vx v:Value):Prop:=∀ w,(Op.unary op vx).run P w = .ok v w
theorem Calm.un {op:UnOp} {xt:TypeId} {x:Operand} {vx v:Value} (hx:ev E x=some vx) (h:Una P op vx v):ACalm P N ⟨dst,.unOp op xt x,ty,pos,aft,gd⟩ E S v:=fun a w g hv=>by
  simp only [execOp,g.ev hx]
  rw [Sem.run_bind,h w]
  rfl
def Conv (P:Program) (src dst:TypeId) (vx v:Value):Prop:=∀ w,(convert src dst vx).run P w = .ok v w
theorem Calm.conv {s t:TypeId} {x:Operand} {vx v:Value} (hx:ev E x=some vx) (h:Conv P s t vx v):ACalm P N ⟨dst,.convert s t x,ty,pos,aft,gd⟩ E S v:=fun a w g hv=>by
  simp only [execOp,g.ev hx]
  rw [Sem.run_bind,h w]
  rfl
theorem Calm.extract {x:Operand} {i:Nat} {vs:Array Value} {v:Value} (hx:ev E x=some (.tuple vs)) (h:vs[i]?=some v):ACalm P N ⟨dst,.extract x i,ty,pos,aft,gd⟩ E S v:=fun a w g hv=>by
  simp [execOp,g.ev hx,Instr.extract,h]
theorem Calm.nilCheck {x:Operand} {a:Addr} (hx:ev E x=some (.pointer (some a))):ACalm P N ⟨dst,.nilCheck x,ty,pos,aft,gd⟩ E S (.pointer (some a)):=fun a w g hv=>by
  simp [execOp,g.ev hx]
theorem Calm.load {T:TypeId} {x:Operand} {a:Addr} {v:Value} (hT:plainT P T=true) (hx:ev E x=some (.pointer (some a))) (hr:S.rd a=some v):ACalm P N ⟨dst,.load T x,ty,pos,aft,gd⟩ E S v:=fun c w g hv=>by
  simp [execOp,g.ev hx,Instr.loadAt,Instr.sureAddr,loadVar,zdl hT w,hv.rd hr]
def Mem.rds (S:Mem) (a:Addr) (cs:List Value):Prop:=∀ j v,cs[j]?=some v→S.rd (a.add j)=some v
theorem zhY (S:Mem) (a:Addr):S.rds a []:=fun j v h=>by simp at h
theorem zf8 {S:Mem} {b o:Nat} {v:Value} {cs:List Value} (h:S.rd ⟨b,o,none⟩=some v) (hs:S.rds ⟨b,o+1,none⟩ cs):S.rds ⟨b,o,none⟩ (v :: cs):=fun j u hj=>by
  cases j with
  | zero=>simp at hj;subst hj;rw [zaz];exact h
  | succ j=>simp at hj;have:=hs j u hj;rw [zaz] at this ⊢;rw [show o+(j+1)=o+1+j from by omega];exact this
theorem zbA {S:Mem} {b:Nat} {r:Blk} (h:S.own b=some r):S.rds ⟨b,0,none⟩ r.cells:=fun j v hj=>by
  rw [zaz,zdf h,Nat.zero_add];exact hj
theorem View.rds {w:World} (h:View S w) {a:Addr} {cs:List Value} (hr:S.rds a cs):(loadCells a cs.length).run P w = .ok cs.toArray w :=
  run_loadCells_list w a cs fun j v hj=>h.rd (hr j v hj)
theorem Calm.loadA {T:TypeId} {x:Operand} {a:Addr} {cs:List Value} (hT:aggT P T=true) (hs:sizeT P T=some cs.length) (hx:ev E x=some (.pointer (some a))) (hr:S.rds a cs):ACalm P N ⟨dst,.load T x,ty,pos,aft,gd⟩ E S (.agg cs.toArray):=fun c w g hv=>by
  simp [execOp,g.ev hx,Instr.loadAt,Instr.sureAddr,loadVar,zdm hT w,zaS hs w,hv.rds (P:=P) hr]
theorem Calm.fieldAddr {T:TypeId} {x:Operand} {f b o off n:Nat} (hf:fieldT P T f=some (off,n+1)) (hx:ev E x=some (.pointer (some ⟨b,o,none⟩))):ACalm P N ⟨dst,.fieldAddr T x f,ty,pos,aft,gd⟩ E S (.pointer (some ⟨b,o+off,none⟩)):=fun c w g hv=>by
  unfold fieldT at hf
  cases e:P.underlying T with
  | none=>simp [e] at hf
  | some d =>
    cases d <;> simp [e] at hf
    rename_i fs
    cases e1:fs[f]? with
    | none=>simp [e1] at hf
    | some gf =>
      simp [e1] at hf
      cases e2:P.info? gf.type with
      | none=>simp [e2] at hf
      | some i =>
        simp [e2] at hf
        simp [execOp,g.ev hx,Instr.fieldAt,run_underlying e w,e1,Instr.sureAddr,fieldPlace,sizeOf,typeInfo,e2,hf.2,zaz,hf.1]
theorem Calm.indexS {T e:TypeId} {x i:Operand} {b o len cap n:Nat} {k:IntKind} {j:Int} (hT:P.underlying T=some (.slice e)) (he:sizeT P e=some n) (hx:ev E x=some (.slice (some ⟨b,o,none⟩) len cap)) (hi:ev E i=some (.int k j)) (h0:0≤j) (h1:j<len) :
    ACalm P N ⟨dst,.indexAddr T x i,ty,pos,aft,gd⟩ E S (.pointer (some ⟨b,o+j.toNat*n,none⟩)):=fun c w g hv=>by
  simp [execOp,g.ev hx,g.ev hi,Instr.indexAt,asIntOf,run_underlying hT w,zaS he w,h0,h1,zaz]
theorem Calm.indexP {T e:TypeId} {x i:Operand} {b o len n:Nat} {k:IntKind} {j:Int} (hT:P.underlying T=some (.array len e)) (he:sizeT P e=some n) (hx:ev E x=some (.pointer (some ⟨b,o,none⟩))) (hi:ev E i=some (.int k j)) (h0:0≤j) (h1:j<len) :
    ACalm P N ⟨dst,.indexAddr T x i,ty,pos,aft,gd⟩ E S (.pointer (some ⟨b,o+j.toNat*n,none⟩)):=fun c w g hv=>by
  simp [execOp,g.ev hx,g.ev hi,Instr.indexAt,asIntOf,run_underlying hT w,zaS he w,h0,h1,zaz,Instr.sureAddr]
theorem Calm.indexStr {T:TypeId} {x i:Operand} {s:ByteArray} {k:IntKind} {j:Int} (hT:P.underlying T=some .string) (hx:ev E x=some (.string s)) (hi:ev E i=some (.int k j)) (h0:0≤j) (h1:j<s.size) :
    ACalm P N ⟨dst,.index T x i,ty,pos,aft,gd⟩ E S (.int .u8 (nb (at8 s.data.toList j.toNat))):=fun c w g hv=>by
  have hlt:j.toNat<s.size:=by omega
  have e:=at8_str s j.toNat hlt
  simp [execOp,g.ev hx,g.ev hi,Instr.index,asIntOf,run_underlying hT w,h0,hlt,← e]
theorem zbH {x:Value} {k:IntKind} {j:Int} (y:Nat) (c:BoundsCode) (h:x = .int k j) (h0:0≤j) (h1:j≤y) (w:World):(Instr.sliceBound x y c).run P w = .ok j.toNat w:=by
  subst h;simp [Instr.sliceBound,asIntOf,h0,h1]
def bnd (E:Env) (x:Option Operand) (df y r:Nat):Prop:=match x with
  | none=>r=df
  | some i=>∃ k j,ev E i=some (.int k j)∧0≤j∧j≤y∧r=j.toNat
theorem za4 {E:Env} (df y:Nat):bnd E none df y df:=rfl
theorem zcr {E:Env} {i:Operand} {k:IntKind} {j:Int} (df y:Nat) (h:ev E i=some (.int k j)) (h0:0≤j) (h1:j≤y):bnd E (some i) df y j.toNat:=⟨k,j,h,h0,h1,rfl⟩
theorem zd0 {lo hi mx:Option Operand} {isS:Bool} {len cap l h m:Nat} {c:Act} (g:Good N E c) (hm:bnd E mx cap cap m) (hx:mx.isSome=true→hi.isSome=true) (hh:bnd E hi len m h) (hl:bnd E lo 0 h l) (w:World) :
    (Instr.sliceBounds isS len cap (lo.map c.eval) (hi.map c.eval) (mx.map c.eval)).run P w = .ok (l,h,m) w:=by
  unfold Instr.sliceBounds
  cases mx with
  | none =>
    have hm':m=cap:=hm
    subst hm'
    cases hi with
    | none =>
      have hh':h=len:=hh
      subst hh'
      cases lo with
      | none=>have hl':l=0:=hl;subst hl';simp
      | some i=>obtain ⟨k,j,g1,g2,g3,rfl⟩:=hl;simp [g.ev g1,zbH _ _ rfl g2 g3 w]
    | some i' =>
      obtain ⟨k',j',g1',g2',g3',rfl⟩:=hh
      cases lo with
      | none=>have hl':l=0:=hl;subst hl';simp [g.ev g1',zbH _ _ rfl g2' g3' w]
      | some i=>obtain ⟨k,j,g1,g2,g3,rfl⟩:=hl;simp [g.ev g1,g.ev g1',zbH _ _ rfl g2 g3 w,zbH _ _ rfl g2' g3' w]
  | some i2 =>
    obtain ⟨k2,j2,y1,y2,y3,rfl⟩:=hm
    cases hi with
    | none=>simp at hx
    | some i' =>
      obtain ⟨k',j',g1',g2',g3',rfl⟩:=hh
      cases lo with
      | none=>have hl':l=0:=hl;subst hl';simp [g.ev y1,g.ev g1',zbH _ _ rfl g2' g3' w,zbH _ _ rfl y2 y3 w]
      | some i=>obtain ⟨k,j,g1,g2,g3,rfl⟩:=hl;simp [g.ev y1,g.ev g1,g.ev g1',zbH _ _ rfl g2 g3 w,zbH _ _ rfl g2' g3' w,zbH _ _ rfl y2 y3 w]
theorem Calm.sliceStr {T:TypeId} {x:Operand} {lo hi:Option Operand} {s:ByteArray} {l h:Nat} (hT:P.underlying T=some .string) (hx:ev E x=some (.string s))
    (hh:bnd E hi s.size s.size h) (hl:bnd E lo 0 h l) :
    ACalm P N ⟨dst,.slice T x lo hi none,ty,pos,aft,gd⟩ E S (.string (s.extract l h)):=fun c w g hv=>by
  have e1:=zd0 (P:=P) (isS:=false) (mx:=none) (cap:=s.size) g (za4 s.size s.size) (by simp) hh hl w
  simp only [Option.map_none] at e1
  simp [execOp,g.ev hx,Instr.sliceAt,run_underlying hT w,Instr.slice,e1]
theorem Calm.sliceSl {T e:TypeId} {x:Operand} {lo hi mx:Option Operand} {b o len cap n l h m:Nat} (hT:P.underlying T=some (.slice e)) (he:sizeT P e=some n) (hx:ev E x=some (.slice (some ⟨b,o,none⟩) len cap))
    (hm:bnd E mx cap cap m) (hmx:mx.isSome=true→hi.isSome=true) (hh:bnd E hi len m h) (hl:bnd E lo 0 h l) :
    ACalm P N ⟨dst,.slice T x lo hi mx,ty,pos,aft,gd⟩ E S (.slice (some ⟨b,if m=l then o else o+l*n,none⟩) (h-l) (m-l)):=fun c w g hv=>by
  have e1:=zd0 (P:=P) (isS:=true) g hm hmx hh hl w
  simp only [execOp,g.ev hx,Instr.sliceAt,Sem.run_bind,run_underlying hT w,Instr.slice,e1,Result.andThen_ok,zaS he w,Sem.run_pure,Option.map_some,zaz]
  split <;> rfl
theorem Calm.sliceHead {T e:TypeId} {x:Operand} {hi mx:Option Operand} {b o len cap n h m:Nat} (hT:P.underlying T=some (.slice e)) (he:sizeT P e=some n) (hx:ev E x=some (.slice (some ⟨b,o,none⟩) len cap))
    (hm:bnd E mx cap cap m) (hmx:mx.isSome=true→hi.isSome=true) (hh:bnd E hi len m h) :
    ACalm P N ⟨dst,.slice T x none hi mx,ty,pos,aft,gd⟩ E S (.slice (some ⟨b,o,none⟩) h m):=by
  have:=Calm.sliceSl (S:=S) (N:=N) (dst:=dst) (ty:=ty) (pos:=pos) (aft:=aft) (gd:=gd) hT he hx hm hmx hh (za4 0 h)
  simpa using this
theorem Calm.sliceNil {T e:TypeId} {x:Operand} {lo hi mx:Option Operand} {n:Nat} (hT:P.underlying T=some (.slice e)) (he:sizeT P e=some n) (hx:ev E x=some (.slice none 0 0))
    (hm:bnd E mx 0 0 0) (hmx:mx.isSome=true→hi.isSome=true) (hh:bnd E hi 0 0 0) (hl:bnd E lo 0 0 0) :
    ACalm P N ⟨dst,.slice T x lo hi mx,ty,pos,aft,gd⟩ E S (.slice none 0 0):=fun c w g hv=>by
  have e1:=zd0 (P:=P) (isS:=true) g hm hmx hh hl w
  simp only [execOp,g.ev hx,Instr.sliceAt,Sem.run_bind,run_underlying hT w,Instr.slice,e1,Result.andThen_ok,zaS he w,Sem.run_pure,Option.map_none]
  rfl
theorem Calm.lenStr {T:TypeId} {x:Operand} {s:ByteArray} (hT:P.underlying T=some .string) (hx:ev E x=some (.string s)) :
    ACalm P N ⟨dst,.call ⟨.builtin .len,#[x],#[T]⟩,ty,pos,aft,gd⟩ E S (.int .i64 s.size):=fun c w g hv=>by
  simp [execOp,resolve,invoke,builtin,Builtin.len_,g.ev hx,run_underlying hT w,goInt]
theorem Calm.lenSl {T e:TypeId} {x:Operand} {a:Option Addr} {len cap:Nat} (hT:P.underlying T=some (.slice e)) (hx:ev E x=some (.slice a len cap)) :
    ACalm P N ⟨dst,.call ⟨.builtin .len,#[x],#[T]⟩,ty,pos,aft,gd⟩ E S (.int .i64 len):=fun c w g hv=>by
  simp [execOp,resolve,invoke,builtin,Builtin.len_,g.ev hx,run_underlying hT w,goInt]
/-! #### Operations that do something -/
theorem View.alloc {w:World} (h:View S w) (T:TypeId) (cs:Array Value) (hf:Fresh S w.heap.size):View (S.set w.heap.size ⟨T,cs.toList,cs.size⟩) (w.alloc (.cells cs T)):=by
  constructor
  · intro b r hb
    by_cases e:b=w.heap.size
    · subst e
      rw [Mem.own_set_same] at hb
      cases hb
      exact ⟨cs,(0,0),heap_alloc_new w _,List.prefix_rfl,Nat.le_refl _,fun j _ x=>by simp at x⟩
    · rw [Mem.own_set_other _ _ e] at hb
      have hlt:=h.lt hb
      rw [Below.heap_alloc w _ b hlt]
      exact h.own b r hb
  · intro a v ha
    obtain ⟨h1,h2⟩:=h.ro a v ha
    have hlt:=World.block_lt_of_cell? _ _ h1
    refine ⟨cell_later ((Below.refl _ _).alloc (Nat.le_refl _) _) h1,?_⟩
    rw [Mem.own_set_other _ _ (by omega)]
    exact h2
  · exact h.fzOf rfl (fun k hk hlt=>zdZ (Nat.le_refl _) hk hlt) fun k hk _=>Below.heap_alloc w _ k hk
theorem Step.alloc {w:World} (h:View S w) (T:TypeId) (cs:Array Value):Step S w (S.set w.heap.size ⟨T,cs.toList,cs.size⟩) (w.alloc (.cells cs T)) :=
  ⟨h.alloc T cs h.freshAt,rfl,rfl,rfl,by rw [World.size_alloc];omega,fun k hk _=>Below.heap_alloc w _ k hk,fun k hk=>by
    by_cases e:k=w.heap.size
    · exact .inr (by omega)
    · rw [Mem.own_set_other _ _ e] at hk;exact .inl hk,fun _ _ h=>.inl h⟩
theorem ARun.box {os:List Oper} {T:TypeId} {x:Operand} {v:Value} {d:Nat} (hn:d<N) (hx:ev E x=some v)
    (h:∀ b,Fresh S b→ARun P N ops os K ((d,.pointer (some ⟨b,0,none⟩)) :: E) (S.set b ⟨T,v.cells.toList,v.cells.size⟩)):ARun P N ops (⟨some d,.box T x,ty,pos,aft,none⟩ :: os) K E S:=fun a w g hv=>by
  rw [if_pos (by simp [Region.wanted])]
  unfold Oper.wp
  have:(execOp a.eval ⟨some d,.box T x,ty,pos,aft,none⟩).run P w = .ok (.value (.pointer (some ⟨w.heap.size,0,none⟩))) (w.alloc (.cells v.cells T)):=by
    simp [execOp,g.ev hx,Instr.box,newVar,newRow]
  rw [this]
  exact ⟨_,_,h _ hv.freshAt,g.put hn _,Step.alloc hv T v.cells⟩
def zeroT (P:Program) (T:TypeId):Option (List Value):=((P.info? T).bind (·.zero)).map fun z=>z.cells.toList
theorem zk7 {T:TypeId} {z:List Value} (h:zeroT P T=some z) (w:World):∃ v,(zeroValue T).run P w = .ok v w∧v.cells.toList=z:=by
  unfold zeroT at h
  cases e:P.info? T with
  | none=>simp [e] at h
  | some i =>
    cases e2:i.zero with
    | none=>simp [e,e2] at h
    | some v=>simp [e,e2] at h;exact ⟨v,by simp [zeroValue,typeInfo,e,e2],h⟩
theorem ARun.alloc {os:List Oper} {T:TypeId} {z:List Value} {d:Nat} (hn:d<N) (hz:zeroT P T=some z)
    (h:∀ b,Fresh S b→ARun P N ops os K ((d,.pointer (some ⟨b,0,none⟩)) :: E) (S.set b ⟨T,z,z.length⟩)):ARun P N ops (⟨some d,.alloc T,ty,pos,aft,none⟩ :: os) K E S:=fun a w g hv=>by
  rw [if_pos (by simp [Region.wanted])]
  obtain ⟨v,h1,h2⟩:=zk7 hz w
  unfold Oper.wp
  have:(execOp a.eval ⟨some d,.alloc T,ty,pos,aft,none⟩).run P w = .ok (.value (.pointer (some ⟨w.heap.size,0,none⟩))) (w.alloc (.cells v.cells T)):=by
    simp [execOp,Instr.alloc,newVar,newRow,h1]
  rw [this]
  refine ⟨_,_,h _ hv.freshAt,g.put hn _,?_⟩
  rw [← h2,Array.length_toList]
  exact Step.alloc hv T v.cells
def spl (cs:List Value) (k:Nat) (vs:List Value):List Value:=cs.take k ++ vs ++ cs.drop (k+vs.length)
theorem zd1 (cs:List Value) (k:Nat) (vs:List Value) (h:k+vs.length≤cs.length):(spl cs k vs).length=cs.length:=by simp [spl];omega
theorem zqD (cs:List Value) (k:Nat) (v:Value) (h:k<cs.length):spl cs k [v]=cs.set k v:=by
  unfold spl
  rw [List.set_eq_take_append_cons_drop,if_pos h];simp
theorem zj2 {cs:List Value} {cur:List Value} (h:cs <+: cur) (k:Nat) (vs:List Value) (hk:k≤cs.length) (hf:k+vs.length≤cur.length):spl cs k vs <+: spl cur k vs:=by
  obtain ⟨t,rfl⟩:=h
  unfold spl
  rw [List.take_append_of_le_length hk,List.append_assoc,List.append_assoc,List.prefix_append_right_inj,List.prefix_append_right_inj,List.drop_append]
  exact List.prefix_append _ _
theorem zd2 (w:World) (b o:Nat) (v:Value) (cur:Array Value) (e:TypeId) (fz:Nat × Nat) (h:w.heap[b]?=some (.cells cur e fz)):(w.setCell ⟨b,o,none⟩ v).heap[b]?=some (.cells (cur.setIfInBounds o v) e fz):=by
  simp [World.setCell,Array.getElem?_modify,h]
theorem zb4 (b:Nat) (e:TypeId) (fz:Nat × Nat):∀ (vs:List Value) (o:Nat) (w:World) (cur:Array Value),w.heap[b]?=some (.cells cur e fz)→o+vs.length≤cur.size → ∃ cur',(w.setCells b o vs).heap[b]?=some (.cells cur' e fz)∧cur'.toList=spl cur.toList o vs
  | [],o,w,cur,h,_=>⟨cur,h,by simp [spl]⟩
  | v :: vs,o,w,cur,h,hl=>by
    simp only [List.length_cons] at hl
    obtain ⟨cur',h1,h2⟩:=zb4 b e fz vs (o+1) _ _ (zd2 w b o v cur e fz h) (by simp;omega)
    refine ⟨cur',h1,?_⟩
    rw [h2]
    simp only [spl,Array.toList_setIfInBounds,List.length_cons]
    rw [List.set_eq_take_append_cons_drop,if_pos (by simp;omega)]
    have e1:(cur.toList.take o).length=o:=by simp;omega
    have e2:List.take (o+1) (cur.toList.take o ++ v :: cur.toList.drop (o+1))=cur.toList.take o ++ [v]:=by
      rw [List.take_append,e1]
      simp
      rw [List.take_of_length_le (by simp;omega)]
    have e3:List.drop (o+1+vs.length) (cur.toList.take o ++ v :: cur.toList.drop (o+1))=cur.toList.drop (o+(vs.length+1)):=by
      rw [List.drop_append,e1,List.drop_of_length_le (by simp;omega),List.nil_append,show o+1+vs.length-o=vs.length+1 from by omega,List.drop_succ_cons,List.drop_drop]
      congr 1;omega
    rw [e2,e3];simp
theorem zaL (b k:Nat) (hk:k≠b):∀ (vs:List Value) (o:Nat) (w:World),(w.setCells b o vs).heap[k]?=w.heap[k]?
  | [],_,_=>rfl
  | v :: vs,o,w=>by rw [World.setCells,zaL b k hk vs,Below.heap_setCell _ _ _ _ hk]
theorem zdC (b:Nat):∀ (vs:List Value) (o:Nat) (w:World),(w.setCells b o vs).os=w.os∧(w.setCells b o vs).tape=w.tape∧(w.setCells b o vs).output=w.output∧(w.setCells b o vs).heap.size=w.heap.size
  | [],_,_=>⟨rfl,rfl,rfl,rfl⟩
  | v :: vs,o,w=>by
    have:=zdC b vs (o+1) (w.setCell ⟨b,o,none⟩ v)
    rw [World.size_setCell] at this
    exact this
theorem za5 {w:World} (hv:View S w) {b o:Nat} {r:Blk} {vs:List Value} (hb:S.own b=some r) (ho:o≤r.cells.length) (hl:o+vs.length≤r.cells.length∨o+vs.length≤r.room) (h1:∀ v ∈ vs,v.oneCell'=true) :
    (storeCells ⟨b,o,none⟩ vs).run P w = .ok () (w.setCells b o vs)∧Step S w (S.set b ⟨r.elem,spl r.cells o vs,r.room⟩) (w.setCells b o vs):=by
  obtain ⟨cur,fz,e1,e2,e3,e4⟩:=hv.own b r hb
  have hcur:r.cells.length≤cur.size:=by have:=e2.length_le;simpa using this
  have hfit:o+vs.length≤cur.size:=by omega
  have hrun:=run_storeCells_cells (P:=P) b o vs 0 w (fun j hj=>by simp [World.cell?,e1];omega) (fun j hj=>by
    simp only [World.frozen?,e1]
    have:=e4 (o+j) (by omega)
    simpa using this) h1
  rw [Nat.add_zero] at hrun
  obtain ⟨cur',g1,g2⟩:=zb4 b r.elem fz vs o w cur e1 hfit
  obtain ⟨q1,q2,q3,q4⟩:=zdC b vs o w
  have hs':cur'.size=cur.size:=by rw [← Array.length_toList,g2,zd1 _ _ _ (by simpa using hfit),Array.length_toList]
  refine ⟨hrun,⟨⟨fun k r' hk=>?_,fun a v ha=>?_,hv.fzOf rfl (fun k hk _=>by
      rw [Mem.own_set_other _ _ (fun e=>by rw [e,hb] at hk;cases hk)];exact hk) fun k _ hk=>zaL b k (fun e=>by rw [e,hb] at hk;cases hk) vs o w⟩,q1,q2,q3,by omega,fun k hk hn=>?_,fun k hk=>?_,fun _ _ h=>.inl h⟩⟩
  · by_cases e:k=b
    · subst e
      rw [Mem.own_set_same] at hk
      cases hk
      exact ⟨cur',fz,g1,by rw [g2];exact zj2 e2 o vs ho (by simpa using hfit),by rw [hs'];exact e3,fun j hj=>e4 j (by rw [← hs'];exact hj)⟩
    · rw [Mem.own_set_other _ _ e] at hk
      rw [zaL b k e]
      exact hv.own k r' hk
  · obtain ⟨h1,h2⟩:=hv.ro a v ha
    have hne:a.block≠b:=fun e=>by rw [e,hb] at h2;cases h2
    refine ⟨(World.cell?_of_block (w:=w) (zaL b _ hne vs o w)).trans h1,?_⟩
    rw [Mem.own_set_other _ _ hne];exact h2
  · have hne:k≠b:=fun e=>by rw [e,hb] at hn;cases hn
    exact zaL b k hne vs o w
  · by_cases e:k=b
    · subst e;exact .inl (by rw [hb];simp)
    · rw [Mem.own_set_other _ _ e] at hk;exact .inl hk
theorem ARun.store {os:List Oper} {T:TypeId} {x y:Operand} {b o:Nat} {r:Blk} {v:Value} (hx:ev E x=some (.pointer (some ⟨b,o,none⟩))) (hy:ev E y=some v) (hs:sizeT P T=some v.cells.size) (hb:S.own b=some r) (hl:o+v.cells.size≤r.cells.length) (h1:v.cells.all (·.oneCell')=true)
    (h:ARun P N ops os K E (S.set b ⟨r.elem,spl r.cells o v.cells.toList,r.room⟩)):ARun P N ops (⟨none,.store T x y,ty,pos,aft,none⟩ :: os) K E S:=fun a w g hv=>by
  rw [if_pos (by simp [Region.wanted])]
  obtain ⟨h2,h3⟩:=za5 (P:=P) hv hb (vs:=v.cells.toList) (o:=o) (by omega) (.inl (by simpa using hl)) (fun u hu=>(Array.all_eq_true_iff_forall_mem.1 h1) u (by simpa using hu))
  unfold Oper.wp
  have:(execOp a.eval ⟨none,.store T x y,ty,pos,aft,none⟩).run P w = .ok .skip (w.setCells b o v.cells.toList):=by
    simp [execOp,g.ev hx,g.ev hy,Instr.storeAt,Instr.sureAddr,storeVar,zaS hs w,h2]
  rw [this]
  exact ⟨_,_,h,g.put0 _,h3⟩
end
end Mv
open Go.RowKit
namespace Mv
section
variable {P:Program} {N:Nat} {ops:Array Oper} {E:Env} {S:Mem} {K:Env→Mem→Prop}
variable {dst:Option Nat} {ty:TypeId} {pos:String} {aft:Array Edge} {gd:Option (Nat × Bool)}
def ACall (P:Program) (f:FuncId) (args:Array Value) (S:Mem) (R:Value→Mem→Prop):Prop :=
  ∀ w,View S w→Calls P f args w fun e w'=>∃ v S',e = .returned v∧R v S'∧Step S w S' w'
theorem ACall.mono {f:FuncId} {args:Array Value} {R R':Value→Mem→Prop} (h:ACall P f args S R) (hr:∀ v S',R v S'→R' v S'):ACall P f args S R':=fun w hv =>
  (h w hv).mono fun _ _ ⟨v,S',e,r,s⟩=>⟨v,S',e,hr _ _ r,s⟩
theorem ACall.of_calls {f:FuncId} {args:Array Value} {v:Value} (h:∀ w,Calls P f args w fun e w'=>e = .returned v∧Below w.heap.size w w'):ACall P f args S fun v' S'=>v'=v∧S'=S:=fun w hv =>
  (h w).mono fun _ _ ⟨he,hb⟩=>⟨v,S,he,⟨rfl,rfl⟩,Step.below hv hb⟩
theorem ACall.of_same {f:FuncId} {args:Array Value} {v:Value} (h:∀ w,Calls P f args w fun e w'=>e = .returned v∧w'=w):ACall P f args S fun v' S'=>v'=v∧S'=S :=
  ACall.of_calls fun w=>(h w).mono fun _ _ ⟨he,hw⟩=>⟨he,by rw [hw];exact Below.refl _ _⟩
def goFn (P:Program) (f:FuncId):Bool:=match (P.funcs[f]? : Option Func) with
  | some fn => fn.body.isSome && !(fn.name == "runtime.NumGoroutine")
  | none=>false
theorem zbJ {f:FuncId} (h:goFn P f=true) (args:Array Value) (w:World):(callFunc f args).run P w = .ok (.enter f args) w:=by
  unfold goFn at h
  cases e:P.funcs[f]? with
  | none=>simp [e] at h
  | some fn =>
    simp [e] at h
    cases hb:fn.body with
    | none=>simp [hb] at h
    | some c=>simp [callFunc,e,h.2,hb]
theorem ARun.call {os:List Oper} {f:FuncId} {xs:List Operand} {ats:Array TypeId} {vs:List Value} {d:Nat} {R:Value→Mem→Prop} (hn:d<N) (hf:goFn P f=true) (hx:evs E xs=some vs) (hc:ACall P f vs.toArray S R)
    (h:∀ v S',R v S'→ARun P N ops os K ((d,v) :: E) S'):ARun P N ops (⟨some d,.call ⟨.value (.func f),xs.toArray,ats⟩,ty,pos,aft,none⟩ :: os) K E S:=fun a w g hv=>by
  rw [if_pos (by simp [Region.wanted])]
  unfold Oper.wp
  have he:execOp a.eval ⟨some d,.call ⟨.value (.func f),xs.toArray,ats⟩,ty,pos,aft,none⟩=callFunc f vs.toArray:=by
    rw [execOp_call_go]
    simp [g.evs hx]
  rw [he,zbJ hf]
  simp only [Oper.upon]
  refine (hc w hv).mono fun e w' ⟨v,S',he,hr,s⟩=>?_
  subst he
  exact ⟨_,_,h v S' hr,g.put hn v,s⟩
theorem ARun.callG {os:List Oper} {f:FuncId} {xs:List Operand} {ats:Array TypeId} {vs:List Value} {d:Nat} {R:Value→Mem→Prop} (j:Nat) (t:Bool) (dj:Nat) (hj:(ops[j]?).bind (·.dst)=some dj) (hjn:dj<N) (hb:lk E dj=some (.bool t))
    (hn:d<N) (hf:goFn P f=true) (hx:evs E xs=some vs) (hc:ACall P f vs.toArray S R)
    (h:∀ v S',R v S'→ARun P N ops os K ((d,v) :: E) S'):ARun P N ops (⟨some d,.call ⟨.value (.func f),xs.toArray,ats⟩,ty,pos,aft,some (j,t)⟩ :: os) K E S:=fun a w g hv=>by
  cases e:ops[j]? with
  | none=>simp [e] at hj
  | some og =>
    simp [e] at hj
    rw [if_pos (by simp [Region.wanted,zbV g e hj hjn hb])]
    unfold Oper.wp
    have he:execOp a.eval ⟨some d,.call ⟨.value (.func f),xs.toArray,ats⟩,ty,pos,aft,some (j,t)⟩=callFunc f vs.toArray:=by
      rw [execOp_call_go]
      simp [g.evs hx]
    rw [he,zbJ hf]
    simp only [Oper.upon]
    refine (hc w hv).mono fun e w' ⟨v,S',he,hr,s⟩=>?_
    subst he
    exact ⟨_,_,h v S' hr,g.put hn v,s⟩

/-! ### A function's beginning and end -/
def ResV (P:Program):List ResultVar→Env→Mem→List Value→Prop
  | [],_,_,vs=>vs = []
  | .tmp t :: rs,E,S,vs=>∃ v us,lk E t=some v∧ResV P rs E S us∧vs=v :: us
  | .cell t T :: rs,E,S,vs=>∃ a v us,lk E t=some (.pointer (some a))∧((plainT P T=true∧S.rd a=some v)∨(aggT P T=true ∧ ∃ cs,sizeT P T=some cs.length∧S.rds a cs∧v = .agg cs.toArray))∧ResV P rs E S us∧vs=v :: us
def one (vs:List Value):Value:=match vs with
  | [v]=>v
  | vs=>.tuple vs.toArray
def Aret (P:Program) (rs:List ResultVar) (R:Value→Mem→Prop):Exit→Env→Mem→Prop
  | .normal,E,S=>∃ vs S',ResV P rs E S vs∧S'.Less S∧R (one vs) S'
  | .ret,E,S=>∃ vs S',ResV P rs E S vs∧S'.Less S∧R (one vs) S'
  | _,_,_=>False
def rvS (tmps:Array Value):ResultVar→Sem Value
  | .tmp t=>pure (tmps.getD t undef)
  | .cell x t=>do loadVar t (← asAddr (tmps.getD x undef))
theorem zj3 (fn:Func) (tmps:Array Value):results fn tmps=(fn.results.mapM (rvS tmps) >>= fun vs=>pure (if h:vs.size=1 then vs[0] else .tuple vs)):=by
  unfold results
  congr 1
  try (congr 1;funext r;cases r <;> rfl)
theorem zev {E:Env} {S:Mem} {a:Act} {w:World} (g:Good N E a) (hv:View S w):∀ (rs:List ResultVar) (vs:List Value),ResV P rs E S vs →
    (rs.mapM (rvS a.tmps)).run P w = .ok vs w:=by
  intro rs
  induction rs with
  | nil=>intro vs h;cases h;simp
  | cons r rs ih =>
    intro vs h
    cases r with
    | tmp t =>
      obtain ⟨v,us,h1,h2,rfl⟩:=h
      rw [List.mapM_cons,Sem.run_bind]
      simp only [rvS,Sem.run_pure,Result.andThen_ok,Sem.run_bind,ih us h2,g.at_ t v h1]
    | cell x T =>
      obtain ⟨ad,v,us,h1,h3,h2,rfl⟩:=h
      have hl:(loadVar T ad).run P w = .ok v w:=by
        rcases h3 with ⟨hp,hr⟩ | ⟨hp,cs,hs,hr,rfl⟩
        · simp [loadVar,zdl hp w,hv.rd hr]
        · simp [loadVar,zdm hp w,zaS hs w,hv.rds (P:=P) hr]
      rw [List.mapM_cons,Sem.run_bind]
      simp only [rvS,Sem.run_pure,Result.andThen_ok,Sem.run_bind,ih us h2,g.at_ x _ h1,asAddr,hl]
theorem zeQ {fn:Func} {rs:List ResultVar} (hrs:fn.results=rs.toArray) {E:Env} {S:Mem} {a:Act} {w:World} {vs:List Value} (g:Good N E a) (hv:View S w) (h:ResV P rs E S vs):(results fn a.tmps).run P w = .ok (one vs) w:=by
  have h1:=zev g hv rs vs h
  rw [zj3,hrs,List.mapM_toArray,Sem.run_bind,Sem.run_map,h1]
  simp only [Result.andThen_ok,Sem.run_pure]
  congr 1
  match vs with
  | []=>rfl
  | [v]=>rfl
  | v :: u :: us=>rfl
def SubA:Env→List Value→Prop
  | [],_=>True
  | (k,v) :: E,args=>args[k]?=some v∧SubA E args
theorem SubA.lk {E:Env} {args:List Value} (h:SubA E args) {d:Nat} {v:Value} (hd:Mv.lk E d=some v):args[d]?=some v:=by
  induction E with
  | nil=>cases hd
  | cons p E ih =>
    obtain ⟨k,u⟩:=p
    simp only [Mv.lk] at hd
    split at hd
    · rename_i e;subst e;cases hd;exact h.1
    · exact ih h.2 hd
theorem ACall.enter {f:FuncId} {fn:Func} {c:Code} {args:List Value} {rs:List ResultVar} {R:Value→Mem→Prop} (n:Nat) (E0:Env) (hf:P.funcs[f]?=some fn) (hb:fn.body=some c) (hn:fn.ntmps=n) (hl:args.length≤n) (hr:fn.results=rs.toArray) (hE:SubA E0 args)
    (h:AWP P n c (Aret P rs R) E0 S):ACall P f args.toArray S R:=fun w hv=>by
  refine calls_of_wp hf hb (wp_mono (h _ w ⟨?_,rfl,fun d v hd=>?_⟩ hv) fun e a' w' ⟨E',S',k,g,s⟩=>?_)
  · simp only [Array.size_append,List.size_toArray,Array.size_replicate];omega
  · have:=hE.lk hd
    have hlt:d<args.length:=by
      rcases Nat.lt_or_ge d args.length with h | h
      · exact h
      · rw [List.getElem?_eq_none h] at this;cases this
    simp only [Array.getD_eq_getD_getElem?,Array.getElem?_append,List.size_toArray,hlt,if_true,List.getElem?_toArray,this,Option.getD_some]
  · cases e with
    | normal =>
      obtain ⟨vs,S2,h1,h2,h3⟩:=k
      exact ⟨g.defers,one vs,zeQ hr g s.view h1,one vs,S2,rfl,h3,s.less h2⟩
    | ret =>
      obtain ⟨vs,S2,h1,h2,h3⟩:=k
      exact ⟨g.defers,one vs,zeQ hr g s.view h1,one vs,S2,rfl,h3,s.less h2⟩
    | exit id=>exact k.elim
    | goto l=>exact k.elim
    | panic c=>exact k.elim
    | outgrown=>exact k.elim
end
end Mv
open Go.RowKit
namespace Mv
def slT (P:Program) (T:TypeId):Option (TypeId × Nat × Nat × List Value):=match P.underlying T with
  | some (.slice e)=>match P.info? e with
    | some i=>match i.zero with
      | some z=>some (e,i.size,i.bytes,z.cells.toList)
      | none=>none
    | none=>none
  | _=>none
theorem zaH {P:Program} {T e:TypeId} {n y:Nat} {z:List Value} (h:slT P T=some (e,n,y,z)):P.underlying T=some (.slice e) ∧ ∃ i v,P.info? e=some i∧i.zero=some v∧i.size=n∧i.bytes=y∧v.cells.toList=z:=by
  unfold slT at h
  cases e1:P.underlying T with
  | none=>simp [e1] at h
  | some d =>
    cases d <;> simp [e1] at h
    rename_i e'
    cases e2:P.info? e' with
    | none=>simp [e2] at h
    | some i =>
      cases e3:i.zero with
      | none=>simp [e2,e3] at h
      | some v =>
        simp [e2,e3] at h
        obtain ⟨rfl,rfl,rfl,rfl⟩:=h
        exact ⟨rfl,i,v,e2,e3,rfl,rfl,rfl⟩
theorem del_set (S:Mem) (b:Nat) (r:Blk):(S.del b).set b r=S.set b r:=by
  unfold Mem.del Mem.set;congr 1;funext k;by_cases h:k=b <;> simp [h]
theorem zeR {S:Mem} {b:Nat} {r:Blk} (h:∀ a v,S.ro a=some v→S.own a.block=none) (hb:S.own b=some r):Fresh (S.del b) b:=⟨by simp [Mem.del],fun a v ha e=>by
  have:=h a v ha;rw [e,hb] at this;cases this⟩
theorem zb5 (S:Mem) (b c:Nat) (r:Blk):((S.del b).set c r).Less (S.set c r):=⟨fun k r' hk=>by
  by_cases h:k=c
  · subst h;simpa [Mem.set] using hk
  · rw [Mem.own_set_other _ _ h] at hk ⊢
    simp only [Mem.del] at hk
    split at hk
    · cases hk
    · exact hk,rfl⟩
theorem Less.del (S:Mem) (b:Nat):(S.del b).Less S:=⟨fun k r' hk=>by
  simp only [Mem.del] at hk
  split at hk
  · cases hk
  · exact hk,rfl⟩
theorem Less.set {S S':Mem} (h:S'.Less S) (b:Nat) (r:Blk):(S'.set b r).Less (S.set b r):=⟨fun k r' hk=>by
  by_cases e:k=b
  · subst e;rw [Mem.own_set_same] at hk ⊢;exact hk
  · rw [Mem.own_set_other _ _ e] at hk ⊢;exact h.1 k r' hk,h.2⟩
theorem zk8 (S:Mem) (b:Nat) (h:S.own b=none):S.del b=S:=by
  cases S;unfold Mem.del;congr 1;funext k;by_cases e:k=b
  · subst e;simpa using h.symm
  · simp [e]
section
variable {P:Program} {N:Nat} {ops:Array Oper} {E:Env} {S:Mem} {K:Env→Mem→Prop}
variable {dst:Option Nat} {ty:TypeId} {pos:String} {aft:Array Edge} {gd:Option (Nat × Bool)}
theorem Step.allocP {w:World} (h:View S w) (T:TypeId) (cs:Array Value) (known:List Value) (room:Nat) (hk:known <+: cs.toList) (hr:room≤cs.size):Step S w (S.set w.heap.size ⟨T,known,room⟩) (w.alloc (.cells cs T)):=by
  have hs:=Step.alloc h T cs
  refine ⟨⟨fun b r hb=>?_,fun a v ha=>?_,h.fzOf rfl (fun k hk hlt=>zdZ (Nat.le_refl _) hk hlt) hs.block⟩,hs.os,hs.tape,hs.output,hs.size,hs.block,fun k hk=>?_,hs.ro⟩
  · by_cases e:b=w.heap.size
    · subst e
      rw [Mem.own_set_same] at hb
      cases hb
      exact ⟨cs,(0,0),heap_alloc_new w _,hk,hr,fun j _ x=>by simp at x⟩
    · rw [Mem.own_set_other _ _ e] at hb
      exact hs.view.own b r (by rw [Mem.own_set_other _ _ e];exact hb)
  · obtain ⟨h1,h2⟩:=hs.view.ro a v ha
    refine ⟨h1,?_⟩
    by_cases e:a.block=w.heap.size
    · rw [e,Mem.own_set_same] at h2;cases h2
    · rw [Mem.own_set_other _ _ e] at h2 ⊢;exact h2
  · by_cases e:k=w.heap.size
    · exact .inr (by omega)
    · rw [Mem.own_set_other _ _ e] at hk;exact .inl hk
def madeL (z:List Value) (n:Nat):List Value:=(madeCells z.toArray n).toList
theorem zbr (z:List Value) (n:Nat):(madeL z n).length=n:=by simp [madeL,size_madeCells]
theorem za8 (v:Value) (n:Nat):madeL [v] n=List.replicate n v:=by
  apply List.ext_getElem
  · simp [zbr]
  · intro i h1 h2
    simp [madeL,madeCells,Nat.mod_one]
theorem ARun.makeSlice {os:List Oper} {T e:TypeId} {n y:Nat} {z:List Value} {x1 x2:Operand} {k1 k2:IntKind} {l c:Int} {d:Nat} (hn:d<N) (hT:slT P T=some (e,n,y,z)) (hx:ev E x1=some (.int k1 l)) (hy:ev E x2=some (.int k2 c))
    (h0:0≤l) (hlc:l≤c) (hb:(y:Int)*c≤281474976710656) (h63:c≤9223372036854775807)
    (h:∀ b,Fresh S b→ARun P N ops os K ((d,.slice (some ⟨b,0,none⟩) l.toNat c.toNat) :: E) (S.set b ⟨e,madeL z (c.toNat*n),c.toNat*n⟩)):ARun P N ops (⟨some d,.makeSlice T x1 x2,ty,pos,aft,none⟩ :: os) K E S:=fun a w g hv=>by
  rw [if_pos (by simp [Region.wanted])]
  obtain ⟨hu,i,v,e1,e2,rfl,rfl,rfl⟩:=zaH hT
  unfold Oper.wp
  have:(execOp a.eval ⟨some d,.makeSlice T x1 x2,ty,pos,aft,none⟩).run P w = .ok (.value (.slice (some ⟨w.heap.size,0,none⟩) l.toNat c.toNat)) (w.alloc (.cells (madeCells v.cells (c.toNat*i.size)) e)):=by
    simp only [execOp,g.ev hx,g.ev hy]
    rw [Sem.run_bind,run_make (P:=P) w T e i v hu e1 e2 k1 k2 l c h0 hlc hb h63]
    rfl
  rw [this]
  refine ⟨_,_,h _ hv.freshAt,g.put hn _,?_⟩
  exact Step.allocP hv e _ _ _ (by unfold madeL;simp) (by simp [size_madeCells])
theorem ARun.build1 {os:List Oper} {T e:TypeId} {n y:Nat} {z:List Value} {x:Operand} {u:Value} {d:Nat} (hn:d<N) (hT:slT P T=some (e,n,y,z)) (hz:z.length=n) (hp:0<n) (hn24:n≤16777216) (hx:ev E x=some u) (hu:u.cells.size=n)
    (h:∀ b,Fresh S b→ARun P N ops os K ((d,.slice (some ⟨b,0,none⟩) 1 1) :: E) (S.set b ⟨e,u.cells.toList,n⟩)):ARun P N ops (⟨some d,.buildSlice T 1 #[(0,x)],ty,pos,aft,none⟩ :: os) K E S:=fun a w g hv=>by
  rw [if_pos (by simp [Region.wanted])]
  obtain ⟨hus,i,v,e1,e2,rfl,rfl,rfl⟩:=zaH hT
  have hz':v.cells.size=i.size:=by simpa using hz
  unfold Oper.wp
  have hfold:∀ (cs:List Value) (k:Nat) (acc:Array Value),k+cs.length=acc.size→(cs.zipIdx.foldl (fun (bs:Array Value) (p:Value × Nat)=>bs.setIfInBounds (k+p.2) p.1) acc).toList=acc.toList.take k ++ cs:=by
    intro cs k acc hl
    have key:∀ (cs:List Value) (m:Nat) (acc:Array Value),k+m+cs.length=acc.size→((cs.zipIdx m).foldl (fun (bs:Array Value) (p:Value × Nat)=>bs.setIfInBounds (k+p.2) p.1) acc).toList=acc.toList.take (k+m) ++ cs:=by
      intro cs
      induction cs with
      | nil=>intro m acc hl;simp at hl ⊢;rw [List.take_of_length_le (by simp;omega)]
      | cons c cs ih =>
        intro m acc hl
        simp only [List.length_cons] at hl
        rw [List.zipIdx_cons,List.foldl_cons,ih (m+1) _ (by simp;omega)]
        simp only [Array.toList_setIfInBounds]
        rw [List.set_eq_take_append_cons_drop,if_pos (by simp;omega)]
        have e1:(acc.toList.take (k+m)).length=k+m:=by simp;omega
        rw [List.take_append,e1,List.take_of_length_le (by omega),show k+(m+1)-(k+m)=1 from by omega]
        simp
    exact key cs 0 acc hl
  have hrun:(execOp a.eval ⟨some d,.buildSlice T 1 #[(0,x)],ty,pos,aft,none⟩).run P w = .ok (.value (.slice (some ⟨w.heap.size,0,none⟩) 1 1)) (w.alloc (.cells u.cells e)):=by
    have hz1:(zeroValue e).run P w = .ok v w:=by simp [zeroValue,typeInfo,e1,e2]
    have hne : ¬ (i.size=0):=by omega
    have hle : ¬ (16777216<i.size):=by omega
    have hf:=hfold u.cells.toList 0 ((Array.range i.size).map (v.cells[· % v.cells.size]!)) (by simp [hu])
    simp only [List.take_zero,List.nil_append,Nat.zero_add] at hf
    have hf':Array.foldl (fun (bs:Array Value) (p:Value × Nat)=>bs.setIfInBounds p.2 p.1) ((Array.range i.size).map (v.cells[· % v.cells.size]!)) u.cells.zipIdx=u.cells:=by
      apply Array.ext'
      rw [← hf,← Array.foldl_toList,Array.toList_zipIdx]
    simp [execOp,g.ev hx,Instr.buildSlice,run_underlying hus w,sizeOf,typeInfo,e1,hne,hle,hz1,Instr.fill,hu,newRow]
    have hst:i.size=u.cells.zipIdx.size:=by simp [hu]
    rw [hst] at hf' ⊢
    rw [hf']
  rw [hrun]
  refine ⟨_,_,h _ hv.freshAt,g.put hn _,?_⟩
  exact Step.allocP hv e u.cells _ _ List.prefix_rfl (by omega)
theorem ARun.appendRun {os:List Oper} {T e:TypeId} {n y:Nat} {z:List Value} {x1 x2:Operand} {b k c:Nat} {xs news:List Value} {a2:Addr} {m c2 d:Nat} (hn:d<N) (hT:slT P T=some (e,n,y,z)) (hz:z.length=n)
    (hx:ev E x1=some (.slice (some ⟨b,0,none⟩) k c)) (hb:S.own b=some ⟨e,xs,c*n⟩) (hxs:xs.length=k*n)
    (hy:ev E x2=some (.slice (some a2) m c2)) (hnews:S.rds a2 news) (hnl:news.length=m*n) (h1:∀ v ∈ news,v.oneCell'=true) (hfit:(k+m)*y≤140737488355328) (h63:k+m≤9223372036854775807)
    (h:∀ b' c',Fresh (S.del b) b'→k+m≤c'→ARun P N ops os K ((d,.slice (some ⟨b',0,none⟩) (k+m) c') :: E) ((S.del b).set b' ⟨e,xs ++ news,c'*n⟩)) :
    ARun P N ops (⟨some d,.call ⟨.builtin .append,#[x1,x2],#[T,T]⟩,ty,pos,aft,none⟩ :: os) K E S:=fun a w g hv=>by
  rw [if_pos (by simp [Region.wanted])]
  obtain ⟨hu,i,v,e1,e2,rfl,rfl,rfl⟩:=zaH hT
  have hz':v.cells.size=i.size:=by simpa using hz
  have hex:(execOp a.eval ⟨some d,.call ⟨.builtin .append,#[x1,x2],#[T,T]⟩,ty,pos,aft,none⟩).run P w=((Builtin.append_ #[T,T] ty #[.slice (some ⟨b,0,none⟩) k c,.slice (some a2) m c2]).run P w).andThen fun v w'=>.ok (.value v) w':=by
    simp [execOp,resolve,invoke,builtin,g.ev hx,g.ev hy]
  unfold Oper.wp
  rw [hex]
  by_cases hroom:k+m≤c
  · obtain ⟨q1,q2⟩:=za5 (P:=P) hv hb (vs:=news) (o:=k*i.size) (by simp [hxs]) (.inr (by simp only [hnl];rw [← Nat.add_mul];exact Nat.mul_le_mul_right _ hroom)) h1
    have hf:=run_firstCells_some (P:=P) w i.size m a2 m c2 news hnl (fun j u hj=>hv.rd (hnews j u hj))
    have hr:(Builtin.append_ #[T,T] ty #[.slice (some ⟨b,0,none⟩) k c,.slice (some a2) m c2]).run P w = .ok (.slice (some ⟨b,0,none⟩) (k+m) c) (w.setCells b (k*i.size) news):=by
      simp [Builtin.append_,run_underlying hu,sizeOf,typeInfo,e1,Builtin.lenOf,hroom,hf,zaz,q1]
    rw [hr]
    have hsp:spl xs (k*i.size) news=xs ++ news:=by
      unfold spl
      rw [List.take_of_length_le (by omega),List.drop_of_length_le (by omega),List.append_nil]
    simp only [hsp] at q2
    refine ⟨_,_,h b c (zeR (fun a v ha=>(hv.ro a v ha).2) hb) hroom,g.put hn _,?_⟩
    rw [del_set];exact q2
  · have hfit':Builtin.nextslicecap (k+m) c*i.bytes≤281474976710656:=growslice_fits (by omega) hfit
    have hr:=run_append_grow (P:=P) w T ty e i v hu e1 e2 ⟨b,0,none⟩ k c xs hxs (fun j u hj=>hv.rd (by rw [zaz,Nat.zero_add,zdf hb];exact hj)) a2 m c2 news hnl (fun j u hj=>hv.rd (hnews j u hj)) (by omega) (by omega) hfit'
    rw [hr]
    have hge:=grownCap_ge w (k+m) c e
    have hvd:View S w.drew:=hv.drawn _
    have hst:=Step.allocP hvd e (xs.toArray ++ news.toArray ++ Builtin.zeroCells v.cells (grownCap w (k+m) c e-(k+m))) (xs ++ news) (grownCap w (k+m) c e*i.size) (by simp [List.append_assoc]) (by
      simp only [Array.size_append,List.size_toArray,size_zeroCells,hz',hxs,hnl,← Nat.add_mul]
      exact Nat.mul_le_mul_right _ (by omega))
    refine ⟨_,_,h w.heap.size (grownCap w (k+m) c e) (hv.freshAt.less (Less.del S b)) hge,g.put hn _,?_⟩
    exact ((Step.drawn hv _).trans hst).less (zb5 S b _ _)
theorem ARun.appendNil {os:List Oper} {T e:TypeId} {n y:Nat} {z:List Value} {x1 x2:Operand} {news:List Value} {a2:Addr} {m c2 d:Nat} (hn:d<N) (hT:slT P T=some (e,n,y,z)) (hz:z.length=n)
    (hx:ev E x1=some (.slice none 0 0)) (hy:ev E x2=some (.slice (some a2) m c2)) (hnews:S.rds a2 news) (hnl:news.length=m*n) (hm:0<m) (hfit:m*y≤140737488355328) (h63:m≤9223372036854775807)
    (h:∀ b' c',Fresh S b'→m≤c'→ARun P N ops os K ((d,.slice (some ⟨b',0,none⟩) m c') :: E) (S.set b' ⟨e,news,c'*n⟩)) :
    ARun P N ops (⟨some d,.call ⟨.builtin .append,#[x1,x2],#[T,T]⟩,ty,pos,aft,none⟩ :: os) K E S:=fun a w g hv=>by
  rw [if_pos (by simp [Region.wanted])]
  obtain ⟨hu,i,v,e1,e2,rfl,rfl,rfl⟩:=zaH hT
  have hz':v.cells.size=i.size:=by simpa using hz
  have hex:(execOp a.eval ⟨some d,.call ⟨.builtin .append,#[x1,x2],#[T,T]⟩,ty,pos,aft,none⟩).run P w=((Builtin.append_ #[T,T] ty #[.slice none 0 0,.slice (some a2) m c2]).run P w).andThen fun v w'=>.ok (.value v) w':=by
    simp [execOp,resolve,invoke,builtin,g.ev hx,g.ev hy]
  unfold Oper.wp
  rw [hex,run_append_nil (P:=P) w T ty e i v hu e1 e2 a2 m c2 news hnl (fun j u hj=>hv.rd (hnews j u hj)) hm (by omega) (by omega)]
  have hge:=grownCap_ge w m 0 e
  have hvd:View S w.drew:=hv.drawn _
  have hst:=Step.allocP hvd e (news.toArray ++ Builtin.zeroCells v.cells (grownCap w m 0 e-m)) news (grownCap w m 0 e*i.size) (by simp) (by
    simp only [Array.size_append,List.size_toArray,size_zeroCells,hz',hnl,← Nat.add_mul]
    exact Nat.mul_le_mul_right _ (by omega))
  exact ⟨_,_,h w.heap.size (grownCap w m 0 e) hv.freshAt hge,g.put hn _,(Step.drawn hv _).trans hst⟩
theorem ARun.appendNone {os:List Oper} {T e:TypeId} {n y:Nat} {z:List Value} {x1 x2:Operand} {A:Option Addr} {k c d c2:Nat} {a2:Option Addr} (hn:d<N) (hT:slT P T=some (e,n,y,z)) (hk:k≤c)
    (hx:ev E x1=some (.slice A k c)) (hy:ev E x2=some (.slice a2 0 c2)) (h:ARun P N ops os K ((d,.slice A k c) :: E) S) :
    ARun P N ops (⟨some d,.call ⟨.builtin .append,#[x1,x2],#[T,T]⟩,ty,pos,aft,none⟩ :: os) K E S:=fun a w g hv=>by
  rw [if_pos (by simp [Region.wanted])]
  obtain ⟨hu,i,v,e1,e2,rfl,rfl,rfl⟩:=zaH hT
  have hf:(Builtin.firstCells i.size 0 (.slice a2 0 c2)).run P w = .ok #[] w:=by
    cases a2 <;> simp [Builtin.firstCells,loadCells,loadCellsFrom]
  have hr:(execOp a.eval ⟨some d,.call ⟨.builtin .append,#[x1,x2],#[T,T]⟩,ty,pos,aft,none⟩).run P w = .ok (.value (.slice A k c)) w:=by
    cases A <;> simp [execOp,resolve,invoke,builtin,g.ev hx,g.ev hy,Builtin.append_,run_underlying hu,sizeOf,typeInfo,e1,Builtin.lenOf,hk,hf,storeCells]
  unfold Oper.wp
  rw [hr]
  exact ⟨_,_,h,g.put hn _,Step.refl hv⟩

/-! ### Bytes and texts -/
def bytesT (P:Program) (T:TypeId):Option TypeId:=match P.underlying T with
  | some (.slice e)=>match P.underlying e with
    | some (.int .u8)=>some e
    | _=>none
  | _=>none
def strT (P:Program) (T:TypeId):Bool:=match P.underlying T with | some .string=>true | _=>false
theorem zdn {T e:TypeId} (h:bytesT P T=some e):P.underlying T=some (.slice e)∧P.underlying e=some (.int .u8):=by
  unfold bytesT at h
  cases e1:P.underlying T with
  | none=>simp [e1] at h
  | some d =>
    cases d <;> simp [e1] at h
    rename_i e'
    cases e2:P.underlying e' with
    | none=>simp [e2] at h
    | some d2 =>
      cases d2 <;> simp [e2] at h
      rename_i k
      cases k <;> simp at h
      subst h
      exact ⟨rfl,e2⟩
theorem zau {T:TypeId} (h:strT P T=true):P.underlying T=some .string:=by
  unfold strT at h
  cases e1:P.underlying T with
  | none=>simp [e1] at h
  | some d=>cases d <;> simp_all
def cellsB (l:List UInt8):List Value:=l.map fun c=>.int .u8 (nb c)
theorem zav (l:List UInt8):(cellsB l).length=l.length:=by simp [cellsB]
theorem Calm.toStr {s t e:TypeId} {x:Operand} {a:Addr} {n cap:Nat} {l:List UInt8} (hs:bytesT P s=some e) (ht:strT P t=true) (hx:ev E x=some (.slice (some a) n cap)) (hn:l.length=n) (hl:S.rds a (cellsB l)) :
    ACalm P N ⟨dst,.convert s t x,ty,pos,aft,gd⟩ E S (.string (bs l)):=fun c w g hv=>by
  obtain ⟨h1,h2⟩:=zdn hs
  subst hn
  have:=run_convert_bytes_back (P:=P) w s t e a cap l h1 h2 (zau ht) (fun j hj=>hv.rd (hl j _ (by simp [cellsB,hj,nb])))
  simp only [execOp,g.ev hx]
  rw [Sem.run_bind,this]
  rfl
theorem Calm.toStrNil {s t e:TypeId} {x:Operand} {n cap:Nat} (hs:bytesT P s=some e) (ht:strT P t=true) (hx:ev E x=some (.slice none n cap)) :
    ACalm P N ⟨dst,.convert s t x,ty,pos,aft,gd⟩ E S (.string (bs [])):=fun c w g hv=>by
  obtain ⟨h1,h2⟩:=zdn hs
  simp [execOp,g.ev hx,convert,run_underlying h1,run_underlying h2,run_underlying (zau ht),Conv.bytesToString]
  rfl
theorem ARun.toBytes {os:List Oper} {s t e:TypeId} {x:Operand} {u:ByteArray} {d:Nat} (hn:d<N) (hs:strT P s=true) (ht:bytesT P t=some e) (hx:ev E x=some (.string u))
    (h:∀ b c,Fresh S b→u.size≤c→ARun P N ops os K ((d,.slice (some ⟨b,0,none⟩) u.size c) :: E) (S.set b ⟨e,cellsB u.data.toList,c⟩)) (he8:e=5:=by rfl):ARun P N ops (⟨some d,.convert s t x,ty,pos,aft,none⟩ :: os) K E S:=fun a w g hv=>by
  rw [if_pos (by simp [Region.wanted])]
  obtain ⟨h1,h2⟩:=zdn ht
  have hr:=Lib.run_convert_string_bytes (P:=P) w s t e u (zau hs) h1 h2
  unfold Oper.wp
  have hex:(execOp a.eval ⟨some d,.convert s t x,ty,pos,aft,none⟩).run P w = .ok (.value (.slice (some ⟨w.heap.size,0,none⟩) u.size (grownCap w u.size 0 e))) (Lib.bytesWorld w e u):=by
    simp only [execOp,g.ev hx]
    rw [Sem.run_bind,hr]
    rfl
  rw [hex]
  have hge:=grownCap_ge w u.size 0 e
  have hb:=conv_below w e u
  have hs0:=Step.below hv hb
  refine ⟨_,_,h w.heap.size _ hv.freshAt hge,g.put hn _,⟨⟨fun k r hk=>?_,fun ad v ha=>?_,hv.fzOf rfl (fun k hk hlt=>zdZ (Nat.le_refl _) hk hlt) hs0.block⟩,hs0.os,hs0.tape,hs0.output,hs0.size,hs0.block,fun k hk=>?_,fun _ _ h=>.inl h⟩⟩
  · by_cases e0:k=w.heap.size
    · subst e0
      rw [Mem.own_set_same] at hk
      cases hk
      have husz:u.size=u.data.size:=rfl
      refine ⟨_,_,Lib.bytesWorld_at_new w e u,?_,?_,fun j hj x=>?_⟩
      · simp [Lib.bytesCells,cellsB,nb]
      · simp only [Lib.bytesCells,Array.size_append,Array.size_map,Array.size_replicate];omega
      · have hj':=hj.resolve_right (fun h=>h.2 he8);simp at x;omega
    · rw [Mem.own_set_other _ _ e0] at hk
      exact hs0.view.own k r hk
  · obtain ⟨q1,q2⟩:=hs0.view.ro ad v ha
    refine ⟨q1,?_⟩
    have hlt:=World.block_lt_of_cell? _ _ (hv.ro ad v ha).1
    rw [Mem.own_set_other _ _ (by omega)];exact q2
  · by_cases e0:k=w.heap.size
    · exact .inr (by omega)
    · rw [Mem.own_set_other _ _ e0] at hk;exact .inl hk
end
end Mv
open Go.RowKit
namespace Mv
def Closed (ops:Array Oper) (listed:Array Bool):Prop:=∀ k o,ops[k]?=some o→listed.getD k false=true → ∀ e ∈ o.after,Region.binds .any e=true→listed.getD e.on false=true
theorem zcM (ops:Array Oper) (n:Nat):Closed ops (Array.replicate n false):=fun k o _ h=>by
  by_cases e:k<n <;> simp [e] at h
theorem zbB {ops:Array Oper} {listed:Array Bool} (h:Closed ops listed) {i:Nat} (hi:i ∈ Region.ready .any ops listed):Closed ops (listed.setIfInBounds i true):=fun k o hk hl e he hb=>by
  refine getD_set_true ?_
  by_cases hki:i=k
  · subst hki
    obtain ⟨_,o',ho',hall⟩:=mem_ready.1 hi
    obtain rfl:o=o':=Option.some.inj (hk.symm.trans ho')
    exact hall e he hb
  · rw [getD_set_ne false hki] at hl
    exact h k o hk hl e he hb
def anc1 (acc:List Nat) (o:Oper):Nat:=o.after.toList.foldl (fun m e=>if Region.binds .any e then m ||| (1 <<< e.on) ||| acc.getD e.on 0 else m) 0
def ancs (l:List Oper):List Nat:=l.foldl (fun acc o=>acc ++ [anc1 acc o]) []
theorem zhZ (i n:Nat) (h:Nat.testBit (1 <<< n) i=true):i=n:=by
  rw [Nat.one_shiftLeft,Nat.testBit_two_pow] at h
  have:n=i:=by simpa using h
  exact this.symm
theorem zk9 (acc:List Nat) (es:List Edge) (m0 i:Nat) (h:Nat.testBit (es.foldl (fun m e=>if Region.binds .any e then m ||| (1 <<< e.on) ||| acc.getD e.on 0 else m) m0) i=true) :
    Nat.testBit m0 i=true ∨ ∃ e ∈ es,Region.binds .any e=true∧(i=e.on∨Nat.testBit (acc.getD e.on 0) i=true):=by
  induction es generalizing m0 with
  | nil=>exact .inl h
  | cons e es ih =>
    rw [List.foldl_cons] at h
    rcases ih _ h with h1 | ⟨e',he',hb,h2⟩
    · split at h1
      · rename_i hb
        simp only [Nat.testBit_or,Bool.or_eq_true] at h1
        rcases h1 with (h1 | h1) | h1
        · exact .inl h1
        · exact .inr ⟨e,by simp,hb,.inl (zhZ _ _ h1)⟩
        · exact .inr ⟨e,by simp,hb,.inr h1⟩
      · exact .inl h1
    · exact .inr ⟨e',by simp [he'],hb,h2⟩
def Anc (ops:Array Oper) (i j:Nat):Prop:=∀ listed,Closed ops listed→(∀ o,ops[j]?=some o → ∀ e ∈ o.after,Region.binds .any e=true→listed.getD e.on false=true)→listed.getD i false=true
theorem zk_ (ops:Array Oper):∀ (l:List Oper) (pre acc:List Nat) (k:Nat),(∀ j,l[j]?=ops[k+j]?)→acc.length=k→(∀ j i,Nat.testBit (acc.getD j 0) i=true → ∃ o,ops[j]?=some o∧Anc ops i j) →
    ∀ j i,Nat.testBit ((l.foldl (fun acc o=>acc ++ [anc1 acc o]) acc).getD j 0) i=true → ∃ o,ops[j]?=some o∧Anc ops i j:=by
  intro l
  induction l with
  | nil=>intro pre acc k _ _ h;exact h
  | cons o l ih =>
    intro pre acc k hl hk h
    rw [List.foldl_cons]
    have h0:ops[k]?=some o:=by simpa using (hl 0).symm
    refine ih [] (acc ++ [anc1 acc o]) (k+1) (fun j=>by have:=hl (j+1);simpa [Nat.add_assoc,Nat.add_comm 1 j] using this) (by simp [hk]) fun j i hb=>?_
    rcases Nat.lt_trichotomy j acc.length with hj | hj | hj
    · have e:(acc ++ [anc1 acc o]).getD j 0=acc.getD j 0:=by simp [List.getD,List.getElem?_append_left hj]
      rw [e] at hb
      exact h j i hb
    · have e:(acc ++ [anc1 acc o]).getD j 0=anc1 acc o:=by subst hj;simp [List.getD]
      rw [e] at hb
      have hjk:j=k:=by omega
      subst hjk
      refine ⟨o,h0,fun listed hc hall=>?_⟩
      rcases zk9 acc o.after.toList 0 i hb with h1 | ⟨e,he,hbi,h1⟩
      · simp at h1
      · have hel:=hall o h0 e (by simpa using he) hbi
        rcases h1 with h1 | h1
        · rw [h1];exact hel
        · obtain ⟨o',ho',ha⟩:=h e.on i h1
          exact ha listed hc fun o2 ho2 e2 he2 hb2=>hc e.on o2 ho2 hel e2 he2 hb2
    · have e:(acc ++ [anc1 acc o]).getD j 0=0:=by simp [List.getD];rw [List.getElem?_eq_none (by simp;omega)];rfl
      rw [e] at hb;simp at hb
def waitsFor (l:List Oper) (i j:Nat):Bool:=Nat.testBit ((ancs l).getD j 0) i
theorem zcs {l:List Oper} {i j:Nat} (h:waitsFor l i j=true):Anc l.toArray i j:=by
  obtain ⟨_,_,h2⟩:=zk_ l.toArray l [] [] 0 (by simp) rfl (fun j i hb=>by simp at hb) j i h
  exact h2

section
variable {P:Program} {ops:Array Oper} {Q:Exit→Act→World→Prop} {W:Nat→Bool} {C:World→Prop}
def wpAnyG (P:Program) (ops:Array Oper) (Q:Exit→Act→World→Prop) (W:Nat→Bool) (C:World→Prop):Nat→Array Bool→Act→World→Prop
  | 0,listed,a,w=>Region.ready .any ops listed = []∧Q .normal a w
  | fuel+1,listed,a,w =>
    (Region.ready .any ops listed = []→Q .normal a w) ∧
    ∀ i ∈ Region.ready .any ops listed,wpOp P ops Q i (fun a' w'=>(W i=false→C w→C w')∧wpAnyG P ops Q W C fuel (listed.setIfInBounds i true) a' w') a w
theorem zc0:∀ (fuel:Nat) (listed:Array Bool) (a:Act) (w:World),wpAnyG P ops Q W C fuel listed a w→wpAny P .any ops Q fuel listed a w
  | 0,_,_,_,h=>h
  | fuel+1,_,_,_,h=>⟨h.1,fun i hi=>wpOp_mono (fun a' w' h'=>zc0 fuel _ a' w' h'.2) (h.2 i hi)⟩
theorem zcN {D:World→Prop} {i:Nat} {oi:Oper} {v:Value} (hi:ops[i]?=some oi) (hsel:∀ (j:Nat) (o:Oper) cs b,ops[j]?=some o→o.op ≠ .select cs b)
    (hQ:∀ c a w,Q (.panic c) (a.put oi.dst v) w→Q (.panic c) a w)
    (hD:∀ j w w' listed,Closed ops listed→listed.getD i true=false→j ∈ Region.ready .any ops listed→D w→(W j=false→C w→C w')→D w') :
    ∀ (fuel:Nat) (listed:Array Bool) (a:Act) (w:World),Closed ops listed →
      (∀ j oj,ops[j]?=some oj→j≠i→listed.getD j true=false→(∀ e ∈ oj.after,Region.binds .any e=true→e.on≠i)→oi.apart ops oj=true) →
      i ∈ Region.ready .any ops listed→YieldsIf P ops D oi v a→D w →
      wpAnyG P ops Q W C fuel (listed.setIfInBounds i true) (a.put oi.dst v) w→wpAnyG P ops Q W C (fuel+1) listed a w:=by
  intro fuel
  induction fuel with
  | zero =>
    intro listed a w hcl _ hr hy hS H
    refine ⟨fun h=>(by rw [h] at hr;cases hr),fun j hj=>?_⟩
    by_cases hji:j=i
    · subst hji;exact hy.wpOp hi hS ⟨fun _ h=>h,H⟩
    · have:=ready_mono hj hji
      rw [H.1] at this
      cases this
  | succ fuel ih =>
    intro listed a w hcl hfree hr hy hS H
    refine ⟨fun h=>(by rw [h] at hr;cases hr),fun j hj=>?_⟩
    by_cases hji:j=i
    · subst hji;exact hy.wpOp hi hS ⟨fun _ h=>h,H⟩
    · have h1:=H.2 j (ready_mono hj hji)
      obtain ⟨hjun,oj,hoj,hall⟩:=mem_ready.1 hj
      have hun:listed.getD i true=false:=(mem_ready.1 hr).1
      have hnot:∀ e ∈ oj.after,Region.binds .any e=true→e.on≠i:=fun e he hb heq=>by
        have h1:=hall e he hb
        rw [heq] at h1
        rcases Nat.lt_or_ge i listed.size with h' | h'
        · simp [h'] at hun h1;rw [hun] at h1;cases h1
        · simp [Array.getElem?_eq_none h'] at h1
      have h2:=wpOp_putIf hoj (hfree j oj hoj hji hjun hnot) (fun cs b=>hsel i oi cs b hi) (fun cs b=>hsel j oj cs b hoj) hQ hy h1
      have hfree':∀ k ok,ops[k]?=some ok→k≠i→(listed.setIfInBounds j true).getD k true=false →
          (∀ e ∈ ok.after,Region.binds .any e=true→e.on≠i)→oi.apart ops ok=true:=fun k ok hk hki hun hno=>by
        refine hfree k ok hk hki ?_ hno
        by_cases hjk:j=k
        · subst hjk;exact hjun
        · rw [getD_set_ne true hjk] at hun;exact hun
      refine wpOp_mono (fun a' w' h3=>?_) h2
      refine ⟨h3.2.1,ih (listed.setIfInBounds j true) a' w' (zbB hcl hj) hfree' (ready_mono hr (Ne.symm hji)) h3.1 (hD j w w' listed hcl hun hj hS h3.2.1) ?_⟩
      rw [Array.setIfInBounds_comm _ _ hji]
      exact h3.2.2
end

/-! ### The walk of such a region -/
def pureOp (o:Oper):Bool:=match o.op with
  | .move _ | .assign _ | .pick .. | .binOp .. | .unOp .. | .nilCheck _ | .fieldAddr .. | .extract .. | .indexAddr .. | .slice .. | .build .. | .call ⟨.builtin .len,_,_⟩=>true
  | _=>false
def noMem:Mem:=⟨fun _=>none,⟨fun _=>none,fun _=>none⟩⟩
theorem zd3 (w:World):View noMem w:=⟨fun _ _ h=>(by cases h),fun _ _ h=>(by cases h),fun _ _ h=>(by cases h)⟩
def mayFirst (l:List Oper) (W:List Nat) (listed:Array Bool) (i:Nat):Bool :=
  (Region.ready .any l.toArray listed).contains i && Region.free .any l.toArray listed i && ((l[i]?).any pureOp || W.all fun j=>waitsFor l i j)
def stepsOK (l:List Oper) (W:List Nat):List (Nat × Bool)→Array Bool→Bool
  | [],listed=>(Region.ready .any l.toArray listed).isEmpty
  | (i,b) :: is,listed=>(if b then mayFirst l W listed i else Region.ready .any l.toArray listed == [i]) && stepsOK l W is (listed.setIfInBounds i true)
def drawOK (l:List Oper) (st:List (Nat × Bool)) (W:List Nat):Bool :=
  Region.noSelect l.toArray && (st.length == l.length) && stepsOK l W st (Array.replicate l.length false)
section
variable {P:Program} {N:Nat}
def ACalmG (P:Program) (N:Nat) (ops:Array Oper) (o:Oper) (E:Env) (S:Mem) (v:Value):Prop:=∀ a w,Good N E a→View S w →
  (Region.wanted o (yielded ops a.tmps)=true∧(execOp a.eval o).run P w = .ok (.value v) w)∨(Region.wanted o (yielded ops a.tmps)=false∧v=undef)
def DrawRun (P:Program) (N:Nat) (l:List Oper) (W:List Nat) (S0:Mem):List (Nat × Bool)→(Env→Mem→Prop)→Env→Mem→Prop
  | [],K,E,S=>K E S
  | (i,true) :: is,K,E,S=>∃ o d v,l[i]?=some o∧o.dst=some d∧d<N∧(pureOp o=true∨S0.Less S)∧ACalmG P N l.toArray o E (if pureOp o then noMem else S0) v∧DrawRun P N l W S0 is K ((d,v) :: E) S
  | (i,false) :: is,K,E,S=>∃ o,l[i]?=some o∧AOp P N l.toArray o (fun E' S'=>(W.contains i=false→S0.Less S')∧DrawRun P N l W S0 is K E' S') E S
def Q0 (N:Nat) (K:Env→Mem→Prop) (S:Mem) (w:World):Exit→Act→World→Prop
  | .normal,a',w'=>Post N K S w a' w'
  | _,_,_=>False
theorem zst {l:List Oper} {W:List Nat} {S0:Mem} {w0:World} {K:Env→Mem→Prop} (hsel:Region.noSelect l.toArray=true):∀ (st:List (Nat × Bool)) (listed:Array Bool) (E:Env) (S:Mem) (a:Act) (w:World),
    stepsOK l W st listed=true→Closed l.toArray listed→DrawRun P N l W S0 st K E S→Good N E a→View S w→Step S0 w0 S w→wpAnyG P l.toArray (Q0 N K S0 w0) (fun i=>W.contains i) (View S0) st.length listed a w:=by
  intro st
  induction st with
  | nil =>
    intro listed E S a w hr hcl h g hv hs
    exact ⟨by simpa [stepsOK] using hr,E,S,h,g,hs⟩
  | cons p is ih =>
    obtain ⟨i,b⟩:=p
    intro listed E S a w hr hcl h g hv hs
    cases b with
    | false =>
      simp only [stepsOK,Bool.and_eq_true,beq_iff_eq,Bool.false_eq_true,if_false] at hr
      obtain ⟨hr1,hr2⟩:=hr
      refine ⟨fun h0=>(by rw [hr1] at h0;cases h0),fun j hj=>?_⟩
      have hj':=hj
      rw [hr1] at hj
      obtain rfl:j=i:=by simpa using hj
      obtain ⟨o,ho,hop⟩:=h
      have h1:=hop a w g hv
      unfold wpOp
      have ho':l.toArray[j]?=some o:=by simpa using ho
      simp only [ho']
      have next:∀ a1 w1,Post N (fun E' S'=>(W.contains j=false→S0.Less S')∧DrawRun P N l W S0 is K E' S') S w a1 w1→(W.contains j=false→View S0 w→View S0 w1)∧wpAnyG P l.toArray (Q0 N K S0 w0) (fun i=>W.contains i) (View S0) is.length (listed.setIfInBounds j true) a1 w1:=fun a1 w1 ⟨E1,S1,⟨k1,k2⟩,g1,s1⟩ =>
        ⟨fun hw _=>s1.view.less (k1 hw),ih _ E1 S1 a1 w1 hr2 (zbB hcl hj') k2 g1 s1.view (hs.trans s1)⟩
      split
      · rename_i hw;rw [if_pos hw] at h1
        exact .inl (zeA (Oper.wp_mono next h1))
      · rename_i hw;rw [if_neg hw] at h1
        exact next _ _ h1
    | true =>
      simp only [stepsOK,Bool.and_eq_true,if_true] at hr
      obtain ⟨hc1,hc2⟩:=hr
      obtain ⟨o,d,v,ho,hd,hn,hless,hcalm,hrest⟩:=h
      simp only [mayFirst,Bool.and_eq_true,Bool.or_eq_true] at hc1
      obtain ⟨⟨hr,hf⟩,hp⟩:=hc1
      have ho':l.toArray[i]?=some o:=by simpa using ho
      have hri:i ∈ Region.ready .any l.toArray listed:=by simpa using hr
      let D:World→Prop:=fun w'=>if pureOp o=true then True else View S0 w'
      have hDw:D w:=by
        simp only [D]
        split
        · trivial
        · rename_i hx
          exact hv.less (hless.resolve_left hx)
      have hmem:∀ w',D w'→View (if pureOp o then noMem else S0) w':=fun w' h=>by
        simp only [D] at h
        split
        · exact zd3 _
        · rename_i hx;rw [if_neg hx] at h;exact h
      refine zcN (D:=D) (v:=v) ho' (Region.noSelect_spec hsel) (fun c a w h=>h) ?_ is.length listed a w hcl (Region.free_spec ho' hf) hri ?_ hDw ?_
      · intro j w1 w2 listed' hcl' hun hj hD1 hpres
        simp only [D] at hD1 ⊢
        split
        · trivial
        · rename_i hx
          rw [if_neg hx] at hD1
          refine hpres ?_ hD1
          rcases hp with hp | hp
          · rw [ho] at hp;exact absurd (by simpa using hp) hx
          · cases hwc:W.contains j with
            | false=>rfl
            | true =>
              have h1:=List.all_eq_true.1 hp j (by simpa using hwc)
              obtain ⟨hju,oj,hoj,hall⟩:=mem_ready.1 hj
              have h2:=zcs h1 listed' hcl' fun o2 ho2 e he hb=>by
                obtain rfl:oj=o2:=Option.some.inj (hoj.symm.trans ho2)
                exact hall e he hb
              rcases Nat.lt_or_ge i listed'.size with hlt | hge
              · simp [hlt] at hun h2;rw [hun] at h2;cases h2
              · simp [Array.getElem?_eq_none hge] at h2
      · by_cases hw:Region.wanted o (yielded l.toArray a.tmps)=true
        · refine .inl ⟨hw,fun w' hD'=>?_⟩
          rcases hcalm a w' g (hmem w' hD') with h1 | h1
          · exact h1.2
          · rw [hw] at h1;cases h1.1
        · rcases hcalm a w g (hmem w hDw) with h1 | h1
          · exact absurd h1.1 hw
          · exact .inr h1
      · rw [hd]
        exact ih (listed.setIfInBounds i true) _ S _ w hc2 (zbB hcl hri) hrest (g.put hn v) hv hs
theorem AWP.draw {id:Nat} {l:List Oper} {Q:Exit→Env→Mem→Prop} {E:Env} {S:Mem} (st:List (Nat × Bool)) (W:List Nat) (hm:P.follows .mixedOrders=true) (hok:drawOK l st W=true)
    (h:DrawRun P N l W S st (Q .normal) E S):AWP P N (.region id l.toArray true) Q E S:=fun a w g hv=>by
  simp only [drawOK,Bool.and_eq_true,beq_iff_eq] at hok
  obtain ⟨⟨h1,h2⟩,h3⟩:=hok
  refine wp_mono (Q:=Q0 N (Q .normal) S w) ?_ (fun e a' w' x=>by cases e <;> first | exact x | exact x.elim)
  refine wp_region_any hm ?_
  refine zc0 (W:=fun i=>W.contains i) (C:=View S) _ _ _ _ ?_
  have hsz:l.toArray.size=st.length:=by simp [h2]
  rw [hsz]
  have hst:Step S w S { w with drawn:=w.drawn+1 }:=Step.drawn hv _
  exact zst h1 st _ E S a _ (by rw [h2];exact h3) (zcM _ _) h g hst.view hst
end
end Mv
open Go.RowKit
namespace Mv
section
variable {P:Program} {t:TypeId} {x y:Operand} {k:IntKind}
theorem zh0 (a b:Int):Bin P .add t x y (.int k a) (.int k b) (.int k (k.wrap (a+b))):=fun w=>by simp [eqGuard,binOp,Op.intArith]
theorem zla (a b:Int):Bin P .sub t x y (.int k a) (.int k b) (.int k (k.wrap (a-b))):=fun w=>by simp [eqGuard,binOp,Op.intArith]
theorem zlb (a b:Int):Bin P .mul t x y (.int k a) (.int k b) (.int k (k.wrap (a*b))):=fun w=>by simp [eqGuard,binOp,Op.intArith]
theorem zf9 {a b c:Int} (h:k.wrap (a+b)=c):Bin P .add t x y (.int k a) (.int k b) (.int k c):=h ▸ zh0 a b
theorem zja {a b c:Int} (h:k.wrap (a-b)=c):Bin P .sub t x y (.int k a) (.int k b) (.int k c):=h ▸ zla a b
theorem zdD {a b c:Int} (h:k.wrap (a*b)=c):Bin P .mul t x y (.int k a) (.int k b) (.int k c):=h ▸ zlb a b
theorem zlc {a b:Int} (hb:b≠0):Bin P .quo t x y (.int k a) (.int k b) (.int k (k.wrap (a.tdiv b))):=fun w=>by simp [eqGuard,binOp,Op.intDiv,hb]
theorem zld {a b:Int} (hb:b≠0):Bin P .rem t x y (.int k a) (.int k b) (.int k (a.tmod b)):=fun w=>by simp [eqGuard,binOp,Op.intDiv,hb]
theorem znO {a b:Int} (hb:b≠0) (ha:0≤a):Bin P .rem t x y (.int k a) (.int k b) (.int k (a % b)):=by rw [← Int.tmod_eq_emod_of_nonneg ha];exact zld hb
theorem zjb {a b c:Int} (hb:b≠0) (h:k.wrap (a.tdiv b)=c):Bin P .quo t x y (.int k a) (.int k b) (.int k c):=h ▸ zlc hb
theorem zbc (a b:Int):Bin P .lss t x y (.int k a) (.int k b) (.bool (decide (a<b))):=fun w=>by simp [eqGuard,binOp,Op.intCmp]
theorem zh1 (a b:Int):Bin P .leq t x y (.int k a) (.int k b) (.bool (decide (a≤b))):=fun w=>by simp [eqGuard,binOp,Op.intCmp]
theorem zf_ (a b:Int):Bin P .gtr t x y (.int k a) (.int k b) (.bool (decide (b<a))):=fun w=>by simp [eqGuard,binOp,Op.intCmp]
theorem zct (a b:Int):Bin P .geq t x y (.int k a) (.int k b) (.bool (decide (b≤a))):=fun w=>by simp [eqGuard,binOp,Op.intCmp]
theorem zaY (a b:Int):Bin P .eql t x y (.int k a) (.int k b) (.bool (decide (a=b))):=fun w=>by simp [eqGuard,binOp,Op.intCmp];rw [Bool.eq_iff_iff];simp
theorem zeS (a b:Int):Bin P .neq t x y (.int k a) (.int k b) (.bool (!decide (a=b))):=fun w=>by simp [eqGuard,binOp,Op.intCmp];rw [Bool.eq_iff_iff];simp
theorem zag {op:BinOp} {vx vy:Value} {b c:Bool} (h:Bin P op t x y vx vy (.bool b)) (e:b=c):Bin P op t x y vx vy (.bool c):=e ▸ h
theorem zle (a b:Int):Bin P .and t x y (.int k a) (.int k b) (.int k (bits .and k a b)):=fun w=>by
  simp only [eqGuard,binOp,Op.intBits,bits];simp
theorem zsu (a b:Int):Bin P .or t x y (.int k a) (.int k b) (.int k (bits .or k a b)):=fun w=>by
  simp only [eqGuard,binOp,Op.intBits,bits];simp
theorem zlf (a b:Int):Bin P .xor t x y (.int k a) (.int k b) (.int k (bits .xor k a b)):=fun w=>by
  simp only [eqGuard,binOp,Op.intBits,bits];simp
theorem zga {a b:Int} {k':IntKind} (h0:0≤b) (h1:b≤k.bits):Bin P .shl t x y (.int k a) (.int k' b) (.int k (k.wrap (a*2 ^ b.toNat))):=fun w=>by
  have hn : ¬ b<0:=by omega
  have hm:min b.toNat k.bits=b.toNat:=by omega
  simp [eqGuard,binOp,Op.shift,hn,hm]
theorem zlg {a b:Int} {k':IntKind} (h0:0≤b) (h1:b≤k.bits):Bin P .shr t x y (.int k a) (.int k' b) (.int k (a / 2 ^ b.toNat)):=fun w=>by
  have hn : ¬ b<0:=by omega
  have hm:min b.toNat k.bits=b.toNat:=by omega
  have hp:(0:Int)≤2 ^ b.toNat:=Int.pow_nonneg (by omega)
  simp [eqGuard,binOp,Op.shift,hn,hm,Int.fdiv_eq_ediv_of_nonneg _ hp]
theorem zqE (b:Bool):Una P .not (.bool b) (.bool !b):=fun w=>by simp [Op.unary]
theorem zjc {s d:TypeId} {k k':IntKind} {n:Int} {ds:TypeDesc} (hs:P.underlying s=some ds) (hd:P.underlying d=some (.int k')):Mv.Conv P s d (.int k n) (.int k' (k'.wrap n)):=fun w=>by
  simp only [convert,Sem.run_bind,run_underlying hs,run_underlying hd,Result.andThen_ok]
  cases ds <;> simp [Go.Conv.intToInt]
theorem zbf {s d:TypeId} {k k':IntKind} {n m:Int} {ds:TypeDesc} (hs:P.underlying s=some ds) (hd:P.underlying d=some (.int k')) (h:k'.wrap n=m):Mv.Conv P s d (.int k n) (.int k' m):=h ▸ zjc hs hd
end

/-! ### Through the exits -/
section
variable {P:Program} {N:Nat} {next:Env→Mem→Prop} {Q:Exit→Env→Mem→Prop} {E:Env} {S:Mem} {id:Nat}
theorem za1 (h:next E S):Athen next Q .normal E S:=h
theorem zj4 (h:Q (.exit id) E S):Athen next Q (.exit id) E S:=h
theorem zlh (h:Q .ret E S):Athen next Q .ret E S:=h
theorem zsv (h:Q .normal E S):AinBlock id Q .normal E S:=h
theorem zqF (h:Q .ret E S):AinBlock id Q .ret E S:=h
theorem znP (h:Q .normal E S):AinBlock id Q (.exit id) E S:=by simpa [AinBlock] using h
theorem zli {j:Nat} (hj:(j == id)=false) (h:Q (.exit j) E S):AinBlock id Q (.exit j) E S:=by
  have:j≠id:=by simpa using hj
  simpa [AinBlock,this] using h
def JoinQ {X:Type} (Q:Exit→Env→Mem→Prop) (st:X→Env) (m:X→Mem) (ok:X→Prop):Exit→Env→Mem→Prop
  | .normal,E,S=>∃ x,ok x∧Sub (st x) E∧(m x).Less S
  | e,E,S=>Q e E S
theorem AWP.join {X:Type} {c:Code} (st:X→Env) (m:X→Mem) (ok:X→Prop) (h:AWP P N c (JoinQ Q st m ok) E S) (k:∀ x,ok x → ∀ E' S',Sub (st x) E'→(m x).Less S'→Q .normal E' S'):AWP P N c Q E S :=
  h.mono fun e E' S' hq=>match e,hq with
    | .normal,⟨x,h1,h2,h3⟩=>k x h1 E' S' h2 h3
    | .ret,hq=>hq
    | .exit _,hq=>hq
    | .goto _,hq=>hq
    | .outgrown,hq=>hq
    | .panic _,hq=>hq
theorem znQ {X:Type} {st:X→Env} {m:X→Mem} {ok:X→Prop} (h:Q .ret E S):JoinQ Q st m ok .ret E S:=h
theorem zae {ops:Array Oper} {K:Env→Mem→Prop} (h:K E S):ARun P N ops [] K E S:=h
theorem znR {l:List Oper} {W:List Nat} {S0:Mem} {K:Env→Mem→Prop} (h:K E S):DrawRun P N l W S0 [] K E S:=h
theorem zlj {l:List Oper} {W:List Nat} {S0:Mem} {K:Env→Mem→Prop} {i:Nat} {is:List (Nat × Bool)} {o:Oper} {d:Nat} {v:Value} (ho:l[i]?=some o) (hg:o.guard=none) (hd:o.dst=some d) (hn:d<N) (hl:S0.Less S)
    (hc:∀ S',(pureOp o=true∨S'=S0)→ACalm P N o E S' v) (h:DrawRun P N l W S0 is K ((d,v) :: E) S):DrawRun P N l W S0 ((i,true) :: is) K E S :=
  ⟨o,d,v,ho,hd,hn,.inr hl,fun a w g hv=>.inl ⟨by simp [Region.wanted,hg],hc _ (by split <;> simp_all) a w g hv⟩,h⟩
theorem zgT {l:List Oper} {W:List Nat} {S0:Mem} {K:Env→Mem→Prop} {i:Nat} {is:List (Nat × Bool)} {o:Oper} {d:Nat} {v:Value} (ho:l[i]?=some o) (hp:pureOp o=true) (hg:o.guard=none) (hd:o.dst=some d) (hn:d<N)
    (hc:∀ S',ACalm P N o E S' v) (h:DrawRun P N l W S0 is K ((d,v) :: E) S):DrawRun P N l W S0 ((i,true) :: is) K E S :=
  ⟨o,d,v,ho,hd,hn,.inl hp,fun a w g hv=>.inl ⟨by simp [Region.wanted,hg],hc _ a w g hv⟩,h⟩
theorem zfx {l:List Oper} {W:List Nat} {S0:Mem} {K:Env→Mem→Prop} {i:Nat} {is:List (Nat × Bool)} {o:Oper} {d:Nat} {v:Value} (j:Nat) (t:Bool) (dj:Nat) (ho:l[i]?=some o) (hg:o.guard=some (j,t)) (hj:(l.toArray[j]?).bind (·.dst)=some dj) (hjn:dj<N) (hb:lk E dj=some (.bool t)) (hd:o.dst=some d) (hn:d<N) (hl:S0.Less S)
    (hc:∀ S',(pureOp o=true∨S'=S0)→ACalm P N o E S' v) (h:DrawRun P N l W S0 is K ((d,v) :: E) S):DrawRun P N l W S0 ((i,true) :: is) K E S:=by
  cases e:l.toArray[j]? with
  | none=>rw [e] at hj;simp at hj
  | some og =>
    rw [e] at hj
    exact ⟨o,d,v,ho,hd,hn,.inr hl,fun a w g hv=>.inl ⟨by simp [Region.wanted,hg,zbV g e (by simpa using hj) hjn hb],hc _ (by split <;> simp_all) a w g hv⟩,h⟩
theorem zj5 {l:List Oper} {W:List Nat} {S0:Mem} {K:Env→Mem→Prop} {i:Nat} {is:List (Nat × Bool)} {o:Oper} {d:Nat} (j:Nat) (t u:Bool) (dj:Nat) (ho:l[i]?=some o) (hg:o.guard=some (j,t)) (hj:(l.toArray[j]?).bind (·.dst)=some dj) (hjn:dj<N) (hb:lk E dj=some (.bool u)) (hne:(u == t)=false) (hd:o.dst=some d) (hn:d<N) (hl:S0.Less S)
    (h:DrawRun P N l W S0 is K ((d,undef) :: E) S):DrawRun P N l W S0 ((i,true) :: is) K E S:=by
  cases e:l.toArray[j]? with
  | none=>rw [e] at hj;simp at hj
  | some og =>
    rw [e] at hj
    exact ⟨o,d,undef,ho,hd,hn,.inr hl,fun a w g hv=>.inr ⟨by simp [Region.wanted,hg,zbV g e (by simpa using hj) hjn hb];intro x;subst x;simp at hne,rfl⟩,h⟩
theorem zac {l:List Oper} {W:List Nat} {S0:Mem} {K:Env→Mem→Prop} {i:Nat} {is:List (Nat × Bool)} {o:Oper} (ho:l[i]?=some o)
    (h:ARun P N l.toArray [o] (fun E' S'=>(W.contains i=false→S0.Less S')∧DrawRun P N l W S0 is K E' S') E S):DrawRun P N l W S0 ((i,false) :: is) K E S:=⟨o,ho,h⟩
end
theorem zab {a b:Nat} (h:a.blt b=true):a<b:=by simpa using h
end Mv
open Go.RowKit
namespace Mv
def LessB (B:List Nat) (S' S:Mem):Prop:=(∀ k r,k ∉ B→S'.own k=some r→S.own k=some r)∧S'.ro=S.ro
theorem zqG {S' S:Mem} (h:LessB [] S' S):S'.Less S:=⟨fun k r hk=>h.1 k r (by simp) hk,h.2⟩
theorem LessB.refl (B:List Nat) (S:Mem):LessB B S S:=⟨fun _ _ _ h=>h,rfl⟩
theorem LessB.of {B:List Nat} {S' S:Mem} (h:S'.Less S):LessB B S' S:=⟨fun k r _ hr=>h.1 k r hr,h.2⟩
theorem LessB.set {B:List Nat} {S' M:Mem} {b:Nat} {r:Blk} (hb:M.own b=some r) (h:LessB (b :: B) S' M):LessB B (S'.set b r) M:=⟨fun k r' hk hr=>by
  by_cases e:k=b
  · subst e;rw [Mem.own_set_same] at hr;cases hr;exact hb
  · rw [Mem.own_set_other _ _ e] at hr;exact h.1 k r' (by simp [e,hk]) hr,h.2⟩
theorem LessB.skip {B:List Nat} {S' M:Mem} {b:Nat} {r:Blk} (hb:b ∈ B∨S'.own b=none) (h:LessB B S' M):LessB B S' (M.set b r):=⟨fun k r' hk hr=>by
  by_cases e:k=b
  · subst e
    rcases hb with hb | hb
    · exact absurd hb hk
    · rw [hb] at hr;cases hr
  · rw [Mem.own_set_other _ _ e];exact h.1 k r' hk hr,h.2⟩
theorem zbt {S:Mem} {b j:Nat} {r:Blk} {v:Value} (h:S.own b=some r) (hj:r.cells[j]?=some v):S.rd ⟨b,j,none⟩=some v:=(zdf h j).trans hj
theorem znS {E:Env} {i:Operand} {k:IntKind} (df y:Nat) (h:ev E i=some (.int k 0)):bnd E (some i) df y 0:=⟨k,0,h,by omega,by omega,rfl⟩
theorem zh2 (c:UInt8):IntKind.u64.wrap (nb c)=nb c:=IntWalk.u64_in _ (by have:=nb_nonneg c;have:=nb_le c;omega)
theorem zbh {p:Prop} [Decidable p] (h : ¬ p):(!decide p)=true:=by simp [h]
theorem zaK {p:Prop} [Decidable p] (h:p):(!decide p)=false:=by simp [h]
def bldT (P:Program) (T:TypeId):Option (List (Nat × Nat) × List Value):=match P.underlying T with
  | some (.struct fs)=>match fs.toList.mapM fun (f:Field)=>(P.info? f.type).map fun i=>(f.offset,i.size) with
    | some ps=>match (P.info? T).bind (·.zero) with
      | some z=>some (ps,z.cells.toList)
      | none=>none
    | none=>none
  | _=>none
def bldL (ps:List (Nat × Nat)):List Value→List (Nat × Value)→Option (List Value)
  | cs,[]=>some cs
  | cs,(i,v) :: rest=>match ps[i]? with
    | some (off,n)=>if v.cells.size=n∧off+n≤cs.length then bldL ps (spl cs off v.cells.toList) rest else none
    | none=>none
theorem zgU (k:Nat):∀ (cs:List Value) (m:Nat) (acc:Array Value),k+m+cs.length≤acc.size→((cs.zipIdx m).foldl (fun (bs:Array Value) (p:Value × Nat)=>bs.setIfInBounds (k+p.2) p.1) acc).toList=spl acc.toList (k+m) cs:=by
  intro cs
  induction cs with
  | nil=>intro m acc hl;simp [spl]
  | cons c cs ih =>
    intro m acc hl
    simp only [List.length_cons] at hl
    rw [List.zipIdx_cons,List.foldl_cons,ih (m+1) _ (by simp;omega)]
    simp only [spl,Array.toList_setIfInBounds,List.length_cons]
    rw [List.set_eq_take_append_cons_drop,if_pos (by simp;omega)]
    have e1:(acc.toList.take (k+m)).length=k+m:=by simp;omega
    have e2:List.take (k+(m+1)) (acc.toList.take (k+m) ++ c :: acc.toList.drop (k+m+1))=acc.toList.take (k+m) ++ [c]:=by
      rw [List.take_append,e1,show k+(m+1)-(k+m)=1 from by omega,List.take_of_length_le (by omega)];simp
    have e3:List.drop (k+(m+1)+cs.length) (acc.toList.take (k+m) ++ c :: acc.toList.drop (k+m+1))=acc.toList.drop (k+m+(cs.length+1)):=by
      rw [List.drop_append,e1,List.drop_of_length_le (by omega),List.nil_append,show k+(m+1)+cs.length-(k+m)=cs.length+1 from by omega,List.drop_succ_cons,List.drop_drop]
      congr 1;omega
    rw [e2,e3];simp
theorem zlk (ps:List (Nat × Nat)):∀ (parts:List (Nat × Value)) (cells:Array Value) (cs:List Value),bldL ps cells.toList parts=some cs→Instr.fill (fun i=>ps[i]?) cells parts=some cs.toArray:=by
  intro parts
  induction parts with
  | nil=>intro cells cs h;simp [bldL] at h;subst h;simp [Instr.fill]
  | cons p rest ih =>
    obtain ⟨i,v⟩:=p
    intro cells cs h
    simp only [bldL] at h
    cases e:ps[i]? with
    | none=>simp [e] at h
    | some on =>
      obtain ⟨off,n⟩:=on
      simp only [e] at h
      split at h
      · rename_i hc
        obtain ⟨h1,h2⟩:=hc
        have hsz:off+v.cells.size≤cells.size:=by rw [h1];simpa using h2
        simp only [Instr.fill,e]
        have hn:(v.cells.size≠n || decide (off+v.cells.size > cells.size))=false:=by simp [h1];omega
        simp only [hn,Bool.false_eq_true,if_false]
        have hf:=zgU off v.cells.toList 0 cells (by simp;omega)
        rw [Nat.add_zero] at hf
        have e2:Array.foldl (fun (bs:Array Value) (p:Value × Nat)=>bs.setIfInBounds (off+p.2) p.1) cells v.cells.zipIdx=(spl cells.toList off v.cells.toList).toArray:=by
          apply Array.ext'
          rw [← Array.foldl_toList,Array.toList_zipIdx,hf]
        refine (congrArg (fun x=>Instr.fill (fun i=>ps[i]?) x rest) e2).trans ?_
        exact ih _ _ (by simpa using h)
      · cases h
section
variable {P:Program} {N:Nat} {ops:Array Oper} {E:Env} {S:Mem}
variable {dst:Option Nat} {ty:TypeId} {pos:String} {aft:Array Edge} {gd:Option (Nat × Bool)}
theorem zeT {fs:List Field} {ps:List (Nat × Nat)} (h:fs.mapM (fun (f:Field)=>(P.info? f.type).map fun i=>(f.offset,i.size))=some ps) (w:World) :
    (fs.mapM fun (f:Field)=>(do pure (f.offset,← sizeOf f.type):Sem (Nat × Nat))).run P w = .ok ps w:=by
  induction fs generalizing ps with
  | nil=>simp at h;subst h;simp
  | cons f fs ih =>
    rw [List.mapM_cons] at h
    cases e1:P.info? f.type with
    | none=>simp [e1] at h
    | some i =>
      cases e2:(fs.mapM fun (f:Field)=>(P.info? f.type).map fun i=>(f.offset,i.size)) with
      | none=>simp [e1,e2] at h
      | some ps' =>
        simp [e1,e2] at h
        subst h
        rw [List.mapM_cons,Sem.run_bind,Sem.run_bind]
        simp [sizeOf,typeInfo,e1]
        have:=ih e2
        simp [sizeOf,typeInfo] at this
        simp [this]
theorem zgV (f:Operand→Value) (l:List (Nat × Operand)):l.map (fun p=>(p.1,f p.2))=(l.map (·.1)).zip (l.map (f ∘ fun x=>x.2)):=by
  induction l with
  | nil=>rfl
  | cons p l ih=>simp only [List.map_cons,List.zip_cons_cons,ih];rfl
theorem Calm.build {T:TypeId} {ps:List (Nat × Nat)} {z:List Value} {parts:List (Nat × Operand)} {vs cs:List Value} (hT:bldT P T=some (ps,z)) (hx:evs E (parts.map (·.2))=some vs) (hb:bldL ps z ((parts.map (·.1)).zip vs)=some cs) :
    ACalm P N ⟨dst,.build T parts.toArray,ty,pos,aft,gd⟩ E S (.agg cs.toArray):=fun c w g hv=>by
  unfold bldT at hT
  cases e:P.underlying T with
  | none=>simp [e] at hT
  | some d =>
    cases d <;> simp [e] at hT
    rename_i fs
    cases e1:(fs.toList.mapM fun (f:Field)=>(P.info? f.type).map fun i=>(f.offset,i.size)) with
    | none=>simp [e1] at hT
    | some ps' =>
      cases e2:(P.info? T).bind (·.zero) with
      | none=>simp [e1,e2] at hT
      | some zv =>
        simp [e1,e2] at hT
        obtain ⟨rfl,rfl⟩:=hT
        have hz:(zeroValue T).run P w = .ok zv w:=by
          cases e3:P.info? T with
          | none=>simp [e3] at e2
          | some i=>simp [e3] at e2;simp [zeroValue,typeInfo,e3,e2]
        have hpl:(fs.mapM fun (f:Field)=>(do pure (f.offset,← sizeOf f.type):Sem (Nat × Nat))).run P w = .ok ps'.toArray w:=by
          have:=zeT (P:=P) e1 w
          rw [← Array.toArray_toList (xs:=fs),List.mapM_toArray,Sem.run_map,this];rfl
        have hev:=g.evs hx
        have hparts:(parts.toArray.map fun (p:Nat × Operand)=>(p.1,c.eval p.2)).toList=(parts.map (·.1)).zip vs:=by
          rw [← hev]
          simp only [List.map_toArray,List.map_map]
          exact zgV c.eval parts
        have hfill:=zlk ps' _ zv.cells cs hb
        simp only [execOp,Instr.build]
        simp only [Sem.run_bind,hz,Result.andThen_ok,run_underlying e w]
        rw [hpl]
        simp only [Result.andThen_ok]
        have hfun:(fun (i:Nat)=>ps'.toArray[i]?)=fun (i:Nat)=>ps'[i]?:=by funext i;simp
        rw [hparts,hfun,hfill]
        rfl
theorem Calm.minL {x y:Operand} {k k':IntKind} {a b:Int} {ats:Array TypeId} (hx:ev E x=some (.int k a)) (hy:ev E y=some (.int k' b)) (h:a≤b):ACalm P N ⟨dst,.call ⟨.builtin .min,#[x,y],ats⟩,ty,pos,aft,gd⟩ E S (.int k a):=fun c w g hv=>by
  have h1:=run_min_int2 (P:=P) (w:=w) ats ty k k' a b
  simp only [execOp,resolve,invoke,builtin,List.map_toArray,List.map_cons,List.map_nil,g.ev hx,g.ev hy,Sem.run_bind,Sem.run_pure,Result.andThen_ok,h1]
  congr 3
  split <;> omega
theorem Calm.minR {x y:Operand} {k k':IntKind} {a b:Int} {ats:Array TypeId} (hx:ev E x=some (.int k a)) (hy:ev E y=some (.int k' b)) (h:b≤a):ACalm P N ⟨dst,.call ⟨.builtin .min,#[x,y],ats⟩,ty,pos,aft,gd⟩ E S (.int k b):=fun c w g hv=>by
  have h1:=run_min_int2 (P:=P) (w:=w) ats ty k k' a b
  simp only [execOp,resolve,invoke,builtin,List.map_toArray,List.map_cons,List.map_nil,g.ev hx,g.ev hy,Sem.run_bind,Sem.run_pure,Result.andThen_ok,h1]
  congr 3
  split <;> omega
theorem Calm.maxL {x y:Operand} {k k':IntKind} {a b:Int} {ats:Array TypeId} (hx:ev E x=some (.int k a)) (hy:ev E y=some (.int k' b)) (h:b≤a):ACalm P N ⟨dst,.call ⟨.builtin .max,#[x,y],ats⟩,ty,pos,aft,gd⟩ E S (.int k a):=fun c w g hv=>by
  have h1:=run_max_int2 (P:=P) (w:=w) ats ty k k' a b
  simp only [execOp,resolve,invoke,builtin,List.map_toArray,List.map_cons,List.map_nil,g.ev hx,g.ev hy,Sem.run_bind,Sem.run_pure,Result.andThen_ok,h1]
  congr 3
  split <;> omega
theorem Calm.maxR {x y:Operand} {k k':IntKind} {a b:Int} {ats:Array TypeId} (hx:ev E x=some (.int k a)) (hy:ev E y=some (.int k' b)) (h:a≤b):ACalm P N ⟨dst,.call ⟨.builtin .max,#[x,y],ats⟩,ty,pos,aft,gd⟩ E S (.int k b):=fun c w g hv=>by
  have h1:=run_max_int2 (P:=P) (w:=w) ats ty k k' a b
  simp only [execOp,resolve,invoke,builtin,List.map_toArray,List.map_cons,List.map_nil,g.ev hx,g.ev hy,Sem.run_bind,Sem.run_pure,Result.andThen_ok,h1]
  congr 3
  split <;> omega
theorem Calm.minE {x y:Operand} {k k':IntKind} {a b c:Int} {ats:Array TypeId} (h:c=min a b) (hx:ev E x=some (.int k a)) (hy:ev E y=some (.int k' b)):ACalm P N ⟨dst,.call ⟨.builtin .min,#[x,y],ats⟩,ty,pos,aft,gd⟩ E S (.int k c):=by
  by_cases hab:a≤b
  · rw [show c=a from by omega];exact Calm.minL hx hy hab
  · rw [show c=b from by omega];exact Calm.minR hx hy (by omega)
theorem ARun.store1 {os:List Oper} {K:Env→Mem→Prop} {T:TypeId} {x y:Operand} {b o:Nat} {r:Blk} {v:Value} (hx:ev E x=some (.pointer (some ⟨b,o,none⟩))) (hy:ev E y=some v) (hs:sizeT P T=some 1) (hv1:v.cells = #[v]) (hb:S.own b=some r) (hl:o<r.cells.length) (h1:v.oneCell'=true)
    (h:ARun P N ops os K E (S.set b ⟨r.elem,r.cells.set o v,r.room⟩)):ARun P N ops (⟨none,.store T x y,ty,pos,aft,none⟩ :: os) K E S:=by
  refine ARun.store hx hy (by rw [hv1];exact hs) hb (by rw [hv1];exact hl) (by rw [hv1];simp [h1]) ?_
  rw [hv1]
  simpa [zqD _ _ _ hl] using h
theorem zcu {M M':Mem} {b:Nat} {r:Blk} (h:M.del b=M'):(M.set b r).del b=M':=by
  rw [← h];unfold Mem.set Mem.del;congr 1;funext k;by_cases e:k=b <;> simp [e]
theorem zeU {M M':Mem} {b k:Nat} {r:Blk} (hne:k≠b) (h:M.del b=M'):(M.set k r).del b=M'.set k r:=by
  rw [← h];unfold Mem.set Mem.del;congr 1;funext j;by_cases e:j=b
  · subst e;simp [Ne.symm hne]
  · simp [e]
theorem zgb {S:Mem} {b:Nat} (h:Fresh S b):S.del b=S:=zk8 S b h.1
theorem ARun.append1 {os:List Oper} {K:Env→Mem→Prop} {T e:TypeId} {y:Nat} {z:Value} {x1 x2:Operand} {b k c:Nat} {xs news:List Value} {a2:Addr} {m c2 d:Nat} (hn:d<N) (hT:slT P T=some (e,1,y,[z]))
    (hx:ev E x1=some (.slice (some ⟨b,0,none⟩) k c)) (hb:S.own b=some ⟨e,xs,c⟩) (hxs:xs.length=k)
    (hy:ev E x2=some (.slice (some a2) m c2)) (hnews:S.rds a2 news) (hnl:news.length=m) (h1:∀ v ∈ news,v.oneCell'=true) (hfit:(k+m)*y≤140737488355328) (h63:k+m≤9223372036854775807)
    {S1:Mem} (hdel:S.del b=S1)
    (h:∀ b' c',Fresh S1 b'→k+m≤c'→ARun P N ops os K ((d,.slice (some ⟨b',0,none⟩) (k+m) c') :: E) (S1.set b' ⟨e,xs ++ news,c'⟩)) :
    ARun P N ops (⟨some d,.call ⟨.builtin .append,#[x1,x2],#[T,T]⟩,ty,pos,aft,none⟩ :: os) K E S :=
  ARun.appendRun hn hT rfl hx (by rw [Nat.mul_one];exact hb) (by omega) hy hnews (by omega) h1 hfit h63 (fun b' c' h2 h3=>by rw [hdel] at h2 ⊢;have:=h b' c' h2 h3;rwa [Nat.mul_one])
theorem ARun.appendNil1 {os:List Oper} {K:Env→Mem→Prop} {T e:TypeId} {y:Nat} {z:Value} {x1 x2:Operand} {news:List Value} {a2:Addr} {m c2 d:Nat} (hn:d<N) (hT:slT P T=some (e,1,y,[z]))
    (hx:ev E x1=some (.slice none 0 0)) (hy:ev E x2=some (.slice (some a2) m c2)) (hnews:S.rds a2 news) (hnl:news.length=m) (hm:0<m) (hfit:m*y≤140737488355328) (h63:m≤9223372036854775807)
    (h:∀ b' c',Fresh S b'→m≤c'→ARun P N ops os K ((d,.slice (some ⟨b',0,none⟩) m c') :: E) (S.set b' ⟨e,news,c'⟩)) :
    ARun P N ops (⟨some d,.call ⟨.builtin .append,#[x1,x2],#[T,T]⟩,ty,pos,aft,none⟩ :: os) K E S :=
  ARun.appendNil hn hT rfl hx hy hnews (by omega) hm hfit h63 (fun b' c' h2 h3=>by have:=h b' c' h2 h3;rwa [Nat.mul_one])
theorem ARun.storeAll {os:List Oper} {K:Env→Mem→Prop} {T:TypeId} {x y:Operand} {b:Nat} {r:Blk} {cs:List Value} (hx:ev E x=some (.pointer (some ⟨b,0,none⟩))) (hy:ev E y=some (.agg cs.toArray)) (hs:sizeT P T=some cs.length) (hb:S.own b=some r) (hl:r.cells.length=cs.length) (h1:cs.all (·.oneCell')=true)
    (h:ARun P N ops os K E (S.set b ⟨r.elem,cs,r.room⟩)):ARun P N ops (⟨none,.store T x y,ty,pos,aft,none⟩ :: os) K E S:=by
  refine ARun.store hx hy (by simpa [Value.cells] using hs) hb (by simp [Value.cells,hl]) (by simpa [Value.cells] using h1) ?_
  have e:spl r.cells 0 (Value.agg cs.toArray).cells.toList=cs:=by
    simp only [Value.cells,spl,List.take_zero,List.nil_append]
    rw [List.drop_of_length_le (by simp [hl]),List.append_nil]
  rw [e];exact h
theorem ARun.box1 {os:List Oper} {K:Env→Mem→Prop} {T:TypeId} {x:Operand} {v:Value} {d:Nat} (hn:d<N) (hx:ev E x=some v) (hv:v.cells = #[v])
    (h:∀ b,Fresh S b→ARun P N ops os K ((d,.pointer (some ⟨b,0,none⟩)) :: E) (S.set b ⟨T,[v],1⟩)):ARun P N ops (⟨some d,.box T x,ty,pos,aft,none⟩ :: os) K E S :=
  ARun.box hn hx fun b hb=>by rw [hv];exact h b hb
theorem ARun.build1s {os:List Oper} {K:Env→Mem→Prop} {T e:TypeId} {y:Nat} {z u:Value} {x:Operand} {d:Nat} (hn:d<N) (hT:slT P T=some (e,1,y,[z])) (hx:ev E x=some u) (hu:u.cells = #[u])
    (h:∀ b,Fresh S b→ARun P N ops os K ((d,.slice (some ⟨b,0,none⟩) 1 1) :: E) (S.set b ⟨e,[u],1⟩)):ARun P N ops (⟨some d,.buildSlice T 1 #[(0,x)],ty,pos,aft,none⟩ :: os) K E S :=
  ARun.build1 hn hT rfl (by decide) (by decide) hx (by rw [hu];rfl) fun b hb=>by rw [hu];exact h b hb
theorem ARun.boxA {os:List Oper} {K:Env→Mem→Prop} {T:TypeId} {x:Operand} {cs:List Value} {d:Nat} (hn:d<N) (hx:ev E x=some (.agg cs.toArray))
    (h:∀ b,Fresh S b→ARun P N ops os K ((d,.pointer (some ⟨b,0,none⟩)) :: E) (S.set b ⟨T,cs,cs.length⟩)):ARun P N ops (⟨some d,.box T x,ty,pos,aft,none⟩ :: os) K E S :=
  ARun.box hn hx fun b hb=>by
    have:=h b hb
    simpa [Value.cells] using this
theorem ARun.appendCopy {os:List Oper} {K:Env→Mem→Prop} {T e:TypeId} {n y:Nat} {z:List Value} {x1 x2:Operand} {k:Nat} {xs news:List Value} {a a2:Addr} {m c2 d:Nat} (hn:d<N) (hT:slT P T=some (e,n,y,z)) (hz:z.length=n)
    (hx:ev E x1=some (.slice (some a) k k)) (hxr:S.rds a xs) (hxs:xs.length=k*n)
    (hy:ev E x2=some (.slice (some a2) m c2)) (hnews:S.rds a2 news) (hnl:news.length=m*n) (hm:0<m) (hfit:(k+m)*y≤140737488355328) (h63:k+m≤9223372036854775807)
    (h:∀ b' c',Fresh S b'→k+m≤c'→ARun P N ops os K ((d,.slice (some ⟨b',0,none⟩) (k+m) c') :: E) (S.set b' ⟨e,xs ++ news,c'*n⟩)) :
    ARun P N ops (⟨some d,.call ⟨.builtin .append,#[x1,x2],#[T,T]⟩,ty,pos,aft,none⟩ :: os) K E S:=fun ac w g hv=>by
  rw [if_pos (by simp [Region.wanted])]
  obtain ⟨hu,i,v,e1,e2,rfl,rfl,rfl⟩:=zaH hT
  have hz':v.cells.size=i.size:=by simpa using hz
  have hex:(execOp ac.eval ⟨some d,.call ⟨.builtin .append,#[x1,x2],#[T,T]⟩,ty,pos,aft,none⟩).run P w=((Builtin.append_ #[T,T] ty #[.slice (some a) k k,.slice (some a2) m c2]).run P w).andThen fun v w'=>.ok (.value v) w':=by
    simp [execOp,resolve,invoke,builtin,g.ev hx,g.ev hy]
  unfold Oper.wp
  have hfit':Builtin.nextslicecap (k+m) k*i.bytes≤281474976710656:=growslice_fits (by omega) hfit
  rw [hex,run_append_grow (P:=P) w T ty e i v hu e1 e2 a k k xs hxs (fun j u hj=>hv.rd (hxr j u hj)) a2 m c2 news hnl (fun j u hj=>hv.rd (hnews j u hj)) (by omega) (by omega) hfit']
  have hge:=grownCap_ge w (k+m) k e
  have hvd:View S w.drew:=hv.drawn _
  have hst:=Step.allocP hvd e (xs.toArray ++ news.toArray ++ Builtin.zeroCells v.cells (grownCap w (k+m) k e-(k+m))) (xs ++ news) (grownCap w (k+m) k e*i.size) (by simp [List.append_assoc]) (by
    simp only [Array.size_append,List.size_toArray,size_zeroCells,hz',hxs,hnl,← Nat.add_mul]
    exact Nat.mul_le_mul_right _ (by omega))
  exact ⟨_,_,h w.heap.size (grownCap w (k+m) k e) hv.freshAt hge,g.put hn _,(Step.drawn hv _).trans hst⟩
theorem ARun.appendCopy1 {os:List Oper} {K:Env→Mem→Prop} {T e:TypeId} {y:Nat} {z:Value} {x1 x2:Operand} {k:Nat} {xs news:List Value} {a a2:Addr} {m c2 d:Nat} (hn:d<N) (hT:slT P T=some (e,1,y,[z]))
    (hx:ev E x1=some (.slice (some a) k k)) (hxr:S.rds a xs) (hxs:xs.length=k)
    (hy:ev E x2=some (.slice (some a2) m c2)) (hnews:S.rds a2 news) (hnl:news.length=m) (hm:0<m) (hfit:(k+m)*y≤140737488355328) (h63:k+m≤9223372036854775807)
    (h:∀ b' c',Fresh S b'→k+m≤c'→ARun P N ops os K ((d,.slice (some ⟨b',0,none⟩) (k+m) c') :: E) (S.set b' ⟨e,xs ++ news,c'⟩)) :
    ARun P N ops (⟨some d,.call ⟨.builtin .append,#[x1,x2],#[T,T]⟩,ty,pos,aft,none⟩ :: os) K E S :=
  ARun.appendCopy hn hT rfl hx hxr (by omega) hy hnews (by omega) hm hfit h63 (fun b' c' h2 h3=>by have:=h b' c' h2 h3;rwa [Nat.mul_one])
theorem ACall.pure_more {f:FuncId} {args:Array Value} {S0:Mem} {R:Value→Prop} (hl:S0.Less S) (h:ACall P f args S0 fun v S'=>R v∧S'=S0):ACall P f args S fun v S'=>R v∧S'=S:=fun w hv =>
  (h w (hv.less hl)).mono fun e w' ⟨v,S',he,⟨hR,hS⟩,s⟩=>by
    subst hS
    have hbk:∀ k,k<w.heap.size→S.own k=none→w'.heap[k]?=w.heap[k]?:=fun k hk hn=>by
      refine s.block k hk ?_
      cases e0:S'.own k with
      | none=>rfl
      | some r0=>have:=hl.1 _ _ e0;rw [hn] at this;cases this
    refine ⟨v,S,he,⟨hR,rfl⟩,⟨⟨fun b r hb=>?_,fun a u ha=>?_,hv.fzOf rfl (fun k hk _=>hk) hbk⟩,s.os,s.tape,s.output,s.size,hbk,fun k hk=>.inl hk,fun _ _ h=>.inl h⟩⟩
    · cases e0:S'.own b with
      | none=>rw [s.block b (hv.lt hb) e0];exact hv.own b r hb
      | some r0 =>
        have h1:=hl.1 _ _ e0
        obtain rfl:r0=r:=Option.some.inj (h1.symm.trans hb)
        exact s.view.own b r0 e0
    · obtain ⟨h1,h2⟩:=hv.ro a u ha
      refine ⟨?_,h2⟩
      have hlt:=World.block_lt_of_cell? _ _ h1
      refine (World.cell?_of_block (w:=w) (s.block _ hlt ?_)).trans h1
      cases e0:S'.own a.block with
      | none=>rfl
      | some r0=>have:=hl.1 _ _ e0;rw [h2] at this;cases this
def Mem.Knows (S:Mem) (a:Addr) (cs:List Value):Prop:=∀ w,View S w → ∀ j v,cs[j]?=some v→w.cell? (a.add j)=some v
theorem Mem.rds.knows {S:Mem} {a:Addr} {cs:List Value} (h:S.rds a cs):S.Knows a cs:=fun w hv j v hj=>hv.rd (h j v hj)
theorem Mem.Knows.less {S S':Mem} {a:Addr} {cs:List Value} (h:S'.Knows a cs) (hl:S'.Less S):S.Knows a cs:=fun w hv=>h w (hv.less hl)
theorem Calm.loadK {T:TypeId} {x:Operand} {a:Addr} {v:Value} (hT:plainT P T=true) (hx:ev E x=some (.pointer (some a))) (hr:S.Knows a [v]):ACalm P N ⟨dst,.load T x,ty,pos,aft,gd⟩ E S v:=fun c w g hv=>by
  have h0:=hr w hv 0 v rfl
  have e:a.add 0=a:=by simp [Addr.add]
  rw [e] at h0
  simp [execOp,g.ev hx,Instr.loadAt,Instr.sureAddr,loadVar,zdl hT w,h0]
theorem Calm.loadAK {T:TypeId} {x:Operand} {a:Addr} {cs:List Value} (hT:aggT P T=true) (hs:sizeT P T=some cs.length) (hx:ev E x=some (.pointer (some a))) (hr:S.Knows a cs):ACalm P N ⟨dst,.load T x,ty,pos,aft,gd⟩ E S (.agg cs.toArray):=fun c w g hv=>by
  have hl:=run_loadCells_list (P:=P) w a cs (hr w hv)
  simp [execOp,g.ev hx,Instr.loadAt,Instr.sureAddr,loadVar,zdm hT w,zaS hs w,hl]
theorem ARun.skipU {K:Env→Mem→Prop} {o:Oper} {os:List Oper} {d:Nat} (j:Nat) (t:Bool) (dj:Nat) (hg:o.guard=some (j,t)) (hj:(ops[j]?).bind (·.dst)=some dj) (hjn:dj<N) (hb:lk E dj=some undef) (hd:o.dst=some d) (hn:d<N) (h:ARun P N ops os K ((d,undef) :: E) S):ARun P N ops (o :: os) K E S:=fun a w g hv=>by
  cases e:ops[j]? with
  | none=>simp [e] at hj
  | some og =>
    simp [e] at hj
    have h1:=g.at_ dj _ hb
    have h2:a.tmps[dj]?=some undef:=by
      rw [Array.getD_eq_getD_getElem?] at h1
      have:dj<a.tmps.size:=by rw [g.size];exact hjn
      rw [Array.getElem?_eq_getElem this] at h1 ⊢
      simpa using h1
    have hy:yielded ops a.tmps j=none:=by simp [yielded,e,hj,h2,undef]
    rw [if_neg (by simp [Region.wanted,hg,hy])]
    exact ⟨_,_,h,by rw [hd];exact g.put hn _,Step.refl hv⟩
theorem zj6 {l:List Oper} {W:List Nat} {S0:Mem} {K:Env→Mem→Prop} {i:Nat} {is:List (Nat × Bool)} {o:Oper} {d:Nat} (j:Nat) (t:Bool) (dj:Nat) (ho:l[i]?=some o) (hg:o.guard=some (j,t)) (hj:(l.toArray[j]?).bind (·.dst)=some dj) (hjn:dj<N) (hb:lk E dj=some undef) (hd:o.dst=some d) (hn:d<N) (hl:S0.Less S)
    (h:DrawRun P N l W S0 is K ((d,undef) :: E) S):DrawRun P N l W S0 ((i,true) :: is) K E S:=by
  cases e:l.toArray[j]? with
  | none=>rw [e] at hj;simp at hj
  | some og =>
    rw [e] at hj
    have hj':og.dst=some dj:=by simpa using hj
    refine ⟨o,d,undef,ho,hd,hn,.inr hl,fun a w g hv=>.inr ⟨?_,rfl⟩,h⟩
    have h1:=g.at_ dj _ hb
    have h2:a.tmps[dj]?=some undef:=by
      rw [Array.getD_eq_getD_getElem?] at h1
      have:dj<a.tmps.size:=by rw [g.size];exact hjn
      rw [Array.getElem?_eq_getElem this] at h1 ⊢
      simpa using h1
    have hy:yielded l.toArray a.tmps j=none:=by simp only [yielded,e];simp [hj',h2,undef]
    simp [Region.wanted,hg,hy]
theorem zh3 (a b:ByteArray):a.toList=b.toList ↔ a=b:=⟨fun h=>by rw [ByteArray.toList_eq,ByteArray.toList_eq] at h;cases a;cases b;simpa using h,fun h=>by rw [h]⟩
theorem zcO {t:TypeId} {x y:Operand} (a b:Bool) (ht:P.underlying t=some .bool):Bin P .neq t x y (.bool a) (.bool b) (.bool (!(a == b))):=fun w=>by
  simp only [eqGuard,Sem.run_bind];simp [run_neq_bool w t a b ht]
theorem zaw {t:TypeId} {x y:Operand} (a b:ByteArray):Bin P .eql t x y (.string a) (.string b) (.bool (decide (a=b))):=fun w=>by
  simp [eqGuard,binOp,Op.stringOp]
  rw [Bool.eq_iff_iff];simp [zh3]
theorem zaF {t:TypeId} {x y:Operand} (a b:ByteArray):Bin P .neq t x y (.string a) (.string b) (.bool (!decide (a=b))):=fun w=>by
  simp [eqGuard,binOp,Op.stringOp]
  rw [Bool.eq_iff_iff];simp [zh3]
end
end Mv
open Go.RowKit
namespace Mv
theorem zai {k:IntKind} {a b:Int} (h:a=b):some (Value.int k a)=some (.int k b):=by rw [h]
theorem znT {a b:ByteArray} (h:a=b):some (Value.string a)=some (.string b):=by rw [h]
def outV (o:Option (Nat × Nat)) (n:Nat):Value:=match o with
  | none=>.slice none 0 0
  | some (b,c)=>.slice (some ⟨b,0,none⟩) n c
def outM (S:Mem) (o:Option (Nat × Nat)) (e:TypeId) (cs:List Value):Mem:=match o with
  | none=>S
  | some (b,c)=>S.set b ⟨e,cs,c⟩
structure OkO (S:Mem) (o:Option (Nat × Nat)) (n:Nat):Prop where
  nil:o=none→n=0
  own:∀ b c,o=some (b,c)→Fresh S b∧n≤c
theorem zbR (S:Mem):OkO S none 0:=⟨fun _=>rfl,fun b c e=>by cases e⟩
theorem zbu {S:Mem} {o:Option (Nat × Nat)} {n:Nat} {e:TypeId} {cs:List Value} (h:OkO S o n):S.Less (outM S o e cs):=by
  cases o with
  | none=>exact Mem.Less.refl _
  | some qc=>obtain ⟨q,c⟩:=qc;exact Mem.less_set _ _ _ (h.own q c rfl).1.1
theorem zcg {S:Mem} {o:Option (Nat × Nat)} {e:TypeId} {cs:List Value} {b:Nat} (h:Fresh (outM S o e cs) b):Fresh S b ∧ ∀ q c,o=some (q,c)→b≠q:=by
  cases o with
  | none=>exact ⟨h,fun q c e=>by cases e⟩
  | some qc =>
    obtain ⟨q,c⟩:=qc
    obtain ⟨h1,h2⟩:=zaa h
    exact ⟨h1,fun q' c' e=>by cases e;exact h2⟩
theorem zjd (S:Mem) (b:Nat) (o:Option (Nat × Nat)) (e:TypeId) (cs:List Value) (r:Blk) (ho:∀ q c,o=some (q,c)→b≠q):(outM S o e cs).set b r=outM (S.set b r) o e cs:=by
  cases o with
  | none=>rfl
  | some qc=>exact Mem.set_comm _ _ _ (Ne.symm (ho _ _ rfl))
theorem zal {S:Mem} {b q:Nat} {r:Blk} (h:Fresh S q) (hne:q≠b):Fresh (S.set b r) q:=⟨by rw [Mem.own_set_other _ _ hne];exact h.1,h.2⟩
theorem OkO.set {S:Mem} {b n:Nat} {o:Option (Nat × Nat)} {r:Blk} (h:OkO S o n) (ho:∀ q c,o=some (q,c)→b≠q):OkO (S.set b r) o n :=
  ⟨h.nil,fun q c e=>⟨zal (h.own q c e).1 (Ne.symm (ho q c e)),(h.own q c e).2⟩⟩
theorem OkO.unset {S:Mem} {b n:Nat} {o:Option (Nat × Nat)} {r:Blk} (h:OkO (S.set b r) o n):OkO S o n :=
  ⟨h.nil,fun q c e=>⟨(zaa (h.own q c e).1).1,(h.own q c e).2⟩⟩
structure AppO (M S:Mem) (o:Option (Nat × Nat)) (e:TypeId) (cs:List Value):Prop where
  nil:o=none→cs = []∧S.Less M
  own:∀ b c,o=some (b,c)→M.own b=some ⟨e,cs,c⟩∧S.Less (M.del b)
theorem zd4 {S:Mem} {o:Option (Nat × Nat)} {n t:Nat} {e:TypeId} {cs:List Value} {r:Blk} (h:OkO S o n) (hn:cs.length=n) (ht:Fresh (outM S o e cs) t):AppO ((outM S o e cs).set t r) S o e cs:=by
  obtain ⟨h1,h2⟩:=zcg ht
  refine ⟨fun ho=>?_,fun b c ho=>?_⟩
  · subst ho
    exact ⟨List.eq_nil_of_length_eq_zero (by rw [hn];exact h.nil rfl),Mem.less_set _ _ _ h1.1⟩
  · subst ho
    have hne:=h2 b c rfl
    refine ⟨(Mem.own_set_other _ _ (Ne.symm hne)).trans (Mem.own_set_same _ _ _),?_⟩
    have hb:=(h.own b c rfl).1
    rw [show ((outM S (some (b,c)) e cs).set t r).del b=S.set t r from zeU hne (zcu (zgb hb))]
    exact Mem.less_set _ _ _ h1.1
section
variable {P:Program} {N:Nat} {ops:Array Oper} {E:Env} {M S:Mem}
variable {ty:TypeId} {pos:String} {aft:Array Edge}
theorem AOp.toLess {o:Oper} {K:Env→Mem→Prop} (h:AOp P N ops o (fun E' S'=>∃ S0,S0.Less S'∧K E' S0) E M):AOp P N ops o K E M:=fun a w hg hv=>by
  have h1:=h a w hg hv
  have next:∀ a1 w1,Post N (fun E' S'=>∃ S0,S0.Less S'∧K E' S0) M w a1 w1→Post N K M w a1 w1:=fun a1 w1 ⟨E1,S1,⟨S0,hl,k⟩,g,s⟩=>⟨E1,S0,k,g,s.less hl⟩
  split
  · rename_i hw;rw [if_pos hw] at h1;exact Oper.wp_mono next h1
  · rename_i hw;rw [if_neg hw] at h1;exact next _ _ h1
theorem ARun.appendO {os:List Oper} {K:Env→Mem→Prop} {T e:TypeId} {y:Nat} {z:Value} {x1 x2:Operand} {o:Option (Nat × Nat)} {n:Nat} {cs news:List Value} {a2:Addr} {m c2 d:Nat} (hn:d<N) (hT:slT P T=some (e,1,y,[z]))
    (hx:ev E x1=some (outV o n)) (hcs:cs.length=n) (happ:AppO M S o e cs)
    (hy:ev E x2=some (.slice (some a2) m c2)) (hnews:M.rds a2 news) (hnl:news.length=m) (hm:0<m) (h1:∀ v ∈ news,v.oneCell'=true) (hfit:(n+m)*y≤140737488355328) (h63:n+m≤9223372036854775807)
    (h:∀ b c,OkO S (some (b,c)) (n+m)→ARun P N ops os K ((d,outV (some (b,c)) (n+m)) :: E) (outM S (some (b,c)) e (cs ++ news))) :
    ARun P N ops (⟨some d,.call ⟨.builtin .append,#[x1,x2],#[T,T]⟩,ty,pos,aft,none⟩ :: os) K E M:=by
  cases o with
  | none =>
    obtain ⟨q1,q2⟩:=happ.nil rfl
    subst q1
    simp only [List.length_nil] at hcs
    subst hcs
    refine AOp.toLess (K:=fun E' S'=>ARun P N ops os K E' S') ?_
    refine ARun.appendNil1 (os:=[]) hn hT hx hy hnews hnl hm (by simpa using hfit) (by omega) fun b c hb hc=>?_
    refine ⟨S.set b ⟨e,news,c⟩,Less.set q2 _ _,?_⟩
    have:=h b c ⟨(fun x=>by cases x),fun b' c' x=>by cases x;exact ⟨hb.less q2,by omega⟩⟩
    simpa [outM,outV] using this
  | some bc =>
    obtain ⟨b0,c0⟩:=bc
    obtain ⟨q1,q2⟩:=happ.own b0 c0 rfl
    refine AOp.toLess (K:=fun E' S'=>ARun P N ops os K E' S') ?_
    refine ARun.append1 (os:=[]) hn hT hx q1 hcs hy hnews hnl h1 hfit h63 rfl fun b c hb hc=>?_
    refine ⟨S.set b ⟨e,cs ++ news,c⟩,Less.set q2 _ _,?_⟩
    exact h b c ⟨(fun x=>by cases x),fun b' c' x=>by cases x;exact ⟨hb.less q2,hc⟩⟩
end
end Mv
open Go.RowKit
namespace Mv
theorem ne_ {p:Prop} (h:p:=by (first | assumption | (apply Ne.symm;assumption))):p:=h
theorem rd_ {p:Prop} (h:p:=by (repeat ((with_reducible refine (zgS _ _ ?_).trans ?_);(first | assumption | (apply Ne.symm;assumption))));(first | ((with_reducible refine (zdk _ _ _ _).trans ?_);rfl) | ((with_reducible apply zbt);(with_reducible assumption);rfl) | with_reducible assumption)):p:=h
theorem rds_ {p:Prop} (h:p:=by first | with_reducible assumption | ((repeat (apply zf8;((repeat ((with_reducible refine (zgS _ _ ?_).trans ?_);(first | assumption | (apply Ne.symm;assumption))));(first | ((with_reducible refine (zdk _ _ _ _).trans ?_);rfl) | ((with_reducible apply zbt);(with_reducible assumption);rfl) | with_reducible assumption))));exact zhY _ _)):p:=h
theorem own_ {p:Prop} (h:p:=by (repeat first | ((with_reducible refine (Mem.own_set_other _ _ ?_).trans ?_);(first | assumption | (apply Ne.symm;assumption))) | ((with_reducible refine (Mem.own_del_other _ ?_).trans ?_);(first | assumption | (apply Ne.symm;assumption))));(first | with_reducible exact Mem.own_set_same _ _ _ | with_reducible assumption | exact Mem.own_set_same _ _ _)):p:=h
theorem del_ {p:Prop} (h:p:=by (repeat first | (with_reducible apply zcu) | ((with_reducible apply zeU);(first | assumption | (apply Ne.symm;assumption))));(with_reducible apply zgb);with_reducible assumption):p:=h
theorem zj7 {p:Prop} (h:p:=by first | decide | (simp;done) | (simp;omega) | omega):p:=h
theorem zad {p:Prop} (h:p:=by first | with_reducible exact Mem.Less.refl _ | ((with_reducible refine Mem.less_set _ _ _ (Fresh.own ?_));with_reducible assumption) | (refine zqG ?_;(repeat first | with_reducible exact LessB.refl _ _ | ((with_reducible refine LessB.set ?_ ?_);((repeat first | ((with_reducible refine (Mem.own_set_other _ _ ?_).trans ?_);(first | assumption | (apply Ne.symm;assumption))) | ((with_reducible refine (Mem.own_del_other _ ?_).trans ?_);(first | assumption | (apply Ne.symm;assumption))));(first | with_reducible exact Mem.own_set_same _ _ _ | with_reducible assumption | exact Mem.own_set_same _ _ _))) | (with_reducible refine LessB.delL ?_));(repeat first | with_reducible exact LessB.refl _ _ | ((with_reducible refine LessB.of ?_);with_reducible assumption) | ((with_reducible refine LessB.skip ?_ ?_);(first | ((refine .inl ?_);focus (simp;done)) | ((refine .inr (Fresh.own ?_));with_reducible assumption) | ((refine .inr ?_);with_reducible assumption))) | ((with_reducible refine LessB.skipDel ?_ ?_);(first | ((refine .inl ?_);focus (simp;done)) | ((refine .inr (Fresh.own ?_));with_reducible assumption) | ((refine .inr ?_);with_reducible assumption)))))):p:=h
theorem om_ {p:Prop} (h:p:=by omega):p:=h
section
variable {P:Program} {t:TypeId} {x y:Operand} {vx vy v:Value}
theorem zll (h:Bin P .add t x y vx vy v:=by first | exact zf9 (IntWalk.i64_in _ (by omega)) | exact zh0 _ _):Bin P .add t x y vx vy v:=h
end
section
variable {P:Program} {N:Nat} {ops:Array Oper} {E:Env} {S:Mem} {K:Env→Mem→Prop} {os:List Oper}
variable {d:Nat} {op:Op} {ty:TypeId} {pos:String} {aft:Array Edge} {v:Value} {j:Nat} {t u:Bool}
theorem rC (hc:ACalm P N ⟨some d,op,ty,pos,aft,none⟩ E S v) (h:ARun P N ops os K ((d,v) :: E) S) (hn:d<N:=by exact zab rfl):ARun P N ops (⟨some d,op,ty,pos,aft,none⟩ :: os) K E S:=ARun.calm rfl rfl hn hc h
section
variable {l:List Oper} {W:List Nat} {S0:Mem} {K':Env→Mem→Prop} {i:Nat} {is:List (Nat × Bool)} {o:Oper} {d j dj:Nat} {t u:Bool} {w:Value}
theorem dP (ho:l[i]?=some o:=by exact rfl) (hp:pureOp o=true:=by exact rfl) (hg:o.guard=none:=by exact rfl) (hd:o.dst=some d:=by exact rfl) (hn:d<N:=by exact zab rfl) (hc:∀ S',ACalm P N o E S' w) (h:DrawRun P N l W S0 is K' ((d,w) :: E) S):DrawRun P N l W S0 ((i,true) :: is) K' E S:=zgT ho hp hg hd hn hc h
theorem dC (ho:l[i]?=some o:=by exact rfl) (hp:pureOp o=false:=by exact rfl) (hg:o.guard=none:=by exact rfl) (hd:o.dst=some d:=by exact rfl) (hn:d<N:=by exact zab rfl) (hl:S0.Less S:=by exact zad) (hc:ACalm P N o E S0 w) (h:DrawRun P N l W S0 is K' ((d,w) :: E) S):DrawRun P N l W S0 ((i,true) :: is) K' E S :=
  zlj ho hg hd hn hl (fun S' hS'=>by rcases hS' with x | x;(rw [hp] at x;cases x);subst x;exact hc) h
theorem dG (ho:l[i]?=some o:=by exact rfl) (hg:o.guard=some (j,t):=by exact rfl) (hj:(l.toArray[j]?).bind (·.dst)=some dj:=by exact rfl) (hjn:dj<N:=by exact zab rfl) (hb:lk E dj=some (.bool t):=by exact rfl) (hd:o.dst=some d:=by exact rfl) (hn:d<N:=by exact zab rfl) (hl:S0.Less S:=by exact zad) (hc:∀ S',ACalm P N o E S' w) (h:DrawRun P N l W S0 is K' ((d,w) :: E) S):DrawRun P N l W S0 ((i,true) :: is) K' E S :=
  zfx j t dj ho hg hj hjn hb hd hn hl (fun S' _=>hc S') h
theorem dL (ho:l[i]?=some o:=by exact rfl) (hp:pureOp o=false:=by exact rfl) (hg:o.guard=some (j,t):=by exact rfl) (hj:(l.toArray[j]?).bind (·.dst)=some dj:=by exact rfl) (hjn:dj<N:=by exact zab rfl) (hb:lk E dj=some (.bool t):=by exact rfl) (hd:o.dst=some d:=by exact rfl) (hn:d<N:=by exact zab rfl) (hl:S0.Less S:=by exact zad) (hc:ACalm P N o E S0 w) (h:DrawRun P N l W S0 is K' ((d,w) :: E) S):DrawRun P N l W S0 ((i,true) :: is) K' E S :=
  zfx j t dj ho hg hj hjn hb hd hn hl (fun S' hS'=>by rcases hS' with x | x;(rw [hp] at x;cases x);subst x;exact hc) h
theorem dS (h:DrawRun P N l W S0 is K' ((d,undef) :: E) S) (ho:l[i]?=some o:=by exact rfl) (hg:o.guard=some (j,t):=by exact rfl) (hj:(l.toArray[j]?).bind (·.dst)=some dj:=by exact rfl) (hjn:dj<N:=by exact zab rfl) (hb:lk E dj=some (.bool u):=by exact rfl) (hne:(u == t)=false:=by exact rfl) (hd:o.dst=some d:=by exact rfl) (hn:d<N:=by exact zab rfl) (hl:S0.Less S:=by exact zad):DrawRun P N l W S0 ((i,true) :: is) K' E S :=
  zj5 j t u dj ho hg hj hjn hb hne hd hn hl h
theorem dU (h:DrawRun P N l W S0 is K' ((d,undef) :: E) S) (ho:l[i]?=some o:=by exact rfl) (hg:o.guard=some (j,t):=by exact rfl) (hj:(l.toArray[j]?).bind (·.dst)=some dj:=by exact rfl) (hjn:dj<N:=by exact zab rfl) (hb:lk E dj=some undef:=by exact rfl) (hd:o.dst=some d:=by exact rfl) (hn:d<N:=by exact zab rfl) (hl:S0.Less S:=by exact zad):DrawRun P N l W S0 ((i,true) :: is) K' E S :=
  zj6 j t dj ho hg hj hjn hb hd hn hl h
end
theorem rG (dj:Nat) (hc:ACalm P N ⟨some d,op,ty,pos,aft,some (j,t)⟩ E S v) (h:ARun P N ops os K ((d,v) :: E) S) (hb:lk E dj=some (.bool t):=by exact rfl) (hj:(ops[j]?).bind (·.dst)=some dj:=by exact rfl) (hjn:dj<N:=by exact zab rfl) (hn:d<N:=by exact zab rfl):ARun P N ops (⟨some d,op,ty,pos,aft,some (j,t)⟩ :: os) K E S:=ARun.calmG j t dj rfl hj hjn hb rfl hn hc h
theorem rS (dj:Nat) (h:ARun P N ops os K ((d,undef) :: E) S) (hb:lk E dj=some (.bool u):=by exact rfl) (hne:(u == t)=false:=by exact rfl) (hj:(ops[j]?).bind (·.dst)=some dj:=by exact rfl) (hjn:dj<N:=by exact zab rfl) (hn:d<N:=by exact zab rfl):ARun P N ops (⟨some d,op,ty,pos,aft,some (j,t)⟩ :: os) K E S:=ARun.skipG j t u dj rfl hj hjn hb hne rfl hn h
theorem rU (dj:Nat) (h:ARun P N ops os K ((d,undef) :: E) S) (hb:lk E dj=some undef:=by exact rfl) (hj:(ops[j]?).bind (·.dst)=some dj:=by exact rfl) (hjn:dj<N:=by exact zab rfl) (hn:d<N:=by exact zab rfl):ARun P N ops (⟨some d,op,ty,pos,aft,some (j,t)⟩ :: os) K E S:=ARun.skipU j t dj rfl hj hjn hb rfl hn h
end
end Mv
open Go.RowKit
namespace Mv
theorem Mem.Less.own {S S':Mem} {b:Nat} {r:Blk} (h:S.Less S') (hb:S.own b=some r):S'.own b=some r:=h.1 b r hb
theorem zbS {S:Mem} {b c n:Nat} (h:Fresh S b) (hc:n≤c):OkO S (some (b,c)) n:=⟨fun h=>(by cases h),fun b1 c1 e=>(by cases e;exact ⟨h,hc⟩)⟩
theorem OkO.some {S:Mem} {o:Option (Nat × Nat)} {n:Nat} (h:OkO S o n) (hn:0<n):∃ b c,o = .some (b,c):=by
  cases o with
  | none=>have:=h.nil rfl;omega
  | some q=>exact ⟨q.1,q.2,rfl⟩
theorem znU (S:Mem) (b c:Nat) (e:TypeId) (cs:List Value):(outM S (.some (b,c)) e cs).rds ⟨b,0,none⟩ cs:=zbA (r:=⟨e,cs,c⟩) (Mem.own_set_same _ _ _)
/-! ### Slices as lists: 'f x' are the cells of an element, n of them -/
def Sl {α : Type} (n:Nat) (f : α→List Value) (S:Mem) (v:Value) (l:List α):Prop :=
  ∃ a cap,v = .slice a l.length cap∧l.length≤cap∧l.length≤9223372036854775807∧(l = [] ∨ ∃ b off,a=some ⟨b,off,none⟩ ∧ ∀ i (h:i<l.length),S.Knows ⟨b,off+i*n,none⟩ (f l[i]))
theorem Sl.less {α : Type} {n:Nat} {f : α→List Value} {S S':Mem} {v:Value} {l:List α} (h:Sl n f S v l) (hl:S.Less S'):Sl n f S' v l:=by
  obtain ⟨a,cap,h1,h2,h3,h4⟩:=h
  refine ⟨a,cap,h1,h2,h3,?_⟩
  rcases h4 with h4 | ⟨b,off,h5,h6⟩
  · exact .inl h4
  · exact .inr ⟨b,off,h5,fun i h=>(h6 i h).less hl⟩
theorem Sl.nil {α : Type} (n:Nat) (f : α→List Value) (S:Mem):Sl n f S (.slice none 0 0) []:=⟨none,0,rfl,by simp,by simp,.inl rfl⟩
theorem Mem.own_knows {S:Mem} {b:Nat} {r:Blk} (h:S.own b=some r) (k:Nat) (cs:List Value) (hc:∀ j v,cs[j]?=some v→r.cells[k+j]?=some v):S.Knows ⟨b,k,none⟩ cs:=by
  refine Mem.rds.knows fun j v hj=>?_
  rw [zaz,zdf h];exact hc j v hj
theorem zdE {α : Type} {n:Nat} {f : α→List Value} (hn:∀ x,(f x).length=n):∀ (l:List α) (i:Nat) (h:i<l.length) (j:Nat) (v:Value),(f l[i])[j]?=some v→(l.flatMap f)[i*n+j]?=some v
  | x :: l,0,h,j,v,hj=>by
    have hlt:j<(f x).length:=(List.getElem?_eq_some_iff.1 hj).1
    simp only [List.getElem_cons_zero] at hj
    rw [List.flatMap_cons,Nat.zero_mul,Nat.zero_add,List.getElem?_append_left hlt];exact hj
  | x :: l,i+1,h,j,v,hj=>by
    have ih:=zdE hn l i (by simpa using h) j v (by simpa using hj)
    rw [List.flatMap_cons,List.getElem?_append_right (by rw [hn];rw [Nat.succ_mul];omega),hn,show (i+1)*n+j-n=i*n+j from by rw [Nat.succ_mul];omega]
    exact ih
theorem Sl.own {α : Type} {n:Nat} {f : α→List Value} {S:Mem} {b:Nat} {r:Blk} {l:List α} {cap len:Nat} (hb:S.own b=some r) (hn:∀ x,(f x).length=n) (hr:l.flatMap f <+: r.cells) (hlen:l.length=len) (hc:len≤cap) (hm:len≤9223372036854775807) :
    Sl n f S (.slice (some ⟨b,0,none⟩) len cap) l:=by
  subst hlen
  refine ⟨_,cap,rfl,hc,hm,.inr ⟨b,0,rfl,fun i hi=>?_⟩⟩
  refine Mem.own_knows hb _ _ fun j v hj=>?_
  have:=zdE hn l i hi j v hj
  rw [Nat.zero_add]
  exact zbU hr this
theorem Sl.own1 {α : Type} {g : α→Value} {S:Mem} {b:Nat} {r:Blk} {l:List α} {cap len:Nat} (hb:S.own b=some r) (hr:l.map g <+: r.cells) (hlen:l.length=len) (hc:len≤cap) (hm:len≤9223372036854775807) :
    Sl 1 (fun x=>[g x]) S (.slice (some ⟨b,0,none⟩) len cap) l :=
  Sl.own hb (fun _=>rfl) (by
    have:l.flatMap (fun x=>[g x])=l.map g:=by clear hr hlen;induction l with | nil=>rfl | cons x l ih=>simp [List.flatMap_cons,ih]
    rw [this];exact hr) hlen hc hm
def SlOf {α : Type} (R:Mem→Value → α→Prop) (S:Mem) (v:Value) (l:List α):Prop :=
  ∃ hs:List Value,hs.length=l.length∧Sl 1 (fun x=>[x]) S v hs ∧ ∀ i (h:i<l.length) (h':i<hs.length),R S hs[i] l[i]
theorem SlOf.less {α : Type} {R:Mem→Value → α→Prop} (hR:∀ S S' v x,R S v x→S.Less S'→R S' v x) {S S':Mem} {v:Value} {l:List α} (h:SlOf R S v l) (hl:S.Less S'):SlOf R S' v l:=by
  obtain ⟨hs,h1,h2,h3⟩:=h
  exact ⟨hs,h1,h2.less hl,fun i h h'=>hR _ _ _ _ (h3 i h h') hl⟩
theorem SlOf.nil {α : Type} (R:Mem→Value → α→Prop) (S:Mem):SlOf R S (.slice none 0 0) ([] : List α):=⟨[],rfl,Sl.nil _ _ _,fun i h=>by cases h⟩

structure GrowI {α : Type} (R:Mem→Value → α→Prop) (S M:Mem) (o:Option (Nat × Nat)) (hs:List Value) (xs:List α):Prop where
  less:S.Less M
  ok:OkO M o hs.length
  len:hs.length=xs.length
  at_:∀ i (h:i<xs.length) (h':i<hs.length),R M hs[i] xs[i]
theorem GrowI.nil {α : Type} (R:Mem→Value → α→Prop) (S:Mem):GrowI R S S none [] ([] : List α):=⟨Mem.Less.refl _,zbR S,rfl,fun i h=>by cases h⟩
theorem GrowI.step {α : Type} {R:Mem→Value → α→Prop} (hR:∀ S S' v x,R S v x→S.Less S'→R S' v x) {S M M':Mem} {o:Option (Nat × Nat)} {hs:List Value} {xs:List α} (h:GrowI R S M o hs xs) (hl:M.Less M') {hdr:Value} {x : α} (hr:R M' hdr x) {o':Option (Nat × Nat)} (ho:OkO M' o' (hs.length+1)) :
    GrowI R S M' o' (hs ++ [hdr]) (xs ++ [x]):=by
  refine ⟨h.less.trans hl,by rw [List.length_append];exact ho,by simp [h.len],fun i hi hi'=>?_⟩
  by_cases e:i<xs.length
  · have e':i<hs.length:=by rw [h.len];exact e
    rw [List.getElem_append_left e,List.getElem_append_left e']
    exact hR _ _ _ _ (h.at_ i e e') hl
  · have e1:i=xs.length:=by simp at hi;omega
    subst e1
    simp only [List.getElem_append_right (Nat.le_refl _),Nat.sub_self,List.getElem_cons_zero]
    rw [List.getElem_append_right (by rw [h.len];exact Nat.le_refl _)]
    simpa [h.len] using hr
theorem zh4 {α : Type} {g : α→Value} {M:Mem} {o:Option (Nat × Nat)} {e:TypeId} {l:List α} {n:Nat} (h:OkO M o n) (hn:l.length=n) (hm:n≤9223372036854775807):Sl 1 (fun x=>[g x]) (outM M o e (l.map g)) (outV o n) l:=by
  cases o with
  | none=>have:=h.nil rfl;subst this;obtain rfl:l = []:=List.eq_nil_of_length_eq_zero hn;exact Sl.nil _ _ _
  | some q=>exact Sl.own1 (r:=⟨e,l.map g,q.2⟩) (Mem.own_set_same _ _ _) List.prefix_rfl hn (h.own _ _ rfl).2 hm
theorem GrowI.slOf {α : Type} {R:Mem→Value → α→Prop} (hR:∀ S S' v x,R S v x→S.Less S'→R S' v x) {S M:Mem} {o:Option (Nat × Nat)} {hs:List Value} {xs:List α} {e:TypeId} (h:GrowI R S M o hs xs) (hm:hs.length≤9223372036854775807) :
    SlOf R (outM M o e hs) (outV o hs.length) xs :=
  ⟨hs,h.len,by have:=zh4 (g:=fun x:Value=>x) (e:=e) h.ok rfl hm;rwa [List.map_id'] at this,fun i hi hi'=>hR _ _ _ _ (h.at_ i hi hi') (zbu h.ok)⟩

/-! ### Closers for what is known so -/
theorem kn_ {p:Prop} (h:p:=by first | assumption | ((refine Mem.Knows.less (by assumption) ?_);exact zad)):p:=h
section
variable {P:Program} {N:Nat} {E:Env} {S:Mem} {dst:Option Nat} {T ty:TypeId} {pos:String} {aft:Array Edge} {gd:Option (Nat × Bool)} {x:Operand} {a:Addr} {v:Value}
theorem ld_ (hT:plainT P T=true) (hx:ev E x=some (.pointer (some a))) (h:(S.rd a=some v∨S.Knows a [v]):=by first | exact .inl rd_ | exact .inr kn_):ACalm P N ⟨dst,.load T x,ty,pos,aft,gd⟩ E S v :=
  h.elim (fun h=>Calm.load hT hx h) (fun h=>Calm.loadK hT hx h)
theorem ldA_ {cs:List Value} (hT:aggT P T=true) (hs:sizeT P T=some cs.length) (hx:ev E x=some (.pointer (some a))) (h:(S.rds a cs∨S.Knows a cs):=by first | exact .inl rds_ | exact .inr kn_):ACalm P N ⟨dst,.load T x,ty,pos,aft,gd⟩ E S (.agg cs.toArray) :=
  h.elim (fun h=>Calm.loadA hT hs hx h) (fun h=>Calm.loadAK hT hs hx h)
end

/-! ### What is built -/
def bldF (f:Nat→Option (Nat × Nat)):List Value→List (Nat × Value)→Option (List Value)
  | cs,[]=>some cs
  | cs,(i,v) :: rest=>match f i with
    | some (off,n)=>if v.cells.size=n∧off+n≤cs.length then bldF f (spl cs off v.cells.toList) rest else none
    | none=>none
theorem zgW (f:Nat→Option (Nat × Nat)):∀ (parts:List (Nat × Value)) (cells:Array Value) (cs:List Value),bldF f cells.toList parts=some cs→Instr.fill f cells parts=some cs.toArray:=by
  intro parts
  induction parts with
  | nil=>intro cells cs h;simp [bldF] at h;subst h;simp [Instr.fill]
  | cons p rest ih =>
    obtain ⟨i,v⟩:=p
    intro cells cs h
    simp only [bldF] at h
    cases e:f i with
    | none=>simp [e] at h
    | some on =>
      obtain ⟨off,n⟩:=on
      simp only [e] at h
      split at h
      · rename_i hc
        obtain ⟨h1,h2⟩:=hc
        have hsz:off+v.cells.size≤cells.size:=by rw [h1];simpa using h2
        simp only [Instr.fill,e]
        have hn:(v.cells.size≠n || decide (off+v.cells.size > cells.size))=false:=by simp [h1];omega
        simp only [hn,Bool.false_eq_true,if_false]
        have hf:=zgU off v.cells.toList 0 cells (by simp;omega)
        rw [Nat.add_zero] at hf
        have e2:Array.foldl (fun (bs:Array Value) (p:Value × Nat)=>bs.setIfInBounds (off+p.2) p.1) cells v.cells.zipIdx=(spl cells.toList off v.cells.toList).toArray:=by
          apply Array.ext'
          rw [← Array.foldl_toList,Array.toList_zipIdx,hf]
        refine (congrArg (fun x=>Instr.fill f x rest) e2).trans ?_
        exact ih _ _ (by simpa using h)
      · cases h
def zrep (z:List Value) (n:Nat):List Value:=(List.range n).map fun j=>z[j % z.length]!
def arrT (P:Program) (T:TypeId):Option (Nat × List Value):=match P.underlying T with
  | some (.array _ e)=>match P.info? e,(P.info? T).bind (·.zero) with
    | some i,some z=>some (i.size,z.cells.toList)
    | _,_=>none
  | _=>none
section
variable {P:Program} {N:Nat} {ops:Array Oper} {E:Env} {S:Mem} {K:Env→Mem→Prop}
variable {dst:Option Nat} {ty:TypeId} {pos:String} {aft:Array Edge} {gd:Option (Nat × Bool)}
theorem zje {c:Act} (g:Good N E c) {parts:List (Nat × Operand)} {vs:List Value} (hx:evs E (parts.map (·.2))=some vs):(parts.toArray.map fun (p:Nat × Operand)=>(p.1,c.eval p.2)).toList=(parts.map (·.1)).zip vs:=by
  rw [← g.evs hx]
  simp only [List.map_toArray,List.map_map]
  exact zgV c.eval parts
theorem Calm.buildArr {T:TypeId} {n:Nat} {z:List Value} {parts:List (Nat × Operand)} {vs cs:List Value} (hT:arrT P T=some (n,z)) (hx:evs E (parts.map (·.2))=some vs) (hb:bldF (fun i=>some (i*n,n)) z ((parts.map (·.1)).zip vs)=some cs) :
    ACalm P N ⟨dst,.build T parts.toArray,ty,pos,aft,gd⟩ E S (.agg cs.toArray):=fun c w g hv=>by
  unfold arrT at hT
  cases e:P.underlying T with
  | none=>simp [e] at hT
  | some d =>
    cases d <;> simp [e] at hT
    rename_i len el
    cases e1:P.info? el with
    | none=>simp [e1] at hT
    | some i =>
      cases e2:(P.info? T).bind (·.zero) with
      | none=>simp [e1,e2] at hT
      | some zv =>
        simp [e1,e2] at hT
        obtain ⟨rfl,rfl⟩:=hT
        have hz:(zeroValue T).run P w = .ok zv w:=by
          cases e3:P.info? T with
          | none=>simp [e3] at e2
          | some i=>simp [e3] at e2;simp [zeroValue,typeInfo,e3,e2]
        have hfill:=zgW (fun k=>some (k*i.size,i.size)) _ zv.cells cs hb
        simp only [execOp,Instr.build]
        simp only [Sem.run_bind,hz,Result.andThen_ok,run_underlying e w,zaS (show sizeT P el=some i.size by simp [sizeT,e1]) w]
        rw [zje g hx,hfill]
        rfl
theorem ARun.buildN {os:List Oper} {T e:TypeId} {n y len:Nat} {z:List Value} {parts:List (Nat × Operand)} {vs cs:List Value} {d:Nat} (hn:d<N) (hT:slT P T=some (e,n,y,z)) (hp:(0<len*n && len*n≤16777216)=true) (hx:evs E (parts.map (·.2))=some vs)
    (hb:bldF (fun i=>some (i*n,n)) (zrep z (len*n)) ((parts.map (·.1)).zip vs)=some cs) (hcl:cs.length=len*n)
    (h:∀ b,Fresh S b→ARun P N ops os K ((d,.slice (some ⟨b,0,none⟩) len len) :: E) (S.set b ⟨e,cs,len*n⟩)):ARun P N ops (⟨some d,.buildSlice T len parts.toArray,ty,pos,aft,none⟩ :: os) K E S:=fun a w g hv=>by
  rw [if_pos (by simp [Region.wanted])]
  obtain ⟨hus,i,v,e1,e2,rfl,rfl,rfl⟩:=zaH hT
  simp only [Bool.and_eq_true,decide_eq_true_eq] at hp
  have hz1:(zeroValue e).run P w = .ok v w:=by simp [zeroValue,typeInfo,e1,e2]
  have hne : ¬ (len*i.size=0):=by omega
  have hle : ¬ (len*i.size > 2 ^ 24):=by omega
  have hzr:((Array.range (len*i.size)).map (v.cells[· % v.cells.size]!)).toList=zrep v.cells.toList (len*i.size):=by
    simp only [zrep,Array.toList_map,Array.toList_range]
    refine List.map_congr_left fun j _=>?_
    simp only [Array.length_toList]
    rw [getElem!_def,getElem!_def,Array.getElem?_toList]
  have hfill:=zgW (fun k=>some (k*i.size,i.size)) ((parts.map (·.1)).zip vs) ((Array.range (len*i.size)).map (v.cells[· % v.cells.size]!)) cs (by rw [hzr];exact hb)
  have hrun:(execOp a.eval ⟨some d,.buildSlice T len parts.toArray,ty,pos,aft,none⟩).run P w = .ok (.value (.slice (some ⟨w.heap.size,0,none⟩) len len)) (w.alloc (.cells cs.toArray e)):=by
    simp only [execOp,Instr.buildSlice]
    simp only [Sem.run_bind,run_underlying hus w,Result.andThen_ok,zaS (show sizeT P e=some i.size by simp [sizeT,e1]) w,hle,hne,if_false,hz1,Sem.run_pure]
    rw [zje g hx,hfill]
    simp [newRow]
  unfold Oper.wp
  rw [hrun]
  refine ⟨_,_,h _ hv.freshAt,g.put hn _,?_⟩
  exact Step.allocP hv e cs.toArray cs _ (by simp) (by simp [hcl])
theorem zgX (z:List Value) {m n:Nat} (h:m≤n):madeL z m <+: madeL z n:=by
  have e:madeL z m=(madeL z n).take m:=by
    apply List.ext_getElem
    · simp [zbr];omega
    · intro i h1 h2
      rw [zbr] at h1
      simp only [List.getElem_take]
      simp [madeL,madeCells]
  rw [e];exact List.take_prefix _ _
theorem ARun.makeSliceP {os:List Oper} {T e:TypeId} {n y:Nat} {z:List Value} {x1 x2:Operand} {k1 k2:IntKind} {l c:Int} {d:Nat} (hn:d<N) (hT:slT P T=some (e,n,y,z)) (hx:ev E x1=some (.int k1 l)) (hy:ev E x2=some (.int k2 c))
    (h0:0≤l) (hlc:l≤c) (hb:(y:Int)*c≤281474976710656) (h63:c≤9223372036854775807)
    (h:∀ b,Fresh S b→ARun P N ops os K ((d,.slice (some ⟨b,0,none⟩) l.toNat c.toNat) :: E) (S.set b ⟨e,madeL z (l.toNat*n),c.toNat*n⟩)):ARun P N ops (⟨some d,.makeSlice T x1 x2,ty,pos,aft,none⟩ :: os) K E S:=fun a w g hv=>by
  rw [if_pos (by simp [Region.wanted])]
  obtain ⟨hu,i,v,e1,e2,rfl,rfl,rfl⟩:=zaH hT
  unfold Oper.wp
  have:(execOp a.eval ⟨some d,.makeSlice T x1 x2,ty,pos,aft,none⟩).run P w = .ok (.value (.slice (some ⟨w.heap.size,0,none⟩) l.toNat c.toNat)) (w.alloc (.cells (madeCells v.cells (c.toNat*i.size)) e)):=by
    simp only [execOp,g.ev hx,g.ev hy]
    rw [Sem.run_bind,run_make (P:=P) w T e i v hu e1 e2 k1 k2 l c h0 hlc hb h63]
    rfl
  rw [this]
  refine ⟨_,_,h _ hv.freshAt,g.put hn _,?_⟩
  refine Step.allocP hv e _ _ _ ?_ (by simp [size_madeCells])
  have hm:l.toNat*i.size≤c.toNat*i.size:=Nat.mul_le_mul_right _ (by omega)
  have:=zgX v.cells.toList hm
  unfold madeL at this ⊢
  simpa using this
theorem Calm.sliceArr {T e:TypeId} {x:Operand} {hi:Option Operand} {b o len n h:Nat} (hT:P.underlying T=some (.array len e)) (he:sizeT P e=some n) (hx:ev E x=some (.pointer (some ⟨b,o,none⟩))) (hh:bnd E hi len len h) :
    ACalm P N ⟨dst,.slice T x none hi none,ty,pos,aft,gd⟩ E S (.slice (some ⟨b,o,none⟩) h len):=fun c w g hv=>by
  have e1:(Instr.sliceBounds false len len none (hi.map c.eval) none).run P w = .ok (0,h,len) w:=by
    unfold Instr.sliceBounds
    cases hi with
    | none=>have hh':h=len:=hh;subst hh';simp
    | some i'=>obtain ⟨k',j',g1',g2',g3',rfl⟩:=hh;simp [g.ev g1',zbH _ _ rfl g2' g3' w]
  simp only [execOp,g.ev hx,Instr.sliceAt,Sem.run_bind,run_underlying hT w,Instr.sureAddr,e1,Option.map_none,Result.andThen_ok,zaS he w,Sem.run_pure,Nat.zero_mul,Nat.sub_zero]
  split <;> rfl
theorem Calm.makeFunc {fn:Fn} {first captured:List Operand} {vs us:List Value} (h1:evs E first=some vs) (h2:evs E captured=some us):ACalm P N ⟨dst,.makeFunc fn first.toArray captured.toArray,ty,pos,aft,gd⟩ E S (.func fn vs.toArray us.toArray):=fun c w g hv=>by
  simp [execOp,Instr.makeFunc,g.evs h1,g.evs h2]
theorem ARun.callV {os:List Oper} {f:FuncId} {x:Operand} {xs:List Operand} {ats:Array TypeId} {vs first cap:List Value} {d:Nat} {R:Value→Mem→Prop} (hn:d<N) (hf:goFn P f=true) (hv:ev E x=some (.func (.func f) first.toArray cap.toArray)) (hx:evs E xs=some vs) (hc:ACall P f (first ++ vs ++ cap).toArray S R)
    (h:∀ v S',R v S'→ARun P N ops os K ((d,v) :: E) S'):ARun P N ops (⟨some d,.call ⟨.value x,xs.toArray,ats⟩,ty,pos,aft,none⟩ :: os) K E S:=fun a w g hw=>by
  rw [if_pos (by simp [Region.wanted])]
  unfold Oper.wp
  have he:(execOp a.eval ⟨some d,.call ⟨.value x,xs.toArray,ats⟩,ty,pos,aft,none⟩).run P w=(callFunc f (first ++ vs ++ cap).toArray).run P w:=by
    simp only [execOp,resolve,Deferred.ofValue,g.ev hv,Sem.run_bind,Sem.run_pure,Result.andThen_ok,invoke]
    congr 2
    rw [← g.evs hx];simp
  rw [he,zbJ hf]
  simp only [Oper.upon]
  refine (hc w hw).mono fun e w' ⟨v,S',he,hr,s⟩=>?_
  subst he
  exact ⟨_,_,h v S' hr,g.put hn v,s⟩

theorem Calm.indexStrN {T:TypeId} {x i:Operand} {s:ByteArray} {k:IntKind} {j:Nat} (hT:P.underlying T=some .string) (hx:ev E x=some (.string s)) (hi:ev E i=some (.int k (j:Int))) (h1:j<s.size) :
    ACalm P N ⟨dst,.index T x i,ty,pos,aft,gd⟩ E S (.int .u8 (nb (at8 s.data.toList j))):=by
  have:=Calm.indexStr (S:=S) (N:=N) (dst:=dst) (ty:=ty) (pos:=pos) (aft:=aft) (gd:=gd) hT hx hi (by omega) (by omega)
  simpa using this
theorem Calm.as {o:Oper} {v v':Value} (e:v=v') (h:ACalm P N o E S v):ACalm P N o E S v':=e ▸ h
theorem znV {t:TypeId} {x y:Operand} {k:IntKind} {a b c:Int} (h:bits .and k a b=c):Bin P .and t x y (.int k a) (.int k b) (.int k c):=h ▸ zle a b
theorem zgc {t:TypeId} {x y:Operand} {k:IntKind} {a b c:Int} (h:bits .xor k a b=c):Bin P .xor t x y (.int k a) (.int k b) (.int k c):=h ▸ zlf a b
theorem zfy {b:Nat} {r:Blk} {cs:List Value} (h:S.own b=some r) (hc:cs <+: r.cells):S.rds ⟨b,0,none⟩ cs:=fun j v hj=>by
  rw [zaz,zdf h,Nat.zero_add];exact zbU hc hj
theorem rUn {os:List Oper} {d:Option Nat} {op:Op} {j:Nat} {t:Bool} (dj:Nat) (h:ARun P N ops (⟨d,op,ty,pos,aft,none⟩ :: os) K E S) (hb:lk E dj=some (.bool t):=by exact rfl) (hj:(ops[j]?).bind (·.dst)=some dj:=by exact rfl) (hjn:dj<N:=by exact zab rfl) :
    ARun P N ops (⟨d,op,ty,pos,aft,some (j,t)⟩ :: os) K E S:=fun a w g hv=>by
  cases e:ops[j]? with
  | none=>simp [e] at hj
  | some og =>
    simp [e] at hj
    have h1:=h a w g hv
    rw [if_pos (by simp [Region.wanted])] at h1
    rw [if_pos (by simp [Region.wanted,zbV g e hj hjn hb])]
    exact h1
/-! ### Texts -/
theorem zc1 (a:ByteArray):a.toList=a.data.toList:=by rw [ByteArray.toList_eq]
theorem zbn {t:TypeId} {x y:Operand} {a b:ByteArray} (h:a.size+b.size≤9223372036854775807):Bin P .add t x y (.string a) (.string b) (.string (a ++ b)):=fun w=>by
  have : ¬ (((a.size+b.size:Nat):Int) > IntKind.i64.max):=by
    have e:IntKind.i64.max=9223372036854775807:=rfl
    rw [e];omega
  simp only [eqGuard,binOp,Op.stringOp,if_neg this]
  simp
theorem zcv {t:TypeId} {x y:Operand} (a b:ByteArray):Bin P .lss t x y (.string a) (.string b) (.bool (Op.bytesLess a.data.toList b.data.toList)):=fun w=>by
  simp [eqGuard,binOp,Op.stringOp,zc1]
theorem zlm (a b:ByteArray):(a.data.toList == b.data.toList)=decide (a=b):=by
  rw [Bool.eq_iff_iff];simp [← zc1,zh3]
theorem zbZ {t:TypeId} {x y:Operand} (a b:ByteArray):Bin P .leq t x y (.string a) (.string b) (.bool (Op.bytesLess a.data.toList b.data.toList || decide (a=b))):=fun w=>by
  simp only [eqGuard,binOp,Op.stringOp,zc1,zlm];simp
theorem zdo {t:TypeId} {x y:Operand} (a b:ByteArray):Bin P .gtr t x y (.string a) (.string b) (.bool (!(Op.bytesLess a.data.toList b.data.toList || decide (a=b)))):=fun w=>by
  simp only [eqGuard,binOp,Op.stringOp,zc1,zlm];simp
theorem size_append (a b:ByteArray):(a ++ b).size=a.size+b.size:=by simp
theorem zaD (l:List UInt8):(bs l).size=l.length:=bs_size l
theorem zaT (a:ByteArray):a.data.toList.length=a.size:=Array.length_toList
theorem data_extract (a:ByteArray) (i j:Nat):(a.extract i j).data.toList=(a.data.toList.take j).drop i:=by
  rw [ByteArray.data_extract,Array.toList_extract,List.extract_eq_take_drop,← List.drop_take]
theorem zbv {a b:ByteArray} (h:a.data.toList=b.data.toList):a=b:=by cases a;cases b;simpa using h
end
end Mv
open Go.RowKit
namespace Mv
def roM (w:World):Mem:=⟨fun _=>none,⟨fun a=>w.cell? a,fun _=>none⟩⟩
theorem zgd (w:World):View (roM w) w:=⟨fun _ _ h=>(by cases h),fun _ _ h=>⟨h,rfl⟩,fun _ _ h=>(by cases h)⟩
theorem ACall.callsW {P:Program} {f:FuncId} {args:Array Value} {v:Value} {w:World} (h:ACall P f args (roM w) fun v' S'=>v'=v):Calls P f args w fun e w'=>e = .returned v∧Below w.heap.size w w' :=
  (h w (zgd w)).mono fun _ _ ⟨v',S',he,hr,s⟩=>⟨by rw [he,hr],s.toBelow fun _=>rfl⟩
theorem zdF {w:World} {a:Addr} {cs:List Value} (h:∀ j v,cs[j]?=some v→w.cell? (a.add j)=some v):(roM w).Knows a cs:=fun w' hv j v hj=>(hv.ro _ _ (h j v hj)).1
theorem zln {α : Type} {m:Nat} {p:Nat → α→Prop} (d:0<m → α) (h:∀ i,i<m → ∃ y,p i y):∃ l:List α,l.length=m ∧ ∀ i (hi:i<l.length),p i l[i]:=by
  by_cases hm:m=0
  · subst hm;exact ⟨[],rfl,fun i hi=>by cases hi⟩
  · have each:∀ i,∃ y,i<m→p i y:=fun i=>by
      by_cases hi:i<m
      · obtain ⟨y,hy⟩:=h i hi;exact ⟨y,fun _=>hy⟩
      · exact ⟨d (by omega),fun h=>absurd h hi⟩
    obtain ⟨g,hg⟩:=Classical.axiomOfChoice each
    exact ⟨(List.range m).map g,by simp,fun i hi=>by simp at hi ⊢;exact hg i hi⟩
section
variable {H:Type} {enc:TypeId × Value→H} {P:Program} {W:World} {base:Nat} {held:Bool}
theorem ztR {α : Type} [Nonempty α] {t e:TypeId} {n:Nat} {f : α→List Value} {Q : α→DataW H→Prop} {a:Option Addr} {len cap:Nat} {d:DataW H} {ps:List MemPlace}
    (ht:P.underlying t=some (.slice e)) (hc:P.cellsOf e=n) (hn0:0<n) (hfn:∀ x,(f x).length=n) (he:∀ fuel cs x,DataW.trod enc P W base (fun _=>true) held fuel e cs=some x → ∃ y : α,cs=f y∧Q y x.1)
    (h:DataW.Trod enc P W base (fun _=>true) held t (.slice a len cap) d ps) :
    ∃ l:List α,Sl n f (roM W) (.slice a len cap) l∧(l = [] ∨ ∃ ds rest,d = .slice ds rest∧ds.length=l.length ∧ ∀ i (hi:i<l.length) (hi':i<ds.length),Q l[i] ds[i]):=by
  obtain ⟨fuel,hf⟩:=h
  rcases Go.Deep.open_slice ht hf with ⟨hcs,_⟩ | ⟨x,l,c,m,n',D,Pl,hcs,_,hl,hm,hmm,hx,hel⟩
  · simp [Value.cells] at hcs
    obtain ⟨rfl,rfl,rfl⟩:=hcs
    exact ⟨[],Sl.nil _ _ _,.inl rfl⟩
  · simp [Value.cells] at hcs
    obtain ⟨rfl,rfl,rfl⟩:=hcs
    have hmc:m=cap:=by simpa using hmm
    obtain ⟨ys,hy1,hy2⟩:=zln (α:=α) (m:=len) (p:=fun i y=>(∀ j v,(f y)[j]?=some v→W.cell? ((x.add (i*n)).add j)=some v)∧Q y (D i)) (fun _=>Classical.choice inferInstance) fun i hi=>by
      obtain ⟨cs',h1,h2⟩:=hel i (by omega)
      obtain ⟨y,rfl,hq⟩:=he _ _ _ h2
      rw [hc] at h1
      refine ⟨y,fun j v hj=>?_,hq⟩
      obtain ⟨_,hlen,hcell⟩:=World.cells?_some h1
      have hj':j<n:=by rw [← hlen];exact (List.getElem?_eq_some_iff.1 hj).1
      rw [hcell j hj'];exact hj
    refine ⟨ys,⟨some x,cap,by rw [hy1],by omega,by unfold maxLen at hm;omega,?_⟩,.inr ⟨_,_,congrArg Prod.fst hx,by simp [hy1],fun i hi hi'=>by simp;exact (hy2 i hi).2⟩⟩
    by_cases h0:len=0
    · left;exact List.eq_nil_of_length_eq_zero (by omega)
    · right
      obtain ⟨b,off,spot⟩:=x
      have hz:∀ i (hi:i<ys.length) j v,(f ys[i])[j]?=some v→W.cell? (((⟨b,off,spot⟩ : Addr).add (i*n)).add j)=some v:=fun i hi=>(hy2 i hi).1
      have hlen0:0<ys.length:=by omega
      have hf0:0<(f ys[0]).length:=by rw [hfn];exact hn0
      have hv0:(f ys[0])[0]?=some (f ys[0])[0]:=List.getElem?_eq_getElem hf0
      have hspot:spot=none:=by simpa [Addr.add] using World.cell?_spot (hz 0 hlen0 0 _ hv0)
      subst hspot
      refine ⟨b,off,rfl,fun i hi=>zdF fun j v hj=>?_⟩
      have:=hz i hi j v hj
      rwa [zaz] at this
theorem Sl.map {α β : Type} {n:Nat} {f : α→List Value} {g : β→List Value} (q : β → α) (hq:∀ x,f (q x)=g x) {S:Mem} {v:Value} {l:List β} (h:Sl n f S v (l.map q)):Sl n g S v l:=by
  obtain ⟨a,c,e1,e2,e3,e4⟩:=h
  rw [List.length_map] at e1 e2 e3
  refine ⟨a,c,e1,e2,e3,?_⟩
  rcases e4 with e4 | ⟨b,off,e5,e6⟩
  · left;exact List.map_eq_nil_iff.1 e4
  · right;refine ⟨b,off,e5,fun i hi=>?_⟩
    have:=e6 i (by simpa using hi)
    rw [List.getElem_map,hq] at this
    exact this
theorem zqH (l:List Int) (k:Int) (h:∀ x ∈ l,0≤x∧x≤k):∃ m:List Nat,l=m.map (fun n:Nat=>(n:Int)) ∧ ∀ x ∈ m,(x:Int)≤k:=by
  refine ⟨l.map Int.toNat,?_,?_⟩
  · rw [List.map_map]
    have:∀ x ∈ l,((fun n:Nat=>(n:Int)) ∘ Int.toNat) x=id x:=fun x hx=>by have:=h x hx;simp [Function.comp];omega
    rw [List.map_congr_left this];simp
  · intro x hx
    obtain ⟨y,hy,rfl⟩:=List.mem_map.1 hx
    have:=h y hy;omega
end
end Mv
open Go.RowKit
namespace Mv
theorem zbW (l:List Int) (j:Nat) (x:Int):(l.map fun x=>Value.int .i64 x).set j (.int .i64 x)=(l.set j x).map fun x=>Value.int .i64 x:=by rw [List.map_set]
def i64s (x:Int):List Value:=[.int .i64 x]
theorem zqI {S:Mem} {b:Nat} {r:Blk} {v:Value} (h:S.own b=some r) (j:Nat) (hj:r.cells[j]?=some v):S.Knows ⟨b,0+j*1,none⟩ [v] :=
  Mem.own_knows h _ _ fun i u hi=>by
    cases i with
    | zero=>simp at hi;subst hi;simpa using hj
    | succ i=>simp at hi
theorem zgY {S:Mem} {b:Nat} {e:TypeId} {room:Nat} {l:List Int} (h:S.own b=some ⟨e,l.map (fun x=>Value.int .i64 x),room⟩) (j:Nat) {x:Int} (hj:l[j]?=some x):S.Knows ⟨b,0+j*1,none⟩ [.int .i64 x] :=
  zqI h j (by simp [hj])
theorem Sl.at1 {α : Type} {n:Nat} {f : α→List Value} {S:Mem} {b off:Nat} {len cap:Nat} {l:List α} (h:Sl n f S (.slice (some ⟨b,off,none⟩) len cap) l) (i:Nat) (hi:i<l.length):S.Knows ⟨b,off+i*n,none⟩ (f l[i]):=by
  obtain ⟨a,c,e1,_,_,e4⟩:=h
  rcases e4 with e4 | ⟨b',off',e5,e6⟩
  · subst e4;cases hi
  · subst e5
    simp only [Value.slice.injEq,Option.some.injEq,Addr.mk.injEq] at e1
    obtain ⟨⟨rfl,rfl,_⟩,_⟩:=e1
    exact e6 i hi
section
variable {P:Program} {N:Nat} {ops:Array Oper} {E:Env} {S:Mem} {K:Env→Mem→Prop}
variable {ty:TypeId} {pos:String} {aft:Array Edge}
theorem zh5 {t e:TypeId} {x y:Operand} {a:Option Addr} {n c:Nat} (h:P.underlying t=some (.slice e)):Bin P .eql t x y (.slice a n c) (.slice none 0 0) (.bool a.isNone):=fun w=>by
  have:=_root_.Go.run_eql_slice_nil (P:=P) w t e a n c h
  simpa [eqGuard] using this
theorem zh6 {t e:TypeId} {x y:Operand} {a:Option Addr} {n c:Nat} (h:P.underlying t=some (.slice e)):Bin P .neq t x y (.slice a n c) (.slice none 0 0) (.bool (!a.isNone)):=fun w=>by
  have:=_root_.Go.run_neq_slice_nil (P:=P) w t e a n c h
  simpa [eqGuard] using this
theorem ARun.build0 {os:List Oper} {T e:TypeId} {n y:Nat} {z:List Value} {d:Nat} (hn:d<N) (hT:slT P T=some (e,n,y,z))
    (h:∀ b,Fresh S b→ARun P N ops os K ((d,.slice (some ⟨b,0,none⟩) 0 0) :: E) (S.set b ⟨e,[],0⟩)):ARun P N ops (⟨some d,.buildSlice T 0 #[],ty,pos,aft,none⟩ :: os) K E S:=fun a w g hv=>by
  rw [if_pos (by simp [Region.wanted])]
  obtain ⟨hus,i,v,e1,e2,rfl,rfl,rfl⟩:=zaH hT
  have hrun:(execOp a.eval ⟨some d,.buildSlice T 0 #[],ty,pos,aft,none⟩).run P w = .ok (.value (.slice (some ⟨w.heap.size,0,none⟩) 0 0)) (w.alloc (.cells #[] e)):=by
    have hle : ¬ (0 > 2 ^ 24):=by decide
    simp only [execOp,Instr.buildSlice]
    simp only [Sem.run_bind,run_underlying hus w,Result.andThen_ok,zaS (show sizeT P e=some i.size by simp [sizeT,e1]) w,Nat.zero_mul,hle,if_false,if_true,Sem.run_pure]
    simp [Instr.fill,newRow]
    congr 2;apply Array.ext';simp
  unfold Oper.wp
  rw [hrun]
  exact ⟨_,_,h _ hv.freshAt,g.put hn _,Step.allocP hv e #[] [] 0 (by simp) (by simp)⟩
end
theorem ACall.frame {P:Program} {f:FuncId} {args:Array Value} {S:Mem} {R:Value→Mem→Prop} (h:ACall P f args S R) {b:Nat} {r:Blk} (hf:Fresh S b) :
    ACall P f args (S.set b r) fun v S''=>∃ S',R v S'∧Fresh S' b∧S''=S'.set b r:=fun w hv=>by
  have hb:b<w.heap.size:=hv.lt (Mem.own_set_same S b r)
  refine (h w (hv.less (Mem.less_set S b r hf.1))).mono fun e w' ⟨v,S',he,hR,st⟩=>?_
  have hn:S'.own b=none:=by
    cases e0:S'.own b with
    | none=>rfl
    | some r0 =>
      rcases st.dom b (by rw [e0];simp) with x | x
      · exact absurd hf.1 x
      · omega
  have hfr:Fresh S' b:=⟨hn,fun a v ha=>by
    rcases st.ro a v ha with x | x | x
    · exact hf.2 a v x
    · intro e;rw [e] at x;exact x hf.1
    · omega⟩
  refine ⟨v,S'.set b r,he,⟨S',hR,hfr,rfl⟩,⟨⟨fun k r' hk=>?_,fun a u ha=>?_,fun g l hg=>let ⟨h1,⟨v,hv'⟩,h3⟩:=st.view.fz g l hg;⟨by rw [Mem.own_set_other _ _ (hfr.2 _ v hv')];exact h1,⟨v,hv'⟩,h3⟩⟩,st.os,st.tape,st.output,st.size,fun k hk hnk=>?_,fun k hk=>?_,fun a v ha=>by
    rcases st.ro a v ha with x | x | x
    · exact .inl x
    · refine .inr (.inl ?_)
      by_cases e:a.block=b
      · rw [e,Mem.own_set_same];simp
      · rw [Mem.own_set_other _ _ e];exact x
    · exact .inr (.inr x)⟩⟩
  · by_cases e:k=b
    · subst e
      rw [st.block k hb hf.1]
      exact hv.own k r' (by rw [Mem.own_set_same] at hk ⊢;exact hk)
    · rw [Mem.own_set_other _ _ e] at hk;exact st.view.own k r' hk
  · obtain ⟨h1,h2⟩:=st.view.ro a u ha
    refine ⟨h1,?_⟩
    rw [Mem.own_set_other _ _ (hfr.2 a u ha)];exact h2
  · by_cases e:k=b
    · subst e;rw [Mem.own_set_same] at hnk;cases hnk
    · rw [Mem.own_set_other _ _ e] at hnk;exact st.block k hk hnk
  · by_cases e:k=b
    · subst e;left;rw [Mem.own_set_same];simp
    · rw [Mem.own_set_other _ _ e] at hk ⊢;exact st.dom k hk
theorem named {P:Program} {N:Nat} {c:Code} {Q:Exit→Env→Mem→Prop} {E:Env} {S:Mem} {b:Nat} {r:Blk} (hb:S.own b=none) (h:∀ T,S.Less T→T.own b=some r→AWP P N c Q E T):AWP P N c Q E (S.set b r) :=
  h _ (Mem.less_set S b r hb) (Mem.own_set_same S b r)
end Mv
open Go.RowKit
namespace Mv
end Mv
open Go.RowKit
namespace Mv
section
variable {H:Type} {P:Program}
def Small (P:Program) (t:TypeId) (d:DataW H):Prop:=∀ n ∈ d.weights P t,n≤reachBytes
theorem zlo {ts:List TypeId} {ds:List (DataW H)} {t:TypeId} {d:DataW H} {j:Nat} (h:(DataW.weightsEach P ts ds).all (·≤reachBytes)=true) (ht:ts[j]?=some t) (hd:ds[j]?=some d):Small P t d:=fun n hn=>by
  simpa using List.all_eq_true.1 h n (DataW.weights_mem_each ht hd n hn)
theorem zlp {t e:TypeId} {ds rest:List (DataW H)} (ht:P.underlying t=some (.slice e)) (h:Small P t (.slice ds rest)):ds.length*P.bytesOf e≤reachBytes:=by
  have:=h ((ds.length+rest.length)*P.bytesOf e) (by simp [DataW.weights,ht])
  exact Nat.le_trans (Nat.mul_le_mul_right _ (Nat.le_add_right _ _)) this
variable {enc:TypeId × Value→H} {W:World} {base:Nat} {held:Bool}
theorem zge {t e:TypeId} {k:IntKind} {a:Option Addr} {len cap:Nat} {d:DataW H} {ps:List MemPlace} (ht:P.underlying t=some (.slice e)) (he:P.underlying e=some (.int k)) (hc:P.cellsOf e=1)
    (h:DataW.Trod enc P W base (fun _=>true) held t (.slice a len cap) d ps) :
    ∃ l:List Int,Sl 1 (fun x=>[.int k x]) (roM W) (.slice a len cap) l∧(∀ x ∈ l,(Lit.int k x).wf=true)∧(Small P t d→l.length*P.bytesOf e≤reachBytes):=by
  have:Nonempty Int:=⟨0⟩
  obtain ⟨l,h1,h2⟩:=ztR (α:=Int) (n:=1) (f:=fun x=>[.int k x]) (Q:=fun x _=>(Lit.int k x).wf=true) ht hc (by decide) (fun _=>rfl) (fun fuel cs x hx=>by
    obtain ⟨m,e1,_,hw⟩:=DataW.trod_int he hx
    exact ⟨m,e1,hw⟩) h
  refine ⟨l,h1,fun x hx=>?_,fun hs=>?_⟩
  · rcases h2 with rfl | ⟨ds,rest,rfl,hl,hq⟩
    · cases hx
    · obtain ⟨i,hi,rfl⟩:=List.getElem_of_mem hx
      exact hq i hi (by omega)
  · rcases h2 with rfl | ⟨ds,rest,rfl,hl,hq⟩
    · simp
    · have:=zlp ht hs;rwa [hl] at this
theorem zgf {t e:TypeId} {a:Option Addr} {len cap:Nat} {d:DataW H} {ps:List MemPlace} (ht:P.underlying t=some (.slice e)) (he:P.underlying e=some (.int .u64)) (hc:P.cellsOf e=1)
    (h:DataW.Trod enc P W base (fun _=>true) held t (.slice a len cap) d ps) :
    ∃ l:List Nat,Sl 1 (fun x:Nat=>[.int .u64 (x:Int)]) (roM W) (.slice a len cap) l∧(∀ x ∈ l,x<18446744073709551616)∧(Small P t d→l.length*P.bytesOf e≤reachBytes):=by
  obtain ⟨l,h1,h2,h4⟩:=zge ht he hc h
  obtain ⟨m,rfl,h3⟩:=zqH l 18446744073709551615 (fun x hx=>by
    have:=h2 x hx
    simp [Lit.wf,IntKind.min,IntKind.max,IntKind.signed,IntKind.bits] at this;omega)
  exact ⟨m,h1.map _ (fun _=>rfl),fun x hx=>by have:=h3 x hx;omega,by simpa using h4⟩
end
theorem zsw {n b:Nat} (h:n*b≤reachBytes) (hb:b=8):n≤17592186043904:=by
  subst hb;have:reachBytes=140737488351232:=by decide
  omega
end Mv
open Go.RowKit
namespace Mv
variable {P:Program} {t e:TypeId} {α β : Type}
section
variable {H:Type} {enc:TypeId × Value→H} {W:World} {base:Nat} {held:Bool} {r:Reach} {d:DataW H} {ps:List MemPlace}
end
end Mv
open Go.RowKit
namespace Mv
/-! ### What walks by itself (printed by step-gen.py) -/
structure Cl (P:Program) (N:Nat) (o:Oper) (E:Env) (S:Mem) (v:Value):Prop where
  h:ACalm P N o E S v
structure Kp (q:Prop):Prop where
  k:q
def nthL:List Value→Nat→Option Value
  | [],_=>none
  | a :: _,0=>some a
  | _ :: l,n+1=>nthL l n
theorem znW (l:List Value) (i:Nat):l.toArray[i]?=nthL l i:=by
  rw [List.getElem?_toArray]
  induction l generalizing i with
  | nil=>rfl
  | cons a l ih=>cases i with
    | zero=>rfl
    | succ i=>exact ih i
class TPlain (P:Program) (t:TypeId):Prop where
  h:plainT P t=true
class TAgg (P:Program) (t:TypeId):Prop where
  h:aggT P t=true
class TSize (P:Program) (t:TypeId) (n:outParam Nat):Prop where
  h:sizeT P t=some n
class TField (P:Program) (t:TypeId) (f:Nat) (off n:outParam Nat):Prop where
  h:fieldT P t f=some (off,n+1)
class TStr (P:Program) (t:TypeId):Prop where
  h:strT P t=true
class TBytes (P:Program) (t:TypeId) (e:outParam TypeId):Prop where
  h:bytesT P t=some e
class TBld (P:Program) (t:TypeId) (r:outParam (List (Nat × Nat) × List Value)):Prop where
  h:bldT P t=some r
class TUnd (P:Program) (t:TypeId) (d:outParam TypeDesc):Prop where
  h:P.underlying t=some d
class TGo (P:Program) (f:FuncId):Prop where
  h:goFn P f=true
class TMix (P:Program):Prop where
  h:P.follows .mixedOrders=true
section
variable {P:Program} {N:Nat} {E:Env} {S:Mem} {dst:Option Nat} {T ty:TypeId} {pos:String} {aft:Array Edge} {gd:Option (Nat × Bool)}
variable {x y i:Operand} {v vx vy:Value}
theorem zsx (hx:ev E x=some v):Cl P N ⟨dst,.move x,ty,pos,aft,gd⟩ E S v:=⟨Calm.move hx⟩
theorem znX (hx:ev E x=some v):Cl P N ⟨dst,.assign x,ty,pos,aft,gd⟩ E S v:=⟨Calm.assign hx⟩
theorem zqJ {c:Operand} (hc:ev E c=some (.bool true)) (hx:ev E x=some v):Cl P N ⟨dst,.pick c x y,ty,pos,aft,gd⟩ E S v:=⟨Calm.pickT hc hx⟩
theorem zqK {c:Operand} (hc:ev E c=some (.bool false)) (hy:ev E y=some v):Cl P N ⟨dst,.pick c x y,ty,pos,aft,gd⟩ E S v:=⟨Calm.pickF hc hy⟩
theorem ztS {op:BinOp} {xt yt:TypeId} (hx:ev E x=some vx) (hy:ev E y=some vy) (h:Bin P op xt x y vx vy v):Cl P N ⟨dst,.binOp op xt x y yt,ty,pos,aft,gd⟩ E S v:=⟨Calm.bin hx hy h⟩
theorem c_un {op:UnOp} {xt:TypeId} (hx:ev E x=some vx) (h:Una P op vx v):Cl P N ⟨dst,.unOp op xt x,ty,pos,aft,gd⟩ E S v:=⟨Calm.un hx h⟩
theorem zsy {s t:TypeId} (hx:ev E x=some vx) (h:Conv P s t vx v):Cl P N ⟨dst,.convert s t x,ty,pos,aft,gd⟩ E S v:=⟨Calm.conv hx h⟩
theorem zj8 {s t e:TypeId} {n cap:Nat} (hs:bytesT P s=some e) (ht:strT P t=true) (hx:ev E x=some (.slice none n cap)):Cl P N ⟨dst,.convert s t x,ty,pos,aft,gd⟩ E S (.string (bs [])):=⟨Calm.toStrNil hs ht hx⟩
theorem zlq {i:Nat} {l:List Value} (hx:ev E x=some (.tuple l.toArray)) (h:nthL l i=some v):Cl P N ⟨dst,.extract x i,ty,pos,aft,gd⟩ E S v:=⟨Calm.extract hx ((znW l i).trans h)⟩
theorem zj9 {a:Addr} (hx:ev E x=some (.pointer (some a))):Cl P N ⟨dst,.nilCheck x,ty,pos,aft,gd⟩ E S (.pointer (some a)):=⟨Calm.nilCheck hx⟩
theorem zsz {a:Addr} (hT:plainT P T=true) (hx:ev E x=some (.pointer (some a))) (h:(S.rd a=some v∨S.Knows a [v])):Cl P N ⟨dst,.load T x,ty,pos,aft,gd⟩ E S v:=⟨ld_ hT hx h⟩
theorem zsA {a:Addr} {a0 a1:Value} (hT:aggT P T=true) (hs:sizeT P T=some 2) (hx:ev E x=some (.pointer (some a))) (h:(S.rds a [a0,a1]∨S.Knows a [a0,a1])):Cl P N ⟨dst,.load T x,ty,pos,aft,gd⟩ E S (.agg [a0,a1].toArray):=⟨ldA_ hT hs hx h⟩
theorem zsB {a:Addr} {a0 a1 a2:Value} (hT:aggT P T=true) (hs:sizeT P T=some 3) (hx:ev E x=some (.pointer (some a))) (h:(S.rds a [a0,a1,a2]∨S.Knows a [a0,a1,a2])):Cl P N ⟨dst,.load T x,ty,pos,aft,gd⟩ E S (.agg [a0,a1,a2].toArray):=⟨ldA_ hT hs hx h⟩
theorem zsC {a:Addr} {a0 a1 a2 a3 a4:Value} (hT:aggT P T=true) (hs:sizeT P T=some 5) (hx:ev E x=some (.pointer (some a))) (h:(S.rds a [a0,a1,a2,a3,a4]∨S.Knows a [a0,a1,a2,a3,a4])):Cl P N ⟨dst,.load T x,ty,pos,aft,gd⟩ E S (.agg [a0,a1,a2,a3,a4].toArray):=⟨ldA_ hT hs hx h⟩
theorem zsD {a:Addr} {a0 a1 a2 a3 a4 a5 a6:Value} (hT:aggT P T=true) (hs:sizeT P T=some 7) (hx:ev E x=some (.pointer (some a))) (h:(S.rds a [a0,a1,a2,a3,a4,a5,a6]∨S.Knows a [a0,a1,a2,a3,a4,a5,a6])):Cl P N ⟨dst,.load T x,ty,pos,aft,gd⟩ E S (.agg [a0,a1,a2,a3,a4,a5,a6].toArray):=⟨ldA_ hT hs hx h⟩
theorem zqL {f b o off n:Nat} (hf:fieldT P T f=some (off,n+1)) (hx:ev E x=some (.pointer (some ⟨b,o,none⟩))):Cl P N ⟨dst,.fieldAddr T x f,ty,pos,aft,gd⟩ E S (.pointer (some ⟨b,o+off,none⟩)):=⟨Calm.fieldAddr hf hx⟩
theorem znY {e:TypeId} {b o len cap n:Nat} {k:IntKind} {j:Int} (hT:P.underlying T=some (.slice e)) (he:sizeT P e=some n) (hx:ev E x=some (.slice (some ⟨b,o,none⟩) len cap)) (hi:ev E i=some (.int k j)) (h0:0≤j) (h1:j<len):Cl P N ⟨dst,.indexAddr T x i,ty,pos,aft,gd⟩ E S (.pointer (some ⟨b,o+j.toNat*n,none⟩)):=⟨Calm.indexS hT he hx hi h0 h1⟩
theorem znZ {e:TypeId} {b o len n:Nat} {k:IntKind} {j:Int} (hT:P.underlying T=some (.array len e)) (he:sizeT P e=some n) (hx:ev E x=some (.pointer (some ⟨b,o,none⟩))) (hi:ev E i=some (.int k j)) (h0:0≤j) (h1:j<len):Cl P N ⟨dst,.indexAddr T x i,ty,pos,aft,gd⟩ E S (.pointer (some ⟨b,o+j.toNat*n,none⟩)):=⟨Calm.indexP hT he hx hi h0 h1⟩
theorem zh7 {s:ByteArray} {k:IntKind} {j:Nat} (hT:strT P T=true) (hx:ev E x=some (.string s)) (hi:ev E i=some (.int k (j:Int))) (h1:j<s.size):Cl P N ⟨dst,.index T x i,ty,pos,aft,gd⟩ E S (.int .u8 (nb (at8 s.data.toList j))):=⟨Calm.indexStrN (zau hT) hx hi h1⟩
theorem zj_ {s:ByteArray} {k:IntKind} {j:Int} (hT:strT P T=true) (hx:ev E x=some (.string s)) (hi:ev E i=some (.int k j)) (h0:0≤j) (h1:j<s.size):Cl P N ⟨dst,.index T x i,ty,pos,aft,gd⟩ E S (.int .u8 (nb (at8 s.data.toList j.toNat))):=⟨Calm.indexStr (zau hT) hx hi h0 h1⟩
theorem zka {lo hi:Option Operand} {s:ByteArray} {l h:Nat} (hT:strT P T=true) (hx:ev E x=some (.string s)) (hh:bnd E hi s.size s.size h) (hl:bnd E lo 0 h l):Cl P N ⟨dst,.slice T x lo hi none,ty,pos,aft,gd⟩ E S (.string (s.extract l h)):=⟨Calm.sliceStr (zau hT) hx hh hl⟩
theorem zh8 {e:TypeId} {hi mx:Option Operand} {b o len cap n h m:Nat} (hT:P.underlying T=some (.slice e)) (he:sizeT P e=some n) (hx:ev E x=some (.slice (some ⟨b,o,none⟩) len cap)) (hm:bnd E mx cap cap m) (hmx:mx.isSome=true→hi.isSome=true) (hh:bnd E hi len m h):Cl P N ⟨dst,.slice T x none hi mx,ty,pos,aft,gd⟩ E S (.slice (some ⟨b,o,none⟩) h m):=⟨Calm.sliceHead hT he hx hm hmx hh⟩
theorem zlr {e:TypeId} {lo:Operand} {hi mx:Option Operand} {b o len cap n l h m:Nat} (hT:P.underlying T=some (.slice e)) (he:sizeT P e=some n) (hx:ev E x=some (.slice (some ⟨b,o,none⟩) len cap)) (hm:bnd E mx cap cap m) (hmx:mx.isSome=true→hi.isSome=true) (hh:bnd E hi len m h) (hl:bnd E (some lo) 0 h l):Cl P N ⟨dst,.slice T x (some lo) hi mx,ty,pos,aft,gd⟩ E S (.slice (some ⟨b,if m=l then o else o+l*n,none⟩) (h-l) (m-l)):=⟨Calm.sliceSl hT he hx hm hmx hh hl⟩
theorem zkb {e:TypeId} {lo hi mx:Option Operand} {n:Nat} (hT:P.underlying T=some (.slice e)) (he:sizeT P e=some n) (hx:ev E x=some (.slice none 0 0)) (hm:bnd E mx 0 0 0) (hmx:mx.isSome=true→hi.isSome=true) (hh:bnd E hi 0 0 0) (hl:bnd E lo 0 0 0):Cl P N ⟨dst,.slice T x lo hi mx,ty,pos,aft,gd⟩ E S (.slice none 0 0):=⟨Calm.sliceNil hT he hx hm hmx hh hl⟩
theorem zkc {e:TypeId} {hi:Option Operand} {b o len n h:Nat} (hT:P.underlying T=some (.array len e)) (he:sizeT P e=some n) (hx:ev E x=some (.pointer (some ⟨b,o,none⟩))) (hh:bnd E hi len len h):Cl P N ⟨dst,.slice T x none hi none,ty,pos,aft,gd⟩ E S (.slice (some ⟨b,o,none⟩) h len):=⟨Calm.sliceArr hT he hx hh⟩
theorem zkd {fn:Fn} {first captured:List Operand} {vs us:List Value} (h1:evs E first=some vs) (h2:evs E captured=some us):Cl P N ⟨dst,.makeFunc fn first.toArray captured.toArray,ty,pos,aft,gd⟩ E S (.func fn vs.toArray us.toArray):=⟨Calm.makeFunc h1 h2⟩
theorem zsE {ps:List (Nat × Nat)} {z:List Value} {parts:List (Nat × Operand)} {vs:List Value} {a0 a1:Value} (hz:sizeT P T=some 2) (hT:bldT P T=some (ps,z)) (hx:evs E (parts.map (·.2))=some vs) (hb:bldL ps z ((parts.map (·.1)).zip vs)=some [a0,a1]):Cl P N ⟨dst,.build T parts.toArray,ty,pos,aft,gd⟩ E S (.agg [a0,a1].toArray):=⟨Calm.build hT hx hb⟩
theorem zsF {ps:List (Nat × Nat)} {z:List Value} {parts:List (Nat × Operand)} {vs:List Value} {a0 a1 a2:Value} (hz:sizeT P T=some 3) (hT:bldT P T=some (ps,z)) (hx:evs E (parts.map (·.2))=some vs) (hb:bldL ps z ((parts.map (·.1)).zip vs)=some [a0,a1,a2]):Cl P N ⟨dst,.build T parts.toArray,ty,pos,aft,gd⟩ E S (.agg [a0,a1,a2].toArray):=⟨Calm.build hT hx hb⟩
theorem zsG {ps:List (Nat × Nat)} {z:List Value} {parts:List (Nat × Operand)} {vs:List Value} {a0 a1 a2 a3 a4:Value} (hz:sizeT P T=some 5) (hT:bldT P T=some (ps,z)) (hx:evs E (parts.map (·.2))=some vs) (hb:bldL ps z ((parts.map (·.1)).zip vs)=some [a0,a1,a2,a3,a4]):Cl P N ⟨dst,.build T parts.toArray,ty,pos,aft,gd⟩ E S (.agg [a0,a1,a2,a3,a4].toArray):=⟨Calm.build hT hx hb⟩
theorem zsH {ps:List (Nat × Nat)} {z:List Value} {parts:List (Nat × Operand)} {vs:List Value} {a0 a1 a2 a3 a4 a5:Value} (hz:sizeT P T=some 6) (hT:bldT P T=some (ps,z)) (hx:evs E (parts.map (·.2))=some vs) (hb:bldL ps z ((parts.map (·.1)).zip vs)=some [a0,a1,a2,a3,a4,a5]):Cl P N ⟨dst,.build T parts.toArray,ty,pos,aft,gd⟩ E S (.agg [a0,a1,a2,a3,a4,a5].toArray):=⟨Calm.build hT hx hb⟩
theorem zsI {ps:List (Nat × Nat)} {z:List Value} {parts:List (Nat × Operand)} {vs:List Value} {a0 a1 a2 a3 a4 a5 a6:Value} (hz:sizeT P T=some 7) (hT:bldT P T=some (ps,z)) (hx:evs E (parts.map (·.2))=some vs) (hb:bldL ps z ((parts.map (·.1)).zip vs)=some [a0,a1,a2,a3,a4,a5,a6]):Cl P N ⟨dst,.build T parts.toArray,ty,pos,aft,gd⟩ E S (.agg [a0,a1,a2,a3,a4,a5,a6].toArray):=⟨Calm.build hT hx hb⟩
theorem zsJ {ps:List (Nat × Nat)} {z:List Value} {parts:List (Nat × Operand)} {vs:List Value} {a0 a1 a2 a3 a4 a5 a6 a7:Value} (hz:sizeT P T=some 8) (hT:bldT P T=some (ps,z)) (hx:evs E (parts.map (·.2))=some vs) (hb:bldL ps z ((parts.map (·.1)).zip vs)=some [a0,a1,a2,a3,a4,a5,a6,a7]):Cl P N ⟨dst,.build T parts.toArray,ty,pos,aft,gd⟩ E S (.agg [a0,a1,a2,a3,a4,a5,a6,a7].toArray):=⟨Calm.build hT hx hb⟩
theorem zqM {ps:List (Nat × Nat)} {z:List Value} {parts:List (Nat × Operand)} {vs:List Value} {a0 a1 a2 a3 a4 a5 a6 a7 a8 a9:Value} (hz:sizeT P T=some 10) (hT:bldT P T=some (ps,z)) (hx:evs E (parts.map (·.2))=some vs) (hb:bldL ps z ((parts.map (·.1)).zip vs)=some [a0,a1,a2,a3,a4,a5,a6,a7,a8,a9]):Cl P N ⟨dst,.build T parts.toArray,ty,pos,aft,gd⟩ E S (.agg [a0,a1,a2,a3,a4,a5,a6,a7,a8,a9].toArray):=⟨Calm.build hT hx hb⟩
theorem zn0 {s:ByteArray} (hT:strT P T=true) (hx:ev E x=some (.string s)):Cl P N ⟨dst,.call ⟨.builtin .len,#[x],#[T]⟩,ty,pos,aft,gd⟩ E S (.int .i64 s.size):=⟨Calm.lenStr (zau hT) hx⟩
theorem zqN {e:TypeId} {a:Option Addr} {len cap:Nat} (hT:P.underlying T=some (.slice e)) (hx:ev E x=some (.slice a len cap)):Cl P N ⟨dst,.call ⟨.builtin .len,#[x],#[T]⟩,ty,pos,aft,gd⟩ E S (.int .i64 len):=⟨Calm.lenSl hT hx⟩
end
section
variable {P:Program} {N:Nat} {ops:Array Oper} {E:Env} {S:Mem} {K:Env→Mem→Prop} {os:List Oper}
variable {d dj:Nat} {op:Op} {ty:TypeId} {pos:String} {aft:Array Edge} {v w:Value} {j:Nat} {t u:Bool} {x y:Operand} {T:TypeId}
theorem zn1 {P:Program} {t:TypeId} {x y:Operand} {k:IntKind} {a b:Int} (h:a<b):Bin P .lss t x y (.int k a) (.int k b) (.bool true):=zag (zbc _ _) (decide_eq_true h)
theorem zn2 {P:Program} {t:TypeId} {x y:Operand} {k:IntKind} {a b:Int} (h : ¬ (a<b)):Bin P .lss t x y (.int k a) (.int k b) (.bool false):=zag (zbc _ _) (decide_eq_false h)
theorem zn3 {P:Program} {t:TypeId} {x y:Operand} {k:IntKind} {a b:Int} (h:a≤b):Bin P .leq t x y (.int k a) (.int k b) (.bool true):=zag (zh1 _ _) (decide_eq_true h)
theorem zn4 {P:Program} {t:TypeId} {x y:Operand} {k:IntKind} {a b:Int} (h : ¬ (a≤b)):Bin P .leq t x y (.int k a) (.int k b) (.bool false):=zag (zh1 _ _) (decide_eq_false h)
theorem zn5 {P:Program} {t:TypeId} {x y:Operand} {k:IntKind} {a b:Int} (h:b<a):Bin P .gtr t x y (.int k a) (.int k b) (.bool true):=zag (zf_ _ _) (decide_eq_true h)
theorem zn6 {P:Program} {t:TypeId} {x y:Operand} {k:IntKind} {a b:Int} (h : ¬ (b<a)):Bin P .gtr t x y (.int k a) (.int k b) (.bool false):=zag (zf_ _ _) (decide_eq_false h)
theorem zn7 {P:Program} {t:TypeId} {x y:Operand} {k:IntKind} {a b:Int} (h:b≤a):Bin P .geq t x y (.int k a) (.int k b) (.bool true):=zag (zct _ _) (decide_eq_true h)
theorem zn8 {P:Program} {t:TypeId} {x y:Operand} {k:IntKind} {a b:Int} (h : ¬ (b≤a)):Bin P .geq t x y (.int k a) (.int k b) (.bool false):=zag (zct _ _) (decide_eq_false h)
theorem zn9 {P:Program} {t:TypeId} {x y:Operand} {k:IntKind} {a b:Int} (h:a=b):Bin P .eql t x y (.int k a) (.int k b) (.bool true):=zag (zaY _ _) (decide_eq_true h)
theorem zn_ {P:Program} {t:TypeId} {x y:Operand} {k:IntKind} {a b:Int} (h : ¬ (a=b)):Bin P .eql t x y (.int k a) (.int k b) (.bool false):=zag (zaY _ _) (decide_eq_false h)
theorem zoa {P:Program} {t:TypeId} {x y:Operand} {k:IntKind} {a b:Int} (h:a≠b):Bin P .neq t x y (.int k a) (.int k b) (.bool true):=zag (zeS _ _) (zbh h)
theorem zob {P:Program} {t:TypeId} {x y:Operand} {k:IntKind} {a b:Int} (h:a=b):Bin P .neq t x y (.int k a) (.int k b) (.bool false):=zag (zeS _ _) (zaK h)
theorem bv_ {P:Program} {op:BinOp} {t:TypeId} {x y:Operand} {vx vy v:Value} (h:Bin P op t x y vx vy v:=by first
  | ((with_reducible apply zn9);omega)
  | ((with_reducible apply zn_);omega)
  | (with_reducible exact zaY _ _)
  | ((with_reducible apply zn1);omega)
  | ((with_reducible apply zn2);omega)
  | (with_reducible exact zbc _ _)
  | ((with_reducible apply zoa);omega)
  | ((with_reducible apply zob);omega)
  | (with_reducible exact zeS _ _)
  | ((with_reducible apply zn3);omega)
  | ((with_reducible apply zn4);omega)
  | (with_reducible exact zh1 _ _)
  | ((with_reducible apply zn5);omega)
  | ((with_reducible apply zn6);omega)
  | (with_reducible exact zf_ _ _)
  | ((with_reducible apply zn7);omega)
  | ((with_reducible apply zn8);omega)
  | (with_reducible exact zct _ _)
  | ((with_reducible apply zf9);first | exact IntWalk.i64_in _ (by omega) | exact IntWalk.u64_in _ (by omega) | exact IntWalk.u32_in _ (by omega) | exact IntWalk.u8_in _ (by omega))
  | (with_reducible exact zh0 _ _)
  | ((with_reducible apply zja);first | exact IntWalk.i64_in _ (by omega) | exact IntWalk.u64_in _ (by omega) | exact IntWalk.u32_in _ (by omega) | exact IntWalk.u8_in _ (by omega))
  | (with_reducible exact zla _ _)
  | ((with_reducible apply zdD);first | exact IntWalk.i64_in _ (by omega) | exact IntWalk.u64_in _ (by omega) | exact IntWalk.u32_in _ (by omega) | exact IntWalk.u8_in _ (by omega))
  | (with_reducible exact zlb _ _)
  | ((with_reducible apply zjb);omega;first | exact IntWalk.i64_quo _ _ (by omega) | exact IntWalk.u64_quo _ _ (by omega) | exact IntWalk.u32_quo _ _ (by omega) | exact IntWalk.u8_quo _ _ (by omega))
  | ((with_reducible apply zlc);omega)
  | ((with_reducible apply znO);omega;omega)
  | ((with_reducible apply zld);omega)
  | ((with_reducible apply zga);omega;(simp only [IntKind.bits];omega))
  | ((with_reducible apply zlg);omega;(simp only [IntKind.bits];omega))
  | (with_reducible exact zle _ _)
  | (with_reducible exact zsu _ _)
  | (with_reducible exact zlf _ _)
  | (with_reducible exact zaw _ _)
  | (with_reducible exact zaF _ _)
  | ((with_reducible apply zbn);omega)
  | (with_reducible exact zcv _ _)
  | (with_reducible exact zbZ _ _)
  | (with_reducible exact zdo _ _)
  | (with_reducible exact bin_str_geq _ _)
  | ((with_reducible apply bin_bool_eql);exact TUnd.h)
  | ((with_reducible apply zcO);exact TUnd.h)
  | ((with_reducible apply zh5);exact TUnd.h)
  | ((with_reducible apply zh6);exact TUnd.h)):Bin P op t x y vx vy v:=h
theorem uv_ {P:Program} {op:UnOp} {vx v:Value} (h:Una P op vx v:=by first | exact zqE _):Una P op vx v:=h
theorem cv_ {P:Program} {s t:TypeId} {vx v:Value} (h:Conv P s t vx v:=by first
  | ((with_reducible apply zbf);exact TUnd.h;exact TUnd.h;first | exact IntWalk.i64_in _ (by omega) | exact IntWalk.u64_in _ (by omega) | exact IntWalk.u32_in _ (by omega) | exact IntWalk.u8_in _ (by omega) | exact wrap_nb_i64 _ | exact zh2 _ | exact wrap_nb_u32 _ | exact wrap_nb_u8 _)
  | ((with_reducible apply zjc);exact TUnd.h;exact TUnd.h)):Conv P s t vx v:=h
theorem bd_ {E:Env} {o:Option Operand} {a b r:Nat} (h:bnd E o a b r:=by first | exact za4 _ _ | exact zcr _ _ rfl (by omega) (by omega)):bnd E o a b r:=h
theorem bz_ {E:Env} {o:Option Operand} (h:bnd E o 0 0 0:=by first | exact za4 _ _ | exact znS _ _ rfl):bnd E o 0 0 0:=h
theorem ldk_ {S:Mem} {a:Addr} {v:Value} (h:(S.rd a=some v∨S.Knows a [v]):=by first | exact .inl rd_ | exact .inr kn_):S.rd a=some v∨S.Knows a [v]:=h
theorem zew {S:Mem} {a:Addr} {cs:List Value} (h:(S.rds a cs∨S.Knows a cs):=by first | exact .inl rds_ | exact .inr kn_):S.rds a cs∨S.Knows a cs:=h
theorem cl_ {P:Program} {N:Nat} {o:Oper} {E:Env} {S:Mem} {v:Value} (h:Cl P N o E S v:=by first
  | ((with_reducible apply zsz);exact TPlain.h;exact rfl;exact ldk_)
  | ((with_reducible apply zsx);exact rfl)
  | ((with_reducible apply ztS);exact rfl;exact rfl;exact bv_)
  | ((with_reducible apply zqL);exact TField.h;exact rfl)
  | ((with_reducible apply zj9);exact rfl)
  | ((with_reducible apply znX);exact rfl)
  | ((with_reducible apply zlq);exact rfl;exact rfl)
  | ((with_reducible apply znY);exact TUnd.h;exact TSize.h;exact rfl;exact rfl;omega;omega)
  | ((with_reducible apply zqN);exact TUnd.h;exact rfl)
  | ((with_reducible apply zn0);exact TStr.h;exact rfl)
  | ((with_reducible apply zqJ);exact rfl;exact rfl)
  | ((with_reducible apply zqK);exact rfl;exact rfl)
  | ((with_reducible apply zsy);exact rfl;exact cv_)
  | ((with_reducible apply c_un);exact rfl;exact uv_)
  | ((with_reducible apply zh7);exact TStr.h;exact rfl;exact rfl;omega)
  | ((with_reducible apply zj_);exact TStr.h;exact rfl;exact rfl;omega;omega)
  | ((with_reducible apply zka);exact TStr.h;exact rfl;exact bd_;exact bd_)
  | ((with_reducible apply zh8);exact TUnd.h;exact TSize.h;exact rfl;exact bd_;exact fun _=>rfl;exact bd_)
  | ((with_reducible apply zlr);exact TUnd.h;exact TSize.h;exact rfl;exact bd_;simp;exact bd_;exact bd_)
  | ((with_reducible apply zkb);exact TUnd.h;exact TSize.h;exact rfl;exact bz_;simp;exact bz_;exact bz_)
  | ((with_reducible apply zkc);exact TUnd.h;exact TSize.h;exact rfl;exact bd_)
  | ((with_reducible apply znZ);exact TUnd.h;exact TSize.h;exact rfl;exact rfl;omega;omega)
  | ((with_reducible apply c_ldA1);exact TAgg.h;exact TSize.h;exact rfl;exact zew)
  | ((with_reducible apply zsA);exact TAgg.h;exact TSize.h;exact rfl;exact zew)
  | ((with_reducible apply zsB);exact TAgg.h;exact TSize.h;exact rfl;exact zew)
  | ((with_reducible apply c_ldA4);exact TAgg.h;exact TSize.h;exact rfl;exact zew)
  | ((with_reducible apply zsC);exact TAgg.h;exact TSize.h;exact rfl;exact zew)
  | ((with_reducible apply c_ldA6);exact TAgg.h;exact TSize.h;exact rfl;exact zew)
  | ((with_reducible apply zsD);exact TAgg.h;exact TSize.h;exact rfl;exact zew)
  | ((with_reducible apply c_ldA8);exact TAgg.h;exact TSize.h;exact rfl;exact zew)
  | ((with_reducible apply c_ldA9);exact TAgg.h;exact TSize.h;exact rfl;exact zew)
  | ((with_reducible apply c_ldA10);exact TAgg.h;exact TSize.h;exact rfl;exact zew)
  | ((with_reducible apply c_ldA11);exact TAgg.h;exact TSize.h;exact rfl;exact zew)
  | ((with_reducible apply c_ldA12);exact TAgg.h;exact TSize.h;exact rfl;exact zew)
  | ((with_reducible apply c_bld1);exact TSize.h;exact TBld.h;exact rfl;exact rfl)
  | ((with_reducible apply zsE);exact TSize.h;exact TBld.h;exact rfl;exact rfl)
  | ((with_reducible apply zsF);exact TSize.h;exact TBld.h;exact rfl;exact rfl)
  | ((with_reducible apply c_bld4);exact TSize.h;exact TBld.h;exact rfl;exact rfl)
  | ((with_reducible apply zsG);exact TSize.h;exact TBld.h;exact rfl;exact rfl)
  | ((with_reducible apply zsH);exact TSize.h;exact TBld.h;exact rfl;exact rfl)
  | ((with_reducible apply zsI);exact TSize.h;exact TBld.h;exact rfl;exact rfl)
  | ((with_reducible apply zsJ);exact TSize.h;exact TBld.h;exact rfl;exact rfl)
  | ((with_reducible apply c_bld9);exact TSize.h;exact TBld.h;exact rfl;exact rfl)
  | ((with_reducible apply zqM);exact TSize.h;exact TBld.h;exact rfl;exact rfl)
  | ((with_reducible apply c_toStr);exact TBytes.h;exact TStr.h;exact rfl;exact rds_;exact zj7)
  | ((with_reducible apply zj8);exact TBytes.h;exact TStr.h;exact rfl)
  | ((with_reducible apply c_minL);exact rfl;exact rfl;omega)
  | ((with_reducible apply c_minR);exact rfl;exact rfl;omega)
  | ((with_reducible apply c_maxL);exact rfl;exact rfl;omega)
  | ((with_reducible apply c_maxR);exact rfl;exact rfl;omega)
  | ((with_reducible apply zkd);exact rfl;exact rfl)):Cl P N o E S v:=h
theorem rC' (hc:Cl P N ⟨some d,op,ty,pos,aft,none⟩ E S v) (hn:d<N) (h:ARun P N ops os K ((d,v) :: E) S):ARun P N ops (⟨some d,op,ty,pos,aft,none⟩ :: os) K E S:=rC hc.h h hn
theorem rS' (hj:(ops[j]?).bind (·.dst)=some dj) (hb:lk E dj=some (.bool u)) (hne:(u == t)=false) (hjn:dj<N) (hn:d<N) (h:ARun P N ops os K ((d,undef) :: E) S):ARun P N ops (⟨some d,op,ty,pos,aft,some (j,t)⟩ :: os) K E S:=rS dj h hb hne hj hjn hn
theorem rU' (hj:(ops[j]?).bind (·.dst)=some dj) (hb:lk E dj=some undef) (hjn:dj<N) (hn:d<N) (h:ARun P N ops os K ((d,undef) :: E) S):ARun P N ops (⟨some d,op,ty,pos,aft,some (j,t)⟩ :: os) K E S:=rU dj h hb hj hjn hn
theorem rG' (hj:(ops[j]?).bind (·.dst)=some dj) (hb:lk E dj=some (.bool t)) (hc:Cl P N ⟨some d,op,ty,pos,aft,some (j,t)⟩ E S v) (hjn:dj<N) (hn:d<N) (h:ARun P N ops os K ((d,v) :: E) S):ARun P N ops (⟨some d,op,ty,pos,aft,some (j,t)⟩ :: os) K E S:=rG dj hc.h h hb hj hjn hn
theorem rW1 {b o:Nat} {r:Blk} (hx:ev E x=some (.pointer (some ⟨b,o,none⟩))) (hy:ev E y=some v) (hs:sizeT P T=some 1) (hv1:v.cells = #[v]) (hb:S.own b=some r) (hl:o<r.cells.length) (h1:v.oneCell'=true) (h:ARun P N ops os K E (S.set b ⟨r.elem,r.cells.set o v,r.room⟩)):ARun P N ops (⟨none,.store T x y,ty,pos,aft,none⟩ :: os) K E S:=ARun.store1 hx hy hs hv1 hb hl h1 h
theorem rWA {b n:Nat} {r:Blk} {cs:List Value} (ht:aggT P T=true) (hx:ev E x=some (.pointer (some ⟨b,0,none⟩))) (hy:ev E y=some (.agg cs.toArray)) (hs:sizeT P T=some n) (hn:n=cs.length) (hb:S.own b=some r) (hl:r.cells.length=cs.length) (h1:cs.all (·.oneCell')=true) (h:ARun P N ops os K E (S.set b ⟨r.elem,cs,r.room⟩)):ARun P N ops (⟨none,.store T x y,ty,pos,aft,none⟩ :: os) K E S:=ARun.storeAll hx hy (hn ▸ hs) hb hl h1 h
section
variable {l:List Oper} {W:List Nat} {S0:Mem} {K':Env→Mem→Prop} {i:Nat} {is:List (Nat × Bool)} {o:Oper}
theorem dP' (ho:l[i]?=some o) (hg:o.guard=none) (hp:pureOp o=true) (hd:o.dst=some d) (hn:d<N) (hc:∀ S',Cl P N o E S' w) (h:DrawRun P N l W S0 is K' ((d,w) :: E) S):DrawRun P N l W S0 ((i,true) :: is) K' E S:=dP ho hp hg hd hn (fun S'=>(hc S').h) h
theorem dC' (ho:l[i]?=some o) (hg:o.guard=none) (hp:pureOp o=false) (hd:o.dst=some d) (hn:d<N) (hl:S0.Less S) (hc:Cl P N o E S0 w) (h:DrawRun P N l W S0 is K' ((d,w) :: E) S):DrawRun P N l W S0 ((i,true) :: is) K' E S:=dC ho hp hg hd hn hl hc.h h
theorem dS' (ho:l[i]?=some o) (hg:o.guard=some (j,t)) (hj:(l.toArray[j]?).bind (·.dst)=some dj) (hb:lk E dj=some (.bool u)) (hne:(u == t)=false) (hjn:dj<N) (hd:o.dst=some d) (hn:d<N) (hl:S0.Less S) (h:DrawRun P N l W S0 is K' ((d,undef) :: E) S):DrawRun P N l W S0 ((i,true) :: is) K' E S:=dS h ho hg hj hjn hb hne hd hn hl
theorem dG' (ho:l[i]?=some o) (hg:o.guard=some (j,t)) (hj:(l.toArray[j]?).bind (·.dst)=some dj) (hb:lk E dj=some (.bool t)) (hp:pureOp o=true) (hjn:dj<N) (hd:o.dst=some d) (hn:d<N) (hl:S0.Less S) (hc:∀ S',Cl P N o E S' w) (h:DrawRun P N l W S0 is K' ((d,w) :: E) S):DrawRun P N l W S0 ((i,true) :: is) K' E S:=dG ho hg hj hjn hb hd hn hl (fun S'=>(hc S').h) h
theorem dL' (ho:l[i]?=some o) (hg:o.guard=some (j,t)) (hj:(l.toArray[j]?).bind (·.dst)=some dj) (hb:lk E dj=some (.bool t)) (hp:pureOp o=false) (hjn:dj<N) (hd:o.dst=some d) (hn:d<N) (hl:S0.Less S) (hc:Cl P N o E S0 w) (h:DrawRun P N l W S0 is K' ((d,w) :: E) S):DrawRun P N l W S0 ((i,true) :: is) K' E S:=dL ho hp hg hj hjn hb hd hn hl hc.h h
end
theorem s1_ {q p:Prop} (k:q) (h:Kp q→p:=by
  intro k_
  first
  | ((with_reducible apply rC');exact cl_;exact zab rfl)
  | ((with_reducible apply dP');exact rfl;exact rfl;exact rfl;exact rfl;exact zab rfl;intro S_;exact cl_)
  | ((with_reducible apply dC');exact rfl;exact rfl;exact rfl;exact rfl;exact zab rfl;exact zad;exact cl_)
  | (with_reducible apply za1)
  | (with_reducible apply AWP.seq)
  | (with_reducible apply AWP.region)
  | (with_reducible apply zae)
  | (with_reducible apply znR)
  | ((with_reducible apply rS');exact rfl;exact rfl;exact rfl;exact zab rfl;exact zab rfl)
  | ((with_reducible apply rU');exact rfl;exact rfl;exact zab rfl;exact zab rfl)
  | ((with_reducible apply rG');exact rfl;exact rfl;exact cl_;exact zab rfl;exact zab rfl)
  | ((with_reducible apply dS');exact rfl;exact rfl;exact rfl;exact rfl;exact rfl;exact zab rfl;exact rfl;exact zab rfl;exact zad)
  | ((with_reducible apply dU');exact rfl;exact rfl;exact rfl;exact rfl;exact zab rfl;exact rfl;exact zab rfl;exact zad)
  | ((with_reducible apply dG');exact rfl;exact rfl;exact rfl;exact rfl;exact rfl;exact zab rfl;exact rfl;exact zab rfl;exact zad;intro S_;exact cl_)
  | ((with_reducible apply dL');exact rfl;exact rfl;exact rfl;exact rfl;exact rfl;exact zab rfl;exact rfl;exact zab rfl;exact zad;exact cl_)
  | (with_reducible apply AWP.block)
  | (with_reducible apply zsv)
  | (with_reducible apply znP)
  | ((with_reducible apply zli);exact rfl)
  | (with_reducible apply zqF)
  | (with_reducible apply zlh)
  | (with_reducible apply zj4)
  | (with_reducible apply AWP.skip)
  | (with_reducible apply AWP.ret)
  | (with_reducible apply AWP.exit)
  | (with_reducible apply znQ)
  | (with_reducible apply join_exit)
  | ((with_reducible apply rW1);exact rfl;exact rfl;exact TSize.h;exact rfl;exact own_;exact zj7;exact rfl;try simp only [Mem.set_set,List.set_cons_zero,List.set_cons_succ,Nat.zero_add,Nat.reduceAdd])
  | ((with_reducible apply rWA);exact TAgg.h;exact rfl;exact rfl;exact TSize.h;exact rfl;exact own_;exact rfl;exact rfl;try simp only [Mem.set_set,List.set_cons_zero,List.set_cons_succ,Nat.zero_add,Nat.reduceAdd])
  | ((with_reducible apply rWP);exact TAgg.h;exact rfl;exact rfl;exact TSize.h;exact rfl;exact own_;exact zj7;exact rfl;try simp only [Mem.set_set,List.set_cons_zero,List.set_cons_succ,Nat.zero_add,Nat.reduceAdd])
  | ((with_reducible apply rN);exact rfl;first | ((with_reducible apply rC');exact cl_;exact zab rfl) | ((with_reducible apply rS');exact rfl;exact rfl;exact rfl;exact zab rfl;exact zab rfl) | ((with_reducible apply rU');exact rfl;exact rfl;exact zab rfl;exact zab rfl) | ((with_reducible apply rG');exact rfl;exact rfl;exact cl_;exact zab rfl;exact zab rfl) | ((with_reducible apply rW1);exact rfl;exact rfl;exact TSize.h;exact rfl;exact own_;exact zj7;exact rfl;try simp only [Mem.set_set,List.set_cons_zero,List.set_cons_succ,Nat.zero_add,Nat.reduceAdd]) | ((with_reducible apply rWA);exact TAgg.h;exact rfl;exact rfl;exact TSize.h;exact rfl;exact own_;exact rfl;exact rfl;try simp only [Mem.set_set,List.set_cons_zero,List.set_cons_succ,Nat.zero_add,Nat.reduceAdd]) | ((with_reducible apply rWP);exact TAgg.h;exact rfl;exact rfl;exact TSize.h;exact rfl;exact own_;exact zj7;exact rfl;try simp only [Mem.set_set,List.set_cons_zero,List.set_cons_succ,Nat.zero_add,Nat.reduceAdd]))
  exact k_.k):p:=h ⟨k⟩
theorem nl_ {q p:Prop} (k:q) (h:Kp q→p:=by
  intro k_
  try simp only [List.length_cons,List.length_nil,Nat.zero_add,Nat.reduceAdd]
  exact k_.k):p:=h ⟨k⟩
variable {Q:Exit→Env→Mem→Prop} {c:Operand} {X Y:Code} {f:FuncId} {xs:List Operand} {ats:Array TypeId} {vs:List Value} {R:Value→Mem→Prop}
theorem cT_ (h:AWP P N X Q E S) (hc:ev E c=some (.bool t):=by exact rfl) (ht:t=true:=by first | rfl | (simp;done) | (simp;omega)):AWP P N (.cond c X Y) Q E S:=AWP.condT hc ht h
theorem cF_ (h:AWP P N Y Q E S) (hc:ev E c=some (.bool t):=by exact rfl) (ht:t=false:=by first | rfl | (simp;done) | (simp;omega)):AWP P N (.cond c X Y) Q E S:=AWP.condF hc ht h
theorem su_ (E':Env) (h:AWP P N X Q E' S) (hs:Sub E' E:=by repeat first | refine ⟨rfl,?_⟩ | exact trivial):AWP P N X Q E S:=AWP.sub E' hs h
theorem ca_ (hx:evs E xs=some vs) (hc:ACall P f vs.toArray S R) (h:∀ v S',R v S'→ARun P N ops os K ((d,v) :: E) S') (hn:d<N:=by exact zab rfl) (hf:goFn P f=true:=by exact TGo.h):ARun P N ops (⟨some d,.call ⟨.value (.func f),xs.toArray,ats⟩,ty,pos,aft,none⟩ :: os) K E S:=ARun.call hn hf hx hc h
end
end Mv
open Go.RowKit
namespace Mv
section
variable {P:Program} {N:Nat} {ops:Array Oper} {E:Env} {S:Mem} {K:Env→Mem→Prop} {os:List Oper}
variable {d:Nat} {op:Op} {ty:TypeId} {pos:String} {aft:Array Edge} {v:Value} {j:Nat} {t u:Bool}
variable {x y c:Operand} {l:List Oper} {C:Code} {Q:Exit→Env→Mem→Prop} {next:Env→Mem→Prop}
theorem k_a {id:Nat} (h:ARun P N l.toArray l (Athen (AWP P N C Q) Q .normal) E S):AWP P N (.seq (.region id l.toArray false) C) Q E S:=AWP.seq (AWP.region h)
theorem k_n (h:next E S):ARun P N ops [] (Athen next Q .normal) E S:=zae (za1 h)
theorem k_m (hx:ev E x=some v) (h:ARun P N ops os K ((d,v) :: E) S) (hn:d<N:=by exact zab rfl):ARun P N ops (⟨some d,.move x,ty,pos,aft,none⟩ :: os) K E S:=rC (Calm.move hx) h hn
theorem k_s (hx:ev E x=some v) (h:ARun P N ops os K ((d,v) :: E) S) (hn:d<N:=by exact zab rfl):ARun P N ops (⟨some d,.assign x,ty,pos,aft,none⟩ :: os) K E S:=rC (Calm.assign hx) h hn
theorem k_e (hx:ev E x=some v) (h:next ((d,v) :: E) S) (hn:d<N:=by exact zab rfl):ARun P N ops [⟨some d,.assign x,ty,pos,aft,none⟩] (Athen next Q .normal) E S:=rC (Calm.assign hx) h hn
theorem k_t (hc:ev E c=some (.bool true)) (hx:ev E x=some v) (h:ARun P N ops os K ((d,v) :: E) S) (hn:d<N:=by exact zab rfl):ARun P N ops (⟨some d,.pick c x y,ty,pos,aft,none⟩ :: os) K E S:=rC (Calm.pickT hc hx) h hn
theorem k_f (hc:ev E c=some (.bool false)) (hx:ev E y=some v) (h:ARun P N ops os K ((d,v) :: E) S) (hn:d<N:=by exact zab rfl):ARun P N ops (⟨some d,.pick c x y,ty,pos,aft,none⟩ :: os) K E S:=rC (Calm.pickF hc hx) h hn
theorem k_T {X Y:Code} (hc:ev E c=some (.bool t)) (h:AWP P N X Q E S) (ht:t=true:=by first | rfl | (simp;done) | (simp;omega)):AWP P N (.cond c X Y) Q E S:=AWP.condT hc ht h
theorem k_F {X Y:Code} (hc:ev E c=some (.bool t)) (h:AWP P N Y Q E S) (ht:t=false:=by first | rfl | (simp;done) | (simp;omega)):AWP P N (.cond c X Y) Q E S:=AWP.condF hc ht h
theorem k_u (E':Env) (h:AWP P N C Q E' S) (hs:Sub E' E:=by repeat first | refine ⟨rfl,?_⟩ | exact trivial):AWP P N C Q E S:=AWP.sub E' hs h
def zp3 (t:Bool) (w:Value):Prop:=(∃ u,w = .bool u∧(u == t)=false)∨w=undef
theorem k_q (dj:Nat) (h:ARun P N ops os K ((d,undef) :: E) S) {w:Value} (hb:lk E dj=some w:=by exact rfl) (hw:zp3 t w:=by first | exact .inl ⟨_,rfl,rfl⟩ | exact .inr rfl) (hj:(ops[j]?).bind (·.dst)=some dj:=by exact rfl) (hjn:dj<N:=by exact zab rfl) (hn:d<N:=by exact zab rfl):ARun P N ops (⟨some d,op,ty,pos,aft,some (j,t)⟩ :: os) K E S:=by
  rcases hw with ⟨u,rfl,hne⟩ | rfl
  · exact rS dj h hb hne hj hjn hn
  · exact rU dj h hb hj hjn hn
theorem k_9 {T:TypeId} {ad:Addr} {a1 a2 a3 a4 a5 a6 a7 a8 a9:Value} (hT:aggT P T=true) (hs:sizeT P T=some 9) (hx:ev E x=some (.pointer (some ad))) (h:ARun P N ops os K ((d,.agg [a1,a2,a3,a4,a5,a6,a7,a8,a9].toArray) :: E) S) (hk:(S.rds ad [a1,a2,a3,a4,a5,a6,a7,a8,a9]∨S.Knows ad [a1,a2,a3,a4,a5,a6,a7,a8,a9]):=by first | exact .inl rds_ | exact .inr kn_) (hn:d<N:=by exact zab rfl):ARun P N ops (⟨some d,.load T x,ty,pos,aft,none⟩ :: os) K E S:=rC (ldA_ (cs:=[a1,a2,a3,a4,a5,a6,a7,a8,a9]) hT hs hx hk) h hn
theorem k_b9 {T:TypeId} {a1 a2 a3 a4 a5 a6 a7 a8 a9:Value} (hx:ev E x=some (.agg [a1,a2,a3,a4,a5,a6,a7,a8,a9].toArray)) (h:∀ b,Fresh S b→ARun P N ops os K ((d,.pointer (some ⟨b,0,none⟩)) :: E) (S.set b ⟨T,[a1,a2,a3,a4,a5,a6,a7,a8,a9],([a1,a2,a3,a4,a5,a6,a7,a8,a9] : List Value).length⟩)) (hn:d<N:=by exact zab rfl):ARun P N ops (⟨some d,.box T x,ty,pos,aft,none⟩ :: os) K E S:=ARun.boxA (cs:=[a1,a2,a3,a4,a5,a6,a7,a8,a9]) hn hx h
theorem k_7 {T:TypeId} {ad:Addr} {a1 a2 a3 a4 a5 a6 a7:Value} (hT:aggT P T=true) (hs:sizeT P T=some 7) (hx:ev E x=some (.pointer (some ad))) (h:ARun P N ops os K ((d,.agg [a1,a2,a3,a4,a5,a6,a7].toArray) :: E) S) (hk:(S.rds ad [a1,a2,a3,a4,a5,a6,a7]∨S.Knows ad [a1,a2,a3,a4,a5,a6,a7]):=by first | exact .inl rds_ | exact .inr kn_) (hn:d<N:=by exact zab rfl):ARun P N ops (⟨some d,.load T x,ty,pos,aft,none⟩ :: os) K E S:=rC (ldA_ (cs:=[a1,a2,a3,a4,a5,a6,a7]) hT hs hx hk) h hn
theorem k_b7 {T:TypeId} {a1 a2 a3 a4 a5 a6 a7:Value} (hx:ev E x=some (.agg [a1,a2,a3,a4,a5,a6,a7].toArray)) (h:∀ b,Fresh S b→ARun P N ops os K ((d,.pointer (some ⟨b,0,none⟩)) :: E) (S.set b ⟨T,[a1,a2,a3,a4,a5,a6,a7],([a1,a2,a3,a4,a5,a6,a7] : List Value).length⟩)) (hn:d<N:=by exact zab rfl):ARun P N ops (⟨some d,.box T x,ty,pos,aft,none⟩ :: os) K E S:=ARun.boxA (cs:=[a1,a2,a3,a4,a5,a6,a7]) hn hx h
theorem k_5 {T:TypeId} {ad:Addr} {a1 a2 a3 a4 a5:Value} (hT:aggT P T=true) (hs:sizeT P T=some 5) (hx:ev E x=some (.pointer (some ad))) (h:ARun P N ops os K ((d,.agg [a1,a2,a3,a4,a5].toArray) :: E) S) (hk:(S.rds ad [a1,a2,a3,a4,a5]∨S.Knows ad [a1,a2,a3,a4,a5]):=by first | exact .inl rds_ | exact .inr kn_) (hn:d<N:=by exact zab rfl):ARun P N ops (⟨some d,.load T x,ty,pos,aft,none⟩ :: os) K E S:=rC (ldA_ (cs:=[a1,a2,a3,a4,a5]) hT hs hx hk) h hn
theorem k_b5 {T:TypeId} {a1 a2 a3 a4 a5:Value} (hx:ev E x=some (.agg [a1,a2,a3,a4,a5].toArray)) (h:∀ b,Fresh S b→ARun P N ops os K ((d,.pointer (some ⟨b,0,none⟩)) :: E) (S.set b ⟨T,[a1,a2,a3,a4,a5],([a1,a2,a3,a4,a5] : List Value).length⟩)) (hn:d<N:=by exact zab rfl):ARun P N ops (⟨some d,.box T x,ty,pos,aft,none⟩ :: os) K E S:=ARun.boxA (cs:=[a1,a2,a3,a4,a5]) hn hx h
theorem k_A {T:TypeId} {b:Nat} {r:Blk} {cs:List Value} (hx:ev E x=some (.pointer (some ⟨b,0,none⟩))) (hy:ev E y=some (.agg cs.toArray)) (hs:sizeT P T=some cs.length) (h:ARun P N ops os K E (S.set b ⟨r.elem,cs,r.room⟩)) (hb:S.own b=some r:=by exact own_) (hl:r.cells.length=cs.length:=by exact rfl) (h1:cs.all (·.oneCell')=true:=by exact rfl):ARun P N ops (⟨none,.store T x y,ty,pos,aft,none⟩ :: os) K E S:=ARun.storeAll hx hy hs hb hl h1 h
theorem k_B {T:TypeId} {b o:Nat} {r:Blk} {v:Value} (hx:ev E x=some (.pointer (some ⟨b,o,none⟩))) (hy:ev E y=some v) (hs:sizeT P T=some v.cells.size) (h:ARun P N ops os K E (S.set b ⟨r.elem,spl r.cells o v.cells.toList,r.room⟩)) (hb:S.own b=some r:=by exact own_) (hl:o+v.cells.size≤r.cells.length:=by exact zj7) (h1:v.cells.all (·.oneCell')=true:=by exact rfl):ARun P N ops (⟨none,.store T x y,ty,pos,aft,none⟩ :: os) K E S:=ARun.store hx hy hs hb hl h1 h
theorem k_l1 {α : Type _} (a : α) (l:List α):(a :: l).length=l.length+1:=rfl
theorem k_l0 {α : Type _}:([] : List α).length=0:=rfl
theorem k_za (n:Nat):0+n=n:=Nat.zero_add n
theorem k_sz {α : Type _} (a b : α) (l:List α):(a :: l).set 0 b=b :: l:=rfl
theorem k_ss {α : Type _} (a b : α) (l:List α) (n:Nat):(a :: l).set (n+1) b=a :: l.set n b:=rfl
theorem k_ms (S:Mem) (b:Nat) (r r':Blk):(S.set b r).set b r'=S.set b r':=Mem.set_set S b r r'
theorem k_d {l:List Oper} {W:List Nat} {S0:Mem} {K':Env→Mem→Prop} {i:Nat} {is:List (Nat × Bool)} {o:Oper} {dj:Nat} {w:Value} (h:DrawRun P N l W S0 is K' ((d,undef) :: E) S) (ho:l[i]?=some o:=by exact rfl) (hg:o.guard=some (j,t):=by exact rfl) (hj:(l.toArray[j]?).bind (·.dst)=some dj:=by exact rfl) (hjn:dj<N:=by exact zab rfl) (hb:lk E dj=some w:=by exact rfl) (hw:zp3 t w:=by first | exact .inl ⟨_,rfl,rfl⟩ | exact .inr rfl) (hd:o.dst=some d:=by exact rfl) (hn:d<N:=by exact zab rfl) (hl:S0.Less S:=by exact zad):DrawRun P N l W S0 ((i,true) :: is) K' E S:=by
  rcases hw with ⟨u,rfl,hne⟩ | rfl
  · exact dS h ho hg hj hjn hb hne hd hn hl
  · exact dU h ho hg hj hjn hb hd hn hl
theorem k_E1 {f:FuncId} {fn:Func} {c:Code} {rs:List ResultVar} {R:Value→Mem→Prop} {a0:Value} (n:Nat) (hf:P.funcs[f]?=some fn) (hb:fn.body=some c) (hn:fn.ntmps=n) (hr:fn.results=rs.toArray) (h:AWP P n c (Aret P rs R) [(0,a0)] S) (hl:1≤n:=by exact Nat.le_of_ble_eq_true rfl):ACall P f #[a0] S R:=ACall.enter (args:=[a0]) n [(0,a0)] hf hb hn hl hr ⟨rfl,trivial⟩ h
theorem k_E2 {f:FuncId} {fn:Func} {c:Code} {rs:List ResultVar} {R:Value→Mem→Prop} {a0 a1:Value} (n:Nat) (hf:P.funcs[f]?=some fn) (hb:fn.body=some c) (hn:fn.ntmps=n) (hr:fn.results=rs.toArray) (h:AWP P n c (Aret P rs R) [(0,a0),(1,a1)] S) (hl:2≤n:=by exact Nat.le_of_ble_eq_true rfl):ACall P f #[a0,a1] S R:=ACall.enter (args:=[a0,a1]) n [(0,a0),(1,a1)] hf hb hn hl hr ⟨rfl,rfl,trivial⟩ h
theorem k_E3 {f:FuncId} {fn:Func} {c:Code} {rs:List ResultVar} {R:Value→Mem→Prop} {a0 a1 a2:Value} (n:Nat) (hf:P.funcs[f]?=some fn) (hb:fn.body=some c) (hn:fn.ntmps=n) (hr:fn.results=rs.toArray) (h:AWP P n c (Aret P rs R) [(0,a0),(1,a1),(2,a2)] S) (hl:3≤n:=by exact Nat.le_of_ble_eq_true rfl):ACall P f #[a0,a1,a2] S R:=ACall.enter (args:=[a0,a1,a2]) n [(0,a0),(1,a1),(2,a2)] hf hb hn hl hr ⟨rfl,rfl,rfl,trivial⟩ h
theorem k_E4 {f:FuncId} {fn:Func} {c:Code} {rs:List ResultVar} {R:Value→Mem→Prop} {a0 a1 a2 a3:Value} (n:Nat) (hf:P.funcs[f]?=some fn) (hb:fn.body=some c) (hn:fn.ntmps=n) (hr:fn.results=rs.toArray) (h:AWP P n c (Aret P rs R) [(0,a0),(1,a1),(2,a2),(3,a3)] S) (hl:4≤n:=by exact Nat.le_of_ble_eq_true rfl):ACall P f #[a0,a1,a2,a3] S R:=ACall.enter (args:=[a0,a1,a2,a3]) n [(0,a0),(1,a1),(2,a2),(3,a3)] hf hb hn hl hr ⟨rfl,rfl,rfl,rfl,trivial⟩ h
theorem k_E5 {f:FuncId} {fn:Func} {c:Code} {rs:List ResultVar} {R:Value→Mem→Prop} {a0 a1 a2 a3 a4:Value} (n:Nat) (hf:P.funcs[f]?=some fn) (hb:fn.body=some c) (hn:fn.ntmps=n) (hr:fn.results=rs.toArray) (h:AWP P n c (Aret P rs R) [(0,a0),(1,a1),(2,a2),(3,a3),(4,a4)] S) (hl:5≤n:=by exact Nat.le_of_ble_eq_true rfl):ACall P f #[a0,a1,a2,a3,a4] S R:=ACall.enter (args:=[a0,a1,a2,a3,a4]) n [(0,a0),(1,a1),(2,a2),(3,a3),(4,a4)] hf hb hn hl hr ⟨rfl,rfl,rfl,rfl,rfl,trivial⟩ h
theorem k_E6 {f:FuncId} {fn:Func} {c:Code} {rs:List ResultVar} {R:Value→Mem→Prop} {a0 a1 a2 a3 a4 a5:Value} (n:Nat) (hf:P.funcs[f]?=some fn) (hb:fn.body=some c) (hn:fn.ntmps=n) (hr:fn.results=rs.toArray) (h:AWP P n c (Aret P rs R) [(0,a0),(1,a1),(2,a2),(3,a3),(4,a4),(5,a5)] S) (hl:6≤n:=by exact Nat.le_of_ble_eq_true rfl):ACall P f #[a0,a1,a2,a3,a4,a5] S R:=ACall.enter (args:=[a0,a1,a2,a3,a4,a5]) n [(0,a0),(1,a1),(2,a2),(3,a3),(4,a4),(5,a5)] hf hb hn hl hr ⟨rfl,rfl,rfl,rfl,rfl,rfl,trivial⟩ h
theorem k_v1 (i0:Nat) {v0:Value} (h:AWP P N C Q [(i0,v0)] S) (hs:Sub [(i0,v0)] E:=by repeat first | refine ⟨rfl,?_⟩ | exact trivial):AWP P N C Q E S:=AWP.sub _ hs h
theorem k_v2 (i0 i1:Nat) {v0 v1:Value} (h:AWP P N C Q [(i0,v0),(i1,v1)] S) (hs:Sub [(i0,v0),(i1,v1)] E:=by repeat first | refine ⟨rfl,?_⟩ | exact trivial):AWP P N C Q E S:=AWP.sub _ hs h
theorem k_v3 (i0 i1 i2:Nat) {v0 v1 v2:Value} (h:AWP P N C Q [(i0,v0),(i1,v1),(i2,v2)] S) (hs:Sub [(i0,v0),(i1,v1),(i2,v2)] E:=by repeat first | refine ⟨rfl,?_⟩ | exact trivial):AWP P N C Q E S:=AWP.sub _ hs h
theorem k_v4 (i0 i1 i2 i3:Nat) {v0 v1 v2 v3:Value} (h:AWP P N C Q [(i0,v0),(i1,v1),(i2,v2),(i3,v3)] S) (hs:Sub [(i0,v0),(i1,v1),(i2,v2),(i3,v3)] E:=by repeat first | refine ⟨rfl,?_⟩ | exact trivial):AWP P N C Q E S:=AWP.sub _ hs h
theorem k_v5 (i0 i1 i2 i3 i4:Nat) {v0 v1 v2 v3 v4:Value} (h:AWP P N C Q [(i0,v0),(i1,v1),(i2,v2),(i3,v3),(i4,v4)] S) (hs:Sub [(i0,v0),(i1,v1),(i2,v2),(i3,v3),(i4,v4)] E:=by repeat first | refine ⟨rfl,?_⟩ | exact trivial):AWP P N C Q E S:=AWP.sub _ hs h
theorem k_v6 (i0 i1 i2 i3 i4 i5:Nat) {v0 v1 v2 v3 v4 v5:Value} (h:AWP P N C Q [(i0,v0),(i1,v1),(i2,v2),(i3,v3),(i4,v4),(i5,v5)] S) (hs:Sub [(i0,v0),(i1,v1),(i2,v2),(i3,v3),(i4,v4),(i5,v5)] E:=by repeat first | refine ⟨rfl,?_⟩ | exact trivial):AWP P N C Q E S:=AWP.sub _ hs h
theorem k_v7 (i0 i1 i2 i3 i4 i5 i6:Nat) {v0 v1 v2 v3 v4 v5 v6:Value} (h:AWP P N C Q [(i0,v0),(i1,v1),(i2,v2),(i3,v3),(i4,v4),(i5,v5),(i6,v6)] S) (hs:Sub [(i0,v0),(i1,v1),(i2,v2),(i3,v3),(i4,v4),(i5,v5),(i6,v6)] E:=by repeat first | refine ⟨rfl,?_⟩ | exact trivial):AWP P N C Q E S:=AWP.sub _ hs h
theorem k_v8 (i0 i1 i2 i3 i4 i5 i6 i7:Nat) {v0 v1 v2 v3 v4 v5 v6 v7:Value} (h:AWP P N C Q [(i0,v0),(i1,v1),(i2,v2),(i3,v3),(i4,v4),(i5,v5),(i6,v6),(i7,v7)] S) (hs:Sub [(i0,v0),(i1,v1),(i2,v2),(i3,v3),(i4,v4),(i5,v5),(i6,v6),(i7,v7)] E:=by repeat first | refine ⟨rfl,?_⟩ | exact trivial):AWP P N C Q E S:=AWP.sub _ hs h
theorem k_v9 (i0 i1 i2 i3 i4 i5 i6 i7 i8:Nat) {v0 v1 v2 v3 v4 v5 v6 v7 v8:Value} (h:AWP P N C Q [(i0,v0),(i1,v1),(i2,v2),(i3,v3),(i4,v4),(i5,v5),(i6,v6),(i7,v7),(i8,v8)] S) (hs:Sub [(i0,v0),(i1,v1),(i2,v2),(i3,v3),(i4,v4),(i5,v5),(i6,v6),(i7,v7),(i8,v8)] E:=by repeat first | refine ⟨rfl,?_⟩ | exact trivial):AWP P N C Q E S:=AWP.sub _ hs h
theorem zdG (i0 i1 i2 i3 i4 i5 i6 i7 i8 i9:Nat) {v0 v1 v2 v3 v4 v5 v6 v7 v8 v9:Value} (h:AWP P N C Q [(i0,v0),(i1,v1),(i2,v2),(i3,v3),(i4,v4),(i5,v5),(i6,v6),(i7,v7),(i8,v8),(i9,v9)] S) (hs:Sub [(i0,v0),(i1,v1),(i2,v2),(i3,v3),(i4,v4),(i5,v5),(i6,v6),(i7,v7),(i8,v8),(i9,v9)] E:=by repeat first | refine ⟨rfl,?_⟩ | exact trivial):AWP P N C Q E S:=AWP.sub _ hs h
theorem zd5 (i0 i1 i2 i3 i4 i5 i6 i7 i8 i9 i10:Nat) {v0 v1 v2 v3 v4 v5 v6 v7 v8 v9 v10:Value} (h:AWP P N C Q [(i0,v0),(i1,v1),(i2,v2),(i3,v3),(i4,v4),(i5,v5),(i6,v6),(i7,v7),(i8,v8),(i9,v9),(i10,v10)] S) (hs:Sub [(i0,v0),(i1,v1),(i2,v2),(i3,v3),(i4,v4),(i5,v5),(i6,v6),(i7,v7),(i8,v8),(i9,v9),(i10,v10)] E:=by repeat first | refine ⟨rfl,?_⟩ | exact trivial):AWP P N C Q E S:=AWP.sub _ hs h
theorem zh9 (i0 i1 i2 i3 i4 i5 i6 i7 i8 i9 i10 i11:Nat) {v0 v1 v2 v3 v4 v5 v6 v7 v8 v9 v10 v11:Value} (h:AWP P N C Q [(i0,v0),(i1,v1),(i2,v2),(i3,v3),(i4,v4),(i5,v5),(i6,v6),(i7,v7),(i8,v8),(i9,v9),(i10,v10),(i11,v11)] S) (hs:Sub [(i0,v0),(i1,v1),(i2,v2),(i3,v3),(i4,v4),(i5,v5),(i6,v6),(i7,v7),(i8,v8),(i9,v9),(i10,v10),(i11,v11)] E:=by repeat first | refine ⟨rfl,?_⟩ | exact trivial):AWP P N C Q E S:=AWP.sub _ hs h
theorem zgg (i0 i1 i2 i3 i4 i5 i6 i7 i8 i9 i10 i11 i12:Nat) {v0 v1 v2 v3 v4 v5 v6 v7 v8 v9 v10 v11 v12:Value} (h:AWP P N C Q [(i0,v0),(i1,v1),(i2,v2),(i3,v3),(i4,v4),(i5,v5),(i6,v6),(i7,v7),(i8,v8),(i9,v9),(i10,v10),(i11,v11),(i12,v12)] S) (hs:Sub [(i0,v0),(i1,v1),(i2,v2),(i3,v3),(i4,v4),(i5,v5),(i6,v6),(i7,v7),(i8,v8),(i9,v9),(i10,v10),(i11,v11),(i12,v12)] E:=by repeat first | refine ⟨rfl,?_⟩ | exact trivial):AWP P N C Q E S:=AWP.sub _ hs h
theorem zqO (i0 i1 i2 i3 i4 i5 i6 i7 i8 i9 i10 i11 i12 i13:Nat) {v0 v1 v2 v3 v4 v5 v6 v7 v8 v9 v10 v11 v12 v13:Value} (h:AWP P N C Q [(i0,v0),(i1,v1),(i2,v2),(i3,v3),(i4,v4),(i5,v5),(i6,v6),(i7,v7),(i8,v8),(i9,v9),(i10,v10),(i11,v11),(i12,v12),(i13,v13)] S) (hs:Sub [(i0,v0),(i1,v1),(i2,v2),(i3,v3),(i4,v4),(i5,v5),(i6,v6),(i7,v7),(i8,v8),(i9,v9),(i10,v10),(i11,v11),(i12,v12),(i13,v13)] E:=by repeat first | refine ⟨rfl,?_⟩ | exact trivial):AWP P N C Q E S:=AWP.sub _ hs h
theorem zgh (i0 i1 i2 i3 i4 i5 i6 i7 i8 i9 i10 i11 i12 i13 i14:Nat) {v0 v1 v2 v3 v4 v5 v6 v7 v8 v9 v10 v11 v12 v13 v14:Value} (h:AWP P N C Q [(i0,v0),(i1,v1),(i2,v2),(i3,v3),(i4,v4),(i5,v5),(i6,v6),(i7,v7),(i8,v8),(i9,v9),(i10,v10),(i11,v11),(i12,v12),(i13,v13),(i14,v14)] S) (hs:Sub [(i0,v0),(i1,v1),(i2,v2),(i3,v3),(i4,v4),(i5,v5),(i6,v6),(i7,v7),(i8,v8),(i9,v9),(i10,v10),(i11,v11),(i12,v12),(i13,v13),(i14,v14)] E:=by repeat first | refine ⟨rfl,?_⟩ | exact trivial):AWP P N C Q E S:=AWP.sub _ hs h
theorem ztT (i0 i1 i2 i3 i4 i5 i6 i7 i8 i9 i10 i11 i12 i13 i14 i15:Nat) {v0 v1 v2 v3 v4 v5 v6 v7 v8 v9 v10 v11 v12 v13 v14 v15:Value} (h:AWP P N C Q [(i0,v0),(i1,v1),(i2,v2),(i3,v3),(i4,v4),(i5,v5),(i6,v6),(i7,v7),(i8,v8),(i9,v9),(i10,v10),(i11,v11),(i12,v12),(i13,v13),(i14,v14),(i15,v15)] S) (hs:Sub [(i0,v0),(i1,v1),(i2,v2),(i3,v3),(i4,v4),(i5,v5),(i6,v6),(i7,v7),(i8,v8),(i9,v9),(i10,v10),(i11,v11),(i12,v12),(i13,v13),(i14,v14),(i15,v15)] E:=by repeat first | refine ⟨rfl,?_⟩ | exact trivial):AWP P N C Q E S:=AWP.sub _ hs h
theorem zuo (i0 i1 i2 i3 i4 i5 i6 i7 i8 i9 i10 i11 i12 i13 i14 i15 i16:Nat) {v0 v1 v2 v3 v4 v5 v6 v7 v8 v9 v10 v11 v12 v13 v14 v15 v16:Value} (h:AWP P N C Q [(i0,v0),(i1,v1),(i2,v2),(i3,v3),(i4,v4),(i5,v5),(i6,v6),(i7,v7),(i8,v8),(i9,v9),(i10,v10),(i11,v11),(i12,v12),(i13,v13),(i14,v14),(i15,v15),(i16,v16)] S) (hs:Sub [(i0,v0),(i1,v1),(i2,v2),(i3,v3),(i4,v4),(i5,v5),(i6,v6),(i7,v7),(i8,v8),(i9,v9),(i10,v10),(i11,v11),(i12,v12),(i13,v13),(i14,v14),(i15,v15),(i16,v16)] E:=by repeat first | refine ⟨rfl,?_⟩ | exact trivial):AWP P N C Q E S:=AWP.sub _ hs h
theorem zup (i0 i1 i2 i3 i4 i5 i6 i7 i8 i9 i10 i11 i12 i13 i14 i15 i16 i17:Nat) {v0 v1 v2 v3 v4 v5 v6 v7 v8 v9 v10 v11 v12 v13 v14 v15 v16 v17:Value} (h:AWP P N C Q [(i0,v0),(i1,v1),(i2,v2),(i3,v3),(i4,v4),(i5,v5),(i6,v6),(i7,v7),(i8,v8),(i9,v9),(i10,v10),(i11,v11),(i12,v12),(i13,v13),(i14,v14),(i15,v15),(i16,v16),(i17,v17)] S) (hs:Sub [(i0,v0),(i1,v1),(i2,v2),(i3,v3),(i4,v4),(i5,v5),(i6,v6),(i7,v7),(i8,v8),(i9,v9),(i10,v10),(i11,v11),(i12,v12),(i13,v13),(i14,v14),(i15,v15),(i16,v16),(i17,v17)] E:=by repeat first | refine ⟨rfl,?_⟩ | exact trivial):AWP P N C Q E S:=AWP.sub _ hs h
theorem zuq (i0 i1 i2 i3 i4 i5 i6 i7 i8 i9 i10 i11 i12 i13 i14 i15 i16 i17 i18:Nat) {v0 v1 v2 v3 v4 v5 v6 v7 v8 v9 v10 v11 v12 v13 v14 v15 v16 v17 v18:Value} (h:AWP P N C Q [(i0,v0),(i1,v1),(i2,v2),(i3,v3),(i4,v4),(i5,v5),(i6,v6),(i7,v7),(i8,v8),(i9,v9),(i10,v10),(i11,v11),(i12,v12),(i13,v13),(i14,v14),(i15,v15),(i16,v16),(i17,v17),(i18,v18)] S) (hs:Sub [(i0,v0),(i1,v1),(i2,v2),(i3,v3),(i4,v4),(i5,v5),(i6,v6),(i7,v7),(i8,v8),(i9,v9),(i10,v10),(i11,v11),(i12,v12),(i13,v13),(i14,v14),(i15,v15),(i16,v16),(i17,v17),(i18,v18)] E:=by repeat first | refine ⟨rfl,?_⟩ | exact trivial):AWP P N C Q E S:=AWP.sub _ hs h
theorem zur (i0 i1 i2 i3 i4 i5 i6 i7 i8 i9 i10 i11 i12 i13 i14 i15 i16 i17 i18 i19:Nat) {v0 v1 v2 v3 v4 v5 v6 v7 v8 v9 v10 v11 v12 v13 v14 v15 v16 v17 v18 v19:Value} (h:AWP P N C Q [(i0,v0),(i1,v1),(i2,v2),(i3,v3),(i4,v4),(i5,v5),(i6,v6),(i7,v7),(i8,v8),(i9,v9),(i10,v10),(i11,v11),(i12,v12),(i13,v13),(i14,v14),(i15,v15),(i16,v16),(i17,v17),(i18,v18),(i19,v19)] S) (hs:Sub [(i0,v0),(i1,v1),(i2,v2),(i3,v3),(i4,v4),(i5,v5),(i6,v6),(i7,v7),(i8,v8),(i9,v9),(i10,v10),(i11,v11),(i12,v12),(i13,v13),(i14,v14),(i15,v15),(i16,v16),(i17,v17),(i18,v18),(i19,v19)] E:=by repeat first | refine ⟨rfl,?_⟩ | exact trivial):AWP P N C Q E S:=AWP.sub _ hs h
theorem zus (i0 i1 i2 i3 i4 i5 i6 i7 i8 i9 i10 i11 i12 i13 i14 i15 i16 i17 i18 i19 i20:Nat) {v0 v1 v2 v3 v4 v5 v6 v7 v8 v9 v10 v11 v12 v13 v14 v15 v16 v17 v18 v19 v20:Value} (h:AWP P N C Q [(i0,v0),(i1,v1),(i2,v2),(i3,v3),(i4,v4),(i5,v5),(i6,v6),(i7,v7),(i8,v8),(i9,v9),(i10,v10),(i11,v11),(i12,v12),(i13,v13),(i14,v14),(i15,v15),(i16,v16),(i17,v17),(i18,v18),(i19,v19),(i20,v20)] S) (hs:Sub [(i0,v0),(i1,v1),(i2,v2),(i3,v3),(i4,v4),(i5,v5),(i6,v6),(i7,v7),(i8,v8),(i9,v9),(i10,v10),(i11,v11),(i12,v12),(i13,v13),(i14,v14),(i15,v15),(i16,v16),(i17,v17),(i18,v18),(i19,v19),(i20,v20)] E:=by repeat first | refine ⟨rfl,?_⟩ | exact trivial):AWP P N C Q E S:=AWP.sub _ hs h
theorem zut (i0 i1 i2 i3 i4 i5 i6 i7 i8 i9 i10 i11 i12 i13 i14 i15 i16 i17 i18 i19 i20 i21:Nat) {v0 v1 v2 v3 v4 v5 v6 v7 v8 v9 v10 v11 v12 v13 v14 v15 v16 v17 v18 v19 v20 v21:Value} (h:AWP P N C Q [(i0,v0),(i1,v1),(i2,v2),(i3,v3),(i4,v4),(i5,v5),(i6,v6),(i7,v7),(i8,v8),(i9,v9),(i10,v10),(i11,v11),(i12,v12),(i13,v13),(i14,v14),(i15,v15),(i16,v16),(i17,v17),(i18,v18),(i19,v19),(i20,v20),(i21,v21)] S) (hs:Sub [(i0,v0),(i1,v1),(i2,v2),(i3,v3),(i4,v4),(i5,v5),(i6,v6),(i7,v7),(i8,v8),(i9,v9),(i10,v10),(i11,v11),(i12,v12),(i13,v13),(i14,v14),(i15,v15),(i16,v16),(i17,v17),(i18,v18),(i19,v19),(i20,v20),(i21,v21)] E:=by repeat first | refine ⟨rfl,?_⟩ | exact trivial):AWP P N C Q E S:=AWP.sub _ hs h
theorem zuu (i0 i1 i2 i3 i4 i5 i6 i7 i8 i9 i10 i11 i12 i13 i14 i15 i16 i17 i18 i19 i20 i21 i22:Nat) {v0 v1 v2 v3 v4 v5 v6 v7 v8 v9 v10 v11 v12 v13 v14 v15 v16 v17 v18 v19 v20 v21 v22:Value} (h:AWP P N C Q [(i0,v0),(i1,v1),(i2,v2),(i3,v3),(i4,v4),(i5,v5),(i6,v6),(i7,v7),(i8,v8),(i9,v9),(i10,v10),(i11,v11),(i12,v12),(i13,v13),(i14,v14),(i15,v15),(i16,v16),(i17,v17),(i18,v18),(i19,v19),(i20,v20),(i21,v21),(i22,v22)] S) (hs:Sub [(i0,v0),(i1,v1),(i2,v2),(i3,v3),(i4,v4),(i5,v5),(i6,v6),(i7,v7),(i8,v8),(i9,v9),(i10,v10),(i11,v11),(i12,v12),(i13,v13),(i14,v14),(i15,v15),(i16,v16),(i17,v17),(i18,v18),(i19,v19),(i20,v20),(i21,v21),(i22,v22)] E:=by repeat first | refine ⟨rfl,?_⟩ | exact trivial):AWP P N C Q E S:=AWP.sub _ hs h
theorem zuv (i0 i1 i2 i3 i4 i5 i6 i7 i8 i9 i10 i11 i12 i13 i14 i15 i16 i17 i18 i19 i20 i21 i22 i23:Nat) {v0 v1 v2 v3 v4 v5 v6 v7 v8 v9 v10 v11 v12 v13 v14 v15 v16 v17 v18 v19 v20 v21 v22 v23:Value} (h:AWP P N C Q [(i0,v0),(i1,v1),(i2,v2),(i3,v3),(i4,v4),(i5,v5),(i6,v6),(i7,v7),(i8,v8),(i9,v9),(i10,v10),(i11,v11),(i12,v12),(i13,v13),(i14,v14),(i15,v15),(i16,v16),(i17,v17),(i18,v18),(i19,v19),(i20,v20),(i21,v21),(i22,v22),(i23,v23)] S) (hs:Sub [(i0,v0),(i1,v1),(i2,v2),(i3,v3),(i4,v4),(i5,v5),(i6,v6),(i7,v7),(i8,v8),(i9,v9),(i10,v10),(i11,v11),(i12,v12),(i13,v13),(i14,v14),(i15,v15),(i16,v16),(i17,v17),(i18,v18),(i19,v19),(i20,v20),(i21,v21),(i22,v22),(i23,v23)] E:=by repeat first | refine ⟨rfl,?_⟩ | exact trivial):AWP P N C Q E S:=AWP.sub _ hs h
theorem zuw (i0 i1 i2 i3 i4 i5 i6 i7 i8 i9 i10 i11 i12 i13 i14 i15 i16 i17 i18 i19 i20 i21 i22 i23 i24:Nat) {v0 v1 v2 v3 v4 v5 v6 v7 v8 v9 v10 v11 v12 v13 v14 v15 v16 v17 v18 v19 v20 v21 v22 v23 v24:Value} (h:AWP P N C Q [(i0,v0),(i1,v1),(i2,v2),(i3,v3),(i4,v4),(i5,v5),(i6,v6),(i7,v7),(i8,v8),(i9,v9),(i10,v10),(i11,v11),(i12,v12),(i13,v13),(i14,v14),(i15,v15),(i16,v16),(i17,v17),(i18,v18),(i19,v19),(i20,v20),(i21,v21),(i22,v22),(i23,v23),(i24,v24)] S) (hs:Sub [(i0,v0),(i1,v1),(i2,v2),(i3,v3),(i4,v4),(i5,v5),(i6,v6),(i7,v7),(i8,v8),(i9,v9),(i10,v10),(i11,v11),(i12,v12),(i13,v13),(i14,v14),(i15,v15),(i16,v16),(i17,v17),(i18,v18),(i19,v19),(i20,v20),(i21,v21),(i22,v22),(i23,v23),(i24,v24)] E:=by repeat first | refine ⟨rfl,?_⟩ | exact trivial):AWP P N C Q E S:=AWP.sub _ hs h
theorem zux (i0 i1 i2 i3 i4 i5 i6 i7 i8 i9 i10 i11 i12 i13 i14 i15 i16 i17 i18 i19 i20 i21 i22 i23 i24 i25:Nat) {v0 v1 v2 v3 v4 v5 v6 v7 v8 v9 v10 v11 v12 v13 v14 v15 v16 v17 v18 v19 v20 v21 v22 v23 v24 v25:Value} (h:AWP P N C Q [(i0,v0),(i1,v1),(i2,v2),(i3,v3),(i4,v4),(i5,v5),(i6,v6),(i7,v7),(i8,v8),(i9,v9),(i10,v10),(i11,v11),(i12,v12),(i13,v13),(i14,v14),(i15,v15),(i16,v16),(i17,v17),(i18,v18),(i19,v19),(i20,v20),(i21,v21),(i22,v22),(i23,v23),(i24,v24),(i25,v25)] S) (hs:Sub [(i0,v0),(i1,v1),(i2,v2),(i3,v3),(i4,v4),(i5,v5),(i6,v6),(i7,v7),(i8,v8),(i9,v9),(i10,v10),(i11,v11),(i12,v12),(i13,v13),(i14,v14),(i15,v15),(i16,v16),(i17,v17),(i18,v18),(i19,v19),(i20,v20),(i21,v21),(i22,v22),(i23,v23),(i24,v24),(i25,v25)] E:=by repeat first | refine ⟨rfl,?_⟩ | exact trivial):AWP P N C Q E S:=AWP.sub _ hs h
theorem zuy (i0 i1 i2 i3 i4 i5 i6 i7 i8 i9 i10 i11 i12 i13 i14 i15 i16 i17 i18 i19 i20 i21 i22 i23 i24 i25 i26:Nat) {v0 v1 v2 v3 v4 v5 v6 v7 v8 v9 v10 v11 v12 v13 v14 v15 v16 v17 v18 v19 v20 v21 v22 v23 v24 v25 v26:Value} (h:AWP P N C Q [(i0,v0),(i1,v1),(i2,v2),(i3,v3),(i4,v4),(i5,v5),(i6,v6),(i7,v7),(i8,v8),(i9,v9),(i10,v10),(i11,v11),(i12,v12),(i13,v13),(i14,v14),(i15,v15),(i16,v16),(i17,v17),(i18,v18),(i19,v19),(i20,v20),(i21,v21),(i22,v22),(i23,v23),(i24,v24),(i25,v25),(i26,v26)] S) (hs:Sub [(i0,v0),(i1,v1),(i2,v2),(i3,v3),(i4,v4),(i5,v5),(i6,v6),(i7,v7),(i8,v8),(i9,v9),(i10,v10),(i11,v11),(i12,v12),(i13,v13),(i14,v14),(i15,v15),(i16,v16),(i17,v17),(i18,v18),(i19,v19),(i20,v20),(i21,v21),(i22,v22),(i23,v23),(i24,v24),(i25,v25),(i26,v26)] E:=by repeat first | refine ⟨rfl,?_⟩ | exact trivial):AWP P N C Q E S:=AWP.sub _ hs h
theorem zuz (i0 i1 i2 i3 i4 i5 i6 i7 i8 i9 i10 i11 i12 i13 i14 i15 i16 i17 i18 i19 i20 i21 i22 i23 i24 i25 i26 i27:Nat) {v0 v1 v2 v3 v4 v5 v6 v7 v8 v9 v10 v11 v12 v13 v14 v15 v16 v17 v18 v19 v20 v21 v22 v23 v24 v25 v26 v27:Value} (h:AWP P N C Q [(i0,v0),(i1,v1),(i2,v2),(i3,v3),(i4,v4),(i5,v5),(i6,v6),(i7,v7),(i8,v8),(i9,v9),(i10,v10),(i11,v11),(i12,v12),(i13,v13),(i14,v14),(i15,v15),(i16,v16),(i17,v17),(i18,v18),(i19,v19),(i20,v20),(i21,v21),(i22,v22),(i23,v23),(i24,v24),(i25,v25),(i26,v26),(i27,v27)] S) (hs:Sub [(i0,v0),(i1,v1),(i2,v2),(i3,v3),(i4,v4),(i5,v5),(i6,v6),(i7,v7),(i8,v8),(i9,v9),(i10,v10),(i11,v11),(i12,v12),(i13,v13),(i14,v14),(i15,v15),(i16,v16),(i17,v17),(i18,v18),(i19,v19),(i20,v20),(i21,v21),(i22,v22),(i23,v23),(i24,v24),(i25,v25),(i26,v26),(i27,v27)] E:=by repeat first | refine ⟨rfl,?_⟩ | exact trivial):AWP P N C Q E S:=AWP.sub _ hs h
theorem zuA (i0 i1 i2 i3 i4 i5 i6 i7 i8 i9 i10 i11 i12 i13 i14 i15 i16 i17 i18 i19 i20 i21 i22 i23 i24 i25 i26 i27 i28:Nat) {v0 v1 v2 v3 v4 v5 v6 v7 v8 v9 v10 v11 v12 v13 v14 v15 v16 v17 v18 v19 v20 v21 v22 v23 v24 v25 v26 v27 v28:Value} (h:AWP P N C Q [(i0,v0),(i1,v1),(i2,v2),(i3,v3),(i4,v4),(i5,v5),(i6,v6),(i7,v7),(i8,v8),(i9,v9),(i10,v10),(i11,v11),(i12,v12),(i13,v13),(i14,v14),(i15,v15),(i16,v16),(i17,v17),(i18,v18),(i19,v19),(i20,v20),(i21,v21),(i22,v22),(i23,v23),(i24,v24),(i25,v25),(i26,v26),(i27,v27),(i28,v28)] S) (hs:Sub [(i0,v0),(i1,v1),(i2,v2),(i3,v3),(i4,v4),(i5,v5),(i6,v6),(i7,v7),(i8,v8),(i9,v9),(i10,v10),(i11,v11),(i12,v12),(i13,v13),(i14,v14),(i15,v15),(i16,v16),(i17,v17),(i18,v18),(i19,v19),(i20,v20),(i21,v21),(i22,v22),(i23,v23),(i24,v24),(i25,v25),(i26,v26),(i27,v27),(i28,v28)] E:=by repeat first | refine ⟨rfl,?_⟩ | exact trivial):AWP P N C Q E S:=AWP.sub _ hs h
theorem zuB (i0 i1 i2 i3 i4 i5 i6 i7 i8 i9 i10 i11 i12 i13 i14 i15 i16 i17 i18 i19 i20 i21 i22 i23 i24 i25 i26 i27 i28 i29:Nat) {v0 v1 v2 v3 v4 v5 v6 v7 v8 v9 v10 v11 v12 v13 v14 v15 v16 v17 v18 v19 v20 v21 v22 v23 v24 v25 v26 v27 v28 v29:Value} (h:AWP P N C Q [(i0,v0),(i1,v1),(i2,v2),(i3,v3),(i4,v4),(i5,v5),(i6,v6),(i7,v7),(i8,v8),(i9,v9),(i10,v10),(i11,v11),(i12,v12),(i13,v13),(i14,v14),(i15,v15),(i16,v16),(i17,v17),(i18,v18),(i19,v19),(i20,v20),(i21,v21),(i22,v22),(i23,v23),(i24,v24),(i25,v25),(i26,v26),(i27,v27),(i28,v28),(i29,v29)] S) (hs:Sub [(i0,v0),(i1,v1),(i2,v2),(i3,v3),(i4,v4),(i5,v5),(i6,v6),(i7,v7),(i8,v8),(i9,v9),(i10,v10),(i11,v11),(i12,v12),(i13,v13),(i14,v14),(i15,v15),(i16,v16),(i17,v17),(i18,v18),(i19,v19),(i20,v20),(i21,v21),(i22,v22),(i23,v23),(i24,v24),(i25,v25),(i26,v26),(i27,v27),(i28,v28),(i29,v29)] E:=by repeat first | refine ⟨rfl,?_⟩ | exact trivial):AWP P N C Q E S:=AWP.sub _ hs h
structure Wr_ (q:Prop):Prop where
  out:q
theorem r2_ {p q:Prop} (h:q) (f:Wr_ q→p:=by intro h;(iterate 2 refine s1_ ?_);exact h.out):p:=f ⟨h⟩
theorem r3_ {p q:Prop} (h:q) (f:Wr_ q→p:=by intro h;(iterate 3 refine s1_ ?_);exact h.out):p:=f ⟨h⟩
theorem r4_ {p q:Prop} (h:q) (f:Wr_ q→p:=by intro h;(iterate 4 refine s1_ ?_);exact h.out):p:=f ⟨h⟩
theorem r5_ {p q:Prop} (h:q) (f:Wr_ q→p:=by intro h;(iterate 5 refine s1_ ?_);exact h.out):p:=f ⟨h⟩
theorem r6_ {p q:Prop} (h:q) (f:Wr_ q→p:=by intro h;(iterate 6 refine s1_ ?_);exact h.out):p:=f ⟨h⟩
theorem r7_ {p q:Prop} (h:q) (f:Wr_ q→p:=by intro h;(iterate 7 refine s1_ ?_);exact h.out):p:=f ⟨h⟩
theorem r8_ {p q:Prop} (h:q) (f:Wr_ q→p:=by intro h;(iterate 8 refine s1_ ?_);exact h.out):p:=f ⟨h⟩
theorem r9_ {p q:Prop} (h:q) (f:Wr_ q→p:=by intro h;(iterate 9 refine s1_ ?_);exact h.out):p:=f ⟨h⟩
theorem r10_ {p q:Prop} (h:q) (f:Wr_ q→p:=by intro h;(iterate 10 refine s1_ ?_);exact h.out):p:=f ⟨h⟩
theorem r11_ {p q:Prop} (h:q) (f:Wr_ q→p:=by intro h;(iterate 11 refine s1_ ?_);exact h.out):p:=f ⟨h⟩
theorem r12_ {p q:Prop} (h:q) (f:Wr_ q→p:=by intro h;(iterate 12 refine s1_ ?_);exact h.out):p:=f ⟨h⟩
theorem r13_ {p q:Prop} (h:q) (f:Wr_ q→p:=by intro h;(iterate 13 refine s1_ ?_);exact h.out):p:=f ⟨h⟩
theorem r14_ {p q:Prop} (h:q) (f:Wr_ q→p:=by intro h;(iterate 14 refine s1_ ?_);exact h.out):p:=f ⟨h⟩
theorem r15_ {p q:Prop} (h:q) (f:Wr_ q→p:=by intro h;(iterate 15 refine s1_ ?_);exact h.out):p:=f ⟨h⟩
theorem r16_ {p q:Prop} (h:q) (f:Wr_ q→p:=by intro h;(iterate 16 refine s1_ ?_);exact h.out):p:=f ⟨h⟩
theorem r17_ {p q:Prop} (h:q) (f:Wr_ q→p:=by intro h;(iterate 17 refine s1_ ?_);exact h.out):p:=f ⟨h⟩
theorem r18_ {p q:Prop} (h:q) (f:Wr_ q→p:=by intro h;(iterate 18 refine s1_ ?_);exact h.out):p:=f ⟨h⟩
theorem r19_ {p q:Prop} (h:q) (f:Wr_ q→p:=by intro h;(iterate 19 refine s1_ ?_);exact h.out):p:=f ⟨h⟩
theorem r20_ {p q:Prop} (h:q) (f:Wr_ q→p:=by intro h;(iterate 20 refine s1_ ?_);exact h.out):p:=f ⟨h⟩
theorem r21_ {p q:Prop} (h:q) (f:Wr_ q→p:=by intro h;(iterate 21 refine s1_ ?_);exact h.out):p:=f ⟨h⟩
theorem r22_ {p q:Prop} (h:q) (f:Wr_ q→p:=by intro h;(iterate 22 refine s1_ ?_);exact h.out):p:=f ⟨h⟩
theorem r23_ {p q:Prop} (h:q) (f:Wr_ q→p:=by intro h;(iterate 23 refine s1_ ?_);exact h.out):p:=f ⟨h⟩
theorem r24_ {p q:Prop} (h:q) (f:Wr_ q→p:=by intro h;(iterate 24 refine s1_ ?_);exact h.out):p:=f ⟨h⟩
theorem r25_ {p q:Prop} (h:q) (f:Wr_ q→p:=by intro h;(iterate 25 refine s1_ ?_);exact h.out):p:=f ⟨h⟩
theorem r26_ {p q:Prop} (h:q) (f:Wr_ q→p:=by intro h;(iterate 26 refine s1_ ?_);exact h.out):p:=f ⟨h⟩
theorem r27_ {p q:Prop} (h:q) (f:Wr_ q→p:=by intro h;(iterate 27 refine s1_ ?_);exact h.out):p:=f ⟨h⟩
theorem r28_ {p q:Prop} (h:q) (f:Wr_ q→p:=by intro h;(iterate 28 refine s1_ ?_);exact h.out):p:=f ⟨h⟩
theorem r29_ {p q:Prop} (h:q) (f:Wr_ q→p:=by intro h;(iterate 29 refine s1_ ?_);exact h.out):p:=f ⟨h⟩
theorem r30_ {p q:Prop} (h:q) (f:Wr_ q→p:=by intro h;(iterate 30 refine s1_ ?_);exact h.out):p:=f ⟨h⟩
theorem r31_ {p q:Prop} (h:q) (f:Wr_ q→p:=by intro h;(iterate 31 refine s1_ ?_);exact h.out):p:=f ⟨h⟩
theorem r32_ {p q:Prop} (h:q) (f:Wr_ q→p:=by intro h;(iterate 32 refine s1_ ?_);exact h.out):p:=f ⟨h⟩
theorem r33_ {p q:Prop} (h:q) (f:Wr_ q→p:=by intro h;(iterate 33 refine s1_ ?_);exact h.out):p:=f ⟨h⟩
theorem r34_ {p q:Prop} (h:q) (f:Wr_ q→p:=by intro h;(iterate 34 refine s1_ ?_);exact h.out):p:=f ⟨h⟩
theorem r35_ {p q:Prop} (h:q) (f:Wr_ q→p:=by intro h;(iterate 35 refine s1_ ?_);exact h.out):p:=f ⟨h⟩
theorem r36_ {p q:Prop} (h:q) (f:Wr_ q→p:=by intro h;(iterate 36 refine s1_ ?_);exact h.out):p:=f ⟨h⟩
theorem r37_ {p q:Prop} (h:q) (f:Wr_ q→p:=by intro h;(iterate 37 refine s1_ ?_);exact h.out):p:=f ⟨h⟩
theorem r38_ {p q:Prop} (h:q) (f:Wr_ q→p:=by intro h;(iterate 38 refine s1_ ?_);exact h.out):p:=f ⟨h⟩
theorem r39_ {p q:Prop} (h:q) (f:Wr_ q→p:=by intro h;(iterate 39 refine s1_ ?_);exact h.out):p:=f ⟨h⟩
theorem r40_ {p q:Prop} (h:q) (f:Wr_ q→p:=by intro h;(iterate 40 refine s1_ ?_);exact h.out):p:=f ⟨h⟩
theorem r41_ {p q:Prop} (h:q) (f:Wr_ q→p:=by intro h;(iterate 41 refine s1_ ?_);exact h.out):p:=f ⟨h⟩
theorem r42_ {p q:Prop} (h:q) (f:Wr_ q→p:=by intro h;(iterate 42 refine s1_ ?_);exact h.out):p:=f ⟨h⟩
theorem r43_ {p q:Prop} (h:q) (f:Wr_ q→p:=by intro h;(iterate 43 refine s1_ ?_);exact h.out):p:=f ⟨h⟩
theorem r44_ {p q:Prop} (h:q) (f:Wr_ q→p:=by intro h;(iterate 44 refine s1_ ?_);exact h.out):p:=f ⟨h⟩
theorem r45_ {p q:Prop} (h:q) (f:Wr_ q→p:=by intro h;(iterate 45 refine s1_ ?_);exact h.out):p:=f ⟨h⟩
theorem r46_ {p q:Prop} (h:q) (f:Wr_ q→p:=by intro h;(iterate 46 refine s1_ ?_);exact h.out):p:=f ⟨h⟩
theorem r47_ {p q:Prop} (h:q) (f:Wr_ q→p:=by intro h;(iterate 47 refine s1_ ?_);exact h.out):p:=f ⟨h⟩
theorem r48_ {p q:Prop} (h:q) (f:Wr_ q→p:=by intro h;(iterate 48 refine s1_ ?_);exact h.out):p:=f ⟨h⟩
theorem r49_ {p q:Prop} (h:q) (f:Wr_ q→p:=by intro h;(iterate 49 refine s1_ ?_);exact h.out):p:=f ⟨h⟩
theorem r50_ {p q:Prop} (h:q) (f:Wr_ q→p:=by intro h;(iterate 50 refine s1_ ?_);exact h.out):p:=f ⟨h⟩
theorem r51_ {p q:Prop} (h:q) (f:Wr_ q→p:=by intro h;(iterate 51 refine s1_ ?_);exact h.out):p:=f ⟨h⟩
theorem r52_ {p q:Prop} (h:q) (f:Wr_ q→p:=by intro h;(iterate 52 refine s1_ ?_);exact h.out):p:=f ⟨h⟩
theorem r53_ {p q:Prop} (h:q) (f:Wr_ q→p:=by intro h;(iterate 53 refine s1_ ?_);exact h.out):p:=f ⟨h⟩
theorem r54_ {p q:Prop} (h:q) (f:Wr_ q→p:=by intro h;(iterate 54 refine s1_ ?_);exact h.out):p:=f ⟨h⟩
theorem r55_ {p q:Prop} (h:q) (f:Wr_ q→p:=by intro h;(iterate 55 refine s1_ ?_);exact h.out):p:=f ⟨h⟩
theorem r56_ {p q:Prop} (h:q) (f:Wr_ q→p:=by intro h;(iterate 56 refine s1_ ?_);exact h.out):p:=f ⟨h⟩
theorem r57_ {p q:Prop} (h:q) (f:Wr_ q→p:=by intro h;(iterate 57 refine s1_ ?_);exact h.out):p:=f ⟨h⟩
theorem r58_ {p q:Prop} (h:q) (f:Wr_ q→p:=by intro h;(iterate 58 refine s1_ ?_);exact h.out):p:=f ⟨h⟩
theorem r59_ {p q:Prop} (h:q) (f:Wr_ q→p:=by intro h;(iterate 59 refine s1_ ?_);exact h.out):p:=f ⟨h⟩
theorem r60_ {p q:Prop} (h:q) (f:Wr_ q→p:=by intro h;(iterate 60 refine s1_ ?_);exact h.out):p:=f ⟨h⟩
theorem k_k (h:next E S):AWP P N .skip (Athen next Q) E S:=AWP.skip h
theorem k_r (h:Q .ret E S):AWP P N .ret (Athen next Q) E S:=AWP.ret h
end
end Mv
end
end Go.Proofs.YtoaoibeobhcgmaaGreatDoor
