/-
  Texts that belong together: Rf, Rw, DrawS, Rg, DkRd, Disk22, DR7, DR8, DiskLv0, DkP1, CrcMath, CrcWalk, CrcWalk2, CrcWalk3, NumMath, RecMath, CrcPlain, CrcOneWalk, RecMath2, BldLib, Bld, NumBase, VNum1, VNum2, Rec1, Rec2, Rec3, Str, Rec4, CmK, VNum5, Rec5.
-/
import Derived.Test.YtbgjkpkakoggbaaGreatDoorBTu2
import Derived.RangeFuncNested
import Derived.RangeFuncBound
import Derived.RangeFuncCalls
import Derived.RangeFuncLeaves
import Derived.Shelf.RegionOpen
import Derived.WalkKit
import Derived.OwnWalkIn
import Derived.TacticsInMore
import Derived.LoopNIn
import Derived.LoopIn
import Derived.Laws.BitsLemmas
import Derived.Laws.BytesArg
import Derived.Test.YtbgjkpkakoggbaaGreatDoorBase
import Derived.Lib.Strings
import Derived.Lib.AppendStr
import Derived.Lib.UnsafeStr
import Derived.Lib.Builder
import Derived.LaidEqlPtr
import Derived.Shelf.SlSortCmp.Whole1
set_option maxHeartbeats 8000000
set_option maxRecDepth 100000
set_option linter.unusedVariables false
set_option linter.unusedSimpArgs false
set_option linter.unusedSectionVars false
namespace Go.Proofs.YtbgjkpkakoggbaaGreatDoor
open _root_.Go.Proofs.Tryz
section
open Go.RowKit Go.Shelf
namespace Mv
theorem Step.grown {S S':Mem} {w W X:tv} {J:Option Nat} (h:Step S w S' W) (C:W.grownBy X J) (Y:∀ r,J=some r->w.heap.size<=r /\ ∃ o:Obj,W.heap[r]?=some o/\o.isCells=false):Step S w S' X:=by
 have hc:∀ (b:Nat) (cur:Array tu) (e:tx) (fz:Nat × Nat),W.heap[b]?=some (.cells cur e fz)->X.heap[b]?=W.heap[b]?:=λb cur e fz hb =>
  C.block b (Array.getElem?_eq_some_iff.1 hb).1 (λe'=>by obtain ⟨_,o,ho,Z⟩:=Y b e'.symm;rw [hb] at ho;cases ho;cases Z)
 refine ⟨⟨λb r hb=>?_,λa v ha=>?_,λg l V=>?_⟩,C.os.trans h.os,C.tape.trans h.tape,C.output.trans h.output,Nat.le_trans h.size C.size,λk hk Z=>?_,h.dom,h.ro⟩
 ·obtain ⟨cur,fz,I,U⟩:=h.view.own b r hb;exact ⟨cur,fz,(hc b _ _ _ I).trans I,U⟩
 ·obtain ⟨I,U⟩:=h.view.ro a v ha;exact ⟨cell_kept I C (λr e=>(Y r e).2),U⟩
 ·obtain ⟨I,U,h3⟩:=h.view.fz g l V;refine ⟨I,U,?_⟩;obtain ⟨cur,hi,k1,k2⟩:=id h3;exact h3.of_block (hc g _ _ _ k1)
 exact (C.block k (Nat.lt_of_lt_of_le hk h.size) (λe=>by have:=(Y k e.symm).1;omega)).trans (h.block k hk Z)
theorem Step.others {S S':Mem} {w w':tv} (I:View S w) (h:Step S w S' w'):KeepsOthers w w' :=
 ⟨h.size,λk o hk J=>(h.block k (Array.getElem?_eq_some_iff.1 hk).1 (by
  cases e:S.own k with
  | none=>rfl
  | some r=>obtain ⟨cur,fz,C,_⟩:=I.own k r e;rw [hk] at C;cases C;cases J)).trans hk⟩
theorem View.box {S:Mem} {w:tv} (h:View S w) {b:Nat} {T:tx} {v:tu} (hb:S.own b=some ⟨T,[v],1⟩):w.cell? ⟨b,0,none⟩=some v/\w.frozen? ⟨b,0,none⟩=false:=by
 obtain ⟨cur,fz,C,U,I,J⟩:=h.own b _ hb;refine ⟨h.rd (a:=⟨b,0,none⟩) (by unfold Mem.rd;simp [hb]),?_⟩;have:=J 0 (.inl (by have:=I;simp only at this;omega));simp only [World.frozen?,C];simpa using this
theorem uT {S:Mem} {w:tv} (h:View S w) {b:Nat} {T:tx} {v:tu} (hb:S.own b=some ⟨T,[v],1⟩) (u:tu) (C:u.oneCell'=true):Step S w (S.set b ⟨T,[u],1⟩) (w.setCell ⟨b,0,none⟩ u):=by
 have:=(za1 (P:=default) h (vs:=[u]) (o:=0) hb (by simp) (.inl (by simp)) (by simpa using C)).2;simpa [spl,World.setCells] using this
def AWPM (P:tz) (N:Nat) (c:Code) (Q:Mem->tv->Exit->Act->tv->Prop) (E:Env) (S:Mem):Prop :=
  ∀ S0 w0 a w,Step S0 w0 S w->Good N E a->c.wpIn Fence.wide 6 P (Q S0 w0) a w
section
variable {P:tz} {N:Nat} {Q:Mem->tv->Exit->Act->tv->Prop} {E:Env} {S:Mem}
theorem AWPM.seq {x y:Code} (h:AWP P N x (Athen (AWPM P N y Q) λ_ _ _=>False) E S):AWPM P N (.seq x y) Q E S:=λS0 w0 a w hs I=>by
 refine wpIn_seq (wpIn_mono (wpIn_wide.2 (h a w I hs.view)) λe J C ⟨U,V,k,g,s⟩=>?_);cases e with
 | normal=>exact k S0 w0 J C (hs.trans s) g
 | exit id=>exact k.elim
 | goto l=>exact k.elim
 | ret=>exact k.elim
 | panic c=>exact k.elim
 | outgrown=>exact k.elim
theorem vO {x y:Code} (h:AWPM P N x (λS0 w0=>Exit.then (y.wpIn Fence.wide 6 P (Q S0 w0)) (Q S0 w0)) E S):AWPM P N (.seq x y) Q E S:=λS0 w0 a w hs C=>wpIn_seq (h S0 w0 a w hs C)
theorem AWPM.sub (C:Env) (hs:Sub C E) {c:Code} (h:AWPM P N c Q C S):AWPM P N c Q E S:=λS0 w0 a w I J=>h S0 w0 a w I (J.sub hs)
theorem AWPM.less (S':Mem) (hl:S'.Less S) {c:Code} (h:AWPM P N c Q E S'):AWPM P N c Q E S:=λS0 w0 a w C I=>h S0 w0 a w (C.less hl) I
end




theorem kM_ {P:tz} {N:Nat} {c:Code} {Q:Mem->tv->Exit->Act->tv->Prop} {E:Env} {S:Mem} (is:List Nat) {C:Env} (h:AWPM P N c Q C S) (hs:Pk_ E is C:=by repeat first | exact .nil | (apply Pk_.cons;exact rfl)):AWPM P N c Q E S:=AWPM.sub C (pk_ hs) h
theorem um {P:tz} {S:Mem} {f:tA} {fn:Func} {c:Code} {args:List tu} {rs:List ResultVar} {R:tu->Mem->Prop} (n:Nat) (I:Env) (V:P.funcs[f]?=some fn) (hb:fn.body=some c) (Y:fn.ntmps=n) (hl:args.length<=n) (X:fn.results=rs.toArray) (U:SubA I args)
  (h:AWPM P n c (λS0 w0=>bodyPostM Fence.wide 6 P fn (λe w'=>∃ v S',e = .returned v/\R v S'/\Step S0 w0 S' w')) I S):ACall P f args.toArray S R:=λw J=>by
 refine (callsIn_wide (n:=6)).1 (callsIn_of_wp_marks V hb trivial (h S w _ w (Step.refl J) ⟨?_,rfl,λd v hd=>?_⟩) rfl)
 ·simp only [Array.size_append,List.size_toArray,Array.size_replicate];omega
 have:=U.lk hd;have C:d<args.length:=by
  rcases Nat.lt_or_ge d args.length with h | h
  ·exact h
  rw [List.getElem?_eq_none h] at this;cases this
 simp only [Array.getD_eq_getD_getElem?,Array.getElem?_append,List.size_toArray,C,if_true,List.getElem?_toArray,this,Option.getD_some]
theorem zqu (t:Array tu) (n:Nat) (h:t.size=n):t=((List.range n).map λi=>t.getD i undef).toArray:=by
 subst h;apply Array.ext
 ·simp
 intro i C I;simp [C]
theorem zmB {P:tz} {g:tw} {ps:Array Tmp} {assign body:Code} {Q:Exit->Act->tv->Prop} {a:Act} {w w0:tv} {S0:Mem} {gf:Nat} {lb:Array tu} (n:Nat) (U:Nat->Array tu) (I:Nat->Mem->Prop) (a₁ : Nat->Act)
  (hg:a.eval g = .func (.func gf) #[] lb) (eg:∀ args w,(callFunc gf args).run P w = .ok (.enter gf args) w) (aq:∀ k,(U k).size=ps.size)
  (h0:∃ S,I 0 S/\Step S0 w0 S w)
  (au:∀ (l:Nat) (J:Nat->tv->Prop) (W:tv),(∀ k W,J k W -> ∃ S,I k S/\View S W)->(∀ k W,k<n->J k W->YieldAt Fence.wide 4 P l (U k) W λe W'=>e = .returned (.bool true)/\J (k+1) W')->J 0 W ->
   CallsIn Fence.wide 5 P gf (#[.func (.yield l) #[] #[]] ++ lb) W λe W'=>(∃ v,e = .returned v)/\J n W')
  (X:∀ (l k:Nat) (W:tv) (K:Act->tv->Prop),K (a₁ k) W->assign.wpIn (Fence.wide.inRound l) 4 P (Exit.then K (λ_ _ _=>False)) { tmps:=(ps.zip (U k)).foldl (λt (p,v)=>t.setIfInBounds p v) a.tmps,defers:=[] } W)
  (Z:∀ (l k:Nat) (S:Mem) (W:tv),k<n->I k S->View S W->body.wpIn (Fence.wide.inRound l) 4 P (λe _ W'=>e = .normal /\ ∃ S',I (k+1) S'/\Step S W S' W') (a₁ k) W)
  (aa:∀ (D:Nat) (S:Mem) (W:tv),I n S->Step S0 w0 S W->w0.heap.size<=D->W.heap[D]?=some (.deferred (some []))->Q .normal { a with defers:={ target:=.collected D,args:=#[] } :: a.defers } W) :
  (Code.rangeFunc g ps assign body).wpIn Fence.wide 6 P Q a w:=by
 obtain ⟨Sw,av,aj⟩:=h0;have af:=aj.size;refine wpIn_rangeFunc λfn aw=>?_;obtain ⟨V,C⟩ : ∃ V:LoopState->Loop,V=λst=>{ state:=st,pending:=none,fn,tmps:=a.tmps,params:=ps,assign,body,defers:=w.heap.size }:=⟨_,rfl⟩;have put:∀ {S:Mem} {W:tv} {l:Nat} {o:Obj} (o':Obj),Step S0 w0 S W->w.heap.size<=l->W.heap[l]?=some o->o.isCells=false->Step S0 w0 S (W.putObj l o'):=λo' h hl ho hc =>
  h.grown (grownBy_putObj' _ _ o') λr e=>by cases e;exact ⟨Nat.le_trans af hl,_,ho,hc⟩
 obtain ⟨J,hJ⟩ : ∃ J:Nat->tv->Prop,J=λk W=>∃ S,I k S/\Step S0 w0 S W/\W.heap[w.heap.size+1]?=some (.loop (V .ready))/\W.heap[w.heap.size]?=some (.deferred (some [])):=⟨_,rfl⟩;obtain ⟨Wl,am⟩ : ∃ Wl,Wl=(w.alloc (.deferred (some []))).alloc (.loop (V .ready)):=⟨_,rfl⟩;refine ⟨w.heap.size+1,[{ target:=.collected w.heap.size,args:=#[] }],Wl,{ target:=.fn (.func gf) lb,args:=#[.func (.yield (w.heap.size+1)) #[] #[]] },Wl,gf,#[.func (.yield (w.heap.size+1)) #[] #[]] ++ lb,Wl,by rw [am,C];exact run_enterLoop_outer _ _ _ _ _,?_,λ_ _=>trivial,?_,λ_=>by omega,?_⟩
 ·simp only [resolve,hg];simp [go_sem]
 ·simp [invoke,go_sem,eg]
 refine (au (w.heap.size+1) J _ (λk W hk=>by rw [hJ] at hk;obtain ⟨S,h1,h2,_⟩:=hk;exact ⟨S,h1,h2.view⟩) ?_ ?_).mono ?_
 ·intro k W hk hj;rw [hJ] at hj;obtain ⟨S,h1,h2,hl,hd⟩:=hj;have ax:w.heap.size+1<W.heap.size:=(Array.getElem?_eq_some_iff.1 hl).1;have hy:=run_yield (P:=P) (args:=U k) hl (by rw [C];exact aq k);rw [C] at hy;refine ⟨fn,_,assign,body,hy,roundIn_of_wpIn aw (X _ k W _ ⟨_,run_beginRound hl (by rw [C]),?_⟩)⟩;obtain ⟨W1,Y⟩ : ∃ W1,W1=W.putObj (w.heap.size+1) (.loop { V .ready with state:=.busy }):=⟨_,rfl⟩;have l1:W1.heap[w.heap.size+1]?=some (.loop { V .ready with state:=.busy }):=by rw [Y];exact World.putObj_heap_same ax
  have d1:W1.heap[w.heap.size]?=some (.deferred (some [])):=by rw [Y];exact (World.putObj_heap_other vd).trans hd
  have s1:Step S0 w0 S W1:=by rw [Y];exact put _ h2 vd hl rfl
  rw [<- Y];refine wpIn_mono (Z _ k S W1 hk h1 s1.view) λe a3 W3 hp=>?_;obtain ⟨rfl,S3,i3,s3⟩:=hp;have ho:=s3.others s1.view;have l3:=ho.same _ _ l1 rfl;have d3:=ho.same _ _ d1 rfl;have ae:w.heap.size+1<W3.heap.size:=(Array.getElem?_eq_some_iff.1 l3).1;refine ⟨_,_,run_endRound (P:=P) none l3,rfl,?_⟩;rw [hJ];refine ⟨S3,i3,put _ (s1.trans s3) vd l3 rfl,?_,(World.putObj_heap_other vd).trans d3⟩;rw [World.putObj_heap_same ae,C];rfl
 ·rw [hJ,am];refine ⟨Sw,av,(aj.grown (World.grownBy_alloc w _ none) (λr e=>by cases e)).grown (World.grownBy_alloc _ _ none) (λr e=>by cases e),?_,?_⟩
  ·rw [C];have:=World.alloc_heap_new (w.alloc (.deferred (some []))) (.loop { state:=.ready,pending:=none,fn,tmps:=a.tmps,params:=ps,assign,body,defers:=w.heap.size });rwa [World.size_alloc] at this
  exact (Below.heap_alloc _ _ _ (by simp)).trans (World.alloc_heap_new w _)
 rintro e W2 ⟨⟨v,rfl⟩,hj⟩;rw [hJ] at hj;obtain ⟨S,h1,h2,hl,hd⟩:=hj;refine ⟨none,_,by have:=run_endLoop (P:=P) hl (by rw [C];simp);rw [C] at this;exact this,?_⟩;exact aa _ S _ h1 (put _ h2 vd hl rfl) af ((World.putObj_heap_other vd).trans hd)
end Mv
end
section
open Go.RowKit Go.Shelf
namespace Mv
def FW:Option Nat->Fence
  | none=>Fence.wide
  | some l=>Fence.wide.inRound l
theorem FW.fn (ro:Option Nat) (f:tA):(FW ro).fn f:=by cases ro <;> exact trivial
theorem FW.depth (ro:Option Nat):(FW ro).depth=none:=by cases ro <;> rfl
theorem FW.calls {ro:Option Nat} {n:Nat} {P:tz} {f:tA} {args:Array tu} {w:tv} {R:Ending->tv->Prop} (h:Calls P f args w R):CallsIn (FW ro) n P f args w R:=by
 cases ro with
 | none=>exact callsIn_wide.2 h
 | some l=>exact CallsIn.inRound l (callsIn_wide.2 h)
theorem FW.rows {ro:Option Nat} {n:Nat} {P:tz} {C:String} {args:Array tu} {w:tv} {R:tu->tv->Prop} (h:Rows P C args w R):RowsIn (FW ro) n P C args w R:=by
 cases ro with
 | none=>exact λc cs _=>let ⟨v,w',r,s⟩:=h c cs;⟨v,w',r,stepsIn_wide.2 s⟩
 | some l=>exact λc cs _=>let ⟨v,w',r,s⟩:=h c cs;⟨v,w',r,stepsIn_wide.2 s⟩
def dd (ds:List Deferred) (a:Act):Act:={ a with defers:=ds }
theorem zg3 (ds:List Deferred) (a:Act) (d:Option Tmp) (v:tu):(dd ds a).put d v=dd ds (a.put d v):=by cases d <;> rfl
def noDefer (o:Oper):Bool:=match o.op with
  | .defer _=>false
  | _=>true
theorem zmC {o:Oper} (h:noDefer o=true):∀ c,o.op ≠ .defer c:=λc e=>by unfold noDefer at h;rw [e] at h;cases h
def NQ (p:Act->tv->Prop):Exit->Act->tv->Prop:=λe a w=>e = .normal/\p a w
def GQ (ds:List Deferred) (p:Act->tv->Prop):Exit->Act->tv->Prop:=λe a w=>e = .normal /\ ∃ a1,a=dd ds a1/\p a1 w
section
variable {P:tz} {ops:Array Oper} {ro:Option Nat} {n:Nat} {ds:List Deferred} {p:Act->tv->Prop}
theorem zn6 {o:Oper} {a:Act} {w:tv} {K:Act->tv->Prop} {Q:Exit->Act->tv->Prop} (Y:noDefer o=true) (V:∀ a w,K a w->a.defers = []) (h:o.wp P a w K (NQ p)) :
  o.wpIn (FW ro) n P (dd ds a) w (λZ w'=>∃ J,Z=dd ds J/\K J w') Q:=by
 refine ⟨λf _=>FW.fn ro f,?_⟩;rw [Oper.semAt_eq _ _ _ (zmC Y)];unfold Oper.wp at h;show o.uponIn _ _ _ _ _ _ ((execOp a.eval o).run P w);generalize (execOp a.eval o).run P w=r at *;cases r with
 | ok X w' =>
  cases X with
  | value v=>exact ⟨_,zg3 _ _ _ _,h⟩
  | skip=>exact ⟨_,zg3 _ _ _ _,h⟩
  | defer d =>
   have h':K _ w':=h;have U:=V _ _ h';cases hd:o.dst <;> rw [hd] at U <;> cases U
  | enter f args =>
   refine ⟨λe=>(by rw [FW.depth] at e;cases e),(FW.calls h).mono λe I C=>?_⟩
   match e,C with
   | .returned v,C=>exact ⟨_,zg3 _ _ _ _,C⟩
   | .panicked c,C=>exact absurd C.1 (by simp)
   | .outgrown,C=>obtain ⟨J,w1,C,_⟩:=C;cases C
  | row row args =>
   refine ⟨λe=>(by rw [FW.depth] at e;cases e),RowsIn.mono (FW.rows h) λv I C=>?_⟩;exact ⟨_,zg3 _ _ _ _,C⟩
  | _=>exact h.elim
 | halt x w' =>
  cases x <;> first
   | exact h.elim
   | exact absurd h.1 (by simp)
theorem zg4 : ¬ LetsOut (NQ p):=λ⟨a,w,h,_⟩=>by cases h
theorem zci {a:Act} {d:Option Tmp} {v:tu}:(a.put d v).defers=a.defers:=by cases d <;> rfl
theorem zn7 {o:Oper} {a:Act} {w:tv} {K:Act->tv->Prop} (I:∀ a w,K a w->a.defers = []) (h:o.wp P a w K (NQ p)):a.defers = []:=by
 unfold Oper.wp at h;generalize (execOp a.eval o).run P w=r at *;cases r with
 | ok V w' =>
  cases V with
  | value v=>have:=I _ _ h;rw [zci] at this;exact this
  | skip=>have:=I _ _ h;rw [zci] at this;exact this
  | defer d =>
   have h':K _ w':=h;have U:=I _ _ h';rw [zci] at U;cases U
  | enter f args =>
   obtain ⟨e,J,fr,C,_⟩:=h []
   match e,C with
   | .returned v,C=>have:=I _ _ C;rw [zci] at this;exact this
   | .panicked c,C=>exact absurd C.1 (by simp)
   | .outgrown,C=>obtain ⟨Y,X,C,_⟩:=C;cases C
  | row row args =>
   obtain ⟨v,J,C,_⟩:=h default [];have:=I _ _ C;rw [zci] at this;exact this
  | _=>exact h.elim
 | halt x w' =>
  cases x <;> first
   | exact h.elim
   | exact absurd h.1 (by simp)
theorem zg5 (U:∀ a w,p a w->a.defers = []):∀ (fuel:Nat) (C:Array Bool) (a:Act) (w:tv),wpAny P .any ops (NQ p) fuel C a w->a.defers = []
 | 0,_,a,w,h=>U a w h.2.2
 | fuel+1,C,a,w,h=>by
  cases V:Region.ready .any ops C with
  | nil=>exact U a w (h.1 V).2
  | cons i is =>
   have I:=h.2 i (by rw [V];exact List.mem_cons_self ..);have J:=λa w=>zg5 U fuel (C.setIfInBounds i true) a w;unfold wpOp at I;split at I
   ·exact J _ _ I
   split at I
   ·rcases I with I | ⟨_,I⟩
    ·exact zn7 J I
    exact absurd I zg4
   have:=J _ _ I;rw [zci] at this;exact this
theorem zlb (X:∀ a w,p a w->a.defers = []) (hd:∀ (i:Nat) (o:Oper),ops[i]?=some o->noDefer o=true):∀ (fuel:Nat) (C:Array Bool) (a:Act) (w:tv),wpAny P .any ops (NQ p) fuel C a w->wpAnyIn (FW ro) n P .any ops (GQ ds p) fuel C (dd ds a) w
 | 0,_,a,w,h=>⟨h.1,rfl,a,rfl,h.2.2⟩
 | fuel+1,C,a,w,h=>by
  refine ⟨λY=>⟨rfl,a,rfl,(h.1 Y).2⟩,λi hi=>?_⟩;have I:=h.2 i hi;have J:=λa w=>zlb X hd fuel (C.setIfInBounds i true) a w;unfold wpOp at I;unfold wpOpIn;split at I
  ·rename_i Z;rw [Z];exact J _ _ I
  rename_i o V;rw [V];dsimp only;split at I
  ·rename_i U;rw [if_pos (show Region.wanted o (yielded ops (dd ds a).tmps)=true from U)];rcases I with I | ⟨_,I⟩
   ·exact Oper.wpIn_mono (λa' w' ⟨a1,e,hk⟩=>by subst e;exact J _ _ hk) (zn6 (hd i o V) (λa w=>zg5 X fuel _ a w) I)
   exact absurd I zg4
  rename_i U;rw [if_neg (show ¬ Region.wanted o (yielded ops (dd ds a).tmps)=true from U)];exact ⟨λf _=>FW.fn ro f,by rw [zg3];exact J _ _ I⟩
end
/-! ### Code, in a round or behind one -/
section
variable {P:tz} {N:Nat} {ro:Option Nat} {n:Nat} {ds:List Deferred}
theorem ARun.lift {l:List Oper} {ops:Array Oper}:∀ {K:Env->Mem->Prop} {E:Env} {S:Mem},ARun P N ops l K E S->(∀ o ∈ l,noDefer o=true) -> ∀ {Q:Exit->Act->tv->Prop} (a:Act) (w:tv),Good N E a->View S w ->
  (∀ I w',Post N K S w I w'->Q .normal (dd ds I) w')->wpListIn (FW ro) n P ops Q l (dd ds a) w:=by
 induction l with
 | nil=>exact λ{K E S} h _ Q a w Y Z X=>X a w ⟨E,S,h,Y,Step.refl Z⟩
 | cons o os ih =>
  intro K E S h hd Q a w Y Z X;have J:=h a w Y Z;have next:∀ C U,Post N (λE' S'=>ARun P N ops os K E' S') S w C U->wpListIn (FW ro) n P ops Q os (dd ds C) U:=λC U ⟨E1,S1,r,g1,s1⟩ =>
   ih r (λo ho=>hd o (List.mem_cons_of_mem _ ho)) C U g1 s1.view λI w' ⟨E2,S2,k,g2,s2⟩=>X I w' ⟨E2,S2,k,g2,s1.trans s2⟩
  unfold wpListIn;split
  ·rename_i V;rw [if_pos (show Region.wanted o (yielded ops a.tmps)=true from V)] at J;have h2:o.wp P a w (Post N (λE' S'=>ARun P N ops os K E' S') S w) (NQ λ_ _=>False):=zep J;exact Oper.wpIn_mono (λI w' ⟨C,e,hk⟩=>by subst e;exact next _ _ hk) (zn6 (hd o (List.mem_cons_self ..)) (λa w ⟨_,_,_,g,_⟩=>g.defers) h2)
  rename_i V;rw [if_neg (show ¬ Region.wanted o (yielded ops a.tmps)=true from V)] at J;exact ⟨λf _=>FW.fn ro f,by rw [zg3];exact next _ _ J⟩
def GWP (ro:Option Nat) (n:Nat) (ds:List Deferred) (P:tz) (N:Nat) (c:Code) (Q:Exit->Env->Mem->Prop) (E:Env) (S:Mem):Prop :=
  ∀ a w,Good N E a->View S w->c.wpIn (FW ro) n P (λe a' w'=>∃ a1,a'=dd ds a1/\Post N (Q e) S w a1 w') (dd ds a) w
variable {Q:Exit->Env->Mem->Prop} {E:Env} {S:Mem}
theorem GWP.mono {c:Code} {C:Exit->Env->Mem->Prop} (h:GWP ro n ds P N c Q E S) (V:∀ e E S,Q e E S->C e E S):GWP ro n ds P N c C E S:=λa w J I =>
 wpIn_mono (h a w J I) λe _ _ ⟨U,e1,x⟩=>⟨U,e1,x.mono (V e)⟩
theorem GWP.sub {c:Code} (C:Env) (hs:Sub C E) (h:GWP ro n ds P N c Q C S):GWP ro n ds P N c Q E S:=λa w J I=>h a w (J.sub hs) I
theorem kG_ {c:Code} (is:List Nat) {C:Env} (h:GWP ro n ds P N c Q C S) (hs:Pk_ E is C:=by repeat first | exact .nil | (apply Pk_.cons;exact rfl)):GWP ro n ds P N c Q E S:=GWP.sub C (pk_ hs) h
theorem GWP.less {c:Code} (S':Mem) (hs:S'.Less S) (h:GWP ro n ds P N c Q E S'):GWP ro n ds P N c Q E S:=λa w I C =>
 wpIn_mono (h a w I (C.less hs)) λ_ _ _ ⟨J,e1,U,V,k,g,s⟩=>⟨J,e1,U,V,k,g,s.lessL hs⟩
theorem GWP.seq {x y:Code} (h:GWP ro n ds P N x (Athen (GWP ro n ds P N y Q) Q) E S):GWP ro n ds P N (.seq x y) Q E S:=λa w Z X=>by
 refine wpIn_seq (wpIn_mono (h a w Z X) λe a' Y ⟨C,e1,I,J,k,g,s⟩=>?_);subst e1;cases e with
 | normal=>exact wpIn_mono (k C Y g s.view) λe a2 w2 ⟨V,e3,E2,S2,k2,U,s2⟩=>⟨V,e3,E2,S2,k2,U,s.trans s2⟩
 | exit id=>exact ⟨C,rfl,I,J,k,g,s⟩
 | goto l=>exact ⟨C,rfl,I,J,k,g,s⟩
 | ret=>exact ⟨C,rfl,I,J,k,g,s⟩
 | panic c=>exact ⟨C,rfl,I,J,k,g,s⟩
 | outgrown=>exact ⟨C,rfl,I,J,k,g,s⟩
theorem GWP.skip (h:Q .normal E S):GWP ro n ds P N .skip Q E S:=λa w I C=>wpIn_skip ⟨a,rfl,E,S,h,I,Step.refl C⟩
theorem GWP.ret (h:Q .ret E S):GWP ro n ds P N .ret Q E S:=λa w I C=>wpIn_ret ⟨a,rfl,E,S,h,I,Step.refl C⟩
theorem GWP.exit {id:Nat} (h:Q (.exit id) E S):GWP ro n ds P N (.exit id) Q E S:=λa w I C=>wpIn_exit ⟨a,rfl,E,S,h,I,Step.refl C⟩
theorem GWP.cond {c:tw} {x y:Code} (t:Bool) (hc:ev E c=some (.bool t)) (h:GWP ro n ds P N (if t then x else y) Q E S):GWP ro n ds P N (.cond c x y) Q E S:=λa w C I =>
 wpIn_cond (show (dd ds a).eval c = .bool t from C.ev hc) (h a w C I)
theorem GWP.condT {c:tw} {x y:Code} {t:Bool} (hc:ev E c=some (.bool t)) (C:t=true) (h:GWP ro n ds P N x Q E S):GWP ro n ds P N (.cond c x y) Q E S:=GWP.cond t hc (by rw [C];exact h)
theorem GWP.condF {c:tw} {x y:Code} {t:Bool} (hc:ev E c=some (.bool t)) (C:t=false) (h:GWP ro n ds P N y Q E S):GWP ro n ds P N (.cond c x y) Q E S:=GWP.cond t hc (by rw [C];exact h)
theorem GWP.block {id:Nat} {c:Code} (h:GWP ro n ds P N c (AinBlock id Q) E S):GWP ro n ds P N (.block id c) Q E S:=λa w V U =>
 wpIn_block (wpIn_mono (h a w V U) λe Z Y x=>by
  cases e with
  | exit X =>
   simp only [Exit.inBlock];obtain ⟨C,e1,I,J,k,g,s⟩:=x;simp only [AinBlock] at k;split
   ·rename_i e;rw [if_pos e] at k;exact ⟨C,e1,I,J,k,g,s⟩
   rename_i e;rw [if_neg e] at k;exact ⟨C,e1,I,J,k,g,s⟩
  | normal=>exact x
  | goto l=>exact x
  | ret=>exact x
  | panic c=>exact x
  | outgrown=>exact x)
theorem GWP.region {id:Nat} {l:List Oper} (h:ARun P N l.toArray l (Q .normal) E S) (hd:l.all noDefer=true:=by kernel_rfl):GWP ro n ds P N (.region id l.toArray false) Q E S:=λa w J I =>
 wpIn_region_lit (h.lift (λo U=>List.all_eq_true.1 hd o U) a w J I λC w' x=>⟨C,rfl,x⟩)
theorem zwH {K:Env->Mem->Prop} {w0:tv} {S0:Mem}:Q0 N K S0 w0=NQ (Post N K S0 w0):=by
 funext e a w;cases e <;> simp [Q0,NQ]
theorem zg6 {id:Nat} {l:List Oper} {K:Env->Mem->Prop} {a:Act} {w:tv} (hm:P.follows .mixedOrders=true) (hd:l.all noDefer=true)
  (h:wpAny P .any l.toArray (Q0 N K S w) l.toArray.size (Array.replicate l.toArray.size false) a { w with drawn:=w.drawn+1 }):(Code.region id l.toArray true).wpIn (FW ro) n P (GQ ds (Post N K S w)) (dd ds a) w:=by
 rw [zwH] at h;exact wpIn_region_any hm (zlb (λa w ⟨_,_,_,g,_⟩=>g.defers) (λi o C=>List.all_eq_true.1 hd o (by
  have:=Array.mem_of_getElem? C;simpa using this)) _ _ _ _ h)
theorem GWP.draw {id:Nat} {l:List Oper} (st:List (Nat × Bool)) (W:List Nat) (hm:P.follows .mixedOrders=true) (J:drawOK l st W=true)
  (h:DrawRun P N l W S st (Q .normal) E S) (hd:l.all noDefer=true:=by kernel_rfl):GWP ro n ds P N (.region id l.toArray true) Q E S:=λa w g Y=>by
 simp only [drawOK,Bool.and_eq_true,beq_iff_eq] at J;obtain ⟨⟨h1,V⟩,X⟩:=J;refine wpIn_mono (zg6 hm hd ?_) (λe a' w' x=>by obtain ⟨rfl,Z,e1,hx⟩:=x;exact ⟨Z,e1,hx⟩);refine zcg (W:=λi=>W.contains i) (C:=View S) _ _ _ _ ?_;have U:l.toArray.size=st.length:=by simp [V]
 rw [U];have I:Step S w S { w with drawn:=w.drawn+1 }:=Step.drawn Y _;exact zse h1 st _ E S a _ (by rw [V];exact X) (zb5 _ _) h g I.view I
theorem zmD {F:Fence} {n:Nat} {P:tz} {c:Code} {Q:Exit->Act->tv->Prop} {X:Type} (I:X->Act->tv->Prop) (μ : X->Nat) (x0:X) {a:Act} {w:tv} (h0:I x0 a w)
  (U:∀ x a w,I x a w->c.wpIn F n P (Exit.then (λa' w'=>∃ x',I x' a' w' /\ μ x' < μ x) Q) a w):(Code.loop c).wpIn F n P Q a w:=by
 intro b k cs af hb hr;have key:∀ j x a w,μ x=j->I x a w -> ∃ e a' w',Q e a' w'/\ArrivesIn (Machine.fenced P F) P (lone (b.atR a (.code c :: .inLoop c :: k)) cs w) b k cs e a' w':=by
  intro j
  induction j using Nat.strongRecOn with
  | _ j ih =>
   intro x a w hn hI;obtain ⟨e,Z,Y,J,C⟩:=U x a w hI b (.inLoop c :: k) cs af hb hr;cases e with
   | normal =>
    obtain ⟨x',ac,ag⟩:=J;obtain ⟨e2,a2,w2,ae,V⟩:=ih (μ x') (hn ▸ ag) x' Z Y rfl ac;exact ⟨e2,a2,w2,ae,.of_steps (StepsIn.trans C (.one (fenced_calm hb hr rfl) stepR_inLoop)) V⟩
   | exit id=>exact ⟨_,Z,Y,J,.pass (x:=.inLoop c) rfl (λ_ _=>.inl (by simp)) C⟩
   | goto l=>exact ⟨_,Z,Y,J,.pass (x:=.inLoop c) rfl (λ_ _=>.inl (by simp)) C⟩
   | ret=>exact ⟨_,Z,Y,J,.pass (x:=.inLoop c) rfl (λ_ _=>.inl (by simp)) C⟩
   | panic ch=>exact ⟨_,Z,Y,J,.pass (x:=.inLoop c) rfl (λ_ _=>.inl (by simp)) C⟩
   | outgrown=>exact ⟨_,Z,Y,J,.pass (x:=.inLoop c) rfl (λ_ _=>.inl (by simp)) C⟩
 obtain ⟨e,a',w',J,C⟩:=key _ x0 a w rfl h0;exact ⟨e,a',w',J,.of_steps (.one (fenced_calm hb hr rfl) stepR_loop) C⟩
theorem GWP.loop {X:Type} {c:Code} (st:X->Env) (m:X->Mem) (ok:X->Prop) (μ : X->Nat) (Z:X) (hE:Sub (st Z) E) (hm:(m Z).Less S) (h0:ok Z)
  (C:∀ x,ok x->GWP ro n ds P N c (Athen (λE' S'=>∃ x',Sub (st x') E'/\(m x').Less S'/\ok x' /\ μ x' < μ x) Q) (st x) (m x)):GWP ro n ds P N (.loop c) Q E S:=λa w hg hv=>by
 refine zmD (λx a' w'=>∃ Y,a'=dd ds Y/\Good N (st x) Y/\Step S w (m x) w'/\ok x) μ Z ⟨a,rfl,hg.sub hE,(Step.refl hv).less hm,h0⟩ λx a' w1 ⟨Y,e1,h1,I,h3⟩=>?_;subst e1;refine wpIn_mono (C x h3 Y w1 h1 I.view) λe am w2 ⟨J,e2,U,V,k,g,s⟩=>?_;subst e2;cases e with
 | normal=>obtain ⟨x',hs,aa,ho,hl⟩:=k;exact ⟨x',⟨J,rfl,g.sub hs,(I.trans s).less aa,ho⟩,hl⟩
 | exit id=>exact ⟨J,rfl,U,V,k,g,I.trans s⟩
 | goto l=>exact ⟨J,rfl,U,V,k,g,I.trans s⟩
 | ret=>exact ⟨J,rfl,U,V,k,g,I.trans s⟩
 | panic c=>exact ⟨J,rfl,U,V,k,g,I.trans s⟩
 | outgrown=>exact ⟨J,rfl,U,V,k,g,I.trans s⟩
theorem GWP.join {X:Type} {c:Code} (st:X->Env) (m:X->Mem) (ok:X->Prop) (h:GWP ro n ds P N c (JoinQ Q st m ok) E S) (k:∀ x,ok x -> ∀ I S',Sub (st x) I->(m x).Less S'->Q .normal I S'):GWP ro n ds P N c Q E S :=
 h.mono λe I S' C=>match e,C with
  | .normal,⟨x,h1,h2,h3⟩=>k x h1 I S' h2 h3
  | .ret,C=>C
  | .exit _,C=>C
  | .goto _,C=>C
  | .outgrown,C=>C
  | .panic _,C=>C
theorem leaveM {fn:Func} {rs:List ResultVar} {R:tu->Mem->Prop} {S0:Mem} {w0:tv} {D:Nat} {a:Act} {w:tv} (Y:fn.results=rs.toArray) (hs:Step S0 w0 S w) (V:w0.heap.size<=D) (C:w.heap[D]?=some (.deferred (some []))) (J:Good N E a) (hk:∃ vs S',ResV P rs E S vs/\S'.Less S/\R (one vs) S') :
  LeavesInM Fence.wide n P fn (dd [{ target:=.collected D,args:=#[] }] a).tmps (λe w'=>∃ v S',e = .returned v/\R v S'/\Step S0 w0 S' w') [{ target:=.collected D,args:=#[] }] .returning w:=by
 obtain ⟨vs,U,X,Z,I⟩:=hk;refine ⟨by simp,.inl ⟨D,_,rfl,run_takeDeferred C,?_⟩⟩;have put:∀ {S'},Step S0 w0 S' w->Step S0 w0 S' _:=λh=>h.grown (grownBy_putObj' _ D (.deferred none)) (λr e=>by cases e;exact ⟨V,_,C,rfl⟩);exact ⟨one vs,zc1 (a:=a) Y J (put hs).view X,one vs,U,rfl,I,put (hs.less Z)⟩
theorem uJ {fn:Func} {rs:List ResultVar} {R:tu->Mem->Prop} {S0:Mem} {w0:tv} {c:Code} {D:Nat} {a:Act} {w:tv} (V:fn.results=rs.toArray) (hs:Step S0 w0 S w) (U:w0.heap.size<=D) (J:w.heap[D]?=some (.deferred (some []))) (I:Good N E a)
  (h:GWP none n [{ target:=.collected D,args:=#[] }] P N c (Aret P rs R) E S) :
  c.wpIn Fence.wide n P (bodyPostM Fence.wide n P fn (λe w'=>∃ v S',e = .returned v/\R v S'/\Step S0 w0 S' w')) { a with defers:={ target:=.collected D,args:=#[] } :: [] } w:=by
 refine wpIn_mono (h a w I hs.view) λe Z w' ⟨X,e1,Y,S',k,g,s⟩=>?_;subst e1;have C:=leaveM (P:=P) (n:=n) (rs:=rs) (R:=R) V (hs.trans s) U ((s.others hs.view).same _ _ J rfl) g;cases e with
 | normal=>exact C k
 | ret=>exact C k
 | exit id=>exact k.elim
 | goto l=>exact k.elim
 | panic c=>exact k.elim
 | outgrown=>exact k.elim
def QM (P:tz) (fn:Func) (R:tu->Mem->Prop) (S0:Mem) (w0:tv):Exit->Act->tv->Prop:=bodyPostM Fence.wide 6 P fn (λe w'=>∃ v S',e = .returned v/\R v S'/\Step S0 w0 S' w')
theorem QM.ret {fn:Func} {rs:List ResultVar} {R:tu->Mem->Prop} {S0:Mem} {w0:tv} {a:Act} {w:tv} (V:fn.results=rs.toArray) (hs:Step S0 w0 S w) (C:Good N E a) (h:∃ vs S',ResV P rs E S vs/\S'.Less S/\R (one vs) S'):LeavesInM Fence.wide 6 P fn a.tmps (λe w'=>∃ v S',e = .returned v/\R v S'/\Step S0 w0 S' w') a.defers .returning w:=by
 obtain ⟨vs,J,U,X,I⟩:=h;rw [C.defers];exact ⟨one vs,zc1 V C hs.view U,one vs,J,rfl,I,hs.less X⟩
theorem vj {fn:Func} {rs:List ResultVar} {R:tu->Mem->Prop} {x y:Code} (U:fn.results=rs.toArray) (h:AWP P N x (Athen (AWPM P N y (QM P fn R)) (Aret P rs R)) E S):AWPM P N (.seq x y) (QM P fn R) E S:=λS0 w0 a w hs I=>by
 refine wpIn_seq (wpIn_mono (wpIn_wide.2 (h a w I hs.view)) λe J C ⟨V,X,k,g,s⟩=>?_);cases e with
 | normal=>exact k S0 w0 J C (hs.trans s) g
 | exit id=>exact k.elim
 | goto l=>exact k.elim
 | ret=>exact QM.ret U (hs.trans s) g k
 | panic c=>exact k.elim
 | outgrown=>exact k.elim
theorem vI {S:Mem} {f:tA} {fn:Func} {c:Code} {args:List tu} {rs:List ResultVar} {R:tu->Mem->Prop} (n:Nat) (C:Env) (U:P.funcs[f]?=some fn) (hb:fn.body=some c) (V:fn.ntmps=n) (hl:args.length<=n) (J:fn.results=rs.toArray) (I:SubA C args)
  (h:AWPM P n c (QM P fn R) C S):ACall P f args.toArray S R:=um (rs:=rs) n C U hb V hl J I h
end
end Mv
end
section
open Go.RowKit
namespace Mv
section
variable {P:tz} {N:Nat}
theorem zn8 {l:List Oper} {W:List Nat} {S0 SB:Mem} {w0:tv} {K:Env->Mem->Prop} (ak:Region.noSelect l.toArray=true):∀ (st:List (Nat × Bool)) (C:Array Bool) (E:Env) (S:Mem) (a:Act) (w:tv),
  stepsOK l W st C=true->Closed l.toArray C->DrawRun P N l W S0 st K E S->Good N E a->View S w->Step SB w0 S w->wpAnyG P l.toArray (Q0 N K SB w0) (λi=>W.contains i) (View S0) st.length C a w:=by
 intro st
 induction st with
 | nil =>
  intro C E S a w Y V h g hv hs;exact ⟨by simpa [stepsOK] using Y,E,S,h,g,hs⟩
 | cons p is ih =>
  obtain ⟨i,b⟩:=p;intro C E S a w Y V h g hv hs;cases b with
  | false =>
   simp only [stepsOK,Bool.and_eq_true,beq_iff_eq,Bool.false_eq_true,if_false] at Y;obtain ⟨aj,aB⟩:=Y;refine ⟨λh0=>(by rw [aj] at h0;cases h0),λj hj=>?_⟩;have aF:=hj;rw [aj] at hj;obtain rfl:j=i:=(by simpa using hj);obtain ⟨o,ho,aD⟩:=h;have h1:=aD a w g hv;unfold wpOp;have X:l.toArray[j]?=some o:=(by simpa using ho);simp only [X];have next:∀ a1 w1,Post N (λE' S'=>(W.contains j=false->S0.Less S')/\DrawRun P N l W S0 is K E' S') S w a1 w1->(W.contains j=false->View S0 w->View S0 w1)/\wpAnyG P l.toArray (Q0 N K SB w0) (λi=>W.contains i) (View S0) is.length (C.setIfInBounds j true) a1 w1:=λa1 w1 ⟨E1,S1,⟨k1,k2⟩,g1,s1⟩ =>
    ⟨λU _=>s1.view.less (k1 U),ih _ E1 S1 a1 w1 aB (zbU V aF) k2 g1 s1.view (hs.trans s1)⟩
   split
   ·rename_i U;rw [if_pos U] at h1;exact .inl (zep (Oper.wp_mono next h1))
   rename_i U;rw [if_neg U] at h1;exact next _ _ h1
  | true =>
   simp only [stepsOK,Bool.and_eq_true,if_true] at Y;obtain ⟨al,az⟩:=Y;obtain ⟨o,d,v,ho,hd,hn,ac,J,ae⟩:=h;simp only [mayFirst,Bool.and_eq_true,Bool.or_eq_true] at al;obtain ⟨⟨Y,hf⟩,hp⟩:=al;have X:l.toArray[i]?=some o:=(by simpa using ho);have ah:i ∈ Region.ready .any l.toArray C:=(by simpa using Y);let D:tv->Prop:=λw'=>if pureOp o=true then True else View S0 w'
   have aq:D w:=by
    simp only [D];split
    ·trivial
    rename_i hx;exact hv.less (ac.resolve_left hx)
   have Z:∀ w',D w'->View (if pureOp o then noMem else S0) w':=λw' h=>by
    simp only [D] at h;split
    ·exact zeW _
    rename_i hx;rw [if_neg hx] at h;exact h
   refine zdk (D:=D) (v:=v) X (Region.noSelect_spec ak) (λc a w h=>h) ?_ is.length C a w V (Region.free_spec X hf) ah ?_ aq ?_
   ·intro j w1 w2 I am an hj aa ad;simp only [D] at aa ⊢;split
    ·trivial
    rename_i hx;rw [if_neg hx] at aa;refine ad ?_ aa;rcases hp with hp | hp
    ·rw [ho] at hp;exact absurd (by simpa using hp) hx
    cases ay:W.contains j with
    | false=>rfl
    | true =>
     have h1:=List.all_eq_true.1 hp j (by simpa using ay);obtain ⟨aM,oj,aE,ai⟩:=mem_ready.1 hj;have h2:=zc2 h1 I am λo2 aC e he hb=>by
      obtain rfl:oj=o2:=Option.some.inj (aE.symm.trans aC);exact ai e he hb
     rcases Nat.lt_or_ge i I.size with aH | hge
     ·simp [aH] at an h2;rw [an] at h2;cases h2
     simp [Array.getElem?_eq_none hge] at h2
   ·by_cases U:Region.wanted o (yielded l.toArray a.tmps)=true
    ·refine .inl ⟨U,λw' aG=>?_⟩;rcases J a w' g (Z w' aG) with h1 | h1
     ·exact h1.2
     rw [U] at h1;cases h1.1
    rcases J a w g (Z w aq) with h1 | h1
    ·exact absurd h1.1 U
    exact .inr h1
   rw [hd];exact ih (C.setIfInBounds i true) _ S _ w az (zbU V ah) ae (g.put hn v) hv hs
theorem AWP.drawS {id:Nat} {l:List Oper} {Q:Exit->Env->Mem->Prop} {E:Env} {S:Mem} (S0:Mem) (hl:S0.Less S) (st:List (Nat × Bool)) (W:List Nat) (hm:P.follows .mixedOrders=true) (J:drawOK l st W=true)
  (h:DrawRun P N l W S0 st (Q .normal) E S):AWP P N (.region id l.toArray true) Q E S:=λa w g Y=>by
 simp only [drawOK,Bool.and_eq_true,beq_iff_eq] at J;obtain ⟨⟨Z,V⟩,X⟩:=J;refine wp_mono (Q:=Q0 N (Q .normal) S w) ?_ (λe a' w' x=>by cases e <;> first | exact x | exact x.elim);refine wp_region_any hm ?_;refine zcg (W:=λi=>W.contains i) (C:=View S0) _ _ _ _ ?_;have U:l.toArray.size=st.length:=by simp [V]
 rw [U];have I:Step S w S { w with drawn:=w.drawn+1 }:=Step.drawn Y _;exact zn8 Z st _ E S a _ (by rw [V];exact X) (zb5 _ _) h g I.view I
end
end Mv
end
section
open Go.RowKit Go.Shelf
namespace Mv
theorem GWP.drawS {P:tz} {N:Nat} {ro:Option Nat} {n:Nat} {ds:List Deferred} {Q:Exit->Env->Mem->Prop} {E:Env} {S:Mem} {id:Nat} {l:List Oper} (S0:Mem) (hl:S0.Less S) (st:List (Nat × Bool)) (W:List Nat) (hm:P.follows .mixedOrders=true) (J:drawOK l st W=true)
  (h:DrawRun P N l W S0 st (Q .normal) E S) (hd:l.all noDefer=true:=by kernel_rfl):GWP ro n ds P N (.region id l.toArray true) Q E S:=λa w g Y=>by
 simp only [drawOK,Bool.and_eq_true,beq_iff_eq] at J;obtain ⟨⟨h1,V⟩,X⟩:=J;refine wpIn_mono (zg6 hm hd ?_) (λe a' w' x=>by obtain ⟨rfl,Z,e1,hx⟩:=x;exact ⟨Z,e1,hx⟩);refine zcg (W:=λi=>W.contains i) (C:=View S0) _ _ _ _ ?_;have U:l.toArray.size=st.length:=by simp [V]
 rw [U];have I:Step S w S { w with drawn:=w.drawn+1 }:=Step.drawn Y _;exact zn8 h1 st _ E S a _ (by rw [V];exact X) (zb5 _ _) h g I.view I
def zE:List Tmp->List tu->Env->Env
  | p :: ps,v :: vs,E=>zE ps vs ((p,v) :: E)
  | _,_,E=>E
theorem zn9 {N:Nat}:∀ (ps:List Tmp) (vs:List tu) {E:Env} {a:Act},Good N E a->(∀ p ∈ ps,p<N)->Good N (zE ps vs E) { tmps:=(ps.zip vs).foldl (λt (p,v)=>t.setIfInBounds p v) a.tmps,defers:=[] }
 | [],_,_,_,h,_=>⟨h.size,rfl,h.at_⟩
 | _ :: _,[],_,_,h,_=>⟨h.size,rfl,h.at_⟩
 | p :: ps,v :: vs,_,_,h,hp=>zn9 ps vs (h.put (hp p (List.mem_cons_self ..)) v) λq C=>hp q (List.mem_cons_of_mem _ C)
theorem zj8 {P:tz} {N:Nat} {g:tw} {ps:List Tmp} {assign body:Code} {Q:Exit->Act->tv->Prop} {a:Act} {w w0:tv} {S0 S1:Mem} {gf:Nat} {lb:Array tu} (Z Zx:Mem->Prop) (E0:Env)
  (hG:Good N E0 a) (au:ev E0 g=some (.func (.func gf) #[] lb)) (eg:goFn P gf=true) (aw:ps.all (λp=>decide (p<N))=true) (aj:Step S0 w0 S1 w)
  (ax:∀ (l:Nat) (J Jx:Mem->tv->Prop) (W:tv),(∀ {S W},J S W->View S W)->(∀ {S S' W V},J S W->Step S W S' V->J S' V) ->
   (∀ (vs:List tu) (T Tx:Mem->Prop) {S W},J S W->vs.length=ps.length->GWP (some l) 4 [] P N assign (Athen (GWP (some l) 4 [] P N body (λe _ S'=>(e = .normal/\T S')\/(e = .ret/\Tx S'))) (λ_ _ _=>False)) (zE ps vs E0) S ->
    YieldAt Fence.wide 4 P l vs.toArray W λe V=>(e = .returned (.bool true) /\ ∃ S',T S'/\J S' V)\/(e = .returned (.bool false) /\ ∃ S',Tx S'/\Jx S' V))->J S1 W ->
   CallsIn Fence.wide 5 P gf (#[.func (.yield l) #[] #[]] ++ lb) W λe V=>(∃ v,e = .returned v)/\((∃ S,Z S/\J S V) \/ ∃ S,Zx S/\Jx S V))
  (af:∀ (D:Nat) (S:Mem) (W:tv),Z S->Step S0 w0 S W->w0.heap.size<=D->W.heap[D]?=some (.deferred (some []))->Q .normal { a with defers:={ target:=.collected D,args:=#[] } :: [] } W)
  (ae:∀ (D:Nat) (S:Mem) (W:tv),Zx S->Step S0 w0 S W->w0.heap.size<=D->W.heap[D]?=some (.deferred (some []))->Q .ret { a with defers:={ target:=.collected D,args:=#[] } :: [] } W) :
  (Code.rangeFunc g ps.toArray assign body).wpIn Fence.wide 6 P Q a w:=by
 have hg:a.eval g = .func (.func gf) #[] lb:=hG.ev au;have ak:=hG.defers;have ai:=aj.size;refine wpIn_rangeFunc λfn aC=>?_;obtain ⟨U,C⟩ : ∃ U:LoopState->Option Code->Loop,U=λst X=>{ state:=st,pending:=X,fn,tmps:=a.tmps,params:=ps.toArray,assign,body,defers:=w.heap.size }:=⟨_,rfl⟩;have put:∀ {S:Mem} {W:tv} {l:Nat} {o:Obj} (o':Obj),Step S0 w0 S W->w.heap.size<=l->W.heap[l]?=some o->o.isCells=false->Step S0 w0 S (W.putObj l o'):=λo' h hl ho hc =>
  h.grown (grownBy_putObj' _ _ o') λr e=>by cases e;exact ⟨Nat.le_trans ai hl,_,ho,hc⟩
 obtain ⟨J,hJ⟩ : ∃ J:LoopState->Option Code->Mem->tv->Prop,J=λs X S W=>Step S0 w0 S W/\W.heap[w.heap.size+1]?=some (.loop (U s X))/\W.heap[w.heap.size]?=some (.deferred (some [])):=⟨_,rfl⟩;have step:∀ {s X S S' W V},J s X S W->Step S W S' V->J s X S' V:=λI aa=>by
  rw [hJ] at I ⊢;obtain ⟨h2,hl,hd⟩:=I;exact ⟨h2.trans aa,(aa.others h2.view).same _ _ hl rfl,(aa.others h2.view).same _ _ hd rfl⟩
 have ad:∀ {s X S W} (s':LoopState) (Y:Option Code),J s X S W->J s' Y S (W.putObj (w.heap.size+1) (.loop (U s' Y))):=λs' Y I=>by
  rw [hJ] at I ⊢;obtain ⟨h2,hl,hd⟩:=I;exact ⟨put _ h2 vd hl rfl,World.putObj_heap_same (Array.getElem?_eq_some_iff.1 hl).1,(World.putObj_heap_other vd).trans hd⟩
 have view:∀ {s X S W},J s X S W->View S W:=λI=>by rw [hJ] at I;exact I.1.view
 have at_:∀ {s X S W},J s X S W->W.heap[w.heap.size+1]?=some (.loop (U s X)):=λI=>by rw [hJ] at I;exact I.2.1
 obtain ⟨Wl,am⟩ : ∃ Wl,Wl=(w.alloc (.deferred (some []))).alloc (.loop (U .ready none)):=⟨_,rfl⟩;refine ⟨w.heap.size+1,[{ target:=.collected w.heap.size,args:=#[] }],Wl,{ target:=.fn (.func gf) lb,args:=#[.func (.yield (w.heap.size+1)) #[] #[]] },Wl,gf,#[.func (.yield (w.heap.size+1)) #[] #[]] ++ lb,Wl,by rw [am,C];exact run_enterLoop_outer _ _ _ _ _,?_,λ_ _=>trivial,?_,λ_=>by omega,?_⟩
 ·simp only [resolve,hg];simp [go_sem]
 ·simp [invoke,go_sem,zbe eg]
 refine (ax (w.heap.size+1) (J .ready none) (J .done (some .ret)) Wl view step (λvs T Tx S W I av hr=>?_) ?_).mono ?_
 ·have hl:=at_ I;have hy:=run_yield (P:=P) (args:=vs.toArray) hl (by rw [C];simp [av]);rw [C] at hy;have ga:=zn9 ps vs hG λp hp=>of_decide_eq_true (List.all_eq_true.1 aw p hp);have ez:(ps.toArray.zip vs.toArray).foldl (λt (p,v)=>t.setIfInBounds p v) a.tmps=(ps.zip vs).foldl (λt (p,v)=>t.setIfInBounds p v) a.tmps:=by simp
  rw [<- ez] at ga;refine ⟨fn,_,assign,body,hy,roundIn_of_wpIn aC (wpIn_mono (hr _ W ga (view I)) λe a' Wa hq=>?_)⟩;obtain ⟨a1,ea,E1,S2,kq,g1,sa⟩:=hq;subst ea;cases e with
  | normal=>?_
  | _=>exact kq.elim
  have j2:=step I sa;have j3:=ad .busy none j2;refine ⟨_,run_beginRound (at_ j2) (by rw [C]),?_⟩;rw [show (Obj.loop { U .ready none with state:=.busy }) = .loop (U .busy none) by rw [C]];refine wpIn_mono (kq a1 _ g1 (view j3)) λe a3 W3 hp=>?_;obtain ⟨a4,ea,E3,S3,hp,g3,s3⟩:=hp;have j4:=step j3 s3;rcases hp with ⟨rfl,i3⟩ | ⟨rfl,i3⟩
  ·refine ⟨_,_,run_endRound (P:=P) none (at_ j4),.inl ⟨rfl,S3,i3,?_⟩⟩;have:=ad .ready none j4;rw [C] at this ⊢;exact this
  refine ⟨_,_,run_endRound (P:=P) (some .ret) (at_ j4),.inr ⟨rfl,S3,i3,?_⟩⟩;have:=ad .done (some .ret) j4;rw [C] at this ⊢;exact this
 ·rw [hJ,am];refine ⟨(aj.grown (World.grownBy_alloc w _ none) (λr e=>by cases e)).grown (World.grownBy_alloc _ _ none) (λr e=>by cases e),?_,(Below.heap_alloc _ _ _ (by simp)).trans (World.alloc_heap_new w _)⟩;have:=World.alloc_heap_new (w.alloc (.deferred (some []))) (.loop (U .ready none));rwa [World.size_alloc] at this
 have out:∀ {s X S W},s ≠ .busy->J s X S W -> ∃ D,w0.heap.size<=D/\(w.heap.size=D) /\ ∃ V,(Instr.endLoop (w.heap.size+1)).run P W = .ok X V/\Step S0 w0 S V/\V.heap[D]?=some (.deferred (some [])):=λ{s X S W} hb I=>by
  have hl:=at_ I;rw [hJ] at I;obtain ⟨h2,_,hd⟩:=I;refine ⟨_,ai,rfl,_,(run_endLoop (P:=P) hl (by rw [C];exact hb)).trans (by rw [C]),put _ h2 vd hl rfl,(World.putObj_heap_other vd).trans hd⟩
 rintro e W2 ⟨⟨v,rfl⟩,⟨S,h1,I⟩ | ⟨S,h1,I⟩⟩
 ·obtain ⟨D,hD,rfl,V,r,st,hd⟩:=out (by simp) I;refine ⟨none,V,r,?_⟩;rw [ak];exact af _ S _ h1 st hD hd
 obtain ⟨D,hD,rfl,V,r,st,hd⟩:=out (by simp) I;refine ⟨some .ret,V,r,?_⟩;rw [ak];exact wpIn_ret (ae _ S _ h1 st hD hd)
end Mv
end
section
open Go.RowKit Go.Shelf
open Mv Disk
attribute [local go_sem] Oper.semAt_some
def wrV (w:Wr):tu:=.agg #[.string w.1,.int .i64 w.2.1,.string w.2.2]
set_option maxRecDepth 100000 in
theorem zth (l Bs:Nat) (A:Option Addr) (cap:Nat) (zs:List Wr) (V:zs.length<=16384) (J:Nat->tv->Prop) (Z:tv->Prop) (W:tv)
  (hB:∀ {k W},J k W->W.cell? ⟨Bs,0,none⟩=some (.slice A zs.length cap))
  (hc:∀ {k W},J k W -> ∀ j (h:j<zs.length),∃ b o,A=some ⟨b,o,none⟩ /\ ∀ q v,(wrF zs[j])[q]?=some v->W.cell? ⟨b,o+j*3+q,none⟩=some v)
  (hY:∀ k W (h:k<zs.length),J (k+1) W->YieldAt Fence.wide 4 prog l #[.int .i64 (k:Nat),wrV zs[k]] W λe U=>(e = .returned (.bool true)/\J k U)\/(e = .returned (.bool false)/\Z U)) (h0:J zs.length W) :
  CallsIn Fence.wide 5 prog 164 #[.func (.yield l) #[] #[],.pointer (some ⟨Bs,0,none⟩)] W λe U=>(∃ v,e = .returned v)/\(J 0 U\/Z U):=by
 refine callsIn_of_wp func164 rfl trivial ?_ rfl;simp only [ntmps164,List.size_toArray,List.length_cons,List.length_nil,Nat.reduceAdd,Nat.reduceSub,Array.replicate_succ,Array.replicate_zero,List.push_toArray,List.append_toArray,List.nil_append,List.cons_append];have aj:=hB h0
 gi_wp2
 gi_loopw [3] (λi wr=>∃ k:Nat,k<=zs.length/\i = .int .i64 ((k:Int)-1)/\J k wr)
  (λi _=>(intOf i+1).toNat)
 case atStart=>exact ⟨_,Nat.le_refl _,rfl,h0⟩
 case round =>
  obtain ⟨k,hk,rfl,X⟩:=hrel;have Y:=hB X;cases k with
  | zero =>
   rw [show ((0:Nat):Int)-1 = -1 from rfl]
   gi_wp2
   go_end0
   exact ⟨⟨_,rfl⟩,.inl X⟩
  | succ m =>
   obtain ⟨b,off,rfl,I⟩:=hc X m hk;obtain ⟨fn,tmps,assign,body,hy,hR⟩:=hY m wr hk X;dsimp only [wrV] at hy;rw [show ((m+1:Nat):Int)-1=m by omega];have af:wr.cell? ⟨b,off+m*3,none⟩=some (.string zs[m].1):=I 0 _ rfl;have ag:wr.cell? ⟨b,off+m*3+1,none⟩=some (.int .i64 zs[m].2.1):=I 1 _ rfl;have ai:wr.cell? ⟨b,off+m*3+2,none⟩=some (.string zs[m].2.2):=I 2 _ rfl
   gi_wp2
   refine hR.mono ?_;rintro e W3 (⟨rfl,C⟩ | ⟨rfl,C⟩)
   ·gi_wp2
    go_roundw
    case rel=>exact ⟨m,by omega,by simp,C⟩
    case measure=>simp [intOf]
   gi_wp2
   exact bodyPost_ret (results_none rfl _ _ _) rfl ⟨⟨_,rfl⟩,.inr C⟩
theorem zj9 (a:Option Addr) (n c:Nat) (S:Mem):ACall prog 114 #[.slice a n c] S λr S'=>∃ b,Fresh S b/\r = .func (.func 164) #[] #[.pointer (some ⟨b,0,none⟩)]/\S'=S.set b ⟨24,[.slice a n c],1⟩:=by
 refine k_E1 4 func114 ?_;refine r2_ ?_;refine vo (zab rfl) rfl rfl ?_;intro I f1;have C:=f1
 repeat ((with_reducible replace C:=zaa C);obtain ⟨C,_⟩:=C)
 refine nl_ ?_;refine r10_ ?_;refine ⟨_,_,⟨_,_,rfl,rfl,rfl⟩,Mem.Less.refl _,?_⟩;exact ⟨I,f1,rfl,rfl⟩
theorem zqv {d:D} {s:tt} {k:Int} {j:Nat} (J:Right d) (h:placeD d s k=(j,0)):∃ C:j<d.ext.length,exOf d.ext s=d.ext[j]/\0<=k/\k<sec d.ext[j]:=by
 unfold placeD at h;by_cases q:has d.ext s=true
 ·obtain ⟨C,_⟩:=(zeZ J.ex.asc s).1 q;rw [if_pos q] at h;by_cases I:k<0\/(sec (exOf d.ext s):Int)<=k
  ·rw [if_pos I] at h;simp at h
  rw [if_neg I] at h;obtain rfl:pos d.ext s=j:=by simpa using h
  rw [zjZ C] at I ⊢;exact ⟨C,rfl,by omega,by omega⟩
 rw [if_neg q] at h;simp at h
theorem zhK (p:Nat) (d:D) (s:tt) (k:Int) (M:Mem) (h:RdV M p d) (hR:Right d) :
  ACall prog 64 #[.pointer (some ⟨p,0,none⟩),.string s,.int .i64 k] M λr S'=>r = .tuple #[.string (readD d s k).1,.int .i64 (readD d s k).2]/\S'=M:=by
 have au:=λS (hl:M.Less S)=>ziB p d s k S (h.less hl) hR;obtain ⟨qe,de,qw,dw,hp,hE,hW⟩:=h;generalize an:placeD d s k=pl at *;obtain ⟨j,er⟩:=pl;by_cases q:er=0
 case neg =>
  have hr:readD d s k=(ByteArray.empty,er):=by unfold readD;rw [an];exact if_pos q
  rw [hr];refine vI (args:=[.pointer (some ⟨p,0,none⟩),.string s,.int .i64 k]) (rs:=[.cell 6 9,.cell 7 27]) 57 [(0,.pointer (some ⟨p,0,none⟩)),(1,.string s),(2,.int .i64 k)] func64 rfl rfl (Nat.le_of_ble_eq_true rfl) rfl ⟨rfl,rfl,rfl,trivial⟩ ?_;refine vj (rs:=[.cell 6 9,.cell 7 27]) rfl ?_;refine s1_ ?_;refine vo (zab rfl) rfl rfl ?_;intro b4 f4;have g4:=f4
  repeat ((with_reducible replace g4:=zaa g4);obtain ⟨g4,_⟩:=g4)
  refine nl_ ?_;refine vo (zab rfl) rfl rfl ?_;intro b5 f5;have Z:=f5
  repeat ((with_reducible replace Z:=zaa Z);obtain ⟨Z,_⟩:=Z)
  refine nl_ ?_;refine ARun.alloc (zab rfl) za7 ?_;intro b6 f6;have Y:=f6
  repeat ((with_reducible replace Y:=zaa Y);obtain ⟨Y,_⟩:=Y)
  refine nl_ ?_;refine ARun.alloc (zab rfl) ze2 ?_;intro b7 f7;have V:=f7
  repeat ((with_reducible replace V:=zaa V);obtain ⟨V,_⟩:=V)
  refine nl_ ?_;refine r2_ ?_;refine vj (rs:=[.cell 6 9,.cell 7 27]) rfl ?_;refine r4_ ?_;refine cp_ rfl (au _ zae) ?_;refine r7_ ?_;refine kM_ [0,1,2,4,5,6,7,8,9] ?_;refine vj (rs:=[.cell 6 9,.cell 7 27]) rfl ?_;refine r6_ ?_;refine cT_ ?_;refine r9_ ?_;refine ⟨_,M,⟨_,_,_,rfl,.inl ⟨zaQ,rd_⟩,⟨_,_,_,rfl,.inl ⟨zc5,rd_⟩,rfl,rfl⟩,rfl⟩,zae,?_⟩;exact ⟨rfl,rfl⟩
 subst q;have hr:readD d s k=(seen d s k,0):=by unfold readD;rw [an];exact if_neg (λh=>h rfl)
 rw [hr];obtain ⟨ai,aU,bd,a7⟩:=zqv hR an;refine vI (args:=[.pointer (some ⟨p,0,none⟩),.string s,.int .i64 k]) (rs:=[.cell 6 9,.cell 7 27]) 57 [(0,.pointer (some ⟨p,0,none⟩)),(1,.string s),(2,.int .i64 k)] func64 rfl rfl (Nat.le_of_ble_eq_true rfl) rfl ⟨rfl,rfl,rfl,trivial⟩ ?_;refine vj (rs:=[.cell 6 9,.cell 7 27]) rfl ?_;refine s1_ ?_;refine vo (zab rfl) rfl rfl ?_;intro b4 f4;have g4:=f4
 repeat ((with_reducible replace g4:=zaa g4);obtain ⟨g4,_⟩:=g4)
 have:=g4.ne hp;have:=g4.ne' hp
 refine nl_ ?_;refine vo (zab rfl) rfl rfl ?_;intro b5 f5;have Z:=f5
 repeat ((with_reducible replace Z:=zaa Z);obtain ⟨Z,_⟩:=Z)
 have:=Z.ne hp;have:=Z.ne' hp
 refine nl_ ?_;refine ARun.alloc (zab rfl) za7 ?_;intro b6 f6;have Y:=f6
 repeat ((with_reducible replace Y:=zaa Y);obtain ⟨Y,_⟩:=Y)
 have:=Y.ne hp;have:=Y.ne' hp
 refine nl_ ?_;refine ARun.alloc (zab rfl) ze2 ?_;intro b7 f7;have V:=f7
 repeat ((with_reducible replace V:=zaa V);obtain ⟨V,_⟩:=V)
 have:=V.ne hp;have:=V.ne' hp
 refine nl_ ?_;refine r2_ ?_;refine vj (rs:=[.cell 6 9,.cell 7 27]) rfl ?_;refine r4_ ?_;refine cp_ rfl (au _ zae) ?_;refine r7_ ?_;refine kM_ [0,1,2,4,5,6,7,8,9] ?_;refine vj (rs:=[.cell 6 9,.cell 7 27]) rfl ?_;refine r6_ ?_;refine cF_ ?_;refine r2_ ?_;refine vO ?_;refine AWPM.seq ?_;refine r6_ ?_;refine ca_ rfl (zj9 _ _ _ _) ?_;rintro _ S9 ⟨bq,fq,rfl,h9⟩;rw [h9];clear h9 S9;intro S0 w0 a w ao hg;refine wpIn_block ?_;have gq:=fq
 repeat ((with_reducible replace gq:=zaa gq);obtain ⟨gq,_⟩:=gq)
 obtain ⟨m,rfl⟩ : ∃ m:Nat,k=m:=⟨k.toNat,by omega⟩;have ad:∀ x,M.Less (((((((M.set b4 ⟨9,[.string s],1⟩).set b5 ⟨3,[.int .i64 (m:Int)],1⟩).set b6 ⟨9,[.string ByteArray.empty],1⟩).set b7 ⟨27,[.int .i64 0],1⟩).set bq ⟨24,[.slice qw d.waits.length dw],1⟩).set b6 ⟨9,[.string x],1⟩).set b7 ⟨27,[.int .i64 0],1⟩):=λx=>zae;obtain ⟨U,I⟩ : ∃ U,U=((((M.set b4 ⟨9,[.string s],1⟩).set b5 ⟨3,[.int .i64 (m:Int)],1⟩).set b6 ⟨9,[.string ByteArray.empty],1⟩).set b7 ⟨27,[.int .i64 0],1⟩).set bq ⟨24,[.slice qw d.waits.length dw],1⟩:=⟨_,rfl⟩;have hM:M.Less U:=by rw [I];exact zae
 have o4:U.own b4=some ⟨9,[.string s],1⟩:=by rw [I];exact own_
 have o5:U.own b5=some ⟨3,[.int .i64 (m:Int)],1⟩:=by rw [I];exact own_
 have o6:U.own b6=some ⟨9,[.string ByteArray.empty],1⟩:=by rw [I];exact own_
 have o7:U.own b7=some ⟨27,[.int .i64 0],1⟩:=by rw [I];exact own_
 have oq:U.own bq=some ⟨24,[.slice qw d.waits.length dw],1⟩:=by rw [I];exact own_
 have a5:b6≠b7:=ne_;replace ao:Step S0 w0 U w:=by rw [I];exact ao
 rw [<- I] at ad;have aK:=hW.less hM;have op:=hM.own hp;obtain ⟨M0,p5,p0,a2,pE,m6,m7⟩ : ∃ M0:Mem,M0.own b5=some ⟨3,[.int .i64 (m:Int)],1⟩/\M0.own p=some ⟨82,[.int .i64 d.size,.slice qe d.ext.length de,.slice qw d.waits.length dw,.int .i64 d.fuse,.bool d.down],5⟩/\M0.Less U/\Sl 2 extF M0 (.slice qe d.ext.length de) d.ext/\M0.own b6=none/\M0.own b7=none:=⟨M.set b5 ⟨3,[.int .i64 (m:Int)],1⟩,own_,own_,by rw [I];exact zae,hE.less zae,(zai Y ne_).1,(zai V ne_).1⟩;clear hM I f4 f5 f6 f7 fq g4 Z Y V gq au hW hE hp;obtain ⟨X,hX⟩ : ∃ X,X=(exOf d.ext s).2.extract (64*m) (64*m+64):=⟨_,rfl⟩;have aT:seen d s m=seeW allK d.waits s m X d.waits.length:=by rw [hX];rfl
 refine zj8 (N:=57) (ps:=[28,29]) (gf:=164) (lb:=#[.pointer (some ⟨bq,0,none⟩)]) (λT=>U.Less T/\seen d s m=X) (λT=>((U.set b6 ⟨9,[.string (seen d s m)],1⟩).set b7 ⟨27,[.int .i64 0],1⟩).Less T) [(0,.pointer (some ⟨p,0,none⟩)),(4,.pointer (some ⟨b4,0,none⟩)),(5,.pointer (some ⟨b5,0,none⟩)),(6,.pointer (some ⟨b6,0,none⟩)),(7,.pointer (some ⟨b7,0,none⟩)),(8,.int .i64 (j:Nat)),(27,.func (.func 164) #[] #[.pointer (some ⟨bq,0,none⟩)])] (hg.sub ⟨rfl,rfl,rfl,rfl,rfl,rfl,rfl,trivial⟩) rfl (by kernel_rfl) rfl ao ?hit ?done ?stop
 case hit =>
  intro l J Jx W view step ak hj;refine zth l bq qw dw d.waits hR.wl (λi W=>∃ T,(U.Less T/\seen d s m=seeW allK d.waits s m X i)/\J T W) (λW=>∃ T,((U.set b6 ⟨9,[.string (seen d s m)],1⟩).set b7 ⟨27,[.int .i64 0],1⟩).Less T/\Jx T W) W (λ⟨T,⟨hl,_⟩,hj⟩=>(view hj).rd (zbP (hl.own oq) rfl)) (λ⟨T,⟨hl,_⟩,hj⟩ i hi=>?_) (λi W hi ⟨T,⟨hl,hv⟩,hj⟩=>ak _ (λT=>U.Less T/\seen d s m=seeW allK d.waits s m X i) _ hj rfl (GWP.less _ hl ?_)) ⟨_,⟨Mem.Less.refl _,aT⟩,hj⟩
  ·obtain ⟨_,_,e1,e2,e3,h3⟩:=aK;cases e1;obtain ⟨b,o,e,hk⟩:=h3.resolve_left (λe=>by rw [e] at hi;simp at hi);refine ⟨b,o,e,λq v hq=>?_⟩;have:=hk i hi _ ((view hj).less hl) q v hq;have e:(⟨b,o+i*3,none⟩ : Addr).add q=⟨b,o+i*3+q,none⟩:=(by unfold Addr.add;cases q <;> simp);rwa [e] at this
  rw [zb7 _ _ _ _ _ hi] at hv;generalize d.waits[i]=y at *;unfold wrV;show GWP _ _ _ _ _ _ _ [(29,_),(28,_),(0,_),(4,_),(5,_),(6,_),(7,_),(8,_),(27,_)] _;by_cases q1:y.2.1=m
  ·by_cases q2:y.1=s
   ·rw [if_pos ⟨q2,q1,rfl⟩] at hv;refine GWP.region ?_;refine ARun.alloc (zab rfl) zbG ?_;intro b11 ae;have C:=ae
    repeat ((with_reducible replace C:=zaa C);obtain ⟨C,_⟩:=C)
    have:=C.ne o4;have:=C.ne' o4
    have:=C.ne o5;have:=C.ne' o5
    have:=C.ne o6;have:=C.ne' o6
    have:=C.ne o7;have:=C.ne' o7
    refine nl_ ?_;refine r3_ ?_;refine kG_ [29,0,4,5,6,7,8,11] ?_;refine GWP.block ?_;refine GWP.seq ?_;refine GWP.region ?_;refine r3_ ?_;refine rC (vh rfl rfl (zaf (zaJ _ _) (decide_eq_true q1))) ?_;refine r4_ ?_
    first|refine k_q 34 ?_|refine rG 34 (vh rfl rfl (zaf (zar _ _) (decide_eq_true q2))) ?_
    refine r3_ ?_;refine kG_ [29,0,4,5,6,7,8,11,39] ?_;refine GWP.condT rfl (by first|rfl|(simp;done)|(simp;omega)) ?_;refine GWP.seq ?_;refine GWP.region ?_;refine r6_ ?_;refine kG_ [29,0,4,5,6,7,8,11,39] ?_;refine GWP.ret ?_;refine s1_ ?_;exact .inr ⟨rfl,by rw [hv];exact zae⟩
   rw [if_neg λh=>q2 h.1] at hv;refine GWP.region ?_;refine ARun.alloc (zab rfl) zbG ?_;intro b11 ae;have C:=ae
   repeat ((with_reducible replace C:=zaa C);obtain ⟨C,_⟩:=C)
   have:=C.ne o4;have:=C.ne' o4
   have:=C.ne o5;have:=C.ne' o5
   have:=C.ne o6;have:=C.ne' o6
   have:=C.ne o7;have:=C.ne' o7
   refine nl_ ?_;refine r3_ ?_;refine kG_ [29,0,4,5,6,7,8,11] ?_;refine GWP.block ?_;refine GWP.seq ?_;refine GWP.region ?_;refine r3_ ?_;refine rC (vh rfl rfl (zaf (zaJ _ _) (decide_eq_true q1))) ?_;refine r4_ ?_
   first|refine k_q 34 ?_|refine rG 34 (vh rfl rfl (zaf (zar _ _) (decide_eq_false q2))) ?_
   refine r3_ ?_;refine kG_ [29,0,4,5,6,7,8,11,39] ?_;refine GWP.condF rfl (by first|rfl|(simp;done)|(simp;omega)) ?_;refine GWP.skip ?_;refine s1_ ?_;exact .inl ⟨rfl,zae,hv⟩
  rw [if_neg λh=>q1 h.2.1] at hv;refine GWP.region ?_;refine ARun.alloc (zab rfl) zbG ?_;intro b11 ae;have C:=ae
  repeat ((with_reducible replace C:=zaa C);obtain ⟨C,_⟩:=C)
  have:=C.ne o4;have:=C.ne' o4
  have:=C.ne o5;have:=C.ne' o5
  have:=C.ne o6;have:=C.ne' o6
  have:=C.ne o7;have:=C.ne' o7
  refine nl_ ?_;refine r3_ ?_;refine kG_ [29,0,4,5,6,7,8,11] ?_;refine GWP.block ?_;refine GWP.seq ?_;refine GWP.region ?_;refine r3_ ?_;refine rC (vh rfl rfl (zaf (zaJ _ _) (decide_eq_false q1))) ?_;refine r8_ ?_;refine kG_ [29,0,4,5,6,7,8,11,39] ?_;refine GWP.condF rfl (by first|rfl|(simp;done)|(simp;omega)) ?_;refine GWP.skip ?_;refine s1_ ?_;exact .inl ⟨rfl,zae,hv⟩
 case done =>
  rintro D T W ⟨hl,hv⟩ aq hD hK;rw [hv,hX,aU];refine uJ (rs:=[.cell 6 9,.cell 7 27]) (N:=57) rfl (aq.less hl) hD hK (hg.sub (show Sub [(0,.pointer (some ⟨p,0,none⟩)),(5,.pointer (some ⟨b5,0,none⟩)),(6,.pointer (some ⟨b6,0,none⟩)),(7,.pointer (some ⟨b7,0,none⟩)),(8,.int .i64 (j:Nat))] _ from ⟨rfl,rfl,rfl,rfl,rfl,trivial⟩)) ?_;have ba:=zcK hR (List.getElem_mem ai);obtain ⟨_,_,aN,bb,a4,aQ⟩:=id pE;cases aN;obtain ⟨b,off,rfl,aL⟩:=aQ.resolve_left (λe=>by rw [e] at ai;simp at ai);have al:=aL _ ai;generalize d.ext[j]=ex at *;unfold extF at al;replace al:M0.Knows ⟨b,off+(j:Int).toNat*2+1,none⟩ [.string ex.2]:=by rw [Int.toNat_natCast];exact zf9 al 1 rfl
  refine GWP.seq ?_;refine GWP.drawS (M0) zae [i0_,i1_,i2_,i3_,i4_,i5_,i6_,i7_,i8_,i9_,i10_,i11_,i12_,i13_,i14_,o15_,o16_] [] mixed (by kernel_rfl) ?_;refine r15_ ?_;refine zac rfl ?_;refine s1_ ?_;refine zad ⟨ny_,?_⟩;refine zac rfl ?_;refine s1_ ?_;refine zad ⟨ny_,?_⟩;refine r2_ ?_;refine kG_ [0,5,6,7,8] ?_;refine GWP.ret ?_;refine ⟨_,M,⟨_,_,_,rfl,.inl ⟨zaQ,rd_⟩,⟨_,_,_,rfl,.inl ⟨zc5,rd_⟩,rfl,rfl⟩,rfl⟩,ad _,?_⟩;exact ⟨rfl,rfl⟩
 case stop =>
  rintro D T W hl aq hD hK;exact leaveM (N:=57) (rs:=[.cell 6 9,.cell 7 27]) rfl (aq.less hl) hD hK (hg.sub (show Sub [(6,.pointer (some ⟨b6,0,none⟩)),(7,.pointer (some ⟨b7,0,none⟩))] _ from ⟨rfl,rfl,trivial⟩)) ⟨_,M,⟨_,_,_,rfl,.inl ⟨zaQ,rd_⟩,⟨_,_,_,rfl,.inl ⟨zc5,rd_⟩,rfl,rfl⟩,rfl⟩,ad _,rfl,rfl⟩
end
section
open Go.RowKit
open Mv Disk
noncomputable def readO (d:D) (s:tt) (k:Int):tt × Int:=if (openD d).2≠0 then (ByteArray.empty,(openD d).2) else readD d s k
noncomputable def placeO (d:D) (s:tt) (k:Int):Int:=if (openD d).2≠0 then (openD d).2 else (placeD d s k).2
theorem zn_ (d:D) (s:tt) (k:Int):readO d s k=if placeO d s k≠0 then (ByteArray.empty,placeO d s k) else (seen d s k,0):=by
 unfold readO placeO;by_cases q:(openD d).2=0
 ·have C : ¬ ((openD d).2≠0):=by simpa using q
  simp only [if_neg C];exact zcL d s k
 rw [if_pos q,if_pos q,if_pos q]
def nA:tt:=⟨#[97]⟩
theorem zd_ {d:D} (h:Right d) (hd:d.down=false):openD d=(d,0):=by
 rcases zdN d with ⟨J,I⟩ | ⟨J,I,C⟩ | ⟨J,I,C⟩
 ·exact absurd h I
 ·rw [hd] at C;cases C
 exact J
theorem zdt {d:D} (h:Right d) (hd:d.down=false) (f:D × Int):opened d f=f:=by unfold opened;rw [zd_ h hd,if_pos rfl]
theorem zlc {d:D} (h:Right d) (J:d.fuse<=9223372036854775807):Dz d:=by
 have hl:=za8 h;refine ⟨by have:=h.s0;omega,by have:=h.s1;omega,by have:=h.fu;omega,J,by omega,by have:=h.wl;omega,λx C=>?_,λw V=>?_⟩
 ·have I:=zcK h C;have X:=(h.ex.ok x C).1.2;omega
 obtain ⟨x,C,e,Z,I,X⟩:=h.wr w V;have Y:=zcK h C;have U:=(h.ex.ok x C).1.2;rw [e] at U;omega
theorem zqw {f:Ext->Ext} {l:List Ext} (C:∀ x ∈ l,sec (f x)=sec x):used (l.map f)=used l:=by
 induction l with
 | nil=>rfl
 | cons x l J=>simp only [List.map_cons,used];rw [C x (by simp),J (λy I=>C y (by simp [I]))]
theorem zb8 {d:D} (C:Right d) (kp:Nat->Bool) {x:Ext} (I:x ∈ d.ext):(doneX kp d.waits x).2.size=x.2.size:=zfC (kp:=kp) (zga C I) d.waits.length (Nat.le_refl _)
theorem zcw {d:D} (C:Right d) (kp:Nat->Bool):Right (settleD d kp):=by
 refine ⟨C.s0,C.s1,by unfold settleD;simp,C.fu,⟨λx J=>?_,zn2 (f:=doneX kp d.waits) (λ_=>rfl) C.ex.asc,?_⟩,λw U=>by unfold settleD at U;cases U⟩
 ·obtain ⟨y,I,rfl⟩:=List.mem_map.1 J;have h:=C.ex.ok y I;exact ⟨h.1,by rw [zb8 C kp I];exact h.2.1,by rw [zb8 C kp I];exact h.2.2⟩
 show ((used (d.ext.map (doneX kp d.waits)):Nat):Int)<=d.size;rw [zqw (λx J=>by unfold sec;rw [zb8 C kp J])];exact C.ex.us
theorem zdP {d:D} (C:Right d) {f:Int} (I : -1<=f) (b:Bool):Right { d with fuse:=f,down:=b }:=⟨C.s0,C.s1,C.wl,I,C.ex,C.wr⟩
theorem zeC {d:D} {s data:tt} {k:Int} (C:Right d) (V:(placeD d s k).2=0) (hs:data.size=64) (hl:d.waits.length<16384):Right (addW d (s,k,data)):=by
 obtain ⟨hh,X,J⟩:=zeB V;obtain ⟨hm,U⟩:=zbr C.ex.asc hh;refine ⟨C.s0,C.s1,by rw [zf8];omega,C.fu,C.ex,λw I=>?_⟩;unfold addW at I;rcases List.mem_append.1 I with h | h
 ·exact C.wr w h
 obtain rfl:w=(s,k,data):=by simpa using h
 exact ⟨_,hm,U,X,J,hs⟩
theorem zhL {d:D} {s data:tt} {k:Int} (U:d.fuse<=9223372036854775807) (h:(opened d (writeD d s k data)).2=0) :
  Right d/\d.down=false/\(placeD d s k).2=0/\data.size=64/\d.waits.length<16384 /\ ∃ f:Int,-1<=f/\f<=9223372036854775807/\opened d (writeD d s k data)=({ addW d (s,k,data) with fuse:=f },0):=by
 unfold opened at h ⊢;rcases zdN d with ⟨V,I⟩ | ⟨V,I,C⟩ | ⟨V,I,C⟩ <;> rw [V] at h ⊢
 ·simp at h
 ·simp at h
 rw [if_pos rfl] at h ⊢;unfold writeD at h ⊢;by_cases J:(placeD d s k).2≠0
 ·rw [if_pos J] at h;exact absurd h J
 rw [if_neg J] at h ⊢;by_cases X:data.size≠64
 ·rw [if_pos X] at h;simp at h
 rw [if_neg X] at h ⊢;by_cases q2:d.waits.length=16384
 ·rw [if_pos q2] at h;simp at h
 rw [if_neg q2] at h ⊢;have ad:=I.wl;have Y:=I.fu;refine ⟨I,C,by simpa using J,by simpa using X,by omega,?_⟩;unfold fuseD at h ⊢;by_cases q3:(addW d (s,k,data)).fuse=0
 ·rw [if_pos q3] at h;simp at h
 rw [if_neg q3] at h ⊢;by_cases Z:0<(addW d (s,k,data)).fuse
 ·rw [if_pos Z];exact ⟨_,by have:0<d.fuse:=Z;show -1<=d.fuse-1;omega,by show d.fuse-1<=_;omega,rfl⟩
 rw [if_neg Z];exact ⟨d.fuse,Y,U,rfl⟩
theorem zdu {d:D} (C:Right d) (kp:Nat->Bool) (s:tt) (k:Int):(placeD (settleD d kp) s k).2=(placeD d s k).2:=by
 unfold placeD;have e1:(settleD d kp).ext=d.ext.map (doneX kp d.waits):=rfl;rw [e1,zhH (f:=doneX kp d.waits) (λ_=>rfl)];by_cases q:has d.ext s=true
 ·rw [if_pos q,if_pos q,zeA (f:=doneX kp d.waits) (λ_=>rfl) C.ex.asc q];have hs:sec (doneX kp d.waits (exOf d.ext s))=sec (exOf d.ext s):=by unfold sec;rw [zb8 C kp (zbr C.ex.asc q).1]
  rw [hs];split <;> rfl
 rw [if_neg q,if_neg q]
theorem zda {d:D} (C:Right d) (hd:d.down=false) (s:tt) (k:Int):readO d s k=if (placeD d s k).2≠0 then (ByteArray.empty,(placeD d s k).2) else (seen d s k,0):=by
 rw [zn_];have e:placeO d s k=(placeD d s k).2:=by unfold placeO;rw [zd_ C hd,if_neg (by simp)]
 rw [e]
theorem zb0 {l:List Ext} {i:Nat} {x y:Ext}:y ∈ insAt l i x <-> y=x\/y ∈ l:=by
 unfold insAt;rw [List.mem_append,List.mem_cons];constructor
 ·rintro (h | h | h)
  ·exact .inr (List.mem_of_mem_take h)
  ·exact .inl h
  exact .inr (List.mem_of_mem_drop h)
 rintro (h | h)
 ·exact .inr (.inl h)
 rw [<- List.take_append_drop i l] at h;rcases List.mem_append.1 h with h | h
 ·exact .inl h
 exact .inr (.inr h)
theorem zhM (l:List Ext) (i:Nat) (x:Ext):used (insAt l i x)=used l+sec x:=by
 unfold insAt;rw [zaU,used];have:used l=used (l.take i)+used (l.drop i):=by rw [<- zaU,List.take_append_drop]
 omega
theorem zj_ {l:List Ext} {s data:tt} (J:Asc l) (X:has l s=false):Asc (insAt l (pos l s) (s,data)):=by
 unfold Asc insAt;rw [List.pairwise_append];have C:∀ a ∈ l.take (pos l s),lt a.1 s=true:=λa h=>by
  obtain ⟨i,hi,rfl⟩:=List.getElem_of_mem h;rw [List.getElem_take];simp only [List.length_take] at hi;exact zvi vd vd
 have I:∀ b ∈ l.drop (pos l s),lt s b.1=true:=λb h=>by
  obtain ⟨i,hi,rfl⟩:=List.getElem_of_mem h;simp only [List.length_drop] at hi;rw [List.getElem_drop];have U:=zvj (l:=l) (s:=s) vd;have V:lt l[pos l s+i].1 s=false:=by
   rcases Nat.eq_zero_or_pos i with rfl | hp
   ·exact U
   cases Y:lt l[pos l s+i].1 s with
   | false=>rfl
   | true=>have:=lt_trans (zd5 J (i:=pos l s) (j:=pos l s+i) vd vd) Y;rw [U] at this;cases this
  exact zsh (zla.1 X _ (List.getElem_mem _)) V
 refine ⟨List.Pairwise.sublist (List.take_sublist _ _) J,List.pairwise_cons.2 ⟨λb h=>I b h,List.Pairwise.sublist (List.drop_sublist _ _) J⟩,λa h b h'=>?_⟩;rcases List.mem_cons.1 h' with rfl | h'
 ·exact C a h
 exact lt_trans (C a h) (I b h')
theorem zg7 {l:List Ext} {s data:tt} {size:Int} (h:ERight l size) (I:has l s=false) (hs:nm s) (J:data.size≠0) (C:data.size % 64=0) {size':Int} (U:(used l:Int)+sec (s,data)<=size'):ERight (insAt l (pos l s) (s,data)) size' :=
 ⟨λx hx=>by rcases zb0.1 hx with rfl | hx;exact ⟨hs,J,C⟩;exact h.ok x hx,zj_ h.asc I,by rw [zhM];omega⟩
theorem zqx {l:List Ext} {s data:tt} (I:Asc l) (C:has l s=false):dropE (insAt l (pos l s) (s,data)) s=l:=by
 unfold insAt;have:∀ (a b:List Ext),dropE (a ++ b) s=dropE a s ++ dropE b s:=λa b=>List.filter_append ..;rw [this,zc9 rfl,<- this,List.take_append_drop,zg0 C]
theorem zka {d:D} {s:tt} {n:Int} (I:Right d) (U:d.down=false):((newD d s n).2≠0->(newD d s n).1=d)/\((newD d s n).2=0->Right (newD d s n).1/\(newD d s n).1.down=false/\(newD d s n).1.fuse=d.fuse/\(roomD (newD d s n).1)=(d.size-used d.ext-n,0)/\opened (newD d s n).1 (freesD (newD d s n).1 (newD d s n).1 [s])=(d,0)):=by
 unfold newD;by_cases X : ¬ nm s\/n<1
 ·rw [if_pos X];exact ⟨λ_=>rfl,λh=>by simp at h⟩
 rw [if_neg X];have hs:nm s:=by
  by_cases h:nm s
  ·exact h
  exact absurd (.inl h) X
 have ae:1<=n:=by omega
 by_cases Y:has d.ext s=true
 ·rw [if_pos Y];exact ⟨λ_=>rfl,λh=>by simp at h⟩
 rw [if_neg Y];by_cases q3:d.size-used d.ext<n
 ·rw [if_pos q3];exact ⟨λ_=>rfl,λh=>by simp at h⟩
 rw [if_neg q3];refine ⟨λh=>absurd rfl h,λ_=>?_⟩;have V:has d.ext s=false:=by simpa using Y
 obtain ⟨m,rfl⟩ : ∃ m:Nat,n=m:=⟨n.toNat,by omega⟩;simp only [Int.toNat_natCast];have Z:=ze9 m;have J:sec (s,zeros m)=m:=by unfold sec;simp only;rw [Z];omega
 have C:Right { d with ext:=insAt d.ext (pos d.ext s) (s,zeros m) }:=⟨I.s0,I.s1,I.wl,I.fu,zg7 (size':=d.size) I.ex V hs (by rw [Z];omega) (by rw [Z];omega) (by rw [J];omega),λw hw=>by
  obtain ⟨x,hx,h⟩:=I.wr w hw;exact ⟨x,zb0.2 (.inr hx),h⟩⟩
 refine ⟨C,U,by trivial,?_,?_⟩
 ·unfold roomD;rw [zd_ C U,if_neg (by simp)];simp only [zhM,J];refine Prod.ext ?_ rfl;show d.size-((used d.ext+m:Nat):Int)=d.size-(used d.ext:Int)-(m:Int);omega
 have hh:has (insAt d.ext (pos d.ext s) (s,zeros m)) s=true:=zaO.2 ⟨(s,zeros m),zb0.2 (.inl rfl),rfl⟩;rw [zdt C U,zmA,if_pos hh,zn0 C hh];unfold lessD;simp only [zqx I.ex.asc V,zn1 I V];rfl
/-! ### Moved -/
theorem zmE (l:List Ext) (s:tt):used (dropE l s)<=used l:=by
 induction l with
 | nil=>exact Nat.le_refl _
 | cons y l C =>
  by_cases e:y.1=s
  ·rw [zc9 e,used];omega
  rw [zey e,used,used];omega
theorem zhN {l:List Ext} {s:tt} {x:Ext}:x ∈ dropE l s <-> x ∈ l/\x.1≠s:=by unfold dropE;simp
end
section
namespace Crc

def un (b:BitVec 32):Int:=(b.toNat:Int)
def v32 (x:Int):BitVec 32:=BitVec.ofInt 32 x
theorem zbR (b:BitVec 32):0<=un b:=Int.natCast_nonneg _
theorem zhO (b:BitVec 32):un b<=4294967295:=by have:=b.isLt;unfold un;omega
theorem zcM (b:BitVec 32):v32 (un b)=b:=by simp [v32,un]
theorem zsu {x:Int} (C:0<=x) (I:x<=4294967295):un (v32 x)=x:=by
 obtain ⟨n,rfl⟩:=Int.eq_ofNat_of_zero_le C;simp only [v32,un,BitVec.ofInt_natCast,BitVec.toNat_ofNat];omega
theorem zfE (x y:Int):bits .xor .u32 x y=un (v32 x ^^^ v32 y):=by
 show IntKind.u32.wrap ((v32 x ^^^ v32 y).toNat:Int)=un (v32 x ^^^ v32 y);generalize v32 x ^^^ v32 y=b;have:=b.isLt;rw [IntKind.wrap_u32];unfold un;omega
theorem zdQ (x y:Int):bits .and .u32 x y=un (v32 x &&& v32 y):=by
 show IntKind.u32.wrap ((v32 x &&& v32 y).toNat:Int)=un (v32 x &&& v32 y);generalize v32 x &&& v32 y=b;have:=b.isLt;rw [IntKind.wrap_u32];unfold un;omega
theorem zti (x y:Int):bits .or .u32 x y=un (v32 x ||| v32 y):=by
 show IntKind.u32.wrap ((v32 x ||| v32 y).toNat:Int)=un (v32 x ||| v32 y);generalize v32 x ||| v32 y=b
 have:=b.isLt;rw [IntKind.wrap_u32];unfold un;omega
theorem ztj (a:BitVec 32):un a / (2:Int)=un (a >>> 1):=by
 simp only [un,BitVec.toNat_ushiftRight,Nat.shiftRight_eq_div_pow];omega
theorem zsv (a:BitVec 32):un a / (256:Int)=un (a >>> 8):=by
 simp only [un,BitVec.toNat_ushiftRight,Nat.shiftRight_eq_div_pow];omega
theorem zoa (x:Int):v32 (x % 4294967296)=v32 x:=by
 apply BitVec.eq_of_toInt_eq;simp only [v32,BitVec.toInt_ofInt];rw [show ((4294967296:Int))=((2 ^ 32:Nat):Int) from by decide];exact Int.emod_bmod _ _
theorem ztk (x:Int):v32 (-x) =-v32 x:=by simp [v32,BitVec.ofInt_neg]
/-! ### One bit, n bits -/
def poly:BitVec 32:=0xedb88320#32
def T (r:BitVec 32):BitVec 32:=(r >>> 1) ^^^ (if r.getLsbD 0 then poly else 0#32)
def Tn:Nat->BitVec 32->BitVec 32
  | 0,r=>r
  | n+1,r=>T (Tn n r)

theorem zwI (a b:BitVec 32):T (a ^^^ b)=T a ^^^ T b:=by
 unfold T;rw [BitVec.ushiftRight_xor_distrib,BitVec.getLsbD_xor];have e:poly ^^^ poly=0#32:=by decide
 cases a.getLsbD 0 <;> cases b.getLsbD 0 <;> simp
 ·ac_rfl
 ·ac_rfl
 rw [show a >>> 1 ^^^ poly ^^^ (b >>> 1 ^^^ poly)=a >>> 1 ^^^ b >>> 1 ^^^ (poly ^^^ poly) from by ac_rfl,e,BitVec.xor_zero]
theorem zvx (n:Nat) (a b:BitVec 32):Tn n (a ^^^ b)=Tn n a ^^^ Tn n b:=by
 induction n with
 | zero=>rfl
 | succ n C=>simp only [Tn,C,zwI]
theorem zvy (n:Nat) (a:BitVec 32) (h:∀ i,i<n->a.getLsbD i=false):Tn n a=a >>> n:=by
 induction n with
 | zero=>simp [Tn]
 | succ n C =>
  rw [Tn,C (λi hi=>h i vd)];unfold T;rw [BitVec.getLsbD_ushiftRight,h (n+0) vd];simp only [Bool.false_eq_true,if_false,BitVec.xor_zero];rw [<- BitVec.shiftRight_add]

/-! ### A byte -/
def b32 (b:UInt8):BitVec 32:=BitVec.ofNat 32 b.toNat
theorem zqy (b:UInt8):v32 (b.toNat:Int)=b32 b:=by simp [v32,b32]
theorem zqz (b:UInt8) (i:Nat) (hi:8<=i):(b32 b).getLsbD i=false:=by
 have:=b.toNat_lt;simp only [b32,BitVec.getLsbD_ofNat];rw [Nat.testBit_lt_two_pow (Nat.lt_of_lt_of_le this (Nat.pow_le_pow_right (by decide) hi))];simp
def feed (r:BitVec 32) (b:UInt8):BitVec 32:=Tn 8 (r ^^^ b32 b)
theorem ztl (r:BitVec 32) (b:UInt8):(r >>> 8) ^^^ Tn 8 ((r ^^^ b32 b) &&& 255#32)=feed r b:=by
 have hs:r ^^^ b32 b=((r ^^^ b32 b) &&& 255#32) ^^^ ((r ^^^ b32 b) &&& ~~~255#32):=by
  apply BitVec.eq_of_getLsbD_eq;intro i hi;simp only [BitVec.getLsbD_xor,BitVec.getLsbD_and,BitVec.getLsbD_not,hi,decide_true,Bool.true_and];cases (r.getLsbD i ^^ (b32 b).getLsbD i) <;> cases (255#32).getLsbD i <;> rfl
 unfold feed
 conv=>rhs;rw [hs,zvx]
 rw [zvy 8 ((r ^^^ b32 b) &&& ~~~255#32)]
 ·have:((r ^^^ b32 b) &&& ~~~255#32) >>> 8=r >>> 8:=by
   apply BitVec.eq_of_getLsbD_eq;intro i hi;simp only [BitVec.getLsbD_ushiftRight,BitVec.getLsbD_and,BitVec.getLsbD_xor,BitVec.getLsbD_not,zqz b (8+i) vd];by_cases h:8+i<32
   ·have e:(255#32).getLsbD (8+i)=false:=by
     rw [BitVec.getLsbD_ofNat,show (255:Nat)=2 ^ 8-1 from rfl,Nat.testBit_two_pow_sub_one];simp
    rw [e];simp [h]
   have:r.getLsbD (8+i)=false:=BitVec.getLsbD_of_ge _ _ vd;simp [this]
  rw [this,BitVec.xor_comm]
 intro i hi;simp only [BitVec.getLsbD_and,BitVec.getLsbD_not];have e:(255#32).getLsbD i=true:=by
  rw [BitVec.getLsbD_ofNat,show (255:Nat)=2 ^ 8-1 from rfl,Nat.testBit_two_pow_sub_one];simp;omega
 simp [e]
/-! ### A text -/
def feeds (r:BitVec 32) (l:List UInt8):BitVec 32:=l.foldl feed r
def more (sum:BitVec 32) (l:List UInt8):BitVec 32 := ~~~ (feeds (~~~ sum) l)
def sums (l:List (List UInt8)):BitVec 32:=l.foldl more 0#32
theorem ziM (r:BitVec 32) (a b:List UInt8):feeds r (a ++ b)=feeds (feeds r a) b:=List.foldl_append ..
theorem zmF (r:BitVec 32) (a:List UInt8) (b:UInt8):feeds r (a ++ [b])=feed (feeds r a) b:=by rw [ziM];rfl
theorem zob (l:List (List UInt8)) (x:List UInt8):sums (l ++ [x])=more (sums l) x:=by simp [sums]
/-! ### A sum's bytes -/
def rev (x:BitVec 32):BitVec 32 :=
  let y:=((x >>> 8) &&& 0xff00ff#32) ||| ((x &&& 0xff00ff#32) <<< 8)
  (y >>> 16) ||| (y <<< 16)
theorem zsw (a:BitVec 32) (k:Nat):un a*2 ^ k % (4294967296:Int)=un (a <<< k):=by
 simp only [un,BitVec.toNat_shiftLeft,Nat.shiftLeft_eq];rw [Int.natCast_emod,Int.natCast_mul];simp
theorem zsx (a:BitVec 32) (k:Nat):un a / 2 ^ k=un (a >>> k):=by
 simp only [un,BitVec.toNat_ushiftRight,Nat.shiftRight_eq_div_pow];simp
theorem zvz (a:BitVec 32):un a % (256:Int)=((a.setWidth 8).toNat:Int):=by
 simp only [un,BitVec.toNat_setWidth];omega
theorem rev0 (x:BitVec 32):(rev x >>> 24).setWidth 8=x.setWidth 8:=by
 apply BitVec.eq_of_getLsbD_eq;intro i hi;unfold rev
 match i,hi with
 | 0,_ | 1,_ | 2,_ | 3,_ | 4,_ | 5,_ | 6,_ | 7,_=>simp
theorem rev1 (x:BitVec 32):(rev x >>> 16).setWidth 8=(x >>> 8).setWidth 8:=by
 apply BitVec.eq_of_getLsbD_eq;intro i hi;unfold rev
 match i,hi with
 | 0,_ | 1,_ | 2,_ | 3,_ | 4,_ | 5,_ | 6,_ | 7,_=>simp
theorem rev2 (x:BitVec 32):(rev x >>> 8).setWidth 8=(x >>> 16).setWidth 8:=by
 apply BitVec.eq_of_getLsbD_eq;intro i hi;unfold rev
 match i,hi with
 | 0,_ | 1,_ | 2,_ | 3,_ | 4,_ | 5,_ | 6,_ | 7,_=>simp
theorem rev3 (x:BitVec 32):(rev x).setWidth 8=(x >>> 24).setWidth 8:=by
 apply BitVec.eq_of_getLsbD_eq;intro i hi;unfold rev
 match i,hi with
 | 0,_ | 1,_ | 2,_ | 3,_ | 4,_ | 5,_ | 6,_ | 7,_=>simp
def tailS (b:BitVec 32):tt:=strOfNums [un b % 256,un b / 256 % 256,un b / 65536 % 256,un b / 16777216]
theorem zoc (b:BitVec 32):strOfNums [un (rev b) / 16777216,un (rev b) / 65536 % 256,un (rev b) / 256 % 256,un (rev b) % 256]=tailS b:=by
 have J:=zbR (rev b);have hb:=zbR b;have I:=zhO (rev b);have C:=zhO b
 have e0:=congrArg (λx:BitVec 8=>(x.toNat:Int)) (rev0 b);have e1:=congrArg (λx:BitVec 8=>(x.toNat:Int)) (rev1 b);have e2:=congrArg (λx:BitVec 8=>(x.toNat:Int)) (rev2 b);have e3:=congrArg (λx:BitVec 8=>(x.toNat:Int)) (rev3 b);simp only [<- zvz,<- zsx] at e0 e1 e2 e3;unfold tailS;congr 1;simp only [List.cons.injEq,and_true];omega
theorem zb1 (b:BitVec 32):(tailS b).size=4:=rfl
end Crc
end
section
open Go.RowKit
open Crc (un v32 Tn)


namespace Crc
theorem zqA (r:BitVec 32):bits .xor .u32 (un r / 2) (bits .and .u32 3988292384 (-bits .and .u32 (un r) 1 % 4294967296))=un (T r):=by
 rw [ztj,zdQ (un r) 1,zcM,zdQ,zoa,ztk,zcM,zfE,zcM,zcM];congr 1;unfold T;congr 1;have e1:v32 1=1#32:=rfl;have e2:v32 3988292384=poly:=rfl;rw [e1,e2];have h:r &&& 1#32=if r.getLsbD 0 then 1#32 else 0#32:=by
  apply BitVec.eq_of_getLsbD_eq;intro i hi;rw [BitVec.getLsbD_and];cases i with
  | zero=>cases r.getLsbD 0 <;> simp
  | succ i =>
   have:(1#32).getLsbD (i+1)=false:=(by simp [BitVec.getLsbD_one]);rw [this];cases r.getLsbD 0 <;> simp
 rw [h];cases r.getLsbD 0 <;> decide
end Crc

theorem zqB (r:Int) (J:0<=r) (I:r<=4294967295) (w:tv) :
  Calls prog 212 #[.int .u32 r] w λe w'=>e = .returned (.int .u32 (un (Tn 8 (v32 r))))/\w=w':=by
 go_enter func212,ntmps212
 go_wp2
 go_loop [0,3] (λX v3=>∃ (k:Int) (j:Nat),0<=k/\k<=4294967295/\j<=8/\X = .int .u32 k/\v3 = .int .i64 j/\Hid (k=un (Tn j (v32 r)))) (λ_ v3=>8-(intOf v3).toNat)
 case atStart=>exact ⟨r,0,J,I,by omega,rfl,rfl,(Crc.zsu J I).symm⟩
 case round =>
  obtain ⟨k,j,Y,V,Z,rfl,rfl,hk⟩:=hrel;by_cases U:j<8
  ·go_wp2
   go_round
   case rel =>
    have C:=hk.out;refine ⟨un (Tn (j+1) (v32 r)),j+1,Crc.zbR _,Crc.zhO _,by omega,?_,by go_num,rfl⟩;rw [C];exact val_int (Crc.zqA _)
   case measure=>simp [intOf];omega
  go_wp2
  go_ret
  have e:j=8:=by omega
  subst e;exact ⟨ret_int hk.out,rfl⟩

namespace Crc
theorem zmG (r:BitVec 32) (s:tt) (k:Nat) (h:k<s.size):feeds r (s.data.toList.take (k+1))=feed (feeds r (s.data.toList.take k)) s[k]:=by
 rw [take_snoc s k h,zmF]
theorem zqC (r:BitVec 32) (b:UInt8):bits .xor .u32 (un r / 256) (un (Tn 8 (v32 (bits .and .u32 (bits .xor .u32 (un r) ((b.toNat:Int) % 4294967296)) 255))))=un (feed r b):=by
 rw [zsv,zfE (un r),zcM,zoa,zqy,zdQ,zcM,zcM,zfE,zcM,zcM];congr 1;exact ztl r b
theorem zod (r:Int):bits .xor .u32 IntKind.u32.max r=un (~~~ v32 r):=by
 rw [zfE,show v32 IntKind.u32.max=BitVec.allOnes 32 from by decide,BitVec.allOnes_xor]
end Crc

theorem zqD (r:Int) (s:tt) (hs:s.size<=maxLen) (Z:0<=r) (Y:r<=4294967295) (w:tv) :
  Calls prog 180 #[.int .u32 r,.string s] w λe w'=>e = .returned (.int .u32 (un (Crc.more (v32 r) s.data.toList)))/\w=w':=by
 unfold maxLen at hs
 go_enter func180,ntmps180
 go_wp2
 go_loop [5,11] (λv5 C=>∃ (k:Int) (j:Nat),0<=k/\k<=4294967295/\j<=s.size/\v5 = .int .u32 k/\C = .int .i64 j/\Hid (k=un (Crc.feeds (~~~ v32 r) (s.data.toList.take j)))) (λ_ C=>s.size-(intOf C).toNat)
 case atStart=>exact ⟨_,0,Crc.zbR _,Crc.zhO _,by omega,val_int (Crc.zod r),rfl,rfl⟩
 case round =>
  obtain ⟨k,j,V,U,X,rfl,rfl,hk⟩:=hrel;by_cases I:j<s.size
  ·go_wp2_with (go_at_call 212;refine (zqB _ (by rw [Crc.zdQ];exact Crc.zbR _) (by rw [Crc.zdQ];exact Crc.zhO _) _).mono ?_;rintro e w' ⟨rfl,rfl⟩)
   go_round
   case rel =>
    have J:=hk.out;refine ⟨_,j+1,Crc.zbR _,Crc.zhO _,by omega,?_,by go_num,Lib.hid (by rw [Crc.zmG _ s j I])⟩;rw [J];exact val_int (Crc.zqC _ _)
   case measure=>simp [intOf];omega
  go_wp2
  go_ret
  have e:j=s.size:=by omega
  subst e;refine ⟨ret_int ?_,rfl⟩;rw [hk.out,take_all,Crc.zod,Crc.zcM];rfl

namespace Crc
end Crc

namespace Crc
end Crc

end
section
open Go.RowKit
open Crc (un v32 Tn)

/-! ### Texts in a row -/
def lists (ss:List tt):List (List UInt8):=ss.map λs=>s.data.toList
theorem zmH (C:List tt) (j:Nat) (h:j<C.length):lists (C.take (j+1))=lists (C.take j) ++ [(strAt C j).data.toList]:=by
 unfold lists;rw [List.take_succ_eq_append_getElem h,List.map_append];simp [strAt,List.getD,List.getElem?_eq_getElem h]
theorem ztm (a:Option Addr) (n m:Nat) (C:List tt) (w:tv) (h:IsStrs w a n C) :
  Calls prog 131 #[.slice a n m] w λe w'=>e = .returned (.int .u32 (un (Crc.sums (lists C))))/\w=w':=by
 obtain ⟨hl,hm,hc,hs⟩:=h;unfold maxLen at hm
 go_enter func131,ntmps131
 go_wp2
 go_loop [3,8] (λv3 v8=>∃ (k:Int) (j:Nat),0<=k/\k<=4294967295/\j<=n/\v3 = .int .u32 k/\v8 = .int .i64 j/\Hid (k=un (Crc.sums (lists (C.take j))))) (λ_ v8=>n-(intOf v8).toNat)
 case atStart=>exact ⟨0,0,by omega,by omega,by omega,rfl,rfl,Lib.hid rfl⟩
 case round =>
  obtain ⟨k,j,Z,V,hj,rfl,rfl,hk⟩:=hrel;by_cases I:j<n
  ·rcases hc with hc | ⟨b,off,rfl,hc⟩
   ·omega
   have X:=hc j I;have J:=strAt_size C j vd hs;have Y:=Lib.hid hl;clear hl hc
   go_wp2_with (go_at_call 180;refine (zqD _ _ J Z V _).mono ?_;rintro e w' ⟨rfl,rfl⟩)
   go_round
   case rel =>
    have U:=hk.out;refine ⟨_,j+1,Crc.zbR _,Crc.zhO _,by omega,rfl,by go_num,Lib.hid ?_⟩;rw [zmH C j (by rw [Y.out];exact I),Crc.zob,U,Crc.zcM]
   case measure=>simp [intOf];omega
  have Y:=Lib.hid hl;clear hl hc
  go_wp2
  go_ret
  have e:j=n:=by omega
  subst e;refine ⟨ret_int ?_,rfl⟩;rw [hk.out,List.take_of_length_le (by rw [Y.out];exact Nat.le_refl _)]

/-! ### A sum's bytes -/
theorem zqE (r:Int) (I:0<=r) (C:r<=4294967295) (w:tv) :
  Calls prog 179 #[.int .u32 r] w λe w'=>e = .returned (.int .u32 (un (Crc.rev (v32 r))))/\w=w':=by
 go_enter func179,ntmps179
 go_wp2_with fail
 go_ret
 refine ⟨ret_int ?_,rfl⟩;obtain ⟨b,rfl⟩ : ∃ b,r=un b:=⟨v32 r,(Crc.zsu I C).symm⟩;have e1:=λb=>Crc.zsw b 8;have e2:=λb=>Crc.zsw b 16;have e3:=λb=>Crc.zsx b 16;simp only [Int.reducePow] at e1 e2 e3;simp only [Crc.zsv,Crc.zdQ,e1,e2,e3,Crc.zti,Crc.zcM];rfl


theorem zwJ (w:tv) (I C J U:Int) :
  (convert 71 9 (.slice (some ⟨w.heap.size,0,none⟩) 4 4)).run prog (w.alloc (.cells #[.int .u8 I,.int .u8 C,.int .u8 J,.int .u8 U] 5)) =
   .ok (.string (strOfNums [I,C,J,U])) (w.alloc (.cells #[.int .u8 I,.int .u8 C,.int .u8 J,.int .u8 U] 5)):=by
 refine run_convert_bytes_arg _ 71 5 underlying71 underlying5 w.heap.size 0 4 4 [I,C,J,U] rfl (λi hi=>?_) 9 underlying9
 match i,hi with
 | 0,_ | 1,_ | 2,_ | 3,_=>simp [go_sem]
theorem zqF (r:Int) (X:0<=r) (I:r<=4294967295) (w:tv) :
  Calls prog 130 #[.int .u32 r] w λe w'=>e = .returned (.string (Crc.tailS (v32 r)))/\Below w.heap.size w w':=by
 have kc:=λw C J U V=>zwJ w C J U V
 go_enter func130,ntmps130
 have Y:=Crc.zbR (Crc.rev (v32 r));have Z:=Crc.zhO (Crc.rev (v32 r))
 go_wp2_with (go_at_call 179;refine (zqE r X I _).mono ?_;rintro e w' ⟨rfl,rfl⟩)
 go_ret
 exact ⟨by rw [<- Crc.zoc];rfl,(Below.refl _ _).alloc (Nat.le_refl _) _⟩

theorem ziN (b:BitVec 32) (w:tv):Calls prog 130 #[.int .u32 (un b)] w λe w'=>e = .returned (.string (Crc.tailS b))/\Below w.heap.size w w':=by
 have h:=zqF (un b) (Crc.zbR _) (Crc.zhO _) w;rwa [Crc.zcM] at h
def sumOf (s:tt):BitVec 32:=Crc.more 0#32 s.data.toList
theorem zld (b off n m:Nat) (s:tt) (W:tv) (C:n=1) (hs:s.size<=maxLen) (h:W.cell? ⟨b,off,none⟩=some (.string s)) :
  Calls prog 131 #[.slice (some ⟨b,off,none⟩) n m] W λe w'=>e = .returned (.int .u32 (un (sumOf s)))/\W=w':=by
 subst C;exact ztm _ _ _ [s] _ (isStrs_one _ _ _ _ hs h)
def frameS (s:tt):tt × Int:=if 65536<s.size then (ByteArray.empty,1) else (s ++ Crc.tailS (sumOf s),0)
def body (f:tt):tt:=f.extract 0 (f.size-4)
def tailOf (f:tt):tt:=f.extract (f.size-4) f.size
def fits (f:tt):Bool:=(Crc.tailS (sumOf (body f))).toList == (tailOf f).toList
def openS (f:tt):tt × Int :=
  if f.size<4 then (ByteArray.empty,5) else if 65540<f.size then (ByteArray.empty,1) else if fits f then (body f,0) else (ByteArray.empty,6)

theorem zoe (s:tt) (hs:s.size<=maxLen) (w:tv) :
  Calls prog 81 #[.string s] w λe w'=>e = .returned (.tuple #[.string (frameS s).1,.int .i64 (frameS s).2])/\Below w.heap.size w w':=by
 have C:=hs;unfold maxLen at C;by_cases hk:65536<s.size
 ·go_enter func81,ntmps81
  go_wp2_with fail
  go_ret2
  exact ⟨by simp only [frameS,if_pos hk];rfl,Below.refl _ _⟩
 have q:=Nat.le_of_eq (Crc.zb1 (sumOf s))
 go_enter func81,ntmps81
 go_wp2_with (first | (go_at_call 131;refine (zld _ _ _ _ _ _ rfl hs (by simp [go_sem])).mono ?_;rintro e w' ⟨rfl,rfl⟩) | (go_at_call 130;refine (ziN _ _).mono ?_;rintro e w' ⟨rfl,hb⟩))
 go_ret2
 exact ⟨by simp only [frameS,if_neg hk];rfl,below_call ((Below.refl _ _).alloc (Nat.le_refl _) _) hb (by simp)⟩

end
section
open Go.RowKit
open Crc (un v32 Tn)

theorem zqG (s:tt) (hs:s.size<=maxLen) (w:tv) :
  Calls prog 162 #[.string s] w λe w'=>e = .returned (.tuple #[.string (openS s).1,.int .i64 (openS s).2])/\Below w.heap.size w w':=by
 have I:=hs;unfold maxLen at I;by_cases hk:s.size<4
 ·go_enter func162,ntmps162
  go_wp2_with fail
  go_ret2
  exact ⟨by simp only [openS,if_pos hk];rfl,Below.refl _ _⟩
 by_cases C:65540<s.size
 ·go_enter func162,ntmps162
  go_wp2_with fail
  go_ret2
  exact ⟨by simp only [openS,if_neg hk,if_pos C];rfl,Below.refl _ _⟩
 have Y:(0:Int)<=(s.size:Int)-4:=by omega
 have Z:(s.size:Int)-4<=(s.size:Int):=by omega
 have X:((s.size:Int)-4).toNat=s.size-4:=by omega
 have q4:(4:Int)<=(s.size:Int):=by omega
 have V:(s.extract 0 (s.size-4)).size<=maxLen:=by rw [ByteArray.size_extract];unfold maxLen;omega
 have q6:IntKind.i64.wrap ((s.size:Int)-4)=(s.size:Int)-4:=IntWalk.i64_in _ vd;by_cases U:fits s=true
 all_goals
  have J:=U;simp only [fits,body,tailOf,Bool.not_eq_true] at J
  go_enter func162,ntmps162
  go_wp2_with fail
  go_region_held3 (λ_=>True) (trivial) (first | (go_at_call 131;go_must (refine (zld _ _ _ _ _ _ rfl V (by simp [go_sem])).mono ?_);rintro e w' ⟨rfl,rfl⟩) | (go_at_call 130;refine (ziN _ _).mono ?_;rintro e w' ⟨rfl,hb⟩))
  go_wp2_with fail
  go_ret2
  exact ⟨by simp only [openS,if_neg hk,if_neg C,U];rfl,below_call (((Below.refl _ _).alloc (Nat.le_refl _) _).drew) hb (by simp)⟩

end
section
/-! ### Operators on natural numbers -/
theorem zqH (a b:Nat) (C:a<18446744073709551616) (hb:b<18446744073709551616):bits .or .u64 (a:Int) (b:Int)=((a ||| b:Nat):Int):=by
 have h:a ||| b<2 ^ 64:=Nat.or_lt_two_pow vd vd
 show IntKind.u64.wrap (((BitVec.ofInt 64 (a:Int)) ||| (BitVec.ofInt 64 (b:Int))).toNat:Int)=_;rw [BitVec.ofInt_natCast,BitVec.ofInt_natCast,BitVec.toNat_or,BitVec.toNat_ofNat,BitVec.toNat_ofNat,Nat.mod_eq_of_lt vd,Nat.mod_eq_of_lt vd];exact IntWalk.u64_in _ vd
theorem zkb (q y k:Nat) (C:y<2 ^ k):y ||| q*2 ^ k=q*2 ^ k+y:=by
 rw [Nat.or_comm,Nat.mul_comm q,Nat.two_pow_add_eq_or_of_lt C]
theorem ziO (s:tt):s.size=s.data.toList.length:=(Array.length_toList (xs:=s.data)).symm
theorem zof (x:Nat):IntKind.u8.wrap (x:Int)=nb (UInt8.ofNat x):=by
 rw [IntKind.wrap_u8];unfold nb;rw [UInt8.toNat_ofNat'];omega
namespace Num
abbrev top:Nat:=1099511627776
def five (n:Nat):List UInt8:=[UInt8.ofNat (n / 4294967296),UInt8.ofNat (n / 16777216),UInt8.ofNat (n / 65536),UInt8.ofNat (n / 256),UInt8.ofNat n]
theorem zea (n:Nat):(five n).length=5:=rfl
def ofB (l:List UInt8):Nat:=l.foldl (λa b=>256*a+b.toNat) 0
theorem zqI (l:List UInt8) (c:UInt8):ofB (l ++ [c])=256*ofB l+c.toNat:=by simp [ofB]
theorem zle (l:List UInt8) (k:Nat) (h:k<l.length):ofB (l.take (k+1))=256*ofB (l.take k)+(at8 l k).toNat:=by
 rw [List.take_succ_eq_append_getElem h,zqI,at8_get _ _ h]
theorem ztn (l:List UInt8) (a:Nat):l.foldl (λa b=>256*a+b.toNat) a<(a+1)*256 ^ l.length:=by
 induction l generalizing a with
 | nil=>simp
 | cons c l C =>
  have:=C (256*a+c.toNat);have hc:=c.toNat_lt;rw [List.foldl_cons,List.length_cons,Nat.pow_succ,Nat.mul_comm (256 ^ l.length) 256,<- Nat.mul_assoc];exact Nat.lt_of_lt_of_le this (Nat.mul_le_mul_right _ vd)
theorem zsy (l:List UInt8):ofB l<256 ^ l.length:=by have:=ztn l 0;simpa [ofB] using this
theorem zto (l:List UInt8) (h:l.length<=4):ofB l<4294967296:=by
 have C:=zsy l;have I:256 ^ l.length<=256 ^ 4:=Nat.pow_le_pow_right (by decide) h;omega
theorem ziP (l:List UInt8) (k:Nat) (h:k<=4):ofB (l.take k)<4294967296:=zto _ (by rw [List.length_take];omega)
theorem zlf (n:Nat) (h:n<top):ofB (five n)=n:=by
 simp only [ofB,five,List.foldl_cons,List.foldl_nil,UInt8.toNat_ofNat'];unfold top at h;omega
def recB (l:List Nat):List UInt8:=l.flatMap five
theorem zbI (l:List Nat):(recB l).length=5*l.length:=by
 induction l with
 | nil=>rfl
 | cons x l C=>simp only [recB,List.flatMap_cons,List.length_append,zea,List.length_cons] at C ⊢;omega
theorem zog (l:List Nat) (x:Nat):recB (l ++ [x])=recB l ++ five x:=by simp [recB]
def lessB:List Nat->List Nat->Bool
  | _,[]=>false
  | [],_ :: _=>true
  | x :: a,y :: b=>decide (x<y) || (decide (x=y) && lessB a b)
def cmpB:List Nat->List Nat->Int
  | [],[]=>0
  | _ :: _,[]=>1
  | [],_ :: _=>-1
  | x :: a,y :: b=>if x<y then -1 else if y<x then 1 else cmpB a b
theorem zgd (a b:List Nat):decide (cmpB a b<0)=lessB a b:=by
 induction a generalizing b with
 | nil=>cases b <;> rfl
 | cons x a J =>
  cases b with
  | nil=>rfl
  | cons y b =>
   simp only [cmpB,lessB];by_cases C:x<y
   ·simp [C]
   by_cases I:y<x
   ·simp [C,I];omega
   obtain rfl:x=y:=(by omega);simp [J]
theorem zap (a:List Nat):lessB a a=false:=by
 induction a with
 | nil=>rfl
 | cons x a C=>simp [lessB,C]
theorem zge (a b:List Nat) (h:lessB a b=true):lessB b a=false:=by
 induction a generalizing b with
 | nil=>cases b <;> simp_all [lessB]
 | cons x a J =>
  cases b with
  | nil=>simp [lessB] at h
  | cons y b =>
   simp only [lessB,Bool.or_eq_true,decide_eq_true_eq,Bool.and_eq_true] at h;rcases h with h | ⟨C,I⟩
   ·simp only [lessB,Bool.or_eq_false_iff,decide_eq_false_iff_not,Bool.and_eq_false_iff];exact ⟨by omega,.inl vd⟩
   subst C;simp [lessB,J b I]
theorem zaI (a b:List Nat) (C:lessB a b=false) (I:lessB b a=false):a=b:=by
 induction a generalizing b with
 | nil=>cases b with
  | nil=>rfl
  | cons y b=>simp [lessB] at C
 | cons x a J =>
  cases b with
  | nil=>simp [lessB] at I
  | cons y b =>
   simp only [lessB,Bool.or_eq_false_iff,decide_eq_false_iff_not,Bool.and_eq_false_iff] at C I;obtain rfl:x=y:=(by omega);rw [J b (C.2.resolve_left (by simp)) (I.2.resolve_left (by simp))]
end Num
end
section
open Go.RowKit
open Mv Disk Num
namespace Rec
def eachN (w:Nat):Nat:=if w=0 then 1 else 5*w
def needN (w c:Nat):Nat:=1+(eachN w*c+63) / 64
def needP (w:Int) (c:Nat):Int × Int:=if w<0\/8<w\/65536<c then (0,1) else ((needN w.toNat c:Nat),0)
def padS (s:tt):tt:=bs (s.data.toList ++ List.replicate ((64-s.size % 64) % 64) 0)
def preS (w c:Nat):tt:=bs ([87,82,UInt8.ofNat w] ++ five c)
def headS (w c:Nat):tt:=padS (preS w c ++ Crc.tailS (sumOf (preS w c)))
def secAt (s:tt) (i:Nat):tt:=s.extract (64*i) (64*i+64)
noncomputable def refD (d:D):D × Int:=((openD d).1,1)
noncomputable def putTo (d:D) (s all:tt):Nat->D × Int
  | 0=>(d,0)
  | k+1=>if (putTo d s all k).2=0 then writeD (putTo d s all k).1 s ((k+1:Nat):Int) (secAt all k) else putTo d s all k
noncomputable def sealD (d:D) (s h:tt):D × Int :=
  if (writeD (settleD d λ_=>true) s 0 h).2=0 then (settleD (writeD (settleD d λ_=>true) s 0 h).1 λ_=>true,0) else writeD (settleD d λ_=>true) s 0 h
noncomputable def putP (d:D) (s:tt) (w c:Nat) (body:tt):D × Int :=
  if (newD d s (needN w c:Nat)).2≠0 then newD d s (needN w c:Nat) else
  if (putTo (newD d s (needN w c:Nat)).1 s (padS body) (needN w c-1)).2≠0 then putTo (newD d s (needN w c:Nat)).1 s (padS body) (needN w c-1) else
  sealD (putTo (newD d s (needN w c:Nat)).1 s (padS body) (needN w c-1)).1 s (headS w c)
noncomputable def writeTextP (d:D) (s text:tt):D × Int :=
  if 65536<text.size then refD d else opened d (putP d s 0 text.size text)
def zeroL (l:List UInt8):Bool:=l.all λb=>b == 0
def formP (s:tt):Nat × Nat × Int :=
  if s.data.toList.take 2 ≠ [87,82]\/8<(s.data.toList.getD 2 0).toNat\/zeroL (s.data.toList.drop 12)=false then (0,0,2) else
  if (openS (s.extract 0 12)).2≠0 then (0,0,(openS (s.extract 0 12)).2) else ((s.data.toList.getD 2 0).toNat,ofB ((s.data.toList.drop 3).take 5),0)
noncomputable def headP (d:D) (s:tt):Nat × Nat × Int :=
  if (readO d s 0).2≠0 then (0,0,(readO d s 0).2) else
  if (formP (readO d s 0).1).2.2≠0 then (0,0,(formP (readO d s 0).1).2.2) else
  if (needP (formP (readO d s 0).1).1 (formP (readO d s 0).1).2.1).2≠0\/(sectorsD d s).1≠(needN (formP (readO d s 0).1).1 (formP (readO d s 0).1).2.1:Nat) then (0,0,2) else
  formP (readO d s 0).1
noncomputable def bodyL (d:D) (s:tt):Nat->List UInt8
  | 0=>[]
  | k+1=>bodyL d s k ++ (readO d s ((k+1:Nat):Int)).1.data.toList
noncomputable def bodyP (d:D) (s:tt) (text:Bool):Nat × tt × Int :=
  if (headP d s).2.2≠0 then (0,ByteArray.empty,(headP d s).2.2) else
  if text≠decide ((headP d s).1=0) then (0,ByteArray.empty,7) else
  if zeroL ((bodyL d s (needN (headP d s).1 (headP d s).2.1-1)).drop (eachN (headP d s).1*(headP d s).2.1))=false then (0,ByteArray.empty,7) else
  ((headP d s).1,bs ((bodyL d s (needN (headP d s).1 (headP d s).2.1-1)).take (eachN (headP d s).1*(headP d s).2.1)),0)
/-! ### What stays -/
theorem zg8 {d:D} (I:Right d) (C:d.down=false) (J:d.fuse<=9223372036854775807) (s y:tt) (k:Int) :
  Right (writeD d s k y).1/\(writeD d s k y).1.fuse<=9223372036854775807/\((writeD d s k y).2=0->(writeD d s k y).1.down=false):=by
 unfold writeD;by_cases X:(placeD d s k).2≠0
 ·rw [if_pos X];exact ⟨I,J,λ_=>C⟩
 rw [if_neg X];by_cases V:y.size≠64
 ·rw [if_pos V];exact ⟨I,J,λ_=>C⟩
 rw [if_neg V];by_cases q2:d.waits.length=16384
 ·rw [if_pos q2];exact ⟨I,J,λ_=>C⟩
 rw [if_neg q2];have ac:=I.wl;have ad:=I.fu;have U:=zeC (data:=y) I (by simpa using X) (by simpa using V) vd;unfold fuseD;by_cases Z:(addW d (s,k,y)).fuse=0
 ·rw [if_pos Z];exact ⟨zdP U (by show -1<=d.fuse;omega) true,J,λh=>by simp at h⟩
 rw [if_neg Z];by_cases Y:0<(addW d (s,k,y)).fuse
 ·rw [if_pos Y];exact ⟨zdP U (by have:0<d.fuse:=Y;show -1<=d.fuse-1;omega) _,by show d.fuse-1<=_;omega,λ_=>C⟩
 rw [if_neg Y];exact ⟨U,J,λ_=>C⟩
theorem zcN {d:D} (U:Right d) (I:d.down=false) (J:d.fuse<=9223372036854775807) (s all:tt) (k:Nat) :
  Right (putTo d s all k).1/\(putTo d s all k).1.fuse<=9223372036854775807/\((putTo d s all k).2=0->(putTo d s all k).1.down=false):=by
 induction k with
 | zero=>exact ⟨U,J,λ_=>I⟩
 | succ k C =>
  unfold putTo;by_cases h:(putTo d s all k).2=0
  ·rw [if_pos h];exact zg8 C.1 (C.2.2 h) C.2.1 _ _ _
  rw [if_neg h];exact C
theorem zkc {d:D} {s all:tt} {k:Nat} (h:(putTo d s all k).2≠0):∀ n,k<=n->putTo d s all n=putTo d s all k:=by
 intro n I
 induction n with
 | zero=>(obtain rfl:k=0:=by omega);rfl
 | succ n C =>
  rcases Nat.lt_or_ge k (n+1) with h' | h'
  ·have:=C vd;rw [putTo,this,if_neg h]
  rw [show k=n+1 by omega]
theorem zdv (s:tt):(padS s).size=64*((s.size+63) / 64):=by
 unfold padS;rw [za2,List.length_append,List.length_replicate,ziO];omega
theorem zg9 {s:tt} {i:Nat} (h:64*i+64<=s.size):(secAt s i).size=64:=by
 unfold secAt;rw [ByteArray.size_extract];omega
theorem zbl (w c:Nat):1<=needN w c:=by unfold needN;omega
theorem zlg {w:Nat} (h:w<=8):eachN w<=40:=by unfold eachN;split <;> omega
theorem zhP {w c:Nat} (h:w<=8) (hc:c<=65536):needN w c<=40961:=by
 have C:=Nat.mul_le_mul (zlg h) hc;unfold needN;omega
end Rec
end
section
open Go.RowKit
open Crc (un v32 Tn)

theorem zoh {a b:tt} (h:a.data.toList=b.data.toList):a=b:=by rw [<- bs_of a,<- bs_of b,h]
theorem zvA (a b:tt):(a.toList == b.toList)=decide (a=b):=by
 rw [ByteArray.toList_eq,ByteArray.toList_eq,Bool.eq_iff_iff];simp only [beq_iff_eq,decide_eq_true_eq];exact ⟨zoh,λh=>by rw [h]⟩
theorem zlh (s:tt):s.data.toList.length=s.size:=by simp
theorem ziQ (s:tt) (k:Nat):(s.extract 0 k).data.toList=s.data.toList.take k:=by rw [Lib.extract_data];simp
theorem ziR (s:tt) (k:Nat):(s.extract k s.size).data.toList=s.data.toList.drop k:=by
 rw [Lib.extract_data];exact List.take_of_length_le (by simp)
theorem zkd (a b:tt):(a ++ b).data.toList=a.data.toList ++ b.data.toList:=by simp

namespace Crc
/-! ### Cut -/
/-! ### Byte by byte -/
/-! ### Four bytes side by side -/
/-! ### Three texts -/
end Crc
end
section
open Go.RowKit
open Crc (un v32 Tn)
namespace Crc
def frameB (s:tt):tt:=s ++ tailS (sumOf s)
theorem zgf (s:tt):(frameB s).data.toList=s.data.toList ++ (tailS (sumOf s)).data.toList:=zkd _ _
theorem zeb (s:tt):(frameB s).size=s.size+4:=by simp [frameB,zb1]
theorem zoi (f:tt):(body f).data.toList=f.data.toList.take (f.size-4):=ziQ _ _
theorem zke (f:tt):(tailOf f).data.toList=f.data.toList.drop (f.size-4):=ziR _ _
theorem zg_ (s:tt):body (frameB s)=s:=by
 apply zoh;rw [zoi,zgf,zeb,Nat.add_sub_cancel,<- zlh s,List.take_left]
theorem ziS (s:tt):tailOf (frameB s)=tailS (sumOf s):=by
 apply zoh;rw [zke,zgf,zeb,Nat.add_sub_cancel,<- zlh s,List.drop_left]
theorem zqJ (f:tt):fits f=true <-> tailS (sumOf (body f))=tailOf f:=by
 unfold fits;rw [zvA];simp
theorem zd_ (s:tt) (h:s.size<=65536):openS (frameB s)=(s,0):=by
 unfold openS;rw [zeb,if_neg vd,if_neg vd,if_pos ((zqJ _).2 (by rw [zg_,ziS])),zg_]
end Crc
end
section
open Go.RowKit
open Mv Disk Num
namespace Rec
theorem zgg {d:D} {s:tt} {n:Int} (h:(newD d s n).2=0):nm s/\1<=n/\has d.ext s=false/\(used d.ext:Int)+n<=d.size/\(newD d s n).1 = { d with ext:=insAt d.ext (pos d.ext s) (s,zeros n.toNat) }:=by
 unfold newD at h ⊢;by_cases I : ¬ nm s\/n<1
 ·rw [if_pos I] at h;simp at h
 rw [if_neg I] at h ⊢;by_cases C:has d.ext s=true
 ·rw [if_pos C] at h;simp at h
 rw [if_neg C] at h ⊢;by_cases J:d.size-used d.ext<n
 ·rw [if_pos J] at h;simp at h
 rw [if_neg J];refine ⟨by by_cases h:nm s;exact h;exact absurd (.inl h) I,by omega,by simpa using C,by omega,rfl⟩
theorem ztp {l:List Ext} {i:Nat} {x:Ext} {o:tt} (h:o≠x.1):has (insAt l i x) o=has l o:=by
 rw [Bool.eq_iff_iff,zaO,zaO];constructor
 ·rintro ⟨y,hy,e⟩;rcases zb0.1 hy with rfl | hy
  ·exact absurd e.symm h
  exact ⟨y,hy,e⟩
 rintro ⟨y,hy,e⟩;exact ⟨y,zb0.2 (.inr hy),e⟩
section
variable {d:D} {s all:tt} {n:Int}
theorem zqK (I:Right d) (h:(newD d s n).2=0):exOf (newD d s n).1.ext s=(s,zeros n.toNat)/\has (newD d s n).1.ext s=true:=by
 obtain ⟨U,X,C,V,J⟩:=zgg h;rw [J];have hm:(s,zeros n.toNat) ∈ insAt d.ext (pos d.ext s) (s,zeros n.toNat):=zb0.2 (.inl rfl);exact ⟨zbB (zj_ I.ex.asc C) hm,zaO.2 ⟨_,hm,rfl⟩⟩
theorem zha (C:Right d) (h:(newD d s n).2=0) {o:tt} (V:o≠s):has (newD d s n).1.ext o=has d.ext o/\(has d.ext o=true->exOf (newD d s n).1.ext o=exOf d.ext o):=by
 obtain ⟨X,Z,J,Y,U⟩:=zgg h;rw [U];refine ⟨ztp V,λhh=>?_⟩;obtain ⟨x,I,rfl⟩:=zaO.1 hh;rw [zbB C.ex.asc I];exact zbB (zj_ C.ex.asc J) (zb0.2 (.inr I))
theorem zkf (C:Right d) (h:(newD d s n).2=0) {o:tt} (I:o≠s) (k:Int):(placeD (newD d s n).1 o k).2=(placeD d o k).2:=by
 obtain ⟨e1,e2⟩:=zha C h I;unfold placeD;rw [e1];by_cases q:has d.ext o=true
 ·rw [if_pos q,if_pos q,e2 q];split <;> rfl
 rw [if_neg q,if_neg q]
theorem zmI (C:Right d) (h:(newD d s n).2=0) {o:tt} (J:o≠s) {k:Int} (U:(placeD d o k).2=0):seen (newD d s n).1 o k=seen d o k:=by
 obtain ⟨X,Z,V,Y,I⟩:=zgg h;have e:=(zha C h J).2 (zeB U).1;unfold seen;rw [e,I]
def secsW (s all:tt) (k:Nat):List Wr:=(List.range k).map λi=>(s,((i+1:Nat):Int),secAt all i)
theorem ze_ (s all:tt) (k:Nat):secsW s all (k+1)=secsW s all k ++ [(s,((k+1:Nat):Int),secAt all k)]:=by
 unfold secsW;rw [List.range_succ,List.map_append];rfl
noncomputable def putE' (d:D) (s all:tt) (n:Int) (k:Nat) (f:Int):D:={ (newD d s n).1 with waits:=d.waits ++ secsW s all k,fuse:=f }
theorem zoj (X:Right d) (I:d.down=false) (Z:d.fuse<=9223372036854775807) (hn:(newD d s n).2=0):∀ k,(putTo (newD d s n).1 s all k).2=0 ->
  ∃ f,-1<=f/\f<=9223372036854775807/\putTo (newD d s n).1 s all k=(putE' d s all n k f,0):=by
 obtain ⟨U,V,J,_⟩:=(zka (s:=s) (n:=n) X I).2 hn;obtain ⟨_,_,_,_,h5⟩:=zgg hn;intro k
 induction k with
 | zero =>
  intro _;refine ⟨d.fuse,X.fu,Z,?_⟩;show ((newD d s n).1,(0:Int))=_;unfold putE' secsW;rw [h5];simp
 | succ k ih =>
  intro h;by_cases q:(putTo (newD d s n).1 s all k).2=0
  ·obtain ⟨kR,kf,C⟩:=zcN U V (by rw [J];exact Z) s all k;have C:=C q;rw [putTo,if_pos q] at h ⊢;obtain ⟨f,f0,f1,e⟩:=ih q;rw [e] at h kR C kf ⊢;have Y:=zdt kR C (writeD (putE' d s all n k f) s ((k+1:Nat):Int) (secAt all k));obtain ⟨_,_,_,_,_,g,g0,g1,e2⟩:=zhL (d:=putE' d s all n k f) (s:=s) (data:=secAt all k) (k:=((k+1:Nat):Int)) kf (by rw [Y];exact h);rw [Y] at e2;refine ⟨g,g0,g1,e2.trans ?_⟩;unfold putE' addW;simp only [ze_,List.append_assoc]
  rw [putTo,if_neg q] at h;exact absurd h q
theorem zli (Z:Right d) (U:(newD d s n).2=0) (o:tt) (a:Int):∀ k f,seen (putE' d s all n k f) o a=if o=s/\1<=a/\a<=k then secAt all (a.toNat-1) else seen (newD d s n).1 o a:=by
 obtain ⟨_,_,_,_,J⟩:=zgg U;intro k
 induction k with
 | zero =>
  intro f;rw [if_neg vd];unfold putE' secsW;rw [J];simp only [List.range_zero,List.map_nil,List.append_nil];rfl
 | succ k V =>
  intro f;have e:putE' d s all n (k+1) f=addW (putE' d s all n k f) (s,((k+1:Nat):Int),secAt all k):=by
   unfold putE' addW;simp only [ze_,List.append_assoc]
  rw [e,zhJ,V f];by_cases q:s=o/\((k+1:Nat):Int)=a
  ·rw [if_pos q,if_pos ⟨q.1.symm,by omega,by omega⟩];rw [show a.toNat-1=k by omega]
  rw [if_neg q];by_cases C:o=s/\1<=a/\a<=k
  ·rw [if_pos C,if_pos ⟨C.1,C.2.1,by omega⟩]
  rw [if_neg C,if_neg (λ⟨I,X,Y⟩=>C ⟨I,X,by
   rcases Int.lt_or_le a (k+1) with h | h
   ·omega
   exact absurd ⟨I.symm,by omega⟩ q⟩)]
end
structure FileR (z:D) (s:ByteArray) (w c:Nat) (body:ByteArray):Prop where
  head:readO z s 0=(headS w c,0)
  secs:∀ i,i<needN w c-1->readO z s ((i+1:Nat):Int)=(secAt (padS body) i,0)
  size:sectorsD z s=(((needN w c:Nat):Int),0)
theorem zec {z:D} {s:tt} (I:Right z) (C:z.down=false) (h:has z.ext s=true):sectorsD z s=(((sec (exOf z.ext s):Nat):Int),0):=by
 unfold sectorsD;rw [zd_ I C,if_neg (by simp),if_pos h]
theorem sealed {e:D} {s:tt} {w c:Nat} {body:tt} (J:Right e) (C:e.down=false) (hf:e.fuse<=9223372036854775807) (hh:has e.ext s=true) (hs:sec (exOf e.ext s)=needN w c)
  (hb:∀ i,i<needN w c-1->seen e s ((i+1:Nat):Int)=secAt (padS body) i) (h:(sealD e s (headS w c)).2=0) :
  ∃ z,sealD e s (headS w c)=(z,0)/\Right z/\z.down=false/\z.fuse<=9223372036854775807/\z.waits = []/\FileR z s w c body /\ ∀ o k,o≠s->readO z o k=readO e o k:=by
 have h1:=zbl w c;have Z:=zcw J (λ_=>true);unfold sealD at h ⊢;by_cases q:(writeD (settleD e λ_=>true) s 0 (headS w c)).2=0
 ·rw [if_pos q];have ho:=zdt Z C (writeD (settleD e λ_=>true) s 0 (headS w c));obtain ⟨_,_,q1,q2,q3,f,f0,f1,e2⟩:=zhL (d:=settleD e λ_=>true) (s:=s) (data:=headS w c) (k:=0) hf (by rw [ho];exact q);rw [ho] at e2;rw [e2];have I:Right { addW (settleD e λ_=>true) (s,0,headS w c) with fuse:=f }:=zdP (zeC Z q1 q2 q3) f0 (addW (settleD e λ_=>true) (s,0,headS w c)).down;have U:=zcw I (λ_=>true);have Y:∀ o k,(placeD { addW (settleD e λ_=>true) (s,0,headS w c) with fuse:=f } o k).2=(placeD e o k).2:=λo k=>by
   show (placeD (settleD e λ_=>true) o k).2=_;exact zdu J _ o k
  have X:∀ o k,(placeD e o k).2=0->readO (settleD { addW (settleD e λ_=>true) (s,0,headS w c) with fuse:=f } λ_=>true) o k=(if s=o/\0=k then headS w c else seen e o k,0):=λo k V=>by
   refine (zda U C o k).trans ?_;rw [zdu I,Y,V,if_neg (by simp),zd9 I (by rw [Y];exact V)];have e3:seen { addW (settleD e λ_=>true) (s,0,headS w c) with fuse:=f } o k=if s=o/\0=k then headS w c else seen (settleD e λ_=>true) o k:=zhJ _ s 0 (headS w c) o k
   have e4:=zd9 J V (λ_=>true);refine Prod.ext ?_ rfl;show seen { addW (settleD e λ_=>true) (s,0,headS w c) with fuse:=f } o k=_;rw [e3,e4];rfl
  have ac:∀ k:Nat,k<needN w c->(placeD e s (k:Int)).2=0:=λk hk=>by
   unfold placeD;rw [if_pos hh,if_neg (by rw [hs];omega)]
  refine ⟨_,rfl,U,C,f1,rfl,⟨?_,λi hi=>?_,?_⟩,λo k ad=>?_⟩
  ·refine (X s 0 (ac 0 vd)).trans ?_;rw [if_pos ⟨rfl,rfl⟩]
  ·refine (X s _ (ac (i+1) vd)).trans ?_;rw [if_neg vd,hb i hi]
  ·have aa:has (settleD { addW (settleD e λ_=>true) (s,0,headS w c) with fuse:=f } λ_=>true).ext s=true/\exOf (settleD { addW (settleD e λ_=>true) (s,0,headS w c) with fuse:=f } λ_=>true).ext s=doneX (λ_=>true) (addW (settleD e λ_=>true) (s,0,headS w c)).waits (doneX (λ_=>true) e.waits (exOf e.ext s)):=by
    have a1:has (settleD e λ_=>true).ext s=true:=(zhH (f:=doneX (λ_=>true) e.waits) (λ_=>rfl) e.ext s).trans hh;refine ⟨(zhH (f:=doneX (λ_=>true) (addW (settleD e λ_=>true) (s,0,headS w c)).waits) (λ_=>rfl) (settleD e λ_=>true).ext s).trans a1,?_⟩;have b1:exOf (settleD e λ_=>true).ext s=doneX (λ_=>true) e.waits (exOf e.ext s):=zeA (f:=doneX (λ_=>true) e.waits) (λ_=>rfl) J.ex.asc hh;exact (zeA (f:=doneX (λ_=>true) (addW (settleD e λ_=>true) (s,0,headS w c)).waits) (λ_=>rfl) Z.ex.asc a1).trans (by rw [b1])
   rw [zec U C aa.1,aa.2];have c1:(doneX (λ_=>true) e.waits (exOf e.ext s)) ∈ (settleD e λ_=>true).ext:=List.mem_map_of_mem (zbr J.ex.asc hh).1;have c2:sec (doneX (λ_=>true) (addW (settleD e λ_=>true) (s,0,headS w c)).waits (doneX (λ_=>true) e.waits (exOf e.ext s)))=sec (doneX (λ_=>true) e.waits (exOf e.ext s)):=by
    unfold sec;rw [zb8 I (λ_=>true) c1]
   have c3:sec (doneX (λ_=>true) e.waits (exOf e.ext s))=sec (exOf e.ext s):=by
    unfold sec;rw [zb8 J (λ_=>true) (zbr J.ex.asc hh).1]
   rw [c2,c3,hs]
  by_cases V:(placeD e o k).2=0
  ·refine (X o k V).trans ?_;rw [if_neg (λh=>ad h.1.symm),zda J C,V,if_neg (by simp)]
  refine (zda U C o k).trans ?_;rw [zdu I,Y,zda J C,if_pos V,if_pos V]
 rw [if_neg q] at h;exact absurd h q
end Rec
end
section
open Go.RowKit
namespace Mv
/-! ### Less is known -/
def Mem.Lo (S' S:Mem):Prop:=(∀ b r,S'.own b=some r->S.own b=some r)/\(∀ a v,S'.ro a=some v->S.ro a=some v) /\
  ∀ g l,S'.ro.z g=some l->S.ro.z g=some l/\((∃ v,S.ro ⟨g,0,none⟩=some v) -> ∃ v,S'.ro ⟨g,0,none⟩=some v)
theorem Mem.Less.lo {S S':Mem} (h:S'.Less S):S'.Lo S:=⟨h.1,λa v x=>by rw [<- h.2];exact x,λg l x=>by rw [h.2] at x ⊢;exact ⟨x,id⟩⟩
theorem Mem.Lo.trans {S S' C:Mem} (h:C.Lo S') (k:S'.Lo S):C.Lo S :=
 ⟨λb r x=>k.1 b r (h.1 b r x),λa v x=>k.2.1 a v (h.2.1 a v x),λg l x=>by
  obtain ⟨U,V⟩:=h.2.2 g l x;obtain ⟨I,J⟩:=k.2.2 g l U;exact ⟨I,λz=>V (J z)⟩⟩
theorem View.lo {S S':Mem} {w:tv} (h:View S w) (hl:S'.Lo S):View S' w :=
 ⟨λb r hb=>h.own b r (hl.1 b r hb),λa v J=>by
  obtain ⟨C,I⟩:=h.ro a v (hl.2.1 a v J);refine ⟨C,?_⟩;cases e:S'.own a.block with
  | none=>rfl
  | some r=>(have:=hl.1 _ _ e;rw [I] at this;cases this),λg l V=>by
  obtain ⟨X,Y⟩:=hl.2.2 g l V;obtain ⟨C,I,U⟩:=h.fz g l X;refine ⟨?_,Y I,U⟩;cases e:S'.own g with
  | none=>rfl
  | some r=>have:=hl.1 _ _ e;rw [C] at this;cases this⟩
theorem Step.loL {S S0 S':Mem} {w w':tv} (h:Step S0 w S' w') (hl:S0.Lo S):Step S w S' w' :=
 ⟨h.view,h.os,h.tape,h.output,h.size,λk hk I=>h.block k hk (by
  cases e:S0.own k with
  | none=>rfl
  | some r=>have:=hl.1 _ _ e;rw [I] at this;cases this),λk hk=>by
   rcases h.dom k hk with x | x
   ·cases e:S0.own k with
    | none=>exact absurd e x
    | some r=>exact .inl (by rw [hl.1 _ _ e];simp)
   ·exact .inr x,λa v C=>by
   rcases h.ro a v C with x | x | x
   ·exact .inl (hl.2.1 _ _ x)
   ·refine .inr (.inl ?_);cases e:S0.own a.block with
    | none=>exact absurd e x
    | some r=>rw [hl.1 _ _ e];simp
   exact .inr (.inr x)⟩
theorem AWP.lo {P:tz} {N:Nat} {c:Code} {Q:Exit->Env->Mem->Prop} {E:Env} {S:Mem} (S':Mem) (hl:S'.Lo S) (h:AWP P N c Q E S'):AWP P N c Q E S:=λa w U I =>
 wp_mono (h a w U (I.lo hl)) λ_ _ _ ⟨C,J,k,g,s⟩=>⟨C,J,k,g,s.loL hl⟩
theorem ACall.over {P:tz} {f:tA} {args:Array tu} {S T:Mem} {R:tu->Mem->Prop} (h:ACall P f args S R) (hl:S.Less T) :
  ACall P f args T λv T'=>∃ S',R v S'/\S'.Less T' /\ ∀ k r,S.own k=none->T.own k=some r->T'.own k=some r/\S'.own k=none:=λw I=>by
 classical
 refine (h w (I.less hl)).mono λe w' ⟨v,S',he,hR,st⟩=>?_;have U:∀ a u,S.ro a=some u->T.ro a=some u:=λa u C=>by rw [<- hl.2];exact C
 have V:∀ k r,S.own k=none->T.own k=some r->S'.own k=none:=λk r h1 Z=>by
  cases e0:S'.own k with
  | none=>rfl
  | some r0 =>
   rcases st.dom k (by rw [e0];simp) with x | x
   ·exact absurd h1 x
   have:=I.lt Z;omega
 have Y:∀ k,S.own k≠none->T.own k≠none:=λk hk=>by
  cases e0:S.own k with
  | none=>exact absurd e0 hk
  | some r=>rw [hl.1 k r e0];simp
 have ac:∀ a u,S'.ro a=some u->S.own a.block=none->T.own a.block=none:=λa u C hn=>by
  cases e0:T.own a.block with
  | none=>rfl
  | some r =>
   rcases st.ro a u C with x | x | x
   ·have:=(I.ro a u (U a u x)).2;rw [e0] at this;exact this
   ·exact absurd hn x
   have:=I.lt e0;omega
 let T':Mem:=⟨λk=>if S.own k=none/\T.own k≠none then T.own k else S'.own k,S'.ro⟩;have J:∀ k,T'.own k=if S.own k=none/\T.own k≠none then T.own k else S'.own k:=λ_=>rfl
 have X:∀ a u,S'.ro a=some u->T'.own a.block=none:=λa u C=>by
  rw [J];split
  ·rename_i x;exact ac a u C x.1
  exact (st.view.ro a u C).2
 refine ⟨v,T',he,⟨S',hR,⟨λk r hk=>?_,rfl⟩,λk r h1 Z=>⟨by rw [J,if_pos ⟨h1,by rw [Z];simp⟩];exact Z,V k r h1 Z⟩⟩,⟨⟨λk r hk=>?_,λa u C=>⟨(st.view.ro a u C).1,X a u C⟩,λg l hg=>?_⟩,st.os,st.tape,st.output,st.size,λk hk hn=>?_,λk hk=>?_,λa u C=>?_⟩⟩
 ·rw [J];split
  ·rename_i x;cases e0:T.own k with
   | none=>exact absurd e0 x.2
   | some r0=>rw [V k r0 x.1 e0] at hk;cases hk
  exact hk
 ·rw [J] at hk;split at hk
  ·rename_i x;rw [st.block k (I.lt hk) x.1];exact I.own k r hk
  exact st.view.own k r hk
 ·obtain ⟨_,⟨u,C⟩,h3⟩:=st.view.fz g l hg;exact ⟨X _ u C,⟨u,C⟩,h3⟩
 ·refine st.block k hk ?_;cases e0:S.own k with
  | none=>rfl
  | some r=>have:=hl.1 k r e0;rw [hn] at this;cases this
 ·rw [J] at hk;split at hk
  ·exact .inl hk
  rcases st.dom k hk with x | x
  ·exact .inl (Y k x)
  exact .inr x
 rcases st.ro a u C with x | x | x
 ·exact .inl (U a u x)
 ·exact .inr (.inl (Y _ x))
 exact .inr (.inr x)
theorem zbs {S T:Mem} {b:Nat} {r:Blk} (h:S.Less T) (C:S.own b=none):S.Less (T.set b r) :=
 ⟨λk r' hk=>by rw [vg _ _ (λe=>by rw [e,C] at hk;cases hk)];exact h.1 k r' hk,h.2⟩
theorem ACall.seen {P:tz} {f:tA} {args:Array tu} {S:Mem} {R:tu->Mem->Prop} {p:Prop} (I:∀ w,View S w->p) (h:p->ACall P f args S R):ACall P f args S R:=λw C=>h (I w C) w C
def Mem.fr (S:Mem) (g:Nat) (l:List UInt8):Mem:=⟨S.own,⟨λa=>if a.block=g then (if a.spot.isSome then none else (cellsB l)[a.off]?) else S.ro a,λk=>if k=g then some l else S.ro.z k⟩⟩
theorem u_ {S:Mem} {g:Nat} {l:List UInt8} (I:Fresh S g) (J:S.ro.z g=none):S.Lo (S.fr g l) :=
 ⟨λb r h=>h,λa v h=>by
  show (if a.block=g then _ else S.ro a)=some v;rw [if_neg (I.2 a v h)];exact h,λk x h=>by
  have hk:k≠g:=λe=>by rw [e,J] at h;cases h
  refine ⟨?_,λ⟨v,C⟩=>⟨v,?_⟩⟩
  ·show (if k=g then some l else S.ro.z k)=some x;rw [if_neg hk];exact h
  change (if k=g then _ else S.ro ⟨k,0,none⟩)=some v at C;rw [if_neg hk] at C;exact C⟩
theorem u6 {S:Mem} {w:tv} (C:View S w) {g:Nat} {r:Blk} (hb:S.own g=some r):S.ro.z g=none:=by
 cases e:S.ro.z g with
 | none=>rfl
 | some l=>have:=(C.fz g l e).1;rw [hb] at this;cases this
theorem uF {S:Mem} {g b:Nat} {l:List UInt8} {r:Blk} (C:Fresh S g) (I:S.ro.z g=none) (hb:Fresh S b) (J:b≠g):S.Lo ((S.fr g l).set b r) :=
 (u_ C I).trans ⟨λk r' h=>by
  by_cases e:k=b
  ·subst e;have:=hb.1;rw [show (S.fr g l).own k=S.own k from rfl,this] at h;cases h
  rw [vg _ _ e];exact h,λa v h=>h,λk x h=>⟨h,id⟩⟩
section
variable {P:tz} {N:Nat} {ops:Array Oper} {E:Env} {S:Mem} {K:Env->Mem->Prop}
variable {dst:Option Nat} {ty:tx} {pos:String} {aft:Array Edge} {gd:Option (Nat × Bool)}
theorem vS {x:tw} {a:Option Addr} {n c:Nat} {C:Array tx} (I:ev E x=some (.slice a n c)) (hc:a=none\/c≠0):ACalm P N ⟨dst,.call ⟨.builtin .unsafeSliceData,#[x],C⟩,ty,pos,aft,gd⟩ E S (.pointer a):=λk w g J=>by
 have h:(Builtin.unsafeSliceData_ C ty #[.slice a n c]).run P w = .ok (.pointer a) w:=by
  cases a with
  | none=>exact Lib.run_unsafeSliceData_nil _ _ _ _ _
  | some a=>exact Lib.run_unsafeSliceData_row _ _ _ _ _ _ (hc.resolve_left (λh=>by cases h))
 simp [execOp,resolve,invoke,builtin,g.ev I,h]
theorem zcx {w:tv} {g n k:Nat} (h:k≠g):(w.freeze ⟨g,0,none⟩ n).heap[k]?=w.heap[k]?:=by
 unfold World.freeze;split
 ·rfl
 simp only [Array.getElem?_modify];rw [if_neg (Ne.symm h)]
theorem zok {w:tv} {g n:Nat} {cur:Array tu} {T:tx} {fz:Nat × Nat} (h:w.heap[g]?=some (.cells cur T fz)) (C:n≠0):∃ hi,n<=hi/\(w.freeze ⟨g,0,none⟩ n).heap[g]?=some (.cells cur T (0,hi)):=by
 obtain ⟨lo,hi⟩:=fz;unfold World.freeze;rw [if_neg C];simp only [Array.getElem?_modify,h,if_true,Option.map_some];by_cases e:lo=hi
 ·exact ⟨n,Nat.le_refl _,by simp [e]⟩
 exact ⟨max hi n,by omega,by simp [e]⟩
theorem zkg (w:tv) (a:Addr) (n:Nat):(w.freeze a n).heap.size=w.heap.size:=by
 unfold World.freeze;split <;> simp
theorem zkh (w:tv) (a:Addr) (n:Nat):(w.freeze a n).os=w.os/\(w.freeze a n).tape=w.tape/\(w.freeze a n).output=w.output:=by
 unfold World.freeze;split <;> exact ⟨rfl,rfl,rfl⟩
theorem ziT {w:tv} {g n hi:Nat} {cur:Array tu} {T:tx} (h:w.heap[g]?=some (.cells cur T (0,hi))) (J:n<=hi):w.freeze ⟨g,0,none⟩ n=w:=by
 unfold World.freeze;by_cases e:n=0
 ·rw [if_pos e]
 rw [if_neg e];have hh:(w.heap.modify g λo=>match o with
  | .cells c elem (lo,hi)=>.cells c elem (if lo == hi then (0,0+n) else (min lo 0,max hi (0+n)))
  | o=>o)=w.heap:=by
  apply Array.ext_getElem?;intro i;rw [Array.getElem?_modify];by_cases C:g=i
  ·subst C;rw [if_pos rfl,h];simp only [Option.map_some];have I:((0:Nat) == hi)=false:=(by simp;omega);rw [I];simp;omega
  rw [if_neg C]
 exact congrArg (λh=>{ w with heap:=h }) hh
theorem Step.fr {w:tv} {g room:Nat} {l:List UInt8} (I:View S w) (hb:S.own g=some ⟨5,cellsB l,room⟩) (V:l ≠ []):Step S w ((S.del g).fr g l) (w.freeze ⟨g,0,none⟩ l.length):=by
 have hl:l.length≠0:=by simpa using V
 obtain ⟨cur,fz,e1,e2,e3,e4⟩:=I.own g _ hb;obtain ⟨hi,X,J⟩:=zok e1 hl;obtain ⟨Z,r2,Y⟩:=zkh w ⟨g,0,none⟩ l.length;have hd:∀ k,((S.del g).fr g l).own k=if k=g then none else S.own k:=λk=>rfl
 have C:∀ a v,(if a.block=g then (if a.spot.isSome then none else (cellsB l)[a.off]?) else S.ro a)=some v->(w.freeze ⟨g,0,none⟩ l.length).cell? a=some v:=by
  intro a v h;by_cases e:a.block=g
  ·rw [if_pos e] at h;split at h
   ·cases h
   rename_i hs;have:=zce e2 h;unfold World.cell?;rw [e,J];simp only [hs];simpa using this
  rw [if_neg e] at h;have:=(I.ro a v h).1;unfold World.cell? at this ⊢;rw [zcx e];exact this
 refine ⟨⟨λk r hk=>?_,λa v h=>⟨C a v h,?_⟩,λk x hk=>?_⟩,Z,r2,Y,by rw [zkg];exact Nat.le_refl _,λk hk U=>zcx (λe=>by rw [e,hb] at U;cases U),λk hk=>?_,λa v h=>?_⟩
 ·rw [hd] at hk;by_cases e:k=g
  ·rw [if_pos e] at hk;cases hk
  rw [if_neg e] at hk;rw [zcx e];exact I.own k r hk
 ·rw [hd];by_cases e:a.block=g
  ·rw [if_pos e]
  rw [if_neg e];change (if a.block=g then _ else S.ro a)=some v at h;rw [if_neg e] at h;exact (I.ro a v h).2
 ·change (if k=g then some l else S.ro.z k)=some x at hk;rw [hd];by_cases e:k=g
  ·rw [if_pos e] at hk ⊢;obtain rfl:l=x:=Option.some.inj hk;subst e;refine ⟨rfl,?_,cur,hi,J,X,?_⟩
   ·cases l with
    | nil=>exact absurd rfl V
    | cons c l=>exact ⟨_,show (if k=k then (if (none:Option _).isSome then none else (cellsB (c :: l))[0]?) else _)=some _ from by rw [if_pos rfl];rfl⟩
   exact e2
  rw [if_neg e] at hk ⊢;obtain ⟨z1,⟨v,z2⟩,z3⟩:=I.fz k x hk;exact ⟨z1,⟨v,show (if k=g then _ else S.ro ⟨k,0,none⟩)=some v from by rw [if_neg e];exact z2⟩,z3.of_block (zcx e)⟩
 ·rw [hd] at hk;by_cases e:k=g
  ·rw [if_pos e] at hk;exact absurd rfl hk
  rw [if_neg e] at hk;exact .inl hk
 change (if a.block=g then _ else S.ro a)=some v at h;by_cases e:a.block=g
 ·exact .inr (.inl (by rw [e,hb];simp))
 rw [if_neg e] at h;exact .inl h
theorem zsz {w:tv} {g:Nat} {l:List UInt8} {J it:tx} {cur:Array tu} {fz:Nat × Nat} (C:P.underlying J=some (.pointer 5)) (hc:P.cellsOf 5=1) (e1:w.heap[g]?=some (.cells cur 5 fz)) (e2:cellsB l <+: cur.toList) (V:l ≠ []) (I:l.length<=9223372036854775807) :
  (Builtin.unsafeString_ #[J,it] ty #[.pointer (some ⟨g,0,none⟩),.int .i64 l.length]).run P w = .ok (.string (bs l)) (w.freeze ⟨g,0,none⟩ l.length):=by
 refine Lib.run_unsafeString_row w J it ty _ C hc g cur.size (by simp [World.shape?,e1]) l V ?_ I λj x U=>?_
 ·have:=e2.length_le;rw [zaD] at this;simpa using this
 have:=zce e2 (j:=j) (v:=.int .u8 (nb x)) (by simp [cellsB,U]);rw [zaz];unfold World.cell?;simp only [e1,Nat.zero_add];simpa [nb] using this
theorem uY {os:List Oper} {x y:tw} {g room d:Nat} {l:List UInt8} {J it:tx} (Z:d<N) (C:P.underlying J=some (.pointer 5)) (hc:P.cellsOf 5=1) (hx:ev E x=some (.pointer (some ⟨g,0,none⟩))) (hy:ev E y=some (.int .i64 (l.length:Int))) (hb:S.own g=some ⟨5,cellsB l,room⟩) (X:l ≠ []) (I:l.length<=9223372036854775807)
  (h:ARun P N ops os K ((d,.string (bs l)) :: E) ((S.del g).fr g l)):ARun P N ops (⟨some d,.call ⟨.builtin .unsafeString,#[x,y],#[J,it]⟩,ty,pos,aft,none⟩ :: os) K E S:=λa w g' V=>by
 rw [if_pos (by simp [Region.wanted])];unfold Oper.wp;obtain ⟨cur,fz,e1,e2,e3,e4⟩:=V.own g _ hb;have Y:=zsz (ty:=ty) (it:=it) (w:=w) C hc e1 e2 X I;have U:(execOp a.eval ⟨some d,.call ⟨.builtin .unsafeString,#[x,y],#[J,it]⟩,ty,pos,aft,none⟩).run P w = .ok (.value (.string (bs l))) (w.freeze ⟨g,0,none⟩ l.length):=by
  simp [execOp,resolve,invoke,builtin,g'.ev hx,g'.ev hy,Y]
 rw [U];exact ⟨_,_,h,g'.put Z _,Step.fr V hb X⟩
theorem te {os:List Oper} {x y:tw} {g d:Nat} {l:List UInt8} {J it:tx} (Y:d<N) (C:P.underlying J=some (.pointer 5)) (hc:P.cellsOf 5=1) (Z:ev E x=some (.pointer (some ⟨g,0,none⟩))) (hy:ev E y=some (.int .i64 (l.length:Int))) (hb:S.ro.z g=some l) (h0:l ≠ []) (I:l.length<=9223372036854775807)
  (h:ARun P N ops os K ((d,.string (bs l)) :: E) S):ARun P N ops (⟨some d,.call ⟨.builtin .unsafeString,#[x,y],#[J,it]⟩,ty,pos,aft,none⟩ :: os) K E S:=λa w g' V=>by
 rw [if_pos (by simp [Region.wanted])];unfold Oper.wp;obtain ⟨_,_,cur,hi,e1,e3,e2⟩:=V.fz g l hb;have X:=zsz (ty:=ty) (it:=it) (w:=w) C hc e1 e2 h0 I;rw [ziT e1 e3] at X;have U:(execOp a.eval ⟨some d,.call ⟨.builtin .unsafeString,#[x,y],#[J,it]⟩,ty,pos,aft,none⟩).run P w = .ok (.value (.string (bs l))) w:=by
  simp [execOp,resolve,invoke,builtin,g'.ev Z,g'.ev hy,X]
 rw [U];exact ⟨_,_,h,g'.put Y _,Step.refl V⟩
theorem uE {os:List Oper} {x y:tw} {p:Option Addr} {d:Nat} {C it:tx} (V:d<N) (X:ev E x=some (.pointer p)) (Y:ev E y=some (.int .i64 0))
  (h:ARun P N ops os K ((d,.string (bs [])) :: E) S):ARun P N ops (⟨some d,.call ⟨.builtin .unsafeString,#[x,y],#[C,it]⟩,ty,pos,aft,none⟩ :: os) K E S:=λa w g' J=>by
 rw [if_pos (by simp [Region.wanted])];unfold Oper.wp;have U:=Lib.run_unsafeString_none (P:=P) w C it ty p;have I:(execOp a.eval ⟨some d,.call ⟨.builtin .unsafeString,#[x,y],#[C,it]⟩,ty,pos,aft,none⟩).run P w = .ok (.value (.string (bs []))) w:=by
  simp [execOp,resolve,invoke,builtin,g'.ev X,g'.ev Y,U];rfl
 rw [I];exact ⟨_,_,h,g'.put V _,Step.refl J⟩
/-! ### Texts that are appended -/
theorem zed (s:tt):Lib.strCells s=cellsB s.data.toList:=rfl
theorem ug {os:List Oper} {T U e:tx} {y:Nat} {z:tu} {x1 x2:tw} {b k c:Nat} {xs:List tu} {s:tt} {d:Nat} (hn:d<N) (hT:slT P T=some (e,1,y,[z])) (hU:strT P U=true)
  (hx:ev E x1=some (.slice (some ⟨b,0,none⟩) k c)) (hb:S.own b=some ⟨e,xs,c⟩) (Y:xs.length=k) (hy:ev E x2=some (.string s)) (X:(k+s.size)*y<=140737488355328) (az:k+s.size<=9223372036854775807)
  (h:∀ b' c',Fresh (S.del b) b'->k+s.size<=c'->ARun P N ops os K ((d,.slice (some ⟨b',0,none⟩) (k+s.size) c') :: E) ((S.del b).set b' ⟨e,xs ++ cellsB s.data.toList,c'⟩)) :
  ARun P N ops (⟨some d,.call ⟨.builtin .append,#[x1,x2],#[T,U]⟩,ty,pos,aft,none⟩ :: os) K E S:=λa w g J=>by
 rw [if_pos (by simp [Region.wanted])];obtain ⟨V,i,v,e1,e2,Z,rfl,af⟩:=zaP hT;have ah:v.cells.size=1:=by
  have:=congrArg List.length af;simpa using this
 have aa:(cellsB s.data.toList).length=s.size:=by rw [zaD];exact (Array.length_toList (xs:=s.data))
 have al:(execOp a.eval ⟨some d,.call ⟨.builtin .append,#[x1,x2],#[T,U]⟩,ty,pos,aft,none⟩).run P w=((Builtin.append_ #[T,U] ty #[.slice (some ⟨b,0,none⟩) k c,.string s]).run P w).andThen λv w'=>.ok (.value v) w':=by
  simp [execOp,resolve,invoke,builtin,g.ev hx,g.ev hy]
 unfold Oper.wp;rw [al];by_cases C:k+s.size<=c
 ·obtain ⟨q1,q2⟩:=za1 (P:=P) J hb (vs:=cellsB s.data.toList) (o:=k) (by simp only;omega) (.inr (by simp only [aa];omega)) (λu V=>by
   unfold cellsB at V;obtain ⟨c,_,rfl⟩:=List.mem_map.1 V;rfl)
  have hf:=Lib.run_firstCells_string (P:=P) w 1 s;have hr:(Builtin.append_ #[T,U] ty #[.slice (some ⟨b,0,none⟩) k c,.string s]).run P w = .ok (.slice (some ⟨b,0,none⟩) (k+s.size) c) (w.setCells b k (cellsB s.data.toList)):=by
   rw [zed] at hf;simp [Builtin.append_,run_underlying V,run_underlying (zax hU),sizeOf,typeInfo,e1,Z,Builtin.lenOf,C,hf,zaz,q1]
  rw [hr];have ak:spl xs k (cellsB s.data.toList)=xs ++ cellsB s.data.toList:=by
   unfold spl;rw [List.take_of_length_le vd,List.drop_of_length_le vd,List.append_nil]
  simp only [ak] at q2;refine ⟨_,_,h b c (zfU (λa v ha=>(J.ro a v ha).2) hb) C,g.put hn _,?_⟩;rw [del_set];exact q2
 have I:Builtin.nextslicecap (k+s.size) c*i.bytes<=281474976710656:=growslice_fits vd X;have hr:=Lib.run_append_grow_string (P:=P) w T U ty e i v V (zax hU) e1 e2 ⟨b,0,none⟩ k c xs (by rw [Z,Y,Nat.mul_one]) (λj u hj=>J.rd (by rw [zaz,Nat.zero_add,zeq hb];exact hj)) s vd vd I;rw [hr,zed];have ac:=grownCap_ge w (k+s.size) c e;have ae:View S w.drew:=J.drawn _;have ag:=vG ae e (xs.toArray ++ (cellsB s.data.toList).toArray ++ Builtin.zeroCells v.cells (grownCap w (k+s.size) c e-(k+s.size))) (xs ++ cellsB s.data.toList) (grownCap w (k+s.size) c e) (by simp [List.append_assoc]) (by
  simp only [Array.size_append,List.size_toArray,size_zeroCells,ah,Y,aa];omega)
 refine ⟨_,_,h w.heap.size (grownCap w (k+s.size) c e) (J.freshAt.less (Less.del S b)) ac,g.put hn _,?_⟩;exact ((Step.drawn J _).trans ag).less (zhA S b _ _)
theorem uw {os:List Oper} {T U e:tx} {y:Nat} {z:tu} {Z x2:tw} {s:tt} {d:Nat} (hn:d<N) (hT:slT P T=some (e,1,y,[z])) (hU:strT P U=true)
  (hx:ev E Z=some (.slice none 0 0)) (hy:ev E x2=some (.string s)) (h0:0<s.size) (ad:s.size*y<=140737488355328) (ak:s.size<=9223372036854775807)
  (h:∀ b' c',Fresh S b'->s.size<=c'->ARun P N ops os K ((d,.slice (some ⟨b',0,none⟩) s.size c') :: E) (S.set b' ⟨e,cellsB s.data.toList,c'⟩)) :
  ARun P N ops (⟨some d,.call ⟨.builtin .append,#[Z,x2],#[T,U]⟩,ty,pos,aft,none⟩ :: os) K E S:=λa w g X=>by
 rw [if_pos (by simp [Region.wanted])];obtain ⟨hu,i,v,e1,e2,al,rfl,J⟩:=zaP hT;have Y:v.cells.size=1:=by
  have:=congrArg List.length J;simpa using this
 have an:(cellsB s.data.toList).length=s.size:=by rw [zaD];exact (Array.length_toList (xs:=s.data))
 have ac:(execOp a.eval ⟨some d,.call ⟨.builtin .append,#[Z,x2],#[T,U]⟩,ty,pos,aft,none⟩).run P w=((Builtin.append_ #[T,U] ty #[.slice none 0 0,.string s]).run P w).andThen λv w'=>.ok (.value v) w':=by
  simp [execOp,resolve,invoke,builtin,g.ev hx,g.ev hy]
 unfold Oper.wp;rw [ac,run_append_nil_string (P:=P) w T U ty e i v hu (zax hU) e1 e2 s h0 vd vd];have C:=grownCap_ge w s.size 0 e;have I:View S w.drew:=X.drawn _;have V:=vG I e (s.data.map (λb=>Value.int .u8 b.toNat) ++ Builtin.zeroCells v.cells (grownCap w s.size 0 e-s.size)) (cellsB s.data.toList) (grownCap w s.size 0 e) (by simp [cellsB,nb]) (by
  have:s.data.size=s.size:=rfl;simp only [Array.size_append,Array.size_map,size_zeroCells,Y,this];omega)
 exact ⟨_,_,h w.heap.size (grownCap w s.size 0 e) X.freshAt C,g.put hn _,(Step.drawn X _).trans V⟩
theorem uq {os:List Oper} {T U e:tx} {y:Nat} {z:tu} {J X:tw} {A:Option Addr} {k c d:Nat} {s:tt} (hn:d<N) (hT:slT P T=some (e,1,y,[z])) (Z:strT P U=true) (hk:k<=c)
  (Y:ev E J=some (.slice A k c)) (hy:ev E X=some (.string s)) (I:s.size=0) (h:ARun P N ops os K ((d,.slice A k c) :: E) S) :
  ARun P N ops (⟨some d,.call ⟨.builtin .append,#[J,X],#[T,U]⟩,ty,pos,aft,none⟩ :: os) K E S:=λa w g hv=>by
 rw [if_pos (by simp [Region.wanted])];obtain ⟨hu,i,v,e1,e2,C,rfl,ae⟩:=zaP hT;have hr:(execOp a.eval ⟨some d,.call ⟨.builtin .append,#[J,X],#[T,U]⟩,ty,pos,aft,none⟩).run P w = .ok (.value (.slice A k c)) w:=by
  have V:=Lib.run_firstCells_string (P:=P) w 1 s;have hs:Lib.strCells s = []:=by rw [zed];exact List.eq_nil_of_length_eq_zero (by rw [zaD,Array.length_toList];exact I)
  rw [hs,I] at V;cases A with
  | none=>simp [execOp,resolve,invoke,builtin,g.ev Y,g.ev hy,Builtin.append_,run_underlying hu,run_underlying (zax Z),sizeOf,typeInfo,e1,C,Builtin.lenOf,I,hk,V]
  | some A=>simp [execOp,resolve,invoke,builtin,g.ev Y,g.ev hy,Builtin.append_,run_underlying hu,run_underlying (zax Z),sizeOf,typeInfo,e1,C,Builtin.lenOf,I,hk,V,storeCells]
 unfold Oper.wp;rw [hr];exact ⟨_,_,h,g.put hn _,Step.refl hv⟩
end
end Mv
open Go.RowKit
namespace Mv
/-! ### Pointers that go through unsafe.Pointer -/
theorem zmJ {P:tz} {fits:tx->Bool} {e:tx} {n:Nat} (hc:P.cellsOf e≠0) (I:1<=n) (C:fits e=true):∀ d,0<d->rowAt P fits d e n 0 1=true:=λd hd=>by
 cases d with
 | zero=>omega
 | succ d =>
  unfold rowAt;simp only;rw [if_neg hc];simp [C,I]
theorem zki {P:tz} {e:tx} {n:Nat} (hd:0<P.depth) (hc:P.cellsOf e≠0) (I:1<=n) (C:sameLayout P P.depth e e=true):∀ d,0<d->liesAt P d e n 0 e 1=true:=λd h=>by
 cases d with
 | zero=>omega
 | succ d =>
  unfold liesAt;rw [zmJ (fits:=λx=>sameLayout P P.depth x e) hc I C _ hd];rfl
section
variable {P:tz} {N:Nat} {ops:Array Oper} {E:Env} {S:Mem} {K:Env->Mem->Prop}
variable {dst:Option Nat} {ty:tx} {pos:String} {aft:Array Edge} {gd:Option (Nat × Bool)}
theorem ziU {S:Mem} {w:tv} {b:Nat} {r:Blk} (C:View S w) (hb:S.own b=some r):∃ n,r.cells.length<=n/\w.shape? b=some (r.elem,n):=by
 obtain ⟨cur,fz,e1,e2,_⟩:=C.own b r hb;exact ⟨cur.size,by have:=e2.length_le;simpa using this,by simp [World.shape?,e1]⟩
theorem uG {s t e:tx} {x:tw} {j:TypeInfo} {b:Nat} {r:Blk} (hs:P.underlying s=some (.pointer e)) (hd:P.underlying t=some .unsafePointer) (V:P.info? e=some j) (C:j.size≠0) (J:ev E x=some (.pointer (some ⟨b,0,none⟩))) (hb:S.own b=some r) (Y:0<r.cells.length) :
  ACalm P N ⟨dst,.convert s t x,ty,pos,aft,gd⟩ E S (.pointer (some ⟨b,0,none⟩)):=λa w g I=>by
 obtain ⟨n,X,U⟩:=ziU I hb;have h:=Lib.run_to_unsafe (P:=P) (w:=w) ⟨b,0,none⟩ hs hd V C U (by simp only;omega);simp only [execOp,g.ev J];rw [Sem.run_bind,h];rfl
theorem uy {s t e:tx} {x:tw} {j:TypeInfo} {b:Nat} {cs:List tu} {m:Nat} (hs:P.underlying s=some .unsafePointer) (hd:P.underlying t=some (.pointer e)) (Y:P.info? e=some j) (I:0<P.depth) (hc:P.cellsOf e=2) (U:sameLayout P P.depth e e=true) (V:ev E x=some (.pointer (some ⟨b,0,none⟩))) (hb:S.own b=some ⟨e,cs,m⟩) (Z:2<=cs.length) :
  ACalm P N ⟨dst,.convert s t x,ty,pos,aft,gd⟩ E S (.pointer (some ⟨b,0,none⟩)):=λa w g J=>by
 obtain ⟨n,C,X⟩:=ziU J hb;have C:cs.length<=n:=C;have h:=Lib.run_from_unsafe (P:=P) (w:=w) ⟨b,0,none⟩ hs hd Y X (zki I (by rw [hc];decide) (by rw [hc];omega) U _ I);simp only [execOp,g.ev V];rw [Sem.run_bind,h];rfl
theorem uM {os : List Oper} {f : tA} {fn : Func} {x : tw} {v : tu} {I : Array tx} {d : Nat} (Z : d < N) (X : P.funcs[f]? = some fn) (C : (fn.name == "runtime.NumGoroutine") = false) (hb : fn.body.isNone = true)
  (J:Extern.findNext fn=none) (V:Extern.find fn=some Extern.AbiNoEscape.same) (Y:ev E x=some v)
  (h:ARun P N ops os K ((d,v) :: E) S):ARun P N ops (⟨some d,.call ⟨.value (.func f),#[x],I⟩,ty,pos,aft,none⟩ :: os) K E S:=λa w g U=>by
 rw [if_pos (by simp [Region.wanted])];unfold Oper.wp;have hc:execOp a.eval ⟨some d,.call ⟨.value (.func f),#[x],I⟩,ty,pos,aft,none⟩=callFunc f #[v]:=by
  rw [execOp_call_go];simp [g.ev Y]
 rw [hc,run_callFunc_extern X C hb J V,Lib.run_noEscape];exact ⟨_,_,h,g.put Z _,Step.refl U⟩
theorem zee {t e:tx} {x y:tw} {p:Option Addr} (h:P.underlying t=some (.pointer e)):Bin P .eql t x y (.pointer p) (.pointer none) (.bool p.isNone):=λw=>by
 have hh:∀ d:Nat,(Op.equalIn (d+1) t (.pointer p) (.pointer none)).run P w = .ok p.isNone w:=λd=>by
  cases p <;> simp [Op.equalIn,run_underlying h]
 have:(binOp .eql t (.pointer p) (.pointer none)).run P w = .ok (.bool p.isNone) w:=by
  simp only [binOp];simp [Op.equal,Op.maxDepth,hh 9999]
 simpa [eqGuard] using this
theorem zfy {t e:tx} {x y:tw} {a:Addr} {j:TypeInfo} (h:P.underlying t=some (.pointer e)) (C:P.info? e=some j):Bin P .neq t x y (.pointer (some a)) (.pointer (some a)) (.bool false):=λw=>by
 have:=Lib.run_neq_ptr_same (P:=P) (w:=w) a h C;simpa [eqGuard] using this
end
end Mv
end
section
open Go.RowKit
open Mv
namespace Bl
def blk (p v:tu):Blk:=⟨124,[p,v],2⟩
def self (b:Nat):tu:=.pointer (some ⟨b,0,none⟩)
def M (S:Mem) (b:Nat) (p:tu) (o:Option (Nat × Nat)) (l:List UInt8):Mem:=(outM S o 5 (cellsB l)).set b (blk p (outV o l.length))
def R (S:Mem) (b:Nat) (l:List UInt8) (T:Mem):Prop:=∃ p o,(p = .pointer none\/p=self b)/\OkO S o l.length/\(∀ g c,o=some (g,c)->g≠b/\l ≠ [])/\T=M S b p o l
def F (S:Mem) (b:Nat) (l:List UInt8) (T:Mem):Prop:=∃ p,(l = []/\T=S.set b (blk p (.slice none 0 0)))\/(l ≠ [] /\ ∃ g c,Fresh S g/\g≠b/\c≠0/\S.ro.z g=none/\T=(S.fr g l).set b (blk p (.slice (some ⟨g,0,none⟩) l.length c)))
theorem R.new (S:Mem) (b:Nat):R S b [] (S.set b (blk (.pointer none) (.slice none 0 0))):=⟨_,none,.inl rfl,⟨λ_=>rfl,λ_ _ h=>(by cases h)⟩,λ_ _ h=>(by cases h),rfl⟩
theorem R.less {S T:Mem} {b:Nat} {l:List UInt8} (I:Fresh S b) (h:R S b l T):S.Less T:=by
 obtain ⟨p,o,_,J,C,rfl⟩:=h;cases o with
 | none=>exact vi _ _ _ I.1
 | some q =>
  obtain ⟨g,c⟩:=q;have U:=(J.own g c rfl).1;exact (vi S g _ U.1).trans (vi _ _ _ (by
   show (S.set g _).own b=none;rw [vg _ _ (C g c rfl).1.symm];exact I.1))
theorem F.lo {S T:Mem} {b:Nat} {l:List UInt8} (I:Fresh S b) (h:F S b l T):S.Lo T:=by
 obtain ⟨p,⟨_,rfl⟩ | ⟨_,g,c,U,C,_,J,rfl⟩⟩:=h
 ·exact (vi _ _ _ I.1).lo
 exact uF U J I C.symm
theorem lies:sameLayout prog prog.depth 124 124=true:=by kernel_rfl
theorem deep:0<prog.depth:=Nat.le_of_ble_eq_true (n:=1) (m:=prog.depth) (by kernel_rfl)
theorem zvB:prog.cellsOf 124=2:=by kernel_rfl
theorem zsA:prog.cellsOf 5=1:=by kernel_rfl
theorem inf:∃ j,prog.info? 124=some j/\j.size≠0:=by
 have h:(prog.info? 124).map (λj=>j.size)=some 2:=by kernel_rfl
 obtain ⟨j,C,I⟩:=Option.map_eq_some_iff.1 h;exact ⟨j,C,by omega⟩
theorem ldB {P:tz} {N:Nat} {E:Env} {S:Mem} {dst:Option Nat} {T ty:tx} {pos:String} {aft:Array Edge} {gd:Option (Nat × Bool)} {x:tw} {b:Nat} {p v v':tu} (C:plainT P T=true) (hb:S.own b=some (blk p v)) (e:v=v') (I:ev E x=some (.pointer (some ⟨b,1,none⟩)):=by exact rfl) :
  ACalm P N ⟨dst,.load T x,ty,pos,aft,gd⟩ E S v':=Calm.load C I (by unfold Mem.rd;rw [hb,<- e];rfl)
theorem copyCheck (S:Mem) (b:Nat) (p v:tu) (J:p = .pointer none\/p=self b) (hb:S.own b=some (blk p v)) :
  ACall prog 115 #[self b] S λr S'=>r = .tuple #[]/\S'=S.set b (blk (self b) v):=by
 obtain ⟨j,C,I⟩:=inf;unfold self blk at *;rcases J with rfl | rfl
 ·skip
  refine k_E1 20 func115 ?_;refine r6_ ?_;refine rC (vh rfl rfl (zee underlying122)) ?_;refine r2_ ?_;refine cT_ ?_;refine r3_ ?_;refine rC (uG underlying122 underlying221 C I rfl hb (by simp)) ?_;refine uM (zab rfl) func165 rfl rfl rfl rfl rfl ?_;refine rC (uy underlying221 underlying122 C deep zvB lies rfl hb (by simp)) ?_;refine r4_ ?_;refine ⟨_,_,rfl,zae,?_⟩;exact ⟨rfl,rfl⟩
 skip
 refine k_E1 20 func115 ?_;refine r6_ ?_;refine rC (vh rfl rfl (zee underlying122)) ?_;refine r2_ ?_;refine cF_ ?_;refine r7_ ?_;refine rC (vh rfl rfl (zfy underlying122 C)) ?_;refine r2_ ?_;refine cF_ ?_;refine s1_ ?_;refine ⟨_,S,rfl,zae,?_⟩;exact ⟨rfl,(vB _ _ _ hb).symm⟩
theorem ztq {S:Mem} {b b':Nat} {X C Y:Blk} (I:b≠b'):((S.set b X).set b' Y).set b C=(S.set b' Y).set b C:=by
 unfold Mem.set;congr 1;funext k;by_cases J:k=b <;> by_cases U:k=b' <;> simp_all
theorem ztr {S:Mem} {b b' g:Nat} {X C Y Z:Blk} (V:S.own g=none) (J:g≠b):((((S.set g Z).set b X).del g).set b' Y).set b C=(S.set b' Y).set b C:=by
 unfold Mem.set Mem.del;congr 1;funext k;by_cases U:k=b <;> by_cases h2:k=b' <;> by_cases I:k=g <;> simp_all
theorem zts {S:Mem} {b g:Nat} {X Z:Blk} {l:List UInt8} (I:S.own g=none) (U:g≠b):(((S.set g Z).set b X).del g).fr g l=(S.fr g l).set b X:=by
 unfold Mem.set Mem.del Mem.fr;congr 1;funext k;by_cases C:k=b <;> by_cases J:k=g <;> simp_all
theorem WriteString (S:Mem) (b:Nat) (l:List UInt8) (T:Mem) (s:tt) (hf:Fresh S b) (h:R S b l T) (am:l.length+s.size<=140737488355328) :
  ACall prog 65 #[self b,.string s] T λr S'=>r = .tuple #[.int .i64 s.size,.nilIface]/\R S b (l ++ s.data.toList) S':=by
 obtain ⟨p,o,hp,ho,ac,rfl⟩:=h;have I:s.data.toList.length=s.size:=Array.length_toList (xs:=s.data);have Y:=copyCheck (M S b p o l) b p _ hp (vf _ _ _);have ai:(M S b p o l).set b (blk (self b) (outV o l.length))=M S b (self b) o l:=Mem.set_set _ _ _ _;rw [ai] at Y;have U:(M S b (self b) o l).own b=some (blk (self b) (outV o l.length)):=vf _ _ _;by_cases h0:s.size=0
 ·have e0:s.data.toList = []:=List.eq_nil_of_length_eq_zero vd;obtain ⟨A,k,c,af,hk⟩ : ∃ A k c,outV o l.length = .slice A k c/\k<=c:=by
   cases o with
   | none=>exact ⟨none,0,0,rfl,Nat.le_refl _⟩
   | some q=>exact ⟨_,_,_,rfl,(ho.own q.1 q.2 rfl).2⟩
  rw [e0,List.append_nil];refine k_E2 19 func65 ?_;refine r9_ ?_;refine ca_ rfl (Y) ?_;rintro _ S9 ⟨rfl,h9⟩;rw [h9];clear h9 S9;refine r8_ ?_;refine rC ((ldB zaH U af)) ?_;refine s1_ ?_;refine uq (zab rfl) zbp zaE hk rfl rfl h0 ?_;refine r2_ ?_;refine vm rfl rfl zdL rfl U (by show 1<2;decide) rfl ?_;refine nm_ ?_;refine r11_ ?_;refine ⟨_,M S b (self b) o l,⟨_,_,rfl,⟨_,_,rfl,rfl,rfl⟩,rfl⟩,(by rw [show (M S b (self b) o l).set b _=M S b (self b) o l from vB _ _ _ (by rw [U,af];rfl)];exact Mem.Less.refl _),?_⟩;exact ⟨rfl,self b,o,.inr rfl,ho,ac,rfl⟩
 cases o with
 | none =>
  have aj:l = []:=List.eq_nil_of_length_eq_zero (ho.nil rfl);subst aj;refine k_E2 19 func65 ?_;refine r9_ ?_;refine ca_ rfl (Y) ?_;rintro _ S9 ⟨rfl,h9⟩;rw [h9];clear h9 S9;refine r8_ ?_;refine rC ((ldB zaH U rfl)) ?_;refine s1_ ?_;refine uw (zab rfl) zbp zaE rfl rfl vd vd vd ?_;intro C X J aa;have ae:Fresh S C:=(zaa J).1;have V:b≠C:=(zaa J).2.symm;refine r2_ ?_;refine vm rfl rfl zdL rfl ((vg _ _ V).trans U) (by show 1<2;decide) rfl ?_;refine nm_ ?_;refine r2_ ?_;refine kw_ [0,1,4,5] ?_;refine r9_ ?_;refine ⟨_,M S b (self b) (some (C,X)) s.data.toList,⟨_,_,rfl,⟨_,_,rfl,rfl,rfl⟩,rfl⟩,(by unfold M;rw [ztq V,I.symm];exact Mem.Less.refl _),?_⟩;exact ⟨rfl,self b,some (C,X),.inr rfl,⟨λh=>(by cases h),λg c e=>(by cases e;exact ⟨ae,by simp only [List.nil_append];omega⟩)⟩,λg c e=>(by cases e;exact ⟨V.symm,λe=>by simp only [List.nil_append] at e;rw [e] at I;simp at I;omega⟩),rfl⟩
 | some q =>
  obtain ⟨g,c⟩:=q;have ad:=(ac g c rfl).1;have hg:=(ho.own g c rfl);have ak:(M S b (self b) (some (g,c)) l).own g=some ⟨5,cellsB l,c⟩:=(vg _ _ ad).trans (vf _ _ _);refine k_E2 19 func65 ?_;refine r9_ ?_;refine ca_ rfl (Y) ?_;rintro _ S9 ⟨rfl,h9⟩;rw [h9];clear h9 S9;refine r8_ ?_;refine rC ((ldB zaH U rfl)) ?_;refine s1_ ?_;refine ug (zab rfl) zbp zaE rfl ak (zaD l) rfl vd vd ?_;intro C X J aa;have Z:((M S b (self b) (some (g,c)) l).del g).own b=some (blk (self b) (outV (some (g,c)) l.length)):=(vv _ ad.symm).trans U;have V:b≠C:=λe=>by rw [<- e] at J;have:=J.1;rw [Z] at this;cases this
  have ag:S.own C=none:=by
   by_cases e:C=g
   ·rw [e];exact hg.1.1
   have:=J.1;rw [vv _ e] at this;unfold M at this;rw [vg _ _ V.symm] at this;exact (vg S _ e).symm.trans this
  have ae:Fresh S C:=⟨ag,J.2⟩;refine r2_ ?_;refine vm rfl rfl zdL rfl ((vg _ _ V).trans Z) (by show 1<2;decide) rfl ?_;refine nm_ ?_;refine r11_ ?_;refine ⟨_,M S b (self b) (some (C,X)) (l ++ s.data.toList),⟨_,_,rfl,⟨_,_,rfl,rfl,rfl⟩,rfl⟩,(by unfold M;show Mem.Less _ (((((S.set g _).set b _).del g).set C _).set b _);rw [ztr hg.1.1 ad,show cellsB (l ++ s.data.toList)=cellsB l ++ cellsB s.data.toList from List.map_append ..,show (l ++ s.data.toList).length=l.length+s.size from by rw [List.length_append,I]];exact Mem.Less.refl _),?_⟩;exact ⟨rfl,self b,some (C,X),.inr rfl,⟨λh=>(by cases h),λg c e=>(by cases e;exact ⟨ae,by rw [List.length_append,I];exact aa⟩)⟩,λg' c' e=>(by cases e;exact ⟨V.symm,λe=>(ac g c rfl).2 (List.append_eq_nil_iff.1 e).1⟩),rfl⟩
theorem String (S:Mem) (b:Nat) (l:List UInt8) (T:Mem) (hf:Fresh S b) (h:R S b l T) (V:l.length<=9223372036854775807) :
  ACall prog 68 #[self b] T λr S'=>r = .string (bs l)/\F S b l S':=by
 obtain ⟨p,o,hp,Z,X,rfl⟩:=h;have I:(M S b p o l).own b=some (blk p (outV o l.length)):=vf _ _ _;cases o with
 | none =>
  have C:l = []:=List.eq_nil_of_length_eq_zero (Z.nil rfl);subst C;refine k_E1 14 func68 ?_;refine r6_ ?_;refine dr_ [i0_,i1_,i2_,i3_,i4_,i5_,i6_,i7_,i8_,i9_,o10_,i11_] [10] ?_;refine r3_ ?_;refine dC (hc:=(ldB zaH I rfl)) (h:=?_);refine dC (hc:=vS rfl (.inl rfl)) (h:=?_);refine r3_ ?_;refine dC (hc:=(ldB zaH I rfl)) (h:=?_);refine s1_ ?_;refine zac rfl ?_;refine uE (zab rfl) rfl rfl ?_;refine zad ⟨nz_,?_⟩;refine r4_ ?_;refine ⟨_,M S b p none [],⟨_,_,rfl,rfl,rfl⟩,(Mem.Less.refl _),?_⟩;exact ⟨rfl,p,.inl ⟨rfl,rfl⟩⟩
 | some q =>
  obtain ⟨g,c⟩:=q;obtain ⟨J,C⟩:=X g c rfl;have Y:=(Z.own g c rfl);have ac:0<l.length:=List.length_pos_iff.2 C;have U:(M S b p (some (g,c)) l).own g=some ⟨5,cellsB l,c⟩:=(vg _ _ J).trans (vf _ _ _);refine ACall.seen (p:=S.ro.z g=none) (λw hv=>u6 hv U) λhz=>?_;refine k_E1 14 func68 ?_;refine r6_ ?_;refine dr_ [i0_,i1_,i2_,i3_,i4_,i5_,i6_,i7_,i8_,i9_,o10_,i11_] [10] ?_;refine r3_ ?_;refine dC (hc:=(ldB zaH I rfl)) (h:=?_);refine dC (hc:=vS rfl (.inr vd)) (h:=?_);refine r3_ ?_;refine dC (hc:=(ldB zaH I rfl)) (h:=?_);refine s1_ ?_;refine zac rfl ?_;refine uY (zab rfl) underlying200 zsA rfl rfl U C V ?_;refine zad ⟨nz_,?_⟩;refine r4_ ?_;refine ⟨_,((M S b p (some (g,c)) l).del g).fr g l,⟨_,_,rfl,rfl,rfl⟩,(Mem.Less.refl _),?_⟩;exact ⟨rfl,p,.inr ⟨C,g,c,Y.1,J,by omega,hz,zts Y.1.1 J⟩⟩
theorem StringF (S:Mem) (b:Nat) (l:List UInt8) (T:Mem) (h:F S b l T) (I:l.length<=9223372036854775807) :
  ACall prog 68 #[self b] T λr S'=>r = .string (bs l)/\S'=T:=by
 obtain ⟨p,⟨rfl,rfl⟩ | ⟨J,g,c,V,U,hc,X,rfl⟩⟩:=h
 ·have C:(S.set b (blk p (.slice none 0 0))).own b=some (blk p (.slice none 0 0)):=vf _ _ _;refine k_E1 14 func68 ?_;refine r6_ ?_;refine dr_ [i0_,i1_,i2_,i3_,i4_,i5_,i6_,i7_,i8_,i9_,o10_,i11_] [10] ?_;refine r3_ ?_;refine dC (hc:=(ldB zaH C rfl)) (h:=?_);refine dC (hc:=vS rfl (.inl rfl)) (h:=?_);refine r3_ ?_;refine dC (hc:=(ldB zaH C rfl)) (h:=?_);refine s1_ ?_;refine zac rfl ?_;refine uE (zab rfl) rfl rfl ?_;refine zad ⟨nz_,?_⟩;refine r4_ ?_;refine ⟨_,S.set b (blk p (.slice none 0 0)),⟨_,_,rfl,rfl,rfl⟩,(Mem.Less.refl _),?_⟩;exact ⟨rfl,rfl⟩
 have C:((S.fr g l).set b (blk p (.slice (some ⟨g,0,none⟩) l.length c))).own b=some (blk p (.slice (some ⟨g,0,none⟩) l.length c)):=vf _ _ _;refine k_E1 14 func68 ?_;refine r6_ ?_;refine dr_ [i0_,i1_,i2_,i3_,i4_,i5_,i6_,i7_,i8_,i9_,o10_,i11_] [10] ?_;refine r3_ ?_;refine dC (hc:=(ldB zaH C rfl)) (h:=?_);refine dC (hc:=vS rfl (.inr hc)) (h:=?_);refine r3_ ?_;refine dC (hc:=(ldB zaH C rfl)) (h:=?_);refine s1_ ?_;refine zac rfl ?_;refine te (zab rfl) underlying200 zsA rfl rfl (show (if g=g then some l else S.ro.z g)=some l from if_pos rfl) J I ?_;refine zad ⟨nz_,?_⟩;refine r4_ ?_;refine ⟨_,(S.fr g l).set b (blk p (.slice (some ⟨g,0,none⟩) l.length c)),⟨_,_,rfl,rfl,rfl⟩,(Mem.Less.refl _),?_⟩;exact ⟨rfl,rfl⟩
end Bl
end
section
open Go.RowKit
open Mv
namespace Num
def u64s (n:Nat):List tu:=[.int .u64 (n:Int)]
end Num
open Num
abbrev RowR (S:Mem) (v:tu) (l:List Nat):Prop:=Sl 1 u64s S v l
theorem ziV (S S':Mem) (v:tu) (l:List Nat) (h:RowR S v l) (hl:S.Less S'):RowR S' v l:=h.less hl
theorem zeD (l m:List UInt8):cellsB (l ++ m)=cellsB l ++ cellsB m:=by simp [cellsB]
theorem zmK (l:List UInt8):∀ v ∈ cellsB l,v.oneCell'=true:=λv C=>by obtain ⟨c,_,rfl⟩:=List.mem_map.1 C;rfl
end
section
open Go.RowKit
open Mv Num
namespace Num
theorem zfF (n k:Nat):IntKind.u8.wrap ((n:Int) / 2 ^ k)=nb (UInt8.ofNat (n / 2 ^ k)):=by
 rw [<- zof];congr 1
theorem zvC (a:Nat) (c:UInt8) (h:a<4294967296):bits .or .u64 (IntKind.u64.wrap ((a:Int)*2 ^ (8:Int).toNat)) (nb c)=((256*a+c.toNat:Nat):Int):=by
 have hc:=c.toNat_lt;have e:(a:Int)*2 ^ (8:Int).toNat=((a*2 ^ 8:Nat):Int):=by rw [show (8:Int).toNat=8 from rfl];omega
 rw [e,IntWalk.u64_in _ vd,nb_byte,zqH _ _ vd vd,Nat.or_comm,zkb _ _ _ vd];omega
end Num
theorem ziW (n:Nat) (S:Mem) (U:n<18446744073709551616) :
  ACall prog 80 #[.int .u64 n] S λr S'=>r = .agg (cellsB (five n)).toArray/\S'=S:=by
 have e0:=zfF n 32;have e1:=zfF n 24;have e2:=zfF n 16;have e3:=zfF n 8
 have e4:=zof n;refine k_E1 18 func80 ?_;refine r2_ ?_;refine ARun.alloc (zab rfl) zd7 ?_;intro J I;have C:=I
 repeat ((with_reducible replace C:=zaa C);obtain ⟨C,_⟩:=C)
 refine nl_ ?_;refine r6_ ?_;refine rC (Calm.conv rfl (zbx underlying31 underlying5 e0)) ?_;refine r2_ ?_;refine rC (Calm.conv rfl (zbx underlying31 underlying5 e1)) ?_;refine r2_ ?_;refine rC (Calm.conv rfl (zbx underlying31 underlying5 e2)) ?_;refine r2_ ?_;refine rC (Calm.conv rfl (zbx underlying31 underlying5 e3)) ?_;refine s1_ ?_;refine rC (Calm.conv rfl (zbx underlying31 underlying5 e4)) ?_;refine rC (uk (cs:=[_,_,_,_,_]) zmn rfl rfl) ?_;refine r4_ ?_;refine ⟨_,S,⟨_,_,_,rfl,.inr ⟨zgV,[_,_,_,_,_],zd6,rds_,rfl⟩,rfl,rfl⟩,zae,?_⟩;exact ⟨rfl,rfl⟩
end
section
open Go.RowKit
open Mv Num
theorem ztt (s:tt) (S:Mem) (J:5<=s.size) (hs:s.size<=9223372036854775807) :
  ACall prog 163 #[.string s] S λr S'=>r = .int .u64 (ofB (s.data.toList.take 5):Nat)/\S'=S:=by
 have I:=ziO s;refine k_E1 17 func163 ?_;refine r17_ ?_;refine AWP.loop (X:=Nat) (λx=>[(0,.string s),(3,.int .u64 (ofB (s.data.toList.take x):Nat)),(5,.int .i64 x)]) (λx=>S) (λx=>x<=5) (λx=>5-x) (0) ⟨rfl,rfl,rfl,trivial⟩ (Mem.Less.refl _) (Nat.zero_le _) ?_;rintro k hk;(try dsimp only at *);refine r6_ ?_;refine vu rfl (λhl=>?_) (λhl=>?_)
 ·have hl:k<5:=by have:=of_decide_eq_true hl;omega
  have C:=zvC (ofB (s.data.toList.take k)) (at8 s.data.toList k) (ziP _ _ vd);rw [<- zle _ _ vd] at C;refine r27_ ?_;refine ⟨k+1,?_,?_,?_,?_⟩<;>try dsimp only
  ·exact ⟨rfl,zah C,zah vd,trivial⟩
  ·exact Mem.Less.refl _
  ·exact hl
  omega
 have hl:k=5:=by have:=of_decide_eq_false hl;omega
 subst hl;refine r12_ ?_;refine ⟨_,S,⟨_,_,rfl,rfl,rfl⟩,zae,?_⟩;exact ⟨rfl,rfl⟩
/-! ### The document's -/
end
section
open Go.RowKit
open Mv Disk Num
namespace Rec
theorem zfG (w:Nat) (S:Mem) (I:w<=8):ACall prog 66 #[.int .i64 (w:Int)] S λr S'=>r = .int .i64 ((eachN w:Nat):Int)/\S'=S:=by
 unfold eachN;by_cases C:w=0
 ·subst C;refine k_E1 7 func66 ?_;refine r12_ ?_;refine cT_ ?_;refine r7_ ?_;refine ⟨_,S,⟨_,_,rfl,rfl,rfl⟩,zae,?_⟩;exact ⟨rfl,rfl⟩
 rw [if_neg C];refine k_E1 7 func66 ?_;refine r12_ ?_;refine cF_ ?_;refine r10_ ?_;refine ⟨_,S,⟨_,_,rfl,rfl,rfl⟩,zae,?_⟩;exact ⟨by rw [show ((5*w:Nat):Int)=5*(w:Int) from by omega];rfl,rfl⟩
theorem zef {k c:Nat} (hk:k<=8) (hc:c<=65536):0<=((eachN k:Nat):Int)*(c:Int)/\((eachN k:Nat):Int)*(c:Int)<=2621440/\((eachN k:Nat):Int)*(c:Int)=((eachN k*c:Nat):Int):=by
 have:=Nat.mul_le_mul (zlg hk) hc;have e:((eachN k:Nat):Int)*(c:Int)=((eachN k*c:Nat):Int):=by push_cast;rfl
 rw [e];omega
def needV (p:Int × Int):tu:=.tuple #[.int .i64 p.1,.int .i64 p.2]
theorem zfH (w:Int) (c:Nat) (S:Mem):ACall prog 37 #[.int .i64 w,.int .u64 (c:Int)] S λr S'=>r=needV (needP w c)/\S'=S:=by
 unfold needV needP;by_cases J:w<0
 ·rw [if_pos (.inl J)];refine k_E2 25 func37 ?_;refine r21_ ?_;refine cT_ ?_;refine r8_ ?_;refine ⟨_,S,⟨_,_,rfl,⟨_,_,rfl,rfl,rfl⟩,rfl⟩,zae,?_⟩;exact ⟨rfl,rfl⟩
 by_cases U:8<w
 ·rw [if_pos (.inr (.inl U))];refine k_E2 25 func37 ?_;refine r21_ ?_;refine cT_ ?_;refine r8_ ?_;refine ⟨_,S,⟨_,_,rfl,⟨_,_,rfl,rfl,rfl⟩,rfl⟩,zae,?_⟩;exact ⟨rfl,rfl⟩
 by_cases C:65536<c
 ·rw [if_pos (.inr (.inr C))];refine k_E2 25 func37 ?_;refine r21_ ?_;refine cT_ ?_;refine r8_ ?_;refine ⟨_,S,⟨_,_,rfl,⟨_,_,rfl,rfl,rfl⟩,rfl⟩,zae,?_⟩;exact ⟨rfl,rfl⟩
 rw [if_neg vd];obtain ⟨k,rfl⟩:=Int.eq_ofNat_of_zero_le (by omega:0<=w);obtain ⟨V,X,I⟩:=zef (k:=k) (c:=c) vd vd;refine k_E2 25 func37 ?_;refine r21_ ?_;refine cF_ ?_;refine r5_ ?_;refine cp_ rfl (zfG k S vd) ?_;refine r11_ ?_;refine kw_ [0,1,4,5,15] ?_;refine s1_ ?_;refine ⟨_,S,⟨_,_,rfl,⟨_,_,rfl,rfl,rfl⟩,rfl⟩,zae,?_⟩;exact ⟨by rw [I,Int.toNat_natCast,show (1+(((eachN k*c:Nat):Int)+64-1) / 64)=((needN k c:Nat):Int) from by unfold needN;omega];rfl,rfl⟩
theorem zhb (s:tt) (S:Mem) (hs:s.size<=140737488355328):ACall prog 39 #[.string s] S λr S'=>r = .string (padS s)/\S'=S:=by
 by_cases I:s.size % 64=0
 ·have e:padS s=s:=by unfold padS;rw [I];simp [bs_of]
  rw [e];refine k_E1 15 func39 ?_;refine r20_ ?_;refine cF_ ?_;refine r9_ ?_;refine ⟨_,S,⟨_,_,rfl,rfl,rfl⟩,zae,?_⟩;exact ⟨rfl,rfl⟩
 have e:padS s=s ++ bs (List.replicate (64-s.size % 64) 0):=by
  unfold padS;apply zbQ;rw [Nat.mod_eq_of_lt vd];simp [bs]
 have C:∀ S,ACall prog 76 #[.string ⟨#[0]⟩,.int .i64 (64-((s.size % 64:Nat):Int))] S λr S'=>r = .string (bs (List.replicate (64-s.size % 64) 0))/\S'=S:=λS=>vN λw=>by
  have:=Tryz.strings_Repeat ⟨#[0]⟩ (64-s.size % 64) w vd (by show 1*_<=_;omega);rw [show (⟨#[0]⟩ : tt).data.toList = [0] from rfl,zf7] at this;rw [show (64-((s.size % 64:Nat):Int))=((64-s.size % 64:Nat):Int) from by omega];exact this
 have J:(bs (List.replicate (64-s.size % 64) (0:UInt8))).size=64-s.size % 64:=by rw [za2];simp
 rw [e];refine k_E1 15 func39 ?_;refine r20_ ?_;refine kw_ [0,2,3,8] ?_;refine cT_ ?_;refine r4_ ?_;refine cp_ rfl (C _) ?_;refine r11_ ?_;refine ⟨_,S,⟨_,_,rfl,rfl,rfl⟩,zae,?_⟩;exact ⟨rfl,rfl⟩
theorem zmL (k:Nat) (S:Mem) (hk:k<=8):ACall prog 82 #[.int .i64 (k:Int)] S λr S'=>∃ b,Fresh S b/\r = .slice (some ⟨b,0,none⟩) 1 1/\S'=S.set b ⟨5,cellsB [UInt8.ofNat k],1⟩:=by
 have e:nb (UInt8.ofNat k)=(k:Int):=by unfold nb;rw [UInt8.toNat_ofNat'];omega
 unfold cellsB;simp only [List.map_cons,List.map_nil,e];refine k_E1 6 func82 ?_;refine r9_ ?_;refine vk (zab rfl) zbp rfl rfl ?_;intro J I;have C:=I
 repeat ((with_reducible replace C:=zaa C);obtain ⟨C,_⟩:=C)
 refine r4_ ?_;refine ⟨_,_,⟨_,_,rfl,rfl,rfl⟩,zae,?_⟩;exact ⟨_,I,rfl,rfl⟩
theorem zhc (k c:Nat) (S:Mem) (hk:k<=8) (hc:c<18446744073709551616):ACall prog 42 #[.int .i64 (k:Int),.int .u64 (c:Int)] S λr S'=>r = .string (headS k c)/\S'=S:=by
 have V:(five c).length=5:=rfl;have hp:((⟨#[87,82]⟩ : tt) ++ bs [UInt8.ofNat k]) ++ bs (five c)=preS k c:=by
  unfold preS;apply zbQ;simp [bs]
 have C:(preS k c).size=8:=by unfold preS;rw [za2];simp [V]
 have J:frameS (preS k c)=(preS k c ++ Crc.tailS (sumOf (preS k c)),0):=by unfold frameS;rw [if_neg vd]
 have U:(preS k c ++ Crc.tailS (sumOf (preS k c))).size=12:=by rw [ByteArray.size_append,C,Crc.zb1]
 have hF:∀ S,ACall prog 81 #[.string (((⟨#[87,82]⟩ : tt) ++ bs [UInt8.ofNat k]) ++ bs (five c))] S λr S'=>r = .tuple #[.string (preS k c ++ Crc.tailS (sumOf (preS k c))),.int .i64 0]/\S'=S:=λS=>vN λw=>by
  rw [hp];have:=zoe (preS k c) (by rw [C];decide) w;rw [J] at this;exact this
 have Y:(⟨#[87,82]⟩ : tt).size=2:=rfl;have z2:(bs [UInt8.ofNat k]).size=1:=rfl;have z3:((⟨#[87,82]⟩ : tt) ++ bs [UInt8.ofNat k]).size=3:=by rw [ByteArray.size_append,Y,z2]
 have z4:(bs (five c)).size=5:=rfl;unfold headS;refine k_E2 23 func42 ?_;refine r8_ ?_;refine cp_ rfl (ziW c _ hc) ?_;refine ARun.alloc (zab rfl) zd7 ?_;intro b5 Z;have I:=Z
 repeat ((with_reducible replace I:=zaa I);obtain ⟨I,_⟩:=I)
 refine nl_ ?_;refine vF rfl rfl zd6 own_ rfl rfl ?_;refine nm_ ?_;refine r3_ ?_;refine dr_ [i0_,i4_,i5_,o1_,o2_,i3_,i6_,o7_,i8_,i9_,i10_,i11_,i12_] [] ?_;refine r2_ ?_;refine dC (hc:=vW (l:=five c) zbi zaE rfl V (zcl (r:=⟨_,cellsB (five c),_⟩) own_)) (h:=?_);refine zac rfl ?_;refine ca_ rfl (zmL k _ hk) ?_;rintro _ S1 ⟨b,fb,rfl,X⟩;rw [X];clear X S1;have gb:=(zaa fb).1;refine zad ⟨ny_,?_⟩;refine zac rfl ?_;refine rC (vW (l:=[UInt8.ofNat k]) zbi zaE rfl rfl (zcl (r:=⟨_,cellsB [UInt8.ofNat k],_⟩) own_)) ?_;refine zad ⟨ny_,?_⟩;refine r2_ ?_;refine zac rfl ?_;refine cp_ rfl (hF _) ?_;refine zad ⟨ny_,?_⟩;refine r10_ ?_;refine cp_ rfl (zhb _ _ (by rw [U];decide)) ?_;refine r4_ ?_;refine ⟨_,S,⟨_,_,rfl,rfl,rfl⟩,zae,?_⟩;exact ⟨rfl,rfl⟩
end Rec
end
section
open Go.RowKit
open Mv Disk Num
namespace Rec
theorem zb9 {S:Mem} {p:Nat} {e:D} {oE oW:Option (Nat × Nat)} (C:OkV S p e oE oW) (h:e.ext.length<=9223372036854775807/\e.waits.length<=9223372036854775807) :
  ∃ Y V X dw,(devM S p e oE oW).own p=some ⟨82,[.int .i64 e.size,.slice Y e.ext.length V,.slice X e.waits.length dw,.int .i64 e.fuse,.bool e.down],5⟩ /\
   DkR (devM S p e oE oW) (.agg #[.int .i64 e.size,.slice Y e.ext.length V,.slice X e.waits.length dw,.int .i64 e.fuse,.bool e.down]) e/\S.Less (devM S p e oE oW):=by
 have I:=(C.dk.dk h.1 h.2).less (vi _ p (devB e oE oW) C.fr.1);have hl:=C.dk.less.trans (vi _ p (devB e oE oW) C.fr.1);have Z:(devM S p e oE oW).own p=some (devB e oE oW):=vf _ _ _;unfold dkV at I;unfold devB at Z I hl;obtain ⟨Y,V,J⟩:=zbk C.dk.e;obtain ⟨X,dw,U⟩:=zbk C.dk.w;rw [J,U] at Z I hl;refine ⟨Y,V,X,dw,Z,?_,?_⟩
 ·unfold devM;rw [J,U];exact I
 unfold devM;rw [J,U];exact hl
abbrev bx (d:D) (pe:Option Addr) (ce:Nat) (pw:Option Addr) (cw:Nat):Blk:=⟨26,[.int .i64 d.size,.slice pe d.ext.length ce,.slice pw d.waits.length cw,.int .i64 d.fuse,.bool d.down],5⟩
abbrev zb:Blk:=⟨26,[.int .i64 0,.slice none 0 0,.slice none 0 0,.int .i64 0,.bool false],5⟩
theorem ziX (d:D):(openD d).1.ext.length<=9223372036854775807/\(openD d).1.waits.length<=9223372036854775807:=by
 rcases zdN d with ⟨J,C⟩ | ⟨J,C,I⟩ | ⟨J,C,I⟩ <;> rw [J]
 ·exact ⟨by decide,by decide⟩
 ·exact zaB C
 exact zaB C
theorem zkj (v:tu) (d:D) (S:Mem) (hd:DkR S v d) (hz:Dz d):ACall prog 14 #[v] S (DkRes (refD d) S):=by
 have I:=zew v d S hd hz;have C:=ziX d;obtain ⟨pe,ce,pw,cw,rfl,hE,hW⟩:=id hd;unfold refD;refine k_E1 15 func14 ?_;refine r2_ ?_;refine k_b5 rfl ?_;intro b1 f1;have Y:=f1
 repeat ((with_reducible replace Y:=zaa Y);obtain ⟨Y,_⟩:=Y)
 refine nl_ ?_;refine ARun.alloc (zab rfl) zas ?_;intro b2 f2;have X:=f2
 repeat ((with_reducible replace X:=zaa X);obtain ⟨X,_⟩:=X)
 refine nl_ ?_;refine r6_ ?_;refine ca_ rfl ((I.frame f1).frame f2) ?_;rintro _ S1 ⟨Sa,⟨M,⟨p,oE,oW,Z,rfl,hM⟩,fa,J⟩,fb,h1⟩;rw [h1,J];rw [J] at fb;clear h1 S1 J Sa;obtain ⟨qe,de,qw,dw,U,V,hl⟩:=zb9 Z C;rw [<- hM] at U V hl;obtain ⟨gb,_⟩:=zaa fb;have:=fa.ne U;have:=fa.ne' U;have:=gb.ne U;have:=gb.ne' U
 refine r18_ ?_;refine ⟨_,M,⟨_,_,_,rfl,.inr ⟨zat,[_,_,_,_,_],zal,rds_,rfl⟩,⟨_,_,rfl,rfl,rfl⟩,rfl⟩,zae,?_⟩;exact ⟨_,rfl,hl,V⟩
theorem zqL (x:tt) (j:Nat) (h:64*j+64<=x.size):(x.extract (64*j) x.size).extract 0 64=secAt x j:=by
 unfold secAt;rw [ByteArray.extract_extract];congr 1;omega
theorem zol (x:tt) (j:Nat) (h:64*j+64<=x.size):(x.extract (64*j) x.size).extract 64 (x.extract (64*j) x.size).size=x.extract (64*(j+1)) x.size:=by
 rw [ByteArray.extract_extract,ByteArray.size_extract];congr 1 <;> omega
theorem zmM {d:D} (J:Right d) (C:d.down=false) (I:d.fuse<=9223372036854775807) (s all:tt) (k:Nat):(putTo d s all k).1.ext.length<=9223372036854775807/\(putTo d s all k).1.waits.length<=9223372036854775807 :=
 zaB (zcN J C I s all k).1
theorem ztu (v:tu) (d:D) (s:tt) (k c:Nat) (body:tt) (S:Mem) (hd:DkR S v d) (hz:Dz d) (hk:k<=8) (hc:c<=65536) (hb:body.size=eachN k*c) :
  ACall prog 15 #[v,.string s,.int .i64 (k:Int),.int .i64 (c:Int),.string body] S (DkRes (opened d (putP d s k c body)) S):=by
 have af:=zew v d S hd hz;have aq:=ziX d;have aK:needP (k:Int) c=(((needN k c:Nat):Int),0):=by unfold needP;rw [if_neg vd,Int.toNat_natCast]
 have hN:=zfH (k:Int) c;have a6:=λS=>zhc k c S hk vd;rw [aK] at hN;have bt:=zbl k c;have bo:=zhP hk hc;have bl:(padS body).size=64*(needN k c-1):=by rw [zdv,hb];unfold needN;omega
 have bh:body.size<=140737488355328:=by have:=(zef hk hc).2;rw [hb];omega
 have aF:=λS=>zhb body S bh;unfold putP;generalize needN k c=n at *;generalize padS body=all at *;generalize headS k c=hs at *;obtain ⟨pe,ce,pw,cw,rfl,hE,hW⟩:=id hd;unfold opened;rcases zdN d with ⟨ho,hR⟩ | ⟨ho,hR,aV⟩ | ⟨ho,hR,aV⟩ <;> rw [ho] at af ⊢ aq
 ·rw [if_neg (show ¬ (2:Int)=0 from by decide)];refine k_E5 81 func15 ?_;refine r2_ ?_;refine k_b5 rfl ?_;intro b5 f5;have g5:=f5
  repeat ((with_reducible replace g5:=zaa g5);obtain ⟨g5,_⟩:=g5)
  refine nl_ ?_;refine ARun.alloc (zab rfl) zas ?_;intro al ae;have I:=ae
  repeat ((with_reducible replace I:=zaa I);obtain ⟨I,_⟩:=I)
  refine nl_ ?_;refine r6_ ?_;refine ca_ rfl ((af.frame f5).frame ae) ?_;rintro _ S1 ⟨Sa,⟨M,⟨p,oE,oW,U,rfl,hM⟩,fa,C⟩,fb,h1⟩;rw [h1,C];rw [C] at fb;clear h1 S1 C Sa;refine r14_ ?_;refine cT_ ?_;obtain ⟨qe,de,qw,dw,J,Y,hl⟩:=zb9 U aq;rw [<- hM] at J Y hl;obtain ⟨gb,_⟩:=zaa fb;have:=fa.ne J;have:=fa.ne' J;have:=gb.ne J;have:=gb.ne' J
  refine r13_ ?_;refine ⟨_,M,⟨_,_,_,rfl,.inr ⟨zat,[_,_,_,_,_],zal,rds_,rfl⟩,⟨_,_,rfl,rfl,rfl⟩,rfl⟩,zae,?_⟩;exact ⟨_,rfl,hl,Y⟩
 ·rw [if_neg (show ¬ (10:Int)=0 from by decide)];refine k_E5 81 func15 ?_;refine r2_ ?_;refine k_b5 rfl ?_;intro b5 f5;have g5:=f5
  repeat ((with_reducible replace g5:=zaa g5);obtain ⟨g5,_⟩:=g5)
  refine nl_ ?_;refine ARun.alloc (zab rfl) zas ?_;intro al ae;have I:=ae
  repeat ((with_reducible replace I:=zaa I);obtain ⟨I,_⟩:=I)
  refine nl_ ?_;refine r6_ ?_;refine ca_ rfl ((af.frame f5).frame ae) ?_;rintro _ S1 ⟨Sa,⟨M,⟨p,oE,oW,U,rfl,hM⟩,fa,C⟩,fb,h1⟩;rw [h1,C];rw [C] at fb;clear h1 S1 C Sa;refine r14_ ?_;refine kw_ [0,1,2,3,4,5,10,11,12,13,23] ?_;refine cT_ ?_;obtain ⟨qe,de,qw,dw,J,Y,hl⟩:=zb9 U aq;rw [<- hM] at J Y hl;obtain ⟨gb,_⟩:=zaa fb;have:=fa.ne J;have:=fa.ne' J;have:=gb.ne J;have:=gb.ne' J
  refine r13_ ?_;refine ⟨_,M,⟨_,_,_,rfl,.inr ⟨zat,[_,_,_,_,_],zal,rds_,rfl⟩,⟨_,_,rfl,rfl,rfl⟩,rfl⟩,zae,?_⟩;exact ⟨_,rfl,hl,Y⟩
 rw [if_pos rfl];by_cases ax:(newD d s (n:Int)).2=0
 ·rw [if_neg vd];obtain ⟨aZ,a1,aA,_⟩:=(zka (s:=s) (n:=(n:Int)) hR aV).2 ax;have aA:(newD d s (n:Int)).1.fuse<=9223372036854775807:=by rw [aA];exact hz.f1
  have Z:=zcN aZ a1 aA s all;have au:=zmM aZ a1 aA s all;have bc:=λj=>zkc (d:=(newD d s (n:Int)).1) (s:=s) (all:=all) (k:=j);have aw:putTo (newD d s (n:Int)).1 s all 0=((newD d s (n:Int)).1,0):=rfl;have bg:∀ j,(putTo (newD d s (n:Int)).1 s all j).2=0->putTo (newD d s (n:Int)).1 s all (j+1)=writeD (putTo (newD d s (n:Int)).1 s all j).1 s ((j+1:Nat):Int) (secAt all j):=λj h=>by rw [putTo,if_pos h]
  have aX:=ziH hR s (n:Int);have az:=λ(p:Nat) (oE oW) (U:OkV S p d oE oW)=>zj2 p d s (n:Int) S oE oW U hR;rw [show newD d s (n:Int)=((newD d s (n:Int)).1,0) from Prod.ext rfl ax] at az;generalize (newD d s (n:Int)).1=e1 at *;generalize hP:putTo e1 s all=P at *;refine k_E5 81 func15 ?_;refine r2_ ?_;refine k_b5 rfl ?_;intro b5 f5;have g5:=f5
  repeat ((with_reducible replace g5:=zaa g5);obtain ⟨g5,_⟩:=g5)
  refine nl_ ?_;refine ARun.alloc (zab rfl) zas ?_;intro al ae;have I:=ae
  repeat ((with_reducible replace I:=zaa I);obtain ⟨I,_⟩:=I)
  refine nl_ ?_;refine r6_ ?_;refine ca_ rfl ((af.frame f5).frame ae) ?_;rintro _ S1 ⟨Sa,⟨M,⟨p,oE,oW,U,rfl,hM⟩,fa,C⟩,fb,h1⟩;rw [h1,C];rw [C] at fb;clear h1 S1 C Sa;refine r14_ ?_;refine cF_ ?_;refine r7_ ?_;refine cp_ rfl (hN _) ?_;refine r14_ ?_;refine kw_ [0,1,2,3,4,5,10,11,12,13,23,14,37] ?_;refine cT_ ?_;rw [hM] at fa fb ⊢;refine r4_ ?_;refine ca_ rfl (((az p oE oW U).frame fa).frame fb) ?_;rintro _ S1 ⟨Sa,⟨M3,⟨an,ao,ad,rfl,ak⟩,ac,C⟩,V,h1⟩;rw [h1,C];rw [C] at V;clear h1 S1 C Sa;rw [ak] at ac V ⊢;refine r7_ ?_;refine cp_ rfl (aF _) ?_;refine r5_ ?_;refine AWP.loop (X:=Nat × Option (Nat × Nat) × Option (Nat × Nat)) (λx=>[(1,.string s),(2,.int .i64 (k:Int)),(3,.int .i64 (c:Int)),(10,.pointer (some ⟨al,0,none⟩)),(12,.pointer (some ⟨p,0,none⟩)),(13,.int .i64 (P x.1).2),(14,.int .i64 ((n:Nat):Int)),(15,.int .i64 ((x.1+1:Nat):Int)),(16,.string (all.extract (64*x.1) all.size))]) (λx=>((devM S p (P x.1).1 x.2.1 x.2.2).set b5 (bx d pe ce pw cw)).set al zb) (λx=>x.1+1<=n/\OkV S p (P x.1).1 x.2.1 x.2.2/\Fresh (devM S p (P x.1).1 x.2.1 x.2.2) b5/\Fresh ((devM S p (P x.1).1 x.2.1 x.2.2).set b5 (bx d pe ce pw cw)) al) (λx=>n-x.1) ((0,an,ao)) ⟨rfl,rfl,rfl,rfl,rfl,by rw [aw];rfl,rfl,rfl,by rw [show all.extract (64*0) all.size=all from by rw [Nat.mul_zero];simp];rfl,trivial⟩ (by rw [aw];exact Mem.Less.refl _) (⟨by show 0+1<=n;omega,by rw [aw];exact ad,by rw [aw];exact ac,by rw [aw];exact V⟩) ?_;rintro ⟨j,oE,oW⟩ ⟨hj,U,fa,fb⟩;(try dsimp only at *);clear ac V ad ak M3;by_cases hi:j+1<n
  ·by_cases am:(P j).2=0
   ·rw [am];refine r12_ ?_;refine cT_ ?_;have br:(all.extract (64*j) all.size).size=all.size-64*j:=(by rw [ByteArray.size_extract];omega);have aB:=zex p (P j).1 s ((j+1:Nat):Int) (secAt all j) S oE oW U (Z j).1 (Z j).2.1;rw [<- bg j am,<- zqL all j vd] at aB;refine r10_ ?_;refine ca_ rfl ((aB.frame fa).frame fb) ?_;rintro _ S1 ⟨Sa,⟨M3,⟨an,ao,ad,rfl,ak⟩,ac,C⟩,V,h1⟩;rw [h1,C];rw [C] at V;clear h1 S1 C Sa;rw [ak] at ac V ⊢;refine r4_ ?_;refine dr_ [i0_,i1_,i2_,i3_,i4_,i5_] [] ?_;refine r8_ ?_;refine ⟨(j+1,an,ao),?_,?_,?_,?_⟩<;>try dsimp only
    ·exact ⟨rfl,rfl,rfl,rfl,rfl,rfl,rfl,zah vd,by rw [<- zol all j vd];rfl,trivial⟩
    ·exact Mem.Less.refl _
    ·exact ⟨by omega,ad,ac,V⟩
    omega
   refine r12_ ?_;refine kw_ [1,2,3,10,12,13,14,15,16,50] ?_;refine cF_ ?_;refine r12_ ?_;refine cF_ ?_;refine r9_ ?_;refine cF_ ?_;obtain ⟨qe,de,qw,dw,J,Y,hl⟩:=zb9 U (au j);obtain ⟨gb,_⟩:=zaa fb;have:=fa.ne J;have:=fa.ne' J;have:=gb.ne J;have:=gb.ne' J
   have aY:=bc j am (n-1) vd;rw [aY,if_pos am];generalize devM S p (P j).1 oE oW=M at *;refine r14_ ?_;refine ⟨_,M,⟨_,_,_,rfl,.inr ⟨zat,[_,_,_,_,_],zal,rds_,rfl⟩,⟨_,_,rfl,rfl,rfl⟩,rfl⟩,zae,?_⟩;exact ⟨_,rfl,hl,Y⟩
  obtain rfl:j=n-1:=by omega
  by_cases am:(P (n-1)).2=0
  ·rw [am];refine r12_ ?_;refine cF_ ?_;refine r12_ ?_;refine kw_ [1,2,3,10,12,13,14,15,16,50,62] ?_;refine cT_ ?_;have a8:=zfD p (P (n-1)).1 S oE oW U (Z (n-1)).1;refine r3_ ?_;refine ca_ rfl ((a8.frame fa).frame fb) ?_;rintro _ S1 ⟨Sa,⟨M3,⟨an,ao,ad,rfl,ak⟩,ac,C⟩,V,h1⟩;rw [h1,C];rw [C] at V;clear h1 S1 C Sa;rw [ak] at ac V ⊢;have aN:=zcw (Z (n-1)).1 (λ_=>true);have aB:=zex p (settleD (P (n-1)).1 λ_=>true) s 0 hs S an ao ad aN (Z (n-1)).2.1;have a9:(settleD (P (n-1)).1 λ_=>true).down=false:=(Z (n-1)).2.2 am;have bd:(settleD (P (n-1)).1 λ_=>true).fuse<=9223372036854775807:=(Z (n-1)).2.1;have a3:=zj5 aN s 0 hs;rw [if_neg vd];unfold sealD;generalize settleD (P (n-1)).1 (λ_=>true)=e3 at *;refine r8_ ?_;refine cp_ rfl (a6 _) ?_;refine ca_ rfl ((aB.frame ac).frame V) ?_;rintro _ S1 ⟨Sa,⟨M4,⟨aU,aR,aD,rfl,a5⟩,ay,C⟩,aC,h1⟩;rw [h1,C];rw [C] at aC;clear h1 S1 C Sa;rw [a5] at ay aC ⊢;refine r3_ ?_;by_cases aJ:(writeD e3 s 0 hs).2=0
   ·rw [if_pos aJ];refine r7_ ?_;refine cT_ ?_;have a0:=(zg8 aN a9 bd s hs 0).1;have aT:=zfD p (writeD e3 s 0 hs).1 S aU aR aD a0;refine r2_ ?_;refine ca_ rfl ((aT.frame ay).frame aC) ?_;rintro _ S1 ⟨Sa,⟨M5,⟨a4,bi,aW,rfl,bb⟩,aI,C⟩,aL,h1⟩;rw [h1,C];rw [C] at aL;clear h1 S1 C Sa;rw [bb] at aI aL ⊢;obtain ⟨qe,de,qw,dw,J,Y,hl⟩:=zb9 aW (zj6 a0 _);obtain ⟨gb,_⟩:=zaa aL;have:=aI.ne J;have:=aI.ne' J;have:=gb.ne J;have:=gb.ne' J
    rw [aJ];generalize devM S p (settleD (writeD e3 s 0 hs).1 λ_=>true) a4 bi=M at *;refine r13_ ?_;refine kw_ [1,2,3,10,12,13,14,15,16,50,62,73,11] ?_;refine s1_ ?_;refine ⟨_,M,⟨_,_,_,rfl,.inr ⟨zat,[_,_,_,_,_],zal,rds_,rfl⟩,⟨_,_,rfl,rfl,rfl⟩,rfl⟩,zae,?_⟩;exact ⟨_,rfl,hl,Y⟩
   rw [if_neg aJ];refine r7_ ?_;refine cF_ ?_;obtain ⟨qe,de,qw,dw,J,Y,hl⟩:=zb9 aD a3;obtain ⟨gb,_⟩:=zaa aC;have:=ay.ne J;have:=ay.ne' J;have:=gb.ne J;have:=gb.ne' J
   generalize devM S p (writeD e3 s 0 hs).1 aU aR=M at *;refine r14_ ?_;refine ⟨_,M,⟨_,_,_,rfl,.inr ⟨zat,[_,_,_,_,_],zal,rds_,rfl⟩,⟨_,_,rfl,rfl,rfl⟩,rfl⟩,zae,?_⟩;exact ⟨_,rfl,hl,Y⟩
  refine r12_ ?_;refine cF_ ?_;refine r12_ ?_;refine cF_ ?_;refine r9_ ?_;refine kw_ [1,2,3,10,12,13,14,15,16,50,62,73] ?_;refine cF_ ?_;obtain ⟨qe,de,qw,dw,J,Y,hl⟩:=zb9 U (au (n-1));obtain ⟨gb,_⟩:=zaa fb;have:=fa.ne J;have:=fa.ne' J;have:=gb.ne J;have:=gb.ne' J
  rw [if_pos am];generalize devM S p (P (n-1)).1 oE oW=M at *;refine r14_ ?_;refine ⟨_,M,⟨_,_,_,rfl,.inr ⟨zat,[_,_,_,_,_],zal,rds_,rfl⟩,⟨_,_,rfl,rfl,rfl⟩,rfl⟩,zae,?_⟩;exact ⟨_,rfl,hl,Y⟩
 rw [if_pos ax];have aX:=ziH hR s (n:Int);have az:=λ(p:Nat) (oE oW) (U:OkV S p d oE oW)=>zj2 p d s (n:Int) S oE oW U hR;generalize newD d s (n:Int)=q1 at *;refine k_E5 81 func15 ?_;refine r2_ ?_;refine k_b5 rfl ?_;intro b5 f5;have g5:=f5
 repeat ((with_reducible replace g5:=zaa g5);obtain ⟨g5,_⟩:=g5)
 refine nl_ ?_;refine ARun.alloc (zab rfl) zas ?_;intro al ae;have I:=ae
 repeat ((with_reducible replace I:=zaa I);obtain ⟨I,_⟩:=I)
 refine nl_ ?_;refine r6_ ?_;refine ca_ rfl ((af.frame f5).frame ae) ?_;rintro _ S1 ⟨Sa,⟨M,⟨p,oE,oW,U,rfl,hM⟩,fa,C⟩,fb,h1⟩;rw [h1,C];rw [C] at fb;clear h1 S1 C Sa;refine r14_ ?_;refine cF_ ?_;refine r7_ ?_;refine cp_ rfl (hN _) ?_;refine r14_ ?_;refine kw_ [0,1,2,3,4,5,10,11,12,13,23,14,37] ?_;refine cT_ ?_;rw [hM] at fa fb ⊢;refine r4_ ?_;refine ca_ rfl (((az p oE oW U).frame fa).frame fb) ?_;rintro _ S1 ⟨Sa,⟨M3,⟨an,ao,ad,rfl,ak⟩,ac,C⟩,V,h1⟩;rw [h1,C];rw [C] at V;clear h1 S1 C Sa;rw [ak] at ac V ⊢;refine r7_ ?_;refine cp_ rfl (aF _) ?_;obtain ⟨qe,de,qw,dw,J,Y,hl⟩:=zb9 ad aX;obtain ⟨gb,_⟩:=zaa V;have:=ac.ne J;have:=ac.ne' J;have:=gb.ne J;have:=gb.ne' J
 generalize devM S p q1.1 an ao=M3 at *;refine r5_ ?_;refine AWP.loop (X:=Unit) (λx=>[(10,.pointer (some ⟨al,0,none⟩)),(12,.pointer (some ⟨p,0,none⟩)),(13,.int .i64 q1.2),(14,.int .i64 ((n:Nat):Int)),(15,.int .i64 1)]) (λx=>(M3.set b5 (bx d pe ce pw cw)).set al zb) (λx=>True) (λx=>0) (()) ⟨rfl,rfl,rfl,rfl,rfl,trivial⟩ (Mem.Less.refl _) (trivial) ?_;rintro _ _;(try dsimp only at *);by_cases hi:1<n
 ·refine r12_ ?_;refine cF_ ?_;refine r12_ ?_;refine cF_ ?_;refine r9_ ?_;refine kw_ [10,12,13,14,15,50,62,73] ?_;refine cF_ ?_;refine r14_ ?_;refine ⟨_,M3,⟨_,_,_,rfl,.inr ⟨zat,[_,_,_,_,_],zal,rds_,rfl⟩,⟨_,_,rfl,rfl,rfl⟩,rfl⟩,zae,?_⟩;exact ⟨_,rfl,hl,Y⟩
 refine r12_ ?_;refine cF_ ?_;refine r12_ ?_;refine cF_ ?_;refine r9_ ?_;refine cF_ ?_;refine r13_ ?_;refine kw_ [10,12,13,14,15,50,62,73,11] ?_;refine s1_ ?_;refine ⟨_,M3,⟨_,_,_,rfl,.inr ⟨zat,[_,_,_,_,_],zal,rds_,rfl⟩,⟨_,_,rfl,rfl,rfl⟩,rfl⟩,zae,?_⟩;exact ⟨_,rfl,hl,Y⟩
end Rec
end
section
open Go.RowKit
open Mv Disk Num
namespace Rec
theorem zhQ (v:tu) (d:D) (s text:tt) (S:Mem) (hd:DkR S v d) (hz:Dz d) :
  ACall prog 6 #[v,.string s,.string text] S (DkRes (writeTextP d s text) S):=by
 have Y:=zkj v d S hd hz;unfold writeTextP;by_cases h:65536<text.size
 ·rw [if_pos h];obtain ⟨pe,ce,pw,cw,rfl,hE,hW⟩:=id hd;refine k_E3 23 func6 ?_;refine r2_ ?_;refine k_b5 rfl ?_;intro b3 Z;have J:=Z
  repeat ((with_reducible replace J:=zaa J);obtain ⟨J,_⟩:=J)
  refine nl_ ?_;refine ARun.alloc (zab rfl) zas ?_;intro b6 f6;have U:=f6
  repeat ((with_reducible replace U:=zaa U);obtain ⟨U,_⟩:=U)
  refine nl_ ?_;refine r11_ ?_;refine cT_ ?_;refine r3_ ?_;refine ca_ rfl ((Y.frame Z).frame f6) ?_;rintro _ S1 ⟨Sa,⟨M2,⟨v,rfl,V,I⟩,fc,C⟩,fd,X⟩;rw [X,C];rw [C] at fd;clear X S1 C Sa;obtain ⟨qe,de,qw,dw,rfl,_⟩:=id I;obtain ⟨ge,_⟩:=zaa fd;refine r8_ ?_;refine ⟨_,M2,⟨_,_,_,rfl,.inr ⟨zat,[_,_,_,_,_],zal,rds_,rfl⟩,⟨_,_,rfl,rfl,rfl⟩,rfl⟩,zae,?_⟩;exact ⟨_,rfl,V,I⟩
 rw [if_neg h];have aa:=ztu v d s 0 text.size text S hd hz vd vd (by unfold eachN;simp);obtain ⟨pe,ce,pw,cw,rfl,hE,hW⟩:=id hd;refine k_E3 23 func6 ?_;refine r2_ ?_;refine k_b5 rfl ?_;intro b3 Z;have J:=Z
 repeat ((with_reducible replace J:=zaa J);obtain ⟨J,_⟩:=J)
 refine nl_ ?_;refine ARun.alloc (zab rfl) zas ?_;intro b6 f6;have U:=f6
 repeat ((with_reducible replace U:=zaa U);obtain ⟨U,_⟩:=U)
 refine nl_ ?_;refine r11_ ?_;refine cF_ ?_;refine r9_ ?_;refine ca_ rfl ((aa.frame Z).frame f6) ?_;rintro _ S1 ⟨Sa,⟨M2,⟨v,rfl,V,I⟩,fc,C⟩,fd,X⟩;rw [X,C];rw [C] at fd;clear X S1 C Sa;obtain ⟨qe,de,qw,dw,rfl,_⟩:=id I;obtain ⟨ge,_⟩:=zaa fd;refine r7_ ?_;refine ⟨_,M2,⟨_,_,_,rfl,.inr ⟨zat,[_,_,_,_,_],zal,rds_,rfl⟩,⟨_,_,rfl,rfl,rfl⟩,rfl⟩,zae,?_⟩;exact ⟨_,rfl,V,I⟩
end Rec
end
section
open Go.RowKit
open Mv
namespace St
theorem zbc (s:tt):s.data.toList.length=s.size:=Array.length_toList (xs:=s.data)
theorem zom {p:UInt8->Bool}:∀ {l:List UInt8},l.dropWhile p = [] <-> ∀ x ∈ l,p x=true
 | []=>⟨λ_ x C=>(by cases C),λ_=>rfl⟩
 | a :: l=>by
  by_cases I:p a=true
  ·rw [List.dropWhile_cons_of_pos I,zom];exact ⟨λh x C=>(List.mem_cons.1 C).elim (λe=>e ▸ I) (h x),λh x C=>h x (List.mem_cons_of_mem _ C)⟩
  rw [List.dropWhile_cons_of_neg I];exact ⟨λh=>(by cases h),λh=>absurd (h a (List.mem_cons_self ..)) I⟩
def rtrim (c:UInt8) (l:List UInt8):List UInt8:=(l.reverse.dropWhile (· == c)).reverse
theorem zon (c:UInt8) (l:List UInt8) (h:∀ x ∈ l,x=c):rtrim c l = []:=by
 unfold rtrim;rw [zom.2 (λx C=>by simp [h x (List.mem_reverse.1 C)])];rfl
theorem zoo (c:UInt8) (l r:List UInt8) (h:∀ x ∈ r,x=c):rtrim c (l ++ r)=rtrim c l:=by
 unfold rtrim;rw [List.reverse_append];have:∀ (a b:List UInt8),(∀ x ∈ a,x=c)->(a ++ b).dropWhile (· == c)=b.dropWhile (· == c):=by
  intro a b C
  induction a with
  | nil=>rfl
  | cons x a J =>
   rw [List.cons_append,List.dropWhile_cons_of_pos (by simp [C x (by simp)])];exact J λy I=>C y (by simp [I])
 rw [this _ _ λx U=>h x (List.mem_reverse.1 U)]
theorem zop (c x:UInt8) (l:List UInt8) (h:x≠c):rtrim c (l ++ [x])=l ++ [x]:=by
 unfold rtrim;rw [List.reverse_append,List.reverse_singleton,List.singleton_append,List.dropWhile_cons_of_neg (by simpa using h)];simp
theorem zhd (c:UInt8) (l:List UInt8) (m:Nat) (hm:m<=l.length) (hd:∀ x ∈ l.drop m,x=c) (he:m=0\/at8 l (m-1)≠c):rtrim c l=l.take m:=by
 rw [<- List.take_append_drop m l,zoo c _ _ hd,List.take_append_drop];rcases he with rfl | he
 ·rfl
 by_cases C:m=0
 ·subst C;rfl
 obtain ⟨k,rfl⟩ : ∃ k,m=k+1:=⟨m-1,by omega⟩;rw [List.take_succ_eq_append_getElem (by omega:k<l.length)];refine zop c _ _ λe=>he ?_;rw [Nat.add_sub_cancel,<- e];simp [at8,List.getD_eq_getElem?_getD,List.getElem?_eq_getElem (by omega:k<l.length)]
theorem nb_inj {a b:UInt8}:nb a=nb b <-> a=b:=by
 unfold nb;constructor
 ·intro h;exact UInt8.toNat_inj.1 vd
 intro h;rw [h]
theorem trimRight (s:tt) (c:UInt8) (S:Mem) (hs:s.size<=9223372036854775807) :
  ACall prog 167 #[.string s,.int .u8 (nb c)] S λr S'=>r = .string (bs (rtrim c s.data.toList))/\S'=S:=by
 have V:=zbc s;refine k_E2 23 func167 ?_;refine r7_ ?_;refine AWP.loop (X:=Nat) (λm=>[(0,.string (bs (s.data.toList.take m))),(1,.int .u8 (nb c))]) (λm=>S) (λm=>m<=s.size /\ ∀ x ∈ s.data.toList.drop m,x=c) (λm=>m) (s.size) ⟨by rw [List.take_of_length_le vd,bs_of];rfl,rfl,trivial⟩ (Mem.Less.refl _) (⟨Nat.le_refl _,by rw [List.drop_of_length_le vd];intro x C;cases C⟩) ?_;rintro m ⟨hm,hd⟩;(try dsimp only at *);have Y:(bs (s.data.toList.take m)).size=m:=by rw [za2,List.length_take];omega
 by_cases h0:m=0
 ·refine r17_ ?_;refine cF_ ?_;refine r12_ ?_;refine ⟨_,S,⟨_,_,rfl,rfl,rfl⟩,zae,?_⟩;exact ⟨by rw [zhd c _ m vd hd (.inl h0)];rfl,rfl⟩
 obtain ⟨k,rfl⟩ : ∃ k,m=k+1:=⟨m-1,by omega⟩;have I:at8 (bs (s.data.toList.take (k+1))).data.toList (((bs (s.data.toList.take (k+1))).size:Int)-1).toNat=at8 s.data.toList k:=by rw [Y,bs_data,show (((k+1:Nat):Int)-1).toNat=k from by omega];simp [at8,List.getD_eq_getElem?_getD,List.getElem?_take]
 have J:s.data.toList.drop k=at8 s.data.toList k :: s.data.toList.drop (k+1):=by rw [List.drop_eq_getElem_cons (by omega:k<s.data.toList.length)];simp [at8,List.getD_eq_getElem?_getD,List.getElem?_eq_getElem (by omega:k<s.data.toList.length)]
 by_cases C:at8 s.data.toList k=c
 ·have Z:nb (at8 (bs (s.data.toList.take (k+1))).data.toList (((bs (s.data.toList.take (k+1))).size:Int)-1).toNat)=nb c:=by rw [I,C]
  refine r17_ ?_;refine cT_ ?_;refine r13_ ?_;refine ⟨k,?_,?_,?_,?_⟩<;>try dsimp only
  ·exact ⟨by rw [show (bs (s.data.toList.take k))=(bs (s.data.toList.take (k+1))).extract 0 (((bs (s.data.toList.take (k+1))).size:Int)-1).toNat from by rw [Y,show (((k+1:Nat):Int)-1).toNat=k from by omega];apply zbQ;rw [Lib.extract_data,bs_data,bs_data];simp [List.take_take]];rfl,rfl,trivial⟩
  ·exact zae
  ·exact ⟨by omega,by rw [J];intro x U;rcases List.mem_cons.1 U with e | e;exact e.trans C;exact hd x e⟩
  omega
 have Z:nb (at8 (bs (s.data.toList.take (k+1))).data.toList (((bs (s.data.toList.take (k+1))).size:Int)-1).toNat)≠nb c:=by rw [I];exact λe=>C (nb_inj.1 e)
 refine r17_ ?_;refine cF_ ?_;refine r11_ ?_;refine kw_ [0,1,16,4] ?_;refine s1_ ?_;refine ⟨_,S,⟨_,_,rfl,rfl,rfl⟩,zae,?_⟩;exact ⟨by rw [zhd c _ (k+1) vd hd (.inr C)];rfl,rfl⟩
theorem trimLeft (s:tt) (c:UInt8) (S:Mem) (hs:s.size<=9223372036854775807) :
  ACall prog 166 #[.string s,.int .u8 (nb c)] S λr S'=>r = .string (bs (s.data.toList.dropWhile (· == c)))/\S'=S:=by
 have U:=zbc s;have V:∀ l:List UInt8,l.dropWhile (· == c) = [] \/ ∃ x r,l.dropWhile (· == c)=x :: r/\x≠c:=λl=>by
  induction l with
  | nil=>exact .inl rfl
  | cons x l Z =>
   by_cases h:x=c
   ·rw [List.dropWhile_cons_of_pos (by simp [h])];exact Z
   rw [List.dropWhile_cons_of_neg (by simpa using h)];exact .inr ⟨x,l,rfl,h⟩
 refine k_E2 17 func166 ?_;refine r7_ ?_;refine AWP.loop (X:=Nat) (λm=>[(0,.string (bs (s.data.toList.drop m))),(1,.int .u8 (nb c))]) (λm=>S) (λm=>m<=s.size/\(s.data.toList.drop m).dropWhile (· == c)=s.data.toList.dropWhile (· == c)) (λm=>s.size-m) (0) ⟨by rw [List.drop_zero,bs_of];rfl,rfl,trivial⟩ (Mem.Less.refl _) (⟨Nat.zero_le _,rfl⟩) ?_;rintro m ⟨hm,hd⟩;(try dsimp only at *);have hz:(bs (s.data.toList.drop m)).size=s.size-m:=by rw [za2,List.length_drop];omega
 by_cases h0:m=s.size
 ·refine r14_ ?_;refine cF_ ?_;refine r12_ ?_;refine ⟨_,S,⟨_,_,rfl,rfl,rfl⟩,zae,?_⟩;exact ⟨by rw [<- hd,List.drop_of_length_le vd];rfl,rfl⟩
 have C:s.data.toList.drop m=at8 s.data.toList m :: s.data.toList.drop (m+1):=by rw [List.drop_eq_getElem_cons (by omega:m<s.data.toList.length)];simp [at8,List.getD_eq_getElem?_getD,List.getElem?_eq_getElem (by omega:m<s.data.toList.length)]
 have I:at8 (bs (s.data.toList.drop m)).data.toList (0:Int).toNat=at8 s.data.toList m:=by rw [bs_data,C];rfl
 by_cases J:at8 s.data.toList m=c
 ·have Y:nb (at8 (bs (s.data.toList.drop m)).data.toList (0:Int).toNat)=nb c:=by rw [I,J]
  refine r14_ ?_;refine cT_ ?_;refine r10_ ?_;refine ⟨m+1,?_,?_,?_,?_⟩<;>try dsimp only
  ·exact ⟨by rw [show (bs (s.data.toList.drop (m+1)))=(bs (s.data.toList.drop m)).extract 1 (bs (s.data.toList.drop m)).size from by apply zbQ;rw [Lib.extract_data,bs_data,bs_data,hz,C];simp;rw [List.take_of_length_le (by rw [List.length_drop];omega)]];rfl,rfl,trivial⟩
  ·exact zae
  ·exact ⟨by omega,by rw [<- hd,C,List.dropWhile_cons_of_pos (by simp [J])]⟩
  omega
 have Y:nb (at8 (bs (s.data.toList.drop m)).data.toList (0:Int).toNat)≠nb c:=by rw [I];exact λe=>J (nb_inj.1 e)
 refine r14_ ?_;refine cF_ ?_;refine r11_ ?_;refine kw_ [0,1,13,4] ?_;refine s1_ ?_;refine ⟨_,S,⟨_,_,rfl,rfl,rfl⟩,zae,?_⟩;exact ⟨by rw [<- hd,C,List.dropWhile_cons_of_neg (by simpa using J)];rfl,rfl⟩
theorem zwK (s:tt) (S:Mem) (hs:s.size<=9223372036854775807) :
  ACall prog 116 #[.string s,.string ⟨#[0]⟩] S λr S'=>r = .string (bs ((rtrim 0 s.data.toList).dropWhile (· == 0)))/\S'=S:=by
 have J:(⟨#[0]⟩ : tt).size=1:=rfl;have C:(⟨#[0]⟩ : tt)≠ByteArray.empty:=λe=>by have:=congrArg ByteArray.size e;rw [J] at this;exact absurd this (by decide)
 have X:nb (at8 (⟨#[0]⟩ : tt).data.toList (0:Int).toNat)=0:=rfl;by_cases I:s=ByteArray.empty
 ·subst I;refine k_E2 43 func116 ?_;refine r9_ ?_;refine rC (vh rfl rfl (zaf (zar _ _) (decide_eq_true rfl))) ?_;refine r6_ ?_;refine cT_ ?_;refine r8_ ?_;refine ⟨_,S,⟨_,_,rfl,rfl,rfl⟩,zae,?_⟩;exact ⟨rfl,rfl⟩
 have V:(bs (rtrim 0 s.data.toList)).size<=9223372036854775807:=by
  rw [za2];unfold rtrim;rw [List.length_reverse];have U:=(List.dropWhile_sublist (· == (0:UInt8)) (l:=s.data.toList.reverse)).length_le;rw [List.length_reverse] at U;have:=zbc s;omega
 have hl:=trimLeft (bs (rtrim 0 s.data.toList)) 0 S V;rw [bs_data] at hl;refine k_E2 43 func116 ?_;refine r9_ ?_;refine rC (vh rfl rfl (zaf (zar _ _) (decide_eq_false I))) ?_;refine r2_ ?_
 first|refine k_q 9 ?_|refine rG 9 (vh rfl rfl (zaf (zar _ _) (decide_eq_false C))) ?_
 refine r3_ ?_;refine cF_ ?_;refine r15_ ?_;refine cT_ ?_;refine s1_ ?_;refine dr_ [i0_,i1_,i2_,i4_,i5_,o3_,o6_,i7_] [] ?_;refine r5_ ?_;refine zac rfl ?_;refine cp_ rfl (trimRight s 0 S hs) ?_;refine zad ⟨ny_,?_⟩;refine zac rfl ?_;refine cp_ rfl (hl) ?_;refine zad ⟨ny_,?_⟩;refine r3_ ?_;refine kw_ [0,1,4,12,21] ?_;refine r2_ ?_;refine ⟨_,S,⟨_,_,rfl,rfl,rfl⟩,zae,?_⟩;exact ⟨rfl,rfl⟩
theorem zqM (l:List UInt8):((rtrim 0 l).dropWhile (· == 0) = []) <-> (l.all λb=>b == 0)=true:=by
 constructor
 ·intro h;rw [List.all_eq_true];intro x I;have U:∀ y ∈ rtrim 0 l,(y == (0:UInt8))=true:=zom.1 h;have V:∀ (r:List UInt8),(∀ y ∈ (r.dropWhile (· == (0:UInt8))),(y == (0:UInt8))=true) -> ∀ y ∈ r,(y == (0:UInt8))=true:=by
   intro r
   induction r with
   | nil=>intro _ y hy;cases hy
   | cons a r J =>
    by_cases C:(a == (0:UInt8))=true
    ·rw [List.dropWhile_cons_of_pos (p:=λx=>x == (0:UInt8)) C];intro hh y hy;rcases List.mem_cons.1 hy with rfl | hy
     ·exact C
     exact J hh y hy
    rw [List.dropWhile_cons_of_neg (p:=λx=>x == (0:UInt8)) C];exact λhh=>hh
  exact V l.reverse (λy hy=>U y (by unfold rtrim;exact List.mem_reverse.2 hy)) x (List.mem_reverse.2 I)
 intro h;rw [zon 0 l (λx I=>by have:=List.all_eq_true.1 h x I;simpa using this)];rfl
theorem hasPrefix (s p:tt) (S:Mem) (hs:s.size<=9223372036854775807) (I:p.size<=9223372036854775807) :
  ACall prog 177 #[.string s,.string p] S λr S'=>r = .bool (decide (s.data.toList.take p.size=p.data.toList))/\S'=S:=by
 have hl:=zbc s;have C:=zbc p;by_cases h:p.size<=s.size
 ·have e:decide (s.extract 0 p.size=p)=decide (s.data.toList.take p.size=p.data.toList):=by
   rw [decide_eq_decide];constructor
   ·intro h;rw [<- congrArg (λx=>x.data.toList) h];simp [Lib.extract_data]
   intro h;apply zbQ;rw [<- h];simp [Lib.extract_data]
  refine k_E2 18 func177 ?_;refine r24_ ?_;refine ⟨_,S,⟨_,_,rfl,rfl,rfl⟩,zae,?_⟩;exact ⟨by rw [<- e];rfl,rfl⟩
 have e:decide (s.data.toList.take p.size=p.data.toList)=false:=decide_eq_false λh=>by
  have:=congrArg List.length h;rw [List.length_take] at this;omega
 rw [e];refine k_E2 18 func177 ?_;refine r24_ ?_;refine ⟨_,S,⟨_,_,rfl,rfl,rfl⟩,zae,?_⟩;exact ⟨rfl,rfl⟩
theorem HasPrefix (s p:tt) (S:Mem) (hs:s.size<=9223372036854775807) (C:p.size<=9223372036854775807) :
  ACall prog 127 #[.string s,.string p] S λr S'=>r = .bool (decide (s.data.toList.take p.size=p.data.toList))/\S'=S:=by
 refine k_E2 8 func127 ?_;refine r9_ ?_;refine cp_ rfl (hasPrefix s p _ hs C) ?_;refine r4_ ?_;refine ⟨_,S,⟨_,_,rfl,rfl,rfl⟩,zae,?_⟩;exact ⟨rfl,rfl⟩
end St
end
section
open Go.RowKit
open Mv Disk Num
namespace Rec
theorem zfa {d:D} (C:Right d) {s:tt} {k:Int} (h:(readD d s k).2=0):(placeD d s k).2=0/\(readD d s k).1.size=64:=by
 have J:(placeD d s k).2=0:=by
  by_cases q:(placeD d s k).2=0
  ·exact q
  rw [zcL,if_pos q] at h;exact absurd h q
 refine ⟨J,?_⟩;rw [zcL,if_neg (by simpa using J)];obtain ⟨U,h2,Y⟩:=zeB J;have X:=zbr C.ex.asc U;have Z:=(zdn (C.ex.ok _ X.1)).2;unfold seen;rcases zhI allK d.waits s k ((exOf d.ext s).2.extract (64*k.toNat) (64*k.toNat+64)) d.waits.length with e | ⟨w,V,_,_,e⟩
 ·rw [e,ByteArray.size_extract];omega
 rw [e];obtain ⟨_,_,_,_,_,I⟩:=C.wr w V;exact I
noncomputable def headD (d:D) (s:tt):Nat × Nat × Int :=
  if (readD d s 0).2≠0 then (0,0,(readD d s 0).2) else
  if (formP (readD d s 0).1).2.2≠0 then (0,0,(formP (readD d s 0).1).2.2) else
  if (needP (formP (readD d s 0).1).1 (formP (readD d s 0).1).2.1).2≠0\/(sec (exOf d.ext s):Int)≠(needN (formP (readD d s 0).1).1 (formP (readD d s 0).1).2.1:Nat) then (0,0,2) else
  formP (readD d s 0).1
theorem zfb {d:D} (h:(openD d).2=0) (s:tt) (k:Int):readO d s k=readD d s k:=by unfold readO;rw [if_neg vd]
theorem zfc {d:D} (h:(openD d).2=0) (s:tt):headP d s=headD d s:=by
 unfold headP headD;rw [zfb h];by_cases q:(readD d s 0).2≠0
 ·rw [if_pos q,if_pos q]
 rw [if_neg q,if_neg q];have hh:has d.ext s=true:=by
  have q:(readD d s 0).2=0:=by omega
  by_cases p:(placeD d s 0).2=0
  ·exact (zeB p).1
  rw [zcL,if_pos p] at q;exact absurd q p
 have hs:(sectorsD d s).1=((sec (exOf d.ext s):Nat):Int):=by unfold sectorsD;rw [if_neg vd,if_pos hh]
 rw [hs]
theorem zmN {d:D} (h:(openD d).2≠0) (s:tt):headP d s=(0,0,(openD d).2):=by
 have e:(readO d s 0).2=(openD d).2:=by unfold readO;rw [if_pos h]
 unfold headP;rw [if_pos (by rw [e];exact h),e]
theorem ziY (s:tt) (S:Mem) (hs:s.size<=9223372036854775807):ACall prog 67 #[.string s] S λr S'=>r = .bool (zeroL s.data.toList)/\S'=S:=by
 have e:decide (bs ((St.rtrim 0 s.data.toList).dropWhile (· == 0))=ByteArray.empty)=zeroL s.data.toList:=by
  rw [Bool.eq_iff_iff,decide_eq_true_eq];unfold zeroL;rw [<- St.zqM];constructor
  ·intro h;have:=congrArg (λx=>x.data.toList) h;rw [bs_data] at this;exact this
  intro h;rw [h];rfl
 refine k_E1 6 func67 ?_;refine r8_ ?_;refine cp_ rfl (St.zwK s _ hs) ?_;refine r5_ ?_;refine ⟨_,S,⟨_,_,rfl,rfl,rfl⟩,zae,?_⟩;exact ⟨by rw [<- e];rfl,rfl⟩
def formV (p:Nat × Nat × Int):tu:=.tuple #[.int .i64 (p.1:Nat),.int .u64 (p.2.1:Nat),.int .i64 p.2.2]
theorem zlj (l:List UInt8) (j:Nat):at8 l j=l.getD j 0:=rfl
theorem zqN (s:tt) (S:Mem) (hs:s.size=64):ACall prog 111 #[.string s] S λr S'=>r=formV (formP s)/\S'=S:=by
 have C:=λM=>St.HasPrefix s ⟨#[87,82]⟩ M vd (by show 2<=_;decide);have aa:(⟨#[87,82]⟩ : tt).data.toList = [87,82]:=rfl;rw [aa] at C;have af:=St.zbc s;unfold formV formP;by_cases I:s.data.toList.take 2 = [87,82]
 ·rw [show s.data.toList.take (⟨#[87,82]⟩ : tt).size=s.data.toList.take 2 from rfl,decide_eq_true I] at C;by_cases Z:8<(s.data.toList.getD 2 0).toNat
  ·rw [if_pos (.inr (.inl Z))];have hn:(8:Int)<nb (at8 s.data.toList (2:Int).toNat):=(by rw [zlj];unfold nb;exact Int.ofNat_lt.2 Z);refine k_E1 36 func111 ?_;refine r11_ ?_;refine cp_ rfl (C _) ?_;refine r3_ ?_
   first|refine k_q 10 ?_|refine rG 10 (vM (zax zaE) rfl rfl vd vd) ?_
   refine r10_ ?_;refine cT_ ?_;refine r9_ ?_;refine ⟨_,S,⟨_,_,rfl,⟨_,_,rfl,⟨_,_,rfl,rfl,rfl⟩,rfl⟩,rfl⟩,zae,?_⟩;exact ⟨rfl,rfl⟩
  have hn : ¬ (8:Int)<nb (at8 s.data.toList (2:Int).toNat):=by rw [zlj];unfold nb;exact λh=>Z (Int.ofNat_lt.1 h)
  have ag:=nb_nonneg (at8 s.data.toList (2:Int).toNat);have Y:∀ n:Nat,n<=64->(s.extract n s.size).data.toList=s.data.toList.drop n:=λn hn=>by simp [Lib.extract_data];rw [List.take_of_length_le (by rw [List.length_drop];omega)]
  have J:=λM=>ziY (s.extract 12 s.size) M (by rw [ByteArray.size_extract];omega);rw [Y 12 (by decide)] at J;by_cases U:zeroL (s.data.toList.drop 12)=false
  ·rw [if_pos (.inr (.inr U))];rw [U] at J;refine k_E1 36 func111 ?_;refine r11_ ?_;refine cp_ rfl (C _) ?_;refine r3_ ?_
   first|refine k_q 10 ?_|refine rG 10 (vM (zax zaE) rfl rfl vd vd) ?_
   refine r5_ ?_;refine vC 8 false 15 rfl (zab rfl) rfl (zab rfl) zs9 rfl (J _) ?_;rintro _ X ⟨rfl,I⟩;rw [I];clear I X;refine r4_ ?_;refine cT_ ?_;refine r9_ ?_;refine ⟨_,S,⟨_,_,rfl,⟨_,_,rfl,⟨_,_,rfl,rfl,rfl⟩,rfl⟩,rfl⟩,zae,?_⟩;exact ⟨rfl,rfl⟩
  rw [if_neg (λh=>by rcases h with h | h | h;exact h I;exact Z h;exact U h)];rw [Bool.not_eq_false] at U;rw [U] at J;have ho:∀ M,ACall prog 162 #[.string (s.extract 0 12)] M λr S'=>r = .tuple #[.string (openS (s.extract 0 12)).1,.int .i64 (openS (s.extract 0 12)).2]/\S'=M:=λM=>vN λw=>zqG _ (by rw [ByteArray.size_extract,hs];decide) w;have V:=λM=>ztt (s.extract 3 s.size) M (by rw [ByteArray.size_extract];omega) (by rw [ByteArray.size_extract];omega);rw [Y 3 (by decide)] at V;by_cases h4:(openS (s.extract 0 12)).2=0
  ·rw [if_neg vd];rw [h4] at ho;refine k_E1 36 func111 ?_;refine r11_ ?_;refine cp_ rfl (C _) ?_;refine r3_ ?_
   first|refine k_q 10 ?_|refine rG 10 (vM (zax zaE) rfl rfl vd vd) ?_
   refine r5_ ?_;refine vC 8 false 15 rfl (zab rfl) rfl (zab rfl) zs9 rfl (J _) ?_;rintro _ X ⟨rfl,I⟩;rw [I];clear I X;refine r4_ ?_;refine cF_ ?_;refine r7_ ?_;refine cp_ rfl (ho _) ?_;refine r13_ ?_;refine kw_ [0,2,3,4,20,6,28] ?_;refine cF_ ?_;refine r3_ ?_;refine dr_ [i0_,i1_,i2_,i3_,i4_,o5_,i6_,i7_,i8_] [] ?_;refine r5_ ?_;refine zac rfl ?_;refine cp_ rfl (V _) ?_;refine zad ⟨ny_,?_⟩;refine r6_ ?_;refine ⟨_,S,⟨_,_,rfl,⟨_,_,rfl,⟨_,_,rfl,rfl,rfl⟩,rfl⟩,rfl⟩,zae,?_⟩;exact ⟨rfl,rfl⟩
  rw [if_pos h4];refine k_E1 36 func111 ?_;refine r11_ ?_;refine cp_ rfl (C _) ?_;refine r3_ ?_
  first|refine k_q 10 ?_|refine rG 10 (vM (zax zaE) rfl rfl vd vd) ?_
  refine r5_ ?_;refine vC 8 false 15 rfl (zab rfl) rfl (zab rfl) zs9 rfl (J _) ?_;rintro _ X ⟨rfl,I⟩;rw [I];clear I X;refine r4_ ?_;refine cF_ ?_;refine r7_ ?_;refine cp_ rfl (ho _) ?_;refine r13_ ?_;refine cT_ ?_;refine r8_ ?_;refine kw_ [0,2,3,4,20,6,28] ?_;refine r2_ ?_;refine ⟨_,S,⟨_,_,rfl,⟨_,_,rfl,⟨_,_,rfl,rfl,rfl⟩,rfl⟩,rfl⟩,zae,?_⟩;exact ⟨rfl,rfl⟩
 rw [if_pos (.inl I)];rw [show s.data.toList.take (⟨#[87,82]⟩ : tt).size=s.data.toList.take 2 from rfl,decide_eq_false I] at C;refine k_E1 36 func111 ?_;refine r11_ ?_;refine cp_ rfl (C _) ?_;refine r14_ ?_;refine cT_ ?_;refine r9_ ?_;refine ⟨_,S,⟨_,_,rfl,⟨_,_,rfl,⟨_,_,rfl,rfl,rfl⟩,rfl⟩,rfl⟩,zae,?_⟩;exact ⟨rfl,rfl⟩
theorem ziZ {S:Mem} {b o:Nat} {u v:tu} (h:S.Knows ⟨b,o,none⟩ [u,v]):S.Knows ⟨b,o+1,none⟩ [v]:=λw I j x C=>by
 cases j with
 | zero =>
  have:=h w I 1 v rfl;simp only [List.getElem?_cons_zero,Option.some.injEq] at C;subst C;rw [zaz] at this ⊢;exact this
 | succ j=>simp at C
theorem zqO (s n:tt) (x:tt) (kb:Nat) (S:Mem) (hk:S.Knows ⟨kb,0,none⟩ [.string s]) :
  ACall prog 113 #[.agg #[.string n,.string x],.pointer (some ⟨kb,0,none⟩)] S λr S'=>r = .bool (decide (n=s))/\S'=S:=by
 refine k_E2 8 func113 ?_;refine r2_ ?_;refine vA (cs:=[_,_]) (zab rfl) rfl ?_;intro J I;have C:=I
 repeat ((with_reducible replace C:=zaa C);obtain ⟨C,_⟩:=C)
 refine nl_ ?_;refine r13_ ?_;refine ⟨_,S,⟨_,_,rfl,rfl,rfl⟩,zae,?_⟩;exact ⟨rfl,rfl⟩
theorem zi0 (v:tu) (l:List Ext) (s:tt) (kb:Nat) (S:Mem) (hl:Sl 2 extF S v l) (hk:S.Knows ⟨kb,0,none⟩ [.string s]) (x:Ext) (hx:x ∈ l) (I:x.1=s) (Z:Asc l) :
  ACall prog 112 #[v,.func (.func 113) #[] #[.pointer (some ⟨kb,0,none⟩)]] S λr S'=>(∃ j,∃ h:j<l.length,r = .int .i64 (j:Int)/\l[j]=x)/\S'=S:=by
 obtain ⟨a,cap,rfl,J,h2,h3⟩:=id hl;refine k_E2 19 func112 ?_;refine r14_ ?_;refine AWP.loop (X:=Nat) (λi=>[(0,.slice a l.length cap),(1,.func (.func 113) #[] #[.pointer (some ⟨kb,0,none⟩)]),(7,.int .i64 l.length),(8,.int .i64 i)]) (λi=>S) (λi=>i<=l.length /\ ∀ j (h:j<l.length),j<i->l[j].1≠s) (λi=>l.length-i) (0) ⟨rfl,rfl,rfl,rfl,trivial⟩ (Mem.Less.refl _) (⟨Nat.zero_le _,λj _ h=>absurd h (Nat.not_lt_zero _)⟩) ?_;rintro i ⟨hi,C⟩;(try dsimp only at *);obtain ⟨j0,V,e0⟩:=List.getElem_of_mem hx;have hc:i<l.length:=by rcases Nat.lt_or_ge i l.length with h | h;exact h;exact absurd (by rw [e0];exact I) (C j0 V vd)
 refine r6_ ?_;refine cT_ ?_;obtain ⟨b,off,rfl,U⟩:=h3.resolve_left (λe=>by subst e;simp at hc);have Y:=U i hc;unfold extF at Y;refine r17_ ?_;refine vn (zab rfl) zvk rfl rfl (zqO s l[i].1 l[i].2 kb _ hk) ?_;rintro _ S1 ⟨rfl,J⟩;rw [J];clear J S1;refine r2_ ?_;refine vu rfl (λhb=>?_) (λhb=>?_)
 ·have hb:=of_decide_eq_true hb;refine r12_ ?_;refine ⟨_,S,⟨_,_,rfl,rfl,rfl⟩,zae,?_⟩;exact ⟨⟨i,hc,rfl,by have e1:=zbB Z (List.getElem_mem hc);have e2:=zbB Z hx;rw [<- e1,<- e2,hb,I]⟩,rfl⟩
 have hb:=of_decide_eq_false hb;refine r8_ ?_;refine ⟨i+1,?_,?_,?_,?_⟩<;>try dsimp only
 ·exact ⟨rfl,rfl,rfl,rfl,trivial⟩
 ·exact zae
 ·exact ⟨hc,λj h hj=>by rcases Nat.lt_or_ge j i with h' | h';exact C j h h';obtain rfl:j=i:=vd;exact hb⟩
 omega
end Rec
end
section
open Go.RowKit
open Mv Num
theorem zoq {w w':tv} {a:Addr} (h:w'.heap[a.block]?=w.heap[a.block]?):w'.cell? a=w.cell? a:=by unfold World.cell?;rw [h]
theorem zi1 {α : Type} [Inhabited α] (enc : α->tu) {S:Mem} {b room m:Nat} {T:tx} {cs:List tu} (d:Array α) (os:Array Obj) {w:tv} (I:View (S.set b ⟨T,cs,room⟩) w) (hl:cs.length=d.size) :
  Step (S.set b ⟨T,cs,room⟩) w (S.set b ⟨T,d.toList.map enc,room⟩) (Go.Proofs.sortWorld enc w b 0 m d os):=by
 obtain ⟨cur,fz,h1,h2,h3,h4⟩:=I.own b _ (vf _ _ _);have ae:d.size<=cur.size:=by have:=h2.length_le;simp only [Array.length_toList] at this;rw [<- hl];exact this
 have Z:w.heap.size<=(Go.Proofs.sortWorld enc w b 0 m d os).heap.size:=by
  show w.heap.size<=(w.heap.modify b _ ++ os).size;rw [Array.size_append,Array.size_modify];omega
 have hh:∀ k,k<w.heap.size->(Go.Proofs.sortWorld enc w b 0 m d os).heap[k]?=(w.heap.modify b (Go.Sort.onCells (Go.Sort.putCells enc 0 d)))[k]?:=λk hk=>by
  show (w.heap.modify b _ ++ os)[k]?=_;rw [Array.getElem?_append_left (by rw [Array.size_modify];exact hk)]
 have X:∀ k,k<w.heap.size->k≠b->(Go.Proofs.sortWorld enc w b 0 m d os).heap[k]?=w.heap[k]?:=λk hk Y=>by
  rw [hh k hk,Array.getElem?_modify,if_neg (Ne.symm Y)]
 have hb:=hh b (I.lt (vf _ _ _));rw [Array.getElem?_modify,if_pos rfl,h1] at hb;have C:(Go.Sort.putCells enc 0 d cur).size=cur.size:=by unfold Go.Sort.putCells;rw [Array.size_mapIdx]
 refine ⟨⟨λk r hk=>?_,λa v ha=>?_,?_⟩,rfl,rfl,rfl,Z,λk hk J=>X k hk (λe=>by rw [e,vf] at J;cases J),λk hk=>.inl ?_,λ_ _ h=>.inl h⟩
 ·by_cases e:k=b
  ·subst e;rw [vf] at hk;cases hk;refine ⟨_,fz,hb,?_,by rw [C];exact h3,by rw [C];exact h4⟩;rw [List.prefix_iff_eq_take];refine List.ext_getElem (by simp [C];omega) λi i1 i2=>?_;have hi:i<d.size:=(by simpa using i1);rw [List.getElem_map,List.getElem_take,Array.getElem_toList,Array.getElem_toList];unfold Go.Sort.putCells;rw [Array.getElem_mapIdx,if_pos vd];simp [getElem!_pos d i hi]
  rw [vg _ _ e] at hk;have U:=(vg S ⟨T,cs,room⟩ e).trans hk;rw [X k (I.lt U) e];exact I.own k r U
 ·obtain ⟨g1,V⟩:=I.ro a v ha;have e:a.block≠b:=λe=>by rw [e,vf] at V;cases V
  refine ⟨(zoq (X _ (World.block_lt_of_cell? _ _ g1) e)).trans g1,?_⟩;rw [vg _ _ e] at V ⊢;exact V
 ·exact I.fzOf rfl (λk hk _=>by
   have e:k≠b:=λe=>(by rw [e,vf] at hk;cases hk);rw [vg _ _ e] at hk ⊢;exact hk) λk hk J=>X k hk (λe=>by rw [e,vf] at J;cases J)
 by_cases e:k=b
 ·subst e;rw [vf];simp
 rw [vg _ _ e] at hk ⊢;exact hk
theorem zsB {P:tz} {α : Type} [Inhabited α] {enc : α->tu} {cf : α -> α->Int} {f g:tA} {cb:Array tu} {T:tx} {S:Mem} {b n cap room:Nat} (L:List α) (hn:L.length=n) (Y:n<4611686018427387904) (hb:Fresh S b)
  (hc:∀ w,View S w -> ∀ x y,Calls P g (#[enc x,enc y] ++ cb) w λe w'=>e = .returned (.int .i64 (cf x y)) /\ ∃ q os,w'=Go.Sort.grow (w.drewN q) os)
  (hk:∀ (d:Array α) (w:tv),Go.Proofs.CmpLays1 P g cb enc cf b 0 d.size w->Go.Sort.Holds enc w b 0 d->b<w.heap.size->d.size<4611686018427387904->Calls P f #[.slice (some ⟨b,0,none⟩) d.size cap,.func (.func g) #[] cb] w λe w'=>e = .returned (.tuple #[]) /\ ∃ d' k os,Go.Sort.PermIn 0 d.size d d'/\Go.Sort.SortedIn (Go.Proofs.ltOf cf) 0 d.size d'/\w'=Go.Proofs.sortWorld enc w b 0 k d' os) :
  ACall P f #[.slice (some ⟨b,0,none⟩) n cap,.func (.func g) #[] cb] (S.set b ⟨T,L.map enc,room⟩) λr S'=>r = .tuple #[] /\ ∃ L':List α,L'.Perm L/\L'.Pairwise (λx y=>¬ cf y x<0)/\S'=S.set b ⟨T,L'.map enc,room⟩:=λw U=>by
 subst hn;obtain ⟨cur,fz,h1,h2,h3,h4⟩:=U.own b _ (vf _ _ _);have V:=U.lt (vf _ _ _);have hh:Go.Sort.Holds enc w b 0 L.toArray:=λj J=>by
  have I:j<L.length:=by simpa using J
  have C:=zce h2 (show (L.map enc)[j]?=some (enc L[j]) from by simp [I]);have Z:j<cur.size:=by
   have:=(List.getElem?_eq_some_iff.1 C).1;simpa using this
  rw [getElem!_pos L.toArray j J,List.getElem_toArray,Nat.zero_add];constructor
  ·simp only [World.cell?,h1];simpa using C
  have:=h4 j (.inl Z);simp [World.frozen?,h1];omega
 have hl:(L.map enc).length=L.toArray.size:=by simp
 have ac:Go.Proofs.CmpLays1 P g cb enc cf b 0 L.toArray.size w:=λm os dk hs x y=>hc _ ((zi1 enc (m:=m) dk os U (by rw [hl,hs])).view.less (vi _ _ _ hb.1)) x y;refine (hk L.toArray w ac hh V (by simpa using Y)).mono λe w' ⟨he,d',k,os,C,hs,hw⟩=>?_;have hd:d'.size=L.length:=by rw [C.1];simp
 refine ⟨_,S.set b ⟨T,d'.toList.map enc,room⟩,he,⟨rfl,d'.toList,?_,?_,rfl⟩,by rw [hw];exact zi1 enc d' os U (by rw [hl,C.1])⟩
 ·have:=C.2.2;rw [show d'.extract 0 L.toArray.size=d' by rw [<- C.1];simp,show L.toArray.extract 0 L.toArray.size=L.toArray by simp] at this;simpa using this
 rw [List.pairwise_iff_getElem];intro i j hi J aa;have X:i<d'.size:=by simpa using hi
 have I:j<d'.size:=by simpa using J
 have:=hs i j (Nat.zero_le _) aa (by simp;omega);rw [getElem!_pos d' j I,getElem!_pos d' i X] at this;unfold ltOf at this;simpa using this
theorem Mv.ACall.of_view {P:tz} {f:tA} {args:Array tu} {v:tu} {S:Mem} (h:∀ w,View S w->Calls P f args w λe w'=>e = .returned v/\w'=w):ACall P f args S λv' S'=>v'=v/\S'=S:=λw C =>
 (h w C).mono λe w' ⟨I,J⟩=>⟨_,S,I,⟨rfl,rfl⟩,by rw [J];exact Step.refl C⟩
theorem ztv (x:Int) (w:tv):Calls prog 259 #[.int .u64 x] w λe w'=>e = .returned (.bool false)/\w'=w:=by
 go_enter func259,ntmps259
 go_wp2_with fail
 go_ret
 exact ⟨by simp,rfl⟩
theorem zvD (x y:Nat) (w:tv):Calls prog 240 #[.int .u64 (x:Int),.int .u64 (y:Int)] w λe w'=>e = .returned (.int .i64 (if x<y then -1 else if y<x then 1 else 0))/\w'=w:=by
 rcases Nat.lt_trichotomy x y with q | q | q
 ·have C:(x:Int)<y:=by omega
  go_enter func240,ntmps240
  go_wp2_with (go_at_call 259;refine (ztv _ _).mono ?_;rintro e w' ⟨rfl,rfl⟩)
  go_ret
  exact ⟨by simp,rfl⟩
 ·subst q
  go_enter func240,ntmps240
  go_wp2_with (go_at_call 259;refine (ztv _ _).mono ?_;rintro e w' ⟨rfl,rfl⟩)
  go_ret
  exact ⟨by simp,rfl⟩
 have C : ¬ (x:Int)<y:=by omega
 have I:(y:Int)<x:=by omega
 go_enter func240,ntmps240
 go_wp2_with (go_at_call 259;refine (ztv _ _).mono ?_;rintro e w' ⟨rfl,rfl⟩)
 go_ret
 exact ⟨by simp,rfl⟩

theorem zor {l m:List Nat} {i:Nat} (h:cmpB l m=cmpB (l.drop i) (m.drop i)) (hl:i<l.length) (hm:i<m.length):cmpB l m=if l[i]<m[i] then -1 else if m[i]<l[i] then 1 else cmpB (l.drop (i+1)) (m.drop (i+1)):=by
 rw [h,List.drop_eq_getElem_cons hl,List.drop_eq_getElem_cons hm];rfl
theorem zi2 (v u:tu) (l m:List Nat) (S:Mem) (hv:Sl 1 u64s S v l) (hu:Sl 1 u64s S u m) (w:tv) (Y:View S w) :
  Calls prog 221 #[v,u] w λe w'=>e = .returned (.int .i64 (cmpB l m))/\w'=w:=by
 obtain ⟨a,c,rfl,l1,l2,l3⟩:=hv;obtain ⟨b,d,rfl,m1,m2,m3⟩:=hu
 go_enter func221,ntmps221
 go_wp2_with fail
 go_loop [11] (λC=>∃ i:Nat,i<=l.length/\C = .int .i64 i/\Hid (cmpB l m=cmpB (l.drop i) (m.drop i))) (λC=>l.length-(intOf C).toNat)
 case atStart=>exact ⟨0,Nat.zero_le _,rfl,Lib.hid (by simp)⟩
 case round =>
  obtain ⟨i,hi,rfl,hc⟩:=hrel;by_cases I:i<l.length
  ·obtain ⟨p,o,rfl,hk⟩:=l3.resolve_left (λe=>by rw [e] at I;simp at I);have g1:w.cell? ⟨p,o+i,none⟩=some (.int .u64 (l[i] : Int)):=(by simpa [Addr.add] using hk i I w Y 0 _ rfl);by_cases J:i<m.length
   ·obtain ⟨p2,o2,rfl,V⟩:=m3.resolve_left (λe=>by rw [e] at J;simp at J);have g2:w.cell? ⟨p2,o2+i,none⟩=some (.int .u64 (m[i] : Int)):=(by simpa [Addr.add] using V i J w Y 0 _ rfl);have hd:=zor hc.out I J;have X:(i:Int)<l.length:=(by omega);have U:(i:Int)<m.length:=(by omega);have Z:(0:Int)<=i:=(by omega);have j4:(i:Int).toNat=i:=(by omega);have h:=zvD l[i] m[i] w;by_cases e1:l[i]<m[i]
    ·rw [if_pos e1] at h hd
     go_wp2_with (go_at_call 240;refine h.mono ?_;rintro e w' ⟨rfl,rfl⟩)
     go_ret
     exact ⟨by simp [hd],rfl⟩
    rw [if_neg e1] at h hd;by_cases e2:m[i]<l[i]
    ·rw [if_pos e2] at h hd
     go_wp2_with (go_at_call 240;refine h.mono ?_;rintro e w' ⟨rfl,rfl⟩)
     go_ret
     exact ⟨by simp [hd],rfl⟩
    rw [if_neg e2] at h hd;have hd:=Lib.hid hd
    go_wp2_with (go_at_call 240;refine h.mono ?_;rintro e w' ⟨rfl,rfl⟩)
    exact ⟨⟨i+1,I,by simp,hd⟩,by simp [intOf];omega⟩
   have hd:cmpB l m=1:=(by rw [hc.out,List.drop_eq_getElem_cons I,List.drop_eq_nil_of_le (show m.length<=i by omega)];rfl);have X:(i:Int)<l.length:=(by omega);have U : ¬ (i:Int)<m.length:=(by omega);have Z:(0:Int)<=i:=(by omega);have j4:(i:Int).toNat=i:=by omega
   go_wp2_with fail
   go_ret
   exact ⟨by simp [hd],rfl⟩
  have X : ¬ (i:Int)<l.length:=by omega
  have e0:l.drop i = []:=List.drop_eq_nil_of_le vd;by_cases J:l.length<m.length
  ·have hd:cmpB l m = -1:=(by rw [hc.out,e0,List.drop_eq_getElem_cons (show i<m.length by omega)];rfl);have U:(l.length:Int)<m.length:=by omega
   go_wp2_with fail
   go_ret
   exact ⟨by simp [hd],rfl⟩
  have hd:cmpB l m=0:=by rw [hc.out,e0,List.drop_eq_nil_of_le (show m.length<=i by omega)];rfl
  have U : ¬ (l.length:Int)<m.length:=by omega
  go_wp2_with fail
  go_ret
  exact ⟨by simp [hd],rfl⟩
theorem zqP (x y:Nat) (S:Mem):ACall prog 240 #[.int .u64 x,.int .u64 y] S λr S'=>r = .int .i64 (if x<y then -1 else if y<x then 1 else 0)/\S'=S:=.of_view λw _=>zvD x y w
theorem zcy (a b:List Nat) (I C:tu) (S:Mem) (J:Sl 1 u64s S I a) (hb:Sl 1 u64s S C b) :
  ACall prog 221 #[I,C] S λr S'=>r = .int .i64 (cmpB a b)/\S'=S:=.of_view λw U=>zi2 I C a b S J hb w U
theorem zos (a b:List Nat) (I C:tu) (S:Mem) (J:Sl 1 u64s S I a) (hb:Sl 1 u64s S C b) :
  ACall prog 288 #[I,C] S λr S'=>r = .bool (lessB a b)/\S'=S:=by
 have U:=zgd a b;refine k_E2 9 func288 ?_;refine r9_ ?_;refine cp_ rfl (zcy a b I C S J hb) ?_;refine rC (vh rfl rfl (zaf (zaA _ _) U)) ?_;refine r4_ ?_;refine ⟨_,S,⟨_,_,rfl,rfl,rfl⟩,zae,?_⟩;exact ⟨rfl,rfl⟩
end
section
open Go.RowKit
open Mv Disk Num
namespace Rec
theorem zot {s:tt} (h:s.size=64):(formP s).1<=255/\(formP s).2.1<18446744073709551616/\((formP s).2.2=0->(formP s).1<=8):=by
 unfold formP;by_cases I:s.data.toList.take 2 ≠ [87,82]\/8<(s.data.toList.getD 2 0).toNat\/zeroL (s.data.toList.drop 12)=false
 ·rw [if_pos I];exact ⟨by decide,by decide,λh=>by simp at h⟩
 rw [if_neg I];by_cases C:(openS (s.extract 0 12)).2≠0
 ·rw [if_pos C];exact ⟨Nat.zero_le _,Nat.lt_of_lt_of_le (Nat.zero_lt_succ 0) (by show 1<=18446744073709551616;decide),λh=>absurd h C⟩
 rw [if_neg C];have J:(s.data.toList.getD 2 0).toNat<=8:=by
  rcases Nat.lt_or_ge 8 (s.data.toList.getD 2 0).toNat with h | h
  ·exact absurd (.inr (.inl h)) I
  exact h
 refine ⟨by show (s.data.toList.getD 2 0).toNat<=255;omega,?_,λ_=>J⟩;show ofB ((s.data.toList.drop 3).take 5)<_;have:=zsy ((s.data.toList.drop 3).take 5);have hl:((s.data.toList.drop 3).take 5).length=5:=by rw [List.length_take,List.length_drop,St.zbc,h];rfl
 rw [hl] at this;omega
theorem zfI {w c:Nat} (C:w<=8):((needP (w:Int) c).2≠0 <-> 65536<c)/\(c<=65536->needP (w:Int) c=(((needN w c:Nat):Int),0)):=by
 unfold needP;by_cases h:65536<c
 ·rw [if_pos vd];exact ⟨⟨λ_=>h,λ_=>by decide⟩,λh'=>by omega⟩
 rw [if_neg vd,Int.toNat_natCast];exact ⟨⟨λh'=>absurd rfl h',λh'=>absurd h' h⟩,λ_=>rfl⟩
theorem zhe (p:Nat) (d:D) (s:tt) (M:Mem) (h:RdV M p d) (hR:Right d) :
  ACall prog 63 #[.pointer (some ⟨p,0,none⟩),.string s] M λr S'=>r=formV (headD d s)/\S'=M:=by
 have I:=λM h=>zhK p d s 0 M h hR;unfold headD;by_cases q1:(readD d s 0).2=0
 ·rw [if_neg vd];obtain ⟨ay,ai⟩:=zfa hR q1;obtain ⟨al,_,_⟩:=zeB ay;obtain ⟨hx,ak⟩:=zbr hR.ex.asc al;have aE:=(zdn (hR.ex.ok _ hx)).2;have J:=λM=>zqN (readD d s 0).1 M ai;obtain ⟨f1,f2,V⟩:=zot ai;rw [show readD d s 0=((readD d s 0).1,0) from Prod.ext rfl q1] at I;generalize (readD d s 0).1=y at *;rcases hf:formP y with ⟨w,c,e⟩
  rw [hf] at J f1 f2 V;simp only [formV] at J f1 f2 V ⊢;by_cases q2:e=0
  ·subst q2;rw [if_neg (by simp)];have V:=V rfl;have U:=λM=>zfH (w:Int) c M;obtain ⟨n1,n2⟩:=zfI (c:=c) V;by_cases q3:65536<c
   ·have n1:=n1.2 q3;rw [if_pos (.inl n1)];unfold needV at U;generalize needP (w:Int) c=nn at *;obtain ⟨qe,de,qw,dw,Y,hE,hW⟩:=id h;have X:=λM' kb hl hk=>zi0 (.slice qe d.ext.length de) d.ext s kb M' hl hk _ hx ak hR.ex.asc;refine k_E2 63 func63 ?_;refine r2_ ?_;refine vo (zab rfl) rfl rfl ?_;intro b3 V;have C:=V
    repeat ((with_reducible replace C:=zaa C);obtain ⟨C,_⟩:=C)
    have:=C.ne Y;have:=C.ne' Y
    refine nl_ ?_;refine r9_ ?_;refine cp_ rfl (I _ (h.less zae)) ?_;refine r14_ ?_;refine cF_ ?_;refine r5_ ?_;refine cp_ rfl (J _) ?_;refine r16_ ?_;refine cF_ ?_;refine r6_ ?_;refine cp_ rfl (U _) ?_;refine r7_ ?_;refine kw_ [0,1,3,4,5,6,7,8,20,9,10,29,11] ?_;refine r8_ ?_;refine ca_ rfl (X _ b3 (hE.less zae) (Mem.rds.knows rds_)) ?_;rintro _ S1 ⟨⟨j,hj,rfl,ac⟩,h1⟩;rw [h1];clear h1 S1;refine r25_ ?_;refine cT_ ?_;refine r9_ ?_;refine ⟨_,M,⟨_,_,rfl,⟨_,_,rfl,⟨_,_,rfl,rfl,rfl⟩,rfl⟩,rfl⟩,zae,?_⟩;exact ⟨rfl,rfl⟩
   have n2:=n2 vd;rw [n2] at U ⊢;unfold needV at U;have aG:=zhP V (by omega:c<=65536);generalize needN w c=n at *;obtain ⟨qe,de,qw,dw,Y,hE,hW⟩:=id h;have X:=λM' kb hl hk=>zi0 (.slice qe d.ext.length de) d.ext s kb M' hl hk _ hx ak hR.ex.asc;have aD:=(za8 hR).1;have aH:=Nat.le_trans (zk0 hx) (za8 hR).2;obtain ⟨ea,ec,av,g1,g2,C⟩:=id hE;cases av;have aa:=C.resolve_left (λe=>by rw [e] at hx;cases hx);obtain ⟨eb,eo,rfl,aa⟩:=aa;generalize exOf d.ext s=x at *;by_cases q4:sec x=n
   ·rw [if_neg vd];refine k_E2 63 func63 ?_;refine r2_ ?_;refine vo (zab rfl) rfl rfl ?_;intro b3 V;have C:=V
    repeat ((with_reducible replace C:=zaa C);obtain ⟨C,_⟩:=C)
    have:=C.ne Y;have:=C.ne' Y
    refine nl_ ?_;refine r9_ ?_;refine cp_ rfl (I _ (h.less zae)) ?_;refine r14_ ?_;refine cF_ ?_;refine r5_ ?_;refine cp_ rfl (J _) ?_;refine r9_ ?_;refine kw_ [0,1,3,4,5,6,7,8,20,9,10] ?_;refine r7_ ?_;refine cF_ ?_;refine r6_ ?_;refine cp_ rfl (U _) ?_;refine r15_ ?_;refine ca_ rfl (X _ b3 (hE.less zae) (Mem.rds.knows rds_)) ?_;rintro _ S1 ⟨⟨j,hj,rfl,ac⟩,h1⟩;rw [h1];clear h1 S1;have Z:=ziZ (aa j hj);rw [ac] at Z;rw [show eo+j*2+1=eo+(j:Int).toNat*2+1 from by rw [Int.toNat_natCast]] at Z;refine r25_ ?_;refine cF_ ?_;refine r11_ ?_;refine kw_ [0,1,3,4,5,6,7,8,20,9,10,29,11,12,60] ?_;refine s1_ ?_;refine ⟨_,M,⟨_,_,rfl,⟨_,_,rfl,⟨_,_,rfl,rfl,rfl⟩,rfl⟩,rfl⟩,zae,?_⟩;exact ⟨rfl,rfl⟩
   rw [if_pos (by right;show ((sec x:Nat):Int)≠_;omega)];refine k_E2 63 func63 ?_;refine r2_ ?_;refine vo (zab rfl) rfl rfl ?_;intro b3 V;have C:=V
   repeat ((with_reducible replace C:=zaa C);obtain ⟨C,_⟩:=C)
   have:=C.ne Y;have:=C.ne' Y
   refine nl_ ?_;refine r9_ ?_;refine cp_ rfl (I _ (h.less zae)) ?_;refine r14_ ?_;refine cF_ ?_;refine r5_ ?_;refine cp_ rfl (J _) ?_;refine r16_ ?_;refine cF_ ?_;refine r6_ ?_;refine cp_ rfl (U _) ?_;refine r7_ ?_;refine kw_ [0,1,3,4,5,6,7,8,20,9,10,29,11] ?_;refine r8_ ?_;refine ca_ rfl (X _ b3 (hE.less zae) (Mem.rds.knows rds_)) ?_;rintro _ S1 ⟨⟨j,hj,rfl,ac⟩,h1⟩;rw [h1];clear h1 S1;have Z:=ziZ (aa j hj);rw [ac] at Z;rw [show eo+j*2+1=eo+(j:Int).toNat*2+1 from by rw [Int.toNat_natCast]] at Z;refine r25_ ?_;refine cT_ ?_;refine r9_ ?_;refine ⟨_,M,⟨_,_,rfl,⟨_,_,rfl,⟨_,_,rfl,rfl,rfl⟩,rfl⟩,rfl⟩,zae,?_⟩;exact ⟨rfl,rfl⟩
  rw [if_pos q2];obtain ⟨qe,de,qw,dw,Y,hE,hW⟩:=id h;refine k_E2 63 func63 ?_;refine r2_ ?_;refine vo (zab rfl) rfl rfl ?_;intro b3 V;have C:=V
  repeat ((with_reducible replace C:=zaa C);obtain ⟨C,_⟩:=C)
  have:=C.ne Y;have:=C.ne' Y
  refine nl_ ?_;refine r9_ ?_;refine cp_ rfl (I _ (h.less zae)) ?_;refine r14_ ?_;refine cF_ ?_;refine r5_ ?_;refine cp_ rfl (J _) ?_;refine r9_ ?_;refine kw_ [0,1,3,4,5,6,7,8,20,9,10] ?_;refine r7_ ?_;refine cT_ ?_;refine r10_ ?_;refine ⟨_,M,⟨_,_,rfl,⟨_,_,rfl,⟨_,_,rfl,rfl,rfl⟩,rfl⟩,rfl⟩,zae,?_⟩;exact ⟨rfl,rfl⟩
 rw [if_pos q1];obtain ⟨qe,de,qw,dw,Y,hE,hW⟩:=id h;refine k_E2 63 func63 ?_;refine r2_ ?_;refine vo (zab rfl) rfl rfl ?_;intro b3 V;have C:=V
 repeat ((with_reducible replace C:=zaa C);obtain ⟨C,_⟩:=C)
 have:=C.ne Y;have:=C.ne' Y
 refine nl_ ?_;refine r9_ ?_;refine cp_ rfl (I _ (h.less zae)) ?_;refine r14_ ?_;refine cT_ ?_;refine r8_ ?_;refine kw_ [0,1,3,4,5,6,7,8,20] ?_;refine r2_ ?_;refine ⟨_,M,⟨_,_,rfl,⟨_,_,rfl,⟨_,_,rfl,rfl,rfl⟩,rfl⟩,rfl⟩,zae,?_⟩;exact ⟨rfl,rfl⟩
end Rec
end
end Go.Proofs.YtbgjkpkakoggbaaGreatDoor
