/-
  Texts that belong together: Draw, DR10, DiskSee, Seq, Rf, Rw, DrawS, Rg, DkRd, Disk22, DR7, DR8, DiskLv0, DkP1, CrcMath, CrcWalk, CrcWalk2, CrcWalk3, NumMath, RecMath, NumMath3, CrcPlain, CrcOneWalk, RecMath2, BldLib, Bld, NumBase, VNum1, VNum2, Rec1, Rec2, Rec3.
-/
import Derived.Test.YtopiogkolaelnaaGreatDoorBSw2
import Derived.RangeFuncNested
import Derived.RangeFuncBound
import Derived.RangeFuncCalls
import Derived.RangeFuncLeaves
import Derived.Shelf.RegionOpen
import Derived.WalkKit
import Derived.OwnWalkIn
import Derived.TacticsInMore
import Derived.LoopNIn
import Derived.LoopIn
import Derived.Laws.BitsLemmas
import Derived.Laws.BytesArg
import Derived.Test.YtopiogkolaelnaaGreatDoorBase
import Derived.Lib.Strings
import Derived.Lib.AppendStr
import Derived.Lib.UnsafeStr
import Derived.Lib.Builder
import Derived.LaidEqlPtr
set_option maxHeartbeats 8000000
set_option maxRecDepth 100000
set_option linter.unusedVariables false
set_option linter.unusedSimpArgs false
set_option linter.unusedSectionVars false
namespace Go.Proofs.YtopiogkolaelnaaGreatDoor
open _root_.Go.Proofs.Tryz
section
open Go.RowKit
namespace Mv
section
variable {P:tz} {N:Nat} {l:List Oper} {W:List Nat} {SB S0:Mem} {K:Env->Mem->Prop}
def DG (P:tz) (N:Nat) (l:List Oper) (W:List Nat) (SB S0:Mem) (K:Env->Mem->Prop) (n:Nat) (listed:Array Bool) (E:Env) (S:Mem):Prop :=
  ∀ w0 a w,Closed l.toArray listed->Good N E a->View S w->Step SB w0 S w->wpAnyG P l.toArray (Q0 N K SB w0) (λi=>W.contains i) (View S0) n listed a w
theorem DG.nil {A:Array Bool} {E:Env} {S:Mem} (C:Region.ready .any l.toArray A = []) (h:K E S):DG P N l W SB S0 K 0 A E S :=
 λw0 a w _ g H hs=>⟨C,E,S,h,g,hs⟩
theorem th {n:Nat} {A:Array Bool} {E:Env} {S:Mem} (is:List Nat) (U:(Region.ready .any l.toArray A == is)=true) (ad:is ≠ [])
  (h:∀ i ∈ is,∃ o,l[i]?=some o/\AOp P N l.toArray o (λE' S'=>(W.contains i=false->S0.Less S')/\DG P N l W SB S0 K n (A.setIfInBounds i true) E' S') E S):DG P N l W SB S0 K (n+1) A E S:=λw0 a w Y g hv hs=>by
 have U:=beq_iff_eq.1 U;refine ⟨λh0=>absurd (U.symm.trans h0) ad,λj hj=>?_⟩;have aa:=hj;rw [U] at hj;obtain ⟨o,ho,V⟩:=h j hj;have J:=V a w g hv;unfold wpOp;have X:l.toArray[j]?=some o:=by simpa using ho
 simp only [X];have next:∀ I H,Post N (λE' S'=>(W.contains j=false->S0.Less S')/\DG P N l W SB S0 K n (A.setIfInBounds j true) E' S') S w I H->(W.contains j=false->View S0 w->View S0 H)/\wpAnyG P l.toArray (Q0 N K SB w0) (λi=>W.contains i) (View S0) n (A.setIfInBounds j true) I H:=λI H ⟨E1,S1,⟨k1,k2⟩,g1,s1⟩ =>
  ⟨λC _=>s1.view.less (k1 C),k2 w0 I H (zbU Y aa) g1 s1.view (hs.trans s1)⟩
 split
 ·rename_i C;rw [if_pos C] at J;exact .inl (zdS (Oper.wp_mono next J))
 rename_i C;rw [if_neg C] at J;exact next _ _ J
theorem tq {n:Nat} {A:Array Bool} {E:Env} {S:Mem} (i:Nat) (C:(Region.ready .any l.toArray A == [i])=true)
  (h:∃ o,l[i]?=some o/\AOp P N l.toArray o (λE' S'=>(W.contains i=false->S0.Less S')/\DG P N l W SB S0 K n (A.setIfInBounds i true) E' S') E S):DG P N l W SB S0 K (n+1) A E S :=
 th [i] C (by simp) λj H=>by
  have e:j=i:=by simpa using H
  rw [e];exact h
theorem tn {n:Nat} {A:Array Bool} {E:Env} {S:Mem} (i j:Nat) (C:(Region.ready .any l.toArray A == [i,j])=true)
  (h:∃ o,l[i]?=some o/\AOp P N l.toArray o (λE' S'=>(W.contains i=false->S0.Less S')/\DG P N l W SB S0 K n (A.setIfInBounds i true) E' S') E S)
  (k:∃ o,l[j]?=some o/\AOp P N l.toArray o (λE' S'=>(W.contains j=false->S0.Less S')/\DG P N l W SB S0 K n (A.setIfInBounds j true) E' S') E S):DG P N l W SB S0 K (n+1) A E S :=
 th [i,j] C (by simp) λq hq=>by
  rcases List.mem_cons.1 hq with rfl | hq
  ·exact h
  obtain rfl:q=j:=by simpa using hq
  exact k
theorem DG.first {n:Nat} {A:Array Bool} {E:Env} {S:Mem} (i:Nat) (ag:Region.noSelect l.toArray=true) (ac:mayFirst l W A i=true)
  (h:∃ o d v,l[i]?=some o/\o.dst=some d/\d<N/\(pureOp o=true\/S0.Less S)/\ACalmG P N l.toArray o E (if pureOp o then noMem else S0) v/\DG P N l W SB S0 K n (A.setIfInBounds i true) ((d,v) :: E) S):DG P N l W SB S0 K (n+1) A E S:=λw0 a w ai g hv hs=>by
 obtain ⟨o,d,v,ho,hd,hn,X,H,J⟩:=h;simp only [mayFirst,Bool.and_eq_true,Bool.or_eq_true] at ac;obtain ⟨⟨hr,hf⟩,hp⟩:=ac;have af:l.toArray[i]?=some o:=by simpa using ho
 have aj:i ∈ Region.ready .any l.toArray A:=by simpa using hr
 let D:tv->Prop:=λw'=>if pureOp o=true then True else View S0 w'
 have aa:D w:=by
  simp only [D];split
  ·trivial
  rename_i Y;exact hv.less (X.resolve_left Y)
 have I:∀ w',D w'->View (if pureOp o then noMem else S0) w':=λw' h=>by
  simp only [D] at h;split
  ·exact zet _
  rename_i Y;rw [if_neg Y] at h;exact h
 refine zc6 (D:=D) (v:=v) af (Region.noSelect_spec ag) (λc a w h=>h) ?_ n A a w ai (Region.free_spec af hf) aj ?_ aa ?_
 ·intro j w1 w2 C ah ad hj U V;simp only [D] at U ⊢;split
  ·trivial
  rename_i Y;rw [if_neg Y] at U;refine V ?_ U;rcases hp with hp | hp
  ·rw [ho] at hp;exact absurd (by simpa using hp) Y
  cases ao:W.contains j with
  | false=>rfl
  | true =>
   have h1:=List.all_eq_true.1 hp j (by simpa using ao);obtain ⟨aF,oj,au,ae⟩:=mem_ready.1 hj;have h2:=zcO h1 C ah λo2 aq e he hb=>by
    obtain rfl:oj=o2:=Option.some.inj (au.symm.trans aq);exact ae e he hb
   rcases Nat.lt_or_ge i C.size with am | hge
   ·simp [am] at ad h2;rw [ad] at h2;cases h2
   simp [Array.getElem?_eq_none hge] at h2
 ·by_cases hw:Region.wanted o (yielded l.toArray a.tmps)=true
  ·refine .inl ⟨hw,λw' an=>?_⟩;rcases H a w' g (I w' an) with h1 | h1
   ·exact h1.2
   rw [hw] at h1;cases h1.1
  rcases H a w g (I w aa) with h1 | h1
  ·exact absurd h1.1 hw
  exact .inr h1
 rw [hd];exact J w0 _ w (zbU ai aj) (g.put hn v) hv hs
theorem DG.pure {n:Nat} {A:Array Bool} {E:Env} {S:Mem} {o:Oper} {d:Nat} {v:tu} (i:Nat) (C:Region.noSelect l.toArray=true) (H:mayFirst l W A i=true) (J:l[i]?=some o) (I:pureOp o=true) (X:o.guard=none) (hd:o.dst=some d) (U:d<N)
  (hc:∀ S',ACalm P N o E S' v) (h:DG P N l W SB S0 K n (A.setIfInBounds i true) ((d,v) :: E) S):DG P N l W SB S0 K (n+1) A E S :=
 DG.first i C H ⟨o,d,v,J,hd,U,.inl I,λa w g V=>.inl ⟨by simp [Region.wanted,X],hc _ a w g V⟩,h⟩
theorem DG.look {n:Nat} {A:Array Bool} {E:Env} {S:Mem} {o:Oper} {d:Nat} {v:tu} (i:Nat) (C:Region.noSelect l.toArray=true) (H:mayFirst l W A i=true) (U:l[i]?=some o) (J:pureOp o=false) (Y:o.guard=none) (hd:o.dst=some d) (V:d<N) (X:S0.Less S)
  (hc:ACalm P N o E S0 v) (h:DG P N l W SB S0 K n (A.setIfInBounds i true) ((d,v) :: E) S):DG P N l W SB S0 K (n+1) A E S :=
 DG.first i C H ⟨o,d,v,U,hd,V,.inr X,λa w g I=>.inl ⟨by simp [Region.wanted,Y],by rw [J] at I;exact hc a w g I⟩,h⟩
theorem DG.only {n:Nat} {A:Array Bool} {E:Env} {S:Mem} {o:Oper} (i:Nat) (H:(Region.ready .any l.toArray A == [i])=true) (C:l[i]?=some o)
  (h:ARun P N l.toArray [o] (λE' S'=>(W.contains i=false->S0.Less S')/\DG P N l W SB S0 K n (A.setIfInBounds i true) E' S') E S):DG P N l W SB S0 K (n+1) A E S:=tq i H ⟨o,C,h⟩
theorem DG.two {n:Nat} {A:Array Bool} {E:Env} {S:Mem} {o o':Oper} (i j:Nat) (I:(Region.ready .any l.toArray A == [i,j])=true) (H:l[i]?=some o)
  (h:ARun P N l.toArray [o] (λE' S'=>(W.contains i=false->S0.Less S')/\DG P N l W SB S0 K n (A.setIfInBounds i true) E' S') E S) (C:l[j]?=some o')
  (h':ARun P N l.toArray [o'] (λE' S'=>(W.contains j=false->S0.Less S')/\DG P N l W SB S0 K n (A.setIfInBounds j true) E' S') E S):DG P N l W SB S0 K (n+1) A E S:=tn i j I ⟨o,H,h⟩ ⟨o',C,h'⟩
theorem ut {A:Array Bool} {E:Env} {S:Mem} (C:(Region.ready .any l.toArray A).isEmpty=true) (h:K E S):DG P N l W SB S0 K 0 A E S:=DG.nil (by simpa using C) h
theorem uQ {id:Nat} {Q:Exit->Env->Mem->Prop} {E:Env} {S:Mem} (S0:Mem) (W:List Nat) (I:P.follows .mixedOrders=true) (U:S0.Less S)
  (h:DG P N l W S S0 (Q .normal) l.length (Array.replicate l.length false) E S):AWP P N (.region id l.toArray true) Q E S:=λa w g H=>by
 refine wp_mono (Q:=Q0 N (Q .normal) S w) ?_ (λe J w' x=>by cases e <;> first | exact x | exact x.elim);refine wp_region_any I ?_;refine zcd (W:=λi=>W.contains i) (C:=View S0) _ _ _ _ ?_;have A:Step S w S { w with drawn:=w.drawn+1 }:=Step.drawn H _;have:=h w a _ (zb5 _ _) g A.view A;simpa using this
theorem uT {id:Nat} {Q:Exit->Env->Mem->Prop} {E:Env} {S:Mem} (W:List Nat) (A:P.follows .mixedOrders=true)
  (h:DG P N l W S S (Q .normal) l.length (Array.replicate l.length false) E S):AWP P N (.region id l.toArray true) Q E S:=uQ S W A (Mem.Less.refl _) h
end
end Mv
end
section
open Go.RowKit
open Mv Disk

theorem zl8 (A d:D) (s:tt) (l:List tt):freesD A d (s :: l)=if has d.ext s=true then freesD A (forgetD (eraseD d s) s) l else (A,3):=by
 rw [freesD];unfold freeD;by_cases q:has d.ext s=true
 ·rw [if_pos q,if_pos q];rfl
 rw [if_neg q,if_neg q];rfl
def seeW (kp:Nat->Bool) (l:List Wr) (s:tt) (k:Int) (b:tt):Nat->tt
  | 0=>b
  | n+1=>match l[n]? with
    | some w=>if w.1=s/\w.2.1=k/\kp n=true then w.2.2 else seeW kp l s k b n
    | none=>seeW kp l s k b n
theorem zb6 (kp:Nat->Bool) (l:List Wr) (s:tt) (k:Int) (b:tt) {n:Nat} (h:n<l.length):seeW kp l s k b (n+1)=if l[n].1=s/\l[n].2.1=k/\kp n=true then l[n].2.2 else seeW kp l s k b n:=by
 rw [seeW,List.getElem?_eq_getElem h]
def allK:Nat->Bool:=λ_=>true
def seen (d:D) (s:tt) (k:Int):tt:=seeW allK d.waits s k ((exOf d.ext s).2.extract (64*k.toNat) (64*k.toNat+64)) d.waits.length
def readD (d:D) (s:tt) (k:Int):tt × Int:=if (placeD d s k).2≠0 then (ByteArray.empty,(placeD d s k).2) else (seen d s k,0)
theorem zcF (d:D) (s:tt) (k:Int):readD d s k=if (placeD d s k).2≠0 then (ByteArray.empty,(placeD d s k).2) else (seen d s k,0):=rfl
theorem zjM {a b:tt}:(a.toList == b.toList)=decide (a=b):=by
 rw [Bool.eq_iff_iff,beq_iff_eq,decide_eq_true_eq];exact ⟨λh=>zbG (by rw [<- Lib.toList_data,<- Lib.toList_data];exact h),λh=>by rw [h]⟩
/-! ### A sector of what was done -/
theorem zd4 (x:tt) (i j:Nat):x.extract i j=bs ((x.data.toList.take j).drop i):=by
 apply zbG;rw [bs_data,ByteArray.data_extract,Array.toList_extract,List.extract_eq_take_drop,List.drop_take]
theorem znP {α : Type} (X W:List α) (m k:Nat) (A:W.length=64) (H:64*m+64<=X.length) (C:64*k+64<=X.length):((X.take (64*m) ++ W ++ X.drop (64*m+64)).take (64*k+64)).drop (64*k)=if m=k then W else (X.take (64*k+64)).drop (64*k):=by
 apply List.ext_getElem?;intro i;by_cases e:m=k
 ·subst e;rw [if_pos rfl,List.getElem?_drop,List.getElem?_take];by_cases hi:i<64
  ·rw [if_pos vd,List.getElem?_append_left (by simp;omega),List.getElem?_append_right (by simp;omega)];congr 1;simp;omega
  rw [if_neg vd,List.getElem?_eq_none vd]
 rw [if_neg e,List.getElem?_drop,List.getElem?_take,List.getElem?_drop,List.getElem?_take];by_cases hi:i<64
 ·rw [if_pos vd,if_pos vd];rcases Nat.lt_or_ge k m with q | q
  ·rw [List.getElem?_append_left (by simp;omega),List.getElem?_append_left (by simp;omega),List.getElem?_take,if_pos vd]
  rw [List.getElem?_append_right (by simp;omega),List.getElem?_drop];congr 1;simp;omega
 rw [if_neg vd,if_neg vd]
theorem zqC {x:tt} {w:Wr} {k:Nat} (U:64*w.2.1.toNat+64<=x.size) (C:w.2.2.size=64) (I:64*k+64<=x.size):(putS x w).extract (64*k) (64*k+64)=if w.2.1.toNat=k then w.2.2 else x.extract (64*k) (64*k+64):=by
 rw [zd4,zd4];have J:x.data.toList.length=x.size:=za6 x;have H:w.2.2.data.toList.length=64:=by rw [za6,C]
 have A:(putS x w).data.toList=x.data.toList.take (64*w.2.1.toNat) ++ w.2.2.data.toList ++ x.data.toList.drop (64*w.2.1.toNat+64):=by unfold putS;rw [bs_data]
 rw [A,znP _ _ _ _ H vd vd];split
 ·exact bs_of _
 rfl
theorem znQ {kp:Nat->Bool} {x:Ext} {l:List Wr} {k:Nat} (A:Fit x l) (H:64*k+64<=x.2.size):∀ n,n<=l.length->((accW kp x l n).getD x.2).extract (64*k) (64*k+64)=seeW kp l x.1 (k:Int) (x.2.extract (64*k) (64*k+64)) n
 | 0,_=>rfl
 | n+1,h=>by
  have C:=znQ (kp:=kp) A H n vd;have hs:=zfb (kp:=kp) A n vd;rw [zfN kp x l n vd,zb6 _ _ _ _ _ vd];by_cases q:l[n].1=x.1/\kp n=true
  ·obtain ⟨U,J,I⟩:=A _ (List.getElem_mem (by omega:n<l.length)) q.1;rw [if_pos q,Option.getD_some,zqC (by rw [hs];exact J) I (by rw [hs];exact H)];by_cases e:l[n].2.1=(k:Int)
   ·rw [if_pos vd,if_pos ⟨q.1,e,q.2⟩]
   rw [if_neg vd,if_neg (λz=>e z.2.1)];exact C
  rw [if_neg q,if_neg (λz=>q ⟨z.1,z.2.2⟩)];exact C
theorem zhr (kp:Nat->Bool) (l:List Wr) (s:tt) (k:Int) (b:tt):∀ n,seeW kp l s k b n=b \/ ∃ w ∈ l,w.1=s/\w.2.1=k/\seeW kp l s k b n=w.2.2
 | 0=>.inl rfl
 | n+1=>by
  by_cases h:n<l.length
  ·rw [zb6 _ _ _ _ _ h];by_cases q:l[n].1=s/\l[n].2.1=k/\kp n=true
   ·rw [if_pos q];exact .inr ⟨_,List.getElem_mem h,q.1,q.2.1,rfl⟩
   rw [if_neg q];exact zhr kp l s k b n
  rw [seeW,List.getElem?_eq_none vd];exact zhr kp l s k b n
theorem zgF (kp:Nat->Bool) (l m:List Wr) (s:tt) (k:Int) (b:tt):∀ n,n<=l.length->seeW kp (l ++ m) s k b n=seeW kp l s k b n
 | 0,_=>rfl
 | n+1,h=>by
  rw [zb6 _ _ _ _ _ (show n<(l ++ m).length by simp;omega),zb6 _ _ _ _ _ (show n<l.length by omega),List.getElem_append_left vd,zgF kp l m s k b n vd]
theorem znR (kp:Nat->Bool) (l:List Wr) (w:Wr) (s:tt) (k:Int) (b:tt):seeW kp (l ++ [w]) s k b (l ++ [w]).length=if w.1=s/\w.2.1=k/\kp l.length=true then w.2.2 else seeW kp l s k b l.length:=by
 rw [show (l ++ [w]).length=l.length+1 by simp,zb6 _ _ _ _ _ (by simp),zgF _ _ _ _ _ _ _ (Nat.le_refl _)];simp
/-! ### Behind what is done -/
theorem zhs (d:D) (A:tt) (i:Int) (data s:tt) (k:Int):seen (addW d (A,i,data)) s k=if A=s/\i=k then data else seen d s k:=by
 unfold seen addW;rw [znR];simp only [allK,and_true]
theorem zbQ {l:List Ext} (A:Asc l) {x:Ext} (C:x ∈ l):exOf l x.1=x:=by
 obtain ⟨i,hi,rfl⟩:=List.getElem_of_mem C;have e:=zjr A hi;rw [zjE (by rw [e];exact hi)];simp only [e]
theorem zbw {l:List Ext} {s:tt} (C:Asc l) (h:has l s=true):exOf l s ∈ l/\(exOf l s).1=s:=by
 obtain ⟨x,A,rfl⟩:=zba.1 h;rw [zbQ C A];exact ⟨A,rfl⟩
theorem zd5 {f:Ext->Ext} (C:∀ x,(f x).1=x.1) {l:List Ext} {s:tt} (A:Asc l) (h:has l s=true):exOf (l.map f) s=f (exOf l s):=by
 obtain ⟨x,H,rfl⟩:=zba.1 h;have:=zbQ (znO C A) (List.mem_map_of_mem H);rw [C] at this;rw [this,zbQ A H]
theorem zd6 {d:D} {s:tt} {k:Int} (h:(placeD d s k).2=0):has d.ext s=true/\0<=k/\k<sec (exOf d.ext s):=by
 unfold placeD at h;by_cases q:has d.ext s=true
 ·rw [if_pos q] at h;by_cases A:k<0\/(sec (exOf d.ext s):Int)<=k
  ·rw [if_pos A] at h;simp at h
  exact ⟨q,by omega,by omega⟩
 rw [if_neg q] at h;simp at h
theorem zdJ {d:D} {s:tt} {k:Int} (A:Right d) (h:(placeD d s k).2=0) (kp:Nat->Bool):seen (settleD d kp) s k=seeW kp d.waits s k ((exOf d.ext s).2.extract (64*k.toNat) (64*k.toNat+64)) d.waits.length:=by
 obtain ⟨C,J,U⟩:=zd6 h;obtain ⟨H,I⟩:=zbw A.ex.asc C;have hs:=(zc9 (A.ex.ok _ H)).2;obtain ⟨m,rfl⟩ : ∃ m:Nat,k=m:=⟨k.toNat,by omega⟩;unfold seen settleD;simp only [List.length_nil,seeW];rw [zd5 (f:=doneX kp d.waits) (λ_=>rfl) A.ex.asc C];have:=znQ (kp:=kp) (k:=m) (zfO A H) vd d.waits.length (Nat.le_refl _);rw [I] at this;exact this
end
section
open Go.RowKit
open Mv
theorem zqD {α : Type} {b c n:Nat} {L:List α} {x : α} (h:n=L.length+1):some (outV (some (b,c)) n)=some (outV (some (b,c)) (L ++ [x]).length):=by
 rw [h,List.length_append];rfl
theorem zqE {α : Type} {g : α->tu} {L:List α} {x : α}:L.map g ++ [g x]=(L ++ [x]).map g:=by rw [List.map_append];rfl
theorem zd7 {α : Type} {S:Mem} {o:Option (Nat × Nat)} {e:tx} {g : α->tu} {L:List α} {x : α} {v:tu} (h:v=g x):(outM S o e ((L ++ [x]).map g)).Less (outM S o e (L.map g ++ [v])):=by
 rw [h,zqE];exact Mem.Less.refl _
theorem zht {α : Type} {S:Mem} {b c n:Nat} {L:List α} {x : α} (h:OkO S (some (b,c)) n) (A:n=L.length+1):OkO S (some (b,c)) (L ++ [x]).length:=by
 rw [List.length_append];subst A;exact h
theorem sq_ {p:Prop} (h:p:=by first | rfl | (refine zan ?_;first | omega | (dsimp only;omega)) | exact zqD (by first | rfl | omega)):p:=h
theorem zcY {α β : Type} {g : α -> β} {L:List α}:(L.map g).length=L.length:=List.length_map ..
def RdL {α : Type} (g : α->tu) (l:List α) (S:Mem) (r:tu) (S':Mem):Prop:=S.Less S'/\Sl 1 (λx=>[g x]) S' r l
theorem uJ {α : Type} {g : α->tu} {S:Mem} {o:Option (Nat × Nat)} {e:tx} {l:List α} {n:Nat} (h:OkO S o n) (A:l.length=n) (C:n<=9223372036854775807):RdL g l S (outV o n) (outM S o e (l.map g)) :=
 ⟨zaG h,zhi h A C⟩
def NewL {α : Type} (g : α->tu) (e:tx) (l:List α) (S:Mem) (r:tu) (S':Mem):Prop:=∃ o,OkO S o l.length/\r=outV o l.length/\S'=outM S o e (l.map g)
theorem NewL.rd {α : Type} {g : α->tu} {e:tx} {l:List α} {S:Mem} {r:tu} {S':Mem} (h:NewL g e l S r S') (C:l.length<=9223372036854775807):RdL g l S r S':=by
 obtain ⟨o,A,rfl,rfl⟩:=h;exact uJ A rfl C
theorem zqF {α : Type} (hs:List α) (z v : α) (m i:Nat) (h:hs.length=i) (hi:i<m):(hs ++ List.replicate (m-i) z).set i v=(hs ++ [v]) ++ List.replicate (m-(i+1)) z:=by
 subst h;rw [List.set_append_right _ _ (Nat.le_refl _),Nat.sub_self,show m-hs.length=(m-(hs.length+1))+1 by omega,List.replicate_succ,List.set_cons_zero,List.append_assoc];rfl
theorem zhu {α β : Type} (g : α -> β) (L:List α) (z : α) (m i:Nat) (x : α) (h:L.length=i) (hi:i<m):(L.map g ++ List.replicate (m-i) (g z)).set i (g x)=(L ++ [x]).map g ++ List.replicate (m-(i+1)) (g z):=by
 rw [zqF _ _ _ _ _ (by rw [List.length_map];exact h) hi,List.map_append];rfl
theorem zbe {α : Type} {S:Mem} {b:Nat} {T:tx} {g : α->tu} {L:List α} {room o:Nat} (k:Nat) (C:k<L.length) (h:S.own b=some ⟨T,L.map g,room⟩) (A:o=k):S.rd ⟨b,o,none⟩=some (g L[k]):=by
 rw [zdv h,A];simp [C]
theorem tp {α : Type} {f : α->List tu} {S:Mem} {b o n cap:Nat} {x : α} {l:List α} (h:Sl 1 f S (.slice (some ⟨b,o,none⟩) n cap) (x :: l)):Sl 1 f S (.slice (some ⟨b,if cap=1 then o else o+1*1,none⟩) (n-1) (cap-1)) l:=by
 obtain ⟨a,c,e,V,H,C⟩:=h;cases e;obtain ⟨b',o',I,J⟩:=C.resolve_left (λh=>by cases h);cases I;simp only [List.length_cons] at V H;refine ⟨_,cap-1,by rw [List.length_cons,Nat.add_sub_cancel],by omega,by omega,?_⟩;by_cases U:l = []
 ·exact .inl U
 refine .inr ⟨b,_,rfl,λi hi=>?_⟩;have A : ¬ cap=1:=by omega
 rw [if_neg A];have:=J (i+1) (by rw [List.length_cons];omega);rw [show o+1*1+i*1=o+(i+1)*1 by omega];exact this
theorem tk {α : Type} {f : α->List tu} {S:Mem} {b o n cap:Nat} {x : α} {l:List α} (h:Sl 1 f S (.slice (some ⟨b,o,none⟩) n cap) (x :: l)):S.Knows ⟨b,o+0*1,none⟩ (f x)/\n=l.length+1:=by
 obtain ⟨a,c,e,J,I,A⟩:=h;cases e;obtain ⟨b',o',C,H⟩:=A.resolve_left (λh=>by cases h);cases C;exact ⟨H 0 (by simp),rfl⟩
theorem uS {α : Type} {f : α->List tu} {S:Mem} {v:tu} {x : α} {l:List α} (h:Sl 1 f S v (x :: l)):∃ b o cap,v = .slice (some ⟨b,o,none⟩) (l.length+1) cap/\l.length+1<=cap/\cap<=cap:=by
 obtain ⟨a,c,e,H,I,A⟩:=h;obtain ⟨b',o',C,J⟩:=A.resolve_left (λh=>by cases h);subst C;exact ⟨b',o',c,e,H,Nat.le_refl _⟩
end
section
open Go.RowKit Go.Shelf
namespace Mv
theorem Step.grown {S S':Mem} {w W V:tv} {H:Option Nat} (h:Step S w S' W) (A:W.grownBy V H) (Y:∀ r,H=some r->w.heap.size<=r /\ ∃ o:Obj,W.heap[r]?=some o/\o.isCells=false):Step S w S' V:=by
 have hc:∀ (b:Nat) (cur:Array tu) (e:tx) (fz:Nat × Nat),W.heap[b]?=some (.cells cur e fz)->V.heap[b]?=W.heap[b]?:=λb cur e fz J =>
  A.block b (Array.getElem?_eq_some_iff.1 J).1 (λe'=>by obtain ⟨_,o,ho,X⟩:=Y b e'.symm;rw [J] at ho;cases ho;cases X)
 refine ⟨⟨λb r J=>?_,λa v ha=>?_,λg l U=>?_⟩,A.os.trans h.os,A.tape.trans h.tape,A.output.trans h.output,Nat.le_trans h.size A.size,λk hk X=>?_,h.dom,h.ro⟩
 ·obtain ⟨cur,fz,C,I⟩:=h.view.own b r J;exact ⟨cur,fz,(hc b _ _ _ C).trans C,I⟩
 ·obtain ⟨C,I⟩:=h.view.ro a v ha;exact ⟨cell_kept C A (λr e=>(Y r e).2),I⟩
 ·obtain ⟨C,I,h3⟩:=h.view.fz g l U;refine ⟨C,I,?_⟩;obtain ⟨cur,hi,k1,k2⟩:=id h3;exact h3.of_block (hc g _ _ _ k1)
 exact (A.block k (Nat.lt_of_lt_of_le hk h.size) (λe=>by have:=(Y k e.symm).1;omega)).trans (h.block k hk X)
theorem Step.others {S S':Mem} {w w':tv} (I:View S w) (h:Step S w S' w'):KeepsOthers w w' :=
 ⟨h.size,λk o A H=>(h.block k (Array.getElem?_eq_some_iff.1 A).1 (by
  cases e:S.own k with
  | none=>rfl
  | some r=>obtain ⟨cur,fz,C,_⟩:=I.own k r e;rw [A] at C;cases C;cases H)).trans A⟩
def AWPM (P:tz) (N:Nat) (c:Code) (Q:Mem->tv->Exit->Act->tv->Prop) (E:Env) (S:Mem):Prop :=
  ∀ S0 w0 a w,Step S0 w0 S w->Good N E a->c.wpIn Fence.wide 6 P (Q S0 w0) a w
section
variable {P:tz} {N:Nat} {Q:Mem->tv->Exit->Act->tv->Prop} {E:Env} {S:Mem}
theorem AWPM.seq {x y:Code} (h:AWP P N x (Athen (AWPM P N y Q) λ_ _ _=>False) E S):AWPM P N (.seq x y) Q E S:=λS0 w0 a w hs C=>by
 refine wpIn_seq (wpIn_mono (wpIn_wide.2 (h a w C hs.view)) λe A H ⟨I,J,k,g,s⟩=>?_);cases e with
 | normal=>exact k S0 w0 A H (hs.trans s) g
 | exit id=>exact k.elim
 | goto l=>exact k.elim
 | ret=>exact k.elim
 | panic c=>exact k.elim
 | outgrown=>exact k.elim
theorem ux {x y:Code} (h:AWPM P N x (λS0 w0=>Exit.then (y.wpIn Fence.wide 6 P (Q S0 w0)) (Q S0 w0)) E S):AWPM P N (.seq x y) Q E S:=λS0 w0 a w hs A=>wpIn_seq (h S0 w0 a w hs A)
theorem AWPM.sub (E':Env) (hs:Sub E' E) {c:Code} (h:AWPM P N c Q E' S):AWPM P N c Q E S:=λS0 w0 a w C A=>h S0 w0 a w C (A.sub hs)
end
theorem uU {P:tz} {S:Mem} {f:tA} {fn:Func} {c:Code} {args:List tu} {rs:List ResultVar} {R:tu->Mem->Prop} (n:Nat) (C:Env) (U:P.funcs[f]?=some fn) (H:fn.body=some c) (V:fn.ntmps=n) (Y:args.length<=n) (X:fn.results=rs.toArray) (J:SubA C args)
  (h:AWPM P n c (λS0 w0=>bodyPostM Fence.wide 6 P fn (λe w'=>∃ v S',e = .returned v/\R v S'/\Step S0 w0 S' w')) C S):ACall P f args.toArray S R:=λw I=>by
 refine (callsIn_wide (n:=6)).1 (callsIn_of_wp_marks U H trivial (h S w _ w (Step.refl I) ⟨?_,rfl,λd v hd=>?_⟩) rfl)
 ·simp only [Array.size_append,List.size_toArray,Array.size_replicate];omega
 have:=J.lk hd;have A:d<args.length:=by
  rcases Nat.lt_or_ge d args.length with h | h
  ·exact h
  rw [List.getElem?_eq_none h] at this;cases this
 simp only [Array.getD_eq_getD_getElem?,Array.getElem?_append,List.size_toArray,A,if_true,List.getElem?_toArray,this,Option.getD_some]
end Mv
end
section
open Go.RowKit Go.Shelf
namespace Mv
def FW:Option Nat->Fence
  | none=>Fence.wide
  | some l=>Fence.wide.inRound l
theorem FW.fn (ro:Option Nat) (f:tA):(FW ro).fn f:=by cases ro <;> exact trivial
theorem FW.depth (ro:Option Nat):(FW ro).depth=none:=by cases ro <;> rfl
theorem FW.calls {ro:Option Nat} {n:Nat} {P:tz} {f:tA} {args:Array tu} {w:tv} {R:Ending->tv->Prop} (h:Calls P f args w R):CallsIn (FW ro) n P f args w R:=by
 cases ro with
 | none=>exact callsIn_wide.2 h
 | some l=>exact CallsIn.inRound l (callsIn_wide.2 h)
theorem FW.rows {ro:Option Nat} {n:Nat} {P:tz} {A:String} {args:Array tu} {w:tv} {R:tu->tv->Prop} (h:Rows P A args w R):RowsIn (FW ro) n P A args w R:=by
 cases ro with
 | none=>exact λc cs _=>let ⟨v,w',r,s⟩:=h c cs;⟨v,w',r,stepsIn_wide.2 s⟩
 | some l=>exact λc cs _=>let ⟨v,w',r,s⟩:=h c cs;⟨v,w',r,stepsIn_wide.2 s⟩
def dd (ds:List Deferred) (a:Act):Act:={ a with defers:=ds }
theorem zgG (ds:List Deferred) (a:Act) (d:Option Tmp) (v:tu):(dd ds a).put d v=dd ds (a.put d v):=by cases d <;> rfl
def noDefer (o:Oper):Bool:=match o.op with
  | .defer _=>false
  | _=>true
theorem zl9 {o:Oper} (h:noDefer o=true):∀ c,o.op ≠ .defer c:=λc e=>by unfold noDefer at h;rw [e] at h;cases h
def NQ (p:Act->tv->Prop):Exit->Act->tv->Prop:=λe a w=>e = .normal/\p a w
def GQ (ds:List Deferred) (p:Act->tv->Prop):Exit->Act->tv->Prop:=λe a w=>e = .normal /\ ∃ a1,a=dd ds a1/\p a1 w
section
variable {P:tz} {ops:Array Oper} {ro:Option Nat} {n:Nat} {ds:List Deferred} {p:Act->tv->Prop}
theorem znS {o:Oper} {a:Act} {w:tv} {K:Act->tv->Prop} {Q:Exit->Act->tv->Prop} (U:noDefer o=true) (V:∀ a w,K a w->a.defers = []) (h:o.wp P a w K (NQ p)) :
  o.wpIn (FW ro) n P (dd ds a) w (λX w'=>∃ H,X=dd ds H/\K H w') Q:=by
 refine ⟨λf _=>FW.fn ro f,?_⟩;rw [Oper.semAt_eq _ _ _ (zl9 U)];unfold Oper.wp at h;show o.uponIn _ _ _ _ _ _ ((execOp a.eval o).run P w);generalize (execOp a.eval o).run P w=r at *;cases r with
 | ok J w' =>
  cases J with
  | value v=>exact ⟨_,zgG _ _ _ _,h⟩
  | skip=>exact ⟨_,zgG _ _ _ _,h⟩
  | defer d =>
   have h':K _ w':=h;have I:=V _ _ h';cases hd:o.dst <;> rw [hd] at I <;> cases I
  | enter f args =>
   refine ⟨λe=>(by rw [FW.depth] at e;cases e),(FW.calls h).mono λe C A=>?_⟩
   match e,A with
   | .returned v,A=>exact ⟨_,zgG _ _ _ _,A⟩
   | .panicked c,A=>exact absurd A.1 (by simp)
   | .outgrown,A=>obtain ⟨H,Y,A,_⟩:=A;cases A
  | row row args =>
   refine ⟨λe=>(by rw [FW.depth] at e;cases e),RowsIn.mono (FW.rows h) λv C A=>?_⟩;exact ⟨_,zgG _ _ _ _,A⟩
  | _=>exact h.elim
 | halt x w' =>
  cases x <;> first
   | exact h.elim
   | exact absurd h.1 (by simp)
theorem zgH : ¬ LetsOut (NQ p):=λ⟨a,w,h,_⟩=>by cases h
theorem zce {a:Act} {d:Option Tmp} {v:tu}:(a.put d v).defers=a.defers:=by cases d <;> rfl
theorem znT {o:Oper} {a:Act} {w:tv} {K:Act->tv->Prop} (C:∀ a w,K a w->a.defers = []) (h:o.wp P a w K (NQ p)):a.defers = []:=by
 unfold Oper.wp at h;generalize (execOp a.eval o).run P w=r at *;cases r with
 | ok J w' =>
  cases J with
  | value v=>have:=C _ _ h;rw [zce] at this;exact this
  | skip=>have:=C _ _ h;rw [zce] at this;exact this
  | defer d =>
   have h':K _ w':=h;have I:=C _ _ h';rw [zce] at I;cases I
  | enter f args =>
   obtain ⟨e,H,fr,A,_⟩:=h []
   match e,A with
   | .returned v,A=>have:=C _ _ A;rw [zce] at this;exact this
   | .panicked c,A=>exact absurd A.1 (by simp)
   | .outgrown,A=>obtain ⟨U,V,A,_⟩:=A;cases A
  | row row args =>
   obtain ⟨v,H,A,_⟩:=h default [];have:=C _ _ A;rw [zce] at this;exact this
  | _=>exact h.elim
 | halt x w' =>
  cases x <;> first
   | exact h.elim
   | exact absurd h.1 (by simp)
theorem zgI (H:∀ a w,p a w->a.defers = []):∀ (fuel:Nat) (A:Array Bool) (a:Act) (w:tv),wpAny P .any ops (NQ p) fuel A a w->a.defers = []
 | 0,_,a,w,h=>H a w h.2.2
 | fuel+1,A,a,w,h=>by
  cases J:Region.ready .any ops A with
  | nil=>exact H a w (h.1 J).2
  | cons i is =>
   have C:=h.2 i (by rw [J];exact List.mem_cons_self ..);have I:=λa w=>zgI H fuel (A.setIfInBounds i true) a w;unfold wpOp at C;split at C
   ·exact I _ _ C
   split at C
   ·rcases C with C | ⟨_,C⟩
    ·exact znT I C
    exact absurd C zgH
   have:=I _ _ C;rw [zce] at this;exact this
theorem zkW (J:∀ a w,p a w->a.defers = []) (hd:∀ (i:Nat) (o:Oper),ops[i]?=some o->noDefer o=true):∀ (fuel:Nat) (A:Array Bool) (a:Act) (w:tv),wpAny P .any ops (NQ p) fuel A a w->wpAnyIn (FW ro) n P .any ops (GQ ds p) fuel A (dd ds a) w
 | 0,_,a,w,h=>⟨h.1,rfl,a,rfl,h.2.2⟩
 | fuel+1,A,a,w,h=>by
  refine ⟨λX=>⟨rfl,a,rfl,(h.1 X).2⟩,λi hi=>?_⟩;have C:=h.2 i hi;have H:=λa w=>zkW J hd fuel (A.setIfInBounds i true) a w;unfold wpOp at C;unfold wpOpIn;split at C
  ·rename_i V;rw [V];exact H _ _ C
  rename_i o U;rw [U];dsimp only;split at C
  ·rename_i I;rw [if_pos (show Region.wanted o (yielded ops (dd ds a).tmps)=true from I)];rcases C with C | ⟨_,C⟩
   ·exact Oper.wpIn_mono (λa' w' ⟨a1,e,Y⟩=>by subst e;exact H _ _ Y) (znS (hd i o U) (λa w=>zgI J fuel _ a w) C)
   exact absurd C zgH
  rename_i I;rw [if_neg (show ¬ Region.wanted o (yielded ops (dd ds a).tmps)=true from I)];exact ⟨λf _=>FW.fn ro f,by rw [zgG];exact H _ _ C⟩
end
/-! ### Code, in a round or behind one -/
section
variable {P:tz} {N:Nat} {ro:Option Nat} {n:Nat} {ds:List Deferred}
theorem ARun.lift {l:List Oper} {ops:Array Oper}:∀ {K:Env->Mem->Prop} {E:Env} {S:Mem},ARun P N ops l K E S->(∀ o ∈ l,noDefer o=true) -> ∀ {Q:Exit->Act->tv->Prop} (a:Act) (w:tv),Good N E a->View S w ->
  (∀ C w',Post N K S w C w'->Q .normal (dd ds C) w')->wpListIn (FW ro) n P ops Q l (dd ds a) w:=by
 induction l with
 | nil=>exact λ{K E S} h _ Q a w V U X=>X a w ⟨E,S,h,V,Step.refl U⟩
 | cons o os ih =>
  intro K E S h hd Q a w V U X;have H:=h a w V U;have next:∀ A I,Post N (λE' S'=>ARun P N ops os K E' S') S w A I->wpListIn (FW ro) n P ops Q os (dd ds A) I:=λA I ⟨E1,S1,r,g1,s1⟩ =>
   ih r (λo ho=>hd o (List.mem_cons_of_mem _ ho)) A I g1 s1.view λC w' ⟨E2,S2,k,g2,Y⟩=>X C w' ⟨E2,S2,k,g2,s1.trans Y⟩
  unfold wpListIn;split
  ·rename_i J;rw [if_pos (show Region.wanted o (yielded ops a.tmps)=true from J)] at H;have h2:o.wp P a w (Post N (λE' S'=>ARun P N ops os K E' S') S w) (NQ λ_ _=>False):=zdS H;exact Oper.wpIn_mono (λC w' ⟨A,e,hk⟩=>by subst e;exact next _ _ hk) (znS (hd o (List.mem_cons_self ..)) (λa w ⟨_,_,_,g,_⟩=>g.defers) h2)
  rename_i J;rw [if_neg (show ¬ Region.wanted o (yielded ops a.tmps)=true from J)] at H;exact ⟨λf _=>FW.fn ro f,by rw [zgG];exact next _ _ H⟩
def GWP (ro:Option Nat) (n:Nat) (ds:List Deferred) (P:tz) (N:Nat) (c:Code) (Q:Exit->Env->Mem->Prop) (E:Env) (S:Mem):Prop :=
  ∀ a w,Good N E a->View S w->c.wpIn (FW ro) n P (λe a' w'=>∃ a1,a'=dd ds a1/\Post N (Q e) S w a1 w') (dd ds a) w
variable {Q:Exit->Env->Mem->Prop} {E:Env} {S:Mem}
theorem GWP.mono {c:Code} {A:Exit->Env->Mem->Prop} (h:GWP ro n ds P N c Q E S) (I:∀ e E S,Q e E S->A e E S):GWP ro n ds P N c A E S:=λa w J C =>
 wpIn_mono (h a w J C) λe _ _ ⟨H,e1,x⟩=>⟨H,e1,x.mono (I e)⟩
theorem GWP.sub {c:Code} (E':Env) (hs:Sub E' E) (h:GWP ro n ds P N c Q E' S):GWP ro n ds P N c Q E S:=λa w A C=>h a w (A.sub hs) C
theorem GWP.less {c:Code} (S':Mem) (hs:S'.Less S) (h:GWP ro n ds P N c Q E S'):GWP ro n ds P N c Q E S:=λa w J C =>
 wpIn_mono (h a w J (C.less hs)) λ_ _ _ ⟨H,e1,A,I,k,g,s⟩=>⟨H,e1,A,I,k,g,s.lessL hs⟩
theorem GWP.seq {x y:Code} (h:GWP ro n ds P N x (Athen (GWP ro n ds P N y Q) Q) E S):GWP ro n ds P N (.seq x y) Q E S:=λa w hg X=>by
 refine wpIn_seq (wpIn_mono (h a w hg X) λe a' w1 ⟨A,e1,C,H,k,g,s⟩=>?_);subst e1;cases e with
 | normal=>exact wpIn_mono (k A w1 g s.view) λe a2 w2 ⟨a3,e3,J,Y,I,U,V⟩=>⟨a3,e3,J,Y,I,U,s.trans V⟩
 | exit id=>exact ⟨A,rfl,C,H,k,g,s⟩
 | goto l=>exact ⟨A,rfl,C,H,k,g,s⟩
 | ret=>exact ⟨A,rfl,C,H,k,g,s⟩
 | panic c=>exact ⟨A,rfl,C,H,k,g,s⟩
 | outgrown=>exact ⟨A,rfl,C,H,k,g,s⟩
theorem GWP.skip (h:Q .normal E S):GWP ro n ds P N .skip Q E S:=λa w A C=>wpIn_skip ⟨a,rfl,E,S,h,A,Step.refl C⟩
theorem GWP.ret (h:Q .ret E S):GWP ro n ds P N .ret Q E S:=λa w A C=>wpIn_ret ⟨a,rfl,E,S,h,A,Step.refl C⟩
theorem GWP.cond {c:tw} {x y:Code} (t:Bool) (hc:ev E c=some (.bool t)) (h:GWP ro n ds P N (if t then x else y) Q E S):GWP ro n ds P N (.cond c x y) Q E S:=λa w A C =>
 wpIn_cond (show (dd ds a).eval c = .bool t from A.ev hc) (h a w A C)
theorem GWP.condT {c:tw} {x y:Code} {t:Bool} (hc:ev E c=some (.bool t)) (A:t=true) (h:GWP ro n ds P N x Q E S):GWP ro n ds P N (.cond c x y) Q E S:=GWP.cond t hc (by rw [A];exact h)
theorem GWP.condF {c:tw} {x y:Code} {t:Bool} (hc:ev E c=some (.bool t)) (A:t=false) (h:GWP ro n ds P N y Q E S):GWP ro n ds P N (.cond c x y) Q E S:=GWP.cond t hc (by rw [A];exact h)
theorem GWP.block {id:Nat} {c:Code} (h:GWP ro n ds P N c (AinBlock id Q) E S):GWP ro n ds P N (.block id c) Q E S:=λa w U J =>
 wpIn_block (wpIn_mono (h a w U J) λe V X x=>by
  cases e with
  | exit I =>
   simp only [Exit.inBlock];obtain ⟨C,e1,A,H,k,g,s⟩:=x;simp only [AinBlock] at k;split
   ·rename_i e;rw [if_pos e] at k;exact ⟨C,e1,A,H,k,g,s⟩
   rename_i e;rw [if_neg e] at k;exact ⟨C,e1,A,H,k,g,s⟩
  | normal=>exact x
  | goto l=>exact x
  | ret=>exact x
  | panic c=>exact x
  | outgrown=>exact x)
theorem GWP.region {id:Nat} {l:List Oper} (h:ARun P N l.toArray l (Q .normal) E S) (hd:l.all noDefer=true:=by kernel_rfl):GWP ro n ds P N (.region id l.toArray false) Q E S:=λa w C I =>
 wpIn_region_lit (h.lift (λo A=>List.all_eq_true.1 hd o A) a w C I λH w' x=>⟨H,rfl,x⟩)
theorem zw2 {K:Env->Mem->Prop} {w0:tv} {S0:Mem}:Q0 N K S0 w0=NQ (Post N K S0 w0):=by
 funext e a w;cases e <;> simp [Q0,NQ]
theorem zgJ {id:Nat} {l:List Oper} {K:Env->Mem->Prop} {a:Act} {w:tv} (C:P.follows .mixedOrders=true) (hd:l.all noDefer=true)
  (h:wpAny P .any l.toArray (Q0 N K S w) l.toArray.size (Array.replicate l.toArray.size false) a { w with drawn:=w.drawn+1 }):(Code.region id l.toArray true).wpIn (FW ro) n P (GQ ds (Post N K S w)) (dd ds a) w:=by
 rw [zw2] at h;exact wpIn_region_any C (zkW (λa w ⟨_,_,_,g,_⟩=>g.defers) (λi o A=>List.all_eq_true.1 hd o (by
  have:=Array.mem_of_getElem? A;simpa using this)) _ _ _ _ h)
theorem GWP.draw {id:Nat} {l:List Oper} (st:List (Nat × Bool)) (W:List Nat) (hm:P.follows .mixedOrders=true) (A:drawOK l st W=true)
  (h:DrawRun P N l W S st (Q .normal) E S) (hd:l.all noDefer=true:=by kernel_rfl):GWP ro n ds P N (.region id l.toArray true) Q E S:=λa w g V=>by
 simp only [drawOK,Bool.and_eq_true,beq_iff_eq] at A;obtain ⟨⟨h1,J⟩,U⟩:=A;refine wpIn_mono (zgJ hm hd ?_) (λe a' w' x=>by obtain ⟨rfl,X,e1,Y⟩:=x;exact ⟨X,e1,Y⟩);refine zcd (W:=λi=>W.contains i) (C:=View S) _ _ _ _ ?_;have I:l.toArray.size=st.length:=by simp [J]
 rw [I];have H:Step S w S { w with drawn:=w.drawn+1 }:=Step.drawn V _;exact zsp h1 st _ E S a _ (by rw [J];exact U) (zb5 _ _) h g H.view H
theorem GWP.join {X:Type} {c:Code} (st:X->Env) (m:X->Mem) (ok:X->Prop) (h:GWP ro n ds P N c (JoinQ Q st m ok) E S) (k:∀ x,ok x -> ∀ E' S',Sub (st x) E'->(m x).Less S'->Q .normal E' S'):GWP ro n ds P N c Q E S :=
 h.mono λe E' S' A=>match e,A with
  | .normal,⟨x,h1,h2,h3⟩=>k x h1 E' S' h2 h3
  | .ret,A=>A
  | .exit _,A=>A
  | .goto _,A=>A
  | .outgrown,A=>A
  | .panic _,A=>A
theorem leaveM {fn:Func} {rs:List ResultVar} {R:tu->Mem->Prop} {S0:Mem} {w0:tv} {D:Nat} {a:Act} {w:tv} (J:fn.results=rs.toArray) (hs:Step S0 w0 S w) (I:w0.heap.size<=D) (A:w.heap[D]?=some (.deferred (some []))) (X:Good N E a) (U:∃ vs S',ResV P rs E S vs/\S'.Less S/\R (one vs) S') :
  LeavesInM Fence.wide n P fn (dd [{ target:=.collected D,args:=#[] }] a).tmps (λe w'=>∃ v S',e = .returned v/\R v S'/\Step S0 w0 S' w') [{ target:=.collected D,args:=#[] }] .returning w:=by
 obtain ⟨vs,V,Y,H,C⟩:=U;refine ⟨by simp,.inl ⟨D,_,rfl,run_takeDeferred A,?_⟩⟩;have put:∀ {S'},Step S0 w0 S' w->Step S0 w0 S' _:=λh=>h.grown (grownBy_putObj' _ D (.deferred none)) (λr e=>by cases e;exact ⟨I,_,A,rfl⟩);exact ⟨one vs,zcN (a:=a) J X (put hs).view Y,one vs,V,rfl,C,put (hs.less H)⟩
theorem uK {fn:Func} {rs:List ResultVar} {R:tu->Mem->Prop} {S0:Mem} {w0:tv} {c:Code} {D:Nat} {a:Act} {w:tv} (I:fn.results=rs.toArray) (hs:Step S0 w0 S w) (H:w0.heap.size<=D) (C:w.heap[D]?=some (.deferred (some []))) (J:Good N E a)
  (h:GWP none n [{ target:=.collected D,args:=#[] }] P N c (Aret P rs R) E S) :
  c.wpIn Fence.wide n P (bodyPostM Fence.wide n P fn (λe w'=>∃ v S',e = .returned v/\R v S'/\Step S0 w0 S' w')) { a with defers:={ target:=.collected D,args:=#[] } :: [] } w:=by
 refine wpIn_mono (h a w J hs.view) λe U w' ⟨V,e1,E',S',k,g,s⟩=>?_;subst e1;have A:=leaveM (P:=P) (n:=n) (rs:=rs) (R:=R) I (hs.trans s) H ((s.others hs.view).same _ _ C rfl) g;cases e with
 | normal=>exact A k
 | ret=>exact A k
 | exit id=>exact k.elim
 | goto l=>exact k.elim
 | panic c=>exact k.elim
 | outgrown=>exact k.elim
def QM (P:tz) (fn:Func) (R:tu->Mem->Prop) (S0:Mem) (w0:tv):Exit->Act->tv->Prop:=bodyPostM Fence.wide 6 P fn (λe w'=>∃ v S',e = .returned v/\R v S'/\Step S0 w0 S' w')
theorem QM.ret {fn:Func} {rs:List ResultVar} {R:tu->Mem->Prop} {S0:Mem} {w0:tv} {a:Act} {w:tv} (I:fn.results=rs.toArray) (hs:Step S0 w0 S w) (A:Good N E a) (h:∃ vs S',ResV P rs E S vs/\S'.Less S/\R (one vs) S'):LeavesInM Fence.wide 6 P fn a.tmps (λe w'=>∃ v S',e = .returned v/\R v S'/\Step S0 w0 S' w') a.defers .returning w:=by
 obtain ⟨vs,J,U,H,C⟩:=h;rw [A.defers];exact ⟨one vs,zcN I A hs.view U,one vs,J,rfl,C,hs.less H⟩
theorem vI {fn:Func} {rs:List ResultVar} {R:tu->Mem->Prop} {x y:Code} (A:fn.results=rs.toArray) (h:AWP P N x (Athen (AWPM P N y (QM P fn R)) (Aret P rs R)) E S):AWPM P N (.seq x y) (QM P fn R) E S:=λS0 w0 a w hs H=>by
 refine wpIn_seq (wpIn_mono (wpIn_wide.2 (h a w H hs.view)) λe C I ⟨J,U,k,g,s⟩=>?_);cases e with
 | normal=>exact k S0 w0 C I (hs.trans s) g
 | exit id=>exact k.elim
 | goto l=>exact k.elim
 | ret=>exact QM.ret A (hs.trans s) g k
 | panic c=>exact k.elim
 | outgrown=>exact k.elim
theorem vY {S:Mem} {f:tA} {fn:Func} {c:Code} {args:List tu} {rs:List ResultVar} {R:tu->Mem->Prop} (n:Nat) (A:Env) (V:P.funcs[f]?=some fn) (C:fn.body=some c) (H:fn.ntmps=n) (J:args.length<=n) (I:fn.results=rs.toArray) (U:SubA A args)
  (h:AWPM P n c (QM P fn R) A S):ACall P f args.toArray S R:=uU (rs:=rs) n A V C H J I U h
end
end Mv
end
section
open Go.RowKit
namespace Mv
section
variable {P:tz} {N:Nat}
theorem znU {l:List Oper} {W:List Nat} {S0 SB:Mem} {w0:tv} {K:Env->Mem->Prop} (ak:Region.noSelect l.toArray=true):∀ (st:List (Nat × Bool)) (A:Array Bool) (E:Env) (S:Mem) (a:Act) (w:tv),
  stepsOK l W st A=true->Closed l.toArray A->DrawRun P N l W S0 st K E S->Good N E a->View S w->Step SB w0 S w->wpAnyG P l.toArray (Q0 N K SB w0) (λi=>W.contains i) (View S0) st.length A a w:=by
 intro st
 induction st with
 | nil =>
  intro A E S a w X U h g hv hs;exact ⟨by simpa [stepsOK] using X,E,S,h,g,hs⟩
 | cons p is ih =>
  obtain ⟨i,b⟩:=p;intro A E S a w X U h g hv hs;cases b with
  | false =>
   simp only [stepsOK,Bool.and_eq_true,beq_iff_eq,Bool.false_eq_true,if_false] at X;obtain ⟨an,aA⟩:=X;refine ⟨λh0=>(by rw [an] at h0;cases h0),λj hj=>?_⟩;have ay:=hj;rw [an] at hj;obtain rfl:j=i:=(by simpa using hj);obtain ⟨o,ho,ax⟩:=h;have h1:=ax a w g hv;unfold wpOp;have I:l.toArray[j]?=some o:=(by simpa using ho);simp only [I];have next:∀ a1 w1,Post N (λE' S'=>(W.contains j=false->S0.Less S')/\DrawRun P N l W S0 is K E' S') S w a1 w1->(W.contains j=false->View S0 w->View S0 w1)/\wpAnyG P l.toArray (Q0 N K SB w0) (λi=>W.contains i) (View S0) is.length (A.setIfInBounds j true) a1 w1:=λa1 w1 ⟨E1,S1,⟨k1,k2⟩,g1,s1⟩ =>
    ⟨λJ _=>s1.view.less (k1 J),ih _ E1 S1 a1 w1 aA (zbU U ay) k2 g1 s1.view (hs.trans s1)⟩
   split
   ·rename_i J;rw [if_pos J] at h1;exact .inl (zdS (Oper.wp_mono next h1))
   rename_i J;rw [if_neg J] at h1;exact next _ _ h1
  | true =>
   simp only [stepsOK,Bool.and_eq_true,if_true] at X;obtain ⟨ah,aB⟩:=X;obtain ⟨o,d,v,ho,hd,hn,ad,H,Y⟩:=h;simp only [mayFirst,Bool.and_eq_true,Bool.or_eq_true] at ah;obtain ⟨⟨X,hf⟩,hp⟩:=ah;have I:l.toArray[i]?=some o:=(by simpa using ho);have am:i ∈ Region.ready .any l.toArray A:=(by simpa using X);let D:tv->Prop:=λw'=>if pureOp o=true then True else View S0 w'
   have ag:D w:=by
    simp only [D];split
    ·trivial
    rename_i hx;exact hv.less (ad.resolve_left hx)
   have V:∀ w',D w'->View (if pureOp o then noMem else S0) w':=λw' h=>by
    simp only [D] at h;split
    ·exact zet _
    rename_i hx;rw [if_neg hx] at h;exact h
   refine zc6 (D:=D) (v:=v) I (Region.noSelect_spec ak) (λc a w h=>h) ?_ is.length A a w U (Region.free_spec I hf) am ?_ ag ?_
   ·intro j w1 w2 C al ai hj aa ac;simp only [D] at aa ⊢;split
    ·trivial
    rename_i hx;rw [if_neg hx] at aa;refine ac ?_ aa;rcases hp with hp | hp
    ·rw [ho] at hp;exact absurd (by simpa using hp) hx
    cases aD:W.contains j with
    | false=>rfl
    | true =>
     have h1:=List.all_eq_true.1 hp j (by simpa using aD);obtain ⟨aT,oj,aF,aj⟩:=mem_ready.1 hj;have h2:=zcO h1 C al λo2 aE e he hb=>by
      obtain rfl:oj=o2:=Option.some.inj (aF.symm.trans aE);exact aj e he hb
     rcases Nat.lt_or_ge i C.size with az | hge
     ·simp [az] at ai h2;rw [ai] at h2;cases h2
     simp [Array.getElem?_eq_none hge] at h2
   ·by_cases J:Region.wanted o (yielded l.toArray a.tmps)=true
    ·refine .inl ⟨J,λw' aC=>?_⟩;rcases H a w' g (V w' aC) with h1 | h1
     ·exact h1.2
     rw [J] at h1;cases h1.1
    rcases H a w g (V w ag) with h1 | h1
    ·exact absurd h1.1 J
    exact .inr h1
   rw [hd];exact ih (A.setIfInBounds i true) _ S _ w aB (zbU U am) Y (g.put hn v) hv hs
theorem AWP.drawS {id:Nat} {l:List Oper} {Q:Exit->Env->Mem->Prop} {E:Env} {S:Mem} (S0:Mem) (hl:S0.Less S) (st:List (Nat × Bool)) (W:List Nat) (Y:P.follows .mixedOrders=true) (A:drawOK l st W=true)
  (h:DrawRun P N l W S0 st (Q .normal) E S):AWP P N (.region id l.toArray true) Q E S:=λa w g V=>by
 simp only [drawOK,Bool.and_eq_true,beq_iff_eq] at A;obtain ⟨⟨X,J⟩,U⟩:=A;refine wp_mono (Q:=Q0 N (Q .normal) S w) ?_ (λe a' w' x=>by cases e <;> first | exact x | exact x.elim);refine wp_region_any Y ?_;refine zcd (W:=λi=>W.contains i) (C:=View S0) _ _ _ _ ?_;have I:l.toArray.size=st.length:=by simp [J]
 rw [I];have H:Step S w S { w with drawn:=w.drawn+1 }:=Step.drawn V _;exact znU X st _ E S a _ (by rw [J];exact U) (zb5 _ _) h g H.view H
end
end Mv
end
section
open Go.RowKit Go.Shelf
namespace Mv
theorem GWP.drawS {P:tz} {N:Nat} {ro:Option Nat} {n:Nat} {ds:List Deferred} {Q:Exit->Env->Mem->Prop} {E:Env} {S:Mem} {id:Nat} {l:List Oper} (S0:Mem) (hl:S0.Less S) (st:List (Nat × Bool)) (W:List Nat) (hm:P.follows .mixedOrders=true) (A:drawOK l st W=true)
  (h:DrawRun P N l W S0 st (Q .normal) E S) (hd:l.all noDefer=true:=by kernel_rfl):GWP ro n ds P N (.region id l.toArray true) Q E S:=λa w g V=>by
 simp only [drawOK,Bool.and_eq_true,beq_iff_eq] at A;obtain ⟨⟨h1,J⟩,U⟩:=A;refine wpIn_mono (zgJ hm hd ?_) (λe a' w' x=>by obtain ⟨rfl,X,e1,Y⟩:=x;exact ⟨X,e1,Y⟩);refine zcd (W:=λi=>W.contains i) (C:=View S0) _ _ _ _ ?_;have I:l.toArray.size=st.length:=by simp [J]
 rw [I];have H:Step S w S { w with drawn:=w.drawn+1 }:=Step.drawn V _;exact znU h1 st _ E S a _ (by rw [J];exact U) (zb5 _ _) h g H.view H
def zE:List Tmp->List tu->Env->Env
  | p :: ps,v :: vs,E=>zE ps vs ((p,v) :: E)
  | _,_,E=>E
theorem znV {N:Nat}:∀ (ps:List Tmp) (vs:List tu) {E:Env} {a:Act},Good N E a->(∀ p ∈ ps,p<N)->Good N (zE ps vs E) { tmps:=(ps.zip vs).foldl (λt (p,v)=>t.setIfInBounds p v) a.tmps,defers:=[] }
 | [],_,_,_,h,_=>⟨h.size,rfl,h.at_⟩
 | _ :: _,[],_,_,h,_=>⟨h.size,rfl,h.at_⟩
 | p :: ps,v :: vs,_,_,h,hp=>znV ps vs (h.put (hp p (List.mem_cons_self ..)) v) λq A=>hp q (List.mem_cons_of_mem _ A)
theorem znW {P:tz} {N:Nat} {g:tw} {ps:List Tmp} {assign body:Code} {Q:Exit->Act->tv->Prop} {a:Act} {w w0:tv} {S0 S1:Mem} {gf:Nat} {lb:Array tu} (Z Zx:Mem->Prop) (E0:Env)
  (hG:Good N E0 a) (ay:ev E0 g=some (.func (.func gf) #[] lb)) (eg:goFn P gf=true) (ao:ps.all (λp=>decide (p<N))=true) (aj:Step S0 w0 S1 w)
  (aw:∀ (l:Nat) (J Jx:Mem->tv->Prop) (W:tv),(∀ {S W},J S W->View S W)->(∀ {S S' W I},J S W->Step S W S' I->J S' I) ->
   (∀ (vs:List tu) (T Tx:Mem->Prop) {S W},J S W->vs.length=ps.length->GWP (some l) 4 [] P N assign (Athen (GWP (some l) 4 [] P N body (λe _ S'=>(e = .normal/\T S')\/(e = .ret/\Tx S'))) (λ_ _ _=>False)) (zE ps vs E0) S ->
    YieldAt Fence.wide 4 P l vs.toArray W λe I=>(e = .returned (.bool true) /\ ∃ S',T S'/\J S' I)\/(e = .returned (.bool false) /\ ∃ S',Tx S'/\Jx S' I))->J S1 W ->
   CallsIn Fence.wide 5 P gf (#[.func (.yield l) #[] #[]] ++ lb) W λe I=>(∃ v,e = .returned v)/\((∃ S,Z S/\J S I) \/ ∃ S,Zx S/\Jx S I))
  (aa:∀ (D:Nat) (S:Mem) (W:tv),Z S->Step S0 w0 S W->w0.heap.size<=D->W.heap[D]?=some (.deferred (some []))->Q .normal { a with defers:={ target:=.collected D,args:=#[] } :: [] } W)
  (ae:∀ (D:Nat) (S:Mem) (W:tv),Zx S->Step S0 w0 S W->w0.heap.size<=D->W.heap[D]?=some (.deferred (some []))->Q .ret { a with defers:={ target:=.collected D,args:=#[] } :: [] } W) :
  (Code.rangeFunc g ps.toArray assign body).wpIn Fence.wide 6 P Q a w:=by
 have hg:a.eval g = .func (.func gf) #[] lb:=hG.ev ay;have ai:=hG.defers;have ah:=aj.size;refine wpIn_rangeFunc λfn av=>?_;obtain ⟨H,A⟩ : ∃ H:LoopState->Option Code->Loop,H=λst U=>{ state:=st,pending:=U,fn,tmps:=a.tmps,params:=ps.toArray,assign,body,defers:=w.heap.size }:=⟨_,rfl⟩;have put:∀ {S:Mem} {W:tv} {l:Nat} {o:Obj} (o':Obj),Step S0 w0 S W->w.heap.size<=l->W.heap[l]?=some o->o.isCells=false->Step S0 w0 S (W.putObj l o'):=λo' h V ho hc =>
  h.grown (grownBy_putObj' _ _ o') λr e=>by cases e;exact ⟨Nat.le_trans ah V,_,ho,hc⟩
 obtain ⟨J,hJ⟩ : ∃ J:LoopState->Option Code->Mem->tv->Prop,J=λs U S W=>Step S0 w0 S W/\W.heap[w.heap.size+1]?=some (.loop (H s U))/\W.heap[w.heap.size]?=some (.deferred (some [])):=⟨_,rfl⟩;have step:∀ {s U S S' W I},J s U S W->Step S W S' I->J s U S' I:=λC X=>by
  rw [hJ] at C ⊢;obtain ⟨Y,V,hd⟩:=C;exact ⟨Y.trans X,(X.others Y.view).same _ _ V rfl,(X.others Y.view).same _ _ hd rfl⟩
 have ad:∀ {s U S W} (s':LoopState) (ac:Option Code),J s U S W->J s' ac S (W.putObj (w.heap.size+1) (.loop (H s' ac))):=λs' ac C=>by
  rw [hJ] at C ⊢;obtain ⟨Y,V,hd⟩:=C;exact ⟨put _ Y vd V rfl,World.putObj_heap_same (Array.getElem?_eq_some_iff.1 V).1,(World.putObj_heap_other vd).trans hd⟩
 have view:∀ {s U S W},J s U S W->View S W:=λC=>by rw [hJ] at C;exact C.1.view
 have at_:∀ {s U S W},J s U S W->W.heap[w.heap.size+1]?=some (.loop (H s U)):=λC=>by rw [hJ] at C;exact C.2.1
 obtain ⟨Wl,al⟩ : ∃ Wl,Wl=(w.alloc (.deferred (some []))).alloc (.loop (H .ready none)):=⟨_,rfl⟩;refine ⟨w.heap.size+1,[{ target:=.collected w.heap.size,args:=#[] }],Wl,{ target:=.fn (.func gf) lb,args:=#[.func (.yield (w.heap.size+1)) #[] #[]] },Wl,gf,#[.func (.yield (w.heap.size+1)) #[] #[]] ++ lb,Wl,by rw [al,A];exact run_enterLoop_outer _ _ _ _ _,?_,λ_ _=>trivial,?_,λ_=>by omega,?_⟩
 ·simp only [resolve,hg];simp [go_sem]
 ·simp [invoke,go_sem,zbg eg]
 refine (aw (w.heap.size+1) (J .ready none) (J .done (some .ret)) Wl view step (λvs T Tx S W C aq hr=>?_) ?_).mono ?_
 ·have V:=at_ C;have hy:=run_yield (P:=P) (args:=vs.toArray) V (by rw [A];simp [aq]);rw [A] at hy;have ga:=znV ps vs hG λp hp=>of_decide_eq_true (List.all_eq_true.1 ao p hp);have ez:(ps.toArray.zip vs.toArray).foldl (λt (p,v)=>t.setIfInBounds p v) a.tmps=(ps.zip vs).foldl (λt (p,v)=>t.setIfInBounds p v) a.tmps:=by simp
  rw [<- ez] at ga;refine ⟨fn,_,assign,body,hy,roundIn_of_wpIn av (wpIn_mono (hr _ W ga (view C)) λe a' Wa hq=>?_)⟩;obtain ⟨a1,ea,E1,S2,kq,g1,sa⟩:=hq;subst ea;cases e with
  | normal=>?_
  | _=>exact kq.elim
  have j2:=step C sa;have j3:=ad .busy none j2;refine ⟨_,run_beginRound (at_ j2) (by rw [A]),?_⟩;rw [show (Obj.loop { H .ready none with state:=.busy }) = .loop (H .busy none) by rw [A]];refine wpIn_mono (kq a1 _ g1 (view j3)) λe a3 W3 hp=>?_;obtain ⟨a4,ea,E3,S3,hp,g3,s3⟩:=hp;have j4:=step j3 s3;rcases hp with ⟨rfl,i3⟩ | ⟨rfl,i3⟩
  ·refine ⟨_,_,run_endRound (P:=P) none (at_ j4),.inl ⟨rfl,S3,i3,?_⟩⟩;have:=ad .ready none j4;rw [A] at this ⊢;exact this
  refine ⟨_,_,run_endRound (P:=P) (some .ret) (at_ j4),.inr ⟨rfl,S3,i3,?_⟩⟩;have:=ad .done (some .ret) j4;rw [A] at this ⊢;exact this
 ·rw [hJ,al];refine ⟨(aj.grown (World.grownBy_alloc w _ none) (λr e=>by cases e)).grown (World.grownBy_alloc _ _ none) (λr e=>by cases e),?_,(Below.heap_alloc _ _ _ (by simp)).trans (World.alloc_heap_new w _)⟩;have:=World.alloc_heap_new (w.alloc (.deferred (some []))) (.loop (H .ready none));rwa [World.size_alloc] at this
 have out:∀ {s U S W},s ≠ .busy->J s U S W -> ∃ D,w0.heap.size<=D/\(w.heap.size=D) /\ ∃ I,(Instr.endLoop (w.heap.size+1)).run P W = .ok U I/\Step S0 w0 S I/\I.heap[D]?=some (.deferred (some [])):=λ{s U S W} hb C=>by
  have V:=at_ C;rw [hJ] at C;obtain ⟨Y,_,hd⟩:=C;refine ⟨_,ah,rfl,_,(run_endLoop (P:=P) V (by rw [A];exact hb)).trans (by rw [A]),put _ Y vd V rfl,(World.putObj_heap_other vd).trans hd⟩
 rintro e W2 ⟨⟨v,rfl⟩,⟨S,h1,C⟩ | ⟨S,h1,C⟩⟩
 ·obtain ⟨D,hD,rfl,I,r,st,hd⟩:=out (by simp) C;refine ⟨none,I,r,?_⟩;rw [ai];exact aa _ S _ h1 st hD hd
 obtain ⟨D,hD,rfl,I,r,st,hd⟩:=out (by simp) C;refine ⟨some .ret,I,r,?_⟩;rw [ai];exact wpIn_ret (ae _ S _ h1 st hD hd)
end Mv
end
section
open Go.RowKit Go.Shelf
open Mv Disk
attribute [local go_sem] Oper.semAt_some
def wrV (w:Wr):tu:=.agg #[.string w.1,.int .i64 w.2.1,.string w.2.2]
set_option maxRecDepth 100000 in
theorem ztv (l Bs:Nat) (A:Option Addr) (cap:Nat) (zs:List Wr) (U:zs.length<=16384) (J:Nat->tv->Prop) (Z:tv->Prop) (W:tv)
  (Y:∀ {k W},J k W->W.cell? ⟨Bs,0,none⟩=some (.slice A zs.length cap))
  (hc:∀ {k W},J k W -> ∀ j (h:j<zs.length),∃ b o,A=some ⟨b,o,none⟩ /\ ∀ q v,(wrF zs[j])[q]?=some v->W.cell? ⟨b,o+j*3+q,none⟩=some v)
  (hY:∀ k W (h:k<zs.length),J (k+1) W->YieldAt Fence.wide 4 prog l #[.int .i64 (k:Nat),wrV zs[k]] W λe I=>(e = .returned (.bool true)/\J k I)\/(e = .returned (.bool false)/\Z I)) (h0:J zs.length W) :
  CallsIn Fence.wide 5 prog 188 #[.func (.yield l) #[] #[],.pointer (some ⟨Bs,0,none⟩)] W λe I=>(∃ v,e = .returned v)/\(J 0 I\/Z I):=by
 refine callsIn_of_wp func188 rfl trivial ?_ rfl;simp only [ntmps188,List.size_toArray,List.length_cons,List.length_nil,Nat.reduceAdd,Nat.reduceSub,Array.replicate_succ,Array.replicate_zero,List.push_toArray,List.append_toArray,List.nil_append,List.cons_append];have ae:=Y h0
 gi_wp2
 gi_loopw [3] (λi wr=>∃ k:Nat,k<=zs.length/\i = .int .i64 ((k:Int)-1)/\J k wr)
  (λi _=>(intOf i+1).toNat)
 case atStart=>exact ⟨_,Nat.le_refl _,rfl,h0⟩
 case round =>
  obtain ⟨k,hk,rfl,V⟩:=hrel;have X:=Y V;cases k with
  | zero =>
   rw [show ((0:Nat):Int)-1 = -1 from rfl]
   gi_wp2
   go_end0
   exact ⟨⟨_,rfl⟩,.inl V⟩
  | succ m =>
   obtain ⟨b,off,rfl,C⟩:=hc V m hk;obtain ⟨fn,tmps,assign,body,hy,hR⟩:=hY m wr hk V;dsimp only [wrV] at hy;rw [show ((m+1:Nat):Int)-1=m by omega];have ak:wr.cell? ⟨b,off+m*3,none⟩=some (.string zs[m].1):=C 0 _ rfl;have ag:wr.cell? ⟨b,off+m*3+1,none⟩=some (.int .i64 zs[m].2.1):=C 1 _ rfl;have af:wr.cell? ⟨b,off+m*3+2,none⟩=some (.string zs[m].2.2):=C 2 _ rfl
   gi_wp2
   refine hR.mono ?_;rintro e W3 (⟨rfl,H⟩ | ⟨rfl,H⟩)
   ·gi_wp2
    go_roundw
    case rel=>exact ⟨m,by omega,by simp,H⟩
    case measure=>simp [intOf]
   gi_wp2
   exact bodyPost_ret (results_none rfl _ _ _) rfl ⟨⟨_,rfl⟩,.inr H⟩
theorem zjN (a:Option Addr) (n c:Nat) (S:Mem):ACall prog 132 #[.slice a n c] S λr S'=>∃ b,Fresh S b/\r = .func (.func 188) #[] #[.pointer (some ⟨b,0,none⟩)]/\S'=S.set b ⟨29,[.slice a n c],1⟩:=by
 refine k_E1 4 func132 ?_;refine r2_ ?_;refine vB (zab rfl) rfl rfl ?_;intro C f1;have A:=f1
 repeat ((with_reducible replace A:=zaa A);obtain ⟨A,_⟩:=A)
 refine nl_ ?_;refine r10_ ?_;refine ⟨_,_,⟨_,_,rfl,rfl,rfl⟩,Mem.Less.refl _,?_⟩;exact ⟨C,f1,rfl,rfl⟩
theorem zqG {d:D} {s:tt} {k:Int} {j:Nat} (H:Right d) (h:placeD d s k=(j,0)):∃ A:j<d.ext.length,exOf d.ext s=d.ext[j]/\0<=k/\k<sec d.ext[j]:=by
 unfold placeD at h;by_cases q:has d.ext s=true
 ·obtain ⟨A,_⟩:=(zex H.ex.asc s).1 q;rw [if_pos q] at h;by_cases C:k<0\/(sec (exOf d.ext s):Int)<=k
  ·rw [if_pos C] at h;simp at h
  rw [if_neg C] at h;obtain rfl:pos d.ext s=j:=by simpa using h
  rw [zjE A] at C ⊢;exact ⟨A,rfl,by omega,by omega⟩
 rw [if_neg q] at h;simp at h
theorem zhv (p:Nat) (d:D) (s:tt) (k:Int) (M:Mem) (h:RdV M p d) (hR:Right d) :
  ACall prog 69 #[.pointer (some ⟨p,0,none⟩),.string s,.int .i64 k] M λr S'=>r = .tuple #[.string (readD d s k).1,.int .i64 (readD d s k).2]/\S'=M:=by
 have av:=λS (hl:M.Less S)=>zil p d s k S (h.less hl) hR;obtain ⟨qe,de,qw,dw,hp,hE,hW⟩:=h;generalize au:placeD d s k=pl at *;obtain ⟨j,er⟩:=pl;by_cases q:er=0
 case neg =>
  have hr:readD d s k=(ByteArray.empty,er):=by unfold readD;rw [au];exact if_pos q
  rw [hr];refine vY (args:=[.pointer (some ⟨p,0,none⟩),.string s,.int .i64 k]) (rs:=[.cell 6 9,.cell 7 24]) 57 [(0,.pointer (some ⟨p,0,none⟩)),(1,.string s),(2,.int .i64 k)] func69 rfl rfl (Nat.le_of_ble_eq_true rfl) rfl ⟨rfl,rfl,rfl,trivial⟩ ?_;refine vI (rs:=[.cell 6 9,.cell 7 24]) rfl ?_;refine AWP.region ?_;refine vB (zab rfl) rfl rfl ?_;intro b4 f4;have V:=f4
  repeat ((with_reducible replace V:=zaa V);obtain ⟨V,_⟩:=V)
  try simp only [k_l1,k_l0,k_za,Nat.reduceAdd]
  refine vB (zab rfl) rfl rfl ?_;intro b5 f5;have g5:=f5
  repeat ((with_reducible replace g5:=zaa g5);obtain ⟨g5,_⟩:=g5)
  try simp only [k_l1,k_l0,k_za,Nat.reduceAdd]
  refine ARun.alloc (zab rfl) zfA ?_;intro Y f6;have I:=f6
  repeat ((with_reducible replace I:=zaa I);obtain ⟨I,_⟩:=I)
  try simp only [k_l1,k_l0,k_za,Nat.reduceAdd]
  refine ARun.alloc (zab rfl) zey ?_;intro b7 f7;have U:=f7
  repeat ((with_reducible replace U:=zaa U);obtain ⟨U,_⟩:=U)
  try simp only [k_l1,k_l0,k_za,Nat.reduceAdd]
  refine k_n ?_;refine vI (rs:=[.cell 6 9,.cell 7 24]) rfl ?_;refine AWP.region ?_;refine k_m rfl ?_;refine rC (ld_ zaB rfl) ?_;refine rC (ld_ zaq rfl) ?_;refine ARun.call (zab rfl) znl rfl (av _ zae) ?_;rintro _ S1 ⟨rfl,h1⟩;rw [h1];clear h1 S1;refine k_m rfl ?_;refine rC (Calm.extract rfl rfl) ?_;refine rC (Calm.extract rfl rfl) ?_;refine k_s rfl (k_e rfl ?_);refine AWPM.sub [(0,_),(1,_),(2,_),(4,_),(5,_),(6,_),(7,_),(8,_),(9,_)] ⟨rfl,rfl,rfl,rfl,rfl,rfl,rfl,rfl,rfl,trivial⟩ ?_;refine vI (rs:=[.cell 6 9,.cell 7 24]) rfl ?_;refine k_a (k_m rfl ?_);refine rC (vi rfl rfl zva) ?_;refine k_n ?_;refine k_u [(0,_),(1,_),(2,_),(4,_),(5,_),(6,_),(7,_),(8,_),(9,_),(20,_)] ?_;refine k_T rfl ?_;refine k_a (k_m rfl ?_);refine vk rfl rfl zbP rfl own_ zdC rfl ?_
  try simp only [k_ms,k_sz,k_ss,k_za,Nat.reduceAdd]
  refine vk rfl rfl zdl rfl own_ zdC rfl ?_
  try simp only [k_ms,k_sz,k_ss,k_za,Nat.reduceAdd]
  refine k_n ?_;refine k_u [(0,_),(1,_),(2,_),(4,_),(5,_),(6,_),(7,_),(8,_),(9,_),(20,_)] ?_;refine k_r ?_;refine ⟨_,M,⟨_,_,_,rfl,.inl ⟨zaB,rd_⟩,⟨_,_,_,rfl,.inl ⟨zbX,rd_⟩,rfl,rfl⟩,rfl⟩,zae,?_⟩;exact ⟨rfl,rfl⟩
 subst q;have hr:readD d s k=(seen d s k,0):=by unfold readD;rw [au];exact if_neg (λh=>h rfl)
 rw [hr];obtain ⟨ah,aN,bg,ba⟩:=zqG hR au;refine vY (args:=[.pointer (some ⟨p,0,none⟩),.string s,.int .i64 k]) (rs:=[.cell 6 9,.cell 7 24]) 57 [(0,.pointer (some ⟨p,0,none⟩)),(1,.string s),(2,.int .i64 k)] func69 rfl rfl (Nat.le_of_ble_eq_true rfl) rfl ⟨rfl,rfl,rfl,trivial⟩ ?_;refine vI (rs:=[.cell 6 9,.cell 7 24]) rfl ?_;refine AWP.region ?_;refine vB (zab rfl) rfl rfl ?_;intro b4 f4;have V:=f4
 repeat ((with_reducible replace V:=zaa V);obtain ⟨V,_⟩:=V)
 have:=V.ne hp;have:=V.ne' hp
 try simp only [k_l1,k_l0,k_za,Nat.reduceAdd]
 refine vB (zab rfl) rfl rfl ?_;intro b5 f5;have g5:=f5
 repeat ((with_reducible replace g5:=zaa g5);obtain ⟨g5,_⟩:=g5)
 have:=g5.ne hp;have:=g5.ne' hp
 try simp only [k_l1,k_l0,k_za,Nat.reduceAdd]
 refine ARun.alloc (zab rfl) zfA ?_;intro Y f6;have I:=f6
 repeat ((with_reducible replace I:=zaa I);obtain ⟨I,_⟩:=I)
 have:=I.ne hp;have:=I.ne' hp
 try simp only [k_l1,k_l0,k_za,Nat.reduceAdd]
 refine ARun.alloc (zab rfl) zey ?_;intro b7 f7;have U:=f7
 repeat ((with_reducible replace U:=zaa U);obtain ⟨U,_⟩:=U)
 have:=U.ne hp;have:=U.ne' hp
 try simp only [k_l1,k_l0,k_za,Nat.reduceAdd]
 refine k_n ?_;refine vI (rs:=[.cell 6 9,.cell 7 24]) rfl ?_;refine AWP.region ?_;refine k_m rfl ?_;refine rC (ld_ zaB rfl) ?_;refine rC (ld_ zaq rfl) ?_;refine ARun.call (zab rfl) znl rfl (av _ zae) ?_;rintro _ S1 ⟨rfl,h1⟩;rw [h1];clear h1 S1;refine k_m rfl ?_;refine rC (Calm.extract rfl rfl) ?_;refine rC (Calm.extract rfl rfl) ?_;refine k_s rfl (k_e rfl ?_);refine AWPM.sub [(0,_),(1,_),(2,_),(4,_),(5,_),(6,_),(7,_),(8,_),(9,_)] ⟨rfl,rfl,rfl,rfl,rfl,rfl,rfl,rfl,rfl,trivial⟩ ?_;refine vI (rs:=[.cell 6 9,.cell 7 24]) rfl ?_;refine k_a (k_m rfl ?_);refine rC (vi rfl rfl zva) ?_;refine k_n ?_;refine k_u [(0,_),(1,_),(2,_),(4,_),(5,_),(6,_),(7,_),(8,_),(9,_),(20,_)] ?_;refine k_F rfl ?_;refine k_k ?_;refine ux ?_;refine AWPM.seq ?_;refine AWP.region ?_;refine k_m rfl ?_;refine rC (Calm.nilCheck rfl) ?_;refine rC (Calm.fieldAddr zcs rfl) ?_;refine rC (Calm.fieldAddr zdY rfl) ?_;refine rC (ld_ zfC rfl) ?_;refine ARun.call (zab rfl) zvz rfl (zjN _ _ _ _) ?_;rintro _ S9 ⟨bq,fq,rfl,h9⟩;rw [h9];clear h9 S9;intro S0 w0 a w aq hg;refine wpIn_block ?_;have gq:=fq
 repeat ((with_reducible replace gq:=zaa gq);obtain ⟨gq,_⟩:=gq)
 obtain ⟨m,rfl⟩ : ∃ m:Nat,k=m:=⟨k.toNat,by omega⟩;have ad:∀ x,M.Less (((((((M.set b4 ⟨9,[.string s],1⟩).set b5 ⟨3,[.int .i64 (m:Int)],1⟩).set Y ⟨9,[.string ByteArray.empty],1⟩).set b7 ⟨24,[.int .i64 0],1⟩).set bq ⟨29,[.slice qw d.waits.length dw],1⟩).set Y ⟨9,[.string x],1⟩).set b7 ⟨24,[.int .i64 0],1⟩):=λx=>zae;obtain ⟨H,C⟩ : ∃ H,H=((((M.set b4 ⟨9,[.string s],1⟩).set b5 ⟨3,[.int .i64 (m:Int)],1⟩).set Y ⟨9,[.string ByteArray.empty],1⟩).set b7 ⟨24,[.int .i64 0],1⟩).set bq ⟨29,[.slice qw d.waits.length dw],1⟩:=⟨_,rfl⟩;have hM:M.Less H:=by rw [C];exact zae
 have o4:H.own b4=some ⟨9,[.string s],1⟩:=by rw [C];exact own_
 have o5:H.own b5=some ⟨3,[.int .i64 (m:Int)],1⟩:=by rw [C];exact own_
 have o6:H.own Y=some ⟨9,[.string ByteArray.empty],1⟩:=by rw [C];exact own_
 have o7:H.own b7=some ⟨24,[.int .i64 0],1⟩:=by rw [C];exact own_
 have oq:H.own bq=some ⟨29,[.slice qw d.waits.length dw],1⟩:=by rw [C];exact own_
 have bf:Y≠b7:=ne_;replace aq:Step S0 w0 H w:=by rw [C];exact aq
 rw [<- C] at ad;have aQ:=hW.less hM;have op:=hM.own hp;obtain ⟨M0,p5,p0,bd,pE,m6,m7⟩ : ∃ M0:Mem,M0.own b5=some ⟨3,[.int .i64 (m:Int)],1⟩/\M0.own p=some ⟨107,[.int .i64 d.size,.slice qe d.ext.length de,.slice qw d.waits.length dw,.int .i64 d.fuse,.bool d.down],5⟩/\M0.Less H/\Sl 2 extF M0 (.slice qe d.ext.length de) d.ext/\M0.own Y=none/\M0.own b7=none:=⟨M.set b5 ⟨3,[.int .i64 (m:Int)],1⟩,own_,own_,by rw [C];exact zae,hE.less zae,(zam I ne_).1,(zam U ne_).1⟩;clear hM C f4 f5 f6 f7 fq V g5 I U gq av hW hE hp;obtain ⟨X,hX⟩ : ∃ X,X=(exOf d.ext s).2.extract (64*m) (64*m+64):=⟨_,rfl⟩;have aY:seen d s m=seeW allK d.waits s m X d.waits.length:=by rw [hX];rfl
 refine znW (N:=57) (ps:=[28,29]) (gf:=188) (lb:=#[.pointer (some ⟨bq,0,none⟩)]) (λT=>H.Less T/\seen d s m=X) (λT=>((H.set Y ⟨9,[.string (seen d s m)],1⟩).set b7 ⟨24,[.int .i64 0],1⟩).Less T) [(0,.pointer (some ⟨p,0,none⟩)),(4,.pointer (some ⟨b4,0,none⟩)),(5,.pointer (some ⟨b5,0,none⟩)),(6,.pointer (some ⟨Y,0,none⟩)),(7,.pointer (some ⟨b7,0,none⟩)),(8,.int .i64 (j:Nat)),(27,.func (.func 188) #[] #[.pointer (some ⟨bq,0,none⟩)])] (hg.sub ⟨rfl,rfl,rfl,rfl,rfl,rfl,rfl,trivial⟩) rfl (by kernel_rfl) rfl aq ?hit ?done ?stop
 case hit =>
  intro l J Jx W view step am hj;refine ztv l bq qw dw d.waits hR.wl (λi W=>∃ T,(H.Less T/\seen d s m=seeW allK d.waits s m X i)/\J T W) (λW=>∃ T,((H.set Y ⟨9,[.string (seen d s m)],1⟩).set b7 ⟨24,[.int .i64 0],1⟩).Less T/\Jx T W) W (λ⟨T,⟨hl,_⟩,hj⟩=>(view hj).rd (zcq (hl.own oq) rfl)) (λ⟨T,⟨hl,_⟩,hj⟩ i hi=>?_) (λi W hi ⟨T,⟨hl,hv⟩,hj⟩=>am _ (λT=>H.Less T/\seen d s m=seeW allK d.waits s m X i) _ hj rfl (GWP.less _ hl ?_)) ⟨_,⟨Mem.Less.refl _,aY⟩,hj⟩
  ·obtain ⟨_,_,e1,e2,e3,h3⟩:=aQ;cases e1;obtain ⟨b,o,e,hk⟩:=h3.resolve_left (λe=>by rw [e] at hi;simp at hi);refine ⟨b,o,e,λq v hq=>?_⟩;have:=hk i hi _ ((view hj).less hl) q v hq;have e:(⟨b,o+i*3,none⟩ : Addr).add q=⟨b,o+i*3+q,none⟩:=(by unfold Addr.add;cases q <;> simp);rwa [e] at this
  rw [zb6 _ _ _ _ _ hi] at hv;generalize d.waits[i]=y at *;unfold wrV;show GWP _ _ _ _ _ _ _ [(29,_),(28,_),(0,_),(4,_),(5,_),(6,_),(7,_),(8,_),(27,_)] _;by_cases q1:y.2.1=m
  ·by_cases q2:y.1=s
   ·rw [if_pos ⟨q2,q1,rfl⟩] at hv;refine GWP.region ?_;refine ARun.alloc (zab rfl) zbI ?_;intro aG ae;have A:=ae
    repeat ((with_reducible replace A:=zaa A);obtain ⟨A,_⟩:=A)
    have:=A.ne o4;have:=A.ne' o4
    have:=A.ne o5;have:=A.ne' o5
    have:=A.ne o6;have:=A.ne' o6
    have:=A.ne o7;have:=A.ne' o7
    try simp only [k_l1,k_l0,k_za,Nat.reduceAdd]
    first|refine k_A rfl rfl zaR ?_|refine k_B rfl rfl zaR ?_
    try simp only [k_ms,k_sz,k_ss,k_za,Nat.reduceAdd]
    refine k_n ?_;refine GWP.sub [(29,_),(0,_),(4,_),(5,_),(6,_),(7,_),(8,_),(11,_)] ⟨rfl,rfl,rfl,rfl,rfl,rfl,rfl,rfl,trivial⟩ ?_;refine GWP.block ?_;refine GWP.seq ?_;refine GWP.region ?_;refine rC (Calm.fieldAddr zb3 rfl) ?_;refine rC (ld_ zaq rfl) ?_;refine rC (ld_ zaq rfl) ?_;refine rC (vi rfl rfl (zag (zaV _ _) (decide_eq_true q1))) ?_;refine k_m rfl ?_
    first|refine k_q 34 ?_|refine rG 34 (Calm.fieldAddr zb2 rfl) ?_
    first|refine k_q 34 ?_|refine rG 34 (ld_ zaB rfl) ?_
    first|refine k_q 34 ?_|refine rG 34 (ld_ zaB rfl) ?_
    first|refine k_q 34 ?_|refine rG 34 (vi rfl rfl (zag (zaw _ _) (decide_eq_true q2))) ?_
    first|refine k_t rfl rfl ?_|refine k_f rfl rfl ?_
    refine k_n ?_;refine GWP.sub [(29,_),(0,_),(4,_),(5,_),(6,_),(7,_),(8,_),(11,_),(39,_)] ⟨rfl,rfl,rfl,rfl,rfl,rfl,rfl,rfl,rfl,trivial⟩ ?_;refine GWP.condT rfl (by first|rfl|(simp;done)|(simp;omega)) ?_;refine GWP.seq ?_;refine GWP.region ?_;refine rC (Calm.fieldAddr zdy rfl) ?_;refine rC (ld_ zaB rfl) ?_;refine vk rfl rfl zbP rfl own_ zdC rfl ?_
    try simp only [k_ms,k_sz,k_ss,k_za,Nat.reduceAdd]
    refine vk rfl rfl zdl rfl own_ zdC rfl ?_
    try simp only [k_ms,k_sz,k_ss,k_za,Nat.reduceAdd]
    refine k_n ?_;refine GWP.sub [(29,_),(0,_),(4,_),(5,_),(6,_),(7,_),(8,_),(11,_),(39,_)] ⟨rfl,rfl,rfl,rfl,rfl,rfl,rfl,rfl,rfl,trivial⟩ ?_;refine GWP.ret ?_;refine zm3 ?_;exact .inr ⟨rfl,by rw [hv];exact zae⟩
   rw [if_neg λh=>q2 h.1] at hv;refine GWP.region ?_;refine ARun.alloc (zab rfl) zbI ?_;intro aG ae;have A:=ae
   repeat ((with_reducible replace A:=zaa A);obtain ⟨A,_⟩:=A)
   have:=A.ne o4;have:=A.ne' o4
   have:=A.ne o5;have:=A.ne' o5
   have:=A.ne o6;have:=A.ne' o6
   have:=A.ne o7;have:=A.ne' o7
   try simp only [k_l1,k_l0,k_za,Nat.reduceAdd]
   first|refine k_A rfl rfl zaR ?_|refine k_B rfl rfl zaR ?_
   try simp only [k_ms,k_sz,k_ss,k_za,Nat.reduceAdd]
   refine k_n ?_;refine GWP.sub [(29,_),(0,_),(4,_),(5,_),(6,_),(7,_),(8,_),(11,_)] ⟨rfl,rfl,rfl,rfl,rfl,rfl,rfl,rfl,trivial⟩ ?_;refine GWP.block ?_;refine GWP.seq ?_;refine GWP.region ?_;refine rC (Calm.fieldAddr zb3 rfl) ?_;refine rC (ld_ zaq rfl) ?_;refine rC (ld_ zaq rfl) ?_;refine rC (vi rfl rfl (zag (zaV _ _) (decide_eq_true q1))) ?_;refine k_m rfl ?_
   first|refine k_q 34 ?_|refine rG 34 (Calm.fieldAddr zb2 rfl) ?_
   first|refine k_q 34 ?_|refine rG 34 (ld_ zaB rfl) ?_
   first|refine k_q 34 ?_|refine rG 34 (ld_ zaB rfl) ?_
   first|refine k_q 34 ?_|refine rG 34 (vi rfl rfl (zag (zaw _ _) (decide_eq_false q2))) ?_
   first|refine k_t rfl rfl ?_|refine k_f rfl rfl ?_
   refine k_n ?_;refine GWP.sub [(29,_),(0,_),(4,_),(5,_),(6,_),(7,_),(8,_),(11,_),(39,_)] ⟨rfl,rfl,rfl,rfl,rfl,rfl,rfl,rfl,rfl,trivial⟩ ?_;refine GWP.condF rfl (by first|rfl|(simp;done)|(simp;omega)) ?_;refine GWP.skip ?_;refine zhg ?_;exact .inl ⟨rfl,zae,hv⟩
  rw [if_neg λh=>q1 h.2.1] at hv;refine GWP.region ?_;refine ARun.alloc (zab rfl) zbI ?_;intro aG ae;have A:=ae
  repeat ((with_reducible replace A:=zaa A);obtain ⟨A,_⟩:=A)
  have:=A.ne o4;have:=A.ne' o4
  have:=A.ne o5;have:=A.ne' o5
  have:=A.ne o6;have:=A.ne' o6
  have:=A.ne o7;have:=A.ne' o7
  try simp only [k_l1,k_l0,k_za,Nat.reduceAdd]
  first|refine k_A rfl rfl zaR ?_|refine k_B rfl rfl zaR ?_
  try simp only [k_ms,k_sz,k_ss,k_za,Nat.reduceAdd]
  refine k_n ?_;refine GWP.sub [(29,_),(0,_),(4,_),(5,_),(6,_),(7,_),(8,_),(11,_)] ⟨rfl,rfl,rfl,rfl,rfl,rfl,rfl,rfl,trivial⟩ ?_;refine GWP.block ?_;refine GWP.seq ?_;refine GWP.region ?_;refine rC (Calm.fieldAddr zb3 rfl) ?_;refine rC (ld_ zaq rfl) ?_;refine rC (ld_ zaq rfl) ?_;refine rC (vi rfl rfl (zag (zaV _ _) (decide_eq_false q1))) ?_;refine k_m rfl ?_
  first|refine k_q 34 ?_|refine rG 34 (Calm.fieldAddr zb2 rfl) ?_
  first|refine k_q 34 ?_|refine rG 34 (ld_ zaB rfl) ?_
  first|refine k_q 34 ?_|refine rG 34 (ld_ zaB rfl) ?_
  first|refine k_q 34 ?_|refine rG 34 (vi rfl rfl (zaw _ _)) ?_
  first|refine k_t rfl rfl ?_|refine k_f rfl rfl ?_
  refine k_n ?_;refine GWP.sub [(29,_),(0,_),(4,_),(5,_),(6,_),(7,_),(8,_),(11,_),(39,_)] ⟨rfl,rfl,rfl,rfl,rfl,rfl,rfl,rfl,rfl,trivial⟩ ?_;refine GWP.condF rfl (by first|rfl|(simp;done)|(simp;omega)) ?_;refine GWP.skip ?_;refine zhg ?_;exact .inl ⟨rfl,zae,hv⟩
 case done =>
  rintro D T W ⟨hl,hv⟩ al hD hK;rw [hv,hX,aN];refine uK (rs:=[.cell 6 9,.cell 7 24]) (N:=57) rfl (al.less hl) hD hK (hg.sub (show Sub [(0,.pointer (some ⟨p,0,none⟩)),(5,.pointer (some ⟨b5,0,none⟩)),(6,.pointer (some ⟨Y,0,none⟩)),(7,.pointer (some ⟨b7,0,none⟩)),(8,.int .i64 (j:Nat))] _ from ⟨rfl,rfl,rfl,rfl,rfl,trivial⟩)) ?_;have a9:=zcE hR (List.getElem_mem ah);obtain ⟨_,_,aW,be,bb,aZ⟩:=id pE;cases aW;obtain ⟨b,off,rfl,aV⟩:=aZ.resolve_left (λe=>by rw [e] at ah;simp at ah);have an:=aV _ ah;generalize d.ext[j]=ex at *;unfold extF at an;replace an:M0.Knows ⟨b,off+(j:Int).toNat*2+1,none⟩ [.string ex.2]:=by rw [Int.toNat_natCast];exact ziw an 1 rfl
  refine GWP.seq ?_;refine GWP.drawS (M0) zae [i0_,i1_,i2_,i3_,i4_,i5_,i6_,i7_,i8_,i9_,i10_,i11_,i12_,i13_,i14_,o15_,o16_] [] mixed (by kernel_rfl) ?_;refine dP (hc:=λ_=>Calm.move rfl) (h:=?_);refine dP (hc:=λ_=>Calm.nilCheck rfl) (h:=?_);refine dP (hc:=λ_=>Calm.fieldAddr zcs rfl) (h:=?_);refine dP (hc:=λ_=>Calm.fieldAddr zdX rfl) (h:=?_);refine dC (hc:=ld_ zfB rfl) (h:=?_);refine dP (hc:=λ_=>Calm.move rfl) (h:=?_);refine dP (hc:=λ_=>vK underlying28 zay rfl rfl vd vd) (h:=?_);refine dP (hc:=λ_=>Calm.fieldAddr zdx rfl) (h:=?_);refine dC (hc:=ld_ zaB rfl) (h:=?_);refine dC (hc:=ld_ zaq rfl) (h:=?_);refine dP (hc:=λ_=>vi rfl rfl zfw) (h:=?_);refine dC (hc:=ld_ zaq rfl) (h:=?_);refine dP (hc:=λ_=>vi rfl rfl zid) (h:=?_);refine dP (hc:=λ_=>vi rfl rfl zfw) (h:=?_);refine dP (hc:=λ_=>vP (zav zaA) rfl (zb1 _ _ rfl vd vd) (zb1 _ _ rfl vd vd)) (h:=?_);refine zac rfl ?_;refine vk rfl rfl zbP rfl own_ zdC rfl ?_
  try simp only [k_ms,k_sz,k_ss,k_za,Nat.reduceAdd]
  refine zad ⟨ny_,?_⟩;refine zac rfl ?_;refine vk rfl rfl zdl rfl own_ zdC rfl ?_
  try simp only [k_ms,k_sz,k_ss,k_za,Nat.reduceAdd]
  refine zad ⟨ny_,?_⟩;refine zcQ ?_;refine zau ?_;refine GWP.sub [(0,_),(5,_),(6,_),(7,_),(8,_)] ⟨rfl,rfl,rfl,rfl,rfl,trivial⟩ ?_;refine GWP.ret ?_;refine ⟨_,M,⟨_,_,_,rfl,.inl ⟨zaB,rd_⟩,⟨_,_,_,rfl,.inl ⟨zbX,rd_⟩,rfl,rfl⟩,rfl⟩,ad _,?_⟩;exact ⟨rfl,rfl⟩
 case stop =>
  rintro D T W hl al hD hK;exact leaveM (N:=57) (rs:=[.cell 6 9,.cell 7 24]) rfl (al.less hl) hD hK (hg.sub (show Sub [(6,.pointer (some ⟨Y,0,none⟩)),(7,.pointer (some ⟨b7,0,none⟩))] _ from ⟨rfl,rfl,trivial⟩)) ⟨_,M,⟨_,_,_,rfl,.inl ⟨zaB,rd_⟩,⟨_,_,_,rfl,.inl ⟨zbX,rd_⟩,rfl,rfl⟩,rfl⟩,ad _,rfl,rfl⟩
end
section
open Go.RowKit
open Mv Disk
noncomputable def readO (d:D) (s:tt) (k:Int):tt × Int:=if (openD d).2≠0 then (ByteArray.empty,(openD d).2) else readD d s k
noncomputable def placeO (d:D) (s:tt) (k:Int):Int:=if (openD d).2≠0 then (openD d).2 else (placeD d s k).2
theorem znX (d:D) (s:tt) (k:Int):readO d s k=if placeO d s k≠0 then (ByteArray.empty,placeO d s k) else (seen d s k,0):=by
 unfold readO placeO;by_cases q:(openD d).2=0
 ·have A : ¬ ((openD d).2≠0):=by simpa using q
  simp only [if_neg A];exact zcF d s k
 rw [if_pos q,if_pos q,if_pos q]
def nA:tt:=⟨#[97]⟩
def nB:tt:=⟨#[98]⟩
theorem zdK {d:D} (h:Right d) (hd:d.down=false):openD d=(d,0):=by
 rcases zcV d with ⟨C,H⟩ | ⟨C,H,A⟩ | ⟨C,H,A⟩
 ·exact absurd h H
 ·rw [hd] at A;cases A
 exact C
theorem zdb {d:D} (h:Right d) (hd:d.down=false) (f:D × Int):opened d f=f:=by unfold opened;rw [zdK h hd,if_pos rfl]
theorem zhw {d:D} (h:Right d) (U:d.fuse<=9223372036854775807):Dz d:=by
 have X:=zbl h;refine ⟨by have:=h.s0;omega,by have:=h.s1;omega,by have:=h.fu;omega,U,by omega,by have:=h.wl;omega,λx A=>?_,λw J=>?_⟩
 ·have I:=zcE h A;have C:=(h.ex.ok x A).1.2;omega
 obtain ⟨x,A,e,Y,I,C⟩:=h.wr w J;have V:=zcE h A;have H:=(h.ex.ok x A).1.2;rw [e] at H;omega
theorem zqH {f:Ext->Ext} {l:List Ext} (A:∀ x ∈ l,sec (f x)=sec x):used (l.map f)=used l:=by
 induction l with
 | nil=>rfl
 | cons x l C=>simp only [List.map_cons,used];rw [A x (by simp),C (λy H=>A y (by simp [H]))]
theorem zb7 {d:D} (A:Right d) (kp:Nat->Bool) {x:Ext} (C:x ∈ d.ext):(doneX kp d.waits x).2.size=x.2.size:=zfb (kp:=kp) (zfO A C) d.waits.length (Nat.le_refl _)
theorem zcm {d:D} (A:Right d) (kp:Nat->Bool):Right (settleD d kp):=by
 refine ⟨A.s0,A.s1,by unfold settleD;simp,A.fu,⟨λx H=>?_,znO (f:=doneX kp d.waits) (λ_=>rfl) A.ex.asc,?_⟩,λw I=>by unfold settleD at I;cases I⟩
 ·obtain ⟨y,C,rfl⟩:=List.mem_map.1 H;have h:=A.ex.ok y C;exact ⟨h.1,by rw [zb7 A kp C];exact h.2.1,by rw [zb7 A kp C];exact h.2.2⟩
 show ((used (d.ext.map (doneX kp d.waits)):Nat):Int)<=d.size;rw [zqH (λx H=>by unfold sec;rw [zb7 A kp H])];exact A.ex.us
theorem zdp {d:D} (A:Right d) {f:Int} (C : -1<=f) (b:Bool):Right { d with fuse:=f,down:=b }:=⟨A.s0,A.s1,A.wl,C,A.ex,A.wr⟩
theorem zd8 {d:D} {s data:tt} {k:Int} (A:Right d) (H:(placeD d s k).2=0) (hs:data.size=64) (Y:d.waits.length<16384):Right (addW d (s,k,data)):=by
 obtain ⟨J,U,V⟩:=zd6 H;obtain ⟨X,I⟩:=zbw A.ex.asc J;refine ⟨A.s0,A.s1,by rw [zfM];omega,A.fu,A.ex,λw C=>?_⟩;unfold addW at C;rcases List.mem_append.1 C with h | h
 ·exact A.wr w h
 obtain rfl:w=(s,k,data):=by simpa using h
 exact ⟨_,X,I,U,V,hs⟩
theorem zhx {d:D} {s data:tt} {k:Int} (X:d.fuse<=9223372036854775807) (h:(opened d (writeD d s k data)).2=0) :
  Right d/\d.down=false/\(placeD d s k).2=0/\data.size=64/\d.waits.length<16384 /\ ∃ f:Int,-1<=f/\f<=9223372036854775807/\opened d (writeD d s k data)=({ addW d (s,k,data) with fuse:=f },0):=by
 unfold opened at h ⊢;rcases zcV d with ⟨I,C⟩ | ⟨I,C,A⟩ | ⟨I,C,A⟩ <;> rw [I] at h ⊢
 ·simp at h
 ·simp at h
 rw [if_pos rfl] at h ⊢;unfold writeD at h ⊢;by_cases H:(placeD d s k).2≠0
 ·rw [if_pos H] at h;exact absurd h H
 rw [if_neg H] at h ⊢;by_cases U:data.size≠64
 ·rw [if_pos U] at h;simp at h
 rw [if_neg U] at h ⊢;by_cases Y:d.waits.length=16384
 ·rw [if_pos Y] at h;simp at h
 rw [if_neg Y] at h ⊢;have ac:=C.wl;have V:=C.fu;refine ⟨C,A,by simpa using H,by simpa using U,by omega,?_⟩;unfold fuseD at h ⊢;by_cases q3:(addW d (s,k,data)).fuse=0
 ·rw [if_pos q3] at h;simp at h
 rw [if_neg q3] at h ⊢;by_cases J:0<(addW d (s,k,data)).fuse
 ·rw [if_pos J];exact ⟨_,by have:0<d.fuse:=J;show -1<=d.fuse-1;omega,by show d.fuse-1<=_;omega,rfl⟩
 rw [if_neg J];exact ⟨d.fuse,V,X,rfl⟩
theorem zdc {d:D} (A:Right d) (kp:Nat->Bool) (s:tt) (k:Int):(placeD (settleD d kp) s k).2=(placeD d s k).2:=by
 unfold placeD;have e1:(settleD d kp).ext=d.ext.map (doneX kp d.waits):=rfl;rw [e1,zhq (f:=doneX kp d.waits) (λ_=>rfl)];by_cases q:has d.ext s=true
 ·rw [if_pos q,if_pos q,zd5 (f:=doneX kp d.waits) (λ_=>rfl) A.ex.asc q];have hs:sec (doneX kp d.waits (exOf d.ext s))=sec (exOf d.ext s):=by unfold sec;rw [zb7 A kp (zbw A.ex.asc q).1]
  rw [hs];split <;> rfl
 rw [if_neg q,if_neg q]
theorem zcZ {d:D} (A:Right d) (hd:d.down=false) (s:tt) (k:Int):readO d s k=if (placeD d s k).2≠0 then (ByteArray.empty,(placeD d s k).2) else (seen d s k,0):=by
 rw [znX];have e:placeO d s k=(placeD d s k).2:=by unfold placeO;rw [zdK A hd,if_neg (by simp)]
 rw [e]
theorem zbY {l:List Ext} {i:Nat} {x y:Ext}:y ∈ insAt l i x <-> y=x\/y ∈ l:=by
 unfold insAt;rw [List.mem_append,List.mem_cons];constructor
 ·rintro (h | h | h)
  ·exact .inr (List.mem_of_mem_take h)
  ·exact .inl h
  exact .inr (List.mem_of_mem_drop h)
 rintro (h | h)
 ·exact .inr (.inl h)
 rw [<- List.take_append_drop i l] at h;rcases List.mem_append.1 h with h | h
 ·exact .inl h
 exact .inr (.inr h)
theorem zhy (l:List Ext) (i:Nat) (x:Ext):used (insAt l i x)=used l+sec x:=by
 unfold insAt;rw [za_,used];have:used l=used (l.take i)+used (l.drop i):=by rw [<- za_,List.take_append_drop]
 omega
theorem zjO {l:List Ext} {s data:tt} (H:Asc l) (J:has l s=false):Asc (insAt l (pos l s) (s,data)):=by
 unfold Asc insAt;rw [List.pairwise_append];have A:∀ a ∈ l.take (pos l s),lt a.1 s=true:=λa h=>by
  obtain ⟨i,hi,rfl⟩:=List.getElem_of_mem h;rw [List.getElem_take];simp only [List.length_take] at hi;exact zvq vd vd
 have C:∀ b ∈ l.drop (pos l s),lt s b.1=true:=λb h=>by
  obtain ⟨i,hi,rfl⟩:=List.getElem_of_mem h;simp only [List.length_drop] at hi;rw [List.getElem_drop];have I:=zvr (l:=l) (s:=s) vd;have V:lt l[pos l s+i].1 s=false:=by
   rcases Nat.eq_zero_or_pos i with rfl | hp
   ·exact I
   cases U:lt l[pos l s+i].1 s with
   | false=>rfl
   | true=>have:=lt_trans (zdF H (i:=pos l s) (j:=pos l s+i) vd vd) U;rw [I] at this;cases this
  exact zss (zkV.1 J _ (List.getElem_mem _)) V
 refine ⟨List.Pairwise.sublist (List.take_sublist _ _) H,List.pairwise_cons.2 ⟨λb h=>C b h,List.Pairwise.sublist (List.drop_sublist _ _) H⟩,λa h b h'=>?_⟩;rcases List.mem_cons.1 h' with rfl | h'
 ·exact A a h
 exact lt_trans (A a h) (C b h')
theorem zgK {l:List Ext} {s data:tt} {size:Int} (h:ERight l size) (A:has l s=false) (hs:nm s) (C:data.size≠0) (H:data.size % 64=0) {size':Int} (I:(used l:Int)+sec (s,data)<=size'):ERight (insAt l (pos l s) (s,data)) size' :=
 ⟨λx hx=>by rcases zbY.1 hx with rfl | hx;exact ⟨hs,C,H⟩;exact h.ok x hx,zjO h.asc A,by rw [zhy];omega⟩
theorem zqI {l:List Ext} {s data:tt} (C:Asc l) (A:has l s=false):dropE (insAt l (pos l s) (s,data)) s=l:=by
 unfold insAt;have:∀ (a b:List Ext),dropE (a ++ b) s=dropE a s ++ dropE b s:=λa b=>List.filter_append ..;rw [this,zcX rfl,<- this,List.take_append_drop,zgD A]
theorem zjP {d:D} {s:tt} {n:Int} (C:Right d) (I:d.down=false):((newD d s n).2≠0->(newD d s n).1=d)/\((newD d s n).2=0->Right (newD d s n).1/\(newD d s n).1.down=false/\(newD d s n).1.fuse=d.fuse/\(roomD (newD d s n).1)=(d.size-used d.ext-n,0)/\opened (newD d s n).1 (freesD (newD d s n).1 (newD d s n).1 [s])=(d,0)):=by
 unfold newD;by_cases V : ¬ nm s\/n<1
 ·rw [if_pos V];exact ⟨λ_=>rfl,λh=>by simp at h⟩
 rw [if_neg V];have hs:nm s:=by
  by_cases h:nm s
  ·exact h
  exact absurd (.inl h) V
 have ae:1<=n:=by omega
 by_cases X:has d.ext s=true
 ·rw [if_pos X];exact ⟨λ_=>rfl,λh=>by simp at h⟩
 rw [if_neg X];by_cases q3:d.size-used d.ext<n
 ·rw [if_pos q3];exact ⟨λ_=>rfl,λh=>by simp at h⟩
 rw [if_neg q3];refine ⟨λh=>absurd rfl h,λ_=>?_⟩;have J:has d.ext s=false:=by simpa using X
 obtain ⟨m,rfl⟩ : ∃ m:Nat,n=m:=⟨n.toNat,by omega⟩;simp only [Int.toNat_natCast];have U:=zeH m;have H:sec (s,zeros m)=m:=by unfold sec;simp only;rw [U];omega
 have A:Right { d with ext:=insAt d.ext (pos d.ext s) (s,zeros m) }:=⟨C.s0,C.s1,C.wl,C.fu,zgK (size':=d.size) C.ex J hs (by rw [U];omega) (by rw [U];omega) (by rw [H];omega),λw hw=>by
  obtain ⟨x,hx,h⟩:=C.wr w hw;exact ⟨x,zbY.2 (.inr hx),h⟩⟩
 refine ⟨A,I,by trivial,?_,?_⟩
 ·unfold roomD;rw [zdK A I,if_neg (by simp)];simp only [zhy,H];refine Prod.ext ?_ rfl;show d.size-((used d.ext+m:Nat):Int)=d.size-(used d.ext:Int)-(m:Int);omega
 have Y:has (insAt d.ext (pos d.ext s) (s,zeros m)) s=true:=zba.2 ⟨(s,zeros m),zbY.2 (.inl rfl),rfl⟩;rw [zdb A I,zl8,if_pos Y,znM A Y];unfold lessD;simp only [zqI C.ex.asc J,znN C J];rfl
/-! ### Moved -/
theorem zl_ (l:List Ext) (s:tt):used (dropE l s)<=used l:=by
 induction l with
 | nil=>exact Nat.le_refl _
 | cons y l A =>
  by_cases e:y.1=s
  ·rw [zcX e,used];omega
  rw [zd3 e,used,used];omega
theorem zhz {l:List Ext} {s:tt} {x:Ext}:x ∈ dropE l s <-> x ∈ l/\x.1≠s:=by unfold dropE;simp
end
section
namespace Crc

def un (b:BitVec 32):Int:=(b.toNat:Int)
def v32 (x:Int):BitVec 32:=BitVec.ofInt 32 x
theorem zbR (b:BitVec 32):0<=un b:=Int.natCast_nonneg _
theorem zhA (b:BitVec 32):un b<=4294967295:=by have:=b.isLt;unfold un;omega
theorem zcG (b:BitVec 32):v32 (un b)=b:=by simp [v32,un]
theorem zsD {x:Int} (A:0<=x) (C:x<=4294967295):un (v32 x)=x:=by
 obtain ⟨n,rfl⟩:=Int.eq_ofNat_of_zero_le A;simp only [v32,un,BitVec.ofInt_natCast,BitVec.toNat_ofNat];omega
theorem zfd (x y:Int):bits .xor .u32 x y=un (v32 x ^^^ v32 y):=by
 show IntKind.u32.wrap ((v32 x ^^^ v32 y).toNat:Int)=un (v32 x ^^^ v32 y);generalize v32 x ^^^ v32 y=b;have:=b.isLt;rw [IntKind.wrap_u32];unfold un;omega
theorem zdq (x y:Int):bits .and .u32 x y=un (v32 x &&& v32 y):=by
 show IntKind.u32.wrap ((v32 x &&& v32 y).toNat:Int)=un (v32 x &&& v32 y);generalize v32 x &&& v32 y=b;have:=b.isLt;rw [IntKind.wrap_u32];unfold un;omega
theorem ztw (x y:Int):bits .or .u32 x y=un (v32 x ||| v32 y):=by
 show IntKind.u32.wrap ((v32 x ||| v32 y).toNat:Int)=un (v32 x ||| v32 y);generalize v32 x ||| v32 y=b
 have:=b.isLt;rw [IntKind.wrap_u32];unfold un;omega
theorem ztx (a:BitVec 32):un a / (2:Int)=un (a >>> 1):=by
 simp only [un,BitVec.toNat_ushiftRight,Nat.shiftRight_eq_div_pow];omega
theorem zsE (a:BitVec 32):un a / (256:Int)=un (a >>> 8):=by
 simp only [un,BitVec.toNat_ushiftRight,Nat.shiftRight_eq_div_pow];omega
theorem znY (x:Int):v32 (x % 4294967296)=v32 x:=by
 apply BitVec.eq_of_toInt_eq;simp only [v32,BitVec.toInt_ofInt];rw [show ((4294967296:Int))=((2 ^ 32:Nat):Int) from by decide];exact Int.emod_bmod _ _
theorem zty (x:Int):v32 (-x) =-v32 x:=by simp [v32,BitVec.ofInt_neg]
/-! ### One bit, n bits -/
def poly:BitVec 32:=0xedb88320#32
def T (r:BitVec 32):BitVec 32:=(r >>> 1) ^^^ (if r.getLsbD 0 then poly else 0#32)
def Tn:Nat->BitVec 32->BitVec 32
  | 0,r=>r
  | n+1,r=>T (Tn n r)

theorem zw3 (a b:BitVec 32):T (a ^^^ b)=T a ^^^ T b:=by
 unfold T;rw [BitVec.ushiftRight_xor_distrib,BitVec.getLsbD_xor];have e:poly ^^^ poly=0#32:=by decide
 cases a.getLsbD 0 <;> cases b.getLsbD 0 <;> simp
 ·ac_rfl
 ·ac_rfl
 rw [show a >>> 1 ^^^ poly ^^^ (b >>> 1 ^^^ poly)=a >>> 1 ^^^ b >>> 1 ^^^ (poly ^^^ poly) from by ac_rfl,e,BitVec.xor_zero]
theorem zvK (n:Nat) (a b:BitVec 32):Tn n (a ^^^ b)=Tn n a ^^^ Tn n b:=by
 induction n with
 | zero=>rfl
 | succ n A=>simp only [Tn,A,zw3]
theorem zvL (n:Nat) (a:BitVec 32) (h:∀ i,i<n->a.getLsbD i=false):Tn n a=a >>> n:=by
 induction n with
 | zero=>simp [Tn]
 | succ n A =>
  rw [Tn,A (λi hi=>h i vd)];unfold T;rw [BitVec.getLsbD_ushiftRight,h (n+0) vd];simp only [Bool.false_eq_true,if_false,BitVec.xor_zero];rw [<- BitVec.shiftRight_add]

/-! ### A byte -/
def b32 (b:UInt8):BitVec 32:=BitVec.ofNat 32 b.toNat
theorem zqJ (b:UInt8):v32 (b.toNat:Int)=b32 b:=by simp [v32,b32]
theorem zqK (b:UInt8) (i:Nat) (hi:8<=i):(b32 b).getLsbD i=false:=by
 have:=b.toNat_lt;simp only [b32,BitVec.getLsbD_ofNat];rw [Nat.testBit_lt_two_pow (Nat.lt_of_lt_of_le this (Nat.pow_le_pow_right (by decide) hi))];simp
def feed (r:BitVec 32) (b:UInt8):BitVec 32:=Tn 8 (r ^^^ b32 b)
theorem ztz (r:BitVec 32) (b:UInt8):(r >>> 8) ^^^ Tn 8 ((r ^^^ b32 b) &&& 255#32)=feed r b:=by
 have hs:r ^^^ b32 b=((r ^^^ b32 b) &&& 255#32) ^^^ ((r ^^^ b32 b) &&& ~~~255#32):=by
  apply BitVec.eq_of_getLsbD_eq;intro i hi;simp only [BitVec.getLsbD_xor,BitVec.getLsbD_and,BitVec.getLsbD_not,hi,decide_true,Bool.true_and];cases (r.getLsbD i ^^ (b32 b).getLsbD i) <;> cases (255#32).getLsbD i <;> rfl
 unfold feed
 conv=>rhs;rw [hs,zvK]
 rw [zvL 8 ((r ^^^ b32 b) &&& ~~~255#32)]
 ·have:((r ^^^ b32 b) &&& ~~~255#32) >>> 8=r >>> 8:=by
   apply BitVec.eq_of_getLsbD_eq;intro i hi;simp only [BitVec.getLsbD_ushiftRight,BitVec.getLsbD_and,BitVec.getLsbD_xor,BitVec.getLsbD_not,zqK b (8+i) vd];by_cases h:8+i<32
   ·have e:(255#32).getLsbD (8+i)=false:=by
     rw [BitVec.getLsbD_ofNat,show (255:Nat)=2 ^ 8-1 from rfl,Nat.testBit_two_pow_sub_one];simp
    rw [e];simp [h]
   have:r.getLsbD (8+i)=false:=BitVec.getLsbD_of_ge _ _ vd;simp [this]
  rw [this,BitVec.xor_comm]
 intro i hi;simp only [BitVec.getLsbD_and,BitVec.getLsbD_not];have e:(255#32).getLsbD i=true:=by
  rw [BitVec.getLsbD_ofNat,show (255:Nat)=2 ^ 8-1 from rfl,Nat.testBit_two_pow_sub_one];simp;omega
 simp [e]
/-! ### A text -/
def feeds (r:BitVec 32) (l:List UInt8):BitVec 32:=l.foldl feed r
def more (sum:BitVec 32) (l:List UInt8):BitVec 32 := ~~~ (feeds (~~~ sum) l)
def sums (l:List (List UInt8)):BitVec 32:=l.foldl more 0#32
theorem ziy (r:BitVec 32) (a b:List UInt8):feeds r (a ++ b)=feeds (feeds r a) b:=List.foldl_append ..
theorem zma (r:BitVec 32) (a:List UInt8) (b:UInt8):feeds r (a ++ [b])=feed (feeds r a) b:=by rw [ziy];rfl
theorem znZ (l:List (List UInt8)) (x:List UInt8):sums (l ++ [x])=more (sums l) x:=by simp [sums]
/-! ### A sum's bytes -/
def rev (x:BitVec 32):BitVec 32 :=
  let y:=((x >>> 8) &&& 0xff00ff#32) ||| ((x &&& 0xff00ff#32) <<< 8)
  (y >>> 16) ||| (y <<< 16)
theorem zsF (a:BitVec 32) (k:Nat):un a*2 ^ k % (4294967296:Int)=un (a <<< k):=by
 simp only [un,BitVec.toNat_shiftLeft,Nat.shiftLeft_eq];rw [Int.natCast_emod,Int.natCast_mul];simp
theorem zsG (a:BitVec 32) (k:Nat):un a / 2 ^ k=un (a >>> k):=by
 simp only [un,BitVec.toNat_ushiftRight,Nat.shiftRight_eq_div_pow];simp
theorem zvM (a:BitVec 32):un a % (256:Int)=((a.setWidth 8).toNat:Int):=by
 simp only [un,BitVec.toNat_setWidth];omega
theorem rev0 (x:BitVec 32):(rev x >>> 24).setWidth 8=x.setWidth 8:=by
 apply BitVec.eq_of_getLsbD_eq;intro i hi;unfold rev
 match i,hi with
 | 0,_ | 1,_ | 2,_ | 3,_ | 4,_ | 5,_ | 6,_ | 7,_=>simp
theorem rev1 (x:BitVec 32):(rev x >>> 16).setWidth 8=(x >>> 8).setWidth 8:=by
 apply BitVec.eq_of_getLsbD_eq;intro i hi;unfold rev
 match i,hi with
 | 0,_ | 1,_ | 2,_ | 3,_ | 4,_ | 5,_ | 6,_ | 7,_=>simp
theorem rev2 (x:BitVec 32):(rev x >>> 8).setWidth 8=(x >>> 16).setWidth 8:=by
 apply BitVec.eq_of_getLsbD_eq;intro i hi;unfold rev
 match i,hi with
 | 0,_ | 1,_ | 2,_ | 3,_ | 4,_ | 5,_ | 6,_ | 7,_=>simp
theorem rev3 (x:BitVec 32):(rev x).setWidth 8=(x >>> 24).setWidth 8:=by
 apply BitVec.eq_of_getLsbD_eq;intro i hi;unfold rev
 match i,hi with
 | 0,_ | 1,_ | 2,_ | 3,_ | 4,_ | 5,_ | 6,_ | 7,_=>simp
def tailS (b:BitVec 32):tt:=strOfNums [un b % 256,un b / 256 % 256,un b / 65536 % 256,un b / 16777216]
theorem zn0 (b:BitVec 32):strOfNums [un (rev b) / 16777216,un (rev b) / 65536 % 256,un (rev b) / 256 % 256,un (rev b) % 256]=tailS b:=by
 have I:=zbR (rev b);have H:=zbR b;have A:=zhA (rev b);have C:=zhA b
 have e0:=congrArg (λx:BitVec 8=>(x.toNat:Int)) (rev0 b);have e1:=congrArg (λx:BitVec 8=>(x.toNat:Int)) (rev1 b);have e2:=congrArg (λx:BitVec 8=>(x.toNat:Int)) (rev2 b);have e3:=congrArg (λx:BitVec 8=>(x.toNat:Int)) (rev3 b);simp only [<- zvM,<- zsG] at e0 e1 e2 e3;unfold tailS;congr 1;simp only [List.cons.injEq,and_true];omega
theorem zbZ (b:BitVec 32):(tailS b).size=4:=rfl
end Crc
end
section
open Go.RowKit
open Crc (un v32 Tn)


namespace Crc
theorem zqL (r:BitVec 32):bits .xor .u32 (un r / 2) (bits .and .u32 3988292384 (-bits .and .u32 (un r) 1 % 4294967296))=un (T r):=by
 rw [ztx,zdq (un r) 1,zcG,zdq,znY,zty,zcG,zfd,zcG,zcG];congr 1;unfold T;congr 1;have e1:v32 1=1#32:=rfl;have e2:v32 3988292384=poly:=rfl;rw [e1,e2];have h:r &&& 1#32=if r.getLsbD 0 then 1#32 else 0#32:=by
  apply BitVec.eq_of_getLsbD_eq;intro i hi;rw [BitVec.getLsbD_and];cases i with
  | zero=>cases r.getLsbD 0 <;> simp
  | succ i =>
   have:(1#32).getLsbD (i+1)=false:=(by simp [BitVec.getLsbD_one]);rw [this];cases r.getLsbD 0 <;> simp
 rw [h];cases r.getLsbD 0 <;> decide
end Crc

theorem zqM (r:Int) (H:0<=r) (I:r<=4294967295) (w:tv) :
  Calls prog 255 #[.int .u32 r] w λe w'=>e = .returned (.int .u32 (un (Tn 8 (v32 r))))/\w=w':=by
 go_enter func255,ntmps255
 go_wp2
 go_loop [0,3] (λJ v3=>∃ (k:Int) (j:Nat),0<=k/\k<=4294967295/\j<=8/\J = .int .u32 k/\v3 = .int .i64 j/\Hid (k=un (Tn j (v32 r)))) (λ_ v3=>8-(intOf v3).toNat)
 case atStart=>exact ⟨r,0,H,I,by omega,rfl,rfl,(Crc.zsD H I).symm⟩
 case round =>
  obtain ⟨k,j,X,V,Y,rfl,rfl,C⟩:=hrel;by_cases U:j<8
  ·go_wp2
   go_round
   case rel =>
    have A:=C.out;refine ⟨un (Tn (j+1) (v32 r)),j+1,Crc.zbR _,Crc.zhA _,by omega,?_,by go_num,rfl⟩;rw [A];exact val_int (Crc.zqL _)
   case measure=>simp [intOf];omega
  go_wp2
  go_ret
  have e:j=8:=by omega
  subst e;exact ⟨ret_int C.out,rfl⟩

namespace Crc
theorem zmb (r:BitVec 32) (s:tt) (k:Nat) (h:k<s.size):feeds r (s.data.toList.take (k+1))=feed (feeds r (s.data.toList.take k)) s[k]:=by
 rw [take_snoc s k h,zma]
theorem zqN (r:BitVec 32) (b:UInt8):bits .xor .u32 (un r / 256) (un (Tn 8 (v32 (bits .and .u32 (bits .xor .u32 (un r) ((b.toNat:Int) % 4294967296)) 255))))=un (feed r b):=by
 rw [zsE,zfd (un r),zcG,znY,zqJ,zdq,zcG,zcG,zfd,zcG,zcG];congr 1;exact ztz r b
theorem zn1 (r:Int):bits .xor .u32 IntKind.u32.max r=un (~~~ v32 r):=by
 rw [zfd,show v32 IntKind.u32.max=BitVec.allOnes 32 from by decide,BitVec.allOnes_xor]
end Crc

theorem zqO (r:Int) (s:tt) (hs:s.size<=maxLen) (X:0<=r) (Y:r<=4294967295) (w:tv) :
  Calls prog 220 #[.int .u32 r,.string s] w λe w'=>e = .returned (.int .u32 (un (Crc.more (v32 r) s.data.toList)))/\w=w':=by
 unfold maxLen at hs
 go_enter func220,ntmps220
 go_wp2
 go_loop [5,11] (λv5 A=>∃ (k:Int) (j:Nat),0<=k/\k<=4294967295/\j<=s.size/\v5 = .int .u32 k/\A = .int .i64 j/\Hid (k=un (Crc.feeds (~~~ v32 r) (s.data.toList.take j)))) (λ_ A=>s.size-(intOf A).toNat)
 case atStart=>exact ⟨_,0,Crc.zbR _,Crc.zhA _,by omega,val_int (Crc.zn1 r),rfl,rfl⟩
 case round =>
  obtain ⟨k,j,U,J,V,rfl,rfl,I⟩:=hrel;by_cases H:j<s.size
  ·go_wp2_with (go_at_call 255;refine (zqM _ (by rw [Crc.zdq];exact Crc.zbR _) (by rw [Crc.zdq];exact Crc.zhA _) _).mono ?_;rintro e w' ⟨rfl,rfl⟩)
   go_round
   case rel =>
    have C:=I.out;refine ⟨_,j+1,Crc.zbR _,Crc.zhA _,by omega,?_,by go_num,Lib.hid (by rw [Crc.zmb _ s j H])⟩;rw [C];exact val_int (Crc.zqN _ _)
   case measure=>simp [intOf];omega
  go_wp2
  go_ret
  have e:j=s.size:=by omega
  subst e;refine ⟨ret_int ?_,rfl⟩;rw [I.out,take_all,Crc.zn1,Crc.zcG];rfl

namespace Crc
end Crc

namespace Crc
end Crc

end
section
open Go.RowKit
open Crc (un v32 Tn)

/-! ### Texts in a row -/
def lists (ss:List tt):List (List UInt8):=ss.map λs=>s.data.toList
theorem zmc (A:List tt) (j:Nat) (h:j<A.length):lists (A.take (j+1))=lists (A.take j) ++ [(strAt A j).data.toList]:=by
 unfold lists;rw [List.take_succ_eq_append_getElem h,List.map_append];simp [strAt,List.getD,List.getElem?_eq_getElem h]
theorem ztA (a:Option Addr) (n m:Nat) (C:List tt) (w:tv) (h:IsStrs w a n C) :
  Calls prog 160 #[.slice a n m] w λe w'=>e = .returned (.int .u32 (un (Crc.sums (lists C))))/\w=w':=by
 obtain ⟨H,hm,hc,hs⟩:=h;unfold maxLen at hm
 go_enter func160,ntmps160
 go_wp2
 go_loop [3,8] (λv3 U=>∃ (k:Int) (j:Nat),0<=k/\k<=4294967295/\j<=n/\v3 = .int .u32 k/\U = .int .i64 j/\Hid (k=un (Crc.sums (lists (C.take j))))) (λ_ U=>n-(intOf U).toNat)
 case atStart=>exact ⟨0,0,by omega,by omega,by omega,rfl,rfl,Lib.hid rfl⟩
 case round =>
  obtain ⟨k,j,aa,X,hj,rfl,rfl,hk⟩:=hrel;by_cases A:j<n
  ·rcases hc with hc | ⟨b,off,rfl,hc⟩
   ·omega
   have Y:=hc j A;have I:=strAt_size C j vd hs;have J:=Lib.hid H;clear H hc
   go_wp2_with (go_at_call 220;refine (zqO _ _ I aa X _).mono ?_;rintro e w' ⟨rfl,rfl⟩)
   go_round
   case rel =>
    have V:=hk.out;refine ⟨_,j+1,Crc.zbR _,Crc.zhA _,by omega,rfl,by go_num,Lib.hid ?_⟩;rw [zmc C j (by rw [J.out];exact A),Crc.znZ,V,Crc.zcG]
   case measure=>simp [intOf];omega
  have J:=Lib.hid H;clear H hc
  go_wp2
  go_ret
  have e:j=n:=by omega
  subst e;refine ⟨ret_int ?_,rfl⟩;rw [hk.out,List.take_of_length_le (by rw [J.out];exact Nat.le_refl _)]

/-! ### A sum's bytes -/
theorem zqP (r:Int) (A:0<=r) (C:r<=4294967295) (w:tv) :
  Calls prog 219 #[.int .u32 r] w λe w'=>e = .returned (.int .u32 (un (Crc.rev (v32 r))))/\w=w':=by
 go_enter func219,ntmps219
 go_wp2_with fail
 go_ret
 refine ⟨ret_int ?_,rfl⟩;obtain ⟨b,rfl⟩ : ∃ b,r=un b:=⟨v32 r,(Crc.zsD A C).symm⟩;have e1:=λb=>Crc.zsF b 8;have e2:=λb=>Crc.zsF b 16;have e3:=λb=>Crc.zsG b 16;simp only [Int.reducePow] at e1 e2 e3;simp only [Crc.zsE,Crc.zdq,e1,e2,e3,Crc.ztw,Crc.zcG];rfl


theorem zw4 (w:tv) (x0 C A H:Int) :
  (convert 57 9 (.slice (some ⟨w.heap.size,0,none⟩) 4 4)).run prog (w.alloc (.cells #[.int .u8 x0,.int .u8 C,.int .u8 A,.int .u8 H] 5)) =
   .ok (.string (strOfNums [x0,C,A,H])) (w.alloc (.cells #[.int .u8 x0,.int .u8 C,.int .u8 A,.int .u8 H] 5)):=by
 refine run_convert_bytes_arg _ 57 5 underlying57 underlying5 w.heap.size 0 4 4 [x0,C,A,H] rfl (λi hi=>?_) 9 underlying9
 match i,hi with
 | 0,_ | 1,_ | 2,_ | 3,_=>simp [go_sem]
theorem zqQ (r:Int) (H:0<=r) (J:r<=4294967295) (w:tv) :
  Calls prog 159 #[.int .u32 r] w λe w'=>e = .returned (.string (Crc.tailS (v32 r)))/\Below w.heap.size w w':=by
 have U:=λw x0 A I C=>zw4 w x0 A I C
 go_enter func159,ntmps159
 have V:=Crc.zbR (Crc.rev (v32 r));have X:=Crc.zhA (Crc.rev (v32 r))
 go_wp2_with (go_at_call 219;refine (zqP r H J _).mono ?_;rintro e w' ⟨rfl,rfl⟩)
 go_ret
 exact ⟨by rw [<- Crc.zn0];rfl,(Below.refl _ _).alloc (Nat.le_refl _) _⟩

theorem ziz (b:BitVec 32) (w:tv):Calls prog 159 #[.int .u32 (un b)] w λe w'=>e = .returned (.string (Crc.tailS b))/\Below w.heap.size w w':=by
 have h:=zqQ (un b) (Crc.zbR _) (Crc.zhA _) w;rwa [Crc.zcG] at h
def sumOf (s:tt):BitVec 32:=Crc.more 0#32 s.data.toList
theorem zkX (b off n m:Nat) (s:tt) (W:tv) (A:n=1) (hs:s.size<=maxLen) (h:W.cell? ⟨b,off,none⟩=some (.string s)) :
  Calls prog 160 #[.slice (some ⟨b,off,none⟩) n m] W λe w'=>e = .returned (.int .u32 (un (sumOf s)))/\W=w':=by
 subst A;exact ztA _ _ _ [s] _ (isStrs_one _ _ _ _ hs h)
def frameS (s:tt):tt × Int:=if 65536<s.size then (ByteArray.empty,1) else (s ++ Crc.tailS (sumOf s),0)
def body (f:tt):tt:=f.extract 0 (f.size-4)
def tailOf (f:tt):tt:=f.extract (f.size-4) f.size
def fits (f:tt):Bool:=(Crc.tailS (sumOf (body f))).toList == (tailOf f).toList
def openS (f:tt):tt × Int :=
  if f.size<4 then (ByteArray.empty,5) else if 65540<f.size then (ByteArray.empty,1) else if fits f then (body f,0) else (ByteArray.empty,6)

theorem zn2 (s:tt) (hs:s.size<=maxLen) (w:tv) :
  Calls prog 104 #[.string s] w λe w'=>e = .returned (.tuple #[.string (frameS s).1,.int .i64 (frameS s).2])/\Below w.heap.size w w':=by
 have A:=hs;unfold maxLen at A;by_cases C:65536<s.size
 ·go_enter func104,ntmps104
  go_wp2_with fail
  go_ret2
  exact ⟨by simp only [frameS,if_pos C];rfl,Below.refl _ _⟩
 have q:=Nat.le_of_eq (Crc.zbZ (sumOf s))
 go_enter func104,ntmps104
 go_wp2_with (first | (go_at_call 160;refine (zkX _ _ _ _ _ _ rfl hs (by simp [go_sem])).mono ?_;rintro e w' ⟨rfl,rfl⟩) | (go_at_call 159;refine (ziz _ _).mono ?_;rintro e w' ⟨rfl,H⟩))
 go_ret2
 exact ⟨by simp only [frameS,if_neg C];rfl,below_call ((Below.refl _ _).alloc (Nat.le_refl _) _) H (by simp)⟩

end
section
open Go.RowKit
open Crc (un v32 Tn)

theorem zqR (s:tt) (hs:s.size<=maxLen) (w:tv) :
  Calls prog 187 #[.string s] w λe w'=>e = .returned (.tuple #[.string (openS s).1,.int .i64 (openS s).2])/\Below w.heap.size w w':=by
 have C:=hs;unfold maxLen at C;by_cases H:s.size<4
 ·go_enter func187,ntmps187
  go_wp2_with fail
  go_ret2
  exact ⟨by simp only [openS,if_pos H];rfl,Below.refl _ _⟩
 by_cases A:65540<s.size
 ·go_enter func187,ntmps187
  go_wp2_with fail
  go_ret2
  exact ⟨by simp only [openS,if_neg H,if_pos A];rfl,Below.refl _ _⟩
 have Y:(0:Int)<=(s.size:Int)-4:=by omega
 have q2:(s.size:Int)-4<=(s.size:Int):=by omega
 have q3:((s.size:Int)-4).toNat=s.size-4:=by omega
 have X:(4:Int)<=(s.size:Int):=by omega
 have V:(s.extract 0 (s.size-4)).size<=maxLen:=by rw [ByteArray.size_extract];unfold maxLen;omega
 have q6:IntKind.i64.wrap ((s.size:Int)-4)=(s.size:Int)-4:=IntWalk.i64_in _ vd;by_cases J:fits s=true
 all_goals
  have I:=J;simp only [fits,body,tailOf,Bool.not_eq_true] at I
  go_enter func187,ntmps187
  go_wp2_with fail
  go_region_held3 (λ_=>True) (trivial) (first | (go_at_call 160;go_must (refine (zkX _ _ _ _ _ _ rfl V (by simp [go_sem])).mono ?_);rintro e w' ⟨rfl,rfl⟩) | (go_at_call 159;refine (ziz _ _).mono ?_;rintro e w' ⟨rfl,U⟩))
  go_wp2_with fail
  go_ret2
  exact ⟨by simp only [openS,if_neg H,if_neg A,J];rfl,below_call (((Below.refl _ _).alloc (Nat.le_refl _) _).drew) U (by simp)⟩

end
section
/-! ### Operators on natural numbers -/
theorem zqS (a b:Nat) (C:a<18446744073709551616) (A:b<18446744073709551616):bits .or .u64 (a:Int) (b:Int)=((a ||| b:Nat):Int):=by
 have h:a ||| b<2 ^ 64:=Nat.or_lt_two_pow vd vd
 show IntKind.u64.wrap (((BitVec.ofInt 64 (a:Int)) ||| (BitVec.ofInt 64 (b:Int))).toNat:Int)=_;rw [BitVec.ofInt_natCast,BitVec.ofInt_natCast,BitVec.toNat_or,BitVec.toNat_ofNat,BitVec.toNat_ofNat,Nat.mod_eq_of_lt vd,Nat.mod_eq_of_lt vd];exact IntWalk.u64_in _ vd
theorem zjQ (q y k:Nat) (A:y<2 ^ k):y ||| q*2 ^ k=q*2 ^ k+y:=by
 rw [Nat.or_comm,Nat.mul_comm q,Nat.two_pow_add_eq_or_of_lt A]
theorem zfQ (s:tt):s.size=s.data.toList.length:=(Array.length_toList (xs:=s.data)).symm
theorem zsH (x:Nat):IntKind.u8.wrap (x:Int)=nb (UInt8.ofNat x):=by
 rw [IntKind.wrap_u8];unfold nb;rw [UInt8.toNat_ofNat'];omega
namespace Num
abbrev top:Nat:=1099511627776
def five (n:Nat):List UInt8:=[UInt8.ofNat (n / 4294967296),UInt8.ofNat (n / 16777216),UInt8.ofNat (n / 65536),UInt8.ofNat (n / 256),UInt8.ofNat n]
theorem zc0 (n:Nat):(five n).length=5:=rfl
def ofB (l:List UInt8):Nat:=l.foldl (λa b=>256*a+b.toNat) 0
theorem zqT (l:List UInt8) (c:UInt8):ofB (l ++ [c])=256*ofB l+c.toNat:=by simp [ofB]
theorem zkY (l:List UInt8) (k:Nat) (h:k<l.length):ofB (l.take (k+1))=256*ofB (l.take k)+(at8 l k).toNat:=by
 rw [List.take_succ_eq_append_getElem h,zqT,at8_get _ _ h]
theorem ztB (l:List UInt8) (a:Nat):l.foldl (λa b=>256*a+b.toNat) a<(a+1)*256 ^ l.length:=by
 induction l generalizing a with
 | nil=>simp
 | cons c l A =>
  have:=A (256*a+c.toNat);have hc:=c.toNat_lt;rw [List.foldl_cons,List.length_cons,Nat.pow_succ,Nat.mul_comm (256 ^ l.length) 256,<- Nat.mul_assoc];exact Nat.lt_of_lt_of_le this (Nat.mul_le_mul_right _ vd)
theorem zsI (l:List UInt8):ofB l<256 ^ l.length:=by have:=ztB l 0;simpa [ofB] using this
theorem ztC (l:List UInt8) (h:l.length<=4):ofB l<4294967296:=by
 have A:=zsI l;have C:256 ^ l.length<=256 ^ 4:=Nat.pow_le_pow_right (by decide) h;omega
theorem ziA (l:List UInt8) (k:Nat) (h:k<=4):ofB (l.take k)<4294967296:=ztC _ (by rw [List.length_take];omega)
theorem zhB (n:Nat) (h:n<top):ofB (five n)=n:=by
 simp only [ofB,five,List.foldl_cons,List.foldl_nil,UInt8.toNat_ofNat'];unfold top at h;omega
def two (s:tt) (e:Int):tu:=.tuple #[.string s,.int .i64 e]
def recB (l:List Nat):List UInt8:=l.flatMap five
theorem za2 (l:List Nat):(recB l).length=5*l.length:=by
 induction l with
 | nil=>rfl
 | cons x l A=>simp only [recB,List.flatMap_cons,List.length_append,zc0,List.length_cons] at A ⊢;omega
theorem ziB (l:List Nat) (x:Nat):recB (l ++ [x])=recB l ++ five x:=by simp [recB]
def recOK (l:List Nat):Bool:=1<=l.length && l.length<=8 && l.all (·<top)
def recP (l:List Nat):tt × Int:=if recOK l then (bs (recB l),0) else (ByteArray.empty,1)
def pairV (p:tt × Int):tu:=two p.1 p.2
def nrow (l:List UInt8) (w p:Nat):List Nat:=(List.range w).map λk=>ofB ((l.drop (p+5*k)).take 5)
def rowsTo (l:List UInt8) (w n:Nat):List (List Nat):=(List.range n).map λi=>nrow l w (i*(5*w))
def rowsOf (l:List UInt8) (w:Nat):List (List Nat):=rowsTo l w (l.length / (5*w))
theorem zjR (l:List UInt8) (w n:Nat):rowsTo l w (n+1)=rowsTo l w n ++ [nrow l w (n*(5*w))]:=by simp [rowsTo,List.range_succ]
def splitE (s:tt) (w:Int):Int:=if w<1\/8<w then 1 else if s.size % (5*w.toNat)≠0 then 5 else 0
def splitL (s:tt) (w:Int):List (List Nat):=if splitE s w=0 then rowsOf s.data.toList w.toNat else []
def lessB:List Nat->List Nat->Bool
  | _,[]=>false
  | [],_ :: _=>true
  | x :: a,y :: b=>decide (x<y) || (decide (x=y) && lessB a b)
def cmpB:List Nat->List Nat->Int
  | [],[]=>0
  | _ :: _,[]=>1
  | [],_ :: _=>-1
  | x :: a,y :: b=>if x<y then -1 else if y<x then 1 else cmpB a b
theorem zhC (a b:List Nat):decide (cmpB a b<0)=lessB a b:=by
 induction a generalizing b with
 | nil=>cases b <;> rfl
 | cons x a C =>
  cases b with
  | nil=>rfl
  | cons y b =>
   simp only [cmpB,lessB];by_cases A:x<y
   ·simp [A]
   by_cases H:y<x
   ·simp [A,H];omega
   obtain rfl:x=y:=(by omega);simp [C]
theorem zaD (a:List Nat):lessB a a=false:=by
 induction a with
 | nil=>rfl
 | cons x a A=>simp [lessB,A]
theorem zjS (a b:List Nat) (h:lessB a b=true):lessB b a=false:=by
 induction a generalizing b with
 | nil=>cases b <;> simp_all [lessB]
 | cons x a A =>
  cases b with
  | nil=>simp [lessB] at h
  | cons y b =>
   simp only [lessB,Bool.or_eq_true,decide_eq_true_eq,Bool.and_eq_true] at h;rcases h with h | ⟨C,H⟩
   ·simp only [lessB,Bool.or_eq_false_iff,decide_eq_false_iff_not,Bool.and_eq_false_iff];exact ⟨by omega,.inl vd⟩
   subst C;simp [lessB,A b H]
theorem za3 (a b:List Nat) (A:lessB a b=false) (C:lessB b a=false):a=b:=by
 induction a generalizing b with
 | nil=>cases b with
  | nil=>rfl
  | cons y b=>simp [lessB] at A
 | cons x a H =>
  cases b with
  | nil=>simp [lessB] at C
  | cons y b =>
   simp only [lessB,Bool.or_eq_false_iff,decide_eq_false_iff_not,Bool.and_eq_false_iff] at A C;obtain rfl:x=y:=(by omega);rw [H b (A.2.resolve_left (by simp)) (C.2.resolve_left (by simp))]
end Num
end
section
open Go.RowKit
open Mv Disk Num
namespace Rec
def eachN (w:Nat):Nat:=if w=0 then 1 else 5*w
def needN (w c:Nat):Nat:=1+(eachN w*c+63) / 64
def needP (w:Int) (c:Nat):Int × Int:=if w<0\/8<w\/65536<c then (0,1) else ((needN w.toNat c:Nat),0)
def padS (s:tt):tt:=bs (s.data.toList ++ List.replicate ((64-s.size % 64) % 64) 0)
def preS (w c:Nat):tt:=bs ([87,82,UInt8.ofNat w] ++ five c)
def headS (w c:Nat):tt:=padS (preS w c ++ Crc.tailS (sumOf (preS w c)))
def secAt (s:tt) (i:Nat):tt:=s.extract (64*i) (64*i+64)
noncomputable def refD (d:D):D × Int:=((openD d).1,1)
noncomputable def putTo (d:D) (s all:tt):Nat->D × Int
  | 0=>(d,0)
  | k+1=>if (putTo d s all k).2=0 then writeD (putTo d s all k).1 s ((k+1:Nat):Int) (secAt all k) else putTo d s all k
noncomputable def sealD (d:D) (s h:tt):D × Int :=
  if (writeD (settleD d λ_=>true) s 0 h).2=0 then (settleD (writeD (settleD d λ_=>true) s 0 h).1 λ_=>true,0) else writeD (settleD d λ_=>true) s 0 h
noncomputable def putP (d:D) (s:tt) (w c:Nat) (body:tt):D × Int :=
  if (newD d s (needN w c:Nat)).2≠0 then newD d s (needN w c:Nat) else
  if (putTo (newD d s (needN w c:Nat)).1 s (padS body) (needN w c-1)).2≠0 then putTo (newD d s (needN w c:Nat)).1 s (padS body) (needN w c-1) else
  sealD (putTo (newD d s (needN w c:Nat)).1 s (padS body) (needN w c-1)).1 s (headS w c)
def rowOK (w:Nat) (x:List Nat):Bool:=recOK x && decide (x.length=w)
noncomputable def writeP (d:D) (s:tt) (w:Int) (l:List (List Nat)):D × Int :=
  if w<1\/8<w\/65536<l.length then refD d else
  if l.all (rowOK w.toNat)=true then opened d (putP d s w.toNat l.length (bs (l.flatMap recB))) else refD d
def zeroL (l:List UInt8):Bool:=l.all λb=>b == 0
def formP (s:tt):Nat × Nat × Int :=
  if s.data.toList.take 2 ≠ [87,82]\/8<(s.data.toList.getD 2 0).toNat\/zeroL (s.data.toList.drop 12)=false then (0,0,2) else
  if (openS (s.extract 0 12)).2≠0 then (0,0,(openS (s.extract 0 12)).2) else ((s.data.toList.getD 2 0).toNat,ofB ((s.data.toList.drop 3).take 5),0)
noncomputable def headP (d:D) (s:tt):Nat × Nat × Int :=
  if (readO d s 0).2≠0 then (0,0,(readO d s 0).2) else
  if (formP (readO d s 0).1).2.2≠0 then (0,0,(formP (readO d s 0).1).2.2) else
  if (needP (formP (readO d s 0).1).1 (formP (readO d s 0).1).2.1).2≠0\/(sectorsD d s).1≠(needN (formP (readO d s 0).1).1 (formP (readO d s 0).1).2.1:Nat) then (0,0,2) else
  formP (readO d s 0).1
noncomputable def bodyL (d:D) (s:tt):Nat->List UInt8
  | 0=>[]
  | k+1=>bodyL d s k ++ (readO d s ((k+1:Nat):Int)).1.data.toList
noncomputable def bodyP (d:D) (s:tt) (text:Bool):Nat × tt × Int :=
  if (headP d s).2.2≠0 then (0,ByteArray.empty,(headP d s).2.2) else
  if text≠decide ((headP d s).1=0) then (0,ByteArray.empty,7) else
  if zeroL ((bodyL d s (needN (headP d s).1 (headP d s).2.1-1)).drop (eachN (headP d s).1*(headP d s).2.1))=false then (0,ByteArray.empty,7) else
  ((headP d s).1,bs ((bodyL d s (needN (headP d s).1 (headP d s).2.1-1)).take (eachN (headP d s).1*(headP d s).2.1)),0)
/-! ### What stays -/
theorem zgL {d:D} (C:Right d) (A:d.down=false) (H:d.fuse<=9223372036854775807) (s y:tt) (k:Int) :
  Right (writeD d s k y).1/\(writeD d s k y).1.fuse<=9223372036854775807/\((writeD d s k y).2=0->(writeD d s k y).1.down=false):=by
 unfold writeD;by_cases V:(placeD d s k).2≠0
 ·rw [if_pos V];exact ⟨C,H,λ_=>A⟩
 rw [if_neg V];by_cases U:y.size≠64
 ·rw [if_pos U];exact ⟨C,H,λ_=>A⟩
 rw [if_neg U];by_cases X:d.waits.length=16384
 ·rw [if_pos X];exact ⟨C,H,λ_=>A⟩
 rw [if_neg X];have aa:=C.wl;have ac:=C.fu;have J:=zd8 (data:=y) C (by simpa using V) (by simpa using U) vd;unfold fuseD;by_cases Y:(addW d (s,k,y)).fuse=0
 ·rw [if_pos Y];exact ⟨zdp J (by show -1<=d.fuse;omega) true,H,λh=>by simp at h⟩
 rw [if_neg Y];by_cases I:0<(addW d (s,k,y)).fuse
 ·rw [if_pos I];exact ⟨zdp J (by have:0<d.fuse:=I;show -1<=d.fuse-1;omega) _,by show d.fuse-1<=_;omega,λ_=>A⟩
 rw [if_neg I];exact ⟨J,H,λ_=>A⟩
theorem zcH {d:D} (H:Right d) (C:d.down=false) (I:d.fuse<=9223372036854775807) (s all:tt) (k:Nat) :
  Right (putTo d s all k).1/\(putTo d s all k).1.fuse<=9223372036854775807/\((putTo d s all k).2=0->(putTo d s all k).1.down=false):=by
 induction k with
 | zero=>exact ⟨H,I,λ_=>C⟩
 | succ k A =>
  unfold putTo;by_cases h:(putTo d s all k).2=0
  ·rw [if_pos h];exact zgL A.1 (A.2.2 h) A.2.1 _ _ _
  rw [if_neg h];exact A
theorem zjT {d:D} {s all:tt} {k:Nat} (h:(putTo d s all k).2≠0):∀ n,k<=n->putTo d s all n=putTo d s all k:=by
 intro n C
 induction n with
 | zero=>(obtain rfl:k=0:=by omega);rfl
 | succ n A =>
  rcases Nat.lt_or_ge k (n+1) with h' | h'
  ·have:=A vd;rw [putTo,this,if_neg h]
  rw [show k=n+1 by omega]
theorem zdd (s:tt):(padS s).size=64*((s.size+63) / 64):=by
 unfold padS;rw [zaJ,List.length_append,List.length_replicate,zfQ];omega
theorem zgM {s:tt} {i:Nat} (h:64*i+64<=s.size):(secAt s i).size=64:=by
 unfold secAt;rw [ByteArray.size_extract];omega
theorem za7 (w c:Nat):1<=needN w c:=by unfold needN;omega
theorem zfe {w:Nat} (h:w<=8):eachN w<=40:=by unfold eachN;split <;> omega
theorem zhD {w c:Nat} (h:w<=8) (hc:c<=65536):needN w c<=40961:=by
 have A:=Nat.mul_le_mul (zfe h) hc;unfold needN;omega
end Rec
end
section
namespace Num
theorem zn3 {l:List Nat} (h:recOK l=true):1<=l.length/\l.length<=8 /\ ∀ x ∈ l,x<top:=by
 unfold recOK at h;simp only [Bool.and_eq_true,decide_eq_true_eq,List.all_eq_true] at h;exact ⟨h.1.1,h.1.2,h.2⟩
theorem zqU (p:List UInt8) (x:List Nat) (q:List UInt8) (H:∀ n ∈ x,n<top):nrow (p ++ recB x ++ q) x.length p.length=x:=by
 apply List.ext_getElem
 ·simp [nrow]
 intro i J A;simp only [nrow,List.getElem_map,List.getElem_range];have:(p ++ recB x ++ q).drop (p.length+5*i)=five x[i] ++ ((recB x).drop (5*i+5) ++ q):=by
  rw [List.append_assoc,List.drop_append,List.drop_of_length_le vd,List.nil_append,show p.length+5*i-p.length=5*i from by omega];have hd:∀ (x:List Nat) (i:Nat) (h:i<x.length),(recB x).drop (5*i)=five x[i] ++ (recB x).drop (5*i+5):=by
   intro x
   induction x with
   | nil=>intro i h;simp at h
   | cons a x C =>
    intro i h;cases i with
    | zero=>simp [recB,five]
    | succ i =>
     have hi:=C i (by simpa using h);simp only [recB,List.flatMap_cons] at hi ⊢;rw [show 5*(i+1)=5+5*i from by omega,<- List.drop_drop,show 5+5*i+5=5+(5*i+5) from by omega,<- List.drop_drop (i:=5*i+5) (j:=5)];simp only [List.getElem_cons_succ];have I:(five a ++ List.flatMap five x).drop 5=List.flatMap five x:=(by rw [List.drop_append_of_le_length (by simp [five])];simp [five]);rw [I];exact hi
  rw [List.drop_append_of_le_length (by rw [za2];omega),hd x i A,List.append_assoc]
 rw [this,List.take_append_of_le_length (by simp [five]),List.take_of_length_le (by simp [five]),zhB _ (H _ (List.getElem_mem _))]
def recsB (l:List (List Nat)):List UInt8:=l.flatMap recB
theorem zbL (l:List (List Nat)) (w:Nat) (h:∀ x ∈ l,x.length=w):(recsB l).length=l.length*(5*w):=by
 induction l with
 | nil=>simp [recsB]
 | cons x l A =>
  have H:=h x (by simp);simp only [recsB,List.flatMap_cons,List.length_append,za2,List.length_cons] at A ⊢;rw [A (λy C=>h y (by simp [C])),H,Nat.add_mul l.length 1];omega
theorem zn4 (l:List (List Nat)) (w:Nat) (C:∀ x ∈ l,x.length=w) (A:∀ x ∈ l,∀ n ∈ x,n<top):rowsTo (recsB l) w l.length=l:=by
 apply List.ext_getElem
 ·simp [rowsTo]
 intro i J I;simp only [rowsTo,List.getElem_map,List.getElem_range];have hs:recsB l=recsB (l.take i) ++ recB l[i] ++ recsB (l.drop (i+1)):=by
  simp only [recsB];rw [List.append_assoc,<- List.flatMap_cons,<- List.drop_eq_getElem_cons I,<- List.flatMap_append,List.take_append_drop]
 have H:(recsB (l.take i)).length=i*(5*w):=by
  rw [zbL _ w (λx A=>C x (List.mem_of_mem_take A)),List.length_take,Nat.min_eq_left vd]
 have:=zqU (recsB (l.take i)) l[i] (recsB (l.drop (i+1))) (A _ (List.getElem_mem _));rw [C _ (List.getElem_mem _),H,<- hs] at this;exact this
end Num
end
section
open Go.RowKit
open Crc (un v32 Tn)

theorem zn5 {a b:tt} (h:a.data.toList=b.data.toList):a=b:=by rw [<- bs_of a,<- bs_of b,h]
theorem zvN (a b:tt):(a.toList == b.toList)=decide (a=b):=by
 rw [ByteArray.toList_eq,ByteArray.toList_eq,Bool.eq_iff_iff];simp only [beq_iff_eq,decide_eq_true_eq];exact ⟨zn5,λh=>by rw [h]⟩
theorem zkZ (s:tt):s.data.toList.length=s.size:=by simp
theorem ziC (s:tt) (k:Nat):(s.extract 0 k).data.toList=s.data.toList.take k:=by rw [Lib.extract_data];simp
theorem ziD (s:tt) (k:Nat):(s.extract k s.size).data.toList=s.data.toList.drop k:=by
 rw [Lib.extract_data];exact List.take_of_length_le (by simp)
theorem zjU (a b:tt):(a ++ b).data.toList=a.data.toList ++ b.data.toList:=by simp

namespace Crc
/-! ### Cut -/
/-! ### Byte by byte -/
/-! ### Four bytes side by side -/
/-! ### Three texts -/
end Crc
end
section
open Go.RowKit
open Crc (un v32 Tn)
namespace Crc
def frameB (s:tt):tt:=s ++ tailS (sumOf s)
theorem zfR (s:tt):(frameB s).data.toList=s.data.toList ++ (tailS (sumOf s)).data.toList:=zjU _ _
theorem zdL (s:tt):(frameB s).size=s.size+4:=by simp [frameB,zbZ]
theorem zn6 (f:tt):(body f).data.toList=f.data.toList.take (f.size-4):=ziC _ _
theorem zjV (f:tt):(tailOf f).data.toList=f.data.toList.drop (f.size-4):=ziD _ _
theorem zgN (s:tt):body (frameB s)=s:=by
 apply zn5;rw [zn6,zfR,zdL,Nat.add_sub_cancel,<- zkZ s,List.take_left]
theorem ziE (s:tt):tailOf (frameB s)=tailS (sumOf s):=by
 apply zn5;rw [zjV,zfR,zdL,Nat.add_sub_cancel,<- zkZ s,List.drop_left]
theorem zqV (f:tt):fits f=true <-> tailS (sumOf (body f))=tailOf f:=by
 unfold fits;rw [zvN];simp
theorem zdK (s:tt) (h:s.size<=65536):openS (frameB s)=(s,0):=by
 unfold openS;rw [zdL,if_neg vd,if_neg vd,if_pos ((zqV _).2 (by rw [zgN,ziE])),zgN]
end Crc
end
section
open Go.RowKit
open Mv Disk Num
namespace Rec
theorem zfS {d:D} {s:tt} {n:Int} (h:(newD d s n).2=0):nm s/\1<=n/\has d.ext s=false/\(used d.ext:Int)+n<=d.size/\(newD d s n).1 = { d with ext:=insAt d.ext (pos d.ext s) (s,zeros n.toNat) }:=by
 unfold newD at h ⊢;by_cases C : ¬ nm s\/n<1
 ·rw [if_pos C] at h;simp at h
 rw [if_neg C] at h ⊢;by_cases A:has d.ext s=true
 ·rw [if_pos A] at h;simp at h
 rw [if_neg A] at h ⊢;by_cases H:d.size-used d.ext<n
 ·rw [if_pos H] at h;simp at h
 rw [if_neg H];refine ⟨by by_cases h:nm s;exact h;exact absurd (.inl h) C,by omega,by simpa using A,by omega,rfl⟩
theorem ztD {l:List Ext} {i:Nat} {x:Ext} {o:tt} (h:o≠x.1):has (insAt l i x) o=has l o:=by
 rw [Bool.eq_iff_iff,zba,zba];constructor
 ·rintro ⟨y,hy,e⟩;rcases zbY.1 hy with rfl | hy
  ·exact absurd e.symm h
  exact ⟨y,hy,e⟩
 rintro ⟨y,hy,e⟩;exact ⟨y,zbY.2 (.inr hy),e⟩
section
variable {d:D} {s all:tt} {n:Int}
theorem zqW (H:Right d) (h:(newD d s n).2=0):exOf (newD d s n).1.ext s=(s,zeros n.toNat)/\has (newD d s n).1.ext s=true:=by
 obtain ⟨V,J,C,U,I⟩:=zfS h;rw [I];have A:(s,zeros n.toNat) ∈ insAt d.ext (pos d.ext s) (s,zeros n.toNat):=zbY.2 (.inl rfl);exact ⟨zbQ (zjO H.ex.asc C) A,zba.2 ⟨_,A,rfl⟩⟩
theorem zgO (C:Right d) (h:(newD d s n).2=0) {o:tt} (H:o≠s):has (newD d s n).1.ext o=has d.ext o/\(has d.ext o=true->exOf (newD d s n).1.ext o=exOf d.ext o):=by
 obtain ⟨Y,V,I,X,U⟩:=zfS h;rw [U];refine ⟨ztD H,λJ=>?_⟩;obtain ⟨x,A,rfl⟩:=zba.1 J;rw [zbQ C.ex.asc A];exact zbQ (zjO C.ex.asc I) (zbY.2 (.inr A))
theorem zjW (A:Right d) (h:(newD d s n).2=0) {o:tt} (C:o≠s) (k:Int):(placeD (newD d s n).1 o k).2=(placeD d o k).2:=by
 obtain ⟨e1,e2⟩:=zgO A h C;unfold placeD;rw [e1];by_cases q:has d.ext o=true
 ·rw [if_pos q,if_pos q,e2 q];split <;> rfl
 rw [if_neg q,if_neg q]
theorem zmd (H:Right d) (h:(newD d s n).2=0) {o:tt} (A:o≠s) {k:Int} (C:(placeD d o k).2=0):seen (newD d s n).1 o k=seen d o k:=by
 obtain ⟨X,U,J,V,I⟩:=zfS h;have e:=(zgO H h A).2 (zd6 C).1;unfold seen;rw [e,I]
def secsW (s all:tt) (k:Nat):List Wr:=(List.range k).map λi=>(s,((i+1:Nat):Int),secAt all i)
theorem zeI (s all:tt) (k:Nat):secsW s all (k+1)=secsW s all k ++ [(s,((k+1:Nat):Int),secAt all k)]:=by
 unfold secsW;rw [List.range_succ,List.map_append];rfl
noncomputable def putE' (d:D) (s all:tt) (n:Int) (k:Nat) (f:Int):D:={ (newD d s n).1 with waits:=d.waits ++ secsW s all k,fuse:=f }
theorem zn7 (Y:Right d) (C:d.down=false) (hf:d.fuse<=9223372036854775807) (V:(newD d s n).2=0):∀ k,(putTo (newD d s n).1 s all k).2=0 ->
  ∃ f,-1<=f/\f<=9223372036854775807/\putTo (newD d s n).1 s all k=(putE' d s all n k f,0):=by
 obtain ⟨I,H,J,_⟩:=(zjP (s:=s) (n:=n) Y C).2 V;obtain ⟨_,_,_,_,h5⟩:=zfS V;intro k
 induction k with
 | zero =>
  intro _;refine ⟨d.fuse,Y.fu,hf,?_⟩;show ((newD d s n).1,(0:Int))=_;unfold putE' secsW;rw [h5];simp
 | succ k ih =>
  intro h;by_cases q:(putTo (newD d s n).1 s all k).2=0
  ·obtain ⟨X,kf,A⟩:=zcH I H (by rw [J];exact hf) s all k;have A:=A q;rw [putTo,if_pos q] at h ⊢;obtain ⟨f,f0,f1,e⟩:=ih q;rw [e] at h X A kf ⊢;have U:=zdb X A (writeD (putE' d s all n k f) s ((k+1:Nat):Int) (secAt all k));obtain ⟨_,_,_,_,_,g,g0,g1,e2⟩:=zhx (d:=putE' d s all n k f) (s:=s) (data:=secAt all k) (k:=((k+1:Nat):Int)) kf (by rw [U];exact h);rw [U] at e2;refine ⟨g,g0,g1,e2.trans ?_⟩;unfold putE' addW;simp only [zeI,List.append_assoc]
  rw [putTo,if_neg q] at h;exact absurd h q
theorem zk0 (X:Right d) (I:(newD d s n).2=0) (o:tt) (a:Int):∀ k f,seen (putE' d s all n k f) o a=if o=s/\1<=a/\a<=k then secAt all (a.toNat-1) else seen (newD d s n).1 o a:=by
 obtain ⟨_,_,_,_,U⟩:=zfS I;intro k
 induction k with
 | zero =>
  intro f;rw [if_neg vd];unfold putE' secsW;rw [U];simp only [List.range_zero,List.map_nil,List.append_nil];rfl
 | succ k J =>
  intro f;have e:putE' d s all n (k+1) f=addW (putE' d s all n k f) (s,((k+1:Nat):Int),secAt all k):=by
   unfold putE' addW;simp only [zeI,List.append_assoc]
  rw [e,zhs,J f];by_cases q:s=o/\((k+1:Nat):Int)=a
  ·rw [if_pos q,if_pos ⟨q.1.symm,by omega,by omega⟩];rw [show a.toNat-1=k by omega]
  rw [if_neg q];by_cases A:o=s/\1<=a/\a<=k
  ·rw [if_pos A,if_pos ⟨A.1,A.2.1,by omega⟩]
  rw [if_neg A,if_neg (λ⟨C,H,V⟩=>A ⟨C,H,by
   rcases Int.lt_or_le a (k+1) with h | h
   ·omega
   exact absurd ⟨C.symm,by omega⟩ q⟩)]
end
structure FileR (z:D) (s:ByteArray) (w c:Nat) (body:ByteArray):Prop where
  head:readO z s 0=(headS w c,0)
  secs:∀ i,i<needN w c-1->readO z s ((i+1:Nat):Int)=(secAt (padS body) i,0)
  size:sectorsD z s=(((needN w c:Nat):Int),0)
theorem zdM {z:D} {s:tt} (C:Right z) (A:z.down=false) (h:has z.ext s=true):sectorsD z s=(((sec (exOf z.ext s):Nat):Int),0):=by
 unfold sectorsD;rw [zdK C A,if_neg (by simp),if_pos h]
theorem sealed {e:D} {s:tt} {w c:Nat} {body:tt} (H:Right e) (A:e.down=false) (hf:e.fuse<=9223372036854775807) (Y:has e.ext s=true) (hs:sec (exOf e.ext s)=needN w c)
  (hb:∀ i,i<needN w c-1->seen e s ((i+1:Nat):Int)=secAt (padS body) i) (h:(sealD e s (headS w c)).2=0) :
  ∃ z,sealD e s (headS w c)=(z,0)/\Right z/\z.down=false/\z.fuse<=9223372036854775807/\z.waits = []/\FileR z s w c body /\ ∀ o k,o≠s->readO z o k=readO e o k:=by
 have h1:=za7 w c;have X:=zcm H (λ_=>true);unfold sealD at h ⊢;by_cases q:(writeD (settleD e λ_=>true) s 0 (headS w c)).2=0
 ·rw [if_pos q];have ho:=zdb X A (writeD (settleD e λ_=>true) s 0 (headS w c));obtain ⟨_,_,q1,q2,q3,f,f0,f1,e2⟩:=zhx (d:=settleD e λ_=>true) (s:=s) (data:=headS w c) (k:=0) hf (by rw [ho];exact q);rw [ho] at e2;rw [e2];have C:Right { addW (settleD e λ_=>true) (s,0,headS w c) with fuse:=f }:=zdp (zd8 X q1 q2 q3) f0 (addW (settleD e λ_=>true) (s,0,headS w c)).down;have I:=zcm C (λ_=>true);have U:∀ o k,(placeD { addW (settleD e λ_=>true) (s,0,headS w c) with fuse:=f } o k).2=(placeD e o k).2:=λo k=>by
   show (placeD (settleD e λ_=>true) o k).2=_;exact zdc H _ o k
  have V:∀ o k,(placeD e o k).2=0->readO (settleD { addW (settleD e λ_=>true) (s,0,headS w c) with fuse:=f } λ_=>true) o k=(if s=o/\0=k then headS w c else seen e o k,0):=λo k J=>by
   refine (zcZ I A o k).trans ?_;rw [zdc C,U,J,if_neg (by simp),zdJ C (by rw [U];exact J)];have e3:seen { addW (settleD e λ_=>true) (s,0,headS w c) with fuse:=f } o k=if s=o/\0=k then headS w c else seen (settleD e λ_=>true) o k:=zhs _ s 0 (headS w c) o k
   have e4:=zdJ H J (λ_=>true);refine Prod.ext ?_ rfl;show seen { addW (settleD e λ_=>true) (s,0,headS w c) with fuse:=f } o k=_;rw [e3,e4];rfl
  have aa:∀ k:Nat,k<needN w c->(placeD e s (k:Int)).2=0:=λk hk=>by
   unfold placeD;rw [if_pos Y,if_neg (by rw [hs];omega)]
  refine ⟨_,rfl,I,A,f1,rfl,⟨?_,λi hi=>?_,?_⟩,λo k ad=>?_⟩
  ·refine (V s 0 (aa 0 vd)).trans ?_;rw [if_pos ⟨rfl,rfl⟩]
  ·refine (V s _ (aa (i+1) vd)).trans ?_;rw [if_neg vd,hb i hi]
  ·have ac:has (settleD { addW (settleD e λ_=>true) (s,0,headS w c) with fuse:=f } λ_=>true).ext s=true/\exOf (settleD { addW (settleD e λ_=>true) (s,0,headS w c) with fuse:=f } λ_=>true).ext s=doneX (λ_=>true) (addW (settleD e λ_=>true) (s,0,headS w c)).waits (doneX (λ_=>true) e.waits (exOf e.ext s)):=by
    have a1:has (settleD e λ_=>true).ext s=true:=(zhq (f:=doneX (λ_=>true) e.waits) (λ_=>rfl) e.ext s).trans Y;refine ⟨(zhq (f:=doneX (λ_=>true) (addW (settleD e λ_=>true) (s,0,headS w c)).waits) (λ_=>rfl) (settleD e λ_=>true).ext s).trans a1,?_⟩;have b1:exOf (settleD e λ_=>true).ext s=doneX (λ_=>true) e.waits (exOf e.ext s):=zd5 (f:=doneX (λ_=>true) e.waits) (λ_=>rfl) H.ex.asc Y;exact (zd5 (f:=doneX (λ_=>true) (addW (settleD e λ_=>true) (s,0,headS w c)).waits) (λ_=>rfl) X.ex.asc a1).trans (by rw [b1])
   rw [zdM I A ac.1,ac.2];have c1:(doneX (λ_=>true) e.waits (exOf e.ext s)) ∈ (settleD e λ_=>true).ext:=List.mem_map_of_mem (zbw H.ex.asc Y).1;have c2:sec (doneX (λ_=>true) (addW (settleD e λ_=>true) (s,0,headS w c)).waits (doneX (λ_=>true) e.waits (exOf e.ext s)))=sec (doneX (λ_=>true) e.waits (exOf e.ext s)):=by
    unfold sec;rw [zb7 C (λ_=>true) c1]
   have c3:sec (doneX (λ_=>true) e.waits (exOf e.ext s))=sec (exOf e.ext s):=by
    unfold sec;rw [zb7 H (λ_=>true) (zbw H.ex.asc Y).1]
   rw [c2,c3,hs]
  by_cases J:(placeD e o k).2=0
  ·refine (V o k J).trans ?_;rw [if_neg (λh=>ad h.1.symm),zcZ H A,J,if_neg (by simp)]
  refine (zcZ I A o k).trans ?_;rw [zdc C,U,zcZ H A,if_pos J,if_pos J]
 rw [if_neg q] at h;exact absurd h q
end Rec
end
section
open Go.RowKit
namespace Mv
/-! ### Less is known -/
def Mem.Lo (S' S:Mem):Prop:=(∀ b r,S'.own b=some r->S.own b=some r)/\(∀ a v,S'.ro a=some v->S.ro a=some v) /\
  ∀ g l,S'.ro.z g=some l->S.ro.z g=some l/\((∃ v,S.ro ⟨g,0,none⟩=some v) -> ∃ v,S'.ro ⟨g,0,none⟩=some v)
theorem Mem.Less.lo {S S':Mem} (h:S'.Less S):S'.Lo S:=⟨h.1,λa v x=>by rw [<- h.2];exact x,λg l x=>by rw [h.2] at x ⊢;exact ⟨x,id⟩⟩
theorem Mem.Lo.trans {S S' A:Mem} (h:A.Lo S') (k:S'.Lo S):A.Lo S :=
 ⟨λb r x=>k.1 b r (h.1 b r x),λa v x=>k.2.1 a v (h.2.1 a v x),λg l x=>by
  obtain ⟨H,I⟩:=h.2.2 g l x;obtain ⟨C,J⟩:=k.2.2 g l H;exact ⟨C,λz=>I (J z)⟩⟩
theorem View.lo {S S':Mem} {w:tv} (h:View S w) (A:S'.Lo S):View S' w :=
 ⟨λb r I=>h.own b r (A.1 b r I),λa v V=>by
  obtain ⟨H,C⟩:=h.ro a v (A.2.1 a v V);refine ⟨H,?_⟩;cases e:S'.own a.block with
  | none=>rfl
  | some r=>(have:=A.1 _ _ e;rw [C] at this;cases this),λg l Y=>by
  obtain ⟨U,X⟩:=A.2.2 g l Y;obtain ⟨H,C,J⟩:=h.fz g l U;refine ⟨?_,X C,J⟩;cases e:S'.own g with
  | none=>rfl
  | some r=>have:=A.1 _ _ e;rw [H] at this;cases this⟩
theorem Step.lo {S S' A:Mem} {w w':tv} (h:Step S w S' w') (C:A.Lo S'):Step S w A w' :=
 ⟨h.view.lo C,h.os,h.tape,h.output,h.size,h.block,λk H=>h.dom k (by
  cases e:A.own k with
  | none=>exact absurd e H
  | some r=>rw [C.1 _ _ e];simp),λa v I=>h.ro a v (C.2.1 a v I)⟩
theorem Step.loL {S S0 S':Mem} {w w':tv} (h:Step S0 w S' w') (A:S0.Lo S):Step S w S' w' :=
 ⟨h.view,h.os,h.tape,h.output,h.size,λk C H=>h.block k C (by
  cases e:S0.own k with
  | none=>rfl
  | some r=>have:=A.1 _ _ e;rw [H] at this;cases this),λk C=>by
   rcases h.dom k C with x | x
   ·cases e:S0.own k with
    | none=>exact absurd e x
    | some r=>exact .inl (by rw [A.1 _ _ e];simp)
   ·exact .inr x,λa v I=>by
   rcases h.ro a v I with x | x | x
   ·exact .inl (A.2.1 _ _ x)
   ·refine .inr (.inl ?_);cases e:S0.own a.block with
    | none=>exact absurd e x
    | some r=>rw [A.1 _ _ e];simp
   exact .inr (.inr x)⟩
theorem AWP.lo {P:tz} {N:Nat} {c:Code} {Q:Exit->Env->Mem->Prop} {E:Env} {S:Mem} (S':Mem) (A:S'.Lo S) (h:AWP P N c Q E S'):AWP P N c Q E S:=λa w J H =>
 wp_mono (h a w J (H.lo A)) λ_ _ _ ⟨C,I,k,g,s⟩=>⟨C,I,k,g,s.loL A⟩
theorem ACall.lose {P:tz} {f:tA} {args:Array tu} {S:Mem} {R C:tu->Mem->Prop} (h:ACall P f args S R) (k:∀ v S',R v S' -> ∃ A,A.Lo S'/\C v A):ACall P f args S C:=λw J =>
 (h w J).mono λe w' ⟨v,S',I,U,s⟩=>let ⟨A,V,H⟩:=k v S' U;⟨v,A,I,H,s.lo V⟩
theorem ACall.over {P:tz} {f:tA} {args:Array tu} {S T:Mem} {R:tu->Mem->Prop} (h:ACall P f args S R) (hl:S.Less T) :
  ACall P f args T λv T'=>∃ S',R v S'/\S'.Less T' /\ ∀ k r,S.own k=none->T.own k=some r->T'.own k=some r/\S'.own k=none:=λw H=>by
 classical
 refine (h w (H.less hl)).mono λe w' ⟨v,S',he,hR,st⟩=>?_;have V:∀ a u,S.ro a=some u->T.ro a=some u:=λa u C=>by rw [<- hl.2];exact C
 have U:∀ k r,S.own k=none->T.own k=some r->S'.own k=none:=λk r h1 J=>by
  cases e0:S'.own k with
  | none=>rfl
  | some r0 =>
   rcases st.dom k (by rw [e0];simp) with x | x
   ·exact absurd h1 x
   have:=H.lt J;omega
 have X:∀ k,S.own k≠none->T.own k≠none:=λk A=>by
  cases e0:S.own k with
  | none=>exact absurd e0 A
  | some r=>rw [hl.1 k r e0];simp
 have ae:∀ a u,S'.ro a=some u->S.own a.block=none->T.own a.block=none:=λa u C hn=>by
  cases e0:T.own a.block with
  | none=>rfl
  | some r =>
   rcases st.ro a u C with x | x | x
   ·have:=(H.ro a u (V a u x)).2;rw [e0] at this;exact this
   ·exact absurd hn x
   have:=H.lt e0;omega
 let T':Mem:=⟨λk=>if S.own k=none/\T.own k≠none then T.own k else S'.own k,S'.ro⟩;have Y:∀ k,T'.own k=if S.own k=none/\T.own k≠none then T.own k else S'.own k:=λ_=>rfl
 have I:∀ a u,S'.ro a=some u->T'.own a.block=none:=λa u C=>by
  rw [Y];split
  ·rename_i x;exact ae a u C x.1
  exact (st.view.ro a u C).2
 refine ⟨v,T',he,⟨S',hR,⟨λk r A=>?_,rfl⟩,λk r h1 J=>⟨by rw [Y,if_pos ⟨h1,by rw [J];simp⟩];exact J,U k r h1 J⟩⟩,⟨⟨λk r A=>?_,λa u C=>⟨(st.view.ro a u C).1,I a u C⟩,λg l hg=>?_⟩,st.os,st.tape,st.output,st.size,λk A hn=>?_,λk A=>?_,λa u C=>?_⟩⟩
 ·rw [Y];split
  ·rename_i x;cases e0:T.own k with
   | none=>exact absurd e0 x.2
   | some r0=>rw [U k r0 x.1 e0] at A;cases A
  exact A
 ·rw [Y] at A;split at A
  ·rename_i x;rw [st.block k (H.lt A) x.1];exact H.own k r A
  exact st.view.own k r A
 ·obtain ⟨_,⟨u,C⟩,h3⟩:=st.view.fz g l hg;exact ⟨I _ u C,⟨u,C⟩,h3⟩
 ·refine st.block k A ?_;cases e0:S.own k with
  | none=>rfl
  | some r=>have:=hl.1 k r e0;rw [hn] at this;cases this
 ·rw [Y] at A;split at A
  ·exact .inl A
  rcases st.dom k A with x | x
  ·exact .inl (X k x)
  exact .inr x
 rcases st.ro a u C with x | x | x
 ·exact .inl (V a u x)
 ·exact .inr (.inl (X _ x))
 exact .inr (.inr x)
theorem zao {S T:Mem} {b:Nat} {r:Blk} (h:S.Less T) (C:S.own b=none):S.Less (T.set b r) :=
 ⟨λk r' A=>by rw [vg _ _ (λe=>by rw [e,C] at A;cases A)];exact h.1 k r' A,h.2⟩
theorem ACall.seen {P:tz} {f:tA} {args:Array tu} {S:Mem} {R:tu->Mem->Prop} {p:Prop} (C:∀ w,View S w->p) (h:p->ACall P f args S R):ACall P f args S R:=λw A=>h (C w A) w A
def Mem.fr (S:Mem) (g:Nat) (l:List UInt8):Mem:=⟨S.own,⟨λa=>if a.block=g then (if a.spot.isSome then none else (cellsB l)[a.off]?) else S.ro a,λk=>if k=g then some l else S.ro.z k⟩⟩
theorem tg {S:Mem} {g:Nat} {l:List UInt8} (I:Fresh S g) (H:S.ro.z g=none):S.Lo (S.fr g l) :=
 ⟨λb r h=>h,λa v h=>by
  show (if a.block=g then _ else S.ro a)=some v;rw [if_neg (I.2 a v h)];exact h,λk x h=>by
  have C:k≠g:=λe=>by rw [e,H] at h;cases h
  refine ⟨?_,λ⟨v,A⟩=>⟨v,?_⟩⟩
  ·show (if k=g then some l else S.ro.z k)=some x;rw [if_neg C];exact h
  change (if k=g then _ else S.ro ⟨k,0,none⟩)=some v at A;rw [if_neg C] at A;exact A⟩
theorem tf {S:Mem} {w:tv} (C:View S w) {g:Nat} {r:Blk} (A:S.own g=some r):S.ro.z g=none:=by
 cases e:S.ro.z g with
 | none=>rfl
 | some l=>have:=(C.fz g l e).1;rw [A] at this;cases this
theorem uN {S:Mem} {g b:Nat} {l:List UInt8} {r:Blk} (I:Fresh S g) (H:S.ro.z g=none) (A:Fresh S b) (C:b≠g):S.Lo ((S.fr g l).set b r) :=
 (tg I H).trans ⟨λk r' h=>by
  by_cases e:k=b
  ·subst e;have:=A.1;rw [show (S.fr g l).own k=S.own k from rfl,this] at h;cases h
  rw [vg _ _ e];exact h,λa v h=>h,λk x h=>⟨h,id⟩⟩
section
variable {P:tz} {N:Nat} {ops:Array Oper} {E:Env} {S:Mem} {K:Env->Mem->Prop}
variable {dst:Option Nat} {ty:tx} {pos:String} {aft:Array Edge} {gd:Option (Nat × Bool)}
theorem vW {x:tw} {a:Option Addr} {n c:Nat} {A:Array tx} (C:ev E x=some (.slice a n c)) (hc:a=none\/c≠0):ACalm P N ⟨dst,.call ⟨.builtin .unsafeSliceData,#[x],A⟩,ty,pos,aft,gd⟩ E S (.pointer a):=λk w g H=>by
 have h:(Builtin.unsafeSliceData_ A ty #[.slice a n c]).run P w = .ok (.pointer a) w:=by
  cases a with
  | none=>exact Lib.run_unsafeSliceData_nil _ _ _ _ _
  | some a=>exact Lib.run_unsafeSliceData_row _ _ _ _ _ _ (hc.resolve_left (λh=>by cases h))
 simp [execOp,resolve,invoke,builtin,g.ev C,h]
theorem zcn {w:tv} {g n k:Nat} (h:k≠g):(w.freeze ⟨g,0,none⟩ n).heap[k]?=w.heap[k]?:=by
 unfold World.freeze;split
 ·rfl
 simp only [Array.getElem?_modify];rw [if_neg (Ne.symm h)]
theorem zn8 {w:tv} {g n:Nat} {cur:Array tu} {T:tx} {fz:Nat × Nat} (h:w.heap[g]?=some (.cells cur T fz)) (A:n≠0):∃ hi,n<=hi/\(w.freeze ⟨g,0,none⟩ n).heap[g]?=some (.cells cur T (0,hi)):=by
 obtain ⟨lo,hi⟩:=fz;unfold World.freeze;rw [if_neg A];simp only [Array.getElem?_modify,h,if_true,Option.map_some];by_cases e:lo=hi
 ·exact ⟨n,Nat.le_refl _,by simp [e]⟩
 exact ⟨max hi n,by omega,by simp [e]⟩
theorem zjX (w:tv) (a:Addr) (n:Nat):(w.freeze a n).heap.size=w.heap.size:=by
 unfold World.freeze;split <;> simp
theorem zjY (w:tv) (a:Addr) (n:Nat):(w.freeze a n).os=w.os/\(w.freeze a n).tape=w.tape/\(w.freeze a n).output=w.output:=by
 unfold World.freeze;split <;> exact ⟨rfl,rfl,rfl⟩
theorem ziF {w:tv} {g n hi:Nat} {cur:Array tu} {T:tx} (h:w.heap[g]?=some (.cells cur T (0,hi))) (I:n<=hi):w.freeze ⟨g,0,none⟩ n=w:=by
 unfold World.freeze;by_cases e:n=0
 ·rw [if_pos e]
 rw [if_neg e];have H:(w.heap.modify g λo=>match o with
  | .cells c elem (lo,hi)=>.cells c elem (if lo == hi then (0,0+n) else (min lo 0,max hi (0+n)))
  | o=>o)=w.heap:=by
  apply Array.ext_getElem?;intro i;rw [Array.getElem?_modify];by_cases A:g=i
  ·subst A;rw [if_pos rfl,h];simp only [Option.map_some];have C:((0:Nat) == hi)=false:=(by simp;omega);rw [C];simp;omega
  rw [if_neg A]
 exact congrArg (λh=>{ w with heap:=h }) H
theorem Step.fr {w:tv} {g room:Nat} {l:List UInt8} (H:View S w) (I:S.own g=some ⟨5,cellsB l,room⟩) (U:l ≠ []):Step S w ((S.del g).fr g l) (w.freeze ⟨g,0,none⟩ l.length):=by
 have hl:l.length≠0:=by simpa using U
 obtain ⟨cur,fz,e1,e2,e3,e4⟩:=H.own g _ I;obtain ⟨hi,q1,V⟩:=zn8 e1 hl;obtain ⟨X,r2,r3⟩:=zjY w ⟨g,0,none⟩ l.length;have hd:∀ k,((S.del g).fr g l).own k=if k=g then none else S.own k:=λk=>rfl
 have C:∀ a v,(if a.block=g then (if a.spot.isSome then none else (cellsB l)[a.off]?) else S.ro a)=some v->(w.freeze ⟨g,0,none⟩ l.length).cell? a=some v:=by
  intro a v h;by_cases e:a.block=g
  ·rw [if_pos e] at h;split at h
   ·cases h
   rename_i hs;have:=zcb e2 h;unfold World.cell?;rw [e,V];simp only [hs];simpa using this
  rw [if_neg e] at h;have:=(H.ro a v h).1;unfold World.cell? at this ⊢;rw [zcn e];exact this
 refine ⟨⟨λk r A=>?_,λa v h=>⟨C a v h,?_⟩,λk x A=>?_⟩,X,r2,r3,by rw [zjX];exact Nat.le_refl _,λk A J=>zcn (λe=>by rw [e,I] at J;cases J),λk A=>?_,λa v h=>?_⟩
 ·rw [hd] at A;by_cases e:k=g
  ·rw [if_pos e] at A;cases A
  rw [if_neg e] at A;rw [zcn e];exact H.own k r A
 ·rw [hd];by_cases e:a.block=g
  ·rw [if_pos e]
  rw [if_neg e];change (if a.block=g then _ else S.ro a)=some v at h;rw [if_neg e] at h;exact (H.ro a v h).2
 ·change (if k=g then some l else S.ro.z k)=some x at A;rw [hd];by_cases e:k=g
  ·rw [if_pos e] at A ⊢;obtain rfl:l=x:=Option.some.inj A;subst e;refine ⟨rfl,?_,cur,hi,V,q1,?_⟩
   ·cases l with
    | nil=>exact absurd rfl U
    | cons c l=>exact ⟨_,show (if k=k then (if (none:Option _).isSome then none else (cellsB (c :: l))[0]?) else _)=some _ from by rw [if_pos rfl];rfl⟩
   exact e2
  rw [if_neg e] at A ⊢;obtain ⟨z1,⟨v,z2⟩,Y⟩:=H.fz k x A;exact ⟨z1,⟨v,show (if k=g then _ else S.ro ⟨k,0,none⟩)=some v from by rw [if_neg e];exact z2⟩,Y.of_block (zcn e)⟩
 ·rw [hd] at A;by_cases e:k=g
  ·rw [if_pos e] at A;exact absurd rfl A
  rw [if_neg e] at A;exact .inl A
 change (if a.block=g then _ else S.ro a)=some v at h;by_cases e:a.block=g
 ·exact .inr (.inl (by rw [e,I];simp))
 rw [if_neg e] at h;exact .inl h
theorem zsJ {w:tv} {g:Nat} {l:List UInt8} {A it:tx} {cur:Array tu} {fz:Nat × Nat} (C:P.underlying A=some (.pointer 5)) (hc:P.cellsOf 5=1) (e1:w.heap[g]?=some (.cells cur 5 fz)) (e2:cellsB l <+: cur.toList) (J:l ≠ []) (H:l.length<=9223372036854775807) :
  (Builtin.unsafeString_ #[A,it] ty #[.pointer (some ⟨g,0,none⟩),.int .i64 l.length]).run P w = .ok (.string (bs l)) (w.freeze ⟨g,0,none⟩ l.length):=by
 refine Lib.run_unsafeString_row w A it ty _ C hc g cur.size (by simp [World.shape?,e1]) l J ?_ H λj x I=>?_
 ·have:=e2.length_le;rw [zaF] at this;simpa using this
 have:=zcb e2 (j:=j) (v:=.int .u8 (nb x)) (by simp [cellsB,I]);rw [zaE];unfold World.cell?;simp only [e1,Nat.zero_add];simpa [nb] using this
theorem td {os:List Oper} {x y:tw} {g room d:Nat} {l:List UInt8} {A it:tx} (Y:d<N) (C:P.underlying A=some (.pointer 5)) (hc:P.cellsOf 5=1) (hx:ev E x=some (.pointer (some ⟨g,0,none⟩))) (hy:ev E y=some (.int .i64 (l.length:Int))) (U:S.own g=some ⟨5,cellsB l,room⟩) (X:l ≠ []) (J:l.length<=9223372036854775807)
  (h:ARun P N ops os K ((d,.string (bs l)) :: E) ((S.del g).fr g l)):ARun P N ops (⟨some d,.call ⟨.builtin .unsafeString,#[x,y],#[A,it]⟩,ty,pos,aft,none⟩ :: os) K E S:=λa w I V=>by
 rw [if_pos (by simp [Region.wanted])];unfold Oper.wp;obtain ⟨cur,fz,e1,e2,e3,e4⟩:=V.own g _ U;have hr:=zsJ (ty:=ty) (it:=it) (w:=w) C hc e1 e2 X J;have H:(execOp a.eval ⟨some d,.call ⟨.builtin .unsafeString,#[x,y],#[A,it]⟩,ty,pos,aft,none⟩).run P w = .ok (.value (.string (bs l))) (w.freeze ⟨g,0,none⟩ l.length):=by
  simp [execOp,resolve,invoke,builtin,I.ev hx,I.ev hy,hr]
 rw [H];exact ⟨_,_,h,I.put Y _,Step.fr V U X⟩
theorem ti {os:List Oper} {x y:tw} {g d:Nat} {l:List UInt8} {A it:tx} (Y:d<N) (C:P.underlying A=some (.pointer 5)) (hc:P.cellsOf 5=1) (hx:ev E x=some (.pointer (some ⟨g,0,none⟩))) (hy:ev E y=some (.int .i64 (l.length:Int))) (X:S.ro.z g=some l) (h0:l ≠ []) (J:l.length<=9223372036854775807)
  (h:ARun P N ops os K ((d,.string (bs l)) :: E) S):ARun P N ops (⟨some d,.call ⟨.builtin .unsafeString,#[x,y],#[A,it]⟩,ty,pos,aft,none⟩ :: os) K E S:=λa w I V=>by
 rw [if_pos (by simp [Region.wanted])];unfold Oper.wp;obtain ⟨_,_,cur,hi,e1,e3,e2⟩:=V.fz g l X;have U:=zsJ (ty:=ty) (it:=it) (w:=w) C hc e1 e2 h0 J;rw [ziF e1 e3] at U;have H:(execOp a.eval ⟨some d,.call ⟨.builtin .unsafeString,#[x,y],#[A,it]⟩,ty,pos,aft,none⟩).run P w = .ok (.value (.string (bs l))) w:=by
  simp [execOp,resolve,invoke,builtin,I.ev hx,I.ev hy,U]
 rw [H];exact ⟨_,_,h,I.put Y _,Step.refl V⟩
theorem uI {os:List Oper} {x y:tw} {p:Option Addr} {d:Nat} {A it:tx} (I:d<N) (V:ev E x=some (.pointer p)) (X:ev E y=some (.int .i64 0))
  (h:ARun P N ops os K ((d,.string (bs [])) :: E) S):ARun P N ops (⟨some d,.call ⟨.builtin .unsafeString,#[x,y],#[A,it]⟩,ty,pos,aft,none⟩ :: os) K E S:=λa w H U=>by
 rw [if_pos (by simp [Region.wanted])];unfold Oper.wp;have J:=Lib.run_unsafeString_none (P:=P) w A it ty p;have C:(execOp a.eval ⟨some d,.call ⟨.builtin .unsafeString,#[x,y],#[A,it]⟩,ty,pos,aft,none⟩).run P w = .ok (.value (.string (bs []))) w:=by
  simp [execOp,resolve,invoke,builtin,H.ev V,H.ev X,J];rfl
 rw [C];exact ⟨_,_,h,H.put I _,Step.refl U⟩
/-! ### Texts that are appended -/
theorem zdN (s:tt):Lib.strCells s=cellsB s.data.toList:=rfl
theorem ub {os:List Oper} {T U e:tx} {y:Nat} {z:tu} {x1 x2:tw} {b k c:Nat} {xs:List tu} {s:tt} {d:Nat} (hn:d<N) (hT:slT P T=some (e,1,y,[z])) (hU:strT P U=true)
  (hx:ev E x1=some (.slice (some ⟨b,0,none⟩) k c)) (hb:S.own b=some ⟨e,xs,c⟩) (Y:xs.length=k) (hy:ev E x2=some (.string s)) (V:(k+s.size)*y<=140737488355328) (aw:k+s.size<=9223372036854775807)
  (h:∀ b' c',Fresh (S.del b) b'->k+s.size<=c'->ARun P N ops os K ((d,.slice (some ⟨b',0,none⟩) (k+s.size) c') :: E) ((S.del b).set b' ⟨e,xs ++ cellsB s.data.toList,c'⟩)) :
  ARun P N ops (⟨some d,.call ⟨.builtin .append,#[x1,x2],#[T,U]⟩,ty,pos,aft,none⟩ :: os) K E S:=λa w g H=>by
 rw [if_pos (by simp [Region.wanted])];obtain ⟨I,i,v,e1,e2,J,rfl,ah⟩:=za4 hT;have ad:v.cells.size=1:=by
  have:=congrArg List.length ah;simpa using this
 have X:(cellsB s.data.toList).length=s.size:=by rw [zaF];exact (Array.length_toList (xs:=s.data))
 have ac:(execOp a.eval ⟨some d,.call ⟨.builtin .append,#[x1,x2],#[T,U]⟩,ty,pos,aft,none⟩).run P w=((Builtin.append_ #[T,U] ty #[.slice (some ⟨b,0,none⟩) k c,.string s]).run P w).andThen λv w'=>.ok (.value v) w':=by
  simp [execOp,resolve,invoke,builtin,g.ev hx,g.ev hy]
 unfold Oper.wp;rw [ac];by_cases A:k+s.size<=c
 ·obtain ⟨q1,q2⟩:=zbp (P:=P) H hb (vs:=cellsB s.data.toList) (o:=k) (by simp only;omega) (.inr (by simp only [X];omega)) (λu I=>by
   unfold cellsB at I;obtain ⟨c,_,rfl⟩:=List.mem_map.1 I;rfl)
  have hf:=Lib.run_firstCells_string (P:=P) w 1 s;have hr:(Builtin.append_ #[T,U] ty #[.slice (some ⟨b,0,none⟩) k c,.string s]).run P w = .ok (.slice (some ⟨b,0,none⟩) (k+s.size) c) (w.setCells b k (cellsB s.data.toList)):=by
   rw [zdN] at hf;simp [Builtin.append_,run_underlying I,run_underlying (zav hU),sizeOf,typeInfo,e1,J,Builtin.lenOf,A,hf,zaE,q1]
  rw [hr];have al:spl xs k (cellsB s.data.toList)=xs ++ cellsB s.data.toList:=by
   unfold spl;rw [List.take_of_length_le vd,List.drop_of_length_le vd,List.append_nil]
  simp only [al] at q2;refine ⟨_,_,h b c (zft (λa v ha=>(H.ro a v ha).2) hb) A,g.put hn _,?_⟩;rw [del_set];exact q2
 have C:Builtin.nextslicecap (k+s.size) c*i.bytes<=281474976710656:=growslice_fits vd V;have hr:=Lib.run_append_grow_string (P:=P) w T U ty e i v I (zav hU) e1 e2 ⟨b,0,none⟩ k c xs (by rw [J,Y,Nat.mul_one]) (λj u hj=>H.rd (by rw [zaE,Nat.zero_add,zdv hb];exact hj)) s vd vd C;rw [hr,zdN];have ae:=grownCap_ge w (k+s.size) c e;have ai:View S w.drew:=H.drawn _;have af:=vH ai e (xs.toArray ++ (cellsB s.data.toList).toArray ++ Builtin.zeroCells v.cells (grownCap w (k+s.size) c e-(k+s.size))) (xs ++ cellsB s.data.toList) (grownCap w (k+s.size) c e) (by simp [List.append_assoc]) (by
  simp only [Array.size_append,List.size_toArray,size_zeroCells,ad,Y,X];omega)
 refine ⟨_,_,h w.heap.size (grownCap w (k+s.size) c e) (H.freshAt.less (Less.del S b)) ae,g.put hn _,?_⟩;exact ((Step.drawn H _).trans af).less (zaI S b _ _)
theorem uC {os:List Oper} {T U e:tx} {y:Nat} {z:tu} {A x2:tw} {s:tt} {d:Nat} (hn:d<N) (hT:slT P T=some (e,1,y,[z])) (hU:strT P U=true)
  (hx:ev E A=some (.slice none 0 0)) (hy:ev E x2=some (.string s)) (h0:0<s.size) (ac:s.size*y<=140737488355328) (af:s.size<=9223372036854775807)
  (h:∀ b' c',Fresh S b'->s.size<=c'->ARun P N ops os K ((d,.slice (some ⟨b',0,none⟩) s.size c') :: E) (S.set b' ⟨e,cellsB s.data.toList,c'⟩)) :
  ARun P N ops (⟨some d,.call ⟨.builtin .append,#[A,x2],#[T,U]⟩,ty,pos,aft,none⟩ :: os) K E S:=λa w g V=>by
 rw [if_pos (by simp [Region.wanted])];obtain ⟨hu,i,v,e1,e2,ak,rfl,X⟩:=za4 hT;have H:v.cells.size=1:=by
  have:=congrArg List.length X;simpa using this
 have am:(cellsB s.data.toList).length=s.size:=by rw [zaF];exact (Array.length_toList (xs:=s.data))
 have C:(execOp a.eval ⟨some d,.call ⟨.builtin .append,#[A,x2],#[T,U]⟩,ty,pos,aft,none⟩).run P w=((Builtin.append_ #[T,U] ty #[.slice none 0 0,.string s]).run P w).andThen λv w'=>.ok (.value v) w':=by
  simp [execOp,resolve,invoke,builtin,g.ev hx,g.ev hy]
 unfold Oper.wp;rw [C,run_append_nil_string (P:=P) w T U ty e i v hu (zav hU) e1 e2 s h0 vd vd];have I:=grownCap_ge w s.size 0 e;have Y:View S w.drew:=V.drawn _;have J:=vH Y e (s.data.map (λb=>Value.int .u8 b.toNat) ++ Builtin.zeroCells v.cells (grownCap w s.size 0 e-s.size)) (cellsB s.data.toList) (grownCap w s.size 0 e) (by simp [cellsB,nb]) (by
  have:s.data.size=s.size:=rfl;simp only [Array.size_append,Array.size_map,size_zeroCells,H,this];omega)
 exact ⟨_,_,h w.heap.size (grownCap w s.size 0 e) V.freshAt I,g.put hn _,(Step.drawn V _).trans J⟩
theorem uu {os:List Oper} {T U e:tx} {y:Nat} {z:tu} {I J:tw} {A:Option Addr} {k c d:Nat} {s:tt} (hn:d<N) (hT:slT P T=some (e,1,y,[z])) (hU:strT P U=true) (X:k<=c)
  (hx:ev E I=some (.slice A k c)) (hy:ev E J=some (.string s)) (H:s.size=0) (h:ARun P N ops os K ((d,.slice A k c) :: E) S) :
  ARun P N ops (⟨some d,.call ⟨.builtin .append,#[I,J],#[T,U]⟩,ty,pos,aft,none⟩ :: os) K E S:=λa w g hv=>by
 rw [if_pos (by simp [Region.wanted])];obtain ⟨Y,i,v,e1,e2,C,rfl,ah⟩:=za4 hT;have hr:(execOp a.eval ⟨some d,.call ⟨.builtin .append,#[I,J],#[T,U]⟩,ty,pos,aft,none⟩).run P w = .ok (.value (.slice A k c)) w:=by
  have V:=Lib.run_firstCells_string (P:=P) w 1 s;have hs:Lib.strCells s = []:=by rw [zdN];exact List.eq_nil_of_length_eq_zero (by rw [zaF,Array.length_toList];exact H)
  rw [hs,H] at V;cases A with
  | none=>simp [execOp,resolve,invoke,builtin,g.ev hx,g.ev hy,Builtin.append_,run_underlying Y,run_underlying (zav hU),sizeOf,typeInfo,e1,C,Builtin.lenOf,H,X,V]
  | some A=>simp [execOp,resolve,invoke,builtin,g.ev hx,g.ev hy,Builtin.append_,run_underlying Y,run_underlying (zav hU),sizeOf,typeInfo,e1,C,Builtin.lenOf,H,X,V,storeCells]
 unfold Oper.wp;rw [hr];exact ⟨_,_,h,g.put hn _,Step.refl hv⟩
end
end Mv
open Go.RowKit
namespace Mv
/-! ### Pointers that go through unsafe.Pointer -/
theorem zme {P:tz} {fits:tx->Bool} {e:tx} {n:Nat} (hc:P.cellsOf e≠0) (C:1<=n) (A:fits e=true):∀ d,0<d->rowAt P fits d e n 0 1=true:=λd hd=>by
 cases d with
 | zero=>omega
 | succ d =>
  unfold rowAt;simp only;rw [if_neg hc];simp [A,C]
theorem zjZ {P:tz} {e:tx} {n:Nat} (hd:0<P.depth) (hc:P.cellsOf e≠0) (C:1<=n) (A:sameLayout P P.depth e e=true):∀ d,0<d->liesAt P d e n 0 e 1=true:=λd h=>by
 cases d with
 | zero=>omega
 | succ d =>
  unfold liesAt;rw [zme (fits:=λx=>sameLayout P P.depth x e) hc C A _ hd];rfl
section
variable {P:tz} {N:Nat} {ops:Array Oper} {E:Env} {S:Mem} {K:Env->Mem->Prop}
variable {dst:Option Nat} {ty:tx} {pos:String} {aft:Array Edge} {gd:Option (Nat × Bool)}
theorem ziG {S:Mem} {w:tv} {b:Nat} {r:Blk} (C:View S w) (A:S.own b=some r):∃ n,r.cells.length<=n/\w.shape? b=some (r.elem,n):=by
 obtain ⟨cur,fz,e1,e2,_⟩:=C.own b r A;exact ⟨cur.size,by have:=e2.length_le;simpa using this,by simp [World.shape?,e1]⟩
theorem uM {s t e:tx} {x:tw} {j:TypeInfo} {b:Nat} {r:Blk} (hs:P.underlying s=some (.pointer e)) (hd:P.underlying t=some .unsafePointer) (C:P.info? e=some j) (I:j.size≠0) (U:ev E x=some (.pointer (some ⟨b,0,none⟩))) (A:S.own b=some r) (V:0<r.cells.length) :
  ACalm P N ⟨dst,.convert s t x,ty,pos,aft,gd⟩ E S (.pointer (some ⟨b,0,none⟩)):=λa w g J=>by
 obtain ⟨n,X,H⟩:=ziG J A;have h:=Lib.run_to_unsafe (P:=P) (w:=w) ⟨b,0,none⟩ hs hd C I H (by simp only;omega);simp only [execOp,g.ev U];rw [Sem.run_bind,h];rfl
theorem uv {s t e:tx} {x:tw} {j:TypeInfo} {b:Nat} {cs:List tu} {m:Nat} (hs:P.underlying s=some .unsafePointer) (hd:P.underlying t=some (.pointer e)) (I:P.info? e=some j) (A:0<P.depth) (hc:P.cellsOf e=2) (X:sameLayout P P.depth e e=true) (V:ev E x=some (.pointer (some ⟨b,0,none⟩))) (H:S.own b=some ⟨e,cs,m⟩) (Y:2<=cs.length) :
  ACalm P N ⟨dst,.convert s t x,ty,pos,aft,gd⟩ E S (.pointer (some ⟨b,0,none⟩)):=λa w g U=>by
 obtain ⟨n,C,J⟩:=ziG U H;have C:cs.length<=n:=C;have h:=Lib.run_from_unsafe (P:=P) (w:=w) ⟨b,0,none⟩ hs hd I J (zjZ A (by rw [hc];decide) (by rw [hc];omega) X _ A);simp only [execOp,g.ev V];rw [Sem.run_bind,h];rfl
theorem uP {os : List Oper} {f : tA} {fn : Func} {x : tw} {v : tu} {C : Array tx} {d : Nat} (J : d < N) (Y : P.funcs[f]? = some fn) (A : (fn.name == "runtime.NumGoroutine") = false) (I : fn.body.isNone = true)
  (H:Extern.findNext fn=none) (U:Extern.find fn=some Extern.AbiNoEscape.same) (X:ev E x=some v)
  (h:ARun P N ops os K ((d,v) :: E) S):ARun P N ops (⟨some d,.call ⟨.value (.func f),#[x],C⟩,ty,pos,aft,none⟩ :: os) K E S:=λa w g V=>by
 rw [if_pos (by simp [Region.wanted])];unfold Oper.wp;have hc:execOp a.eval ⟨some d,.call ⟨.value (.func f),#[x],C⟩,ty,pos,aft,none⟩=callFunc f #[v]:=by
  rw [execOp_call_go];simp [g.ev X]
 rw [hc,run_callFunc_extern Y A I H U,Lib.run_noEscape];exact ⟨_,_,h,g.put J _,Step.refl V⟩
theorem zdO {t e:tx} {x y:tw} {p:Option Addr} (h:P.underlying t=some (.pointer e)):Bin P .eql t x y (.pointer p) (.pointer none) (.bool p.isNone):=λw=>by
 have A:∀ d:Nat,(Op.equalIn (d+1) t (.pointer p) (.pointer none)).run P w = .ok p.isNone w:=λd=>by
  cases p <;> simp [Op.equalIn,run_underlying h]
 have:(binOp .eql t (.pointer p) (.pointer none)).run P w = .ok (.bool p.isNone) w:=by
  simp only [binOp];simp [Op.equal,Op.maxDepth,A 9999]
 simpa [eqGuard] using this
theorem ze8 {t e:tx} {x y:tw} {a:Addr} {j:TypeInfo} (h:P.underlying t=some (.pointer e)) (A:P.info? e=some j):Bin P .neq t x y (.pointer (some a)) (.pointer (some a)) (.bool false):=λw=>by
 have:=Lib.run_neq_ptr_same (P:=P) (w:=w) a h A;simpa [eqGuard] using this
end
end Mv
end
section
open Go.RowKit
open Mv
namespace Bl
instance : TGo prog 46 := ⟨by kernel_rfl⟩
instance : TGo prog 19 := ⟨by kernel_rfl⟩
instance : TGo prog 21 := ⟨by kernel_rfl⟩
def blk (p v:tu):Blk:=⟨59,[p,v],2⟩
def self (b:Nat):tu:=.pointer (some ⟨b,0,none⟩)
def M (S:Mem) (b:Nat) (p:tu) (o:Option (Nat × Nat)) (l:List UInt8):Mem:=(outM S o 5 (cellsB l)).set b (blk p (outV o l.length))
def R (S:Mem) (b:Nat) (l:List UInt8) (T:Mem):Prop:=∃ p o,(p = .pointer none\/p=self b)/\OkO S o l.length/\(∀ g c,o=some (g,c)->g≠b/\l ≠ [])/\T=M S b p o l
def F (S:Mem) (b:Nat) (l:List UInt8) (T:Mem):Prop:=∃ p,(l = []/\T=S.set b (blk p (.slice none 0 0)))\/(l ≠ [] /\ ∃ g c,Fresh S g/\g≠b/\c≠0/\S.ro.z g=none/\T=(S.fr g l).set b (blk p (.slice (some ⟨g,0,none⟩) l.length c)))
theorem R.new (S:Mem) (b:Nat):R S b [] (S.set b (blk (.pointer none) (.slice none 0 0))):=⟨_,none,.inl rfl,⟨λ_=>rfl,λ_ _ h=>(by cases h)⟩,λ_ _ h=>(by cases h),rfl⟩
theorem R.less {S T:Mem} {b:Nat} {l:List UInt8} (C:Fresh S b) (h:R S b l T):S.Less T:=by
 obtain ⟨p,o,_,H,A,rfl⟩:=h;cases o with
 | none=>exact vh _ _ _ C.1
 | some q =>
  obtain ⟨g,c⟩:=q;have I:=(H.own g c rfl).1;exact (vh S g _ I.1).trans (vh _ _ _ (by
   show (S.set g _).own b=none;rw [vg _ _ (A g c rfl).1.symm];exact C.1))
theorem F.lo {S T:Mem} {b:Nat} {l:List UInt8} (C:Fresh S b) (h:F S b l T):S.Lo T:=by
 obtain ⟨p,⟨_,rfl⟩ | ⟨_,g,c,I,A,_,H,rfl⟩⟩:=h
 ·exact (vh _ _ _ C.1).lo
 exact uN I H C A.symm
theorem lies:sameLayout prog prog.depth 59 59=true:=by kernel_rfl
theorem deep:0<prog.depth:=Nat.le_of_ble_eq_true (n:=1) (m:=prog.depth) (by kernel_rfl)
theorem zvO:prog.cellsOf 59=2:=by kernel_rfl
theorem zsK:prog.cellsOf 5=1:=by kernel_rfl
theorem inf:∃ j,prog.info? 59=some j/\j.size≠0:=by
 have h:(prog.info? 59).map (λj=>j.size)=some 2:=by kernel_rfl
 obtain ⟨j,A,C⟩:=Option.map_eq_some_iff.1 h;exact ⟨j,A,by omega⟩
theorem ldB {P:tz} {N:Nat} {E:Env} {S:Mem} {dst:Option Nat} {T ty:tx} {pos:String} {aft:Array Edge} {gd:Option (Nat × Bool)} {x:tw} {b:Nat} {p v v':tu} (H:plainT P T=true) (A:S.own b=some (blk p v)) (e:v=v') (C:ev E x=some (.pointer (some ⟨b,1,none⟩)):=by exact rfl) :
  ACalm P N ⟨dst,.load T x,ty,pos,aft,gd⟩ E S v':=Calm.load H C (by unfold Mem.rd;rw [A,<- e];rfl)
theorem copyCheck (S:Mem) (b:Nat) (p v:tu) (I:p = .pointer none\/p=self b) (A:S.own b=some (blk p v)) :
  ACall prog 46 #[self b] S λr S'=>r = .tuple #[]/\S'=S.set b (blk (self b) v):=by
 obtain ⟨j,C,H⟩:=inf;unfold self blk at *;rcases I with rfl | rfl
 ·skip
  refine k_E1 20 func46 ?_;refine r6_ ?_;refine rC (vi rfl rfl (zdO underlying56)) ?_;refine r2_ ?_;refine cT_ ?_;refine r3_ ?_;refine rC (uM underlying56 underlying173 C H rfl A (by simp)) ?_;refine uP (zab rfl) func95 rfl rfl rfl rfl rfl ?_;refine rC (uv underlying173 underlying56 C deep zvO lies rfl A (by simp)) ?_;refine r4_ ?_;refine ⟨_,_,rfl,zae,?_⟩;exact ⟨rfl,rfl⟩
 skip
 refine k_E1 20 func46 ?_;refine r6_ ?_;refine rC (vi rfl rfl (zdO underlying56)) ?_;refine r2_ ?_;refine cF_ ?_;refine r7_ ?_;refine rC (vi rfl rfl (ze8 underlying56 C)) ?_;refine r2_ ?_;refine cF_ ?_;refine s1_ ?_;refine ⟨_,S,rfl,zae,?_⟩;exact ⟨rfl,(vG _ _ _ A).symm⟩
theorem ztE {S:Mem} {b b':Nat} {X A Y:Blk} (C:b≠b'):((S.set b X).set b' Y).set b A=(S.set b' Y).set b A:=by
 unfold Mem.set;congr 1;funext k;by_cases H:k=b <;> by_cases I:k=b' <;> simp_all
theorem ztF {S:Mem} {b b' g:Nat} {X A Y Z:Blk} (U:S.own g=none) (I:g≠b):((((S.set g Z).set b X).del g).set b' Y).set b A=(S.set b' Y).set b A:=by
 unfold Mem.set Mem.del;congr 1;funext k;by_cases J:k=b <;> by_cases H:k=b' <;> by_cases C:k=g <;> simp_all
theorem ztG {S:Mem} {b g:Nat} {X Z:Blk} {l:List UInt8} (H:S.own g=none) (I:g≠b):(((S.set g Z).set b X).del g).fr g l=(S.fr g l).set b X:=by
 unfold Mem.set Mem.del Mem.fr;congr 1;funext k;by_cases C:k=b <;> by_cases A:k=g <;> simp_all
theorem WriteString (S:Mem) (b:Nat) (l:List UInt8) (T:Mem) (s:tt) (hf:Fresh S b) (h:R S b l T) (am:l.length+s.size<=140737488355328) :
  ACall prog 19 #[self b,.string s] T λr S'=>r = .tuple #[.int .i64 s.size,.nilIface]/\R S b (l ++ s.data.toList) S':=by
 obtain ⟨p,o,hp,ho,ad,rfl⟩:=h;have H:s.data.toList.length=s.size:=Array.length_toList (xs:=s.data);have X:=copyCheck (M S b p o l) b p _ hp (vf _ _ _);have ak:(M S b p o l).set b (blk (self b) (outV o l.length))=M S b (self b) o l:=Mem.set_set _ _ _ _;rw [ak] at X;have I:(M S b (self b) o l).own b=some (blk (self b) (outV o l.length)):=vf _ _ _;by_cases h0:s.size=0
 ·have e0:s.data.toList = []:=List.eq_nil_of_length_eq_zero vd;obtain ⟨A,k,c,af,hk⟩ : ∃ A k c,outV o l.length = .slice A k c/\k<=c:=by
   cases o with
   | none=>exact ⟨none,0,0,rfl,Nat.le_refl _⟩
   | some q=>exact ⟨_,_,_,rfl,(ho.own q.1 q.2 rfl).2⟩
  rw [e0,List.append_nil];refine k_E2 19 func19 ?_;refine r9_ ?_;refine ca_ rfl (X) ?_;rintro _ S9 ⟨rfl,h9⟩;rw [h9];clear h9 S9;refine r8_ ?_;refine rC ((ldB zaQ I af)) ?_;refine s1_ ?_;refine uu (zab rfl) zbn zaA hk rfl rfl h0 ?_;refine r2_ ?_;refine vk rfl rfl zeF rfl I (by show 1<2;decide) rfl ?_
  try simp only [k_ms,k_sz,k_ss,k_za,Nat.reduceAdd]
  refine r11_ ?_;refine ⟨_,M S b (self b) o l,⟨_,_,rfl,⟨_,_,rfl,rfl,rfl⟩,rfl⟩,(by rw [show (M S b (self b) o l).set b _=M S b (self b) o l from vG _ _ _ (by rw [I,af];rfl)];exact Mem.Less.refl _),?_⟩;exact ⟨rfl,self b,o,.inr rfl,ho,ad,rfl⟩
 cases o with
 | none =>
  have aj:l = []:=List.eq_nil_of_length_eq_zero (ho.nil rfl);subst aj;refine k_E2 19 func19 ?_;refine r9_ ?_;refine ca_ rfl (X) ?_;rintro _ S9 ⟨rfl,h9⟩;rw [h9];clear h9 S9;refine r8_ ?_;refine rC ((ldB zaQ I rfl)) ?_;refine s1_ ?_;refine uC (zab rfl) zbn zaA rfl rfl vd vd vd ?_;intro C V U aa;have ac:Fresh S C:=(zaa U).1;have J:b≠C:=(zaa U).2.symm;refine r2_ ?_;refine vk rfl rfl zeF rfl ((vg _ _ J).trans I) (by show 1<2;decide) rfl ?_
  try simp only [k_ms,k_sz,k_ss,k_za,Nat.reduceAdd]
  refine r2_ ?_;refine kw_ [0,1,4,5] ?_;refine r9_ ?_;refine ⟨_,M S b (self b) (some (C,V)) s.data.toList,⟨_,_,rfl,⟨_,_,rfl,rfl,rfl⟩,rfl⟩,(by unfold M;rw [ztE J,H.symm];exact Mem.Less.refl _),?_⟩;exact ⟨rfl,self b,some (C,V),.inr rfl,⟨λh=>(by cases h),λg c e=>(by cases e;exact ⟨ac,by simp only [List.nil_append];omega⟩)⟩,λg c e=>(by cases e;exact ⟨J.symm,λe=>by simp only [List.nil_append] at e;rw [e] at H;simp at H;omega⟩),rfl⟩
 | some q =>
  obtain ⟨g,c⟩:=q;have ae:=(ad g c rfl).1;have hg:=(ho.own g c rfl);have ai:(M S b (self b) (some (g,c)) l).own g=some ⟨5,cellsB l,c⟩:=(vg _ _ ae).trans (vf _ _ _);refine k_E2 19 func19 ?_;refine r9_ ?_;refine ca_ rfl (X) ?_;rintro _ S9 ⟨rfl,h9⟩;rw [h9];clear h9 S9;refine r8_ ?_;refine rC ((ldB zaQ I rfl)) ?_;refine s1_ ?_;refine ub (zab rfl) zbn zaA rfl ai (zaF l) rfl vd vd ?_;intro C V U aa;have Y:((M S b (self b) (some (g,c)) l).del g).own b=some (blk (self b) (outV (some (g,c)) l.length)):=(vj _ ae.symm).trans I;have J:b≠C:=λe=>by rw [<- e] at U;have:=U.1;rw [Y] at this;cases this
  have ag:S.own C=none:=by
   by_cases e:C=g
   ·rw [e];exact hg.1.1
   have:=U.1;rw [vj _ e] at this;unfold M at this;rw [vg _ _ J.symm] at this;exact (vg S _ e).symm.trans this
  have ac:Fresh S C:=⟨ag,U.2⟩;refine r2_ ?_;refine vk rfl rfl zeF rfl ((vg _ _ J).trans Y) (by show 1<2;decide) rfl ?_
  try simp only [k_ms,k_sz,k_ss,k_za,Nat.reduceAdd]
  refine r11_ ?_;refine ⟨_,M S b (self b) (some (C,V)) (l ++ s.data.toList),⟨_,_,rfl,⟨_,_,rfl,rfl,rfl⟩,rfl⟩,(by unfold M;show Mem.Less _ (((((S.set g _).set b _).del g).set C _).set b _);rw [ztF hg.1.1 ae,show cellsB (l ++ s.data.toList)=cellsB l ++ cellsB s.data.toList from List.map_append ..,show (l ++ s.data.toList).length=l.length+s.size from by rw [List.length_append,H]];exact Mem.Less.refl _),?_⟩;exact ⟨rfl,self b,some (C,V),.inr rfl,⟨λh=>(by cases h),λg c e=>(by cases e;exact ⟨ac,by rw [List.length_append,H];exact aa⟩)⟩,λg' c' e=>(by cases e;exact ⟨J.symm,λe=>(ad g c rfl).2 (List.append_eq_nil_iff.1 e).1⟩),rfl⟩
theorem String (S:Mem) (b:Nat) (l:List UInt8) (T:Mem) (hf:Fresh S b) (h:R S b l T) (U:l.length<=9223372036854775807) :
  ACall prog 21 #[self b] T λr S'=>r = .string (bs l)/\F S b l S':=by
 obtain ⟨p,o,hp,V,J,rfl⟩:=h;have C:(M S b p o l).own b=some (blk p (outV o l.length)):=vf _ _ _;cases o with
 | none =>
  have A:l = []:=List.eq_nil_of_length_eq_zero (V.nil rfl);subst A;refine k_E1 14 func21 ?_;refine r6_ ?_;refine dr_ [i0_,i1_,i2_,i3_,i4_,i5_,i6_,i7_,i8_,i9_,o10_,i11_] [10] ?_;refine r3_ ?_;refine dC (hc:=(ldB zaQ C rfl)) (h:=?_);refine dC (hc:=vW rfl (.inl rfl)) (h:=?_);refine r3_ ?_;refine dC (hc:=(ldB zaQ C rfl)) (h:=?_);refine s1_ ?_;refine zac rfl ?_;refine uI (zab rfl) rfl rfl ?_;refine zad ⟨nz_,?_⟩;refine r4_ ?_;refine ⟨_,M S b p none [],⟨_,_,rfl,rfl,rfl⟩,(Mem.Less.refl _),?_⟩;exact ⟨rfl,p,.inl ⟨rfl,rfl⟩⟩
 | some q =>
  obtain ⟨g,c⟩:=q;obtain ⟨H,A⟩:=J g c rfl;have X:=(V.own g c rfl);have ac:0<l.length:=List.length_pos_iff.2 A;have I:(M S b p (some (g,c)) l).own g=some ⟨5,cellsB l,c⟩:=(vg _ _ H).trans (vf _ _ _);refine ACall.seen (p:=S.ro.z g=none) (λw hv=>tf hv I) λY=>?_;refine k_E1 14 func21 ?_;refine r6_ ?_;refine dr_ [i0_,i1_,i2_,i3_,i4_,i5_,i6_,i7_,i8_,i9_,o10_,i11_] [10] ?_;refine r3_ ?_;refine dC (hc:=(ldB zaQ C rfl)) (h:=?_);refine dC (hc:=vW rfl (.inr vd)) (h:=?_);refine r3_ ?_;refine dC (hc:=(ldB zaQ C rfl)) (h:=?_);refine s1_ ?_;refine zac rfl ?_;refine td (zab rfl) underlying116 zsK rfl rfl I A U ?_;refine zad ⟨nz_,?_⟩;refine r4_ ?_;refine ⟨_,((M S b p (some (g,c)) l).del g).fr g l,⟨_,_,rfl,rfl,rfl⟩,(Mem.Less.refl _),?_⟩;exact ⟨rfl,p,.inr ⟨A,g,c,X.1,H,by omega,Y,ztG X.1.1 H⟩⟩
theorem StringF (S:Mem) (b:Nat) (l:List UInt8) (T:Mem) (h:F S b l T) (H:l.length<=9223372036854775807) :
  ACall prog 21 #[self b] T λr S'=>r = .string (bs l)/\S'=T:=by
 obtain ⟨p,⟨rfl,rfl⟩ | ⟨C,g,c,U,I,hc,J,rfl⟩⟩:=h
 ·have A:(S.set b (blk p (.slice none 0 0))).own b=some (blk p (.slice none 0 0)):=vf _ _ _;refine k_E1 14 func21 ?_;refine r6_ ?_;refine dr_ [i0_,i1_,i2_,i3_,i4_,i5_,i6_,i7_,i8_,i9_,o10_,i11_] [10] ?_;refine r3_ ?_;refine dC (hc:=(ldB zaQ A rfl)) (h:=?_);refine dC (hc:=vW rfl (.inl rfl)) (h:=?_);refine r3_ ?_;refine dC (hc:=(ldB zaQ A rfl)) (h:=?_);refine s1_ ?_;refine zac rfl ?_;refine uI (zab rfl) rfl rfl ?_;refine zad ⟨nz_,?_⟩;refine r4_ ?_;refine ⟨_,S.set b (blk p (.slice none 0 0)),⟨_,_,rfl,rfl,rfl⟩,(Mem.Less.refl _),?_⟩;exact ⟨rfl,rfl⟩
 have A:((S.fr g l).set b (blk p (.slice (some ⟨g,0,none⟩) l.length c))).own b=some (blk p (.slice (some ⟨g,0,none⟩) l.length c)):=vf _ _ _;refine k_E1 14 func21 ?_;refine r6_ ?_;refine dr_ [i0_,i1_,i2_,i3_,i4_,i5_,i6_,i7_,i8_,i9_,o10_,i11_] [10] ?_;refine r3_ ?_;refine dC (hc:=(ldB zaQ A rfl)) (h:=?_);refine dC (hc:=vW rfl (.inr hc)) (h:=?_);refine r3_ ?_;refine dC (hc:=(ldB zaQ A rfl)) (h:=?_);refine s1_ ?_;refine zac rfl ?_;refine ti (zab rfl) underlying116 zsK rfl rfl (show (if g=g then some l else S.ro.z g)=some l from if_pos rfl) C H ?_;refine zad ⟨nz_,?_⟩;refine r4_ ?_;refine ⟨_,(S.fr g l).set b (blk p (.slice (some ⟨g,0,none⟩) l.length c)),⟨_,_,rfl,rfl,rfl⟩,(Mem.Less.refl _),?_⟩;exact ⟨rfl,rfl⟩
theorem StringE (S:Mem) (b:Nat) (l:List UInt8) (T:Mem) (C:Fresh S b) (h:R S b l T) (A:l.length<=9223372036854775807) :
  ACall prog 21 #[self b] T λr S'=>r = .string (bs l)/\S'=S :=
 (String S b l T C h A).lose λv S' ⟨H,I⟩=>⟨S,I.lo C,H,rfl⟩
end Bl
end
section
open Go.RowKit
open Mv
namespace Num
def u64s (n:Nat):List tu:=[.int .u64 (n:Int)]
end Num
open Num
theorem zvP {S:Mem} {b e:Nat} {l:List Nat} {len cap room:Nat} (C:S.own b=some ⟨e,l.map (λn:Nat=>.int .u64 (n:Int)),room⟩) (A:l.length=len) (hc:len<=cap) (H:len<=9223372036854775807):Sl 1 u64s S (.slice (some ⟨b,0,none⟩) len cap) l :=
 vN (g:=λn:Nat=>.int .u64 (n:Int)) C List.prefix_rfl A hc H
abbrev RowR (S:Mem) (v:tu) (l:List Nat):Prop:=Sl 1 u64s S v l
theorem zde (S S':Mem) (v:tu) (l:List Nat) (h:RowR S v l) (A:S.Less S'):RowR S' v l:=h.less A
def idx {α : Type} (p : α->Bool) (l:List α):Int:=match l.findIdx? p with
  | some i=>(i:Nat)
  | none=>-1
theorem zvQ {α : Type} (p : α->Bool) (l:List α) (i:Nat) (h:i<l.length) (C:∀ j (A:j<i),p l[j]=false) (hi:p l[i]=true):idx p l=(i:Nat):=by
 have:l.findIdx? p=some i:=List.findIdx?_eq_some_iff_getElem.2 ⟨h,hi,λj A=>by simpa using C j A⟩;simp [idx,this]
theorem zqX {α : Type} (p : α->Bool) (l:List α) (C:∀ j (A:j<l.length),p l[j]=false):idx p l = -1:=by
 have:l.findIdx? p=none:=List.findIdx?_eq_none_iff.2 λx H=>by
  obtain ⟨j,A,rfl⟩:=List.getElem_of_mem H;exact C j A
 simp [idx,this]
theorem ztH {α : Type} (p : α->Bool) (l:List α):decide (0<=idx p l)=l.any p:=by
 by_cases h:l.any p=true
 ·rw [h];have A:(l.findIdx? p).isSome=true:=by rw [List.findIdx?_isSome];exact h
  obtain ⟨i,hi⟩:=Option.isSome_iff_exists.1 A;simp [idx,hi]
 have h':l.any p=false:=by simpa using h
 rw [h'];have A:(l.findIdx? p).isSome=false:=by rw [List.findIdx?_isSome];exact h'
 have:l.findIdx? p=none:=by simpa using A
 simp [idx,this]
theorem zc1 (l m:List UInt8):cellsB (l ++ m)=cellsB l ++ cellsB m:=by simp [cellsB]
theorem zgP (l:List UInt8):∀ v ∈ cellsB l,v.oneCell'=true:=λv A=>by obtain ⟨c,_,rfl⟩:=List.mem_map.1 A;rfl
end
section
open Go.RowKit
open Mv Num
namespace Num
theorem zff (n k:Nat):IntKind.u8.wrap ((n:Int) / 2 ^ k)=nb (UInt8.ofNat (n / 2 ^ k)):=by
 rw [<- zsH];congr 1
theorem zvR (a:Nat) (c:UInt8) (h:a<4294967296):bits .or .u64 (IntKind.u64.wrap ((a:Int)*2 ^ (8:Int).toNat)) (nb c)=((256*a+c.toNat:Nat):Int):=by
 have hc:=c.toNat_lt;have e:(a:Int)*2 ^ (8:Int).toNat=((a*2 ^ 8:Nat):Int):=by rw [show (8:Int).toNat=8 from rfl];omega
 rw [e,IntWalk.u64_in _ vd,nb_byte,zqS _ _ vd vd,Nat.or_comm,zjQ _ _ _ vd];omega
end Num
theorem zfT (n:Nat) (S:Mem) (H:n<18446744073709551616) :
  ACall prog 45 #[.int .u64 n] S λr S'=>r = .agg (cellsB (five n)).toArray/\S'=S:=by
 have e0:=zff n 32;have e1:=zff n 24;have e2:=zff n 16;have e3:=zff n 8
 have e4:=zsH n;refine k_E1 18 func45 ?_;refine r2_ ?_;refine ARun.alloc (zab rfl) zcT ?_;intro I C;have A:=C
 repeat ((with_reducible replace A:=zaa A);obtain ⟨A,_⟩:=A)
 refine nl_ ?_;refine r6_ ?_;refine rC (Calm.conv rfl (zbz underlying27 underlying5 e0)) ?_;refine r2_ ?_;refine rC (Calm.conv rfl (zbz underlying27 underlying5 e1)) ?_;refine r2_ ?_;refine rC (Calm.conv rfl (zbz underlying27 underlying5 e2)) ?_;refine r2_ ?_;refine rC (Calm.conv rfl (zbz underlying27 underlying5 e3)) ?_;refine s1_ ?_;refine rC (Calm.conv rfl (zbz underlying27 underlying5 e4)) ?_;refine rC (um (cs:=[_,_,_,_,_]) zlU rfl rfl) ?_;refine r4_ ?_;refine ⟨_,S,⟨_,_,_,rfl,.inr ⟨zgx,[_,_,_,_,_],zdI,rds_,rfl⟩,rfl,rfl⟩,zae,?_⟩;exact ⟨rfl,rfl⟩
theorem zj0 (n:Nat) (S:Mem) :
  ACall prog 44 #[.int .u64 n] S λr S'=>r = .bool (decide (top<=n))/\S'=S:=by
 have e:decide ((1099511627776:Int)<=(n:Int))=decide (top<=n):=by rw [Bool.eq_iff_iff];simp [top];omega
 refine k_E1 5 func44 ?_;refine r8_ ?_;refine rC (vi rfl rfl (zag (zcP _ _) e)) ?_;refine r4_ ?_;refine ⟨_,S,⟨_,_,rfl,rfl,rfl⟩,zae,?_⟩;exact ⟨rfl,rfl⟩
theorem zgl (l:List Nat) (v:tu) (S:Mem) (hv:Sl 1 u64s S v l) :
  ACall prog 42 #[v,.func (.func 44) #[] #[]] S λr S'=>r = .int .i64 (idx (λn=>decide (top<=n)) l)/\S'=S:=by
 obtain ⟨a,cap,rfl,ag,U,hk⟩:=hv;refine k_E2 19 func42 ?_;refine r14_ ?_;refine AWP.loop (X:=Nat) (λx=>[(0,.slice a l.length cap),(1,.func (.func 44) #[] #[]),(7,.int .i64 l.length),(8,.int .i64 x)]) (λx=>S) (λx=>x<=l.length /\ ∀ j (H:j<l.length),j<x->decide (top<=l[j])=false) (λx=>l.length-x) (0) ⟨rfl,rfl,rfl,rfl,trivial⟩ (Mem.Less.refl _) (⟨Nat.zero_le _,λj _ h=>absurd h (Nat.not_lt_zero _)⟩) ?_;rintro k ⟨ae,C⟩;(try dsimp only at *);refine r6_ ?_;refine vp rfl (λA=>?_) (λA=>?_)
 ·have A:k<l.length:=by have:=of_decide_eq_true A;omega
  obtain ⟨b,off,rfl,J⟩:=hk.resolve_left (by intro h;rw [h] at A;exact absurd A (Nat.not_lt_zero _));have af:=J k A;refine r17_ ?_;refine vq (zab rfl) zwZ rfl rfl (zj0 l[k] S) ?_;rintro _ S1 ⟨rfl,V⟩;rw [V];clear V S1;refine r2_ ?_;refine vp rfl (λI=>?_) (λI=>?_)
  ·refine r6_ ?_;refine r6_ ?_;refine ⟨_,S,⟨_,_,rfl,rfl,rfl⟩,zae,?_⟩;exact ⟨by rw [zvQ _ _ k A (λj H=>C j vd H) I];rfl,rfl⟩
  refine r8_ ?_;refine ⟨k+1,?_,?_,?_,?_⟩<;>try dsimp only
  ·exact ⟨rfl,rfl,rfl,rfl,trivial⟩
  ·exact Mem.Less.refl _
  ·exact ⟨A,λj H Y=>by rcases Nat.lt_or_ge j k with h | h;exact C j H h;obtain rfl:j=k:=vd;exact I⟩
  omega
 have A:k=l.length:=by have:=of_decide_eq_false A;omega
 refine r11_ ?_;refine ⟨_,S,⟨_,_,rfl,rfl,rfl⟩,zae,?_⟩;exact ⟨by rw [zqX _ _ (λj H=>C j H vd)];rfl,rfl⟩
theorem zcI (l:List Nat) (v:tu) (S:Mem) (A:Sl 1 u64s S v l) :
  ACall prog 15 #[v,.func (.func 44) #[] #[]] S λr S'=>r = .bool (l.any λn=>decide (top<=n))/\S'=S:=by
 have C:=ztH (λn=>decide (top<=n)) l;obtain ⟨a,cap,rfl,_⟩:=id A;refine k_E2 9 func15 ?_;refine r9_ ?_;refine cp_ rfl (zgl l _ S A) ?_;refine rC (vi rfl rfl (zag (zcP _ _) C)) ?_;refine r4_ ?_;refine ⟨_,S,⟨_,_,rfl,rfl,rfl⟩,zae,?_⟩;exact ⟨rfl,rfl⟩
theorem zmf (l:List Nat):recOK l=(!(decide (l.length<1) || (decide (8<l.length) || l.any λn=>decide (top<=n)))):=by
 unfold recOK;rw [Bool.eq_iff_iff];simp only [Bool.and_eq_true,decide_eq_true_eq,List.all_eq_true,Bool.not_eq_true',Bool.or_eq_false_iff,decide_eq_false_iff_not,List.any_eq_false];constructor
 ·rintro ⟨⟨H,I⟩,C⟩;exact ⟨by omega,by omega,λx A=>by have:=C x A;omega⟩
 rintro ⟨H,I,C⟩;exact ⟨⟨by omega,by omega⟩,λx A=>by have:=C x A;omega⟩
theorem zj1 (l:List Nat) (v:tu) (S:Mem) (hv:Sl 1 u64s S v l) (hb:∀ x ∈ l,x<18446744073709551616) :
  ACall prog 18 #[v] S λr S'=>r=pairV (recP l)/\S'=S:=by
 have hq:=zmf l;unfold recP;obtain ⟨a,cap,rfl,ax,ak,hk⟩:=id hv;by_cases V:l.length<1
 ·rw [if_neg (by rw [hq];simp [V])];refine k_E1 38 func18 ?_;refine r23_ ?_;refine cT_ ?_;refine r8_ ?_;refine ⟨_,S,⟨_,_,rfl,⟨_,_,rfl,rfl,rfl⟩,rfl⟩,zae,?_⟩;exact ⟨rfl,rfl⟩
 by_cases c2:8<l.length
 ·rw [if_neg (by rw [hq];simp [c2])];refine k_E1 38 func18 ?_;refine r23_ ?_;refine cT_ ?_;refine r8_ ?_;refine ⟨_,S,⟨_,_,rfl,⟨_,_,rfl,rfl,rfl⟩,rfl⟩,zae,?_⟩;exact ⟨rfl,rfl⟩
 cases J:l.any λn=>decide (top<=n) with
 | true =>
  rw [if_neg (by rw [hq,J];simp)];refine k_E1 38 func18 ?_;refine r19_ ?_;refine vv 8 false 16 rfl (zab rfl) rfl (zab rfl) ztl rfl (zcI l _ S hv) ?_;rintro _ S1 ⟨rfl,I⟩;rw [I,J];clear I S1;refine r3_ ?_;refine cT_ ?_;refine r8_ ?_;refine ⟨_,S,⟨_,_,rfl,⟨_,_,rfl,rfl,rfl⟩,rfl⟩,zae,?_⟩;exact ⟨rfl,rfl⟩
 | false =>
  rw [if_pos (by rw [hq,J];simp only [V,c2,decide_false];rfl)];have az:=List.any_eq_false.1 J;obtain ⟨b0,off,rfl,ac⟩:=hk.resolve_left (by intro h;rw [h] at V;simp at V);refine k_E1 38 func18 ?_;refine r19_ ?_;refine vv 8 false 16 rfl (zab rfl) rfl (zab rfl) ztl rfl (zcI l _ S hv) ?_;rintro _ S1 ⟨rfl,I⟩;rw [I,J];clear I S1;refine r3_ ?_;refine cF_ ?_;refine r7_ ?_;refine vS (zab rfl) zbn rfl rfl vd vd vd vd ?_;intro ag aj;have A:=aj
  repeat ((with_reducible replace A:=zaa A);obtain ⟨A,_⟩:=A)
  refine r3_ ?_;refine kw_ [0,2,3,19,4] ?_;have em:(5*(l.length:Int)).toNat=5*l.length:=by omega
  simp only [em,Nat.mul_one,zaT,Int.toNat_zero,List.replicate_zero];refine r9_ ?_;refine AWP.loop (X:=Nat × Option (Nat × Nat)) (λx=>[(4,outV x.2 (5*x.1)),(24,.slice (some ⟨b0,off,none⟩) l.length cap),(25,.int .i64 l.length),(26,.int .i64 x.1)]) (λx=>outM S x.2 5 (cellsB (recB (l.take x.1)))) (λx=>x.1<=l.length/\OkO S x.2 (5*x.1)) (λx=>l.length-x.1) ((0,some (ag,5*l.length))) ⟨rfl,rfl,rfl,rfl,trivial⟩ (Mem.Less.refl _) (⟨Nat.zero_le _,zbE A (Nat.zero_le _)⟩) ?_;rintro ⟨k,o⟩ ⟨aw,Y⟩;(try dsimp only at *);refine r6_ ?_;refine vp rfl (λC=>?_) (λC=>?_)
  ·have C:k<l.length:=(by have:=of_decide_eq_true C;omega);have av:=(ac k C).less (zaG (e:=5) (cs:=cellsB (recB (l.take k))) Y);have H:(cellsB (recB (l.take k))).length=5*k:=(by rw [zaF,za2,List.length_take];omega);have au:=zc0 l[k];refine r14_ ?_;refine cp_ rfl (zfT l[k] _ (hb _ (List.getElem_mem _))) ?_;refine ARun.alloc (zab rfl) zcT ?_;intro b7 f7;have U:=f7
   repeat ((with_reducible replace U:=zaa U);obtain ⟨U,_⟩:=U)
   refine nl_ ?_;refine r6_ ?_;refine vF (zab rfl) zbn rfl H (zcf Y H U) rfl (news:=cellsB (five l[k])) rds_ rfl vd (zgP _) vd vd ?_;intro ae af ah;rw [<- zc1,<- ziB,<- List.take_succ_eq_append_getElem C];refine r9_ ?_;refine ⟨(k+1,some (ae,af)),?_,?_,?_,?_⟩<;>try dsimp only
   ·exact ⟨rfl,rfl,rfl,zan vd,trivial⟩
   ·exact Mem.Less.refl _
   ·exact ⟨C,ah⟩
   omega
  have C:k=l.length:=by have:=of_decide_eq_false C;omega
  subst C;rw [List.take_length];obtain ⟨bo,co,rfl⟩:=Y.some vd;refine r8_ ?_;refine rC (vT zbs zaA rfl (za2 l) (zp5 _ _ _ _ _)) ?_;refine r5_ ?_;refine ⟨_,S,⟨_,_,rfl,⟨_,_,rfl,rfl,rfl⟩,rfl⟩,zaG Y,?_⟩;exact ⟨rfl,rfl⟩
end
section
open Go.RowKit
open Mv Num
theorem zn9 (s:tt) (S:Mem) (J:5<=s.size) (hs:s.size<=9223372036854775807) :
  ACall prog 72 #[.string s] S λr S'=>r = .int .u64 (ofB (s.data.toList.take 5):Nat)/\S'=S:=by
 have H:=zfQ s;refine k_E1 17 func72 ?_;refine r17_ ?_;refine AWP.loop (X:=Nat) (λx=>[(0,.string s),(3,.int .u64 (ofB (s.data.toList.take x):Nat)),(5,.int .i64 x)]) (λx=>S) (λx=>x<=5) (λx=>5-x) (0) ⟨rfl,rfl,rfl,trivial⟩ (Mem.Less.refl _) (Nat.zero_le _) ?_;rintro k I;(try dsimp only at *);refine r6_ ?_;refine vp rfl (λA=>?_) (λA=>?_)
 ·have A:k<5:=by have:=of_decide_eq_true A;omega
  have C:=zvR (ofB (s.data.toList.take k)) (at8 s.data.toList k) (ziA _ _ vd);rw [<- zkY _ _ vd] at C;refine r27_ ?_;refine ⟨k+1,?_,?_,?_,?_⟩<;>try dsimp only
  ·exact ⟨rfl,zan C,zan vd,trivial⟩
  ·exact Mem.Less.refl _
  ·exact A
  omega
 have A:k=5:=by have:=of_decide_eq_false A;omega
 subst A;refine r12_ ?_;refine ⟨_,S,⟨_,_,rfl,rfl,rfl⟩,zae,?_⟩;exact ⟨rfl,rfl⟩
/-! ### The document's -/
end
section
open Go.RowKit
open Mv Disk Num
namespace Rec
theorem zfg (w:Nat) (S:Mem) (C:w<=8):ACall prog 70 #[.int .i64 (w:Int)] S λr S'=>r = .int .i64 ((eachN w:Nat):Int)/\S'=S:=by
 unfold eachN;by_cases A:w=0
 ·subst A;refine k_E1 7 func70 ?_;refine r12_ ?_;refine cT_ ?_;refine r7_ ?_;refine ⟨_,S,⟨_,_,rfl,rfl,rfl⟩,zae,?_⟩;exact ⟨rfl,rfl⟩
 rw [if_neg A];refine k_E1 7 func70 ?_;refine r12_ ?_;refine cF_ ?_;refine r10_ ?_;refine ⟨_,S,⟨_,_,rfl,rfl,rfl⟩,zae,?_⟩;exact ⟨by rw [show ((5*w:Nat):Int)=5*(w:Int) from by omega];rfl,rfl⟩
theorem zc2 {k c:Nat} (A:k<=8) (hc:c<=65536):0<=((eachN k:Nat):Int)*(c:Int)/\((eachN k:Nat):Int)*(c:Int)<=2621440/\((eachN k:Nat):Int)*(c:Int)=((eachN k*c:Nat):Int):=by
 have:=Nat.mul_le_mul (zfe A) hc;have e:((eachN k:Nat):Int)*(c:Int)=((eachN k*c:Nat):Int):=by push_cast;rfl
 rw [e];omega
def needV (p:Int × Int):tu:=.tuple #[.int .i64 p.1,.int .i64 p.2]
theorem zfh (w:Int) (c:Nat) (S:Mem):ACall prog 47 #[.int .i64 w,.int .u64 (c:Int)] S λr S'=>r=needV (needP w c)/\S'=S:=by
 unfold needV needP;by_cases I:w<0
 ·rw [if_pos (.inl I)];refine k_E2 25 func47 ?_;refine r21_ ?_;refine cT_ ?_;refine r8_ ?_;refine ⟨_,S,⟨_,_,rfl,⟨_,_,rfl,rfl,rfl⟩,rfl⟩,zae,?_⟩;exact ⟨rfl,rfl⟩
 by_cases H:8<w
 ·rw [if_pos (.inr (.inl H))];refine k_E2 25 func47 ?_;refine r21_ ?_;refine cT_ ?_;refine r8_ ?_;refine ⟨_,S,⟨_,_,rfl,⟨_,_,rfl,rfl,rfl⟩,rfl⟩,zae,?_⟩;exact ⟨rfl,rfl⟩
 by_cases A:65536<c
 ·rw [if_pos (.inr (.inr A))];refine k_E2 25 func47 ?_;refine r21_ ?_;refine cT_ ?_;refine r8_ ?_;refine ⟨_,S,⟨_,_,rfl,⟨_,_,rfl,rfl,rfl⟩,rfl⟩,zae,?_⟩;exact ⟨rfl,rfl⟩
 rw [if_neg vd];obtain ⟨k,rfl⟩:=Int.eq_ofNat_of_zero_le (by omega:0<=w);obtain ⟨U,J,C⟩:=zc2 (k:=k) (c:=c) vd vd;refine k_E2 25 func47 ?_;refine r21_ ?_;refine cF_ ?_;refine r5_ ?_;refine cp_ rfl (zfg k S vd) ?_;refine r11_ ?_;refine kw_ [0,1,4,5,15] ?_;refine s1_ ?_;refine ⟨_,S,⟨_,_,rfl,⟨_,_,rfl,rfl,rfl⟩,rfl⟩,zae,?_⟩;exact ⟨by rw [C,Int.toNat_natCast,show (1+(((eachN k*c:Nat):Int)+64-1) / 64)=((needN k c:Nat):Int) from by unfold needN;omega];rfl,rfl⟩
theorem zgQ (s:tt) (S:Mem) (hs:s.size<=140737488355328):ACall prog 49 #[.string s] S λr S'=>r = .string (padS s)/\S'=S:=by
 by_cases A:s.size % 64=0
 ·have e:padS s=s:=by unfold padS;rw [A];simp [bs_of]
  rw [e];refine k_E1 15 func49 ?_;refine r20_ ?_;refine cF_ ?_;refine r9_ ?_;refine ⟨_,S,⟨_,_,rfl,rfl,rfl⟩,zae,?_⟩;exact ⟨rfl,rfl⟩
 have e:padS s=s ++ bs (List.replicate (64-s.size % 64) 0):=by
  unfold padS;apply zbG;rw [Nat.mod_eq_of_lt vd];simp [bs]
 have C:∀ S,ACall prog 100 #[.string ⟨#[0]⟩,.int .i64 (64-((s.size % 64:Nat):Int))] S λr S'=>r = .string (bs (List.replicate (64-s.size % 64) 0))/\S'=S:=λS=>vR λw=>by
  have:=Tryz.strings_Repeat ⟨#[0]⟩ (64-s.size % 64) w vd (by show 1*_<=_;omega);rw [show (⟨#[0]⟩ : tt).data.toList = [0] from rfl,zfL] at this;rw [show (64-((s.size % 64:Nat):Int))=((64-s.size % 64:Nat):Int) from by omega];exact this
 have H:(bs (List.replicate (64-s.size % 64) (0:UInt8))).size=64-s.size % 64:=by rw [zaJ];simp
 rw [e];refine k_E1 15 func49 ?_;refine r20_ ?_;refine kw_ [0,2,3,8] ?_;refine cT_ ?_;refine r4_ ?_;refine cp_ rfl (C _) ?_;refine r11_ ?_;refine ⟨_,S,⟨_,_,rfl,rfl,rfl⟩,zae,?_⟩;exact ⟨rfl,rfl⟩
theorem zmg (k:Nat) (S:Mem) (H:k<=8):ACall prog 105 #[.int .i64 (k:Int)] S λr S'=>∃ b,Fresh S b/\r = .slice (some ⟨b,0,none⟩) 1 1/\S'=S.set b ⟨5,cellsB [UInt8.ofNat k],1⟩:=by
 have e:nb (UInt8.ofNat k)=(k:Int):=by unfold nb;rw [UInt8.toNat_ofNat'];omega
 unfold cellsB;simp only [List.map_cons,List.map_nil,e];refine k_E1 6 func105 ?_;refine r9_ ?_;refine vu (zab rfl) zbn rfl rfl ?_;intro I C;have A:=C
 repeat ((with_reducible replace A:=zaa A);obtain ⟨A,_⟩:=A)
 refine r4_ ?_;refine ⟨_,_,⟨_,_,rfl,rfl,rfl⟩,zae,?_⟩;exact ⟨_,C,rfl,rfl⟩
theorem zgR (k c:Nat) (S:Mem) (hk:k<=8) (hc:c<18446744073709551616):ACall prog 52 #[.int .i64 (k:Int),.int .u64 (c:Int)] S λr S'=>r = .string (headS k c)/\S'=S:=by
 have U:(five c).length=5:=rfl;have V:((⟨#[87,82]⟩ : tt) ++ bs [UInt8.ofNat k]) ++ bs (five c)=preS k c:=by
  unfold preS;apply zbG;simp [bs]
 have A:(preS k c).size=8:=by unfold preS;rw [zaJ];simp [U]
 have H:frameS (preS k c)=(preS k c ++ Crc.tailS (sumOf (preS k c)),0):=by unfold frameS;rw [if_neg vd]
 have I:(preS k c ++ Crc.tailS (sumOf (preS k c))).size=12:=by rw [ByteArray.size_append,A,Crc.zbZ]
 have hF:∀ S,ACall prog 104 #[.string (((⟨#[87,82]⟩ : tt) ++ bs [UInt8.ofNat k]) ++ bs (five c))] S λr S'=>r = .tuple #[.string (preS k c ++ Crc.tailS (sumOf (preS k c))),.int .i64 0]/\S'=S:=λS=>vR λw=>by
  rw [V];have:=zn2 (preS k c) (by rw [A];decide) w;rw [H] at this;exact this
 have Y:(⟨#[87,82]⟩ : tt).size=2:=rfl;have z2:(bs [UInt8.ofNat k]).size=1:=rfl;have z3:((⟨#[87,82]⟩ : tt) ++ bs [UInt8.ofNat k]).size=3:=by rw [ByteArray.size_append,Y,z2]
 have z4:(bs (five c)).size=5:=rfl;unfold headS;refine k_E2 23 func52 ?_;refine r8_ ?_;refine cp_ rfl (zfT c _ hc) ?_;refine ARun.alloc (zab rfl) zcT ?_;intro b5 X;have C:=X
 repeat ((with_reducible replace C:=zaa C);obtain ⟨C,_⟩:=C)
 refine nl_ ?_;refine v8 rfl rfl zdI own_ rfl rfl ?_
 try simp only [k_ms,k_sz,k_ss,k_za,Nat.reduceAdd]
 refine r3_ ?_;refine dr_ [i0_,i4_,i5_,o1_,o2_,i3_,i6_,o7_,i8_,i9_,i10_,i11_,i12_] [] ?_;refine r2_ ?_;refine dC (hc:=vT (l:=five c) zbs zaA rfl U (zb_ (r:=⟨_,cellsB (five c),_⟩) own_)) (h:=?_);refine zac rfl ?_;refine ca_ rfl (zmg k _ hk) ?_;rintro _ S1 ⟨b,fb,rfl,J⟩;rw [J];clear J S1;have gb:=(zaa fb).1;refine zad ⟨ny_,?_⟩;refine zac rfl ?_;refine rC (vT (l:=[UInt8.ofNat k]) zbs zaA rfl rfl (zb_ (r:=⟨_,cellsB [UInt8.ofNat k],_⟩) own_)) ?_;refine zad ⟨ny_,?_⟩;refine r2_ ?_;refine zac rfl ?_;refine cp_ rfl (hF _) ?_;refine zad ⟨ny_,?_⟩;refine r10_ ?_;refine cp_ rfl (zgQ _ _ (by rw [I];decide)) ?_;refine r4_ ?_;refine ⟨_,S,⟨_,_,rfl,rfl,rfl⟩,zae,?_⟩;exact ⟨rfl,rfl⟩
end Rec
end
section
open Go.RowKit
open Mv Disk Num
namespace Rec
theorem zb8 {S:Mem} {p:Nat} {e:D} {oE oW:Option (Nat × Nat)} (A:OkV S p e oE oW) (h:e.ext.length<=9223372036854775807/\e.waits.length<=9223372036854775807) :
  ∃ J U qw V,(devM S p e oE oW).own p=some ⟨107,[.int .i64 e.size,.slice J e.ext.length U,.slice qw e.waits.length V,.int .i64 e.fuse,.bool e.down],5⟩ /\
   DkR (devM S p e oE oW) (.agg #[.int .i64 e.size,.slice J e.ext.length U,.slice qw e.waits.length V,.int .i64 e.fuse,.bool e.down]) e/\S.Less (devM S p e oE oW):=by
 have C:=(A.dk.dk h.1 h.2).less (vh _ p (devB e oE oW) A.fr.1);have Y:=A.dk.less.trans (vh _ p (devB e oE oW) A.fr.1);have X:(devM S p e oE oW).own p=some (devB e oE oW):=vf _ _ _;unfold dkV at C;unfold devB at X C Y;obtain ⟨J,U,I⟩:=zbj A.dk.e;obtain ⟨qw,V,H⟩:=zbj A.dk.w;rw [I,H] at X C Y;refine ⟨J,U,qw,V,X,?_,?_⟩
 ·unfold devM;rw [I,H];exact C
 unfold devM;rw [I,H];exact Y
abbrev bx (d:D) (pe:Option Addr) (ce:Nat) (pw:Option Addr) (cw:Nat):Blk:=⟨31,[.int .i64 d.size,.slice pe d.ext.length ce,.slice pw d.waits.length cw,.int .i64 d.fuse,.bool d.down],5⟩
abbrev zb:Blk:=⟨31,[.int .i64 0,.slice none 0 0,.slice none 0 0,.int .i64 0,.bool false],5⟩
theorem ziH (d:D):(openD d).1.ext.length<=9223372036854775807/\(openD d).1.waits.length<=9223372036854775807:=by
 rcases zcV d with ⟨C,A⟩ | ⟨C,A,H⟩ | ⟨C,A,H⟩ <;> rw [C]
 ·exact ⟨by decide,by decide⟩
 ·exact zaK A
 exact zaK A
theorem zj2 (v:tu) (d:D) (S:Mem) (hd:DkR S v d) (hz:Dz d):ACall prog 17 #[v] S (DkRes (refD d) S):=by
 have A:=zd1 v d S hd hz;have H:=ziH d;obtain ⟨pe,ce,pw,cw,rfl,hE,hW⟩:=id hd;unfold refD;refine k_E1 15 func17 ?_;refine r2_ ?_;refine k_b5 rfl ?_;intro b1 f1;have V:=f1
 repeat ((with_reducible replace V:=zaa V);obtain ⟨V,_⟩:=V)
 refine nl_ ?_;refine ARun.alloc (zab rfl) zaC ?_;intro b2 f2;have U:=f2
 repeat ((with_reducible replace U:=zaa U);obtain ⟨U,_⟩:=U)
 refine nl_ ?_;refine r6_ ?_;refine ca_ rfl ((A.frame f1).frame f2) ?_;rintro _ S1 ⟨Sa,⟨M,⟨p,oE,oW,X,rfl,hM⟩,fa,C⟩,fb,h1⟩;rw [h1,C];rw [C] at fb;clear h1 S1 C Sa;obtain ⟨qe,de,qw,dw,I,J,hl⟩:=zb8 X H;rw [<- hM] at I J hl;obtain ⟨Y,_⟩:=zaa fb;have:=fa.ne I;have:=fa.ne' I;have:=Y.ne I;have:=Y.ne' I
 refine r18_ ?_;refine ⟨_,M,⟨_,_,_,rfl,.inr ⟨zax,[_,_,_,_,_],zar,rds_,rfl⟩,⟨_,_,rfl,rfl,rfl⟩,rfl⟩,zae,?_⟩;exact ⟨_,rfl,hl,J⟩
theorem zqY (x:tt) (j:Nat) (h:64*j+64<=x.size):(x.extract (64*j) x.size).extract 0 64=secAt x j:=by
 unfold secAt;rw [ByteArray.extract_extract];congr 1;omega
theorem zn_ (x:tt) (j:Nat) (h:64*j+64<=x.size):(x.extract (64*j) x.size).extract 64 (x.extract (64*j) x.size).size=x.extract (64*(j+1)) x.size:=by
 rw [ByteArray.extract_extract,ByteArray.size_extract];congr 1 <;> omega
theorem zmh {d:D} (C:Right d) (A:d.down=false) (H:d.fuse<=9223372036854775807) (s all:tt) (k:Nat):(putTo d s all k).1.ext.length<=9223372036854775807/\(putTo d s all k).1.waits.length<=9223372036854775807 :=
 zaK (zcH C A H s all k).1
theorem ztI (v:tu) (d:D) (s:tt) (k c:Nat) (body:tt) (S:Mem) (hd:DkR S v d) (hz:Dz d) (hk:k<=8) (hc:c<=65536) (hb:body.size=eachN k*c) :
  ACall prog 20 #[v,.string s,.int .i64 (k:Int),.int .i64 (c:Int),.string body] S (DkRes (opened d (putP d s k c body)) S):=by
 have ae:=zd1 v d S hd hz;have an:=ziH d;have aM:needP (k:Int) c=(((needN k c:Nat):Int),0):=by unfold needP;rw [if_neg vd,Int.toNat_natCast]
 have hN:=zfh (k:Int) c;have a3:=λS=>zgR k c S hk vd;rw [aM] at hN;have bq:=za7 k c;have br:=zhD hk hc;have bm:(padS body).size=64*(needN k c-1):=by rw [zdd,hb];unfold needN;omega
 have bi:body.size<=140737488355328:=by have:=(zc2 hk hc).2;rw [hb];omega
 have aD:=λS=>zgQ body S bi;unfold putP;generalize needN k c=n at *;generalize padS body=all at *;generalize headS k c=hs at *;obtain ⟨pe,ce,pw,cw,rfl,hE,hW⟩:=id hd;unfold opened;rcases zcV d with ⟨ho,hR⟩ | ⟨ho,hR,aU⟩ | ⟨ho,hR,aU⟩ <;> rw [ho] at ae ⊢ an
 ·rw [if_neg (show ¬ (2:Int)=0 from by decide)];refine k_E5 81 func20 ?_;refine r2_ ?_;refine k_b5 rfl ?_;intro b5 f5;have g5:=f5
  repeat ((with_reducible replace g5:=zaa g5);obtain ⟨g5,_⟩:=g5)
  refine nl_ ?_;refine ARun.alloc (zab rfl) zaC ?_;intro aj ad;have C:=ad
  repeat ((with_reducible replace C:=zaa C);obtain ⟨C,_⟩:=C)
  refine nl_ ?_;refine r6_ ?_;refine ca_ rfl ((ae.frame f5).frame ad) ?_;rintro _ S1 ⟨Sa,⟨M,⟨p,oE,oW,I,rfl,hM⟩,fa,A⟩,fb,Y⟩;rw [Y,A];rw [A] at fb;clear Y S1 A Sa;refine r14_ ?_;refine cT_ ?_;obtain ⟨qe,de,qw,dw,H,U,hl⟩:=zb8 I an;rw [<- hM] at H U hl;obtain ⟨gb,_⟩:=zaa fb;have:=fa.ne H;have:=fa.ne' H;have:=gb.ne H;have:=gb.ne' H
  refine r13_ ?_;refine ⟨_,M,⟨_,_,_,rfl,.inr ⟨zax,[_,_,_,_,_],zar,rds_,rfl⟩,⟨_,_,rfl,rfl,rfl⟩,rfl⟩,zae,?_⟩;exact ⟨_,rfl,hl,U⟩
 ·rw [if_neg (show ¬ (10:Int)=0 from by decide)];refine k_E5 81 func20 ?_;refine r2_ ?_;refine k_b5 rfl ?_;intro b5 f5;have g5:=f5
  repeat ((with_reducible replace g5:=zaa g5);obtain ⟨g5,_⟩:=g5)
  refine nl_ ?_;refine ARun.alloc (zab rfl) zaC ?_;intro aj ad;have C:=ad
  repeat ((with_reducible replace C:=zaa C);obtain ⟨C,_⟩:=C)
  refine nl_ ?_;refine r6_ ?_;refine ca_ rfl ((ae.frame f5).frame ad) ?_;rintro _ S1 ⟨Sa,⟨M,⟨p,oE,oW,I,rfl,hM⟩,fa,A⟩,fb,Y⟩;rw [Y,A];rw [A] at fb;clear Y S1 A Sa;refine r14_ ?_;refine kw_ [0,1,2,3,4,5,10,11,12,13,23] ?_;refine cT_ ?_;obtain ⟨qe,de,qw,dw,H,U,hl⟩:=zb8 I an;rw [<- hM] at H U hl;obtain ⟨gb,_⟩:=zaa fb;have:=fa.ne H;have:=fa.ne' H;have:=gb.ne H;have:=gb.ne' H
  refine r13_ ?_;refine ⟨_,M,⟨_,_,_,rfl,.inr ⟨zax,[_,_,_,_,_],zar,rds_,rfl⟩,⟨_,_,rfl,rfl,rfl⟩,rfl⟩,zae,?_⟩;exact ⟨_,rfl,hl,U⟩
 rw [if_pos rfl];by_cases av:(newD d s (n:Int)).2=0
 ·rw [if_neg vd];obtain ⟨aT,a0,aA,_⟩:=(zjP (s:=s) (n:=(n:Int)) hR aU).2 av;have aA:(newD d s (n:Int)).1.fuse<=9223372036854775807:=by rw [aA];exact hz.f1
  have V:=zcH aT a0 aA s all;have au:=zmh aT a0 aA s all;have a5:=λj=>zjT (d:=(newD d s (n:Int)).1) (s:=s) (all:=all) (k:=j);have ax:putTo (newD d s (n:Int)).1 s all 0=((newD d s (n:Int)).1,0):=rfl;have be:∀ j,(putTo (newD d s (n:Int)).1 s all j).2=0->putTo (newD d s (n:Int)).1 s all (j+1)=writeD (putTo (newD d s (n:Int)).1 s all j).1 s ((j+1:Nat):Int) (secAt all j):=λj h=>by rw [putTo,if_pos h]
  have aZ:=zis hR s (n:Int);have aB:=λ(p:Nat) (oE oW) (I:OkV S p d oE oW)=>zjH p d s (n:Int) S oE oW I hR;rw [show newD d s (n:Int)=((newD d s (n:Int)).1,0) from Prod.ext rfl av] at aB;generalize (newD d s (n:Int)).1=e1 at *;generalize hP:putTo e1 s all=P at *;refine k_E5 81 func20 ?_;refine r2_ ?_;refine k_b5 rfl ?_;intro b5 f5;have g5:=f5
  repeat ((with_reducible replace g5:=zaa g5);obtain ⟨g5,_⟩:=g5)
  refine nl_ ?_;refine ARun.alloc (zab rfl) zaC ?_;intro aj ad;have C:=ad
  repeat ((with_reducible replace C:=zaa C);obtain ⟨C,_⟩:=C)
  refine nl_ ?_;refine r6_ ?_;refine ca_ rfl ((ae.frame f5).frame ad) ?_;rintro _ S1 ⟨Sa,⟨M,⟨p,oE,oW,I,rfl,hM⟩,fa,A⟩,fb,Y⟩;rw [Y,A];rw [A] at fb;clear Y S1 A Sa;refine r14_ ?_;refine cF_ ?_;refine r7_ ?_;refine cp_ rfl (hN _) ?_;refine r14_ ?_;refine kw_ [0,1,2,3,4,5,10,11,12,13,23,14,37] ?_;refine cT_ ?_;rw [hM] at fa fb ⊢;refine r4_ ?_;refine ca_ rfl (((aB p oE oW I).frame fa).frame fb) ?_;rintro _ S1 ⟨Sa,⟨M3,⟨aq,ao,ac,rfl,ak⟩,aa,A⟩,J,Y⟩;rw [Y,A];rw [A] at J;clear Y S1 A Sa;rw [ak] at aa J ⊢;refine r7_ ?_;refine cp_ rfl (aD _) ?_;refine r5_ ?_;refine AWP.loop (X:=Nat × Option (Nat × Nat) × Option (Nat × Nat)) (λx=>[(1,.string s),(2,.int .i64 (k:Int)),(3,.int .i64 (c:Int)),(10,.pointer (some ⟨aj,0,none⟩)),(12,.pointer (some ⟨p,0,none⟩)),(13,.int .i64 (P x.1).2),(14,.int .i64 ((n:Nat):Int)),(15,.int .i64 ((x.1+1:Nat):Int)),(16,.string (all.extract (64*x.1) all.size))]) (λx=>((devM S p (P x.1).1 x.2.1 x.2.2).set b5 (bx d pe ce pw cw)).set aj zb) (λx=>x.1+1<=n/\OkV S p (P x.1).1 x.2.1 x.2.2/\Fresh (devM S p (P x.1).1 x.2.1 x.2.2) b5/\Fresh ((devM S p (P x.1).1 x.2.1 x.2.2).set b5 (bx d pe ce pw cw)) aj) (λx=>n-x.1) ((0,aq,ao)) ⟨rfl,rfl,rfl,rfl,rfl,by rw [ax];rfl,rfl,rfl,by rw [show all.extract (64*0) all.size=all from by rw [Nat.mul_zero];simp];rfl,trivial⟩ (by rw [ax];exact Mem.Less.refl _) (⟨by show 0+1<=n;omega,by rw [ax];exact ac,by rw [ax];exact aa,by rw [ax];exact J⟩) ?_;rintro ⟨j,oE,oW⟩ ⟨hj,I,fa,fb⟩;(try dsimp only at *);clear aa J ac ak M3;by_cases hi:j+1<n
  ·by_cases al:(P j).2=0
   ·rw [al];refine r12_ ?_;refine cT_ ?_;have bp:(all.extract (64*j) all.size).size=all.size-64*j:=(by rw [ByteArray.size_extract];omega);have az:=zd2 p (P j).1 s ((j+1:Nat):Int) (secAt all j) S oE oW I (V j).1 (V j).2.1;rw [<- be j al,<- zqY all j vd] at az;refine r10_ ?_;refine ca_ rfl ((az.frame fa).frame fb) ?_;rintro _ S1 ⟨Sa,⟨M3,⟨aq,ao,ac,rfl,ak⟩,aa,A⟩,J,Y⟩;rw [Y,A];rw [A] at J;clear Y S1 A Sa;rw [ak] at aa J ⊢;refine r4_ ?_;refine dr_ [i0_,i1_,i2_,i3_,i4_,i5_] [] ?_;refine r8_ ?_;refine ⟨(j+1,aq,ao),?_,?_,?_,?_⟩<;>try dsimp only
    ·exact ⟨rfl,rfl,rfl,rfl,rfl,rfl,rfl,zan vd,by rw [<- zn_ all j vd];rfl,trivial⟩
    ·exact Mem.Less.refl _
    ·exact ⟨by omega,ac,aa,J⟩
    omega
   refine r12_ ?_;refine kw_ [1,2,3,10,12,13,14,15,16,50] ?_;refine cF_ ?_;refine r12_ ?_;refine cF_ ?_;refine r9_ ?_;refine cF_ ?_;obtain ⟨qe,de,qw,dw,H,U,hl⟩:=zb8 I (au j);obtain ⟨gb,_⟩:=zaa fb;have:=fa.ne H;have:=fa.ne' H;have:=gb.ne H;have:=gb.ne' H
   have aV:=a5 j al (n-1) vd;rw [aV,if_pos al];generalize devM S p (P j).1 oE oW=M at *;refine r14_ ?_;refine ⟨_,M,⟨_,_,_,rfl,.inr ⟨zax,[_,_,_,_,_],zar,rds_,rfl⟩,⟨_,_,rfl,rfl,rfl⟩,rfl⟩,zae,?_⟩;exact ⟨_,rfl,hl,U⟩
  obtain rfl:j=n-1:=by omega
  by_cases al:(P (n-1)).2=0
  ·rw [al];refine r12_ ?_;refine cF_ ?_;refine r12_ ?_;refine kw_ [1,2,3,10,12,13,14,15,16,50,62] ?_;refine cT_ ?_;have a8:=zfc p (P (n-1)).1 S oE oW I (V (n-1)).1;refine r3_ ?_;refine ca_ rfl ((a8.frame fa).frame fb) ?_;rintro _ S1 ⟨Sa,⟨M3,⟨aq,ao,ac,rfl,ak⟩,aa,A⟩,J,Y⟩;rw [Y,A];rw [A] at J;clear Y S1 A Sa;rw [ak] at aa J ⊢;have aK:=zcm (V (n-1)).1 (λ_=>true);have az:=zd2 p (settleD (P (n-1)).1 λ_=>true) s 0 hs S aq ao ac aK (V (n-1)).2.1;have bk:(settleD (P (n-1)).1 λ_=>true).down=false:=(V (n-1)).2.2 al;have a2:(settleD (P (n-1)).1 λ_=>true).fuse<=9223372036854775807:=(V (n-1)).2.1;have a6:=zjK aK s 0 hs;rw [if_neg vd];unfold sealD;generalize settleD (P (n-1)).1 (λ_=>true)=e3 at *;refine r8_ ?_;refine cp_ rfl (a3 _) ?_;refine ca_ rfl ((az.frame aa).frame J) ?_;rintro _ S1 ⟨Sa,⟨M4,⟨aX,aR,aF,rfl,bf⟩,aC,A⟩,ay,Y⟩;rw [Y,A];rw [A] at ay;clear Y S1 A Sa;rw [bf] at aC ay ⊢;refine r3_ ?_;by_cases aG:(writeD e3 s 0 hs).2=0
   ·rw [if_pos aG];refine r7_ ?_;refine cT_ ?_;have aY:=(zgL aK bk a2 s hs 0).1;have a1:=zfc p (writeD e3 s 0 hs).1 S aX aR aF aY;refine r2_ ?_;refine ca_ rfl ((a1.frame aC).frame ay) ?_;rintro _ S1 ⟨Sa,⟨M5,⟨bb,bc,aW,rfl,a9⟩,aL,A⟩,aJ,Y⟩;rw [Y,A];rw [A] at aJ;clear Y S1 A Sa;rw [a9] at aL aJ ⊢;obtain ⟨qe,de,qw,dw,H,U,hl⟩:=zb8 aW (zjL aY _);obtain ⟨gb,_⟩:=zaa aJ;have:=aL.ne H;have:=aL.ne' H;have:=gb.ne H;have:=gb.ne' H
    rw [aG];generalize devM S p (settleD (writeD e3 s 0 hs).1 λ_=>true) bb bc=M at *;refine r13_ ?_;refine kw_ [1,2,3,10,12,13,14,15,16,50,62,73,11] ?_;refine s1_ ?_;refine ⟨_,M,⟨_,_,_,rfl,.inr ⟨zax,[_,_,_,_,_],zar,rds_,rfl⟩,⟨_,_,rfl,rfl,rfl⟩,rfl⟩,zae,?_⟩;exact ⟨_,rfl,hl,U⟩
   rw [if_neg aG];refine r7_ ?_;refine cF_ ?_;obtain ⟨qe,de,qw,dw,H,U,hl⟩:=zb8 aF a6;obtain ⟨gb,_⟩:=zaa ay;have:=aC.ne H;have:=aC.ne' H;have:=gb.ne H;have:=gb.ne' H
   generalize devM S p (writeD e3 s 0 hs).1 aX aR=M at *;refine r14_ ?_;refine ⟨_,M,⟨_,_,_,rfl,.inr ⟨zax,[_,_,_,_,_],zar,rds_,rfl⟩,⟨_,_,rfl,rfl,rfl⟩,rfl⟩,zae,?_⟩;exact ⟨_,rfl,hl,U⟩
  refine r12_ ?_;refine cF_ ?_;refine r12_ ?_;refine cF_ ?_;refine r9_ ?_;refine kw_ [1,2,3,10,12,13,14,15,16,50,62,73] ?_;refine cF_ ?_;obtain ⟨qe,de,qw,dw,H,U,hl⟩:=zb8 I (au (n-1));obtain ⟨gb,_⟩:=zaa fb;have:=fa.ne H;have:=fa.ne' H;have:=gb.ne H;have:=gb.ne' H
  rw [if_pos al];generalize devM S p (P (n-1)).1 oE oW=M at *;refine r14_ ?_;refine ⟨_,M,⟨_,_,_,rfl,.inr ⟨zax,[_,_,_,_,_],zar,rds_,rfl⟩,⟨_,_,rfl,rfl,rfl⟩,rfl⟩,zae,?_⟩;exact ⟨_,rfl,hl,U⟩
 rw [if_pos av];have aZ:=zis hR s (n:Int);have aB:=λ(p:Nat) (oE oW) (I:OkV S p d oE oW)=>zjH p d s (n:Int) S oE oW I hR;generalize newD d s (n:Int)=q1 at *;refine k_E5 81 func20 ?_;refine r2_ ?_;refine k_b5 rfl ?_;intro b5 f5;have g5:=f5
 repeat ((with_reducible replace g5:=zaa g5);obtain ⟨g5,_⟩:=g5)
 refine nl_ ?_;refine ARun.alloc (zab rfl) zaC ?_;intro aj ad;have C:=ad
 repeat ((with_reducible replace C:=zaa C);obtain ⟨C,_⟩:=C)
 refine nl_ ?_;refine r6_ ?_;refine ca_ rfl ((ae.frame f5).frame ad) ?_;rintro _ S1 ⟨Sa,⟨M,⟨p,oE,oW,I,rfl,hM⟩,fa,A⟩,fb,Y⟩;rw [Y,A];rw [A] at fb;clear Y S1 A Sa;refine r14_ ?_;refine cF_ ?_;refine r7_ ?_;refine cp_ rfl (hN _) ?_;refine r14_ ?_;refine kw_ [0,1,2,3,4,5,10,11,12,13,23,14,37] ?_;refine cT_ ?_;rw [hM] at fa fb ⊢;refine r4_ ?_;refine ca_ rfl (((aB p oE oW I).frame fa).frame fb) ?_;rintro _ S1 ⟨Sa,⟨M3,⟨aq,ao,ac,rfl,ak⟩,aa,A⟩,J,Y⟩;rw [Y,A];rw [A] at J;clear Y S1 A Sa;rw [ak] at aa J ⊢;refine r7_ ?_;refine cp_ rfl (aD _) ?_;obtain ⟨qe,de,qw,dw,H,U,hl⟩:=zb8 ac aZ;obtain ⟨gb,_⟩:=zaa J;have:=aa.ne H;have:=aa.ne' H;have:=gb.ne H;have:=gb.ne' H
 generalize devM S p q1.1 aq ao=M3 at *;refine r5_ ?_;refine AWP.loop (X:=Unit) (λx=>[(10,.pointer (some ⟨aj,0,none⟩)),(12,.pointer (some ⟨p,0,none⟩)),(13,.int .i64 q1.2),(14,.int .i64 ((n:Nat):Int)),(15,.int .i64 1)]) (λx=>(M3.set b5 (bx d pe ce pw cw)).set aj zb) (λx=>True) (λx=>0) (()) ⟨rfl,rfl,rfl,rfl,rfl,trivial⟩ (Mem.Less.refl _) (trivial) ?_;rintro _ _;(try dsimp only at *);by_cases hi:1<n
 ·refine r12_ ?_;refine cF_ ?_;refine r12_ ?_;refine cF_ ?_;refine r9_ ?_;refine kw_ [10,12,13,14,15,50,62,73] ?_;refine cF_ ?_;refine r14_ ?_;refine ⟨_,M3,⟨_,_,_,rfl,.inr ⟨zax,[_,_,_,_,_],zar,rds_,rfl⟩,⟨_,_,rfl,rfl,rfl⟩,rfl⟩,zae,?_⟩;exact ⟨_,rfl,hl,U⟩
 refine r12_ ?_;refine cF_ ?_;refine r12_ ?_;refine cF_ ?_;refine r9_ ?_;refine cF_ ?_;refine r13_ ?_;refine kw_ [10,12,13,14,15,50,62,73,11] ?_;refine s1_ ?_;refine ⟨_,M3,⟨_,_,_,rfl,.inr ⟨zax,[_,_,_,_,_],zar,rds_,rfl⟩,⟨_,_,rfl,rfl,rfl⟩,rfl⟩,zae,?_⟩;exact ⟨_,rfl,hl,U⟩
end Rec
end
section
open Go.RowKit
open Mv Disk Num
namespace Rec
theorem zd9 (x:List Nat):(recB x).length=5*x.length:=by
 unfold recB
 induction x with
 | nil=>rfl
 | cons a x A=>rw [List.flatMap_cons,List.length_append,A];simp [five];omega
theorem zhE {w:Nat}:∀ l:List (List Nat),l.all (rowOK w)=true->(l.flatMap recB).length=5*w*l.length
 | [],_=>by simp
 | x :: l,h=>by
  rw [List.all_cons,Bool.and_eq_true] at h;have A:=h.1;unfold rowOK at A;rw [Bool.and_eq_true,decide_eq_true_eq] at A;rw [List.flatMap_cons,List.length_append,zd9,zhE l h.2,A.2,List.length_cons,Nat.mul_succ];omega
theorem zqZ {α : Type} {p : α->Bool} {l:List α} {i:Nat} (hi:i<l.length) (h:(l.take i).all p=true) (A:p l[i]=true):(l.take (i+1)).all p=true:=by
 rw [List.take_succ_eq_append_getElem hi,List.all_append,h];simp [A]
theorem zoa (v:tu) (d:D) (s:tt) (w:Int) (l:List (List Nat)) (vl:tu) (S:Mem) (hd:DkR S v d) (hz:Dz d) (hl:SlOf RowR S vl l) (hb:∀ x ∈ l,∀ n ∈ x,n<18446744073709551616) :
  ACall prog 7 #[v,.string s,.int .i64 w,vl] S (DkRes (writeP d s w l) S):=by
 have V:=zj2 v d S hd hz;obtain ⟨hs,aL,⟨pa,ca,rfl,bi,bf,a5⟩,aY⟩:=hl;unfold writeP;by_cases aT:w<1
 ·rw [if_pos (.inl aT)];obtain ⟨pe,ce,pw,cw,rfl,hE,hW⟩:=id hd;refine k_E4 65 func7 ?_;refine r2_ ?_;refine k_b5 rfl ?_;intro b4 f4;have J:=f4
  repeat ((with_reducible replace J:=zaa J);obtain ⟨J,_⟩:=J)
  refine nl_ ?_;refine ARun.alloc (zab rfl) zaC ?_;intro b8 f8;have I:=f8
  repeat ((with_reducible replace I:=zaa I);obtain ⟨I,_⟩:=I)
  refine nl_ ?_;refine r19_ ?_;refine cT_ ?_;refine r3_ ?_;refine ca_ rfl ((V.frame f4).frame f8) ?_;rintro _ S1 ⟨Sa,⟨M2,⟨v,rfl,H,A⟩,fc,C⟩,fd,h1⟩;rw [h1,C];rw [C] at fd;clear h1 S1 C Sa;obtain ⟨qe,de,qw,dw,rfl,_⟩:=id A;obtain ⟨ge,_⟩:=zaa fd;refine r8_ ?_;refine ⟨_,M2,⟨_,_,_,rfl,.inr ⟨zax,[_,_,_,_,_],zar,rds_,rfl⟩,⟨_,_,rfl,rfl,rfl⟩,rfl⟩,zae,?_⟩;exact ⟨_,rfl,H,A⟩
 by_cases a4:8<w
 ·rw [if_pos (.inr (.inl a4))];obtain ⟨pe,ce,pw,cw,rfl,hE,hW⟩:=id hd;refine k_E4 65 func7 ?_;refine r2_ ?_;refine k_b5 rfl ?_;intro b4 f4;have J:=f4
  repeat ((with_reducible replace J:=zaa J);obtain ⟨J,_⟩:=J)
  refine nl_ ?_;refine ARun.alloc (zab rfl) zaC ?_;intro b8 f8;have I:=f8
  repeat ((with_reducible replace I:=zaa I);obtain ⟨I,_⟩:=I)
  refine nl_ ?_;refine r19_ ?_;refine cT_ ?_;refine r3_ ?_;refine ca_ rfl ((V.frame f4).frame f8) ?_;rintro _ S1 ⟨Sa,⟨M2,⟨v,rfl,H,A⟩,fc,C⟩,fd,h1⟩;rw [h1,C];rw [C] at fd;clear h1 S1 C Sa;obtain ⟨qe,de,qw,dw,rfl,_⟩:=id A;obtain ⟨ge,_⟩:=zaa fd;refine r8_ ?_;refine ⟨_,M2,⟨_,_,_,rfl,.inr ⟨zax,[_,_,_,_,_],zar,rds_,rfl⟩,⟨_,_,rfl,rfl,rfl⟩,rfl⟩,zae,?_⟩;exact ⟨_,rfl,H,A⟩
 by_cases aR:65536<l.length
 ·rw [if_pos (.inr (.inr aR))];obtain ⟨pe,ce,pw,cw,rfl,hE,hW⟩:=id hd;refine k_E4 65 func7 ?_;refine r2_ ?_;refine k_b5 rfl ?_;intro b4 f4;have J:=f4
  repeat ((with_reducible replace J:=zaa J);obtain ⟨J,_⟩:=J)
  refine nl_ ?_;refine ARun.alloc (zab rfl) zaC ?_;intro b8 f8;have I:=f8
  repeat ((with_reducible replace I:=zaa I);obtain ⟨I,_⟩:=I)
  refine nl_ ?_;refine r19_ ?_;refine kw_ [0,1,2,3,4,8,9,25] ?_;refine cT_ ?_;refine r3_ ?_;refine ca_ rfl ((V.frame f4).frame f8) ?_;rintro _ S1 ⟨Sa,⟨M2,⟨v,rfl,H,A⟩,fc,C⟩,fd,h1⟩;rw [h1,C];rw [C] at fd;clear h1 S1 C Sa;obtain ⟨qe,de,qw,dw,rfl,_⟩:=id A;obtain ⟨ge,_⟩:=zaa fd;refine r8_ ?_;refine ⟨_,M2,⟨_,_,_,rfl,.inr ⟨zax,[_,_,_,_,_],zar,rds_,rfl⟩,⟨_,_,rfl,rfl,rfl⟩,rfl⟩,zae,?_⟩;exact ⟨_,rfl,H,A⟩
 rw [if_neg vd];obtain ⟨k,rfl⟩:=Int.eq_ofNat_of_zero_le (by omega:0<=w);rw [Int.toNat_natCast];have az:=λ(h:l.all (rowOK k)=true)=>ztI v d s k l.length (bs (l.flatMap recB)) S hd hz vd vd (by rw [zaJ,zhE l h];unfold eachN;rw [if_neg vd]);have aJ:∀ i,i<=l.length->(l.take i).all (rowOK k)=true->((l.take i).flatMap recB).length<=5*k*65536:=λi hi h=>by
  rw [zhE _ h,List.length_take];exact Nat.mul_le_mul_left _ vd
 have a9:5*k*65536<=2621440:=by omega
 obtain ⟨pe,ce,pw,cw,rfl,hE,hW⟩:=id hd;refine k_E4 65 func7 ?_;refine r2_ ?_;refine k_b5 rfl ?_;intro b4 f4;have J:=f4
 repeat ((with_reducible replace J:=zaa J);obtain ⟨J,_⟩:=J)
 refine nl_ ?_;refine ARun.alloc (zab rfl) zaC ?_;intro b8 f8;have I:=f8
 repeat ((with_reducible replace I:=zaa I);obtain ⟨I,_⟩:=I)
 refine nl_ ?_;refine r19_ ?_;refine cF_ ?_;refine r4_ ?_;refine ARun.alloc (zab rfl) zgt ?_;intro ae aw;have au:=aw
 repeat ((with_reducible replace au:=zaa au);obtain ⟨au,_⟩:=au)
 refine nl_ ?_;refine r2_ ?_;have aK:=Bl.R.new ((S.set b4 (bx d pe ce pw cw)).set b8 zb) ae;have aU:((S.set b4 (bx d pe ce pw cw)).set b8 zb).own b4=some (bx d pe ce pw cw):=own_;have a6:((S.set b4 (bx d pe ce pw cw)).set b8 zb).own b8=some zb:=own_;have hB:S.Less ((S.set b4 (bx d pe ce pw cw)).set b8 zb):=zae;have n4:S.own b4=none:=J.1;have n8:S.own b8=none:=I.1;refine r9_ ?_;refine AWP.loop (X:=Nat × Mem) (λx=>[(1,.string s),(2,.int .i64 (k:Int)),(3,.slice pa hs.length ca),(4,.pointer (some ⟨b4,0,none⟩)),(8,.pointer (some ⟨b8,0,none⟩)),(10,.pointer (some ⟨ae,0,none⟩)),(30,.slice pa hs.length ca),(31,.int .i64 (hs.length:Int)),(32,.int .i64 (x.1:Int))]) (λx=>x.2) (λx=>x.1<=l.length/\Bl.R ((S.set b4 (bx d pe ce pw cw)).set b8 zb) ae ((l.take x.1).flatMap recB) x.2/\(l.take x.1).all (rowOK k)=true) (λx=>l.length-x.1) ((0,((S.set b4 (bx d pe ce pw cw)).set b8 zb).set ae (Bl.blk (.pointer none) (.slice none 0 0)))) ⟨rfl,rfl,rfl,rfl,rfl,rfl,rfl,rfl,rfl,trivial⟩ (Mem.Less.refl _) (⟨Nat.zero_le _,aK,rfl⟩) ?_;rintro ⟨i,T⟩ ⟨hi,hT,hq⟩;(try dsimp only at *);have aE:=hT.less aw;have av:=hB.trans aE;have o4:=aE.own aU;have o8:=aE.own a6;refine r6_ ?_;refine vp rfl (λhl=>?_) (λhl=>?_)
 ·have ak:i<l.length:=by have:=of_decide_eq_true hl;omega
  have ax:i<hs.length:=by omega
  obtain ⟨b0,off,rfl,a2⟩:=a5.resolve_left (by intro h;rw [h] at ax;exact absurd ax (Nat.not_lt_zero _));have bk:=(a2 i ax).less av;have aB:=(aY i ak ax).less av;have aj:=List.getElem_mem ak;have U:=zj1 l[i] hs[i] T aB (hb _ aj);unfold recP at U;obtain ⟨xa,xc,a3,-⟩:=id aB;by_cases hr:recOK l[i]=true
  ·rw [if_pos hr] at U;refine r14_ ?_;refine cp_ rfl (U) ?_;rw [a3];refine r7_ ?_;by_cases hx:(l[i]).length=k
   ·refine r13_ ?_;refine kw_ [1,2,3,4,8,10,30,31,32,33,12,13,14,48] ?_;refine cF_ ?_;have be:(bs (recB l[i])).size=5*k:=(by rw [zaJ,zd9,hx]);have a1:=aJ i hi hq;refine r4_ ?_;refine ca_ rfl (Bl.WriteString _ ae _ T (bs (recB l[i])) aw hT vd) ?_;rintro _ T2 ⟨rfl,aI⟩;rw [show (l.take i).flatMap recB ++ (bs (recB l[i])).data.toList=(l.take (i+1)).flatMap recB from by rw [List.take_succ_eq_append_getElem ak,List.flatMap_append];simp [bs]] at aI;refine r8_ ?_;refine ⟨(i+1,T2),?_,?_,?_,?_⟩<;>try dsimp only
    ·exact ⟨rfl,rfl,rfl,rfl,rfl,rfl,rfl,rfl,zan vd,trivial⟩
    ·exact Mem.Less.refl _
    ·exact ⟨ak,aI,zqZ ak hq (by unfold rowOK;rw [hr,decide_eq_true hx];rfl)⟩
    omega
   refine r13_ ?_;refine cT_ ?_;rw [if_neg (λh=>by have:=List.all_eq_true.1 h _ aj;unfold rowOK at this;rw [Bool.and_eq_true,decide_eq_true_eq] at this;exact hx this.2)];refine r3_ ?_;refine ca_ rfl (V.over av) ?_;rintro _ T2 ⟨M2,⟨v,rfl,H,A⟩,aD,Y⟩;obtain ⟨p8,q8⟩:=Y b8 _ n8 o8;obtain ⟨qe,de,qw,dw,rfl,_⟩:=id A;refine r13_ ?_;refine ⟨_,M2,⟨_,_,_,rfl,.inr ⟨zax,[_,_,_,_,_],zar,rds_,rfl⟩,⟨_,_,rfl,rfl,rfl⟩,rfl⟩,zao aD q8,?_⟩;exact ⟨_,rfl,H,A⟩
  rw [if_neg hr] at U;rw [if_neg (λh=>by have:=List.all_eq_true.1 h _ aj;unfold rowOK at this;rw [Bool.and_eq_true] at this;exact hr this.1)];refine r14_ ?_;refine cp_ rfl (U) ?_;refine r7_ ?_;refine kw_ [1,2,3,4,8,10,30,31,32,33,12,13,14] ?_;refine r13_ ?_;refine cT_ ?_;refine r3_ ?_;refine ca_ rfl (V.over av) ?_;rintro _ T2 ⟨M2,⟨v,rfl,H,A⟩,aD,Y⟩;obtain ⟨p8,q8⟩:=Y b8 _ n8 o8;obtain ⟨qe,de,qw,dw,rfl,_⟩:=id A;refine r13_ ?_;refine ⟨_,M2,⟨_,_,_,rfl,.inr ⟨zax,[_,_,_,_,_],zar,rds_,rfl⟩,⟨_,_,rfl,rfl,rfl⟩,rfl⟩,zao aD q8,?_⟩;exact ⟨_,rfl,H,A⟩
 obtain rfl:i=l.length:=by have:=of_decide_eq_false hl;omega
 rw [List.take_length] at hq hT;rw [if_pos hq];have a1:(l.flatMap recB).length<=2621440:=by have:=aJ l.length (Nat.le_refl _) (by rw [List.take_length];exact hq);rw [List.take_length] at this;omega
 have aA:=Bl.StringE _ ae _ T aw hT vd;rw [aL];refine r6_ ?_;refine uT [0,5,6,9] mixed ?_;refine DG.pure 1 (by kernel_rfl) (by kernel_rfl) rfl rfl rfl rfl (zab rfl) (λ_=>Calm.move rfl) ?_;refine DG.pure 2 (by kernel_rfl) (by kernel_rfl) rfl rfl rfl rfl (zab rfl) (λ_=>Calm.move rfl) ?_;refine DG.pure 3 (by kernel_rfl) (by kernel_rfl) rfl rfl rfl rfl (zab rfl) (λ_=>Calm.move rfl) ?_;refine DG.pure 4 (by kernel_rfl) (by kernel_rfl) rfl rfl rfl rfl (zab rfl) (λ_=>vL underlying26 rfl) ?_;refine DG.two 0 5 (by kernel_rfl) rfl ?_ rfl ?_
 ·refine s1_ ?_;refine zad ⟨nz_,?_⟩;refine DG.only 5 (by kernel_rfl) rfl ?_;refine ca_ rfl (aA) ?_;rintro _ S9 ⟨rfl,h9⟩;rw [h9];clear h9 S9;refine zad ⟨nz_,?_⟩;refine DG.only 6 (by kernel_rfl) rfl ?_;refine ca_ rfl (((az hq).frame f4).frame f8) ?_;rintro _ S1 ⟨Sa,⟨M2,⟨v,rfl,H,A⟩,fc,C⟩,fd,h1⟩;rw [h1,C];rw [C] at fd;clear h1 S1 C Sa;obtain ⟨qe,de,qw,dw,rfl,_⟩:=id A;obtain ⟨ge,_⟩:=zaa fd;refine zad ⟨nz_,?_⟩;refine DG.pure 7 (by kernel_rfl) (by kernel_rfl) rfl rfl rfl rfl (zab rfl) (λ_=>Calm.extract rfl rfl) ?_;refine DG.pure 8 (by kernel_rfl) (by kernel_rfl) rfl rfl rfl rfl (zab rfl) (λ_=>Calm.extract rfl rfl) ?_;refine DG.only 9 (by kernel_rfl) rfl ?_;refine s1_ ?_;refine zad ⟨nz_,?_⟩;refine DG.pure 10 (by kernel_rfl) (by kernel_rfl) rfl rfl rfl rfl (zab rfl) (λ_=>Calm.assign rfl) ?_;refine ut (by kernel_rfl) ?_;refine r2_ ?_;refine ⟨_,M2,⟨_,_,_,rfl,.inr ⟨zax,[_,_,_,_,_],zar,rds_,rfl⟩,⟨_,_,rfl,rfl,rfl⟩,rfl⟩,zae,?_⟩;exact ⟨_,rfl,H,A⟩
 refine ca_ rfl (aA) ?_;rintro _ S9 ⟨rfl,h9⟩;rw [h9];clear h9 S9;refine zad ⟨nz_,?_⟩;refine DG.only 0 (by kernel_rfl) rfl ?_;refine s1_ ?_;refine zad ⟨nz_,?_⟩;refine DG.only 6 (by kernel_rfl) rfl ?_;refine ca_ rfl (((az hq).frame f4).frame f8) ?_;rintro _ S1 ⟨Sa,⟨M2,⟨v,rfl,H,A⟩,fc,C⟩,fd,h1⟩;rw [h1,C];rw [C] at fd;clear h1 S1 C Sa;obtain ⟨qe,de,qw,dw,rfl,_⟩:=id A;obtain ⟨ge,_⟩:=zaa fd;refine zad ⟨nz_,?_⟩;refine DG.pure 7 (by kernel_rfl) (by kernel_rfl) rfl rfl rfl rfl (zab rfl) (λ_=>Calm.extract rfl rfl) ?_;refine DG.pure 8 (by kernel_rfl) (by kernel_rfl) rfl rfl rfl rfl (zab rfl) (λ_=>Calm.extract rfl rfl) ?_;refine DG.only 9 (by kernel_rfl) rfl ?_;refine s1_ ?_;refine zad ⟨nz_,?_⟩;refine DG.pure 10 (by kernel_rfl) (by kernel_rfl) rfl rfl rfl rfl (zab rfl) (λ_=>Calm.assign rfl) ?_;refine ut (by kernel_rfl) ?_;refine r2_ ?_;refine ⟨_,M2,⟨_,_,_,rfl,.inr ⟨zax,[_,_,_,_,_],zar,rds_,rfl⟩,⟨_,_,rfl,rfl,rfl⟩,rfl⟩,zae,?_⟩;exact ⟨_,rfl,H,A⟩
end Rec
end
end Go.Proofs.YtopiogkolaelnaaGreatDoor
