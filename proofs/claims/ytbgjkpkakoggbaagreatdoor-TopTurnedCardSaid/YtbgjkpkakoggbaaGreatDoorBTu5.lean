/-
  Texts that belong together: Wtr5, Rdr3, Rdr4, Pool19, Sto6, Run1, Run2, Rdr5, Err, Flw1, Shelf2, LoserMath, Run3, Flw2, Flw3, Run4, Far, LoserMath2, VLos1, VLos2, VLos3, VLos4, VLos5, VLos10, Mg1, Mg2, Mg4, Mg5, Srt1, Srt2, MgL0, NmS, Hol, Op1, Op2, Op3, Ra, Op4, Op5, Flw4.
-/
import Derived.Test.YtbgjkpkakoggbaaGreatDoorBTu4
import Derived.WideLaws
import Derived.Ground.SlsfProg
import Derived.Shelf.SlSortCmp.Whole1
import Derived.Test.YtbgjkpkakoggbaaGreatDoorProg
set_option maxHeartbeats 8000000
set_option maxRecDepth 100000
set_option linter.unusedVariables false
set_option linter.unusedSimpArgs false
set_option linter.unusedSectionVars false
namespace Go.Proofs.YtbgjkpkakoggbaaGreatDoor
open _root_.Go.Proofs.Tryz
section
open Go.RowKit
open Mv Disk Num
namespace Sto
theorem Use.alike {x y:Pl} {s:tt} {fr held:Nat} (h:Use x s fr held) (g:Alike x y) (hl:y.fr.length=x.fr.length):Use y s fr held where
 pins:=λi hi hh Z=>by
  obtain ⟨I,U,V,X,Y⟩:=g i vd;unfold Fr.holds at hh;rw [I] at hh Z;rw [V];exact h.pins i vd hh Z
 at_:=λh0=>by
  obtain ⟨h1,h2⟩:=h.at_ h0;obtain ⟨I,U,V,X,Y⟩:=g fr h1;obtain ⟨J,Q,K⟩:=zak.1 h2;exact ⟨by omega,zak.2 ⟨by unfold Fr.holds;rw [I];exact J,by rw [U];exact Q,by rw [I];exact K⟩⟩
 z0:=λi hi=>zbJ λe=>by
  obtain ⟨I,U,V,X,Y⟩:=g i vd;obtain ⟨J,Q,K⟩:=zak.1 e;unfold Fr.holds at J;rw [I] at J K;rw [U] at Q;have:=h.z0 i vd;rw [zak.2 ⟨J,Q,K⟩] at this;cases this
theorem nb_le {p q:Pl} (hl:q.fr.length=p.fr.length) (h:∀ j,j<p.fr.length->(atF p j).idle->(atF q j).idle):nb q.fr<=nb p.fr:=by
 have e:∀ r:Pl,nb r.fr=(List.range r.fr.length).countP (λj=>!decide (atF r j).idle):=λr=>by
  unfold nb
  conv=>lhs;rw [show r.fr=(List.range r.fr.length).map (λj=>atF r j) from List.ext_getElem (by simp) λi J Q=>by simp [zaK J]]
  rw [List.countP_map];rfl
 rw [e q,e p,hl];refine List.countP_mono_left λj K I=>?_;have:=h j (List.mem_range.1 K);simp only [Bool.not_eq_true',decide_eq_false_iff_not] at I ⊢;exact λe=>I (this e)
theorem zq6 {y:Pl} {s:tt} (h:∀ i,i<y.fr.length->(atF y i).holds->(atF y i).name≠s):Use y s 0 0 :=
 ⟨λi hi hh I=>absurd I (h i hi hh),λh=>absurd h (Nat.lt_irrefl 0),λi hi=>zbJ λe=>h i hi (zak.1 e).1 (zak.1 e).2.2⟩
structure Sealed (x y:Pl) (s:ByteArray) (w ct B:Nat) (L:List UInt8):Prop where
  ps:Ps y 0
  st:Near x y s
  us:∀ o fr held,o≠s->Use x o fr held->Use y o fr held
  uo:Use y s 0 0
  hd:vw y s ((0:Nat):Int)=Rec.headS w ct
  wr:Wrote y s L
  cl:∀ j,j<y.fr.length->(atF y j).dirty=false
  nb:nb y.fr<=B
  le:∀ j,j<x.fr.length->(atF y j).leased=true->(atF x j).leased=true
theorem Sealed.of {S:Mem} {a p b c q:Nat} {r r':Wt} {x y z:Pl} {n B B' w ct:Nat} {L L':List UInt8} {T:Mem} (h:WtT S a p b c q r r' x y n B L T) (g:Sealed y z r'.nm w ct B' L') (hk:0<ns y.d r.nm):Sealed x z r.nm w ct B' L':=by
 have e:=h.nm;rw [e] at g;exact ⟨g.ps,h.st.trans g.st,λo f hl J K=>g.us o f hl J (K.oth h.ot J h.st.l),g.uo,g.hd,g.wr,g.cl,g.nb,λj I e=>h.ot.le h.s.ps (zvM h.s.ps.d hk) h.st.l I (g.le j (by rw [h.st.l];exact I) e)⟩
theorem ztP {Q U:Pl} {n B fr w ct:Nat} {s:tt} {L:List UInt8} (p1:Ps Q n) (u1:Use Q s fr 0) (n1:nb Q.fr<=B) (w1:Wrote Q s L) (hk:0<ns Q.d s)
  (e2:Ps U 0) (e3:Stays Q U) (e4:Alike Q U) (e5:∀ j,j<Q.fr.length->(atF U j).dirty=false) :
  ∃ d',writeD U.d s ((0:Nat):Int) (Rec.headS w ct)=(d',0)/\Right d' /\ ∀ k,PW { U with d:=settleD d' λ_=>true,writes:=k } /\ ∃ y,dropP { U with d:=settleD d' λ_=>true,writes:=k } s=(y,0)/\Sealed Q y s w ct B L:=by
 have u2:=u1.alike e4 e3.l;obtain ⟨d',h1,h2,h3,h4,h5,h6⟩:=zqX e2 (by decide) (s:=s) (u:=Rec.headS w ct) (k:=0) (by rw [e3.n];exact hk) (Top.zi5 w ct) u2.z0;obtain ⟨g1,g2⟩:=zoB h2;refine ⟨d',h1,h2.d.r,λk=>?_⟩;obtain ⟨J,I⟩ : ∃ J:Pl,J = { U with d:=settleD d' λ_=>true,writes:=k }:=⟨_,rfl⟩;rw [<- I];have a3:∀ j,atF J j=atF U j:=λj=>by rw [I];rfl
 have l3:J.fr.length=Q.fr.length:=by rw [I];exact e3.l
 have p3:Ps J 0:=by rw [I];exact ⟨g1.d,g1.ok,g1.ap,g1.l1,g1.l2⟩
 have v3:∀ o (j:Nat),j<ns Q.d o->vw J o (j:Int)=if s=o/\0=j then Rec.headS w ct else vw U o (j:Int):=λo j K=>by
  rw [<- e3.n] at K;rw [I];exact (g2.v o j (by show j<ns d' o;rw [h5];exact K)).trans (h6 o j K)
 have n3:∀ o,ns J.d o=ns Q.d o:=λo=>by rw [I];exact (g2.n o).trans ((h5 o).trans (e3.n o))
 have ak:∀ i,i<J.fr.length->ofN s (atF J i)=true->(atF J i).pins=0/\(atF J i).dirty=false:=λi hi V=>by
  have V:(atF U i).holds/\(atF U i).name=s:=by rw [a3] at V;unfold ofN at V;exact of_decide_eq_true V
  rw [a3];refine ⟨?_,e5 i vd⟩;rw [u2.pins i (by rw [e3.l];omega) V.1 V.2,if_neg (λh=>absurd h.1 (Nat.lt_irrefl 0))]
 obtain ⟨y,k1,k2,Y,k4,k5⟩:=zoC p3 ak;have ly:y.fr.length=Q.fr.length:=Y.l.trans l3;have ai:∀ j,ofN s (atF J j)=true->(atF J j).name=s:=λj V=>by unfold ofN at V;exact (of_decide_eq_true V).2
 refine ⟨zfh p3,y,k1,k2,⟨ly,Y.z.trans (by rw [I];exact g2.z.trans (h3.trans e3.z)),Y.u.trans (by rw [I];exact g2.u.trans (h4.trans e3.u)),λo=>(Y.n o).trans (n3 o),λo j V K=>?_⟩,λo f hl V hu=>?_,zq6 λi hi hh X=>?_,?_,λj K=>?_,λj K=>?_,?_,λj K e=>?_⟩
 ·rw [Y.v o j (by rw [n3];exact K),v3 o j K,if_neg (λh=>V h.1.symm),e3.v o j K]
 ·have hu:=hu.alike e4 e3.l;have key:∀ j,j<y.fr.length->(atF y j).holds->(atF y j).name=o->atF y j=atF U j:=λj K hh X=>by
   rw [k5 j vd] at hh X ⊢;by_cases q:ofN s (atF J j)=true
   ·rw [if_pos q] at hh;exact absurd hh n0
   rw [if_neg q,a3]
  refine ⟨λi hi hh X=>?_,λh0=>?_,λi hi=>zbJ λe=>?_⟩
  ·have e:=key i hi hh X;rw [e] at hh X ⊢;exact hu.pins i (by rw [e3.l];omega) hh X
  ·obtain ⟨b1,b2⟩:=hu.at_ h0;have q : ¬ ofN s (atF J f)=true:=λq=>V (by have:=ai f q;rw [a3] at this;exact (zak.1 b2).2.2.symm.trans this);exact ⟨by rw [ly,<- e3.l];exact b1,by rw [k5 f (by rw [l3,<- e3.l];exact b1),if_neg q,a3];exact b2⟩
  obtain ⟨b1,b2,b3⟩:=zak.1 e;rw [key i hi b1 b3,hu.z0 i (by rw [e3.l];omega)] at e;cases e
 ·rw [k5 i vd] at hh X;by_cases q:ofN s (atF J i)=true
  ·rw [if_pos q] at hh;exact n0 hh
  rw [if_neg q] at hh X;exact q (by unfold ofN;exact decide_eq_true ⟨hh,X⟩)
 ·rw [Y.v s 0 (by rw [n3];exact hk),v3 s 0 hk,if_pos ⟨rfl,rfl⟩]
 ·have Z:1+j / 64<ns Q.d s:=by rw [Y.n,n3] at K;exact K
  rw [<- (w1.stays e3) j (by rw [e3.n];exact Z)];unfold byt;rw [Y.v s _ (by rw [n3];exact Z),v3 s _ Z,if_neg (λh=>by omega)]
 ·rw [k5 j vd];split
  ·rfl
  rw [a3];exact e5 j vd
 ·have:=nb_le (p:=J) (q:=y) Y.l (λj K al=>by
   rw [k5 j K];split
   ·exact .inl rfl
   exact al)
  have e6:=zqW e4 e3.l p1 e2;have e7:nb J.fr=nb U.fr:=by rw [I]
  omega
 rw [k5 j vd] at e;split at e
 ·cases e
 rw [a3,(e4 j K).2.2.2.1] at e;exact e
theorem zdb {S T:Mem} {a p b c:Nat} {x:Pl} (h:ArS S a p b c x T):∃ k,T.own a=some (arB p b c x k):=by
 obtain ⟨k,oE,oW,ok,rfl⟩:=h;exact ⟨k,za0⟩
theorem ztQ {S T:Mem} {a p b c:Nat} {x:Pl} (h:ArS S a p b c x T) {r:Nat} {k:Blk} (I:S.own r=some k):r≠a:=by
 obtain ⟨_,oE,oW,ok,rfl⟩:=h;exact (zfg ok I).a
theorem zoP {S T:Mem} {a p b c:Nat} {x:Pl} (h:ArS S a p b c x T) {x':Pl} (hd:x'.d=x.d) (I:x'.fr=x.fr) (k:Int):ArS S a p b c x' (T.set a (arB p b c x' k)):=by
 obtain ⟨i,oE,oW,ok,rfl⟩:=h;refine ⟨k,oE,oW,ok.like hd (by rw [I]),?_⟩;rw [zff I,hd]
theorem zoQ {S T:Mem} {a p b c:Nat} {x:Pl} {d':D} {v:tu} (h:ArS S a p b c x T) {f:tA} {args:Array tu}
  (hc:∀ oE oW,OkV S p x.d oE oW->ACall prog f args (devM S p x.d oE oW) λr S'=>∃ I J,OkV S p d' I J/\r=v/\S'=devM S p d' I J) :
  ACall prog f args T λr S'=>r=v/\ArS S a p b c { x with d:=d' } S':=by
 obtain ⟨k,oE,oW,ok,rfl⟩:=h;refine (zhU ok k (hc oE oW ok.v)).mono λr S' ⟨M,⟨Q,U,K,X,V⟩,fb,fa,e⟩=>?_;subst V;exact ⟨X,k,Q,U,⟨K,fb,fa,ok.ab,ok.l⟩,e⟩
theorem zq7 (S:Mem) (a p b c q:Nat) (r:Wt) (x:Pl) (n B:Nat) (L:List UInt8) (T:Mem) (h:WtS S a p b c q r x n B L T) (al:r.w<=8) (c':Nat) (J:c'=if r.w=0 then r.at_ else r.ct) (aj:c'<18446744073709551616) (hn:n+x.fr.length<=16384) (hk:0<ns x.d r.nm) :
  ACall prog 51 #[self q] T λv T'=>v = .int .i64 0 /\ ∃ y,ArS (S.set q (wtB a { r with held:=0 })) a p b c y T'/\Sealed x y r.nm r.w c' B L:=by
 have hq:=zam h.ar h.ow;unfold wtB at hq;have ag:=zlw S a p b c q r x n B L T h;refine k_E1 78 func51 ?_;refine r8_ ?_;refine ca_ rfl (ag) ?_;rintro _ T1 ⟨rfl,x1,I⟩;have o1:=zam I.s.ar I.s.ow
 (unfold wtB at o1;dsimp only at o1)
 have ai:x1.fr.length=x.fr.length:=I.st.l;have K:=I.s.nb;rw [if_neg (Nat.lt_irrefl 0)] at K;obtain ⟨U,e1,e2,e3,e4,e5⟩:=zqV I.s.ps (by rw [ai];exact hn);have Z:=zd0 I.s.ar (λk oE oW ok=>zoJ a p b c x1 k _ oE oW ok (zfh I.s.ps));rw [e1] at Z;obtain ⟨d',w1,w2,w3⟩:=ztP (w:=r.w) (ct:=c') I.s.ps I.s.us K I.s.wr (by rw [I.st.n];exact hk) e2 e3 e4 e5;refine r21_ ?_;refine AWP.join (X:=Unit) (λ_=>[(0,self q),(3,.int .u64 (c':Int))]) (λ_=>T1) (λ_=>0<1) ?_ ?_
 ·by_cases w0:r.w=0
  ·rw [if_pos w0] at J;subst J;refine cT_ ?_;refine r8_ ?_;refine ⟨(),?_,?_,?_⟩<;>try dsimp only
   ·exact Nat.zero_lt_one
   ·exact ⟨rfl,rfl,trivial⟩
   exact Mem.Less.refl _
  rw [if_neg w0] at J;subst J;refine cF_ ?_;refine s1_ ?_;refine ⟨(),?_,?_,?_⟩<;>try dsimp only
  ·exact Nat.zero_lt_one
  ·exact ⟨rfl,rfl,trivial⟩
  exact Mem.Less.refl _
 rintro _ _;intro _ _ aa ac;(try dsimp only at *);refine zbO ?_;refine AWP.sub _ aa (AWP.less _ ac ?_);clear aa ac;refine r7_ ?_;refine ca_ rfl (Z) ?_;rintro _ T2 ⟨rfl,h2⟩;have o2:=zam h2 I.s.ow
 (unfold wtB at o2;dsimp only at o2)
 obtain ⟨i2,ae⟩:=zdb h2;unfold arB at ae;have ah:=zoQ (v:=.int .i64 0) h2 (λoE oW ok=>by have:=zex p U.d r.nm ((0:Nat):Int) (Rec.headS r.w c') _ oE oW ok e2.d.r (by rw [e2.d.f];decide);rw [w1] at this;exact this);refine r9_ ?_;refine kw_ [0,3,4,28] ?_;refine cF_ ?_;refine r4_ ?_;refine dr_ [i0_,i1_,i2_,i3_,i4_,i5_,i6_,i7_,i8_,i9_,i10_,i11_,i12_,i13_,i14_,i15_,o16_,o17_,i18_] [17] ?_;refine r16_ ?_;refine zac rfl ?_;refine cp_ rfl (Rec.zhc r.w c' _ al aj) ?_;refine zad ⟨ny_,?_⟩;refine zac rfl ?_;refine ca_ rfl (ah) ?_;rintro _ T3 ⟨rfl,h3⟩;have o3:=zam h3 I.s.ow
 (unfold wtB at o3;dsimp only at o3)
 obtain ⟨i3,Y⟩:=zdb h3;unfold arB at Y;dsimp only at Y;have az:=ztQ h3 I.s.ow;refine zad ⟨nz_,?_⟩;refine r9_ ?_;refine cF_ ?_;refine r17_ ?_;have h4:=zoP h3 (x':={ U with d:=d',writes:=up1 U.writes }) rfl rfl i3;have Q:=zoQ (d':=settleD d' λ_=>true) (v:=.tuple #[]) h4 (λoE oW ok=>zfD p d' _ oE oW ok w2)
 (unfold arB up1 at Q;dsimp only at Q)
 refine r9_ ?_;refine ca_ rfl (Q) ?_;rintro _ T4 ⟨rfl,h5⟩;have o5:=zam h5 I.s.ow
 (unfold wtB at o5;dsimp only at o5)
 obtain ⟨af,y,k1,hS⟩:=w3 (up1 U.writes);have V:=zd0 h5 (λk oE oW ok=>zls a p b c { U with d:=settleD d' λ_=>true,writes:=up1 U.writes } r.nm k _ oE oW ok af);rw [k1] at V;refine r3_ ?_;refine dr_ [i0_,i1_,i2_,i3_,i4_,i5_,i6_,i7_,o8_,i9_] [8] ?_;refine r8_ ?_;refine zac rfl ?_;refine ca_ rfl (V) ?_;rintro _ T5 ⟨rfl,h6⟩;refine zad ⟨nz_,?_⟩;refine r3_ ?_;refine kw_ [0,3,4,28,5,49,2] ?_;refine s1_ ?_;refine ⟨_,T5,⟨_,_,rfl,rfl,rfl⟩,Mem.Less.refl _,?_⟩;exact ⟨rfl,y,h6,hS.of I (by rw [I.st.n];exact hk)⟩
structure Made (x y:Pl) (s:ByteArray) (m:Nat):Prop where
  fr:y.fr=x.fr
  z:y.d.size=x.d.size
  u:used y.d.ext=used x.d.ext+m
  n:∀ o,ns y.d o=if s=o then m else ns x.d o
  v:∀ o (j:Nat),j<ns x.d o->vw y o (j:Int)=vw x o (j:Int)
theorem zvP {S T:Mem} {a p b c q:Nat} {x:Pl} {d':D} {s:tt} {w m n B:Nat} (hp:Ps x n) (X:ns x.d s=0) (hB:nb x.fr<=B) (Y:Ps { x with d:=d' } n) (g3:d'.size=x.d.size) (g4:used d'.ext=used x.d.ext+m) (K:∀ o,ns d' o=if s=o then m else ns x.d o)
  (g6:∀ j:Nat,j<m->vw { x with d:=d' } s (j:Int)=zs) (g7:∀ o (j:Nat),j<ns x.d o->vw { x with d:=d' } o (j:Int)=vw x o (j:Int)) (h:ArS S a p b c { x with d:=d' } T) (hq:Fresh T q) :
  Fresh S q/\WtS (S.set q (wtB a ⟨s,w,0,0,0,0⟩)) a p b c q ⟨s,w,0,0,0,0⟩ { x with d:=d' } n B [] (T.set q (wtB a ⟨s,w,0,0,0,0⟩))/\Made x { x with d:=d' } s m:=by
 obtain ⟨Z,k2⟩:=zi_ h hq (wtB a ⟨s,w,0,0,0,0⟩);have I:∀ i,i<x.fr.length->(atF x i).holds->(atF x i).name≠s:=λi hi hh e=>by
  have Q:=zcc (hp.ok i hi) hh;have a1:=Q.s0;have V:=Q.s1;rw [e,X] at V;omega
 refine ⟨Z,⟨k2,vf _ _ _,Y,⟨λi hi hh U=>absurd U (I i hi hh),λh=>absurd h (Nat.lt_irrefl 0),λi hi=>zbJ λe=>I i hi (zak.1 e).1 (zak.1 e).2.2⟩,hB,rfl,λj hj=>?_⟩,⟨rfl,g3,g4,K,g7⟩⟩;have J:1+j / 64<m:=by have:=K s;rw [if_pos rfl] at this;rw [<- this];exact hj
 unfold byt;rw [g6 _ J];unfold zs;rw [bs_data,List.getD_eq_getElem?_getD,List.getElem?_replicate];split <;> rfl
theorem zwL (S:Mem) (a p b c:Nat) (x:Pl) (s:tt) (w ct n B:Nat) (T:Mem) (h:ArS S a p b c x T) (X:Ps x n) (hs:nm s) (Y:ns x.d s=0) (hw:w<=8) (ad:ct<=65536) (hr:(used x.d.ext:Int)+(Rec.needN w ct:Nat)<=x.d.size) (hB:nb x.fr<=B) :
  ACall prog 52 #[self a,.string s,.int .i64 (w:Nat),.int .u64 (ct:Nat)] T λv T'=>∃ q y,v = .tuple #[self q,.int .i64 0]/\Fresh S q/\WtS (S.set q (wtB a ⟨s,w,0,0,0,0⟩)) a p b c q ⟨s,w,0,0,0,0⟩ y n B [] T'/\Made x y s (Rec.needN w ct):=by
 obtain ⟨i1,V⟩:=zdb h;unfold arB at V;have J:=Rec.zfH (w:Int) ct;rw [show Rec.needP (w:Int) ct=(((Rec.needN w ct:Nat):Int),0) from by unfold Rec.needP;rw [if_neg vd,Int.toNat_natCast]] at J;unfold Rec.needV at J;obtain ⟨d',g1,Z,g3,g4,g5,g6,g7⟩:=zvJ X hs Y (Rec.zbl w ct) hr;have U:=zoQ (v:=.int .i64 0) h (λoE oW ok=>by have:=zj2 p x.d s ((Rec.needN w ct:Nat):Int) S oE oW ok X.d.r;rw [g1] at this;exact this);refine k_E4 35 func52 ?_;refine r10_ ?_;refine cp_ rfl (J _) ?_;refine r14_ ?_;refine cT_ ?_;refine r7_ ?_;refine ca_ rfl (U) ?_;rintro _ T1 ⟨rfl,h2⟩;refine r10_ ?_;refine cF_ ?_;refine r8_ ?_;refine k_b7 rfl ?_;intro K Q;have I:=Q
 repeat ((with_reducible replace I:=zaa I);obtain ⟨I,_⟩:=I)
 refine nl_ ?_;refine r4_ ?_;refine kw_ [0,1,2,3,8,9,10,11,19,28] ?_;obtain ⟨k1,k2,k3⟩:=zvP (w:=w) X Y hB Z g3 g4 g5 g6 g7 h2 Q;refine s1_ ?_;refine ⟨_,T1.set K (wtB a ⟨s,w,0,0,0,0⟩),⟨_,_,rfl,⟨_,_,rfl,rfl,rfl⟩,rfl⟩,zae,?_⟩;exact ⟨K,_,rfl,k1,k2,k3⟩
end Sto
end
section
open Go.RowKit
open Mv Disk Num
theorem zq8 (L:List UInt8) (g c o n m:Nat) (S:Mem) (K:S.own g=some ⟨5,cellsB L,c⟩) (V:o+5<=L.length) (U:5<=n) (Q:n<=140737488355328) :
  ACall prog 216 #[.slice (some ⟨g,o,none⟩) n m] S λr S'=>r = .int .u64 (ofB ((L.drop o).take 5):Nat)/\S'=S:=by
 refine k_E1 18 func216 ?_;refine r17_ ?_;refine AWP.loop (X:=Nat) (λx=>[(0,.slice (some ⟨g,o,none⟩) n m),(3,.int .u64 (ofB ((L.drop o).take x):Nat)),(5,.int .i64 x)]) (λx=>S) (λx=>x<=5) (λx=>5-x) (0) ⟨rfl,rfl,rfl,trivial⟩ (Mem.Less.refl _) (Nat.zero_le _) ?_;rintro k hk;(try dsimp only at *);by_cases hl:k<5
 ·have hd:(L.drop o).length=L.length-o:=List.length_drop;have I:=zvC (ofB ((L.drop o).take k)) (at8 (L.drop o) k) (ziP _ _ vd);rw [<- zle _ _ vd] at I;have J:(cellsB L)[o+k]?=some (.int .u8 (nb (at8 (L.drop o) k))):=by
   rw [show at8 (L.drop o) k=L[o+k]'vd from by unfold at8;rw [List.getD_eq_getElem?_getD,List.getElem?_drop,List.getElem?_eq_getElem vd];rfl];unfold cellsB;rw [List.getElem?_map,List.getElem?_eq_getElem vd];rfl
  refine r6_ ?_;refine cT_ ?_;refine r16_ ?_;refine rC (Calm.load ze0 rfl (zbP K (by rw [show o+((k:Nat):Int).toNat*1=o+k from by omega];exact J))) ?_;refine r11_ ?_;refine ⟨k+1,?_,?_,?_,?_⟩<;>try dsimp only
  ·exact ⟨rfl,zah I,zah vd,trivial⟩
  ·exact Mem.Less.refl _
  ·exact hl
  omega
 obtain rfl:k=5:=by omega
 refine r6_ ?_;refine cF_ ?_;refine r12_ ?_;refine ⟨_,S,⟨_,_,rfl,rfl,rfl⟩,zae,?_⟩;exact ⟨rfl,rfl⟩
namespace Sto
open Rec (eachN)
theorem zkp (a q:Nat) (r:Rd) (T:Mem) (X:T.own q=some (rdB a r)) (U:r.w<=8) (hc:r.ct<=65536) (Q:r.at_<=4294967296) :
  ACall prog 47 #[self q] T λv T'=>v = .bool (decide (r.at_<eachN r.w*r.ct))/\T'=T:=by
 have K:eachN r.w<=40:=by unfold Rec.eachN;split <;> omega
 have hm:eachN r.w*r.ct<=40*65536:=Nat.mul_le_mul K hc;have I:=λS=>Rec.zfG r.w S U;have e1:((eachN r.w:Nat):Int)*((r.ct:Nat):Int)=((eachN r.w*r.ct:Nat):Int):=(Int.natCast_mul _ _).symm;unfold rdB at X;generalize eachN r.w*r.ct=m at *;refine k_E1 26 func47 ?_;refine r6_ ?_;refine dr_ [i0_,i1_,i2_,i3_,i4_,i5_,i6_,i7_,i8_,i9_,i10_,i11_,i12_,i13_,i15_,i16_,i17_,i18_,i19_,o14_,i20_,i21_,i22_,i23_] [] ?_;refine r4_ ?_;refine dP (hc:=λ_=>vh rfl rfl (zaf (c:=true) (zaJ _ _) (decide_eq_true rfl))) (h:=?_);refine r14_ ?_;refine zac rfl ?_;refine vC 5 true 8 rfl (zab rfl) rfl (zab rfl) zwF rfl (I _) ?_;rintro _ V ⟨rfl,J⟩;rw [J];clear J V;refine zad ⟨ny_,?_⟩
 first|refine k_d ?_|refine dG (hc:=λ_=>vh rfl rfl (zhB (c:=(m:Int)) (by rw [e1];exact IntWalk.i64_in _ vd))) (h:=?_)
 first|refine k_d ?_|refine dG (hc:=λ_=>vh rfl rfl (zaf (c:=decide (r.at_<m)) (zaA _ _) (by rw [decide_eq_decide];omega))) (h:=?_)
 refine r5_ ?_;refine ⟨_,T,⟨_,_,rfl,rfl,rfl⟩,zae,?_⟩;exact ⟨rfl,rfl⟩
end Sto
end
section
open Go.RowKit
open Mv Disk Num
namespace Sto
open Rec (eachN)
def five (L:List UInt8) (i:Nat):Nat:=ofB ((L.drop (5*i)).take 5)
def recN (L:List UInt8) (i w:Nat):List Nat:=(List.range w).map λj=>if j<i then five L j else 0
def recW (L:List UInt8) (w:Nat):List Nat:=(List.range w).map (five L)
theorem zq9 (L:List UInt8) (i w:Nat):(recN L i w).length=w:=by unfold recN;simp
theorem zoR (L:List UInt8) (w:Nat):recN L 0 w=List.replicate w 0:=by
 unfold recN;refine List.ext_getElem (by simp) λj I J=>?_;simp
theorem zq_ (L:List UInt8) (w:Nat):recN L w w=recW L w:=by
 unfold recN recW;exact List.map_congr_left λj I=>if_pos (List.mem_range.1 I)
def nU (n:Nat):tu:=.int .u64 (n:Int)
theorem zra (L:List UInt8) {i w:Nat} (h:i<w):(recN L (i+1) w).map nU=((recN L i w).map nU).set i (nU (five L i)):=by
 rw [<- List.map_set];congr 1;unfold recN;refine List.ext_getElem (by simp) λj I J=>?_;rw [List.getElem_set,List.getElem_map,List.getElem_map,List.getElem_range];by_cases e:i=j
 ·subst e;rw [if_pos rfl,if_pos (Nat.lt_succ_self i)]
 rw [if_neg e];by_cases q:j<i
 ·rw [if_pos q,if_pos vd]
 rw [if_neg q,if_neg vd]
theorem zmW {M:Mem} {g k:Nat} {r r':Blk} (I:M.own g=none) (hk:k≠g):(M.set k r').Less ((M.set g r).set k r'):=by
 rw [vr M _ _ (Ne.symm hk)];exact vi _ _ _ ((vg _ _ (Ne.symm hk)).trans I)
theorem zgt {w:Nat} (h:1<=w):eachN w=5*w:=by unfold Rec.eachN;rw [if_neg vd]
theorem zmX (a q:Nat) (r:Rd) (T:Mem) (J:T.own q=some (rdB a r)) (Q:r.w<=8) (hc:r.ct<=65536) (I:r.at_<=4294967296) (K:eachN r.w*r.ct<=r.at_) :
  ACall prog 188 #[self q] T λv T'=>v = .tuple #[.slice none 0 0,.bool false]/\T'=T:=by
 have hm:=zkp a q r T J Q hc I;rw [decide_eq_false vd] at hm;refine k_E1 43 func188 ?_;refine r10_ ?_;refine cp_ rfl (hm) ?_;refine r3_ ?_;refine cT_ ?_;refine r8_ ?_;refine ⟨_,T,⟨_,_,rfl,⟨_,_,rfl,rfl,rfl⟩,rfl⟩,zae,?_⟩;exact ⟨rfl,rfl⟩
theorem ztR (S:Mem) (a p b c q:Nat) (r:Rd) (x:Pl) (n B:Nat) (T:Mem) (h:RdS S a p b c q r x n B T) (ac:1<=r.w) (hw:r.w<=8) (hc:r.ct<=65536) (al:r.at_+5*r.w<=5*r.w*r.ct) (hk:1+(r.at_+5*r.w-1) / 64<ns x.d r.nm) (hn:n+5*r.w<=16384) (hB:B<x.fr.length) :
  ACall prog 188 #[self q] T λv T'=>∃ y f hd M g,v = .tuple #[.slice (some ⟨g,0,none⟩) r.w r.w,.bool true]/\Fresh M g/\T'=M.set g ⟨31,(recW (run x r.nm r.at_ (5*r.w)) r.w).map nU,r.w⟩/\RdT S a p b c q r { r with at_:=r.at_+5*r.w,fr:=f,held:=hd } x y (n+5*r.w) B M:=by
 have U:=zgt ac;have aj:5*r.w*r.ct<=40*65536:=Nat.mul_le_mul vd hc;have hq:=zam h.ar h.ow;have hm:=zkp a q r T hq hw hc vd;rw [U,decide_eq_true vd] at hm;have V:=λS=>Rec.zfG r.w S hw;rw [U] at V;have ad:=zlv S a p b c q r x n B (5*r.w) T h vd vd vd hk hn hB;unfold rdB at hq;refine k_E1 43 func188 ?_;refine r10_ ?_;refine cp_ rfl (hm) ?_;refine r3_ ?_;refine cF_ ?_;refine r9_ ?_;refine cp_ rfl (V _) ?_;refine ca_ rfl (ad) ?_;rintro _ S1 ⟨y,f,hd,M,g,cc,rfl,an,hg,h1,Y⟩;rw [h1];clear h1 S1;have I:=zam Y.s.ar Y.s.ow
 (unfold rdB at I;dsimp only at I)
 have aa:q≠g:=λe=>by rw [e] at I;rw [hg.1] at I;cases I
 have o1:=(vg M ⟨5,cellsB (run x r.nm r.at_ (5*r.w)),cc⟩ aa).trans I;have hL:=zoM x r.nm r.at_ (5*r.w);generalize run x r.nm r.at_ (5*r.w)=L at *;refine r14_ ?_;refine cF_ ?_;refine r8_ ?_;refine ARun.makeSlice (zab rfl) zaq rfl rfl vd vd vd vd ?_;intro K Q;have J:=Q
 repeat ((with_reducible replace J:=zaa J);obtain ⟨J,_⟩:=J)
 have:=J.ne I;have:=J.ne' I
 refine r11_ ?_;refine kw_ [0,2,3,10,4,5,22,6,29,30] ?_;refine s1_ ?_;refine AWP.loop (X:=Nat) (λi=>[(0,self q),(4,.slice (some ⟨g,0,none⟩) (5*r.w) cc),(6,.slice (some ⟨K,0,none⟩) r.w r.w),(29,.int .i64 (r.w:Nat)),(30,.int .i64 (i:Nat))]) (λi=>(M.set g ⟨5,cellsB L,cc⟩).set K ⟨31,(recN L i r.w).map nU,r.w⟩) (λi=>i<=r.w) (λi=>r.w-i) (0) ⟨rfl,rfl,rfl,rfl,rfl,trivial⟩ (zgm (by rw [zoR,Int.toNat_natCast,Nat.mul_one,zbw,List.map_replicate];rfl)) (Nat.zero_le _) ?_;rintro i hi;(try dsimp only at *);by_cases q1:i<r.w
 ·have Z:=zq8 L g cc (5*i) (5*r.w-5*i) (cc-5*i) ((M.set g ⟨5,cellsB L,cc⟩).set K ⟨31,(recN L i r.w).map nU,r.w⟩) ((vg _ _ (zaa Q).2.symm).trans (vf _ _ _)) vd vd vd;refine r6_ ?_;refine cT_ ?_;refine r16_ ?_;refine rC (Calm.as (v':=.slice (some ⟨g,5*i,none⟩) (5*r.w-5*i) (cc-5*i)) (congrArg (λz=>Value.slice (some ⟨g,z,none⟩) (5*r.w-5*i) (cc-5*i)) (show 0+5*i*1=5*i from by omega)) (vE (5*i) underlying71 zco rfl rfl vd vd vd)) ?_;refine cp_ rfl (Z) ?_;refine s1_ ?_;refine vm rfl rfl zaw rfl (vf _ _ _) (by show 0+(i:Int).toNat*1<((recN L i r.w).map nU).length;rw [List.length_map,zq9];omega) rfl ?_;refine nm_ ?_;refine r8_ ?_;refine ⟨i+1,?_,?_,?_,?_⟩<;>try dsimp only
  ·exact ⟨rfl,rfl,rfl,rfl,zah vd,trivial⟩
  ·(rw [zra L q1,show (i:Int).toNat*1=i from by omega];exact Mem.Less.refl _)
  ·exact q1
  omega
 obtain rfl:i=r.w:=by omega
 refine r6_ ?_;refine cF_ ?_;refine r13_ ?_;refine ⟨_,M.set K ⟨31,(recW L r.w).map nU,r.w⟩,⟨_,_,rfl,⟨_,_,rfl,rfl,rfl⟩,rfl⟩,(by rw [zq_];exact zmW hg.1 (zaa Q).2),?_⟩;exact ⟨y,f,hd,M,K,rfl,(zaa Q).1,rfl,Y⟩
end Sto
end
section
open Go.RowKit
open Mv Disk
theorem ztS (n:Nat):madeL (frF F0) (n*7)=(List.replicate n F0).flatMap frF:=by
 have hl:((List.replicate n F0).flatMap frF).length=n*7:=by rw [zao zgl];simp
 refine List.ext_getElem? λj=>?_;by_cases J:j<n*7
 ·have hi:j / 7<(List.replicate n F0).length:=by rw [List.length_replicate];omega
  have K:j % 7<(frF F0).length:=Nat.mod_lt _ (by decide);have h:=zdH zgl (List.replicate n F0) (j / 7) hi (j % 7) _ (by rw [List.getElem_replicate];exact List.getElem?_eq_getElem K);rw [show j / 7*7+j % 7=j from by omega] at h;rw [h,List.getElem?_eq_getElem (by rw [zbf];exact J)];congr 1;have Q:(frF F0).toArray.size=7:=rfl;have:(madeL (frF F0) (n*7))[j]'(by rw [zbf];exact J)=(frF F0).toArray[j % 7]!:=by
   unfold madeL madeCells;simp [Q]
  rw [this];have I:j % 7<7:=Nat.mod_lt _ (by decide);generalize j % 7=q at *
  match q,I with
  | 0,_=>rfl
  | 1,_=>rfl
  | 2,_=>rfl
  | 3,_=>rfl
  | 4,_=>rfl
  | 5,_=>rfl
  | 6,_=>rfl
 rw [List.getElem?_eq_none (by rw [zbf];omega),List.getElem?_eq_none vd]
def newP (d:D) (n:Nat):Pl:=⟨d,List.replicate n F0,0,0,0⟩
theorem zeH (d:D) (n:Nat):(newP d n).fr.length=n:=by unfold newP;simp
theorem ztT (p n:Nat) (d:D) (T:Mem) (X:1<=n) (V:n<=256) :
  ACall prog 45 #[.pointer (some ⟨p,0,none⟩),.int .i64 (n:Nat)] T λr S'=>∃ a b,r = .pointer (some ⟨a,0,none⟩)/\Fresh T b/\Fresh T a/\a≠b/\S'=arM T a p b n (newP d n) 0:=by
 refine k_E2 10 func45 ?_;refine r9_ ?_;refine ARun.makeSlice (zab rfl) znD rfl rfl vd vd vd vd ?_;intro b7 Q;have J:=Q
 repeat ((with_reducible replace J:=zaa J);obtain ⟨J,_⟩:=J)
 refine s1_ ?_;refine vA (cs:=[_,_,_,_,_,_]) (zab rfl) rfl ?_;intro U K;have I:=K
 repeat ((with_reducible replace I:=zaa I);obtain ⟨I,_⟩:=I)
 refine nl_ ?_;refine r4_ ?_;refine ⟨_,arM T U p b7 n (newP d n) 0,⟨_,_,rfl,rfl,rfl⟩,zgm (by unfold arM arB frB;rw [zeH,show (newP d n).fr.flatMap frF=madeL (frF F0) (n*7) from (ztS n).symm];rfl),?_⟩;exact ⟨U,b7,rfl,Q,(zaa K).1,(zaa K).2,rfl⟩
end
section
open Go.RowKit
open Mv Disk Num
namespace Sto
theorem zeh (d:D) (m i:Nat):atF (newP d m) i=F0:=by
 unfold atF newP;rw [List.getD_eq_getElem?_getD,List.getElem?_replicate];split <;> rfl
theorem zrb {d:D} {m n:Nat} (hd:Dw d n) (I:1<=m) (J:m<=256):Ps (newP d m) n where
 d:=hd
 ok:=λi _=>.inl (zeh d m i)
 ap:=λi j _ _ _ h=>by rw [zeh] at h;exact n0 h.1
 l1:=by rw [zeH];exact I
 l2:=by rw [zeH];exact J
theorem ztU (d:D) (m:Nat) (s:tt):Use (newP d m) s 0 0 where
 pins:=λi _ hh _=>by rw [zeh] at hh;exact absurd hh n0
 at_:=λh=>absurd h (Nat.lt_irrefl 0)
 z0:=λi _=>by rw [zeh];exact zeF _ _
theorem zsG (d:D) (m:Nat) (s:tt) (k:Int):vw (newP d m) s k=seen d s k:=zgn λi _=>by rw [zeh];exact zeF _ _
theorem zvQ (d:D) (m:Nat):nb (newP d m).fr=0:=by
 unfold nb newP;rw [List.countP_replicate,if_neg];simp [show F0.idle from .inl rfl]
structure Has (x:Pl) (s:ByteArray) (w c:Nat) (L:List UInt8):Prop where
  n:ns x.d s=Rec.needN w c
  h:vw x s ((0:Nat):Int)=Rec.headS w c
  b:Wrote x s L
  l:L.length=Rec.eachN w*c
theorem Has.pos {x:Pl} {s:tt} {w c:Nat} {L:List UInt8} (h:Has x s w c L):0<ns x.d s:=by rw [h.n];exact Rec.zbl w c
theorem Has.stays {x y:Pl} {s:tt} {w c:Nat} {L:List UInt8} (h:Has x s w c L) (g:Stays x y):Has y s w c L :=
 ⟨(g.n s).trans h.n,(g.v s 0 h.pos).trans h.h,h.b.stays g,h.l⟩
theorem Has.near {x y:Pl} {s o:tt} {w c:Nat} {L:List UInt8} (h:Has x s w c L) (g:Near x y o) (I:s≠o):Has y s w c L :=
 ⟨(g.n s).trans h.n,(g.v s 0 I h.pos).trans h.h,h.b.near g I,h.l⟩
theorem zrc (l:List UInt8) (k j:Nat):(l ++ List.replicate k 0).getD j 0=l.getD j 0:=by
 rw [List.getD_eq_getElem?_getD,List.getD_eq_getElem?_getD];by_cases q:j<l.length
 ·rw [List.getElem?_append_left q]
 rw [List.getElem?_append_right vd,List.getElem?_replicate,List.getElem?_eq_none (l:=l) vd];split <;> rfl
theorem zjb (s:tt) (i t:Nat) (h:t<64):(Rec.secAt s i).data.toList.getD t 0=s.data.toList.getD (64*i+t) 0:=by
 unfold Rec.secAt;rw [Lib.extract_data,List.getD_eq_getElem?_getD,List.getD_eq_getElem?_getD,List.getElem?_take_of_lt vd,List.getElem?_drop]
theorem zoS (s:tt) (j:Nat):(Rec.padS s).data.toList.getD j 0=s.data.toList.getD j 0:=by rw [Rec.zgh,zrc]
theorem ztV {d:D} {s body:tt} {w c m n:Nat} (hd:Dw d n) (h:Rec.FileR d s w c body) (hb:body.size=Rec.eachN w*c):Has (newP d m) s w c body.data.toList:=by
 have e0:=zda hd.r hd.u s 0;rw [h.head] at e0;have J:(placeD d s 0).2=0:=by
  by_cases q:(placeD d s 0).2=0
  ·exact q
  rw [if_pos q] at e0;exact absurd (Prod.mk.inj e0).2.symm q
 rw [if_neg (by rw [J];simp)] at e0;obtain ⟨hh,_,_⟩:=zeB J;have Q:ns d s=Rec.needN w c:=by
  have:=Rec.zec hd.r hd.u hh;rw [h.size] at this;have:=(Prod.mk.inj this).1;unfold ns;rw [if_pos hh];omega
 refine ⟨Q,?_,λj I=>?_,?_⟩
 ·rw [zsG];exact (Prod.mk.inj e0).1.symm
 ·have I:1+j / 64<ns d s:=I;unfold byt;rw [zsG];have K:=h.secs (j / 64) vd;rw [show (j / 64+1:Nat)=1+j / 64 from Nat.add_comm _ _,zda hd.r hd.u,zcP I,if_neg (by simp)] at K;rw [(Prod.mk.inj K).1,zjb _ _ _ vd,zoS,show 64*(j / 64)+j % 64=j from by omega]
 rw [Array.length_toList];exact hb
theorem ztW {x:Pl} {n:Nat} (I:Ps x n) (hc:∀ j,j<x.fr.length->(atF x j).dirty=false) (s:tt) (k:Int):vw x s k=seen x.d s k:=by
 rcases ztz (p:=x) s k with ⟨i,hi,e⟩ | e
 ·rw [zgN I hi e];obtain ⟨a,b,c⟩:=zak.1 e;rw [(zcc (I.ok i hi) a).c (hc i hi),b,c]
 exact zgn e
theorem zgu {x:Pl} {n:Nat} (I:Ps x n) (hc:∀ j,j<x.fr.length->(atF x j).dirty=false) {s:tt} {w c:Nat} {L:List UInt8} (h:Has x s w c L):Rec.FileR x.d s w c (bs L):=by
 have hh:has x.d.ext s=true:=(zcO I.d s).2 h.pos;have K:∀ k:Nat,k<ns x.d s->readO x.d s (k:Int)=(vw x s (k:Int),0):=λk hk=>by
  rw [zda I.d.r I.d.u,zcP hk,if_neg (by simp),ztW I hc]
 refine ⟨(K 0 h.pos).trans (by rw [h.h]),λi hi=>?_,?_⟩
 ·have hk:i+1<ns x.d s:=by rw [h.n];omega
  rw [K _ hk];refine Prod.ext ?_ rfl;show vw x s ((i+1:Nat):Int)=_;have Q:=zkm I hk;have J:(bs L).size=L.length:=za2 L;have V:(Rec.secAt (Rec.padS (bs L)) i).size=64:=Rec.zg9 (by
   rw [Rec.zdv,J,h.l];unfold Rec.needN at hi;omega)
  apply zbQ;have l1:(vw x s ((i+1:Nat):Int)).data.toList.length=64:=by rw [Array.length_toList];exact Q
  have l2:(Rec.secAt (Rec.padS (bs L)) i).data.toList.length=64:=by rw [Array.length_toList];exact V
  refine List.ext_getElem (by rw [l1,l2]) λt U X=>?_;have Y:t<64:=by omega
  have e1:=h.b (64*i+t) vd;unfold byt at e1;rw [show 1+(64*i+t) / 64=i+1 from by omega,show (64*i+t) % 64=t from by omega] at e1;have e2:=zjb (Rec.padS (bs L)) i t Y;rw [zoS,bs_data,<- e1] at e2;rw [List.getD_eq_getElem?_getD,List.getElem?_eq_getElem X,List.getD_eq_getElem?_getD,List.getElem?_eq_getElem U] at e2;exact e2.symm
 rw [Rec.zec I.d.r I.d.u hh];have:=h.n;unfold ns at this;rw [if_pos hh] at this;rw [this]
/-! ### Records -/
theorem zkq {α β : Type} (f : α->List β) (n:Nat):∀ (l:List α),(∀ r ∈ l,(f r).length=n) -> ∀ (i:Nat) (hi:i<l.length) (t:Nat),t<n->(l.flatMap f)[n*i+t]?=(f l[i])[t]?
 | [],_,i,hi,_,_=>by cases hi
 | x :: l,hl,0,_,t,ht=>by
  have:=hl x (List.mem_cons_self ..);rw [List.flatMap_cons,Nat.mul_zero,Nat.zero_add,List.getElem?_append_left vd];rfl
 | x :: l,hl,i+1,hi,t,ht=>by
  have:=hl x (List.mem_cons_self ..);have I:i<l.length:=by simpa using hi
  rw [List.flatMap_cons,List.getElem?_append_right (by rw [this,Nat.mul_add,Nat.mul_one];omega),this,Nat.mul_add,Nat.mul_one,show n*i+n+t-n=n*i+t from by omega,zkq f n l (λr J=>hl r (List.mem_cons_of_mem _ J)) i I t ht];rfl
theorem zlx {α β : Type} (f : α->List β) (n:Nat):∀ (l:List α),(∀ r ∈ l,(f r).length=n)->(l.flatMap f).length=n*l.length
 | [],_=>rfl
 | x :: l,hl=>by
  rw [List.flatMap_cons,List.length_append,zlx f n l (λr I=>hl r (List.mem_cons_of_mem _ I)),hl x (List.mem_cons_self ..),List.length_cons,Nat.mul_add,Nat.mul_one,Nat.add_comm]
def RowsOK (w:Nat) (l:List (List Nat)):Prop:=∀ r ∈ l,r.length=w /\ ∀ n ∈ r,n<top
theorem zly (r:List Nat):(recB r).length=5*r.length:=zlx Num.five 5 r λ_ _=>rfl
theorem zoT {r:List Nat} (h:∀ n ∈ r,n<top):recW (recB r) r.length=r:=by
 unfold recW;refine List.ext_getElem (by simp) λi J I=>?_;rw [List.getElem_map,List.getElem_range];unfold Sto.five;have e:((recB r).drop (5*i)).take 5=Num.five r[i]:=by
  refine List.ext_getElem? λt=>?_;by_cases q:t<5
  ·rw [List.getElem?_take_of_lt q,List.getElem?_drop];exact zkq Num.five 5 r (λ_ _=>rfl) i I t q
  rw [List.getElem?_eq_none (by rw [List.length_take];omega),List.getElem?_eq_none (by show 5<=t;omega)]
 rw [e,zlf _ (h _ (List.getElem_mem I))]
theorem ztX {x:Pl} {s:tt} {w c:Nat} {rows:List (List Nat)} (h:Has x s w c (rows.flatMap recB)) (V:1<=w) (hc:rows.length=c) (Q:RowsOK w rows) {i:Nat} (hi:i<rows.length):recW (run x s (5*w*i) (5*w)) w=rows[i]:=by
 have I:∀ r ∈ rows,(recB r).length=5*w:=λr hm=>by rw [zly,(Q r hm).1]
 have hm:=Q _ (List.getElem_mem hi);have J:5*w*(i+1)<=5*w*c:=Nat.mul_le_mul_left _ vd;rw [Nat.mul_add,Nat.mul_one] at J;have e:run x s (5*w*i) (5*w)=recB rows[i]:=by
  unfold run;refine List.ext_getElem (by rw [List.length_map,List.length_range,I _ (List.getElem_mem hi)]) λt K U=>?_;rw [List.length_map,List.length_range] at K;rw [List.getElem_map,List.getElem_range,h.b (5*w*i+t) (by
   rw [h.n];unfold Rec.needN Rec.eachN;rw [if_neg vd];omega),List.getD_eq_getElem?_getD,zkq recB (5*w) rows I i hi t K,List.getElem?_eq_getElem U]
  rfl
 rw [e];have:=zoT hm.2;rwa [hm.1] at this
theorem zvR {x:Pl} {s:tt} {w c:Nat} {L:List UInt8} (h:Has x s w c L) (J:1<=w) {i:Nat} (hi:i<c):5*w*i+5*w<=5*w*c/\1+(5*w*i+5*w-1) / 64<ns x.d s:=by
 have I:5*w*(i+1)<=5*w*c:=Nat.mul_le_mul_left _ vd;rw [Nat.mul_add,Nat.mul_one] at I;refine ⟨I,?_⟩;rw [h.n];unfold Rec.needN Rec.eachN;rw [if_neg vd];omega
end Sto
end
section
open Go.RowKit
open Mv
namespace Run
theorem zvS {P:tz} {t:tx} {x y:tw} {i j:Int} {a b:Nat} (hi:i=(a:Int)) (I:j=(b:Int)) (hb:0<b) (J:a<=9223372036854775807):Bin P .quo t x y (.int .i64 i) (.int .i64 j) (.int .i64 ((a / b:Nat):Int)):=by
 subst hi I;refine zkU vd ?_;rw [<- Int.ofNat_tdiv];have:=Nat.div_le_self a b;generalize a / b=q at *;exact IntWalk.i64_in _ vd
def sizeN (m w:Nat):Nat:=64*(m-8) / (5*w)
theorem zrd (m w:Nat) (S:Mem) (K:24<=m) (Q:m<=256) (I:1<=w) (J:w<=8) :
  ACall prog 251 #[.int .i64 (m:Nat),.int .i64 (w:Nat)] S λr S'=>r = .tuple #[.int .i64 (sizeN m w:Nat),.int .i64 0]/\S'=S:=by
 unfold sizeN;refine k_E2 26 func251 ?_;refine r15_ ?_;refine cF_ ?_;refine r15_ ?_;refine cF_ ?_;refine r10_ ?_;refine rC (vh rfl rfl (zvS (a:=64*(m-8)) (b:=5*w) vd vd vd vd)) ?_;refine r5_ ?_;refine ⟨_,S,⟨_,_,rfl,⟨_,_,rfl,rfl,rfl⟩,rfl⟩,zae,?_⟩;exact ⟨rfl,rfl⟩
theorem zre {m w:Nat} (K:24<=m) (J:w<=8) (I:1<=w):1<=sizeN m w:=by
 unfold sizeN;exact (Nat.le_div_iff_mul_le vd).2 vd
theorem ztY (m w:Nat) (I:m<=256):sizeN m w<=16384:=by
 unfold sizeN;have:=Nat.div_le_self (64*(m-8)) (5*w);omega
theorem zjc (s:tt) (S:Mem) (I:s.size≠0) (J:s.size<=12):ACall prog 156 #[.string s] S λr S'=>r = .bool true/\S'=S:=by
 refine k_E1 10 func156 ?_;refine r8_ ?_;refine rC (vh rfl rfl (zaf (zaT _ _) (zcd (λe=>I (by rw [e];rfl))))) ?_;refine r9_ ?_;refine ⟨_,S,⟨_,_,rfl,rfl,rfl⟩,zae,?_⟩;exact ⟨rfl,rfl⟩
def dig (i k:Nat):UInt8:=UInt8.ofNat (48+i / 10 ^ k % 10)
theorem zvT (i k:Nat):nb (dig i k)=48+((i / 10 ^ k:Nat):Int) % 10:=by
 unfold nb dig;rw [UInt8.toNat_ofNat'];generalize i / 10 ^ k=q;omega
def nameS (s:tt) (i:Nat):tt:=s ++ bs [dig i 3,dig i 2,dig i 1,dig i 0]
def digs (i k:Nat):List UInt8:=[if 4<=k then dig i 3 else 0,if 3<=k then dig i 2 else 0,if 2<=k then dig i 1 else 0,if 1<=k then dig i 0 else 0]
theorem zoU (i:Nat) {k:Nat} (h:k<4):(cellsB (digs i k)).set (3-k) (.int .u8 (nb (dig i k)))=cellsB (digs i (k+1)):=by
 match k,h with
 | 0,_=>rfl
 | 1,_=>rfl
 | 2,_=>rfl
 | 3,_=>rfl
theorem zfL (s:tt) (i:Nat) (S:Mem) (Y:s.size≠0) (h2:s.size<=12) (hi:i<=9999) :
  ACall prog 106 #[.string s,.int .i64 (i:Nat)] S λr S'=>r = .tuple #[.string (nameS s i),.int .i64 0]/\S'=S:=by
 have hp:=zjc s S Y h2;refine k_E2 36 func106 ?_;refine r10_ ?_;refine cp_ rfl (hp) ?_;refine r11_ ?_;refine cF_ ?_;refine r4_ ?_;refine ARun.alloc (zab rfl) zjS ?_;intro U Z;have I:=Z
 repeat ((with_reducible replace I:=zaa I);obtain ⟨I,_⟩:=I)
 refine nl_ ?_;refine r9_ ?_;refine AWP.loop (X:=Nat) (λk=>[(0,.string s),(1,.int .i64 ((i / 10 ^ k:Nat):Int)),(6,.pointer (some ⟨U,0,none⟩)),(19,.int .i64 (k:Nat))]) (λk=>S.set U ⟨256,cellsB (digs i k),4⟩) (λk=>k<=4) (λk=>4-k) (0) ⟨rfl,zah (by rw [Nat.pow_zero,Nat.div_one]),rfl,rfl,trivial⟩ (Mem.Less.refl _) (Nat.zero_le _) ?_;rintro k hk;(try dsimp only at *);have hk:k<=4:=hk;by_cases V:k<4
 ·have Q:=zoU i V;have K:i / 10 ^ k / 10=i / 10 ^ (k+1):=by rw [Nat.div_div_eq_div_mul,Nat.pow_succ]
  have J:=zvT i k;have ad:=Nat.div_le_self i (10 ^ k);generalize i / 10 ^ k=q at *;refine r6_ ?_;refine cT_ ?_;refine r17_ ?_;refine rC (Calm.as (congrArg (Value.int .u8) J.symm) (Calm.conv rfl (zbx underlying3 underlying5 (IntWalk.u8_in _ vd)))) ?_;refine s1_ ?_;refine vm rfl rfl zco rfl (vf _ _ _) (by show 0+(3-(k:Int)).toNat*1<4;omega) rfl ?_;refine nm_ ?_;refine r14_ ?_;refine ⟨k+1,?_,?_,?_,?_⟩<;>try dsimp only
  ·exact ⟨rfl,zah (by rw [<- K];omega),rfl,zah vd,trivial⟩
  ·(rw [<- Q,show (3-(k:Int)).toNat*1=3-k from by omega];exact Mem.Less.refl _)
  ·exact V
  omega
 obtain rfl:k=4:=by omega
 refine r6_ ?_;refine cF_ ?_;refine r9_ ?_;refine rC (vW zbi zaE rfl (l:=[dig i 3,dig i 2,dig i 1,dig i 0]) rfl (zcl (r:=⟨256,cellsB (digs i 4),4⟩) (vf _ _ _))) ?_;refine rC (vh rfl rfl (zbh (by rw [za2];show s.size+4<=_;omega))) ?_;refine r4_ ?_;refine kw_ [0,1,6,19,20,4,5] ?_;refine s1_ ?_;refine ⟨_,S,⟨_,_,rfl,⟨_,_,rfl,rfl,rfl⟩,rfl⟩,zae,?_⟩;exact ⟨rfl,rfl⟩
end Run
end
section
open Go.RowKit
open Mv Disk Num
namespace Sto
theorem zei {S:Mem} {g w:Nat} {I:List Nat} {e:tx} (J:I.length=w) (K:w<=8) (h:S.own g=some ⟨e,I.map nU,w⟩):RowR S (.slice (some ⟨g,0,none⟩) w w) I :=
 vL h List.prefix_rfl J (Nat.le_refl _) vd
end Sto
end
section
open Go.RowKit
open Mv Disk Num
namespace Sto
theorem zoV (S:Mem) (a p b c:Nat) (x:Pl) (s:tt) (n w ct:Nat) (T:Mem) (h:ArS S a p b c x T) (U:Ps x n) (hh:Rec.headD x.d s=(w,ct,0)) :
  ACall prog 85 #[self a,.string s] T λv T'=>∃ q,v = .tuple #[self q,.int .i64 0]/\Fresh T q/\T'=T.set q (rdB a ⟨s,w,ct,0,0,0⟩):=by
 obtain ⟨k,oE,oW,ok,rfl⟩:=h;have Q:=za0 (M:=devM S p x.d oE oW) (a:=a) (p:=p) (b:=b) (c:=c) (x:=x) (k:=k);have hd:=Rec.zhe p x.d s _ (ok.rd (zfh U) k) U.d.r;rw [hh] at hd;generalize arM (devM S p x.d oE oW) a p b c x k=T at *;unfold arB at Q;unfold Rec.formV at hd;refine k_E2 28 func85 ?_;refine r13_ ?_;refine cp_ rfl (hd) ?_;refine r16_ ?_;refine cF_ ?_;refine r9_ ?_;refine vA (cs:=[_,_,_,_,_,_,_,_]) (zab rfl) rfl ?_;intro K J;have I:=J
 repeat ((with_reducible replace I:=zaa I);obtain ⟨I,_⟩:=I)
 have:=I.ne Q;have:=I.ne' Q
 refine nl_ ?_;refine r5_ ?_;refine ⟨_,T.set K (rdB a ⟨s,w,ct,0,0,0⟩),⟨_,_,rfl,⟨_,_,rfl,rfl,rfl⟩,rfl⟩,zae,?_⟩;exact ⟨K,rfl,J,rfl⟩
end Sto
end
section
open Go.RowKit
open Mv
namespace Mv
end Mv
namespace Er
theorem under:prog.underlying 52=some (.interface (prog.methodsAt 52)):=by kernel_rfl
theorem eqNil {x:tw} {c:tu}:Bin prog .eql 52 x (.const c) .nilIface .nilIface (.bool true):=λw=>by
 have:=run_eql_nil_nil (P:=prog) (w:=w) 52 under;simpa [eqGuard] using this
theorem neNil {x:tw} {c:tu}:Bin prog .neq 52 x (.const c) .nilIface .nilIface (.bool false):=λw=>by
 have:=run_neq_nil_nil (P:=prog) (w:=w) 52 under;simpa [eqGuard] using this
theorem eqHeld {x y:tw} (T:tx) (v:tu):Bin prog .eql 52 x y .nilIface (.iface T v) (.bool false):=λw=>by
 have:=run_eql_iface_nil_left (P:=prog) (w:=w) T v under;simpa [eqGuard] using this
theorem isNil (T:tx) (v:tu) (S:Mem):ACall prog 54 #[.nilIface,.iface T v] S λr S'=>r = .bool false/\S'=S:=by
 refine k_E2 22 func54 ?_;refine r9_ ?_;refine rC (vh rfl rfl eqNil) ?_;refine r2_ ?_
 first|refine k_q 8 ?_|refine rG 8 (vh rfl rfl eqNil) ?_
 refine r3_ ?_;refine cT_ ?_;refine r4_ ?_;refine rC (vh rfl rfl (eqHeld _ _)) ?_;refine r5_ ?_;refine ⟨_,S,⟨_,_,rfl,rfl,rfl⟩,zae,?_⟩;exact ⟨rfl,rfl⟩
end Er
end
section
open Go.RowKit
open Mv Disk Num
namespace Sto
theorem zaj (s:tt) (S:Mem):ACall prog 43 #[.string s,.int .i64 0] S λr S'=>r = .nilIface/\S'=S:=by
 refine k_E2 13 func43 ?_;refine r12_ ?_;refine cT_ ?_;refine r7_ ?_;refine ⟨_,S,⟨_,_,rfl,rfl,rfl⟩,zae,?_⟩;exact ⟨rfl,rfl⟩
theorem zoW (S:Mem):ACall prog 53 #[.nilIface] S λr S'=>r = .int .i64 0/\S'=S:=by
 refine k_E1 13 func53 ?_;refine r7_ ?_;refine ARun.alloc (zab rfl) ze2 ?_;intro K J;have I:=J
 repeat ((with_reducible replace I:=zaa I);obtain ⟨I,_⟩:=I)
 refine nl_ ?_;refine r6_ ?_;refine rC (vh rfl rfl Er.eqNil) ?_;refine r2_ ?_
 first|refine k_q 6 ?_|refine rG 6 (Calm.mkI (by kernel_rfl) rfl) ?_
 refine r5_ ?_;refine cT_ ?_;refine r7_ ?_;refine ⟨_,S,⟨_,_,rfl,rfl,rfl⟩,zae,?_⟩;exact ⟨rfl,rfl⟩
structure W5 where
  v1:tu
  v2:tu
  v3:tu
  v4:tu
  v5:tu
def wkB (a:Nat) (u:W5) (tm:tu):Blk:=⟨92,[.pointer (some ⟨a,0,none⟩),u.v1,u.v2,u.v3,u.v4,u.v5,tm,.int .u64 0,.int .u64 0,.int .i64 0],10⟩
theorem ztZ {M:Mem} {d:D} {oE oW:Option (Nat × Nat)} (h:OkD M d oE oW) {w:Nat} {r r':Blk} (I:M.own w=some r):(M.set w r').Less ((dkM M d oE oW).set w r'):=Mv.Less.set h.less w r'
theorem zhk {S:Mem} {p:Nat} {d:D} {oE oW:Option (Nat × Nat)} (h:OkV S p d oE oW) {w:Nat} (U:Fresh (devM S p d oE oW) w) (k:Blk):Fresh S w/\OkV (S.set w k) p d oE oW/\(devM S p d oE oW).set w k=devM (S.set w k) p d oE oW:=by
 obtain ⟨Q,K,I,J⟩:=zeG U;have e1:(outN 2 S oE extT (d.ext.flatMap extF)).set w k=outN 2 (S.set w k) oE extT (d.ext.flatMap extF):=zbA I;have e2:(dkM S d oE oW).set w k=dkM (S.set w k) d oE oW:=by
  unfold dkM;rw [zbA J,e1]
 refine ⟨Q,⟨⟨h.dk.e.set I,by rw [<- e1];exact h.dk.w.set J⟩,by rw [<- e2];exact zai h.fr (Ne.symm K)⟩,?_⟩;unfold devM;rw [vr _ _ _ (Ne.symm K),e2]
theorem begun {S:Mem} {p w a b c:Nat} {d:D} {oE oW:Option (Nat × Nat)} {x:Pl} {k:Blk} (K:OkV S p d oE oW) (Q:Fresh (devM S p d oE oW) w) (fb:Fresh ((devM S p d oE oW).set w k) b) (fa:Fresh ((devM S p d oE oW).set w k) a) (J:a≠b) (hl:x.fr.length<=c) (U:x.d=d) (k':Blk) :
  ArS (S.set w k') a p b c x ((arM ((devM S p d oE oW).set w k) a p b c x 0).set w k'):=by
 obtain ⟨X,V,I⟩:=zhk K Q k;have h:ArS (S.set w k) a p b c x (arM ((devM S p d oE oW).set w k) a p b c x 0):=by
  subst U;exact ⟨0,oE,oW,⟨V,by rw [<- I];exact fb,by rw [<- I];exact fa,J,hl⟩,by rw [I]⟩
 have:=zdj h (vf _ _ _) k';rwa [Mem.set_set] at this
theorem zrf (v:tu) (d:D) (m:Nat) (S:Mem) (hd:DkR S v d) (hz:Dz d) (ho:openD d=(d,0)) (Z:24<=m) (h2:m<=256) :
  ACall prog 16 #[v,.int .i64 (m:Nat)] S λr T=>∃ S0 wk a p b u,r = .tuple #[self wk,.nilIface]/\S.Less S0/\Fresh S0 wk/\ArS (S0.set wk (wkB a u (.slice none 0 0))) a p b m (newP d m) T:=by
 have ad:=λM h=>zew v d M (DkR.less hd h) hz;obtain ⟨pe,ce,pw,cw,rfl,hE,hW⟩:=id hd;refine k_E2 51 func16 ?_;refine r2_ ?_;refine k_b5 rfl ?_;intro b2 f2;have g2:=f2
 repeat ((with_reducible replace g2:=zaa g2);obtain ⟨g2,_⟩:=g2)
 refine nl_ ?_;refine r7_ ?_;refine ca_ rfl (ad _ zae) ?_;rintro _ S1 ae;rw [ho] at ae;obtain ⟨p,oE,oW,Y,rfl,Z⟩:=ae;rw [Z];clear Z S1;have an:=vi S b2 ⟨26,[.int .i64 d.size,.slice pe d.ext.length ce,.slice pw d.waits.length cw,.int .i64 d.fuse,.bool d.down],5⟩ f2.1;dsimp only at Y ⊢;generalize S.set b2 ⟨26,[.int .i64 d.size,.slice pe d.ext.length ce,.slice pw d.waits.length cw,.int .i64 d.fuse,.bool d.down],5⟩=S0 at *;have hp:(devM S0 p d oE oW).own p=some (devB d oE oW):=vf _ _ _;unfold devB at hp;refine r14_ ?_;refine vA (cs:=[_,_,_,_,_,_,_,_,_,_]) (zab rfl) rfl ?_;intro J aa;have K:=aa
 repeat ((with_reducible replace K:=zaa K);obtain ⟨K,_⟩:=K)
 have:=K.ne hp;have:=K.ne' hp
 refine nl_ ?_;refine r3_ ?_;obtain ⟨aj,az,e1⟩:=zhk Y aa ⟨92,[.pointer none,.int .i64 d.size,outV oE d.ext.length,outV oW d.waits.length,.int .i64 d.fuse,.bool d.down,.slice none 0 0,.int .u64 0,.int .u64 0,.int .i64 0],10⟩;refine r9_ ?_;refine cF_ ?_;refine r7_ ?_;refine cF_ ?_;refine r7_ ?_;refine kw_ [0,1,2,4,5,6,7,8,20,26,31] ?_;refine cF_ ?_;have aq:DkR (devM S0 p d oE oW) (dkV d oE oW) d:=(Y.dk.dk (by have:=hz.el;omega) (by have:=hz.wl;omega)).less (vi _ _ _ Y.fr.1);refine r10_ ?_;refine ca_ rfl (zk5 _ d _ (aq.less (vi _ _ _ aa.1)) hz.el hz.wl) ?_;rintro _ S1 ⟨aD,aI,I,rfl,Z⟩;rw [Z];clear Z S1;unfold dkV;obtain ⟨V,U,ao⟩:=zbk I.e;obtain ⟨Q,X,al⟩:=zbk I.w;rw [ao,al];have ah:=I.less.own (vf (devM S0 p d oE oW) J ⟨92,[.pointer none,.int .i64 d.size,outV oE d.ext.length,outV oW d.waits.length,.int .i64 d.fuse,.bool d.down,.slice none 0 0,.int .u64 0,.int .u64 0,.int .i64 0],10⟩);refine r2_ ?_;refine ARun.store rfl rfl zal ah (show 1+5<=10 by decide) (by simp [Value.cells,Value.oneCell']) ?_;refine nm_ ?_;refine r2_ ?_;refine AWP.less ((devM S0 p d oE oW).set J ⟨92,[.pointer none,.int .i64 d.size,.slice V d.ext.length U,.slice Q d.waits.length X,.int .i64 d.fuse,.bool d.down,.slice none 0 0,.int .u64 0,.int .u64 0,.int .i64 0],10⟩) (by have:=ztZ I (r':=⟨92,[.pointer none,.int .i64 d.size,.slice V d.ext.length U,.slice Q d.waits.length X,.int .i64 d.fuse,.bool d.down,.slice none 0 0,.int .u64 0,.int .u64 0,.int .i64 0],10⟩) (vf _ _ _);rw [Mem.set_set] at this;exact this) ?_;have ac:=vf (devM S0 p d oE oW) J ⟨92,[.pointer none,.int .i64 d.size,.slice V d.ext.length U,.slice Q d.waits.length X,.int .i64 d.fuse,.bool d.down,.slice none 0 0,.int .u64 0,.int .u64 0,.int .i64 0],10⟩;refine r5_ ?_;refine ca_ rfl (ztT p m d _ vd h2) ?_;rintro _ S1 ⟨a,b,rfl,fb,fa,ak,Z⟩;rw [Z];clear Z S1;have au:=fa.ne ac;have av:=fb.ne ac;have aE:(arM ((devM S0 p d oE oW).set J ⟨92,[.pointer none,.int .i64 d.size,.slice V d.ext.length U,.slice Q d.waits.length X,.int .i64 d.fuse,.bool d.down,.slice none 0 0,.int .u64 0,.int .u64 0,.int .i64 0],10⟩) a p b m (newP d m) 0).own J=_:=(vg _ _ au).trans ((vg _ _ av).trans ac);have hA:=begun Y aa fb fa ak (by rw [zeH];exact Nat.le_refl _) (x:=newP d m) rfl;refine r13_ ?_;refine ⟨_,_,⟨_,_,rfl,⟨_,_,rfl,rfl,rfl⟩,rfl⟩,Mem.Less.refl _,?_⟩;exact ⟨S0,J,a,p,b,⟨.int .i64 d.size,.slice V d.ext.length U,.slice Q d.waits.length X,.int .i64 d.fuse,.bool d.down⟩,rfl,an,aj,hA _⟩
end Sto
end
end Go.Proofs.YtbgjkpkakoggbaaGreatDoor
namespace Go.Proofs
open Go.Shelf
def Tryz.laysSlF6_f219_ren:Go.Shelf.Ren:=⟨λ| 6=>219 | 15=>247 | 14=>246 | 28=>272 | 29=>31 | 20=>264 | 21=>265 | 22=>266 | 23=>267 | 24=>268 | 25=>269 | 26=>270 | 27=>271 | 46=>282 | 47=>283 | 48=>284 | 49=>285 | 50=>286 | 57=>292 | n=>n,λ| 22=>242 | 24=>3 | 25=>326 | 3=>3 | 39=>131 | 0=>0 | 53=>214 | 55=>31 | 4=>4 | 46=>369 | 45=>368 | 50=>137 | 5=>5 | 9=>9 | 66=>387 | 70=>391 | 76=>395 | 77=>396 | n=>n,λ| n=>n⟩
theorem Tryz.laysSlF6_f219:Go.Proofs.SlLaysF.n6 Tryz.prog Tryz.laysSlF6_f219_ren:={
 mixed:=by kernel_rfl
 f6:=⟨Tryz.f219.name,by decide,Tryz.func219.trans (congrArg some (by kernel_rfl))⟩
 f14:=⟨Tryz.f246.name,by decide,Tryz.func246.trans (congrArg some (by kernel_rfl))⟩
 f15:=Tryz.func247.trans (congrArg some (by kernel_rfl))
 f20:=⟨Tryz.f264.name,by decide,Tryz.func264.trans (congrArg some (by kernel_rfl))⟩
 f21:=⟨Tryz.f265.name,by decide,Tryz.func265.trans (congrArg some (by kernel_rfl))⟩
 f22:=⟨Tryz.f266.name,by decide,Tryz.func266.trans (congrArg some (by kernel_rfl))⟩
 f23:=⟨Tryz.f267.name,by decide,Tryz.func267.trans (congrArg some (by kernel_rfl))⟩
 f24:=⟨Tryz.f268.name,by decide,Tryz.func268.trans (congrArg some (by kernel_rfl))⟩
 f25:=⟨Tryz.f269.name,by decide,Tryz.func269.trans (congrArg some (by kernel_rfl))⟩
 f26:=⟨Tryz.f270.name,by decide,Tryz.func270.trans (congrArg some (by kernel_rfl))⟩
 f27:=⟨Tryz.f271.name,by decide,Tryz.func271.trans (congrArg some (by kernel_rfl))⟩
 f28:=Tryz.func272.trans (congrArg some (by kernel_rfl))
 f29:=Tryz.func31.trans (congrArg some (by kernel_rfl))
 f46:=⟨Tryz.f282.name,by decide,Tryz.func282.trans (congrArg some (by kernel_rfl))⟩
 f47:=Tryz.func283.trans (congrArg some (by kernel_rfl))
 f48:=Tryz.func284.trans (congrArg some (by kernel_rfl))
 f49:=⟨Tryz.f285.name,by decide,Tryz.func285.trans (congrArg some (by kernel_rfl))⟩
 f50:=⟨Tryz.f286.name,by decide,Tryz.func286.trans (congrArg some (by kernel_rfl))⟩
 f57:=⟨Tryz.f292.name,by decide,Tryz.func292.trans (congrArg some (by kernel_rfl))⟩
 t0:=Tryz.underlying0
 a0:=Tryz.isAgg0
 z0:=Tryz.sizeOf0
 v0:=Tryz.zeroValue0
 t3:=Tryz.underlying3
 a3:=Tryz.isAgg3
 z3:=Tryz.sizeOf3
 v3:=Tryz.zeroValue3
 t4:=Tryz.underlying4
 a4:=Tryz.isAgg4
 z4:=Tryz.sizeOf4
 v4:=Tryz.zeroValue4
 t5:=Tryz.underlying5
 a5:=Tryz.isAgg5
 z5:=Tryz.sizeOf5
 v5:=Tryz.zeroValue5
 t9:=Tryz.underlying9
 a9:=Tryz.isAgg9
 z9:=Tryz.sizeOf9
 v9:=Tryz.zeroValue9
 t22:=Tryz.underlying242
 a22:=Tryz.isAgg242
 z22:=Tryz.sizeOf242
 v22:=Tryz.zeroValue242
 a24:=Tryz.isAgg3
 z24:=Tryz.sizeOf3
 t25:=Tryz.underlying326
 a25:=Tryz.isAgg326
 z25:=Tryz.sizeOf326
 v25:=Tryz.zeroValue326
 t39:=Tryz.underlying131
 a39:=Tryz.isAgg131
 z39:=Tryz.sizeOf131
 v39:=Tryz.zeroValue131
 t45:=Tryz.underlying368
 a45:=Tryz.isAgg368
 z45:=Tryz.sizeOf368
 v45:=Tryz.zeroValue368
 t46:=Tryz.underlying369
 a46:=Tryz.isAgg369
 z46:=Tryz.sizeOf369
 v46:=Tryz.zeroValue369
 t50:=Tryz.underlying137
 a50:=Tryz.isAgg137
 z50:=Tryz.sizeOf137
 v50:=Tryz.zeroValue137
 t53:=Tryz.underlying214
 a53:=Tryz.isAgg214
 z53:=Tryz.sizeOf214
 v53:=Tryz.zeroValue214
 t55:=Tryz.underlying31
 a55:=Tryz.isAgg31
 z55:=Tryz.sizeOf31
 v55:=Tryz.zeroValue31
 t66:=Tryz.underlying387
 a66:=Tryz.isAgg387
 z66:=Tryz.sizeOf387
 v66:=Tryz.zeroValue387
 t70:=Tryz.underlying391
 a70:=Tryz.isAgg391
 z70:=Tryz.sizeOf391
 v70:=Tryz.zeroValue391
 t76:=Tryz.underlying395
 a76:=Tryz.isAgg395
 z76:=Tryz.sizeOf395
 v76:=Tryz.zeroValue395
 t77:=Tryz.underlying396
 a77:=Tryz.isAgg396
 z77:=Tryz.sizeOf396
 v77:=Tryz.zeroValue396 }
def Tryz.laysSlF6_f274_ren:Go.Shelf.Ren:=⟨λ| 6=>274 | 15=>247 | 14=>287 | 28=>272 | 29=>31 | 20=>293 | 21=>294 | 22=>295 | 23=>296 | 24=>297 | 25=>298 | 26=>299 | 27=>300 | 46=>301 | 47=>283 | 48=>284 | 49=>302 | 50=>303 | 57=>304 | n=>n,λ| 22=>346 | 24=>161 | 25=>325 | 3=>3 | 39=>131 | 0=>0 | 53=>214 | 55=>31 | 4=>4 | 46=>369 | 45=>368 | 50=>137 | 5=>5 | 9=>9 | 66=>387 | 70=>391 | 76=>395 | 77=>396 | n=>n,λ| n=>n⟩
theorem Tryz.laysSlF6_f274:Go.Proofs.SlLaysF.n6 Tryz.prog Tryz.laysSlF6_f274_ren:={
 mixed:=by kernel_rfl
 f6:=⟨Tryz.f274.name,by decide,Tryz.func274.trans (congrArg some (by kernel_rfl))⟩
 f14:=⟨Tryz.f287.name,by decide,Tryz.func287.trans (congrArg some (by kernel_rfl))⟩
 f15:=Tryz.func247.trans (congrArg some (by kernel_rfl))
 f20:=⟨Tryz.f293.name,by decide,Tryz.func293.trans (congrArg some (by kernel_rfl))⟩
 f21:=⟨Tryz.f294.name,by decide,Tryz.func294.trans (congrArg some (by kernel_rfl))⟩
 f22:=⟨Tryz.f295.name,by decide,Tryz.func295.trans (congrArg some (by kernel_rfl))⟩
 f23:=⟨Tryz.f296.name,by decide,Tryz.func296.trans (congrArg some (by kernel_rfl))⟩
 f24:=⟨Tryz.f297.name,by decide,Tryz.func297.trans (congrArg some (by kernel_rfl))⟩
 f25:=⟨Tryz.f298.name,by decide,Tryz.func298.trans (congrArg some (by kernel_rfl))⟩
 f26:=⟨Tryz.f299.name,by decide,Tryz.func299.trans (congrArg some (by kernel_rfl))⟩
 f27:=⟨Tryz.f300.name,by decide,Tryz.func300.trans (congrArg some (by kernel_rfl))⟩
 f28:=Tryz.func272.trans (congrArg some (by kernel_rfl))
 f29:=Tryz.func31.trans (congrArg some (by kernel_rfl))
 f46:=⟨Tryz.f301.name,by decide,Tryz.func301.trans (congrArg some (by kernel_rfl))⟩
 f47:=Tryz.func283.trans (congrArg some (by kernel_rfl))
 f48:=Tryz.func284.trans (congrArg some (by kernel_rfl))
 f49:=⟨Tryz.f302.name,by decide,Tryz.func302.trans (congrArg some (by kernel_rfl))⟩
 f50:=⟨Tryz.f303.name,by decide,Tryz.func303.trans (congrArg some (by kernel_rfl))⟩
 f57:=⟨Tryz.f304.name,by decide,Tryz.func304.trans (congrArg some (by kernel_rfl))⟩
 t0:=Tryz.underlying0
 a0:=Tryz.isAgg0
 z0:=Tryz.sizeOf0
 v0:=Tryz.zeroValue0
 t3:=Tryz.underlying3
 a3:=Tryz.isAgg3
 z3:=Tryz.sizeOf3
 v3:=Tryz.zeroValue3
 t4:=Tryz.underlying4
 a4:=Tryz.isAgg4
 z4:=Tryz.sizeOf4
 v4:=Tryz.zeroValue4
 t5:=Tryz.underlying5
 a5:=Tryz.isAgg5
 z5:=Tryz.sizeOf5
 v5:=Tryz.zeroValue5
 t9:=Tryz.underlying9
 a9:=Tryz.isAgg9
 z9:=Tryz.sizeOf9
 v9:=Tryz.zeroValue9
 t22:=Tryz.underlying346
 a22:=Tryz.isAgg346
 z22:=Tryz.sizeOf346
 v22:=Tryz.zeroValue346
 a24:=Tryz.isAgg161
 z24:=Tryz.sizeOf161
 t25:=Tryz.underlying325
 a25:=Tryz.isAgg325
 z25:=Tryz.sizeOf325
 v25:=Tryz.zeroValue325
 t39:=Tryz.underlying131
 a39:=Tryz.isAgg131
 z39:=Tryz.sizeOf131
 v39:=Tryz.zeroValue131
 t45:=Tryz.underlying368
 a45:=Tryz.isAgg368
 z45:=Tryz.sizeOf368
 v45:=Tryz.zeroValue368
 t46:=Tryz.underlying369
 a46:=Tryz.isAgg369
 z46:=Tryz.sizeOf369
 v46:=Tryz.zeroValue369
 t50:=Tryz.underlying137
 a50:=Tryz.isAgg137
 z50:=Tryz.sizeOf137
 v50:=Tryz.zeroValue137
 t53:=Tryz.underlying214
 a53:=Tryz.isAgg214
 z53:=Tryz.sizeOf214
 v53:=Tryz.zeroValue214
 t55:=Tryz.underlying31
 a55:=Tryz.isAgg31
 z55:=Tryz.sizeOf31
 v55:=Tryz.zeroValue31
 t66:=Tryz.underlying387
 a66:=Tryz.isAgg387
 z66:=Tryz.sizeOf387
 v66:=Tryz.zeroValue387
 t70:=Tryz.underlying391
 a70:=Tryz.isAgg391
 z70:=Tryz.sizeOf391
 v70:=Tryz.zeroValue391
 t76:=Tryz.underlying395
 a76:=Tryz.isAgg395
 z76:=Tryz.sizeOf395
 v76:=Tryz.zeroValue395
 t77:=Tryz.underlying396
 a77:=Tryz.isAgg396
 z77:=Tryz.sizeOf396
 v77:=Tryz.zeroValue396 }
open Go.RowKit Go.Lib Go.Sort in
theorem Tryz.slices_SortFunc_f219 {α : Type} [Inhabited α] (enc : α->Value) (U:OneCell enc) (cf : α -> α->Int) (X:SWO (ltOf cf)) (g:Nat) (cb:Array Value) (blk off cap:Nat) (d:Array α) (w:World) (Q:∀ args w,(callFunc g args).run Tryz.prog w = .ok (.enter g args) w) (J:CmpLays1 Tryz.prog g cb enc cf blk off d.size w) (V:Holds enc w blk off d) (I:blk<w.heap.size) (K:d.size<4611686018427387904) :
  Calls Tryz.prog 219 #[.slice (some ⟨blk,off,none⟩) d.size cap,.func (.func g) #[] cb] w λe w' =>
   e = .returned (.tuple #[]) /\ ∃ d' n os,PermIn 0 d.size d d'/\SortedIn (ltOf cf) 0 d.size d'/\w'=sortWorld enc w blk off n d' os:=Any.slices_SortFunc Tryz.laysSlF6_f219 enc U cf X g cb blk off cap d w Q J V I K
open Go.RowKit Go.Lib Go.Sort in
theorem Tryz.slices_SortFunc_f274 {α : Type} [Inhabited α] (enc : α->Value) (U:OneCell enc) (cf : α -> α->Int) (X:SWO (ltOf cf)) (g:Nat) (cb:Array Value) (blk off cap:Nat) (d:Array α) (w:World) (Q:∀ args w,(callFunc g args).run Tryz.prog w = .ok (.enter g args) w) (J:CmpLays1 Tryz.prog g cb enc cf blk off d.size w) (V:Holds enc w blk off d) (I:blk<w.heap.size) (K:d.size<4611686018427387904) :
  Calls Tryz.prog 274 #[.slice (some ⟨blk,off,none⟩) d.size cap,.func (.func g) #[] cb] w λe w' =>
   e = .returned (.tuple #[]) /\ ∃ d' n os,PermIn 0 d.size d d'/\SortedIn (ltOf cf) 0 d.size d'/\w'=sortWorld enc w blk off n d' os:=Any.slices_SortFunc Tryz.laysSlF6_f274 enc U cf X g cb blk off cap d w Q J V I K
end Go.Proofs
namespace Go.Proofs.YtbgjkpkakoggbaaGreatDoor
open _root_.Go.Proofs.Tryz
section
namespace Loser
open Num
def kLess (x y:List Nat):Bool:=match x,y with
  | [],_=>false
  | _ :: _,[]=>true
  | x,y=>lessB x y
theorem za4 (a b c:List Nat) (I:lessB a b=true) (J:lessB b c=true):lessB a c=true:=by
 induction a generalizing b c with
 | nil=>cases b with
  | nil=>simp [lessB] at I
  | cons y b=>cases c with
   | nil=>simp [lessB] at J
   | cons z c=>rfl
 | cons x a U =>
  cases b with
  | nil=>simp [lessB] at I
  | cons y b =>
   cases c with
   | nil=>simp [lessB] at J
   | cons z c =>
    simp only [lessB,Bool.or_eq_true,decide_eq_true_eq,Bool.and_eq_true] at I J ⊢;rcases I with I | ⟨I,K⟩ <;> rcases J with J | ⟨J,Q⟩
    ·left;omega
    ·left;omega
    ·left;omega
    right;exact ⟨by omega,U b c K Q⟩
theorem zjd (x:List Nat):kLess x x=false:=by cases x with
 | nil=>rfl
 | cons a x=>exact zap _
theorem zkr (x y z:List Nat) (I:kLess x y=true) (J:kLess y z=true):kLess x z=true:=by
 cases x with
 | nil=>simp [kLess] at I
 | cons a x=>cases y with
  | nil=>simp [kLess] at J
  | cons b y=>cases z with
   | nil=>rfl
   | cons c z=>exact za4 _ _ _ I J
theorem zks (x y:List Nat) (I:kLess x y=false) (J:kLess y x=false):x=y:=by
 cases x with
 | nil=>cases y with
  | nil=>rfl
  | cons b y=>simp [kLess] at J
 | cons a x=>cases y with
  | nil=>simp [kLess] at I
  | cons b y=>exact zaI _ _ I J
def key (ks:List (List Nat)) (a:Nat):List Nat:=ks.getD a []
def beatsP (ks:List (List Nat)) (a b:Nat):Bool:=kLess (key ks a) (key ks b) || (decide (key ks a=key ks b) && decide (a<b))
theorem zje (ks:List (List Nat)) (a:Nat):beatsP ks a a=false:=by simp [beatsP,zjd]
theorem zej (ks:List (List Nat)) (a b c:Nat) (I:beatsP ks a b=true) (J:beatsP ks b c=true):beatsP ks a c=true:=by
 simp only [beatsP,Bool.or_eq_true,Bool.and_eq_true,decide_eq_true_eq] at I J ⊢;rcases I with I | ⟨I,Q⟩ <;> rcases J with J | ⟨J,K⟩
 ·exact .inl (zkr _ _ _ I J)
 ·left;rw [<- J];exact I
 ·left;rw [I];exact J
 right;exact ⟨I.trans J,by omega⟩
theorem zdc (ks:List (List Nat)) (a b:Nat) (I:beatsP ks a b=true):beatsP ks b a=false:=by
 cases h:beatsP ks b a with
 | false=>rfl
 | true=>have:=zej ks a b a I h;rw [zje] at this;cases this
theorem zkt (ks:List (List Nat)) (a b:Nat) (K:a≠b):beatsP ks a b=true\/beatsP ks b a=true:=by
 simp only [beatsP,Bool.or_eq_true,Bool.and_eq_true,decide_eq_true_eq];cases I:kLess (key ks a) (key ks b) with
 | true=>simp
 | false =>
  cases J:kLess (key ks b) (key ks a) with
  | true=>simp
  | false =>
   have:=zks _ _ I J;rw [this];simp;omega
theorem zjf (ks:List (List Nat)) (a b:Nat) (I:a≠b):beatsP ks a b = !beatsP ks b a:=by
 rcases zkt ks a b I with h | h
 ·rw [h,zdc ks a b h];rfl
 rw [h,zdc ks b a h];rfl
def winF (ks:List (List Nat)):Nat->Nat->Nat
  | 0,n=>n-ks.length
  | f+1,n=>if ks.length<=n then n-ks.length else
    if beatsP ks (winF ks f (2*n+1)) (winF ks f (2*n)) then winF ks f (2*n+1) else winF ks f (2*n)
theorem zjg (ks:List (List Nat)) (f g n:Nat) (K:1<=n) (J:ks.length<=f+n) (Q:ks.length<=g+n):winF ks f n=winF ks g n:=by
 induction f generalizing g n with
 | zero=>cases g with
  | zero=>rfl
  | succ g=>rw [winF,winF,if_pos vd]
 | succ f I=>cases g with
  | zero=>rw [winF,winF,if_pos vd]
  | succ g =>
   rw [winF,winF];split
   ·rfl
   rw [I g (2*n) vd vd vd,I g (2*n+1) vd vd vd]
def win (ks:List (List Nat)) (n:Nat):Nat:=winF ks ks.length n
def los (ks:List (List Nat)) (n:Nat):Nat:=if beatsP ks (win ks (2*n+1)) (win ks (2*n)) then win ks (2*n) else win ks (2*n+1)
theorem zfM (ks:List (List Nat)) (n:Nat) (h:ks.length<=n):win ks n=n-ks.length:=by
 have:∀ f,winF ks f n=n-ks.length:=λf=>by
  cases f with
  | zero=>rfl
  | succ f=>rw [winF,if_pos h]
 exact this _
theorem zlz (ks:List (List Nat)) (n:Nat) (J:1<=n) (h:n<ks.length):win ks n=if beatsP ks (win ks (2*n+1)) (win ks (2*n)) then win ks (2*n+1) else win ks (2*n):=by
 unfold win;obtain ⟨f,I⟩ : ∃ f,ks.length=f+1:=⟨ks.length-1,by omega⟩
 conv=>lhs;rw [I,winF]
 rw [if_neg vd,zjg ks f ks.length (2*n) vd vd vd,zjg ks f ks.length (2*n+1) vd vd vd]
def under (k n i:Nat):Prop:=∃ j,(k+i) / 2 ^ j=n
theorem zb_ (x j:Nat):x / 2 ^ (j+1)=x / 2 ^ j / 2:=by rw [Nat.pow_succ,Nat.div_div_eq_div_mul]
theorem zhl {k n i:Nat} (hi:i<k) (J:k<=n):under k n i <-> n=k+i:=by
 constructor
 ·rintro ⟨j,h⟩;cases j with
  | zero=>simpa using h.symm
  | succ j =>
   have I:(k+i) / 2 ^ (j+1)<=(k+i) / 2:=by
    rw [Nat.pow_succ,Nat.mul_comm,<- Nat.div_div_eq_div_mul];exact Nat.div_le_self _ _
   omega
 rintro rfl;exact ⟨0,by simp⟩
theorem zcj {k n i:Nat} (I:n<k):under k n i <-> under k (2*n) i\/under k (2*n+1) i:=by
 constructor
 ·rintro ⟨j,h⟩;cases j with
  | zero=>simp at h;omega
  | succ j =>
   rw [zb_] at h;have:(k+i) / 2 ^ j=2*n\/(k+i) / 2 ^ j=2*n+1:=(by omega);rcases this with h | h
   ·exact .inl ⟨j,h⟩
   exact .inr ⟨j,h⟩
 rintro (⟨j,h⟩ | ⟨j,h⟩) <;> exact ⟨j+1,by rw [zb_,h];omega⟩
theorem zgv {k a b i:Nat} (J:under k a i) (hb:under k b i) (h:b<a):b<=a / 2:=by
 obtain ⟨j,rfl⟩:=J;obtain ⟨I,rfl⟩:=hb;have K:j<I:=by
  rcases Nat.lt_or_ge j I with h' | h'
  ·exact h'
  exfalso;have:=Nat.div_le_div_left (Nat.pow_le_pow_right (by decide) h':2 ^ I<=2 ^ j) (Nat.pow_pos (by decide:0<2)) (a:=k+i);omega
 obtain ⟨d,rfl⟩ : ∃ d,I=j+1+d:=⟨I-j-1,by omega⟩;rw [Nat.pow_add,<- Nat.div_div_eq_div_mul,zb_];exact Nat.div_le_self _ _
theorem zdd {k n i:Nat} (K:1<=n) (I:under k (2*n) i) (J:under k (2*n+1) i):False:=by
 have:=zgv J I vd;omega
theorem zeI {k i:Nat} (hi:i<k):under k 1 i:=by
 have:∀ x,1<=x -> ∃ j,x / 2 ^ j=1:=by
  intro x
  induction x using Nat.strongRecOn with
  | _ x I =>
   intro K;by_cases h:x=1
   ·exact ⟨0,by simpa using h⟩
   obtain ⟨j,J⟩:=I (x / 2) vd vd;exact ⟨j+1,by rw [Nat.pow_succ,Nat.mul_comm,<- Nat.div_div_eq_div_mul];exact J⟩
 exact this (k+i) vd
theorem zh0 (ks:List (List Nat)):∀ (d n:Nat),2*ks.length<=d+n->1<=n->n<2*ks.length->win ks n<ks.length/\under ks.length n (win ks n) /\ ∀ i,i<ks.length->under ks.length n i->i≠win ks n->beatsP ks (win ks n) i=true:=by
 intro d
 induction d with
 | zero=>intro n h _ h2;omega
 | succ d Y =>
  intro n hd Z h2;by_cases hk:ks.length<=n
  ·rw [zfM ks n hk];refine ⟨by omega,(zhl vd hk).2 vd,λi hi hu J=>?_⟩;have:=(zhl hi hk).1 hu;omega
  have I:n<ks.length:=by omega
  obtain ⟨a1,a2,U⟩:=Y (2*n) vd vd vd;obtain ⟨b1,X,V⟩:=Y (2*n+1) vd vd vd;have Q:win ks (2*n+1)≠win ks (2*n):=λe=>zdd Z a2 (e ▸ X);rw [zlz ks n Z I];split
  ·rename_i hb;refine ⟨b1,(zcj I).2 (.inr X),λi hi hu J=>?_⟩;rcases (zcj I).1 hu with hu | hu
   ·by_cases e:i=win ks (2*n)
    ·subst e;exact hb
    exact zej _ _ _ _ hb (U i hi hu e)
   exact V i hi hu J
  rename_i hb;have K:beatsP ks (win ks (2*n)) (win ks (2*n+1))=true:=by rw [zjf ks _ _ (Ne.symm Q)];simpa using hb
  refine ⟨a1,(zcj I).2 (.inl a2),λi hi hu J=>?_⟩;rcases (zcj I).1 hu with hu | hu
  ·exact U i hi hu J
  by_cases e:i=win ks (2*n+1)
  ·subst e;exact K
  exact zej _ _ _ _ K (V i hi hu e)
theorem zcQ {ks:List (List Nat)} {n:Nat} (I:1<=n) (h:n<2*ks.length):win ks n<ks.length:=(zh0 ks (2*ks.length) n vd I h).1
theorem zca {ks:List (List Nat)} {n:Nat} (I:1<=n) (h:n<2*ks.length):under ks.length n (win ks n):=(zh0 ks (2*ks.length) n vd I h).2.1
theorem zcR {ks:List (List Nat)} {n i:Nat} (J:1<=n) (h:n<2*ks.length) (hi:i<ks.length) (K:under ks.length n i) (I:i≠win ks n):beatsP ks (win ks n) i=true:=(zh0 ks (2*ks.length) n vd J h).2.2 i hi K I
theorem zvU {ks:List (List Nat)} {n:Nat} (I:1<=n) (h:n<ks.length):win ks (2*n+1)≠win ks (2*n):=λe=>zdd I (zca vd vd) (e ▸ zca (n:=2*n+1) vd vd)
theorem zlA {ks:List (List Nat)} {n w:Nat} (I:1<=n) (h:n<2*ks.length) (U:w<ks.length) (K:under ks.length n w) (hb:∀ i,i<ks.length->under ks.length n i->i≠w->beatsP ks w i=true):win ks n=w:=by
 by_cases e:w=win ks n
 ·exact e.symm
 have Q:=zcR I h U K e;have J:=hb (win ks n) (zcQ I h) (zca I h) (Ne.symm e);rw [zdc _ _ _ Q] at J;cases J
def treeOf (ks:List (List Nat)):List Int:=(List.range ks.length).map λn=>if n=0 then (win ks 1:Int) else (los ks n:Int)
theorem zaS (ks:List (List Nat)):(treeOf ks).length=ks.length:=by simp [treeOf]
end Loser
end
section
open Go.RowKit
open Mv Disk Num Loser
namespace Sto
structure RowV (R:Mem) where
  v:tu
  l:List Nat
  h:Sl 1 u64s R v l
instance (R:Mem):Inhabited (RowV R):=⟨⟨_,[],Sl.nil _ _ _⟩⟩
def cfR {R:Mem} (x y:RowV R):Int:=cmpB x.l y.l
theorem zlB {R:Mem} (x y:RowV R):ltOf cfR x y=lessB x.l y.l:=zgd x.l y.l
theorem zhm (a b c:List Nat) (J:lessB a b=false) (I:lessB b c=false):lessB a c=false:=by
 cases e:lessB a c with
 | false=>rfl
 | true =>
  exfalso;cases e1:lessB b a with
  | true =>
   have:=za4 _ _ _ e1 e;rw [I] at this;cases this
  | false =>
   have:=zaI _ _ J e1;subst this;rw [I] at e;cases e
theorem swoR (R:Mem):Go.Sort.SWO (ltOf (cfR (R:=R))) :=
 ⟨λa=>by rw [zlB];exact zap _,λa b c I J=>by rw [zlB] at *;exact za4 _ _ _ I J,λa b c I J=>by rw [zlB] at *;exact zhm _ _ _ I J⟩
def SortedR (l:List (List Nat)):Prop:=l.Pairwise λa b=>lessB b a=false
theorem rowVs {R:Mem}:∀ (hs:List tu) (rows:List (List Nat)),hs.length=rows.length->(∀ i (h:i<hs.length),RowR R hs[i] (rows.getD i [])) -> ∃ L:List (RowV R),L.map RowV.v=hs/\L.map (·.l)=rows
 | [],[],_,_=>⟨[],rfl,rfl⟩
 | [],_ :: _,h,_=>by simp at h
 | _ :: _,[],h,_=>by simp at h
 | v :: hs,r :: rows,h,g=>by
  obtain ⟨L,I,J⟩:=rowVs hs rows (by simpa using h) (λi hi=>by have:=g (i+1) (by simpa using hi);simpa using this);exact ⟨⟨v,r,g 0 (Nat.succ_pos _)⟩ :: L,by rw [List.map_cons,I],by rw [List.map_cons,J]⟩
theorem zrg {R:Mem} (x y:RowV R) (w:tv) (I:View R w):Calls prog 275 #[x.v,y.v] w λe w'=>e = .returned (.int .i64 (cfR x y))/\w'=w:=by
 have h:=zi2 x.v y.v x.l y.l R x.h y.h w I
 go_enter func275,ntmps275
 go_wp2_with (go_at_call 221;refine h.mono ?_;rintro e w' ⟨rfl,rfl⟩)
 go_ret
 exact ⟨by simp [cfR],rfl⟩
theorem zrh {R M:Mem} (L:List (RowV R)) (V:R.Less M) (g cc room:Nat) (X:Fresh M g) (Z:L.length<=65536) :
  ACall prog 274 #[.slice (some ⟨g,0,none⟩) L.length cc,.func (.func 275) #[] #[]] (M.set g ⟨161,L.map RowV.v,room⟩) λr S'=>r = .tuple #[] /\ ∃ L':List (RowV R),L'.Perm L/\SortedR (L'.map (·.l))/\S'=M.set g ⟨161,L'.map RowV.v,room⟩ :=
 (zsB (P:=prog) (f:=274) (g:=275) (cb:=#[]) (enc:=RowV.v) (cf:=cfR) L rfl vd X (λw Q x y=>by
   show Calls prog 275 #[x.v,y.v] w _;exact (zrg x y w (Q.less V)).mono λe w' ⟨Y,Q⟩=>⟨Y,0,#[],by rw [Q,Go.Sort.grow_empty];rfl⟩)
  λd w J U I K=>Tryz.slices_SortFunc_f274 RowV.v (λx=>by obtain ⟨_,_,e,_⟩:=x.h;rw [e];rfl) cfR (swoR R) 275 #[] g 0 cc d w (λ_ _=>zbe (by kernel_rfl) _ _) J U I K).mono λr S' ⟨J,L',U,I,K⟩=>⟨J,L',U,List.pairwise_map.2 (I.imp λ{x y} h=>by rw [<- zlB];exact decide_eq_false h),K⟩
end Sto
end
section
open Go.RowKit
open Mv Disk Num
namespace Sto
theorem zt0 (S:Mem) (a p b c wk:Nat) (u:W5) (V:tu) (x:Pl) (s:tt) (n w ct:Nat) (T:Mem) (h:ArS S a p b c x T) (hw:S.own wk=some (wkB a u V)) (hp:Ps x n) (hh:Rec.headD x.d s=(w,ct,0)) (J:1<=w) (hs:s.size<=1024) :
  ACall prog 102 #[self wk,.string s] T λv T'=>∃ q y,v = .tuple #[self q,.nilIface]/\Fresh S q/\ArS (S.set q (rdB a ⟨s,w,ct,0,0,0⟩)) a p b c y T'/\y.d=x.d/\y.fr=x.fr:=by
 have Q:=zam h hw;unfold wkB at Q;have I:=zoV S a p b c x s n w ct T h hp hh;refine k_E2 41 func102 ?_;refine r13_ ?_;refine ca_ rfl (I) ?_;rintro _ S1 ⟨q,rfl,U,J⟩;rw [J];clear J S1;obtain ⟨Z,K⟩:=zi_ h U (rdB a ⟨s,w,ct,0,0,0⟩);have o1:=(vg T (rdB a ⟨s,w,ct,0,0,0⟩) (U.ne Q)).trans Q;obtain ⟨i,X⟩:=zdb K;unfold arB at X;have oq:=vf T q (rdB a ⟨s,w,ct,0,0,0⟩);have af:=ztQ K (vf S q (rdB a ⟨s,w,ct,0,0,0⟩));generalize T.set q (rdB a ⟨s,w,ct,0,0,0⟩)=T1 at *;unfold rdB at oq;refine r22_ ?_;have Y:=zoP K (x':={ x with reads:=up1 x.reads }) rfl rfl i;refine r14_ ?_;refine cF_ ?_;refine r6_ ?_;refine rC (vh rfl rfl (zbh (by show 5+s.size<=_;omega))) ?_;refine s1_ ?_;refine cp_ rfl (zaj _ _) ?_;refine r5_ ?_;refine ⟨_,_,⟨_,_,rfl,⟨_,_,rfl,rfl,rfl⟩,rfl⟩,Mem.Less.refl _,?_⟩;exact ⟨q,{ x with reads:=up1 x.reads },rfl,Z,Y,rfl,rfl⟩
theorem zvV (S:Mem) (a p b c wk:Nat) (u:W5) (Q:tu) (x:Pl) (s:tt) (w ct n B:Nat) (T:Mem) (h:ArS S a p b c x T) (K:S.own wk=some (wkB a u Q)) (hp:Ps x n) (hs:nm s) (h0:ns x.d s=0) (hw:w<=8) (I:ct<=65536) (Z:(used x.d.ext:Int)+(Rec.needN w ct:Nat)<=x.d.size) (hB:nb x.fr<=B) :
  ACall prog 19 #[self wk,.string s,.int .i64 (w:Nat),.int .u64 (ct:Nat)] T λv T'=>∃ q y,v = .tuple #[self q,.nilIface]/\Fresh S q/\WtS (S.set q (wtB a ⟨s,w,0,0,0,0⟩)) a p b c q ⟨s,w,0,0,0,0⟩ y n B [] T'/\Made x y s (Rec.needN w ct):=by
 have hq:=zam h K;unfold wkB at hq;have J:=zwL S a p b c x s w ct n B T h hp hs h0 hw I Z hB;have X:=hs.2;refine k_E4 28 func19 ?_;refine r15_ ?_;refine ca_ rfl (J) ?_;rintro _ Y ⟨q,y,rfl,U,k2,V⟩;refine r11_ ?_;refine rC (vh rfl rfl (zbh (by show 6+s.size<=_;omega))) ?_;refine s1_ ?_;refine cp_ rfl (zaj _ _) ?_;refine r5_ ?_;refine ⟨_,Y,⟨_,_,rfl,⟨_,_,rfl,rfl,rfl⟩,rfl⟩,zae,?_⟩;exact ⟨q,y,rfl,U,k2,V⟩
end Sto
end
section
open Go.RowKit
open Mv Disk Num
namespace Sto
theorem zt1 {S:Mem} {t:Nat} {k:Blk} (h:S.own t=some k):(S.del t).set t k=S:=by
 have:(S.del t).set t k=S.set t k:=by
  cases S;simp only [Mem.set,Mem.del,Mem.mk.injEq,and_true];funext i;by_cases e:i=t
  ·simp [e]
  simp [e]
 rw [this,vB _ _ _ h]
theorem zri {S:Mem} (t:Nat):(S.del t).Less S:=⟨λb r h=>by
 by_cases e:b=t
 ·subst e;simp [Mem.del] at h
 rwa [vv _ e] at h,rfl⟩
theorem zlC {S S':Mem} {o:Option (Nat × Nat)} {n:Nat} (h:OkO S o n) (hl:S'.Less S):OkO S' o n:=⟨h.nil,λb c e=>⟨(h.own b c e).1.less hl,(h.own b c e).2⟩⟩
theorem zjh {n:Nat} {S S':Mem} {o:Option (Nat × Nat)} {e:tx} {cs:List tu} (hl:S'.Less S):(outN n S' o e cs).Less (outN n S o e cs):=by
 cases o with
 | none=>exact hl
 | some q=>exact Mv.Less.set hl _ _
theorem zji {n:Nat} {S:Mem} {o:Option (Nat × Nat)} {e:tx} {cs:List tu} {t:Nat} (h:S.own t=none) (I:∀ q c,o=some (q,c)->t≠q):(outN n S o e cs).own t=none:=by
 cases o with
 | none=>exact h
 | some q=>exact (vg _ _ (I q.1 q.2 rfl)).trans h
theorem zsH {S T:Mem} {a p b c:Nat} {x:Pl} {t:Nat} {k:Blk} (h:ArS S a p b c x T) (Q:S.own t=some k):∃ J,ArS (S.del t) a p b c x J/\T=J.set t k/\J.own t=none:=by
 obtain ⟨i,oE,oW,ok,rfl⟩:=h;have hb:=zfg ok Q;have hl:=zri (S:=S) t;have l1:(outN 2 (S.del t) oE extT (x.d.ext.flatMap extF)).Less (outN 2 S oE extT (x.d.ext.flatMap extF)):=zjh hl;have l2:(dkM (S.del t) x.d oE oW).Less (dkM S x.d oE oW):=zjh l1;have U:(devM (S.del t) p x.d oE oW).Less (devM S p x.d oE oW):=Mv.Less.set l2 _ _;have I:OkA (S.del t) a p b c x oE oW:=⟨⟨⟨zlC ok.v.dk.e hl,zlC ok.v.dk.w l1⟩,ok.v.fr.less l2⟩,ok.fb.less U,ok.fa.less U,ok.ab,ok.l⟩;obtain ⟨_,K⟩:=zko (k:=i) I ⟨hb.e,hb.w,hb.p,hb.b,hb.a⟩ k;rw [zt1 Q] at K;have hd:(S.del t).own t=none:=by simp [Mem.del]
 have V:(arM (devM (S.del t) p x.d oE oW) a p b c x i).own t=none:=by
  unfold arM devM;rw [vg _ _ hb.a,vg _ _ hb.b,vg _ _ hb.p];exact zji (zji hd hb.e) hb.w
 exact ⟨_,⟨i,oE,oW,I,rfl⟩,K.symm,V⟩
structure WkS (S:Mem) (a wk:Nat) (u:W5) (o:Option (Nat × Nat)) (ts:List ByteArray):Prop where
  own:S.own wk=some (wkB a u (outV o ts.length))
  gro:Gro S o 9 (ts.map Value.string)
theorem WkS.away {S:Mem} {a wk:Nat} {u:W5} {o:Option (Nat × Nat)} {ts:List tt} (h:WkS S a wk u o ts) {t:Nat} {k:Blk} (hk:S.own t=some k) (I:k.elem≠9):Away o t:=λq c e J=>by
 subst J;have:=(h.gro.own q c e).1;rw [hk] at this;exact I (by rw [Option.some.inj this])
theorem WkS.awk {S:Mem} {a wk:Nat} {u:W5} {o:Option (Nat × Nat)} {ts:List tt} (h:WkS S a wk u o ts):Away o wk:=h.away h.own (by show ¬ 92=9;decide)
theorem WkS.set {S:Mem} {a wk:Nat} {u:W5} {o:Option (Nat × Nat)} {ts:List tt} (h:WkS S a wk u o ts) {t:Nat} (k:Blk) (I:t≠wk) (J:Away o t):WkS (S.set t k) a wk u o ts:=⟨(vg _ _ (Ne.symm I)).trans h.own,h.gro.set k J⟩
theorem zvW {S T:Mem} {a p b c:Nat} {x:Pl} {wk:Nat} {u:W5} {o:Option (Nat × Nat)} {ts:List tt} (h:ArS S a p b c x T) (hw:WkS S a wk u o ts):∃ J,ArS (delo S o) a p b c x J/\J.Less T /\ ∀ t r,Fresh T t->AppO (T.set t r) J o 9 (ts.map Value.string):=by
 cases o with
 | none=>exact ⟨T,h,Mem.Less.refl _,λt r Q=>⟨λ_=>⟨hw.gro.nil rfl,vi _ _ _ Q.1⟩,λb c e=>(by cases e)⟩⟩
 | some q =>
  obtain ⟨Y,b2,b3⟩:=hw.gro.own q.1 q.2 rfl;obtain ⟨J,g1,U,g3⟩:=zsH h Y;refine ⟨J,g1,by rw [U];exact vi _ _ _ g3,λt r Q=>⟨λe=>(by cases e),λb' c' e=>?_⟩⟩;cases e;dsimp only at *;have Z:T.own b'=some ⟨9,ts.map Value.string,c'⟩:=zam h Y;have V:b'≠t:=Q.ne Z;refine ⟨(vg _ _ V).trans Z,⟨λi k hi=>?_,by rw [U];rfl⟩⟩;have I:i≠b':=λe=>by rw [e,g3] at hi;cases hi
  have K:T.own i=some k:=by rw [U];exact (vg _ _ I).trans hi
  have X:i≠t:=Q.ne K;rw [vv _ I,vg _ _ X];exact K
structure Temped (S:Mem) (a p b c wk:Nat) (u:W5) (o:Option (Nat × Nat)) (ts:List ByteArray) (x:Pl) (s:ByteArray) (w ct n B:Nat) (T':Mem) (q:Nat) (y:Pl) (S':Mem) (o':Option (Nat × Nat)):Prop where
  wt:WtS S' a p b c q ⟨s,w,0,0,0,0⟩ y n B [] T'
  md:Made x y s (Rec.needN w ct)
  wks:WkS S' a wk u o' (ts ++ [s])
  kp:∀ t k,S.own t=some k->Away o t->t≠wk->S'.own t=some k/\t≠q
  ro:S'.ro=S.ro
  new:S.own q=none
  na:∀ t c,o'=some (t,c)->S.own t=none \/ ∃ c',o=some (t,c')
theorem temped {S T1 T2:Mem} {a p b c wk q bn cn:Nat} {u:W5} {o:Option (Nat × Nat)} {ts:List tt} {x y:Pl} {s:tt} {w ct n B:Nat} (J:WtS (S.set q (wtB a ⟨s,w,0,0,0,0⟩)) a p b c q ⟨s,w,0,0,0,0⟩ y n B [] T1) (k3:Made x y s (Rec.needN w ct)) (ak:WkS S a wk u o ts) (Z:q≠wk) (ad:Away o q) (U:Fresh S q)
  (X:Fresh (delo (S.set q (wtB a ⟨s,w,0,0,0,0⟩)) o) bn) (ag:(delo (S.set q (wtB a ⟨s,w,0,0,0,0⟩)) o).own wk=some (wkB a u (outV o ts.length))) (V:(delo (S.set q (wtB a ⟨s,w,0,0,0,0⟩)) o).own q=some (wtB a ⟨s,w,0,0,0,0⟩)) (Y:wk≠bn) (Q:q≠bn) (hc:ts.length+1<=cn)
  (m3:ArS (((delo (S.set q (wtB a ⟨s,w,0,0,0,0⟩)) o).set bn ⟨9,ts.map Value.string ++ [.string s],cn⟩).set wk (wkB a u (outV (some (bn,cn)) (ts.length+1)))) a p b c y T2) :
  Temped S a p b c wk u o ts x s w ct n B T2 q y (((delo (S.set q (wtB a ⟨s,w,0,0,0,0⟩)) o).set bn ⟨9,ts.map Value.string ++ [.string s],cn⟩).set wk (wkB a u (outV (some (bn,cn)) (ts.length+1)))) (some (bn,cn)) where
 wt:=⟨m3,(vg _ _ Z).trans ((vg _ _ Q).trans V),J.ps,J.us,J.nb,J.at_,J.wr⟩
 md:=k3
 wks:=⟨by rw [List.length_append];exact vf _ _ _,⟨λe=>(by cases e),λq' c' e=>by
  cases e;refine ⟨(vg _ _ (Ne.symm Y)).trans ?_,by rw [List.length_map,List.length_append];exact hc,λa v hv=>X.2 a v hv⟩;rw [List.map_append];exact vf _ _ _⟩⟩
 kp:=λt k ht ha K=>by
  have I:t≠q:=U.ne ht;have hd:(delo (S.set q (wtB a ⟨s,w,0,0,0,0⟩)) o).own t=some k:=zfK ((vg _ _ I).trans ht) (λc e=>ha t c e rfl);exact ⟨(vg _ _ K).trans ((vg _ _ (X.ne hd)).trans hd),I⟩
 ro:=by
  show (delo (S.set q (wtB a ⟨s,w,0,0,0,0⟩)) o).ro=S.ro;rw [ztM];rfl
 new:=U.1
 na:=λt c e=>by
  cases e;by_cases h:∃ c',o=some (bn,c')
  ·exact .inr h
  refine .inl ?_;cases e:S.own bn with
  | none=>rfl
  | some k =>
   have I:bn≠q:=U.ne e;have hd:(delo (S.set q (wtB a ⟨s,w,0,0,0,0⟩)) o).own bn=some k:=zfK ((vg _ _ I).trans e) (λc e'=>h ⟨c,e'⟩);rw [X.1] at hd;cases hd
theorem zt2 (S:Mem) (a p b c wk:Nat) (u:W5) (o:Option (Nat × Nat)) (ts:List tt) (x:Pl) (s:tt) (w ct n B:Nat) (T:Mem) (h:ArS S a p b c x T) (J:WkS S a wk u o ts) (aw:ts.length<=10000) (hp:Ps x n) (hs:nm s) (h0:ns x.d s=0) (hw:w<=8) (ae:ct<=65536) (hr:(used x.d.ext:Int)+(Rec.needN w ct:Nat)<=x.d.size) (hB:nb x.fr<=B) :
  ACall prog 60 #[self wk,.string s,.int .i64 (w:Nat),.int .u64 (ct:Nat)] T λv T'=>∃ q y S' o',v = .tuple #[self q,.nilIface]/\Temped S a p b c wk u o ts x s w ct n B T' q y S' o':=by
 have ag:=zvV S a p b c wk u _ x s w ct n B T h J.own hp hs h0 hw ae hr hB;refine k_E4 34 func60 ?_;refine r12_ ?_;refine ca_ rfl (ag) ?_;rintro _ T1 ⟨q,y,rfl,k1,k2,k3⟩;have aa:q≠wk:=Ne.symm (k1.ne J.own);have U:Away o q:=λt c e eq=>k1.ne (J.gro.own t c e).1 eq;have K:=J.set (wtB a ⟨s,w,0,0,0,0⟩) aa U;obtain ⟨T0,g1,g2,g3⟩:=zvW k2.ar K;have o1:=zam k2.ar K.own;unfold wkB at o1;refine r11_ ?_;refine rC (vh rfl rfl Er.eqNil) ?_;refine r2_ ?_;refine cT_ ?_;refine r7_ ?_;refine vk (zab rfl) za3 rfl rfl ?_;intro az Y;have I:=Y
 repeat ((with_reducible replace I:=zaa I);obtain ⟨I,_⟩:=I)
 have:=I.ne o1;have:=I.ne' o1
 refine vJ (S:=T0) (zab rfl) za3 rfl (by rw [List.length_map]) (g3 _ _ Y) rfl (news:=[.string s]) (zcl (r:=⟨9,[.string s],1⟩) (vf _ _ _)) rfl (by decide) (λv hv=>by rw [List.mem_singleton.1 hv];rfl) vd vd ?_;intro bn cn aj;obtain ⟨j1,j2⟩:=aj.own bn cn rfl;obtain ⟨m1,m2⟩:=zi_ g1 j1 ⟨9,ts.map Value.string ++ [.string s],cn⟩;have Q:(delo (S.set q (wtB a ⟨s,w,0,0,0,0⟩)) o).own wk=some (wkB a u (outV o ts.length)):=zfK K.own (λc e=>K.awk wk c e rfl);have X:(delo (S.set q (wtB a ⟨s,w,0,0,0,0⟩)) o).own q=some (wtB a ⟨s,w,0,0,0,0⟩):=zfK (vf _ _ _) (λc e=>U q c e rfl);have V:wk≠bn:=m1.ne Q;have ac:q≠bn:=m1.ne X;have o2:=zam m2 ((vg _ _ V).trans Q);have m3:=zdj m2 ((vg _ _ V).trans Q) (wkB a u (outV (some (bn,cn)) (ts.length+1)));unfold wkB at o2;unfold outM
 skip
 refine r2_ ?_;refine vm rfl rfl ze5 rfl o2 (show 6<10 by decide) rfl ?_;refine nm_ ?_;refine r2_ ?_;have Z:=temped (n:=n) (B:=B) k2 k3 J aa U k1 m1 Q X V ac j2 m3;refine r9_ ?_;refine ⟨_,_,⟨_,_,rfl,⟨_,_,rfl,rfl,rfl⟩,rfl⟩,Mem.Less.refl _,?_⟩;exact ⟨q,y,_,_,rfl,Z⟩
end Sto
end
section
open Go.RowKit
open Mv Disk Num
namespace Sto
theorem zrj (p:Pl):idlesP p+nb p.fr=p.fr.length:=by
 unfold idlesP nb;have:=(List.length_eq_countP_add_countP (λx:Fr=>decide x.idle) (l:=p.fr)).symm;simpa using this
theorem zku {p q:Pl} (hl:q.fr.length=p.fr.length) (h:∀ j,j<p.fr.length->atF q j=atF p j \/ ¬ (atF q j).holds) {s:tt} (J:Use p s 0 0):Use q s 0 0 :=
 ⟨λj K hh I=>by
  rcases h j vd with e | e
  ·rw [e] at hh I ⊢;exact J.pins j vd hh I
  ·exact absurd hh e,λh=>absurd h (Nat.lt_irrefl 0),λj K=>by
  rcases h j vd with e | e
  ·rw [e];exact J.z0 j vd
  exact zbJ λq=>e (zak.1 q).1⟩
theorem zrk {p:Pl} {k n:Nat} (hp:Ps p n) (Y:n<16384) (hc:∀ j,j<p.fr.length->(atF p j).dirty=false) (hb:nb p.fr+k<=p.fr.length):∃ q J,leaseP p (k:Int)=(q,J,0)/\J.length=k/\Ps q n/\Stays p q/\(∀ j,j<q.fr.length->(atF q j).dirty=false)/\(∀ s,Use p s 0 0->Use q s 0 0)/\nb q.fr=nb p.fr+k /\ ∀ j,j<p.fr.length->(atF q j).leased=true->(atF p j).leased=true\/(j:Int) ∈ J:=by
 obtain ⟨q,J,X,g0,U,K,Q,_,V⟩:=zlp k [] hp Y hc hb;refine ⟨q,J,?_,by rw [g0];simp,U,K,λj I=>?_,λs Z=>zku K.l (λj I=>(Q j I).imp_right λe=>by rw [e.1];exact n1) Z,V,λj I e=>?_⟩
 ·unfold leaseP;have:=zrj p;rw [if_neg vd,if_neg vd,Int.toNat_natCast,X]
 ·rcases Q j (by rw [<- K.l];exact I) with e | e
  ·rw [e];exact hc j (by rw [<- K.l];exact I)
  rw [e.1];rfl
 rcases Q j I with q | q
 ·rw [q] at e;exact .inl e
 exact .inr q.2
theorem zoX {p q:Pl} {i e:Int} (h:ret1 p i=(q,e)) (j:Nat):atF q j=atF p j\/atF q j=F0:=by
 unfold ret1 at h;split at h
 ·rw [<- (Prod.mk.inj h).1];exact .inl rfl
 split at h
 ·rw [<- (Prod.mk.inj h).1];exact .inl rfl
 rename_i I _;rw [<- (Prod.mk.inj h).1,zaC F0 vd];split
 ·exact .inr rfl
 exact .inl rfl
theorem zvX {p q:Pl} {i e:Int} (h:ret1 p i=(q,e)) (hl:q.fr.length=p.fr.length) (hc:∀ j,j<p.fr.length->(atF p j).dirty=false):∀ j,j<q.fr.length->(atF q j).dirty=false:=λj I=>by
 rcases zoX h j with e | e <;> rw [e]
 ·exact hc j vd
 rfl
theorem zt3 {p q:Pl} {i e:Int} (h:ret1 p i=(q,e)) (hl:q.fr.length=p.fr.length) {s:tt} (I:Use p s 0 0):Use q s 0 0:=zku hl (λj _=>(zoX h j).imp_right λe=>by rw [e];exact n0) I
theorem zt4 {p:Pl} {n:Nat} (J:Ps p n) (h:nb p.fr=0) {j:Nat} (I:j<p.fr.length) (e:(atF p j).leased=true):False:=by
 have:=List.countP_eq_zero.1 h _ (List.getElem_mem I);rw [<- zaK I] at this;rcases J.ok j I with q | q | q
 ·rw [q] at e;cases e
 ·rw [q] at this;exact this (by simp [zvH])
 rw [q.l] at e;cases e
theorem zt5 {p:Pl} {n:Nat} (Q:Ps p n) (J:∀ j,j<p.fr.length -> ¬ (atF p j).leased=true) (U:∀ o,Use p o 0 0):nb p.fr=0:=List.countP_eq_zero.2 λx K=>by
 obtain ⟨j,I,rfl⟩:=List.getElem_of_mem K;rw [<- zaK I];have:(atF p j).idle:=by
  rcases Q.ok j I with q | q | q
  ·exact .inl q
  ·exact absurd (by rw [q];rfl) (J j I)
  exact .inr ⟨q.h,by rw [(U (atF p j).name).pins j I q.h rfl,if_neg (λh=>absurd h.1 (Nat.lt_irrefl 0))]⟩
 simp [this]
theorem zvY {p q:Pl} {n:Nat} {i e:Int} (Q:Ps p n) (h:ret1 p i=(q,e)) (hl:q.fr.length=p.fr.length) {j:Nat} (K:j<p.fr.length) (hd:(atF q j).leased=true):(atF p j).leased=true/\(j:Int)≠i:=by
 unfold ret1 at h;split at h
 ·rename_i I;rw [<- (Prod.mk.inj h).1] at hd;exact ⟨hd,by omega⟩
 split at h
 ·rename_i I J;rw [<- (Prod.mk.inj h).1] at hd;exact ⟨hd,λq=>by rw [<- q,Int.toNat_natCast,hd] at J;cases J⟩
 rename_i I _;rw [<- (Prod.mk.inj h).1,zaC F0 vd] at hd;split at hd
 ·cases hd
 rename_i q;exact ⟨hd,λe=>q (by rw [<- e];rfl)⟩
theorem zvZ {p q:Pl} {i e:Int} (h:ret1 p i=(q,e)) (hl:q.fr.length=p.fr.length):nb q.fr<=nb p.fr:=nb_le hl λj _ I=>by
 rcases zoX h j with e | e <;> rw [e]
 ·exact I
 exact .inl rfl
/-! ### Names -/
open Run (nameS dig)
theorem zcS (s:tt) (i:Nat):(nameS s i).size=s.size+4:=by
 unfold Run.nameS;rw [ByteArray.size_append,za2];rfl
theorem zh1 {i j k:Nat} (h:dig i k=dig j k):i / 10 ^ k % 10=j / 10 ^ k % 10:=by
 unfold Run.dig at h;have:=congrArg UInt8.toNat h;rw [UInt8.toNat_ofNat',UInt8.toNat_ofNat'] at this;generalize i / 10 ^ k=a at *;generalize j / 10 ^ k=b at *;omega
theorem zgw {s:tt} {i j:Nat} (hi:i<=9999) (X:j<=9999) (h:nameS s i=nameS s j):i=j:=by
 unfold Run.nameS at h;have J:=congrArg (λb:tt=>b.data.toList) h;simp only [ByteArray.data_append,Array.toList_append,bs_data] at J;have I:=List.append_cancel_left J;simp only [List.cons.injEq,and_true] at I;obtain ⟨K,V,Q,U⟩:=I;have Y:=zh1 K;have b2:=zh1 V;have b1:=zh1 Q;have Z:=zh1 U;omega
theorem zlD {s:tt} (I:s.size<=12) (i:Nat):nm (nameS s i):=by
 unfold nm;rw [zcS];omega
end Sto
end
section
open Go.RowKit
open Mv Disk
namespace Sto
theorem Use.fr_ {x y:Pl} {s:tt} {f hl:Nat} (h:Use x s f hl) (e:y.fr=x.fr):Use y s f hl:=by
 have a:∀ i,atF y i=atF x i:=λi=>by unfold atF;rw [e]
 exact ⟨λi hi hh I=>by rw [a] at hh I ⊢;exact h.pins i (by rw [<- e];exact hi) hh I,λJ=>by rw [a,e];exact h.at_ J,λi hi=>by rw [a];exact h.z0 i (by rw [<- e];exact hi)⟩
theorem Use.z {x:Pl} {s:tt} {f:Nat} (h:Use x s f 0):Use x s 0 0 :=
 ⟨λi hi hh I=>(h.pins i hi hh I).trans (by rw [if_neg (λh=>absurd h.1 (Nat.lt_irrefl 0)),if_neg (λh=>absurd h.1 (Nat.lt_irrefl 0))]),λh=>absurd h (Nat.lt_irrefl 0),h.z0⟩
def No:tt->Prop:=λ_=>False
structure Far (x y:Pl) (D E:ByteArray->Prop) (k:Nat):Prop where
  l:y.fr.length=x.fr.length
  z:y.d.size=x.d.size
  q:used y.d.ext<=used x.d.ext+k
  n:∀ o,¬ D o->Sto.ns y.d o=Sto.ns x.d o
  v:∀ o (k:Nat),¬ D o->k<Sto.ns x.d o->vw y o (k:Int)=vw x o (k:Int)
  u:∀ o,¬ E o->Use x o 0 0->Use y o 0 0
theorem zrl {x y:Pl} {s:tt} {m:Nat} (h:Made x y s m):Far x y (λo=>o=s) No m:=⟨by rw [h.fr],h.z,by rw [h.u];exact Nat.le_refl _,λo I=>by rw [h.n,if_neg (Ne.symm I)],λo k _ hk=>h.v o k hk,λo _ J=>J.fr_ h.fr⟩
theorem Wrote.far {x y:Pl} {s:tt} {L:List UInt8} {D E:tt->Prop} {k:Nat} (h:Wrote x s L) (g:Far x y D E k) (hs : ¬ D s):Wrote y s L:=λj I=>by
 rw [g.n s hs] at I;rw [<- h j I];unfold byt;rw [g.v s _ hs I]
theorem Has.far {x y:Pl} {s:tt} {w c:Nat} {L:List UInt8} {D E:tt->Prop} {k:Nat} (h:Has x s w c L) (g:Far x y D E k) (hs : ¬ D s):Has y s w c L :=
 ⟨(g.n s hs).trans h.n,(g.v s 0 hs h.pos).trans h.h,h.b.far g hs,h.l⟩
end Sto
end
section
namespace Loser
open Num
theorem zeJ (ks:List (List Nat)) (w i:Nat) (x:List Nat) (h:i≠w):key (ks.set w x) i=key ks i:=by simp [key,List.getD,Ne.symm h]
theorem zek (ks:List (List Nat)) (i:Nat) (h:i<ks.length):key ks i=ks[i]:=by simp [key,List.getD,h]
theorem zjj (ks:List (List Nat)) (w a b:Nat) (x:List Nat) (I:a≠w) (hb:b≠w):beatsP (ks.set w x) a b=beatsP ks a b:=by
 unfold beatsP;rw [zeJ _ _ _ _ I,zeJ _ _ _ _ hb]
theorem zkv (ks:List (List Nat)) (w n:Nat) (x:List Nat) (K:1<=n) (h:n<2*ks.length) (U : ¬ under ks.length n w):win (ks.set w x) n=win ks n:=by
 have hl:(ks.set w x).length=ks.length:=List.length_set;have J:∀ i,under ks.length n i->i≠w:=λi hi e=>U (e ▸ hi);refine zlA K (by rw [hl];exact h) (by rw [hl];exact zcQ K h) (by rw [hl];exact zca K h) λi hi I Q=>?_;rw [hl] at hi I;rw [zjj _ _ _ _ _ (J _ (zca K h)) (J i I)];exact zcR K h hi I Q
theorem zt6 (ks:List (List Nat)) (w n:Nat) (x:List Nat) (X:1<=n) (h:n<ks.length) (U : ¬ under ks.length n w):los (ks.set w x) n=los ks n:=by
 have Q : ¬ under ks.length (2*n) w:=λe=>U ((zcj h).2 (.inl e));have V : ¬ under ks.length (2*n+1) w:=λe=>U ((zcj h).2 (.inr e));unfold los;rw [zkv ks w (2*n) x vd vd Q,zkv ks w (2*n+1) x vd vd V];have K:=zca (ks:=ks) (n:=2*n) vd vd;have hb:=zca (ks:=ks) (n:=2*n+1) vd vd;have J:win ks (2*n+1)≠w:=λe=>by rw [e] at hb;exact V hb
 have I:win ks (2*n)≠w:=λe=>by rw [e] at K;exact Q K
 rw [zjj _ _ _ _ _ J I]
theorem zrm (ks:List (List Nat)) (n:Nat) (Q:1<=n) (h:n<2*ks.length) (K:under ks.length n (win ks 1)):win ks n=win ks 1:=by
 have J:1<2*ks.length:=by omega
 exact zlA Q h (zcQ (by decide) J) K λi hi _ I=>zcR (by decide) J hi (zeI hi) I
theorem zv0 (ks:List (List Nat)) (n c s:Nat) (x:List Nat) (U:1<=n) (h:n<ks.length) (hc:(c=2*n/\s=2*n+1)\/(c=2*n+1/\s=2*n)) (Q:under ks.length c (win ks 1)):los ks n=win (ks.set (win ks 1) x) s:=by
 have hs : ¬ under ks.length s (win ks 1):=λe=>by
  rcases hc with ⟨rfl,rfl⟩ | ⟨rfl,rfl⟩
  ·exact zdd U Q e
  exact zdd U e Q
 rw [zkv ks _ s x vd vd hs];have I:=zrm ks c vd vd Q;have K:=zca (ks:=ks) (n:=s) vd vd;have J:win ks s≠win ks 1:=λe=>hs (e ▸ K);have hb:beatsP ks (win ks 1) (win ks s)=true:=zcR (by decide) vd (zcQ vd vd) (zeI (zcQ vd vd)) J;unfold los;rcases hc with ⟨rfl,rfl⟩ | ⟨rfl,rfl⟩
 ·rw [I,zdc _ _ _ hb];simp
 rw [I,hb];simp
theorem game (ks:List (List Nat)) (n c s:Nat) (J:1<=n) (h:n<ks.length) (hc:(c=2*n/\s=2*n+1)\/(c=2*n+1/\s=2*n)) :
  (beatsP ks (win ks s) (win ks c)=true->win ks n=win ks s/\los ks n=win ks c)/\(beatsP ks (win ks s) (win ks c)=false->win ks n=win ks c/\los ks n=win ks s):=by
 have I:=zvU J h;rw [zlz ks n J h];unfold los;rcases hc with ⟨rfl,rfl⟩ | ⟨rfl,rfl⟩
 ·constructor <;> intro hb <;> rw [hb] <;> simp
 rw [zjf ks _ _ (Ne.symm I)];constructor <;> intro hb
 ·have:beatsP ks (win ks (2*n+1)) (win ks (2*n))=false:=by simpa using hb
  rw [this];simp
 have:beatsP ks (win ks (2*n+1)) (win ks (2*n))=true:=by simpa using hb
 rw [this];simp
structure RepI (ks:List (List Nat)) (x:List Nat) (c:Nat) (tr:List Int):Prop where
  len:tr.length=ks.length
  old:∀ m,1<=m->m<ks.length->under ks.length m (win ks 1)->m<c->tr[m]?=some (los ks m:Int)
  new:∀ m,1<=m->m<ks.length -> ¬ (under ks.length m (win ks 1)/\m<c)->tr[m]?=some (los (ks.set (win ks 1) x) m:Int)
  at_:1<=c/\c<2*ks.length/\under ks.length c (win ks 1)
theorem zdS (ks:List (List Nat)) (m:Nat) (I:1<=m) (h:m<ks.length):(treeOf ks)[m]?=some (los ks m:Int):=by
 simp [treeOf,h];omega
theorem zcs (ks:List (List Nat)) (h:1<=ks.length):(treeOf ks)[0]?=some (win ks 1:Int):=by
 have:0<ks.length:=by omega
 simp [treeOf,this]
theorem RepI.start (ks:List (List Nat)) (x:List Nat) (h:1<=ks.length):RepI ks x (ks.length+win ks 1) (treeOf ks):=by
 have Q:=zcQ (ks:=ks) (n:=1) (by decide) vd;refine ⟨zaS ks,λm I J _ _=>zdS ks m I J,λm I J K=>?_,by omega,by omega,⟨0,by simp⟩⟩;rw [zdS ks m I J,zt6 ks _ m x I J (λe=>K ⟨e,by omega⟩)]
theorem RepI.sib {ks:List (List Nat)} {x:List Nat} {c:Nat} {tr:List Int} (h:RepI ks x c tr) (J:1<=c / 2) :
  ∃ s,((c=2*(c / 2)/\s=2*(c / 2)+1)\/(c=2*(c / 2)+1/\s=2*(c / 2)))/\tr[c / 2]?=some (win (ks.set (win ks 1) x) s:Int)/\c / 2<ks.length/\s<2*ks.length/\1<=s:=by
 obtain ⟨U,V,I⟩:=h.at_;have hk:c / 2<ks.length:=by omega
 have Q:under ks.length (c / 2) (win ks 1):=by obtain ⟨j,K⟩:=I;exact ⟨j+1,by rw [zb_,K]⟩
 have hs:∃ s,(c=2*(c / 2)/\s=2*(c / 2)+1)\/(c=2*(c / 2)+1/\s=2*(c / 2)):=by
  rcases Nat.mod_two_eq_zero_or_one c with e | e
  ·exact ⟨_,.inl ⟨by omega,rfl⟩⟩
  exact ⟨_,.inr ⟨by omega,rfl⟩⟩
 obtain ⟨s,hs⟩:=hs;refine ⟨s,hs,?_,hk,by omega,by omega⟩;rw [h.old (c / 2) J hk Q vd,zv0 ks (c / 2) c s x J hk hs I]
theorem RepI.step {ks:List (List Nat)} {x:List Nat} {c:Nat} {tr:List Int} (h:RepI ks x c tr) (X:1<=c / 2):RepI ks x (c / 2) (tr.set (c / 2) (los (ks.set (win ks 1) x) (c / 2):Int)):=by
 obtain ⟨h1,h2,Q⟩:=h.at_;have hk:c / 2<ks.length:=by omega
 have Y:under ks.length (c / 2) (win ks 1):=by obtain ⟨j,V⟩:=Q;exact ⟨j+1,by rw [zb_,V]⟩
 refine ⟨by rw [List.length_set];exact h.len,λm J K I q4=>?_,λm J K I=>?_,X,by omega,Y⟩
 ·rw [List.getElem?_set_ne vd];exact h.old m J K I vd
 by_cases e:c / 2=m
 ·subst e;rw [List.getElem?_set_self (by rw [h.len];exact hk)]
 rw [List.getElem?_set_ne e];refine h.new m J K λ⟨U,Z⟩=>?_;have:=zgv Q U Z;exact I ⟨U,by omega⟩
theorem RepI.done {ks:List (List Nat)} {x:List Nat} {tr:List Int} (h:RepI ks x 1 tr) (hk:1<=ks.length):tr.set 0 (win (ks.set (win ks 1) x) 1:Int)=treeOf (ks.set (win ks 1) x):=by
 have hl:(ks.set (win ks 1) x).length=ks.length:=List.length_set;apply List.ext_getElem?;intro m;by_cases hm:m<ks.length
 ·cases m with
  | zero=>rw [List.getElem?_set_self (by rw [h.len];omega),zcs _ (by rw [hl];exact hk)]
  | succ m=>rw [List.getElem?_set_ne vd,h.new (m+1) vd hm (λe=>by omega),zdS _ _ vd (by rw [hl];exact hm)]
 rw [List.getElem?_eq_none (by rw [List.length_set,h.len];omega),List.getElem?_eq_none (by rw [zaS,hl];omega)]
structure GroI (ks:List (List Nat)) (n:Nat) (ws tr:List Int):Prop where
  wl:ws.length=2*ks.length
  tl:tr.length=ks.length
  win_:∀ m,n<m->m<2*ks.length->ws[m]?=some (win ks m:Int)
  los_:∀ m,n<m->1<=m->m<ks.length->tr[m]?=some (los ks m:Int)
  zero:tr[0]?=some 0\/ks.length=0
theorem GroI.step {ks:List (List Nat)} {n:Nat} {ws tr:List Int} (h:GroI ks n ws tr) (Q:1<=n) (hk:n<ks.length):GroI ks (n-1) (ws.set n (win ks n:Int)) (tr.set n (los ks n:Int)):=by
 refine ⟨by simp [h.wl],by simp [h.tl],λm K I=>?_,λm K I J=>?_,?_⟩
 ·by_cases e:n=m
  ·subst e;rw [List.getElem?_set_self (by rw [h.wl];omega)]
  rw [List.getElem?_set_ne e];exact h.win_ m vd I
 ·by_cases e:n=m
  ·subst e;rw [List.getElem?_set_self (by rw [h.tl];omega)]
  rw [List.getElem?_set_ne e];exact h.los_ m vd I J
 rw [List.getElem?_set_ne vd];exact h.zero
theorem GroI.done {ks:List (List Nat)} {ws tr:List Int} (h:GroI ks 0 ws tr) (hk:1<ks.length):tr.set 0 (win ks 1:Int)=treeOf ks:=by
 apply List.ext_getElem?;intro m;by_cases hm:m<ks.length
 ·cases m with
  | zero=>rw [List.getElem?_set_self (by rw [h.tl];omega),zcs _ vd]
  | succ m=>rw [List.getElem?_set_ne vd,h.los_ (m+1) vd vd hm,zdS _ _ vd hm]
 rw [List.getElem?_eq_none (by rw [List.length_set,h.tl];omega),List.getElem?_eq_none (by rw [zaS];omega)]
theorem GroI.done1 {ks:List (List Nat)} {ws tr:List Int} (h:GroI ks 0 ws tr) (hk:ks.length<=1):tr=treeOf ks:=by
 apply List.ext_getElem?;intro m;by_cases hm:m<ks.length
 ·obtain rfl:m=0:=by omega
  rw [zcs _ vd,zfM _ _ vd,show 1-ks.length=0 from by omega];rcases h.zero with q | q
  ·exact q
  omega
 rw [List.getElem?_eq_none (by rw [h.tl];omega),List.getElem?_eq_none (by rw [zaS];omega)]
end Loser
end
section
open Go.RowKit
open Mv Num Loser
def treeB (hk ht:tu):Blk:=⟨385,[hk,ht],2⟩
def intB (l:List Int) (c:Nat):Blk:=⟨3,l.map (λx=>Value.int .i64 x),c⟩
theorem zoY (ks:List (List Nat)) (a b:Nat) (K:key ks a ≠ []) (Q:key ks b ≠ []):beatsP ks a b=(decide (cmpB (key ks a) (key ks b)<0) || (decide (cmpB (key ks a) (key ks b)=0) && decide (a<b))):=by
 unfold beatsP;rw [zgd];have J:kLess (key ks a) (key ks b)=lessB (key ks a) (key ks b):=by
  generalize key ks a=x at *;generalize key ks b=y at *;cases x with
  | nil=>exact absurd rfl K
  | cons _ _=>cases y with
   | nil=>exact absurd rfl Q
   | cons _ _=>rfl
 have U:∀ x y:List Nat,cmpB x y=0 <-> x=y:=by
  intro x
  induction x with
  | nil=>intro y;cases y <;> simp [cmpB]
  | cons a x I =>
   intro y;cases y with
   | nil=>simp [cmpB]
   | cons b y =>
    simp only [cmpB];split
    ·simp;omega
    split
    ·simp;omega
    rw [I];simp;omega
 rw [J];congr 1;congr 1;rw [Bool.eq_iff_iff];simp [U]
theorem zhn (p:Nat) (hk ht:tu) (ks:List (List Nat)) (a b:Nat) (S:Mem) (hp:S.own p=some (treeB hk ht)) (al:SlOf RowR S hk ks) (ha:a<ks.length) (hb:b<ks.length) :
  ACall prog 290 #[.pointer (some ⟨p,0,none⟩),.int .i64 a,.int .i64 b] S λr S'=>r = .bool (beatsP ks a b)/\S'=S:=by
 unfold treeB at hp;obtain ⟨hs,V,⟨pa,ca,rfl,Q,U,h3⟩,aa⟩:=al;obtain ⟨b0,off,rfl,Y⟩:=h3.resolve_left (by intro h;rw [h] at V;simp at V;omega);have af:=Y a vd;have am:=Y b vd;have I:=aa a ha vd;have J:=aa b hb vd;rw [<- zek ks a ha] at I;rw [<- zek ks b hb] at J;have Z:=zoY ks a b;have aj:key ks a = []->key ks b = []->beatsP ks a b=decide (a<b):=λQ U=>by unfold beatsP;rw [Q,U];simp [kLess]
 have ah:key ks a = []->key ks b ≠ []->beatsP ks a b=false:=λQ U=>by
  unfold beatsP;rw [Q];have:decide ([]=key ks b)=false:=decide_eq_false (Ne.symm U);rw [this];simp [kLess]
 have ag:key ks a ≠ []->key ks b = []->beatsP ks a b=true:=λQ U=>by
  unfold beatsP;rw [U];cases h:key ks a with
  | nil=>exact absurd h Q
  | cons _ _=>rfl
 have ac:decide ((a:Int)<(b:Int))=decide (a<b):=by rw [Bool.eq_iff_iff];simp
 have K:∀ l:List Nat,l.length=0 <-> l = []:=λl=>List.length_eq_zero_iff;generalize key ks a=x at *;generalize key ks b=y at *;obtain ⟨ga,ak⟩ : ∃ g,g=hs[a]:=⟨_,rfl⟩;obtain ⟨gb,ai⟩ : ∃ g,g=hs[b]:=⟨_,rfl⟩;rw [<- ak] at af I;rw [<- ai] at am J;obtain ⟨qa,da,rfl,aq,au,_⟩:=id I;obtain ⟨qb,db,rfl,ao,ay,_⟩:=id J;by_cases hx:x.length=0
 ·by_cases X:y.length=0
  ·rw [aj ((K x).1 hx) ((K y).1 X)];refine k_E3 60 func290 ?_;refine r6_ ?_;refine dr_ [i0_,i1_,i2_,i3_,i4_,i5_,i6_,i7_,i8_,i9_,i10_,i11_,i12_,i13_,i14_,i15_,i16_,i17_] [] ?_;refine r35_ ?_;refine cT_ ?_;refine r4_ ?_;refine rC (vh rfl rfl (zaf (zaA _ _) ac)) ?_;refine r6_ ?_;refine ⟨_,S,⟨_,_,rfl,rfl,rfl⟩,zae,?_⟩;exact ⟨rfl,rfl⟩
  rw [ah ((K x).1 hx) (λe=>X ((K y).2 e))];refine k_E3 60 func290 ?_;refine r6_ ?_;refine dr_ [i0_,i1_,i2_,i3_,i4_,i5_,i6_,i7_,i8_,i9_,i10_,i11_,i12_,i13_,i14_,i15_,i16_,i17_] [] ?_;refine r35_ ?_;refine kw_ [0,1,2,6,7,8,26] ?_;refine cF_ ?_;refine r13_ ?_;refine cT_ ?_;refine r11_ ?_;refine ⟨_,S,⟨_,_,rfl,rfl,rfl⟩,zae,?_⟩;exact ⟨rfl,rfl⟩
 by_cases X:y.length=0
 ·rw [ag (λe=>hx ((K x).2 e)) ((K y).1 X)];refine k_E3 60 func290 ?_;refine r6_ ?_;refine dr_ [i0_,i1_,i2_,i3_,i4_,i5_,i6_,i7_,i8_,i9_,i10_,i11_,i12_,i13_,i14_,i15_,i16_,i17_] [] ?_;refine r35_ ?_;refine cF_ ?_;refine r13_ ?_;refine kw_ [0,1,2,6,7,8,26,38] ?_;refine cT_ ?_;refine r11_ ?_;refine ⟨_,S,⟨_,_,rfl,rfl,rfl⟩,zae,?_⟩;exact ⟨rfl,rfl⟩
 rw [Z (λe=>hx ((K x).2 e)) (λe=>X ((K y).2 e))];by_cases hc:cmpB x y=0
 ·have ae:=hc;refine k_E3 60 func290 ?_;refine r6_ ?_;refine dr_ [i0_,i1_,i2_,i3_,i4_,i5_,i6_,i7_,i8_,i9_,i10_,i11_,i12_,i13_,i14_,i15_,i16_,i17_] [] ?_;refine r35_ ?_;refine cF_ ?_;refine r13_ ?_;refine cF_ ?_;refine r8_ ?_;refine cp_ rfl (zcy x y _ _ S I J) ?_;refine r3_ ?_;refine kw_ [0,1,2,6,7,8,26,38,9] ?_;refine r6_ ?_;refine cF_ ?_;refine r6_ ?_;refine rC (vh rfl rfl (zaf (zaA _ _) ac)) ?_;refine r4_ ?_;refine ⟨_,S,⟨_,_,rfl,rfl,rfl⟩,zae,?_⟩;exact ⟨by rw [hc];rfl,rfl⟩
 have ae:=hc;refine k_E3 60 func290 ?_;refine r6_ ?_;refine dr_ [i0_,i1_,i2_,i3_,i4_,i5_,i6_,i7_,i8_,i9_,i10_,i11_,i12_,i13_,i14_,i15_,i16_,i17_] [] ?_;refine r35_ ?_;refine cF_ ?_;refine r13_ ?_;refine kw_ [0,1,2,6,7,8,26,38] ?_;refine cF_ ?_;refine r8_ ?_;refine cp_ rfl (zcy x y _ _ S I J) ?_;refine r9_ ?_;refine cT_ ?_;refine r9_ ?_;refine ⟨_,S,⟨_,_,rfl,rfl,rfl⟩,zae,?_⟩;exact ⟨by simp [Mv.one,hc],rfl⟩
theorem zoZ (n m:Nat) (h:m<n):(List.replicate n (0:Int))[m]?=some 0:=by simp [h]
set_option maxRecDepth 10000 in
theorem zo0 (p:Nat) (hk ht:tu) (ks:List (List Nat)) (S:Mem) (hf:Fresh S p) (ad:SlOf RowR S hk ks) (ay:1<=ks.length) (aB:ks.length<=256) :
  ACall prog 289 #[.pointer (some ⟨p,0,none⟩)] (S.set p (treeB hk ht)) λr S'=>∃ q,Fresh S q/\q≠p/\S'=(S.set q (intB (treeOf ks) ks.length)).set p (treeB hk (.slice (some ⟨q,0,none⟩) ks.length ks.length)):=by
 unfold treeB intB;obtain ⟨U,V,rfl⟩ : ∃ U V,hk = .slice U ks.length V:=by
  obtain ⟨hs,af,⟨U,V,e,_⟩,_⟩:=id ad;exact ⟨U,V,by rw [e,af]⟩
 refine k_E1 80 func289 ?_;refine r15_ ?_;refine ARun.makeSlice (zab rfl) zau rfl rfl vd vd vd vd ?_;intro I al;have K:=al
 repeat ((with_reducible replace K:=zaa K);obtain ⟨K,_⟩:=K)
 refine r6_ ?_;simp only [Nat.mul_one,zbw,Int.toNat_natCast];refine r4_ ?_;refine ARun.makeSlice (zab rfl) zau rfl rfl vd vd vd vd ?_;intro J ao;have Y:=ao
 repeat ((with_reducible replace Y:=zaa Y);obtain ⟨Y,_⟩:=Y)
 refine r3_ ?_;have am:(2*(ks.length:Int)).toNat=2*ks.length:=by omega
 simp only [Nat.mul_one,zbw,am];have hz:∀ n,List.replicate n (Value.int .i64 0)=(List.replicate n (0:Int)).map λx=>Value.int .i64 x:=λn=>by simp
 rw [hz,hz];refine r8_ ?_;refine AWP.loop (X:=Nat × List Int) (λx=>[(0,.pointer (some ⟨p,0,none⟩)),(2,.int .i64 ks.length),(3,.slice (some ⟨J,0,none⟩) (2*ks.length) (2*ks.length)),(23,.int .i64 ks.length),(24,.int .i64 x.1)]) (λx=>((S.set I ⟨3,(List.replicate ks.length (0:Int)).map (λx=>Value.int .i64 x),ks.length⟩).set J ⟨3,x.2.map (λx=>Value.int .i64 x),2*ks.length⟩).set p ⟨385,[.slice U ks.length V,.slice (some ⟨I,0,none⟩) ks.length ks.length],2⟩) (λx=>x.1<=ks.length/\x.2.length=2*ks.length /\ ∀ m,ks.length<=m->m<ks.length+x.1->x.2[m]?=some ((m-ks.length:Nat):Int)) (λx=>ks.length-x.1) ((0,List.replicate (2*ks.length) (0:Int))) ⟨rfl,rfl,rfl,rfl,rfl,trivial⟩ zae (⟨Nat.zero_le _,by simp,λm h1 h2=>by omega⟩) ?_;rintro ⟨i,ws⟩ ⟨hi,ac,hw⟩;(try dsimp only at *);refine r6_ ?_;refine vu rfl (λQ=>?_) (λQ=>?_)
 ·have Q:i<ks.length:=by have:=of_decide_eq_true Q;omega
  have an:((ks.length:Int)+(i:Int)).toNat=ks.length+i:=by omega
  refine r21_ ?_;refine kw_ [0,2,3,23,24,25,4] ?_;simp only [Nat.zero_add,Nat.mul_one,an,zch];refine r5_ ?_;refine ⟨(i+1,ws.set (ks.length+i) (i:Int)),?_,?_,?_,?_⟩<;>try dsimp only
  ·exact ⟨rfl,rfl,rfl,rfl,rfl,trivial⟩
  ·exact zae
  ·exact ⟨Q,by rw [List.length_set];exact ac,λm h1 h2=>by by_cases e:ks.length+i=m;(subst e;rw [List.getElem?_set_self vd];simp);(rw [List.getElem?_set_ne e];exact hw m h1 vd)⟩
  omega
 have Q:i=ks.length:=by have:=of_decide_eq_false Q;omega
 have hG:GroI ks (ks.length-1) ws (List.replicate ks.length (0:Int)):=⟨ac,by simp,λm h1 h2=>by rw [hw m vd vd,zfM ks m vd],λm h1 h2 h3=>by omega,.inl (zoZ _ 0 vd)⟩;refine r14_ ?_;refine AWP.loop (X:=Nat × List Int × List Int) (λx=>[(0,.pointer (some ⟨p,0,none⟩)),(2,.int .i64 ks.length),(3,.slice (some ⟨J,0,none⟩) (2*ks.length) (2*ks.length)),(5,.int .i64 x.1)]) (λx=>((S.set I ⟨3,x.2.2.map (λx=>Value.int .i64 x),ks.length⟩).set J ⟨3,x.2.1.map (λx=>Value.int .i64 x),2*ks.length⟩).set p ⟨385,[.slice U ks.length V,.slice (some ⟨I,0,none⟩) ks.length ks.length],2⟩) (λx=>x.1<ks.length/\GroI ks x.1 x.2.1 x.2.2) (λx=>x.1) ((ks.length-1,ws,List.replicate ks.length (0:Int))) ⟨rfl,rfl,rfl,zah vd,trivial⟩ zae (⟨by omega,hG⟩) ?_;rintro ⟨n,vs,tr⟩ ⟨hn,Z⟩;(try dsimp only at *);have az:=Z.wl;have aw:=Z.tl;by_cases aa:1<=n
 ·refine r7_ ?_;refine cT_ ?_;have k1:=ziu (S:=((S.set I ⟨3,tr.map (λx=>Value.int .i64 x),ks.length⟩).set J ⟨3,vs.map (λx=>Value.int .i64 x),2*ks.length⟩).set p ⟨385,[.slice U ks.length V,.slice (some ⟨I,0,none⟩) ks.length ks.length],2⟩) (b:=J) own_ (2*n) (Z.win_ (2*n) vd vd);have k2:=ziu (S:=((S.set I ⟨3,tr.map (λx=>Value.int .i64 x),ks.length⟩).set J ⟨3,vs.map (λx=>Value.int .i64 x),2*ks.length⟩).set p ⟨385,[.slice U ks.length V,.slice (some ⟨I,0,none⟩) ks.length ks.length],2⟩) (b:=J) own_ (2*n+1) (Z.win_ (2*n+1) vd vd);have aj:=zcQ (ks:=ks) (n:=2*n) vd vd;have ah:=zcQ (ks:=ks) (n:=2*n+1) vd vd;have hg:=game ks n (2*n) (2*n+1) aa hn (.inl ⟨rfl,rfl⟩);refine r5_ ?_;refine dr_ [i0_,i1_,i2_,i3_,i4_,i5_,i6_,i7_,i8_,i9_,i10_,i11_,i12_] [] ?_;refine r21_ ?_;refine cp_ rfl (zhn p _ _ ks _ _ _ own_ (ad.less ziV zae) ah aj) ?_;refine r2_ ?_;rcases Bool.eq_false_or_eq_true (beatsP ks (win ks (2*n+1)) (win ks (2*n))) with hb | hb
  ·obtain ⟨e1,e2⟩:=hg.1 hb;refine AWP.condT rfl (hb) ?_;refine r7_ ?_;refine kw_ [0,2,3,5,37,6,7,54] ?_;refine r18_ ?_;simp only [Nat.zero_add,Nat.mul_one,Int.toNat_natCast,zch];rw [<- e1,<- e2];refine r6_ ?_;refine ⟨(n-1,vs.set n (win ks n:Int),tr.set n (los ks n:Int)),?_,?_,?_,?_⟩<;>try dsimp only
   ·exact ⟨rfl,rfl,rfl,zah vd,trivial⟩
   ·exact zae
   ·exact ⟨by omega,Z.step aa hn⟩
   omega
  obtain ⟨e1,e2⟩:=hg.2 hb;refine AWP.condF rfl (hb) ?_;refine r20_ ?_;simp only [Nat.zero_add,Nat.mul_one,Int.toNat_natCast,zch];rw [<- e1,<- e2];refine r6_ ?_;refine ⟨(n-1,vs.set n (win ks n:Int),tr.set n (los ks n:Int)),?_,?_,?_,?_⟩<;>try dsimp only
  ·exact ⟨rfl,rfl,rfl,zah vd,trivial⟩
  ·exact zae
  ·exact ⟨by omega,Z.step aa hn⟩
  omega
 obtain rfl:n=0:=by omega
 refine r7_ ?_;refine cF_ ?_;by_cases ai:1<ks.length
 ·refine r11_ ?_;refine cT_ ?_;have k1:=ziu (S:=((S.set I ⟨3,tr.map (λx=>Value.int .i64 x),ks.length⟩).set J ⟨3,vs.map (λx=>Value.int .i64 x),2*ks.length⟩).set p ⟨385,[.slice U ks.length V,.slice (some ⟨I,0,none⟩) ks.length ks.length],2⟩) (b:=J) own_ 1 (Z.win_ 1 vd vd);refine dr_ [i0_,i1_,i2_,i3_,i4_,i5_,i6_,i7_,i8_,o9_] [9] ?_;refine r9_ ?_;refine zac rfl ?_;refine s1_ ?_;refine zad ⟨nz_,?_⟩;refine s1_ ?_;simp only [Nat.zero_add,Nat.mul_one,Int.toNat_zero,zch,Z.done ai];refine ⟨_,(S.set I ⟨3,(treeOf ks).map (λx=>Value.int .i64 x),ks.length⟩).set p ⟨385,[.slice U ks.length V,.slice (some ⟨I,0,none⟩) ks.length ks.length],2⟩,rfl,zae,?_⟩;exact ⟨I,K,by assumption,rfl⟩
 refine r11_ ?_;refine kw_ [0,2,3,5,37,70] ?_;refine cF_ ?_;rw [Z.done1 vd];refine s1_ ?_;refine ⟨_,(S.set I ⟨3,(treeOf ks).map (λx=>Value.int .i64 x),ks.length⟩).set p ⟨385,[.slice U ks.length V,.slice (some ⟨I,0,none⟩) ks.length ks.length],2⟩,rfl,zae,?_⟩;exact ⟨I,K,by assumption,rfl⟩
theorem zt7 (hk:tu) (ks:List (List Nat)) (S:Mem) (J:SlOf RowR S hk ks) (X:1<=ks.length) (U:ks.length<=256) :
  ACall prog 278 #[hk] S λr S'=>∃ p q,Fresh S p/\Fresh S q/\q≠p/\r = .pointer (some ⟨p,0,none⟩)/\S'=(S.set q (intB (treeOf ks) ks.length)).set p (treeB hk (.slice (some ⟨q,0,none⟩) ks.length ks.length)):=by
 obtain ⟨K,Q,rfl⟩ : ∃ K Q,hk = .slice K ks.length Q:=by
  obtain ⟨hs,V,⟨K,Q,e,_⟩,_⟩:=id J;exact ⟨K,Q,by rw [e,V]⟩
 refine k_E1 11 func278 ?_;refine r10_ ?_;refine vA (cs:=[_,_]) (zab rfl) rfl ?_;intro b7 f7;have I:=f7
 repeat ((with_reducible replace I:=zaa I);obtain ⟨I,_⟩:=I)
 refine nl_ ?_;refine r6_ ?_;refine ca_ rfl (zo0 b7 _ _ ks S I J X U) ?_;rintro _ S1 ⟨q,Z,Y,h1⟩;rw [h1];clear h1 S1;refine r9_ ?_;refine ⟨_,_,⟨_,_,rfl,rfl,rfl⟩,Mem.Less.refl _,?_⟩;exact ⟨b7,q,I,Z,Y,rfl,rfl⟩
/-! ### Copies, and lists that are held against each other -/
/-! ### Plain answers -/
namespace Loser
end Loser
def LoV (S:Mem) (hk ht:tu) (ks:List (List Nat)) (tr:List Int):Prop:=SlOf RowR S hk ks/\Sl 1 i64s S ht tr
theorem zt8 {S:Mem} {q:Nat} {l:List Int} {c len:Nat} (h:S.own q=some (intB l c)) (hl:l.length=len) (hc:len<=c) (hm:len<=9223372036854775807):Sl 1 i64s S (.slice (some ⟨q,0,none⟩) len c) l :=
 vL (g:=λx:Int=>Value.int .i64 x) h List.prefix_rfl hl hc hm
end
section
open Go.RowKit
open Mv Num Loser
theorem zrn (ks:List (List Nat)) (h:0<(treeOf ks).length):(treeOf ks)[0]=(win ks 1:Int):=by
 have I:=zcs ks (by rw [zaS] at h;omega);rw [List.getElem?_eq_getElem h] at I;exact Option.some.inj I
theorem zro (p:Nat) (hk Z:tu) (ks:List (List Nat)) (S:Mem) (hp:S.own p=some (treeB hk Z)) (hl:LoV S hk Z ks (treeOf ks)) (h1:1<=ks.length) :
  ACall prog 279 #[.pointer (some ⟨p,0,none⟩)] S λr S'=>r = .tuple #[.int .i64 (win ks 1:Nat),.bool (decide (key ks (win ks 1) ≠ []))]/\S'=S:=by
 unfold treeB at hp;have Y:=zcQ (ks:=ks) (n:=1) (by decide) vd;have I:=zaS ks;obtain ⟨X,K⟩:=hl;obtain ⟨gs,J,Q,U⟩:=X;obtain ⟨pa,ca,rfl,a1,a2,a3⟩:=id Q;obtain ⟨pt,ct,rfl,t1,t2,t3⟩:=id K;obtain ⟨b0,off,rfl,_⟩:=a3.resolve_left (by intro h;rw [h] at J;simp at J;omega);obtain ⟨bt,ac,rfl,_⟩:=t3.resolve_left (by intro h;rw [h] at I;simp at I;omega);have k0:=K.at1 0 vd;rw [zrn ks vd] at k0;unfold i64s at k0;have k1:=Q.at1 (win ks 1) vd;have V:=U (win ks 1) Y vd;rw [<- zek ks _ Y] at V;obtain ⟨g,hg⟩ : ∃ g,g=gs[win ks 1]:=⟨_,rfl⟩;rw [<- hg] at k1 V;obtain ⟨qa,da,rfl,x1,x2,_⟩:=V;have hd:decide ((0:Int)<((key ks (win ks 1)).length:Int))=decide (key ks (win ks 1) ≠ []):=by
  rw [Bool.eq_iff_iff];simp only [decide_eq_true_eq,ne_eq,<- List.length_eq_zero_iff];omega
 refine k_E1 23 func279 ?_;refine r19_ ?_;refine dr_ [i0_,i1_,i2_,i3_,i4_,i5_,i6_,i7_,i8_,i9_,i10_,i11_,i12_] [] ?_;refine r10_ ?_;refine dP (hc:=λ_=>vh rfl rfl (zaf (zbu _ _) hd)) (h:=?_);refine r5_ ?_;refine ⟨_,S,⟨_,_,rfl,⟨_,_,rfl,rfl,rfl⟩,rfl⟩,zae,?_⟩;exact ⟨rfl,rfl⟩
theorem zrp {l:List Int} {n:Nat} {v:Int} (h:l[n]?=some v):l.set n v=l:=by
 apply List.ext_getElem?;intro m;by_cases e:n=m
 ·subst e;have:=(List.getElem?_eq_some_iff.1 h).1;rw [List.getElem?_set_self this,h]
 rw [List.getElem?_set_ne e]
def losM (M:Mem) (b q p:Nat) (hs:List tu) (tr:List Int) (k c:Nat):Mem :=
  ((M.set b ⟨161,hs,k⟩).set q ⟨3,tr.map (λx=>Value.int .i64 x),c⟩).set p ⟨385,[.slice (some ⟨b,0,none⟩) k k,.slice (some ⟨q,0,none⟩) k c],2⟩
structure LosF (M:Mem) (b q p:Nat):Prop where
  fb:Fresh M b
  fq:Fresh M q
  fp:Fresh M p
  bq:b≠q
  bp:b≠p
  qp:q≠p
theorem zmY {M:Mem} {b q p:Nat} {hs:List tu} {tr:List Int} {k c:Nat} (h:LosF M b q p):(losM M b q p hs tr k c).own b=some ⟨161,hs,k⟩:=by
 unfold losM;rw [vg _ _ h.bp,vg _ _ h.bq,vf]
theorem zho {M:Mem} {b q p:Nat} {hs:List tu} {tr:List Int} {k c:Nat} (h:LosF M b q p):(losM M b q p hs tr k c).own q=some ⟨3,tr.map (λx=>Value.int .i64 x),c⟩:=by
 unfold losM;rw [vg _ _ h.qp,vf]
theorem zmZ {M:Mem} {b q p:Nat} {hs:List tu} {tr:List Int} {k c:Nat}:(losM M b q p hs tr k c).own p=some (treeB (.slice (some ⟨b,0,none⟩) k k) (.slice (some ⟨q,0,none⟩) k c)):=vf _ _ _
theorem zo1 {M:Mem} {b q p:Nat} {hs:List tu} {tr:List Int} {k c:Nat} (h:LosF M b q p):M.Less (losM M b q p hs tr k c) :=
 (vi _ _ _ h.fb.1).trans ((vi _ _ _ (by rw [vg _ _ (Ne.symm h.bq)];exact h.fq.1)).trans (vi _ _ _ (by rw [vg _ _ (Ne.symm h.qp),vg _ _ (Ne.symm h.bp)];exact h.fp.1)))
theorem zo2 {M:Mem} {b q p:Nat} {hs:List tu} {tr:List Int} {k c:Nat} {ks:List (List Nat)} (h:LosF M b q p) (I:hs.length=ks.length) (hk:k=ks.length) (hb:k<=256) (K:∀ i (h:i<ks.length) (h':i<hs.length),RowR M hs[i] ks[i]):SlOf RowR (losM M b q p hs tr k c) (.slice (some ⟨b,0,none⟩) k k) ks:=by
 subst hk;exact ⟨hs,I,vL (g:=λx:tu=>x) (r:=⟨_,hs,ks.length⟩) (zmY h) (by simp) I (Nat.le_refl _) vd,λi J Q=>ziV _ _ _ _ (K i J Q) (zo1 h)⟩
theorem zrq {M:Mem} {hs:List tu} {ks:List (List Nat)} {w:Nat} {I:tu} {x:List Nat} (J:∀ i (h:i<ks.length) (h':i<hs.length),RowR M hs[i] ks[i]) (K:RowR M I x):∀ i (h:i<(ks.set w x).length) (h':i<(hs.set w I).length),RowR M (hs.set w I)[i] (ks.set w x)[i]:=λi h h'=>by
 by_cases e:w=i
 ·subst e;simpa using K
 rw [List.getElem_set_ne e,List.getElem_set_ne e];exact J i (by simpa using h) (by simpa using h')
theorem zjk (b q p:Nat) (ks:List (List Nat)) (hs:List tu) (k c:Nat) (x:List Nat) (vx:tu) (M:Mem) (U:LosF M b q p) (ah:hs.length=ks.length) (hk:k=ks.length) (ay:1<=k) (ai:k<=256) (hc:k<=c) (hr:∀ i (h:i<ks.length) (h':i<hs.length),RowR M hs[i] ks[i]) (hx:RowR M vx x) :
  ACall prog 280 #[.pointer (some ⟨p,0,none⟩),vx] (losM M b q p hs (treeOf ks) k c) λr S'=>S'=losM M b q p (hs.set (win ks 1) vx) (treeOf (ks.set (win ks 1) x)) k c:=by
 obtain ⟨pv,cv,rfl,ax,au,_⟩:=id hx;have hw:=zcQ (ks:=ks) (n:=1) (by decide) vd;have av:=zaS ks;have I:(ks.set (win ks 1) x).length=ks.length:=List.length_set;have Z:(hs.set (win ks 1) (.slice pv x.length cv)).length=(ks.set (win ks 1) x).length:=by simp [ah]
 have am:=zrq (w:=win ks 1) hr hx;have ae:win (ks.set (win ks 1) x) (ks.length+win ks 1)=win ks 1:=by rw [zfM _ (ks.length+win ks 1) (by rw [I];omega),I];omega
 have aF:=U.bq;have aB:=U.bp;have aC:=U.qp
 have t0:=ziu (zho (hs:=hs) (tr:=treeOf ks) (k:=k) (c:=c) U) 0 (zcs ks vd);unfold losM at t0 ⊢;refine k_E2 68 func280 ?_;refine r25_ ?_;simp only [Nat.zero_add,Nat.mul_one,Int.toNat_natCast];refine r16_ ?_;refine AWP.loop (X:=Nat × List Int) (λy=>[(0,.pointer (some ⟨p,0,none⟩)),(4,.int .i64 (win (ks.set (win ks 1) x) y.1:Nat)),(5,.int .i64 (y.1 / 2:Nat))]) (λy=>losM M b q p (hs.set (win ks 1) (.slice pv x.length cv)) y.2 k c) (λy=>RepI ks x y.1 y.2) (λy=>y.1) ((ks.length+win ks 1,treeOf ks)) ⟨rfl,zah (by simp only [ae]),zah vd,trivial⟩ (by unfold losM;exact zae) (RepI.start ks x vd) ?_;rintro ⟨nd,tr⟩ hI;(try dsimp only at *);obtain ⟨a1,a2,a3⟩:=hI.at_;have an:=hI.len;have V:=zo2 (tr:=tr) (c:=c) U Z vd ai am;have Y:=zmZ (M:=M) (b:=b) (q:=q) (p:=p) (hs:=hs.set (win ks 1) (.slice pv x.length cv)) (tr:=tr) (k:=k) (c:=c);by_cases Q:1<=nd / 2
 ·refine r7_ ?_;refine cT_ ?_;obtain ⟨s,al,J,aA,aD,aw⟩:=hI.sib Q;have af:=zcQ (ks:=ks.set (win ks 1) x) (n:=s) vd vd;have ag:=zcQ (ks:=ks.set (win ks 1) x) (n:=nd) vd vd;have hg:=game (ks.set (win ks 1) x) (nd / 2) nd s Q vd al;have K:=hI.step Q;have kt:=ziu (zho (hs:=hs.set (win ks 1) (.slice pv x.length cv)) (tr:=tr) (k:=k) (c:=c) U) (nd / 2) J;unfold losM at kt Y V ⊢;refine r16_ ?_;refine cp_ rfl (zhn p _ _ (ks.set (win ks 1) x) _ _ _ Y V af ag) ?_;refine r2_ ?_;refine kw_ [0,4,5,31,44] ?_;rcases Bool.eq_false_or_eq_true (beatsP (ks.set (win ks 1) x) (win (ks.set (win ks 1) x) s) (win (ks.set (win ks 1) x) nd)) with hb | hb
  ·obtain ⟨e1,e2⟩:=hg.1 hb;refine AWP.condT rfl (hb) ?_;refine dr_ [i0_,i1_,i2_,i3_,i4_,i5_,i6_,i7_,i8_,i9_,i10_,i11_,i12_,i13_,i14_,i15_,i16_,o17_] [17] ?_;refine r17_ ?_;refine zac rfl ?_;refine s1_ ?_;refine zad ⟨nz_,?_⟩;refine r3_ ?_;simp only [Nat.zero_add,Nat.mul_one,Int.toNat_natCast,zch];refine r6_ ?_;refine ⟨(nd / 2,tr.set (nd / 2) (los (ks.set (win ks 1) x) (nd / 2):Int)),?_,?_,?_,?_⟩<;>try dsimp only
   ·exact ⟨rfl,zah (by rw [e1]),zah vd,trivial⟩
   ·rw [e2];exact zae
   ·exact K
   omega
  obtain ⟨e1,e2⟩:=hg.2 hb;rw [<- e2] at J;rw [zrp J] at K;refine AWP.condF rfl (hb) ?_;refine r9_ ?_;refine ⟨(nd / 2,tr),?_,?_,?_,?_⟩<;>try dsimp only
  ·exact ⟨rfl,zah (by rw [e1]),zah vd,trivial⟩
  ·exact Mem.Less.refl _
  ·exact K
  omega
 refine r7_ ?_;refine cF_ ?_;obtain rfl:nd=1:=by omega
 have ak:=hI.done vd;unfold losM;refine r15_ ?_;simp only [Nat.zero_add,Nat.mul_one,Int.toNat_zero,zch,ak];refine ⟨_,losM M b q p (hs.set (win ks 1) (.slice pv x.length cv)) (treeOf (ks.set (win ks 1) x)) k c,rfl,(by unfold losM;exact zae),?_⟩;rfl
theorem zkw (x y:List Nat) (J:x ≠ []) (I:y ≠ []):kLess x y=lessB x y:=by
 cases x with
 | nil=>exact absurd rfl J
 | cons _ _=>cases y with
  | nil=>exact absurd rfl I
  | cons _ _=>rfl
theorem zkx (ks:List (List Nat)) (j:Nat) (I:j<ks.length) (hk:key ks (win ks 1) ≠ []) (J:ks[j] ≠ []) :
  lessB ks[j] (key ks (win ks 1))=false/\(lessB (key ks (win ks 1)) ks[j]=true\/(lessB (key ks (win ks 1)) ks[j]=false/\win ks 1<=j)):=by
 by_cases e:j=win ks 1
 ·rw [<- zek ks j I,e];exact ⟨zap _,.inr ⟨zap _,Nat.le_refl _⟩⟩
 have hb:=zcR (ks:=ks) (n:=1) (by decide) vd I (zeI I) e;unfold beatsP at hb;rw [<- zek ks j I] at J ⊢;rw [zkw _ _ hk J] at hb;simp only [Bool.or_eq_true,Bool.and_eq_true,decide_eq_true_eq] at hb;rcases hb with hb | ⟨hb,K⟩
 ·refine ⟨?_,.inl hb⟩;cases h:lessB (key ks j) (key ks (win ks 1)) with
  | false=>rfl
  | true=>have:=za4 _ _ _ hb h;rw [zap] at this;cases this
 rw [hb];exact ⟨zap _,.inr ⟨zap _,by omega⟩⟩
end
section
open Go.RowKit
open Mv Disk Num Loser
namespace Sto
def hds (rem:List (List (List Nat))):List (List Nat):=rem.map λr=>r.headD []
theorem zky (rem:List (List (List Nat))) {i:Nat} (h:i<rem.length):key (hds rem) i=rem[i].headD []:=by
 rw [zek _ _ (by unfold hds;simpa using h)];unfold hds;simp
theorem zt9 (rem:List (List (List Nat))) (i:Nat) (t:List (List Nat)):hds (rem.set i t)=(hds rem).set i (t.headD []):=by unfold hds;rw [List.map_set]
structure MgI (all:List (List Nat)) (rem:List (List (List Nat))) (out:List (List Nat)):Prop where
  so:∀ r ∈ rem,SortedR r
  os:SortedR out
  le:∀ x ∈ out,∀ r ∈ rem,∀ y ∈ r,lessB y x=false
  pm:(out ++ rem.flatten).Perm all
  ne:∀ r ∈ rem,∀ y ∈ r,y ≠ []
theorem MgI.start {rem:List (List (List Nat))} (I:∀ r ∈ rem,SortedR r) (J:∀ r ∈ rem,∀ y ∈ r,y ≠ []):MgI rem.flatten rem [] :=
 ⟨I,List.Pairwise.nil,λx h=>(by cases h),List.Perm.refl _,J⟩
theorem zfB {rem:List (List (List Nat))} {i:Nat} (h:i<rem.length) {x:List Nat} {t:List (List Nat)} (e:rem[i]=x :: t):rem.flatten.Perm (x :: (rem.set i t).flatten):=by
 have e1:rem=rem.take i ++ rem[i] :: rem.drop (i+1):=by rw [<- List.drop_eq_getElem_cons h,List.take_append_drop]
 rw [List.set_eq_take_append_cons_drop,if_pos h]
 conv=>lhs;rw [e1,e]
 rw [List.flatten_append,List.flatten_cons,List.flatten_append,List.flatten_cons,List.cons_append];exact List.perm_middle
theorem MgI.step {all:List (List Nat)} {rem:List (List (List Nat))} {out:List (List Nat)} (h:MgI all rem out) (h1:1<=rem.length) (he:key (hds rem) (win (hds rem) 1) ≠ []) :
  ∃ (X:win (hds rem) 1<rem.length),∃ x t,rem[win (hds rem) 1]=x :: t/\key (hds rem) (win (hds rem) 1)=x/\MgI all (rem.set (win (hds rem) 1) t) (out ++ [x]):=by
 have hl:(hds rem).length=rem.length:=by unfold hds;simp
 have X:win (hds rem) 1<rem.length:=by have:=zcQ (ks:=hds rem) (n:=1) (by decide) vd;omega
 have Y:=λj hj hx=>(zkx (hds rem) j hj he hx).1;have I:=zky rem X;generalize win (hds rem) 1=i at *;refine ⟨X,?_⟩;cases e:rem[i] with
 | nil=>rw [e] at I;exact absurd I he
 | cons x t =>
  rw [e] at I;have I:key (hds rem) i=x:=I;rw [I] at Y;have J:rem[i] ∈ rem:=List.getElem_mem X;have U:=h.so _ J;rw [e] at U;have af:∀ y ∈ t,lessB y x=false:=λy hy=>(List.pairwise_cons.1 U).1 y hy;have Q:∀ {r:List (List Nat)},r ∈ rem.set i t -> ∀ y ∈ r,∃ r' ∈ rem,y ∈ r':=λK y hy=>by
   rcases List.mem_or_eq_of_mem_set K with h' | h'
   ·exact ⟨_,h',hy⟩
   subst h';exact ⟨_,J,by rw [e];exact List.mem_cons_of_mem _ hy⟩
  have V:∀ r ∈ rem.set i t,∀ y ∈ r,lessB y x=false:=λr K y hy=>by
   rcases List.mem_or_eq_of_mem_set K with h' | h'
   ·obtain ⟨j,hj,ej⟩:=List.getElem_of_mem h';cases e2:rem[j] with
    | nil=>rw [ej] at e2;rw [e2] at hy;cases hy
    | cons x' t' =>
     have Z:j<(hds rem).length:=(by omega);have aa:(hds rem)[j]=x':=by
      have:=zky rem hj;rw [zek _ _ Z,e2] at this;exact this
     have ai:x' ≠ []:=h.ne _ (List.getElem_mem hj) _ (by rw [e2];exact List.mem_cons_self ..);have h3:=Y j Z (by rw [aa];exact ai);rw [aa] at h3;rw [<- ej,e2] at hy;rcases List.mem_cons.1 hy with rfl | hy
     ·exact h3
     have ad:=h.so _ (List.getElem_mem hj);rw [e2] at ad;exact zhm _ _ _ ((List.pairwise_cons.1 ad).1 y hy) h3
   subst h';exact af y hy
  refine ⟨x,t,rfl,I,λr K=>?_,?_,λz hz r K y hy=>?_,?_,λr K y hy=>?_⟩
  ·rcases List.mem_or_eq_of_mem_set K with h' | h'
   ·exact h.so r h'
   subst h';exact (List.pairwise_cons.1 U).2
  ·refine List.pairwise_append.2 ⟨h.os,List.pairwise_singleton _ _,λz hz y hy=>?_⟩;rw [List.mem_singleton.1 hy];exact h.le z hz _ J x (by rw [e];exact List.mem_cons_self ..)
  ·rcases List.mem_append.1 hz with hz | hz
   ·obtain ⟨r',h1,h2⟩:=Q K y hy;exact h.le z hz r' h1 y h2
   rw [List.mem_singleton.1 hz];exact V r K y hy
  ·refine List.Perm.trans ?_ h.pm;rw [List.append_assoc];exact List.Perm.append_left out (zfB X e).symm
  obtain ⟨r',h1,h2⟩:=Q K y hy;exact h.ne r' h1 y h2
theorem MgI.done {all:List (List Nat)} {rem:List (List (List Nat))} {out:List (List Nat)} (h:MgI all rem out) (Y:1<=rem.length) (I:key (hds rem) (win (hds rem) 1) = []):out.Perm all /\ ∀ r ∈ rem,r = []:=by
 have hl:(hds rem).length=rem.length:=by unfold hds;simp
 have Q:∀ r ∈ rem,r = []:=λr J=>by
  obtain ⟨j,U,V⟩:=List.getElem_of_mem J;cases e2:r with
  | nil=>rfl
  | cons x t =>
   exfalso;have hk:=zky rem U;rw [V,e2] at hk;have hk:key (hds rem) j=x:=hk;have K:x ≠ []:=h.ne r J _ (by rw [e2];exact List.mem_cons_self ..);by_cases q:j=win (hds rem) 1
   ·rw [<- q,hk] at I;exact K I
   have hb:=zcR (ks:=hds rem) (n:=1) (by decide) vd (by omega:j<(hds rem).length) (zeI vd) q;unfold beatsP at hb;rw [I,hk] at hb;simp [kLess,Ne.symm K] at hb
 refine ⟨?_,Q⟩;have:rem.flatten = []:=List.flatten_eq_nil_iff.2 Q;have X:=h.pm;rwa [this,List.append_nil] at X
/-! ### Readers -/
def upd {α : Type} (f:Nat -> α) (i:Nat) (v : α):Nat -> α:=λj=>if j=i then v else f j
theorem zcz {α : Type} (f:Nat -> α) (i:Nat) (v : α):upd f i v i=v:=if_pos rfl
theorem zeK {α : Type} (f:Nat -> α) {i j:Nat} (v : α) (h:j≠i):upd f i v j=f j:=if_neg h
end Sto
end
section
open Go.RowKit
open Mv Disk Num Loser
namespace Sto
def srB (q:Nat) (lv:tu):Blk:=⟨356,[self q,lv],2⟩
end Sto
end
section
open Go.RowKit
open Mv Disk Num Loser
namespace Sto
theorem zkz {x y:Pl} (I:y.fr=x.fr) (hd:y.d=x.d) (s:tt) (k:Int):vw y s k=vw x s k:=by
 unfold vw atF;rw [I,hd]
theorem Ps.same {x y:Pl} {n:Nat} (h:Ps x n) (I:y.fr=x.fr) (hd:y.d=x.d):Ps y n:=by
 have a:∀ i,atF y i=atF x i:=λi=>by unfold atF;rw [I]
 exact ⟨by rw [hd];exact h.d,λi hi=>by rw [a,hd];exact h.ok i (by rw [<- I];exact hi),λi j K Q J=>by rw [a,a];exact h.ap i j (by rw [<- I];exact K) (by rw [<- I];exact Q) J,by rw [I];exact h.l1,by rw [I];exact h.l2⟩
theorem Has.same {x y:Pl} {s:tt} {w c:Nat} {L:List UInt8} (h:Has x s w c L) (J:y.fr=x.fr) (hd:y.d=x.d):Has y s w c L :=
 ⟨by rw [hd];exact h.n,by rw [zkz J hd];exact h.h,λj I=>by rw [hd] at I;rw [<- h.b j I];unfold byt;rw [zkz J hd],h.l⟩
end Sto
end
section
open Go.RowKit
open Mv Disk Num Loser
namespace Sto
def bxB (q:Nat):Blk:=⟨56,[self q],1⟩
theorem zlE {S:Mem} {s t:Nat} {j k:Blk} (h:S.own s=some j) (h':S.own t=some k) (I:j.elem≠k.elem):s≠t:=λe=>by
 subst e;rw [h] at h';exact I (by rw [Option.some.inj h'])
end Sto
end
section
open Go.RowKit
open Mv Disk Num
namespace Sto
theorem zt_ {d:D} (hd:Dw d 0) {s:tt} (h:0<ns d s) :
  ∃ d',freeD d s=(d',0)/\Dw d' 0/\(∀ o,ns d' o=if s=o then 0 else ns d o)/\(∀ o (j:Nat),s≠o->j<ns d o->seen d' o (j:Int)=seen d o (j:Int))/\used d'.ext<=used d.ext/\d'.size=d.size:=by
 have hh:=(zcO hd s).2 h;have X:d.waits = []:=List.length_eq_zero_iff.1 (Nat.le_zero.1 hd.w);have U:d.ext.eraseIdx (pos d.ext s)=dropE d.ext s:=(zgb hd.r.ex.asc hh).symm;have Q:=zqo hd.r.ex.asc s;have J:∀ o,has (dropE d.ext s) o=true <-> s≠o/\has d.ext o=true:=λo=>by
  rw [zaO,zaO];constructor
  ·rintro ⟨x,V,rfl⟩;obtain ⟨h1,h2⟩:=zhN.1 V;exact ⟨Ne.symm h2,x,h1,rfl⟩
  rintro ⟨I,x,V,rfl⟩;exact ⟨x,zhN.2 ⟨V,Ne.symm I⟩,rfl⟩
 have K:∀ o,s≠o->has d.ext o=true->exOf (dropE d.ext s) o=exOf d.ext o:=λo I Z=>by
  obtain ⟨hm,Y⟩:=zbr hd.r.ex.asc Z;have:=zbB Q (zhN.2 ⟨hm,by rw [Y];exact Ne.symm I⟩);rwa [Y] at this
 refine ⟨forgetD (eraseD d s) s,by unfold freeD;rw [if_pos hh],⟨zmw hd.r hh,hd.f,hd.u,?_⟩,λo=>?_,λo j I hj=>?_,?_,rfl⟩
 ·show (filt s d.waits).length<=0;rw [X];exact Nat.le_refl 0
 ·unfold ns;show (if has (d.ext.eraseIdx _) o=true then sec (exOf (d.ext.eraseIdx _) o) else 0)=_;rw [U];by_cases e:s=o
  ·rw [if_pos e,if_neg (λq=>((J o).1 q).1 e)]
  rw [if_neg e];by_cases q:has d.ext o=true
  ·rw [if_pos q,if_pos ((J o).2 ⟨e,q⟩),K o e q]
  rw [if_neg q,if_neg (λg=>q ((J o).1 g).2)]
 ·have q:has d.ext o=true:=(zcO hd o).2 vd;unfold seen;show seeW allK (filt s d.waits) o (j:Int) ((exOf (d.ext.eraseIdx _) o).2.extract _ _) (filt s d.waits).length=_;rw [U,K o I q,X];rfl
 show used (d.ext.eraseIdx _)<=_;rw [U];exact zmE _ _
structure Freed (x y:Pl) (s:ByteArray):Prop where
  ps:Ps y 0
  cl:∀ j,j<y.fr.length->(atF y j).dirty=false
  fa:Far x y (λo=>o=s) No 0
  n0:Sto.ns y.d s=0
  nb:Sto.nb y.fr<=Sto.nb x.fr
  le:∀ j,j<x.fr.length->(atF y j).leased=true->(atF x j).leased=true
  us:∀ o f hl,o≠s->Use x o f hl->Use y o f hl
theorem zua {x:Pl} {s:tt} {f:Nat} (hp:Ps x 0) (U:Use x s f 0) (hc:∀ j,j<x.fr.length->(atF x j).dirty=false) (h:0<ns x.d s) :
  ∃ y d',dropP x s=(y,0)/\Ps y 0/\freeD y.d s=(d',0)/\Freed x { y with d:=d' } s:=by
 obtain ⟨y,k1,X,J,k4,V⟩:=zoC hp (s:=s) (λi hi K=>by
  have K:(atF x i).holds/\(atF x i).name=s:=by unfold ofN at K;exact of_decide_eq_true K
  exact ⟨by rw [U.pins i hi K.1 K.2,if_neg (λh=>absurd h.1 (Nat.lt_irrefl 0))],hc i hi⟩)
 obtain ⟨d',g1,g2,g3,g4,g5,g6⟩:=zt_ X.d (s:=s) (by rw [J.n];exact h);have ad:∀ i,i<y.fr.length->(atF y i).holds->(atF y i).name≠s:=λi hi hh Q=>by
  rw [V i (by rw [<- J.l];exact hi)] at hh Q;by_cases q:ofN s (atF x i)=true
  ·rw [if_pos q] at hh;exact n0 hh
  rw [if_neg q] at hh Q;exact q (by unfold ofN;exact decide_eq_true ⟨hh,Q⟩)
 have hv:∀ o (j:Nat),o≠s->j<ns y.d o->vw { y with d:=d' } o (j:Int)=vw y o (j:Int):=λo j K I=>by
  unfold vw;show (if y.fr.findIdx (isF o j)<y.fr.length then (atF y _).data else seen d' o j)=_;rw [g4 o j (Ne.symm K) I]
 refine ⟨y,d',k1,X,g1,⟨g2,λi hi=>?_,X.ap,X.l1,X.l2⟩,λj I=>?_,⟨J.l,g6.trans J.z,Nat.le_trans g5 (Nat.le_of_eq J.u),λo K=>(g3 o).trans (by rw [if_neg (Ne.symm K)];exact J.n o),λo j K I=>(hv o j K (by rw [J.n];exact I)).trans (J.v o j I),λo _ U=>zku (p:=x) (q:={ y with d:=d' }) J.l (λj I=>by
  show atF y j=atF x j \/ ¬ (atF y j).holds;rw [V j I];split
  ·exact .inr n0
  ·exact .inl rfl) U⟩,(g3 s).trans (if_pos rfl),nb_le (p:=x) (q:=y) J.l λj I ag=>by
  rw [V j I];split
  ·exact .inl rfl
  ·exact ag,λj I e=>by
  have e:(atF y j).leased=true:=e;rw [V j I] at e;split at e
  ·cases e
  ·exact e,λo f hl K U=>by
  have key:∀ j,j<x.fr.length->(atF y j).holds->(atF y j).name=o->atF y j=atF x j:=λj I hh Q=>by
   rw [V j I] at hh Q ⊢;by_cases q:ofN s (atF x j)=true
   ·rw [if_pos q] at hh;exact absurd hh n0
   rw [if_neg q]
  refine ⟨λi hi hh Q=>?_,λZ=>?_,λi hi=>zbJ λe=>?_⟩
  ·have hi:i<x.fr.length:=(by rw [<- J.l];exact hi);have e:atF { y with d:=d' } i=atF x i:=key i hi hh Q;rw [e] at hh Q ⊢;exact U.pins i hi hh Q
  ·obtain ⟨b1,b2⟩:=U.at_ Z;have q : ¬ ofN s (atF x f)=true:=λq=>K (by unfold ofN at q;exact (zak.1 b2).2.2.symm.trans (of_decide_eq_true q).2);exact ⟨by show f<y.fr.length;rw [J.l];exact b1,by show isF o (hl:Int) (atF y f)=true;rw [V f b1,if_neg q];exact b2⟩
  have hi:i<x.fr.length:=by rw [<- J.l];exact hi
  obtain ⟨b1,b2,b3⟩:=zak.1 e;have:=key i hi b1 b3;rw [show atF { y with d:=d' } i=atF x i from this,U.z0 i hi] at e;cases e⟩
 ·rcases X.ok i hi with e | e | e
  ·exact .inl e
  ·exact .inr (.inl e)
  have Y:=ad i hi e.h;have Z:=e.s0;have h1:=e.s1;refine .inr (.inr ⟨e.h,e.l,e.p0,e.p1,e.z,Z,?_,λhd=>?_⟩)
  ·show (atF y i).sector<(ns d' (atF y i).name:Int);rw [g3,if_neg (Ne.symm Y)];exact h1
  have ac:=e.c hd;show (atF y i).data=seen d' (atF y i).name (atF y i).sector;obtain ⟨k,hk⟩ : ∃ k:Nat,(atF y i).sector=k:=⟨_,(Int.toNat_of_nonneg Z).symm⟩;rw [ac];rw [hk] at h1 ⊢;exact (g4 _ k (Ne.symm Y) vd).symm
 show (atF y j).dirty=false;have I:j<x.fr.length:=by rw [<- J.l];exact I
 rw [V j I];split
 ·rfl
 exact hc j I
theorem zub {S T:Mem} {a p b c:Nat} {x:Pl} {d':D} {v:tu} (h:ArS S a p b c x T) {f:tA} {args:Array tu}
  (hc:∀ oE oW,OkV S p x.d oE oW->ACall prog f args (devM S p x.d oE oW) λr S'=>∃ I J,OkV S p d' I J/\r=v/\S'=devM S p d' I J) :
  ACall prog f args T λr S'=>r=v/\ArS S a p b c { x with d:=d' } S'/\S'.own a=T.own a:=by
 obtain ⟨k,oE,oW,ok,rfl⟩:=h;refine (zhU ok k (hc oE oW ok.v)).mono λr S' ⟨M,⟨Q,U,K,X,V⟩,fb,fa,e⟩=>?_;subst V;exact ⟨X,⟨k,Q,U,⟨K,fb,fa,ok.ab,ok.l⟩,e⟩,by rw [e,za0,za0]⟩
def pickM (S:Mem) (D:List Nat):Mem:=⟨λk=>if k ∈ D then S.own k else none,S.ro⟩
theorem zaW {S:Mem} {D:List Nat} {k:Nat} (h:k ∈ D):(pickM S D).own k=S.own k:=if_pos h
theorem zcT {S T:Mem} {D:List Nat} (h:∀ k ∈ D,T.own k=S.own k) (I:T.ro=S.ro):(pickM S D).Less T:=⟨λk r hk=>(by
 by_cases q:k ∈ D
 ·rw [h k q,<- zaW q];exact hk
 rw [show (pickM S D).own k=none from if_neg q] at hk;cases hk),I.symm⟩
theorem zkA (n s:tt) (nb:Nat) (S:Mem) (hk:S.own nb=some ⟨9,[.string s],1⟩):ACall prog 109 #[.string n,.pointer (some ⟨nb,0,none⟩)] S λr S'=>r = .bool (decide (n=s))/\S'=S:=by
 refine k_E2 7 func109 ?_;refine r14_ ?_;refine ⟨_,S,⟨_,_,rfl,rfl,rfl⟩,zae,?_⟩;exact ⟨rfl,rfl⟩
theorem zrr (T:Mem) (g K:Nat) (ts:List tt) (s:tt) (nb i:Nat) (hi:i<ts.length) (Y:ts.length<=99) (hs:ts[i]=s) (Z:∀ j (h:j<ts.length),j<i->ts[j]≠s) (V:T.own g=some ⟨9,ts.map Value.string,K⟩) (hk:T.own nb=some ⟨9,[.string s],1⟩) :
  ACall prog 159 #[.slice (some ⟨g,0,none⟩) ts.length K,.func (.func 109) #[] #[.pointer (some ⟨nb,0,none⟩)]] T λr T'=>r = .int .i64 (i:Nat)/\T'=T:=by
 refine k_E2 19 func159 ?_;refine r14_ ?_;refine AWP.loop (X:=Nat) (λj=>[(0,.slice (some ⟨g,0,none⟩) ts.length K),(1,.func (.func 109) #[] #[.pointer (some ⟨nb,0,none⟩)]),(7,.int .i64 (ts.length:Nat)),(8,.int .i64 (j:Nat))]) (λ_=>T) (λj=>j<=i) (λj=>i-j) (0) ⟨rfl,rfl,rfl,rfl,trivial⟩ (Mem.Less.refl _) (Nat.zero_le _) ?_;rintro j U;(try dsimp only at *);replace U:j<=i:=U;have I:j<ts.length:=by omega
 refine r6_ ?_;refine cT_ ?_;by_cases q:j=i
 ·subst q;refine r16_ ?_;refine rC (Calm.load zaQ rfl (v:=.string ts[j]) (zbZ (g:=Value.string) j I V vd)) ?_;refine vn (zab rfl) znF rfl rfl (zkA ts[j] s nb _ hk) ?_;rintro _ Q ⟨rfl,J⟩;rw [J,decide_eq_true hs];clear J Q;refine r2_ ?_;refine cT_ ?_;refine r12_ ?_;refine ⟨_,T,⟨_,_,rfl,rfl,rfl⟩,zae,?_⟩;exact ⟨rfl,rfl⟩
 refine r10_ ?_;refine kw_ [0,1,7,8,9,5] ?_;refine r6_ ?_;refine rC (Calm.load zaQ rfl (v:=.string ts[j]) (zbZ (g:=Value.string) j I V vd)) ?_;refine vn (zab rfl) znF rfl rfl (zkA ts[j] s nb _ hk) ?_;rintro _ Q ⟨rfl,J⟩;rw [J,decide_eq_false (Z j I vd)];clear J Q;refine r2_ ?_;refine cF_ ?_;refine r8_ ?_;refine ⟨j+1,?_,?_,?_,?_⟩<;>try dsimp only
 ·exact ⟨rfl,rfl,rfl,rfl,trivial⟩
 ·exact Mem.Less.refl _
 ·(show j+1<=i;omega)
 omega
def dlL (ts:List tt) (i m:Nat):List tt:=(ts.eraseIdx i).take m ++ ts.drop m
theorem zsI (ts:List tt) {i m:Nat} (hi:i<ts.length) (hm:m<ts.length):(dlL ts i m).length=ts.length:=by
 unfold dlL;rw [List.length_append,List.length_take,List.length_eraseIdx_of_lt hi,List.length_drop];omega
theorem zrs (ts:List tt) {i m k:Nat} (hi:i<ts.length) (hm:m<ts.length):(dlL ts i m)[k]?=if k<m then (if k<i then ts[k]? else ts[k+1]?) else ts[k]?:=by
 unfold dlL;have hl:((ts.eraseIdx i).take m).length=m:=by rw [List.length_take,List.length_eraseIdx_of_lt hi];omega
 by_cases q:k<m
 ·rw [if_pos q,List.getElem?_append_left vd,List.getElem?_take_of_lt q,List.getElem?_eraseIdx]
 rw [if_neg q,List.getElem?_append_right vd,hl,List.getElem?_drop];congr 1;omega
theorem zrt (ts:List tt) {i:Nat} (hi:i<ts.length):dlL ts i i=ts:=List.ext_getElem? λk=>by
 rw [zrs ts hi hi];split
 ·rfl
 rfl
theorem zv1 (ts:List tt) {i m:Nat} (hi:i<=m) (hm:m+1<ts.length):(dlL ts i m).set m ts[m+1]=dlL ts i (m+1):=List.ext_getElem? λk=>by
 rw [zrs ts vd hm,List.getElem?_set,zsI ts vd vd,zrs ts vd vd];by_cases e:m=k
 ·subst e;rw [if_pos rfl,if_pos vd,if_pos (Nat.lt_succ_self _),if_neg vd,List.getElem?_eq_getElem hm]
 rw [if_neg e];by_cases q:k<m
 ·rw [if_pos q,if_pos (show k<m+1 by omega)]
 rw [if_neg q,if_neg (show ¬ k<m+1 by omega)]
theorem zv2 (ts:List tt) {i:Nat} (hi:i<ts.length):(dlL ts i (ts.length-1)).take (ts.length-1)=ts.eraseIdx i:=by
 have hl:=List.length_eraseIdx_of_lt hi;unfold dlL;rw [List.take_of_length_le (l:=ts.eraseIdx i) vd,List.take_left' hl]
theorem Mv.ACall.cut {P:tz} {f:tA} {args:Array tu} {S T:Mem} {v:tu} {b m:Nat} {e:tx} {cs:List tu} (h:ACall P f args S λr S'=>r=v /\ ∃ zs,S'=T.set b ⟨e,cs ++ zs,m⟩):ACall P f args S λr S'=>r=v/\S'=T.set b ⟨e,cs,m⟩:=λw K =>
 (h w K).mono λx w' ⟨r,S',Q,⟨J,zs,I⟩,st⟩=>by
  subst I;exact ⟨r,_,Q,⟨J,rfl⟩,⟨st.view.shr (zjM (List.prefix_append _ _) (Nat.le_refl _)),st.os,st.tape,st.output,st.size,st.block,λk hk=>st.dom k (znx k hk),st.ro⟩⟩
theorem zv3 (T:Mem) (g I:Nat) (ts:List tt) (s:tt) (nb i:Nat) (hi:i<ts.length) (V:ts.length<=99) (hs:ts[i]=s) (hn:∀ j (h:j<ts.length),j≠i->ts[j]≠s) (hg:T.own g=some ⟨9,ts.map Value.string,I⟩) (hk:T.own nb=some ⟨9,[.string s],1⟩) (Z:nb≠g) (hc:ts.length<=I) :
  ACall prog 108 #[.slice (some ⟨g,0,none⟩) ts.length I,.func (.func 109) #[] #[.pointer (some ⟨nb,0,none⟩)]] T λr T'=>r = .slice (some ⟨g,0,none⟩) (ts.length-1) I/\T'=T.set g ⟨9,(ts.eraseIdx i).map Value.string,I⟩:=by
 refine Mv.ACall.cut ?_;have U:=zrr T g I ts s nb i hi V hs (λj h ag=>hn j h vd) hg hk;refine k_E2 42 func108 ?_;refine r9_ ?_;refine cp_ rfl (U) ?_;refine r10_ ?_;refine cF_ ?_;refine r11_ ?_;refine AWP.loop (X:=Nat) (λm=>[(0,.slice (some ⟨g,0,none⟩) ts.length I),(1,.func (.func 109) #[] #[.pointer (some ⟨nb,0,none⟩)]),(5,.int .i64 (m:Nat)),(6,.int .i64 ((m:Int)+1))]) (λm=>T.set g ⟨9,(dlL ts i m).map Value.string,I⟩) (λm=>i<=m/\m<ts.length) (λm=>ts.length-m) (i) ⟨rfl,rfl,rfl,rfl,trivial⟩ (by rw [zrt ts hi,vB _ _ _ hg];exact Mem.Less.refl _) (⟨Nat.le_refl _,hi⟩) ?_;rintro m ⟨Q,J⟩;(try dsimp only at *);replace Q:i<=m:=Q;replace J:m<ts.length:=J;have ae:=zsI ts hi J;have K:=vf T g ⟨9,(dlL ts i m).map Value.string,I⟩;by_cases q:m+1<ts.length
 ·have hd:=zv1 ts Q q;have Y:(dlL ts i m)[m+1]'vd=ts[m+1]:=by have h:=zrs ts (k:=m+1) hi J;rw [if_neg vd,List.getElem?_eq_getElem vd,List.getElem?_eq_getElem q] at h;exact Option.some.inj h
  refine r9_ ?_;refine cT_ ?_;refine r9_ ?_;refine rC (Calm.load zaQ rfl (v:=.string ts[m+1]) (by rw [<- Y];exact zbZ (g:=Value.string) (m+1) vd K vd)) ?_;refine r3_ ?_;refine kw_ [0,1,5,6,19,7] ?_;refine r4_ ?_;refine vn (zab rfl) znF rfl rfl (zkA ts[m+1] s nb _ ((vg _ _ Z).trans hk)) ?_;rintro _ S1 ⟨rfl,h1⟩;rw [h1,decide_eq_false (hn (m+1) q vd)];clear h1 S1;refine r3_ ?_;refine cT_ ?_;refine r6_ ?_;refine vm rfl rfl zcp rfl K (by show 0+(m:Int).toNat*1<_;rw [List.length_map];omega) rfl ?_;refine nm_ ?_;refine r15_ ?_;refine ⟨m+1,?_,?_,?_,?_⟩<;>try dsimp only
  ·exact ⟨rfl,rfl,rfl,rfl,trivial⟩
  ·(rw [<- hd,List.map_set,show (m:Int).toNat*1=m from by omega];exact Mem.Less.refl _)
  ·exact ⟨by omega,q⟩
  omega
 obtain rfl:m=ts.length-1:=by omega
 refine r9_ ?_;refine cF_ ?_;refine r9_ ?_;refine rC (Calm.as (v':=.slice (some ⟨g,ts.length-1,none⟩) 1 (I-(ts.length-1))) (by rw [show 0+(ts.length-1)*1=ts.length-1 from by omega,show ts.length-(ts.length-1)=1 from by omega]) <| vE (ts.length-1) underlying90 zcp rfl rfl rfl vd vd) ?_;refine ui (k:=1) za3 rfl (by simp [Value.oneCell']) rfl K (by rw [List.length_map];omega) (.inl (by rw [List.length_map];omega)) ?_;intro zs ah;refine r2_ ?_;refine kw_ [0,1,5,6,19] ?_;refine r4_ ?_;refine rC (vK (ts.length-1) underlying90 zcp rfl rfl rfl vd) ?_;refine r4_ ?_;refine ⟨_,_,⟨_,_,rfl,rfl,rfl⟩,Mem.Less.refl _,?_⟩;exact ⟨rfl,zs,by rw [Mem.set_set];unfold spl;rw [<- List.map_take,zv2 ts hi,List.drop_eq_nil_of_le (by rw [List.length_map];omega),List.append_nil]⟩
theorem zuc (S:Mem) (a p b c wk:Nat) (u:W5) (o:Option (Nat × Nat)) (ts:List tt) (x:Pl) (s:tt) (i:Nat) (T:Mem) (h:ArS S a p b c x T) (aa:WkS S a wk u o ts) (hi:i<ts.length) (aR:ts.length<=99) (aM:ts[i]=s) (aQ:∀ j (h:j<ts.length),j≠i->ts[j]≠s) (hp:Ps x 0) (hu:Use x s 0 0) (hc:∀ j,j<x.fr.length->(atF x j).dirty=false) (hn:0<ns x.d s) (hs:s.size<=1024) :
  ACall prog 62 #[self wk,.string s] T λv T'=>v = .nilIface /\ ∃ S' y,ArS S' a p b c y T'/\Freed x y s/\WkS S' a wk u o (ts.eraseIdx i) /\ ∀ K:Mem,K.Less S->K.own wk=none->(∀ t c,o=some (t,c)->K.own t=none)->K.Less S':=by
 obtain ⟨⟨g,I⟩,rfl⟩ : ∃ r,o=some r:=by
  cases o with
  | none=>have h0:=List.map_eq_nil_iff.1 (aa.gro.nil rfl);subst h0;exact absurd hi (Nat.not_lt_zero _)
  | some r=>exact ⟨r,rfl⟩
 have X:S.own wk=some (wkB a u (.slice (some ⟨g,0,none⟩) ts.length I)):=aa.own;obtain ⟨hg,aq,aH⟩:=aa.gro.own g I rfl;have ai:=aa.awk g I rfl;rw [List.length_map] at aq;have aL:=List.length_eraseIdx_of_lt hi;obtain ⟨y,d',r1,r2,r3,r4⟩:=zua hp hu hc hn;have aA:=zd0 h (λk oE oW ok=>zls a p b c x s k S oE oW ok (zfh hp));rw [r1] at aA;have ow:=zam h X;obtain ⟨i0,oA⟩:=zdb h;unfold wkB at ow;unfold arB at oA;refine k_E2 32 func62 ?_;refine r2_ ?_;refine vo (zab rfl) rfl rfl ?_;intro V f3;have g3:=f3
 repeat ((with_reducible replace g3:=zaa g3);obtain ⟨g3,_⟩:=g3)
 refine nl_ ?_;refine r3_ ?_;obtain ⟨M0,p3,pw,ag⟩ : ∃ M0:Mem,M0.own V=some ⟨9,[.string s],1⟩/\M0.own wk=_ /\ ∀ U:Mem,U.own V=some ⟨9,[.string s],1⟩->U.own wk=T.own wk->U.ro=T.ro->M0.Less U:=⟨pickM (T.set V ⟨9,[.string s],1⟩) [V,wk],(zaW (by simp)).trans (vf _ _ _),(zaW (by simp)).trans ((vg _ _ (f3.ne ow)).trans ow),λU h1 h2 h4=>zcT (λk hk=>by
  simp only [List.mem_cons,List.not_mem_nil,or_false] at hk;rcases hk with rfl | rfl
  ·rw [h1,vf]
  rw [h2,vg _ _ (f3.ne ow)]) h4⟩
 have al:M0.Less (T.set V ⟨9,[.string s],1⟩):=ag _ (vf _ _ _) (vg _ _ (f3.ne ow)) rfl;refine s1_ ?_;refine AWP.drawS (M0) zae [i0_,i1_,i2_,i3_,i4_,o5_] [] mixed (by kernel_rfl) ?_;refine r5_ ?_;refine zac rfl ?_;refine ca_ rfl (aA.frame f3) ?_;rintro _ S1 ⟨Sa,⟨_,hA⟩,hf,J⟩;rw [J];clear J S1;have aO:M0.Less (Sa.set V ⟨9,[.string s],1⟩):=ag _ (vf _ _ _) (by rw [vg _ _ (hf.ne (zam hA X)),zam hA X,zam h X]) (((zcH hA).2.symm).trans (zcH h).2);have aj:=zam hA X;have av:=zam hA hg;have n1:=hf.ne aj;have n2:=hf.ne av;have aK:=(vg Sa ⟨9,[.string s],1⟩ n1).trans aj;have aU:=(vg Sa ⟨9,[.string s],1⟩ n2).trans av;have aN:=zv3 (Sa.set V ⟨9,[.string s],1⟩) g I ts s V i hi aR aM aQ aU (vf _ _ _) (Ne.symm n2) aq;unfold wkB at aK;refine zad ⟨ny_,?_⟩;refine r10_ ?_;refine ca_ rfl (aN) ?_;rintro _ S1 ⟨rfl,J⟩;rw [J,vr _ _ _ (Ne.symm n2)];clear J S1;have aG:=zdj hA hg ⟨9,(ts.eraseIdx i).map Value.string,I⟩;have aC:=(vg (Sa.set g ⟨9,(ts.eraseIdx i).map Value.string,I⟩) ⟨9,[.string s],1⟩ n1).trans ((vg Sa ⟨9,(ts.eraseIdx i).map Value.string,I⟩ (Ne.symm ai)).trans aj);unfold wkB at aC;refine r2_ ?_;refine vm rfl rfl ze5 rfl aC (show 6<10 from by decide) rfl ?_;refine nm_ ?_;refine r2_ ?_;have ac:=zdj aG ((vg S ⟨9,(ts.eraseIdx i).map Value.string,I⟩ (Ne.symm ai)).trans X) (wkB a u (.slice (some ⟨g,0,none⟩) (ts.length-1) I));have Q:=zai (r:=wkB a u (.slice (some ⟨g,0,none⟩) (ts.length-1) I)) (zai (r:=⟨9,(ts.eraseIdx i).map Value.string,I⟩) hf (Ne.symm n2)) (Ne.symm n1);refine AWP.less (((Sa.set g ⟨9,(ts.eraseIdx i).map Value.string,I⟩).set wk (wkB a u (.slice (some ⟨g,0,none⟩) (ts.length-1) I))).set V ⟨9,[.string s],1⟩) (by rw [vr _ _ _ n1];exact Mem.Less.refl _) ?_;have Z:=zam ac (vf _ wk (wkB a u (.slice (some ⟨g,0,none⟩) (ts.length-1) I)));obtain ⟨i5,Y⟩:=zdb ac;have aP:=(zub (v:=.int .i64 0) ac (λoE oW ok=>by have:=zqi p y.d s _ oE oW ok r2.d.r;rw [r3] at this;exact this)).frame (r:=⟨9,[.string s],1⟩) Q;have az:WkS ((S.set g ⟨9,(ts.eraseIdx i).map Value.string,I⟩).set wk (wkB a u (.slice (some ⟨g,0,none⟩) (ts.length-1) I))) a wk u (some (g,I)) (ts.eraseIdx i):=⟨by rw [aL];exact vf _ _ _,⟨λe=>(by cases e),λt c e=>by
  cases e;exact ⟨(vg _ _ ai).trans (vf _ _ _),by rw [List.length_map];omega,aH⟩⟩⟩
 generalize (Sa.set g ⟨9,(ts.eraseIdx i).map Value.string,I⟩).set wk (wkB a u (.slice (some ⟨g,0,none⟩) (ts.length-1) I))=Sb at *;have ax:=(vg Sb ⟨9,[.string s],1⟩ (Q.ne Z)).trans Z;have ao:=(vg Sb ⟨9,[.string s],1⟩ (Q.ne Y)).trans Y;unfold wkB at ax;unfold arB at ao;obtain ⟨M1,m3,mw,ma,al⟩ : ∃ M1:Mem,M1.own V=some ⟨9,[.string s],1⟩/\M1.own wk=_/\M1.own a=_ /\ ∀ T:Mem,T.own V=some ⟨9,[.string s],1⟩->T.own wk=Sb.own wk->T.own a=Sb.own a->T.ro=Sb.ro->M1.Less T:=⟨pickM (Sb.set V ⟨9,[.string s],1⟩) [V,wk,a],(zaW (by simp)).trans (vf _ _ _),(zaW (by simp)).trans ax,(zaW (by simp)).trans ao,λT h1 h2 h3 h4=>zcT (λk hk=>by
  simp only [List.mem_cons,List.not_mem_nil,or_false] at hk;rcases hk with rfl | rfl | rfl
  ·rw [h1,vf]
  ·rw [h2,vg _ _ (Q.ne Z)]
  rw [h3,vg _ _ (Q.ne Y)]) h4⟩
 have ag:M1.Less (Sb.set V ⟨9,[.string s],1⟩):=al _ (vf _ _ _) (vg _ _ (Q.ne Z)) (vg _ _ (Q.ne Y)) rfl;refine s1_ ?_;refine AWP.drawS (M1) zae [i0_,i1_,i2_,i3_,i4_,i5_,i6_,i7_,i8_,i9_,o10_,o11_,i12_] [] mixed (by kernel_rfl) ?_;refine s1_ ?_;refine dP (hc:=λ_=>vh rfl rfl (zbh (by show 5+s.size<=_;omega))) (h:=?_);refine r8_ ?_;refine zac rfl ?_;refine ca_ rfl (aP) ?_;rintro _ S1 ⟨Sc,⟨rfl,am,au⟩,ah,J⟩;rw [J];clear J S1;have ay:=zam am (vf _ wk (wkB a u (.slice (some ⟨g,0,none⟩) (ts.length-1) I)));have aO:M1.Less (Sc.set V ⟨9,[.string s],1⟩):=al _ (vf _ _ _) (by rw [vg _ _ (ah.ne ay),ay,Z]) (by rw [vg _ _ (ah.ne (au.trans Y)),au]) (((zcH am).2.symm).trans (zcH ac).2);refine zad ⟨ny_,?_⟩;refine zac rfl ?_;refine cp_ rfl (zaj _ _) ?_;refine zad ⟨ny_,?_⟩;refine r4_ ?_;refine ⟨_,Sc,⟨_,_,rfl,rfl,rfl⟩,vi _ _ _ ah.1,?_⟩;exact ⟨rfl,_,_,am,r4,az,λK k1 k2 k3=>zbs (zbs k1 (k3 _ _ rfl)) k2⟩
end Sto
end
section
open Go.RowKit
open Mv Disk Num
namespace Sto
open Run (nameS sizeN)
def names (s:tt) (n:Nat):List tt:=(List.range n).map (nameS s)
theorem zjl (s:tt) (n:Nat):(names s n).length=n:=by simp [names]
theorem zhp (s:tt) (n:Nat):names s (n+1)=names s n ++ [nameS s n]:=by simp [names,List.range_succ]
def nT:tt:=⟨#[126]⟩
theorem zsJ (m:Nat) (S:Mem) (I:24<=m) (J:m<=256):ACall prog 234 #[.int .i64 (m:Nat)] S λr S'=>r = .tuple #[.int .i64 ((m-6:Nat):Int),.int .i64 0]/\S'=S:=by
 refine k_E1 12 func234 ?_;refine r15_ ?_;refine cF_ ?_;refine r7_ ?_;refine cF_ ?_;refine r12_ ?_;refine ⟨_,S,⟨_,_,rfl,⟨_,_,rfl,rfl,rfl⟩,rfl⟩,zae,?_⟩;exact ⟨by rw [show ((m-6:Nat):Int)=(m:Int)-6 from by omega];rfl,rfl⟩
def pfx (p s:tt):Bool:=decide (p.size<=s.size) && decide (s.extract 0 p.size=p)
theorem zlF (n x p:tt) (kb:Nat) (S:Mem) (hk:S.own kb=some ⟨9,[.string p],1⟩) (U:p.size<=1024) (Q:n.size<=1024) :
  ACall prog 157 #[.agg #[.string n,.string x],.pointer (some ⟨kb,0,none⟩)] S λr S'=>r = .bool (pfx p n)/\S'=S:=by
 unfold pfx;by_cases q:p.size<=n.size
 ·rw [decide_eq_true q,Bool.true_and];refine k_E2 19 func157 ?_;refine r2_ ?_;refine vA (cs:=[_,_]) (zab rfl) rfl ?_;intro K J;have I:=J
  repeat ((with_reducible replace I:=zaa I);obtain ⟨I,_⟩:=I)
  have:=I.ne hk;have:=I.ne' hk
  refine nl_ ?_;refine r4_ ?_;refine dr_ [i0_,i1_,i2_,i3_,i4_,i5_,i6_,i7_,i8_,i9_,i10_,i11_,i12_,i13_,i14_,i15_] [] ?_;refine r5_ ?_;refine dP (hc:=λ_=>vh rfl rfl (zaf (zeX _ _) (decide_eq_true vd))) (h:=?_);refine r5_ ?_
  first|refine k_d ?_|refine dG (hc:=λ_=>vU underlying9 rfl (s:=n) (lo:=none) (hi:=some (.tmp 14)) (h:=p.size) (l:=0) ⟨_,_,rfl,by omega,by omega,by omega⟩ (zbb _ _)) (h:=?_)
  refine r7_ ?_;refine ⟨_,S,⟨_,_,rfl,rfl,rfl⟩,zae,?_⟩;exact ⟨rfl,rfl⟩
 rw [decide_eq_false q,Bool.false_and];refine k_E2 19 func157 ?_;refine r2_ ?_;refine vA (cs:=[_,_]) (zab rfl) rfl ?_;intro K J;have I:=J
 repeat ((with_reducible replace I:=zaa I);obtain ⟨I,_⟩:=I)
 have:=I.ne hk;have:=I.ne' hk
 refine nl_ ?_;refine r4_ ?_;refine dr_ [i0_,i1_,i2_,i3_,i4_,i5_,i6_,i7_,i8_,i9_,i10_,i11_,i12_,i13_,i14_,i15_] [] ?_;refine r5_ ?_;refine dP (hc:=λ_=>vh rfl rfl (zaf (zeX _ _) (decide_eq_false vd))) (h:=?_);refine r13_ ?_;refine ⟨_,S,⟨_,_,rfl,rfl,rfl⟩,zae,?_⟩;exact ⟨rfl,rfl⟩
theorem zru (v:tu) (l:List Ext) (p:tt) (kb k:Nat) (S:Mem) (hl:Sl 2 extF S v l) (hk:S.own kb=some ⟨9,[.string p],1⟩) (Z:p.size<=1024) (hz:∀ x ∈ l,x.1.size<=1024) (ac:k<=l.length) (K:∀ j (h:j<l.length),j<k->pfx p l[j].1=false) (V:∀ h:k<l.length,pfx p l[k].1=true) :
  ACall prog 112 #[v,.func (.func 157) #[] #[.pointer (some ⟨kb,0,none⟩)]] S λr S'=>r = .int .i64 (if k<l.length then (k:Int) else -1)/\S'=S:=by
 obtain ⟨a,cap,rfl,I,h2,h3⟩:=id hl;refine k_E2 19 func112 ?_;refine r14_ ?_;refine AWP.loop (X:=Nat) (λi=>[(0,.slice a l.length cap),(1,.func (.func 157) #[] #[.pointer (some ⟨kb,0,none⟩)]),(7,.int .i64 l.length),(8,.int .i64 i)]) (λi=>S) (λi=>i<=k) (λi=>l.length-i) (0) ⟨rfl,rfl,rfl,rfl,trivial⟩ (Mem.Less.refl _) (Nat.zero_le _) ?_;rintro i hi;(try dsimp only at *);replace hi:i<=k:=hi;by_cases hc:i<l.length
 ·have J:=hz _ (List.getElem_mem hc);refine r6_ ?_;refine cT_ ?_;obtain ⟨b,off,rfl,Q⟩:=h3.resolve_left (λe=>by subst e;simp at hc);have Y:=Q i hc;unfold extF at Y;by_cases q:i=k
  ·subst q;refine r17_ ?_;refine vn (zab rfl) zsk rfl rfl (zlF l[i].1 l[i].2 p kb _ hk Z J) ?_;rintro _ U ⟨rfl,I⟩;rw [I,V hc];clear I U;refine r2_ ?_;refine cT_ ?_;refine r12_ ?_;refine ⟨_,S,⟨_,_,rfl,rfl,rfl⟩,zae,?_⟩;exact ⟨by rw [if_pos hc];rfl,rfl⟩
  refine r10_ ?_;refine kw_ [0,1,7,8,9,5] ?_;refine r7_ ?_;refine vn (zab rfl) zsk rfl rfl (zlF l[i].1 l[i].2 p kb _ hk Z J) ?_;rintro _ U ⟨rfl,I⟩;rw [I,K i hc vd];clear I U;refine r2_ ?_;refine cF_ ?_;refine r8_ ?_;refine ⟨i+1,?_,?_,?_,?_⟩<;>try dsimp only
  ·exact ⟨rfl,rfl,rfl,rfl,trivial⟩
  ·exact Mem.Less.refl _
  ·(show i+1<=k;omega)
  omega
 refine r6_ ?_;refine cF_ ?_;refine r11_ ?_;refine ⟨_,S,⟨_,_,rfl,rfl,rfl⟩,zae,?_⟩;exact ⟨by rw [if_neg vd];rfl,rfl⟩
theorem zlG (v:tu) (l:List Ext) (p:tt) (kb:Nat) (S:Mem) (hl:Sl 2 extF S v l) (hk:S.own kb=some ⟨9,[.string p],1⟩) (U:p.size<=1024) (V:∀ x ∈ l,x.1.size<=1024) :
  ACall prog 158 #[v,.func (.func 157) #[] #[.pointer (some ⟨kb,0,none⟩)]] S λr S'=>r = .bool (l.any λx=>pfx p x.1)/\S'=S:=by
 obtain ⟨k,I⟩ : ∃ k,k=l.findIdx λx=>pfx p x.1:=⟨_,rfl⟩;have h:=zru v l p kb k S hl hk U V (by rw [I];exact List.findIdx_le_length) (λj X J=>by rw [I] at J;simpa using List.not_of_lt_findIdx J) (λK=>by subst I;exact List.findIdx_getElem (w:=K));have Q:(l.any λx=>pfx p x.1)=decide (k<l.length):=by
  rw [I,Bool.eq_iff_iff,List.any_eq_true,decide_eq_true_iff,List.findIdx_lt_length]
 rw [Q];obtain ⟨a,cap,rfl,_⟩:=id hl;by_cases q:k<l.length
 ·rw [if_pos q] at h;rw [decide_eq_true q];refine k_E2 9 func158 ?_;refine r9_ ?_;refine cp_ rfl (h) ?_;refine rC (vh rfl rfl (zaf (zeX _ _) (decide_eq_true vd))) ?_;refine r4_ ?_;refine ⟨_,S,⟨_,_,rfl,rfl,rfl⟩,zae,?_⟩;exact ⟨rfl,rfl⟩
 rw [if_neg q] at h;rw [decide_eq_false q];refine k_E2 9 func158 ?_;refine r9_ ?_;refine cp_ rfl (h) ?_;refine r5_ ?_;refine ⟨_,S,⟨_,_,rfl,rfl,rfl⟩,zae,?_⟩;exact ⟨rfl,rfl⟩
theorem zv4 {S T:Mem} {a p b c:Nat} {x:Pl} {n:Nat} (h:ArS S a p b c x T) (I:Ps x n):RdV T p x.d:=by
 obtain ⟨k,oE,oW,ok,rfl⟩:=h;exact ok.rd (zfh I) k
theorem zo3 {x:Pl} {n:Nat} (J:Ps x n) {L:List tt} (K:∀ o,0<Sto.ns x.d o <-> o ∈ L) (f:tt->Bool):(x.d.ext.any λe=>f e.1)=L.any f:=by
 rw [Bool.eq_iff_iff,List.any_eq_true,List.any_eq_true];constructor
 ·rintro ⟨e,I,h⟩;exact ⟨e.1,(K _).1 ((zcO J.d e.1).1 (zaO.2 ⟨e,I,rfl⟩)),h⟩
 rintro ⟨o,Q,h⟩;obtain ⟨e,I,rfl⟩:=zaO.1 ((zcO J.d o).2 ((K o).2 Q));exact ⟨e,I,h⟩
theorem zud (S T:Mem) (a p b c wk:Nat) (u:W5) (tm:tu) (x:Pl) (n k:Nat) (L:List tt) (h:ArS S a p b c x T) (ac:S.own wk=some (wkB a u tm)) (U:Ps x n) (hL:∀ o,0<Sto.ns x.d o <-> o ∈ L) (al:k<=99) (hk:∀ j,j<k->L.any (pfx (nameS nT j))=true) (V:L.any (pfx (nameS nT k))=false) :
  ACall prog 107 #[self wk] T λr T'=>r = .string (nameS nT k)/\T'=T:=by
 have ow:=zam h ac;obtain ⟨i1,Z⟩:=zdb h;have Y:=zv4 h U;obtain ⟨qe,de,qw,dw,oP,hE,hW⟩:=id Y;have J:∀ j,(nameS nT j).size=5:=λj=>by rw [zcS];rfl
 have Q:∀ e ∈ x.d.ext,e.1.size<=1024:=λe he=>by have:=(U.d.r.ex.ok e he).1.2;omega
 unfold wkB at ow;unfold arB at Z;refine k_E1 30 func107 ?_;refine r11_ ?_;refine AWP.loop (X:=Nat) (λi=>[(0,self wk),(3,.int .i64 (i:Nat))]) (λ_=>T) (λi=>i<=k) (λi=>k-i) (0) ⟨rfl,rfl,trivial⟩ (Mem.Less.refl _) (Nat.zero_le _) ?_;rintro i hi;(try dsimp only at *);replace hi:i<=k:=hi;refine r5_ ?_;refine cp_ rfl (Run.zfL nT i _ (by decide) (by decide) vd) ?_;refine r3_ ?_;refine ARun.alloc (zab rfl) za7 ?_;intro b4 f4;have I:=f4
 repeat ((with_reducible replace I:=zaa I);obtain ⟨I,_⟩:=I)
 have:=I.ne ow;have:=I.ne' ow
 have:=I.ne Z;have:=I.ne' Z
 have:=I.ne oP;have:=I.ne' oP
 refine nl_ ?_;refine r4_ ?_;by_cases q:i=k
 ·subst q;refine r20_ ?_;refine ca_ rfl (zlG (.slice qe x.d.ext.length de) x.d.ext (nameS nT i) b4 _ (hE.less zae) (vf _ _ _) (by rw [J];decide) Q) ?_;rintro _ S1 ⟨rfl,K⟩;rw [K,zo3 U hL,V];clear K S1;refine r3_ ?_;refine cT_ ?_;refine r11_ ?_;refine ⟨_,T,⟨_,_,rfl,rfl,rfl⟩,zae,?_⟩;exact ⟨rfl,rfl⟩
 refine r6_ ?_;refine kw_ [0,3,4,6] ?_;refine r14_ ?_;refine ca_ rfl (zlG (.slice qe x.d.ext.length de) x.d.ext (nameS nT i) b4 _ (hE.less zae) (vf _ _ _) (by rw [J];decide) Q) ?_;rintro _ S1 ⟨rfl,K⟩;rw [K,zo3 U hL,hk i vd];clear K S1;refine r3_ ?_;refine cF_ ?_;refine r9_ ?_;refine ⟨i+1,?_,?_,?_,?_⟩<;>try dsimp only
 ·exact ⟨rfl,rfl,trivial⟩
 ·exact zae
 ·(show i+1<=k;omega)
 omega
end Sto
end
section
open Go.RowKit
open Mv Disk Num
namespace Top
open Rec Sto Run
theorem zv5 {d:D} {s:tt} {w c:Nat} {body:tt} (hd:Dw d 0) (hs:nm s) (h0:Sto.ns d s=0) (hr:(used d.ext:Int)+(needN w c:Nat)<=d.size) (hb:body.size=eachN w*c) (hn:needN w c<=16384) :
  ∃ z,putP d s w c body=(z,0)/\Dw z 0/\z.size=d.size/\used z.ext=used d.ext+needN w c /\ ∀ o,Sto.ns z o=if s=o then needN w c else Sto.ns d o:=by
 have U:=zbl w c;obtain ⟨e,e1,e2,e3,e4,e5,_,_⟩:=zsC hd hs h0 U hr;have Q:Sto.ns e s=needN w c:=by rw [e5,if_pos rfl]
 have hh:has e.ext s=true:=(zcO e2 s).2 vd;have K:sec (exOf e.ext s)=needN w c:=by
  have:=Q;unfold Sto.ns at this;rwa [if_pos hh] at this
 have hw:e.waits = []:=List.eq_nil_of_length_eq_zero (by have:=e2.w;omega);have J:(padS body).size=64*(needN w c-1):=by rw [zdv,hb];unfold needN;omega
 have X:=zhg e2.f hw hh K hn J (needN w c-1) vd;have I:=(zcN e2.r e2.u (by rw [e2.f];decide) s (padS body) (needN w c-1)).1;unfold putP;rw [e1,if_neg (by simp),X,if_neg (by simp)];rw [X] at I;simp only at I ⊢;have Z:Dw { e with waits:=secsW s (padS body) (needN w c-1) } (needN w c-1):=⟨I,e2.f,e2.u,by show (secsW s (padS body) (needN w c-1)).length<=_;unfold secsW;simp⟩;obtain ⟨s1,s2,s3,V,_⟩:=zgk Z;obtain ⟨f,f1,f2,f3,f4,f5,_⟩:=zgj s1 (by decide) (k:=0) (s:=s) (data:=headS w c) (by rw [V];show 0<Sto.ns e s;omega) (zi5 w c);obtain ⟨t1,Y,t3,t4,_⟩:=zgk f2;have f1:writeD (settleD { e with waits:=secsW s (padS body) (needN w c-1) } λ_=>true) s 0 (headS w c)=(f,0):=f1;refine ⟨_,?_,t1,Y.trans (f3.trans (s2.trans e3)),t3.trans ((congrArg used f4).trans (s3.trans e4)),λo=>(t4 o).trans ((f5 o).trans ((V o).trans (e5 o)))⟩;unfold sealD;rw [f1,if_pos rfl]
def ErrO (S:Mem):Prop:=∃ u v,S.Knows ⟨2,0,none⟩ [.iface u v]
theorem zfN {M:Mem} {a b:Nat} {A B C E:Blk} (hb:Fresh (M.set a A) b):(M.set a C).Less ((((M.set a A).set b B).set a C).set b E):=by
 obtain ⟨J,I⟩:=zaa hb;refine ⟨λk r hk=>?_,rfl⟩;by_cases e:k=b
 ·subst e;rw [vg _ _ I,J.1] at hk;cases hk
 rw [vg _ _ e];by_cases e2:k=a
 ·subst e2;rw [vf] at hk ⊢;exact hk
 rw [vg _ _ e2] at hk ⊢;rw [vg _ _ e,vg _ _ e2];exact hk
end Top
end
section
open Go.RowKit
open Mv Disk Num
namespace Sto
theorem zue {d:D} {n:Nat} (hd:Dw d n) {s:tt} (h:0<Sto.ns d s):s.size<=16:=by
 obtain ⟨x,I,rfl⟩:=zaO.1 ((zcO hd s).2 h);exact (hd.r.ex.ok x I).1.2
theorem WkS.del {S:Mem} {a wk:Nat} {u:W5} {o:Option (Nat × Nat)} {ts:List tt} (h:WkS S a wk u o ts) {t:Nat} (I:wk≠t) (J:Away o t):WkS (S.del t) a wk u o ts :=
 ⟨(vv _ I).trans h.own,⟨h.gro.nil,λq c e=>⟨(vv _ (J q c e)).trans (h.gro.own q c e).1,(h.gro.own q c e).2⟩⟩⟩
theorem zh2 {K S:Mem} {t:Nat} (h:K.Less S) (I:S.own t=none):K.own t=none:=by
 cases e:K.own t with
 | none=>rfl
 | some k=>rw [h.own e] at I;cases I
theorem zrv {x y:Pl} {D E:tt->Prop} (I:y.fr=x.fr) (hd:y.d=x.d):Far x y D E 0:=⟨by rw [I],by rw [hd],by rw [hd];exact Nat.le_refl _,λo _=>by rw [hd],λo k _ _=>zkz I hd _ _,λo _ J=>J.fr_ I⟩
theorem zlH (p:tt) (j:Nat):pfx p (Run.nameS p j)=true:=by
 unfold pfx;rw [Bool.and_eq_true];refine ⟨decide_eq_true (by rw [zcS];omega),decide_eq_true ?_⟩;unfold Run.nameS;apply zbQ;rw [Lib.extract_data,ByteArray.data_append,Array.toList_append];show ((p.data.toList ++ _).drop 0).take (p.data.size-0)=_;rw [List.drop_zero,Nat.sub_zero,List.take_left' (Array.length_toList ..)]
end Sto
end
section
open Go.RowKit
namespace Mv
def Holds (M:Mem):List (Nat × Blk)->Prop
  | []=>True
  | (b,r) :: L=>M.own b=some r/\Holds M L
theorem Holds.mem {M:Mem}:∀ {L:List (Nat × Blk)},Holds M L -> ∀ x ∈ L,M.own x.1=some x.2
 | [],_,_,hx=>absurd hx (List.not_mem_nil)
 | _ :: _,⟨h,t⟩,x,hx=>by
  rcases List.mem_cons.1 hx with rfl | hx
  ·exact h
  exact t.mem x hx
theorem Holds.of {M:Mem}:∀ {L:List (Nat × Blk)},(∀ x ∈ L,M.own x.1=some x.2)->Holds M L
 | [],_=>trivial
 | _ :: _,h=>⟨h _ (List.mem_cons_self ..),Holds.of λx I=>h x (List.mem_cons_of_mem _ I)⟩
end Mv
end
section
open Go.RowKit Go.Shelf
open Mv Disk Num
namespace Sto
structure Cx where
  a:Nat
  p:Nat
  b:Nat
  c:Nat
  k:Nat
  m:Nat
  u:W5
  ro:RO
  ll:List Int
  lc:Nat
inductive Sh where
  | rd (q:Nat) (s:tt) (w c i:Nat) (L:List UInt8) (z:Bool)
  | wt (q:Nat) (s:tt) (w c:Nat) (L:List UInt8) (k:Nat)
def Sh.q:Sh->Nat
  | rd q _ _ _ _ _ _=>q
  | wt q _ _ _ _ _=>q
def Sh.nm:Sh->tt
  | rd _ s _ _ _ _ _=>s
  | wt _ s _ _ _ _=>s
def Sh.isW:Sh->Bool
  | rd _ _ _ _ _ _ _=>false
  | wt _ _ _ _ _ _=>true
def Sh.blk (a:Nat) (y:Nat × Nat):Sh->Blk
  | rd _ s w c i _ _=>rdB a ⟨s,w,c,i,y.1,y.2⟩
  | wt _ s w c L _=>wtB a ⟨s,w,c,L.length,y.1,y.2⟩
def Sh.new:Sh->Prop
  | rd _ _ _ _ _ _ z=>z=true
  | wt _ _ _ _ L _=>L = []
def Sh.ok (x:Pl):Sh->Prop
  | rd _ s w c _ L _=>Has x s w c L
  | wt _ s w c L k=>Wrote x s L/\Sto.ns x.d s=k/\(w≠0->L.length=5*w*c)
structure Fl where
  n:tt
  w:Nat
  c:Nat
  L:List UInt8
def nms (F:List Fl) (H:List Sh):List tt:=F.map (·.n) ++ (H.filter Sh.isW).map Sh.nm
def b01 (h:Nat):Nat:=if 0<h then 1 else 0
theorem zv6 (h:Nat):b01 h<=1:=by unfold b01;split <;> omega
def Idle (H:List Sh):Prop:=∀ h ∈ H,h.isW=true/\h.new
theorem Idle.nil:Idle []:=λh hh=>(by cases hh)
theorem Idle.w {H:List Sh} (h:Idle H):∀ z ∈ H,z.isW=true:=λz I=>(h z I).1
theorem Idle.n {H:List Sh} (h:Idle H):∀ z ∈ H,z.new:=λz I=>(h z I).2
theorem Idle.cons {H:List Sh} (h:Idle H) {q w c k:Nat} {s:tt}:Idle (.wt q s w c [] k :: H):=List.forall_mem_cons.2 ⟨⟨rfl,rfl⟩,h⟩
def hld (fr:Nat->Nat × Nat) (H:List Sh):Nat:=(H.map λh=>b01 (fr h.q).2).sum
theorem zkB {fr:Nat->Nat × Nat} {H:List Sh} {q:Nat} {y:Nat × Nat} (h:∀ z ∈ H,z.q≠q):hld (upd fr q y) H=hld fr H:=by
 unfold hld;congr 1;exact List.map_congr_left λz I=>by rw [zeK _ _ (h z I)]
def tld (s:tt):Bool:=decide (s.data.toList.head?=some 126)
structure OpS (g:Cx) (B:List (Nat × Blk)) (F:List Fl) (H:List Sh) (fr:Nat->Nat × Nat) (S T:Mem) (x:Pl) (o:Option (Nat × Nat)) (ts:List ByteArray) (n:Nat):Prop where
  ar:ArS S g.a g.p g.b g.c x T
  ps:Ps x n
  cl:n=0 -> ∀ j,j<x.fr.length->(atF x j).dirty=false
  ln:x.fr.length=g.m
  gm:24<=g.m/\g.m<=256
  lm:g.lc+8<=g.m
  sz:x.d.size=1500
  n4:∀ s,Sto.ns x.d s<=40
  nb:Sto.nb x.fr<=hld fr H+g.lc
  le:∀ j,j<x.fr.length->(atF x j).leased=true->(j:Int) ∈ g.ll
  uo:∀ s,(∀ h ∈ H,s≠h.nm)->Use x s 0 0
  wo:WkS S g.a g.k g.u o ts
  tn:ts.Nodup
  ti:∀ s,s ∈ ts <-> tld s=true/\s ∈ nms F H
  ro:S.ro=g.ro
  hb:∀ y ∈ B,S.own y.1=some y.2/\y.1≠g.k/\Away o y.1 /\ ∀ h ∈ H,y.1≠h.q
  bn:(B.map (·.1)).Nodup
  hh:∀ h ∈ H,S.own h.q=some (h.blk g.a (fr h.q))/\Use x h.nm (fr h.q).1 (fr h.q).2/\h.ok x/\(h.new->(fr h.q).2=0)/\h.nm ∈ nms F H
  qn:(H.map Sh.q).Nodup
  nn:(H.map Sh.nm).Nodup
  fs:∀ f ∈ F,Has x f.n f.w f.c f.L
  nf:(nms F H).Nodup
  di:∀ s,0<Sto.ns x.d s <-> s ∈ nms F H
theorem zrw {F F':List Fl} {H H':List Sh} (f:F.Perm F') (h:H.Perm H'):(nms F H).Perm (nms F' H'):=(f.map _).append ((h.filter _).map _)
theorem Sh.elem_wk (h:Sh) (a:Nat) (y:Nat × Nat):(h.blk a y).elem≠92:=by
 cases h with
 | rd=>exact (show ¬ 101=92 by decide)
 | wt=>exact (show ¬ 163=92 by decide)
theorem Sh.elem_str (h:Sh) (a:Nat) (y:Nat × Nat):(h.blk a y).elem≠9:=by
 cases h with
 | rd=>exact (show ¬ 101=9 by decide)
 | wt=>exact (show ¬ 163=9 by decide)
theorem Sh.ok.near {x y:Pl} {h:Sh} (J:h.ok x) {s:tt} (K:Near x y s) (I:h.nm≠s):h.ok y:=by
 cases h with
 | rd=>exact Has.near J K I
 | wt=>exact ⟨J.1.near K I,(K.n _).trans J.2.1,J.2.2⟩
section
variable {g:Cx} {B B':List (Nat × Blk)} {F F':List Fl} {H H' C:List Sh} {h h':Sh} {fr:Nat->Nat × Nat} {S T T':Mem} {x y:Pl} {o:Option (Nat × Nat)} {ts:List tt} {n n' r:Nat} {k:Blk}
theorem OpS.perm (I:OpS g B F H fr S T x o ts n) (Y:B.Perm B') (X:F.Perm F') (J:H.Perm H'):OpS g B' F' H' fr S T x o ts n:=by
 have pn:=zrw X J;exact { I with
  nb:=by have:=I.nb;unfold hld at *;rwa [(J.map _).sum_nat] at this
  uo:=λs hs=>I.uo s λh hh=>hs h (J.mem_iff.1 hh)
  ti:=λs=>(I.ti s).trans (and_congr_right λ_=>pn.mem_iff)
  hb:=λy hy=>by obtain ⟨Q,V,K,U⟩:=I.hb y (Y.mem_iff.2 hy);exact ⟨Q,V,K,λh hh=>U h (J.mem_iff.2 hh)⟩
  bn:=(Y.map _).nodup_iff.1 I.bn
  hh:=λh hh=>by obtain ⟨Q,V,K,U,Z⟩:=I.hh h (J.mem_iff.2 hh);exact ⟨Q,V,K,U,pn.mem_iff.1 Z⟩
  qn:=(J.map _).nodup_iff.1 I.qn
  nn:=(J.map _).nodup_iff.1 I.nn
  fs:=λf hf=>I.fs f (X.mem_iff.2 hf)
  nf:=pn.nodup_iff.1 I.nf
  di:=λs=>(I.di s).trans pn.mem_iff }
theorem OpS.hk (I:OpS g B F H fr S T x o ts n) (hh:h ∈ H):h.q≠g.k/\Away o h.q:=by
 have J:=(I.hh h hh).1;exact ⟨zlE J I.wo.own (h.elem_wk _ _),I.wo.away J (h.elem_str _ _)⟩
theorem zdw {α β : Type} {f : α -> β} {h : α} {C:List α} (e:((h :: C).map f).Nodup):∀ z ∈ C,f z≠f h:=λz I q=>(List.nodup_cons.1 e).1 (q ▸ List.mem_map_of_mem I)
theorem OpS.wne (I:OpS g B F H fr S T x o ts n) {f:Fl} (K:f ∈ F) (hh:h ∈ H) (Q:h.isW=true):h.nm≠f.n:=λe=>by
 have J:=I.nf;unfold nms at J;rw [List.nodup_append] at J;exact J.2.2 f.n (List.mem_map_of_mem K) h.nm (List.mem_map_of_mem (List.mem_filter.2 ⟨hh,Q⟩)) e.symm
theorem zv7 (en:h'.nm=h.nm) (ew:h'.isW=h.isW):nms F (h' :: C)=nms F (h :: C):=by
 unfold nms;rw [List.filter_cons,List.filter_cons,ew];split
 ·rw [List.map_cons,List.map_cons,en]
 rfl
theorem OpS.move {z:Nat × Nat} (I:OpS g B F (h :: C) fr S T x o ts n) (U:h'.q=h.q) (en:h'.nm=h.nm) (ew:h'.isW=h.isW) (J:Near x y h.nm) (Z:h.isW=true\/Stays x y) (ho:Oth x y h.nm) (ar:ArS (S.set h.q (h'.blk g.a z)) g.a g.p g.b g.c y T') (ps:Ps y n') (h0:n'≠0) (us:Use y h.nm z.1 z.2) (ok:h'.ok y) (ae:Sto.nb y.fr<=hld fr C+g.lc+b01 z.2) (hz:h'.new->z.2=0) :
  OpS g B F (h' :: C) (upd fr h.q z) (S.set h.q (h'.blk g.a z)) T' y o ts n':=by
 have hm:=zv7 (F:=F) (C:=C) en ew;have X:=zdw I.qn;have hn:=zdw I.nn;have hp:0<Sto.ns x.d h.nm:=(I.di _).2 (I.hh h (List.mem_cons_self ..)).2.2.2.2;obtain ⟨k1,k2⟩:=I.hk (List.mem_cons_self ..);exact {
  ar:=ar,ps:=ps,cl:=λe=>absurd e h0,ln:=J.l.trans I.ln,gm:=I.gm,lm:=I.lm,sz:=J.z.trans I.sz,tn:=I.tn,ro:=I.ro,bn:=I.bn
  n4:=λs=>by rw [J.n];exact I.n4 s
  nb:=by
   show _<=(List.map _ (h' :: C)).sum+_;rw [List.map_cons,List.sum_cons,U,zcz];have:=zkB (y:=z) (fr:=fr) X;unfold hld at this ae;omega
  le:=λj Y e=>by rw [J.l] at Y;exact I.le j Y (ho.le ps (zvM I.ps.d hp) J.l Y e)
  uo:=λs hs=>(I.uo s λz hz=>by
   rcases List.mem_cons.1 hz with rfl | hz
   ·rw [<- en];exact hs h' (List.mem_cons_self ..)
   exact hs z (List.mem_cons_of_mem _ hz)).oth ho (by rw [<- en];exact hs h' (List.mem_cons_self ..)) J.l
  wo:=I.wo.set _ k1 k2
  ti:=λs=>by rw [hm];exact I.ti s
  hb:=λy hy=>by
   obtain ⟨K,h2,h3,V⟩:=I.hb y hy;have Q:=V h (List.mem_cons_self ..);refine ⟨(vg _ _ Q).trans K,h2,h3,List.forall_mem_cons.2 ⟨by rw [U];exact Q,λz hz=>V z (List.mem_cons_of_mem _ hz)⟩⟩
  hh:=List.forall_mem_cons.2 ⟨by rw [U,en,zcz,hm];exact ⟨vf _ _ _,us,ok,hz,(I.hh h (List.mem_cons_self ..)).2.2.2.2⟩,λz hz=>by
   obtain ⟨K,h2,h3,V,Q⟩:=I.hh z (List.mem_cons_of_mem _ hz);rw [zeK _ _ (X z hz),hm];exact ⟨(vg _ _ (X z hz)).trans K,h2.oth ho (hn z hz) J.l,h3.near J (hn z hz),V,Q⟩⟩
  qn:=by rw [List.map_cons,U];exact I.qn
  nn:=by rw [List.map_cons,en];exact I.nn
  fs:=λf hf=>Z.elim (λhw=>(I.fs f hf).near J λe=>by
   have K:=I.nf;unfold nms at K;rw [List.filter_cons,if_pos hw,List.map_cons,List.nodup_append] at K;exact K.2.2 f.n (List.mem_map_of_mem hf) h.nm (List.mem_cons_self ..) e) λhs=>(I.fs f hf).stays hs
  nf:=by rw [hm];exact I.nf
  di:=λs=>by rw [J.n,hm];exact I.di s }
theorem OpS.new (I:OpS g B F H fr S T x o ts n) (V:Fresh T r) (k:Blk):OpS g ((r,k) :: B) F H fr (S.set r k) (T.set r k) x o ts n:=by
 obtain ⟨U,X⟩:=zi_ I.ar V k;have ne:∀ {t:Nat} {j:Blk},S.own t=some j->t≠r:=λh=>U.ne h;have e1:r≠g.k:=Ne.symm (ne I.wo.own);have e2:Away o r:=λt c e=>ne (I.wo.gro.own t c e).1;exact { I with
  ar:=X,wo:=I.wo.set k e1 e2
  hb:=List.forall_mem_cons.2 ⟨⟨vf _ _ _,e1,e2,λh hh=>Ne.symm (ne (I.hh h hh).1)⟩,λy K=>by
   obtain ⟨J,Q⟩:=I.hb y K;exact ⟨(vg _ _ (ne J)).trans J,Q⟩⟩
  bn:=List.nodup_cons.2 ⟨λhm=>by obtain ⟨y,K,e⟩:=List.mem_map.1 hm;exact ne (I.hb y K).1 e,I.bn⟩
  hh:=λh hh=>by
   obtain ⟨J,Q⟩:=I.hh h hh;exact ⟨(vg _ _ (ne J)).trans J,Q⟩ }
theorem OpS.put (I:OpS g ((r,k) :: B) F H fr S T x o ts n) (k':Blk):OpS g ((r,k') :: B) F H fr (S.set r k') (T.set r k') x o ts n:=by
 obtain ⟨Y,X,Q,U⟩:=I.hb (r,k) (List.mem_cons_self ..);have Z:=zdw I.bn;exact { I with
  ar:=zdj I.ar Y k',wo:=I.wo.set k' X Q,bn:=I.bn
  hb:=List.forall_mem_cons.2 ⟨⟨vf _ _ _,X,Q,U⟩,λy V=>by
   obtain ⟨K,J⟩:=I.hb y (List.mem_cons_of_mem _ V);exact ⟨(vg _ _ (Z y V)).trans K,J⟩⟩
  hh:=λh hh=>by
   obtain ⟨K,J⟩:=I.hh h hh;exact ⟨(vg _ _ (Ne.symm (U h hh))).trans K,J⟩ }
theorem OpS.del (I:OpS g ((r,k) :: B) F H fr S T x o ts n):∃ M,OpS g B F H fr (S.del r) M x o ts n/\M.own r=none/\T=M.set r k:=by
 obtain ⟨X,h2,U,Y⟩:=I.hb (r,k) (List.mem_cons_self ..);have V:=zdw I.bn;obtain ⟨M,K,J,Z⟩:=zsH I.ar X;exact ⟨M,{ I with
  ar:=K,wo:=I.wo.del (Ne.symm h2) U,bn:=(List.nodup_cons.1 I.bn).2
  hb:=λy Q=>by
   obtain ⟨K,J⟩:=I.hb y (List.mem_cons_of_mem _ Q);exact ⟨(vv _ (V y Q)).trans K,J⟩
  hh:=λh hh=>by
   obtain ⟨K,J⟩:=I.hh h hh;exact ⟨(vv _ (Ne.symm (Y h hh))).trans K,J⟩ },Z,J⟩
theorem OpS.sub (I:OpS g B F H fr S T x o ts n) (hs:B'.Sublist B):OpS g B' F H fr S T x o ts n :=
 { I with hb:=λy J=>I.hb y (hs.subset J),bn:=I.bn.sublist (hs.map _) }
theorem OpS.holds (I:OpS g B F H fr S T x o ts n):Holds T B:=.of λy J=>zam I.ar (I.hb y J).1
theorem OpS.mono (I:OpS g B F H fr S T x o ts n) (J:n<=n'):OpS g B F H fr S T x o ts n' :=
 { I with ps:=I.ps.mono J,cl:=λe=>I.cl vd }
end
/-! ### The same, but for what is of no concern -/
def Op (g:Cx) (B:List (Nat × Blk)) (F:List Fl) (H:List Sh) (n:Nat) (T:Mem):Prop:=∃ fr S x o ts,OpS g B F H fr S T x o ts n
section
variable {g:Cx} {B B':List (Nat × Blk)} {F F':List Fl} {H H' C:List Sh} {h:Sh} {T:Mem} {n n' r:Nat} {k:Blk}
theorem Op.perm (I:Op g B F H n T) (Q:B.Perm B') (J:F.Perm F') (K:H.Perm H'):Op g B' F' H' n T:=by
 obtain ⟨fr,S,x,o,ts,I⟩:=I;exact ⟨fr,S,x,o,ts,I.perm Q J K⟩
theorem Op.hm {A:List Sh} (I:Op g B F (A ++ h :: C) n T):Op g B F (h :: (A ++ C)) n T:=I.perm (.refl _) (.refl _) List.perm_middle
theorem tf {A:List Sh} (I:Op g B F (h :: (A ++ C)) n T):Op g B F (A ++ h :: C) n T:=I.perm (.refl _) (.refl _) List.perm_middle.symm
theorem Op.new (I:Op g B F H n T) (J:Fresh T r) (k:Blk):Op g ((r,k) :: B) F H n (T.set r k):=by
 obtain ⟨fr,S,x,o,ts,I⟩:=I;exact ⟨_,_,_,_,_,I.new J k⟩
theorem Op.put (A:List (Nat × Blk)) (I:Op g (A ++ (r,k) :: B) F H n T) (k':Blk):Op g (A ++ (r,k') :: B) F H n (T.set r k'):=by
 obtain ⟨fr,S,x,o,ts,I⟩:=I;exact ⟨_,_,_,_,_,((I.perm List.perm_middle (.refl _) (.refl _)).put k').perm List.perm_middle.symm (.refl _) (.refl _)⟩
theorem Op.sub (I:Op g B F H n T) (hs:B'.Sublist B):Op g B' F H n T:=by
 obtain ⟨fr,S,x,o,ts,I⟩:=I;exact ⟨_,_,_,_,_,I.sub hs⟩
theorem Op.tl {y:Nat × Blk} (I:Op g (y :: B) F H n T):Op g B F H n T:=I.sub (List.sublist_cons_self _ _)
theorem Op.o (I:Op g B F H n T):Holds T B:=by
 obtain ⟨fr,S,x,o,ts,I⟩:=I;exact I.holds
theorem Op.ro (I:Op g B F H n T):T.ro=g.ro:=by
 obtain ⟨fr,S,x,o,ts,I⟩:=I;exact (zcH I.ar).2.symm.trans I.ro
def offR (g:Cx) (r:Nat):Prop:=∀ a v,g.ro a=some v->a.block≠r
theorem Op.off (I:Op g B F H n T) (J:Fresh T r):offR g r:=λa v h=>J.2 a v (by rw [I.ro];exact h)
theorem Op.del (I:Op g ((r,k) :: B) F H n T) (h:offR g r):∃ M,Op g B F H n M/\Fresh M r/\T=M.set r k:=by
 obtain ⟨fr,S,x,o,ts,I⟩:=I;obtain ⟨M,J,K,Q⟩:=I.del;have J:Op g B F H n M:=⟨_,_,_,_,_,J⟩;exact ⟨M,J,⟨K,λa v e=>h a v (by rw [<- J.ro];exact e)⟩,Q⟩
theorem Op.mono (I:Op g B F H n T) (J:n<=n'):Op g B F H n' T:=by
 obtain ⟨fr,S,x,o,ts,I⟩:=I;exact ⟨_,_,_,_,_,I.mono J⟩
end
end Sto
end
section
open Go.RowKit Go.Shelf
open Mv Disk Num
namespace Sto
def rdR (q:Nat) (s:tt) (w:Nat) (rows:List (List Nat)) (i:Nat) (z:Bool):Sh:=.rd q s w rows.length (5*w*i) (rows.flatMap recB) z
def wtR (q:Nat) (s:tt) (w:Nat) (out:List (List Nat)) (k:Nat):Sh:=.wt q s w out.length (out.flatMap recB) k
def flR (s:tt) (w:Nat) (rows:List (List Nat)):Fl:=⟨s,w,rows.length,rows.flatMap recB⟩
theorem zrx {α β : Type} (f : α -> β) (l:List α) {k:Nat} (h:k<l.length):(l.take (k+1)).map f=(l.take k).map f ++ [f l[k]]:=by
 rw [List.take_succ_eq_append_getElem h,List.map_append];rfl
theorem zry {α β : Type} (f : α -> β) (l:List α) {k:Nat} (h:k<=l.length):((l.take k).map f).length=k:=by
 rw [List.length_map,List.length_take];omega
theorem zaX {q w k:Nat} {s:tt} (out:List (List Nat)) (I:List Nat):Sh.wt q s w (out.length+1) (out.flatMap recB ++ recB I) k=wtR q s w (out ++ [I]) k:=by
 unfold wtR;rw [List.length_append,List.flatMap_append];simp
section
variable {g:Cx} {B:List (Nat × Blk)} {F:List Fl} {C:List Sh} {fr:Nat->Nat × Nat} {S T T':Mem} {x y:Pl} {o:Option (Nat × Nat)} {ts:List tt} {n n' q w c i i' f h k:Nat} {s:tt} {L L':List UInt8} {rows out:List (List Nat)} {v:Bool}
theorem OpS.nb1 {z:Sh} (I:OpS g B F (z :: C) fr S T x o ts n):Sto.nb x.fr<=hld fr C+g.lc+b01 (fr z.q).2:=by
 have:=I.nb;unfold hld at *;rw [List.map_cons,List.sum_cons] at this;omega
theorem zv8 (fr:Nat->Nat × Nat) (H:List Sh):hld fr H<=H.length:=by
 unfold hld
 induction H with
 | nil=>simp
 | cons h t I=>have:=zv6 (fr h.q).2;simp only [List.map_cons,List.sum_cons,List.length_cons];omega
theorem OpS.room {z:Sh} (I:OpS g B F (z :: C) fr S T x o ts n) (hl:C.length<=7):hld fr C+g.lc<x.fr.length:=by
 have J:=zv8 fr C;have Q:=I.gm;have K:=I.lm;rw [I.ln];omega
theorem OpS.rds (I:OpS g B F (.rd q s w c i L v :: C) fr S T x o ts n):RdS S g.a g.p g.b g.c q ⟨s,w,c,i,(fr q).1,(fr q).2⟩ x n (hld fr C+g.lc) T:=by
 obtain ⟨J,K,_⟩:=I.hh _ (List.mem_cons_self ..);exact ⟨I.ar,J,I.ps,K,I.nb1⟩
theorem OpS.rdt {r:Rd} {v':Bool} (I:OpS g B F (.rd q s w c i L v :: C) fr S T x o ts n) (J:RdT S g.a g.p g.b g.c q r ⟨s,w,c,i',f,h⟩ x y n' (hld fr C+g.lc) T') (Q:r.nm=s) (V:n'≠0) (U:v'=true->h=0):Op g B F (.rd q s w c i' L v' :: C) n' T':=by
 have K:=J.ot;rw [Q] at K;exact ⟨_,_,_,_,_,I.move (h':=.rd q s w c i' L v') (z:=(f,h)) rfl rfl rfl (Near.of J.st _) (.inr J.st) K J.s.ar J.s.ps V J.s.us (Has.stays (I.hh _ (List.mem_cons_self ..)).2.2.1 J.st) J.s.nb U⟩
theorem OpS.wts (I:OpS g B F (.wt q s w c L k :: C) fr S T x o ts n):WtS S g.a g.p g.b g.c q ⟨s,w,c,L.length,(fr q).1,(fr q).2⟩ x n (hld fr C+g.lc) L T:=by
 obtain ⟨J,Q,K,_⟩:=I.hh _ (List.mem_cons_self ..);exact ⟨I.ar,J,I.ps,Q,I.nb1,rfl,K.1⟩
theorem OpS.wtt {r:Wt} {c':Nat} (I:OpS g B F (.wt q s w c L k :: C) fr S T x o ts n) (J:WtT S g.a g.p g.b g.c q r ⟨s,w,c',L'.length,f,h⟩ x y n' (hld fr C+g.lc) L' T') (V:r.nm=s) (Z:n'≠0) (Y:L' ≠ []) (X:w≠0->L'.length=5*w*c'):Op g B F (.wt q s w c' L' k :: C) n' T':=by
 have Q:=J.ot;have K:=J.st;rw [V] at Q K;obtain ⟨_,_,U,_⟩:=I.hh _ (List.mem_cons_self ..);exact ⟨_,_,_,_,_,I.move (h':=.wt q s w c' L' k) (z:=(f,h)) rfl rfl rfl K (.inl rfl) Q J.s.ar J.s.ps Z J.s.us ⟨J.s.wr,(K.n _).trans U.2.1,X⟩ J.s.nb (λe=>absurd e Y)⟩
end
section
variable {g:Cx} {B:List (Nat × Blk)} {F:List Fl} (A:List Sh) {C:List Sh} {T:Mem} {n q w c i k:Nat} {s:tt} {L:List UInt8} {rows:List (List Nat)} {z:Bool}
theorem Op.rq (I:Op g B F (A ++ .rd q s w c i L z :: C) n T):∃ f h,T.own q=some (rdB g.a ⟨s,w,c,i,f,h⟩):=by
 obtain ⟨fr,S,x,o,ts,I⟩:=I.hm;exact ⟨_,_,zam I.ar I.rds.ow⟩
theorem Op.wk (I:Op g B F C n T):∃ J,T.own g.k=some (wkB g.a g.u J):=by
 obtain ⟨fr,S,x,o,ts,I⟩:=I;exact ⟨_,zam I.ar I.wo.own⟩
theorem Op.ark (I:Op g B F C n T):∃ x i,T.own g.a=some (arB g.p g.b g.c x i)/\x.fr.length=g.m:=by
 obtain ⟨fr,S,x,o,ts,I⟩:=I;obtain ⟨i,h⟩:=zdb I.ar;exact ⟨x,i,h,I.ln⟩
theorem Op.gm (I:Op g B F C n T):24<=g.m/\g.m<=256:=by
 obtain ⟨fr,S,x,o,ts,I⟩:=I;exact I.gm
theorem zo4 (I:Op g B F (A ++ .rd q s w c i L z :: C) n T) (J:w<=8) (hc:c<=65536) (hi:i<=4294967296) :
  ACall prog 47 #[self q] T λv T'=>v = .bool (decide (i<Rec.eachN w*c))/\T'=T:=by
 obtain ⟨fr,S,x,o,ts,I⟩:=I.hm;exact zkp g.a q _ T (zam I.ar I.rds.ow) J hc hi
theorem zel (I:Op g B F (A ++ rdR q s w rows i z :: C) n T) (hr:RowsOK w rows) (K:1<=w) (Y:w<=8) (hc:rows.length<=65536) (hi:i<rows.length) (hn:n+5*w<=16384) (hl:(A ++ C).length<=7) :
  ACall prog 188 #[self q] T λv T'=>∃ b,v = .tuple #[.slice (some ⟨b,0,none⟩) w w,.bool true]/\Op g ((b,⟨31,rows[i].map nU,w⟩) :: B) F (A ++ rdR q s w rows (i+1) false :: C) (n+5*w) T':=by
 obtain ⟨fr,S,x,o,ts,I⟩:=I.hm;have Q:Has x s w rows.length (rows.flatMap recB):=(I.hh _ (List.mem_cons_self ..)).2.2.1;obtain ⟨Z,b2⟩:=zvR Q K hi;refine (ztR S g.a g.p g.b g.c q _ x n _ T I.rds K Y hc Z b2 hn (I.room hl)).mono λv T' ⟨y,f',h',M,b,V,X,J,U⟩=>⟨b,V,?_⟩;rw [show recW (run x s (5*w*i) (5*w)) w=rows[i] from ztX Q K rfl hr hi] at J;subst J;refine tf (Op.new ?_ X _);unfold rdR;rw [Nat.mul_add,Nat.mul_one];exact I.rdt U rfl vd (λe=>by cases e)
theorem zb2 (I:Op g B F (A ++ rdR q s w rows rows.length z :: C) n T) (Q:1<=w) (K:w<=8) (hc:rows.length<=65536) :
  ACall prog 188 #[self q] T λv T'=>v = .tuple #[.slice none 0 0,.bool false]/\T'=T:=by
 obtain ⟨fr,S,x,o,ts,I⟩:=I.hm;have J:5*w*rows.length<=40*65536:=Nat.mul_le_mul vd hc;exact zmX g.a q _ T (zam I.ar I.rds.ow) K hc (by show 5*w*rows.length<=_;omega) (by show Rec.eachN w*rows.length<=5*w*rows.length;rw [zgt Q];exact Nat.le_refl _)
theorem zuf (I:Op g B F (A ++ .rd q s 0 L.length i L z :: C) n T) (hi:i<L.length) (hc:L.length<=65536) (X:n+1<=16384) (hl:(A ++ C).length<=7) :
  ACall prog 86 #[self q,.int .i64 1] T λv T'=>∃ b c',v = .tuple #[.slice (some ⟨b,0,none⟩) 1 c',.bool true]/\Op g ((b,⟨5,cellsB [L[i]],c'⟩) :: B) F (A ++ .rd q s 0 L.length (i+1) L false :: C) (n+1) T':=by
 obtain ⟨fr,S,x,o,ts,I⟩:=I.hm;have K:Has x s 0 L.length L:=(I.hh _ (List.mem_cons_self ..)).2.2.1;have hk:1+i / 64<Sto.ns x.d s:=by rw [K.n];unfold Rec.needN Rec.eachN;rw [if_pos rfl];omega
 refine (zlv S g.a g.p g.b g.c q _ x n _ 1 T I.rds (by decide) (by decide) (by show i+1<=_;omega) hk X (I.room hl)).mono λv T' ⟨y,f,hd,M,b,c',U,_,V,J,Q⟩=>⟨b,c',U,?_⟩;have e:run x s i 1 = [L[i]]:=by
  show [byt x s (i+0)]=_;rw [Nat.add_zero,K.b i hk,List.getD_eq_getElem?_getD,List.getElem?_eq_getElem hi];rfl
 subst J;show Op g ((b,⟨_,cellsB [L[i]],c'⟩) :: B) F _ _ (M.set b ⟨_,cellsB (run x s i 1),c'⟩);rw [e];exact tf ((I.rdt Q rfl vd (λe=>by cases e)).new V _)
theorem zdx (I:Op g B F (A ++ .rd q s w c i L true :: C) n T):∃ f,Op g ((q,rdB g.a ⟨s,w,c,i,f,0⟩) :: B) F (A ++ C) n T:=by
 obtain ⟨fr,S,x,o,ts,I⟩:=I.hm;obtain ⟨J,K,h3,h4,h5⟩:=I.hh _ (List.mem_cons_self ..);obtain ⟨Z,k2⟩:=I.hk (List.mem_cons_self ..);have hq:=zdw I.qn;have hn:=zdw I.nn;have h0:(fr q).2=0:=h4 rfl;have J:S.own q=some (rdB g.a ⟨s,w,c,i,(fr q).1,(fr q).2⟩):=J;have K:Use x s (fr q).1 (fr q).2:=K;have U:Sto.nb x.fr<=hld fr (A ++ C)+g.lc+b01 (fr q).2:=I.nb1;rw [h0] at J K U;exact ⟨(fr q).1,fr,S,x,o,ts,{ I with
  nb:=U
  uo:=λt ht=>by
   by_cases e:t=s
   ·rw [e];exact K.z
   exact I.uo t (List.forall_mem_cons.2 ⟨e,ht⟩)
  hb:=List.forall_mem_cons.2 ⟨⟨J,Z,k2,λh hh=>Ne.symm (hq h hh)⟩,λy Q=>by
   obtain ⟨Y,V,g3,X⟩:=I.hb y Q;exact ⟨Y,V,g3,λh hh=>X h (List.mem_cons_of_mem _ hh)⟩⟩
  bn:=List.nodup_cons.2 ⟨λhm=>by obtain ⟨y,Q,e⟩:=List.mem_map.1 hm;exact (I.hb y Q).2.2.2 _ (List.mem_cons_self ..) e,I.bn⟩
  hh:=λh hh=>I.hh h (List.mem_cons_of_mem _ hh)
  qn:=(List.nodup_cons.1 I.qn).2
  nn:=(List.nodup_cons.1 I.nn).2 }⟩
theorem zh3 (I:Op g B F (A ++ .rd q s w c i L z :: C) n T) :
  ACall prog 50 #[self q] T λv T'=>v = .tuple #[]/\Op g B F (A ++ .rd q s w c i L true :: C) (n+1) T':=by
 obtain ⟨fr,S,x,o,ts,I⟩:=I.hm;exact (zlu S g.a g.p g.b g.c q _ x n _ T I.rds).mono λv T' ⟨K,y,J⟩=>⟨K,tf (I.rdt (J.mono (Nat.le_succ n)) rfl (Nat.succ_ne_zero n) λ_=>rfl)⟩
theorem zbd (I:Op g B F (A ++ .rd q s w c i L z :: C) n T) :
  ACall prog 50 #[self q] T λv T'=>v = .tuple #[] /\ ∃ f,Op g ((q,rdB g.a ⟨s,w,c,i,f,0⟩) :: B) F (A ++ C) (n+1) T' :=
 (zh3 A I).mono λv T' ⟨K,J⟩=>⟨K,zdx A J⟩
theorem zlI (I:Op g B F (A ++ .wt q s w c L k :: C) n T) (v:tu) (J:List Nat) (tot:Nat) (V:RowR T v J) (hr:J.length=w) (hz:∀ z ∈ J,z<Num.top) (Z:1<=w) (h8:w<=8) (hk:k=Rec.needN w tot) (ho:c<tot) (ht:tot<=65536) (hn:n+5*w<=16384) (hl:(A ++ C).length<=7) :
  ACall prog 49 #[self q,v] T λX T'=>X = .int .i64 0/\Op g B F (A ++ .wt q s w (c+1) (L ++ recB J) k :: C) (n+5*w) T':=by
 obtain ⟨fr,S,x,o,ts,I⟩:=I.hm;obtain ⟨h3,h4,U⟩:=(I.hh _ (List.mem_cons_self ..)).2.2.1;have U:=U vd;subst hr;have Q:5*J.length*(c+1)<=5*J.length*tot:=Nat.mul_le_mul_left _ ho;rw [Nat.mul_add,Nat.mul_one] at Q;have Y:5*J.length*tot<=40*65536:=Nat.mul_le_mul vd ht;refine (zvO S g.a g.p g.b g.c q _ x n _ _ v J T I.wts V Z h8 (λz h=>Nat.lt_of_lt_of_le (hz z h) (by decide)) (by show c<=_;omega) (by show L.length+_<=_;omega) (by show 1+(L.length+_-1) / 64<Sto.ns x.d s;rw [h4,hk];unfold Rec.needN;rw [zgt Z];omega) hn (I.room hl)).mono λX T' ⟨V,y,f',h',hT⟩=>⟨V,tf ?_⟩;have K:(L ++ recB J).length=L.length+5*J.length:=by rw [List.length_append,zly]
 exact I.wtt (by rw [K];exact hT) rfl vd (λe=>by rw [e] at K;simp at K;omega) (λ_=>by rw [K,U,Nat.mul_add,Nat.mul_one])
theorem zbT {b:Nat} {cs:List tu} (K:List Nat) (tot:Nat) (I:Op g B F (A ++ .wt q s w c L k :: C) n T) (hb:Fresh T b) (V:cs=K.map nU) (U:K.length=w) (hz:∀ z ∈ K,z<Num.top) (Z:1<=w) (Q:w<=8) (hk:k=Rec.needN w tot) (Y:c<tot) (ht:tot<=65536) (hn:n+5*w<=16384) (hl:(A ++ C).length<=7) :
  ACall prog 49 #[self q,.slice (some ⟨b,0,none⟩) w w] (T.set b ⟨31,cs,w⟩) λX T'=>X = .int .i64 0/\Op g B F (A ++ .wt q s w (c+1) (L ++ recB K) k :: C) (n+5*w) T' :=
 (zlI A (I.new hb _) _ K tot (zei U Q (by rw [V];exact vf _ _ _)) U hz Z Q hk Y ht hn hl).mono λ_ _ ⟨e,J⟩=>⟨e,J.tl⟩
theorem zv9 {b:Nat} {z:UInt8} (I:Op g B F (A ++ .wt q s 0 c L k :: C) n T) (hb:Fresh T b) (tot:Nat) (hk:k=Rec.needN 0 tot) (ho:L.length<tot) (ht:tot<=65536) (X:n+1<=16384) (hl:(A ++ C).length<=7) :
  ACall prog 87 #[self q,.slice (some ⟨b,0,none⟩) 1 1] (T.set b ⟨5,cellsB [z],1⟩) λJ T'=>J = .int .i64 0/\Op g B F (A ++ .wt q s 0 c (L ++ [z]) k :: C) (n+1) T':=by
 obtain ⟨fr,S,x,o,ts,I⟩:=I.hm;obtain ⟨Y,V,Z⟩:=(I.hh _ (List.mem_cons_self ..)).2.2.1;refine (zsF S g.a g.p g.b g.c q _ x n _ L [z] b 1 T I.wts hb (Nat.le_refl 1) (by show 1<=_;omega) (by show L.length+1<=_;omega) (by show 1+(L.length+1-1) / 64<Sto.ns x.d s;rw [V,hk];unfold Rec.needN Rec.eachN;rw [if_pos rfl];omega) X (I.room hl)).mono λJ T' ⟨U,y,f',h',M,K,e,Q⟩=>⟨U,tf ?_⟩;subst e;exact ((I.wtt (c':=c) (L':=L ++ [z]) (by rw [List.length_append];exact Q) rfl (by show n+1≠0;omega) (by simp) (λe=>absurd rfl e)).new K _).tl
theorem OpS.sealed {fr:Nat->Nat × Nat} {S T':Mem} {x y:Pl} {o:Option (Nat × Nat)} {ts:List tt} {c':Nat} {b:Blk} (I:OpS g B F (.wt q s w c L k :: C) fr S T x o ts n) (hk:k=Rec.needN w c') {L':List UInt8} (hL:L'.length=Rec.eachN w*c') (hA:ArS (S.set q b) g.a g.p g.b g.c y T') (K:Sealed x y s w c' (hld fr C+g.lc) L'):Op g B (⟨s,w,c',L'⟩ :: F) C 0 T':=by
 obtain ⟨g1,g2,⟨Y,U,h5⟩,g4,g5⟩:=I.hh _ (List.mem_cons_self ..);have hq:=zdw I.qn;have X:=zdw I.nn;have J:(nms F (.wt q s w c L k :: C)).Perm (nms (⟨s,w,c',L'⟩ :: F) C):=by
  unfold nms;rw [List.filter_cons,if_pos (show (Sh.wt q s w c L k).isW=true from rfl),List.map_cons,List.map_cons];exact List.perm_middle
 have Q:Near x y s:=K.st;have ae:∀ f ∈ F,f.n≠s:=λf Z e=>(List.nodup_cons.1 (J.nodup_iff.1 I.nf)).1 (List.mem_append_left _ (List.mem_map.2 ⟨f,Z,e⟩));obtain ⟨k1,k2⟩:=I.hk (List.mem_cons_self ..);exact ⟨fr,_,y,o,ts,{
  ar:=hA,ps:=K.ps,cl:=λ_=>K.cl,ln:=Q.l.trans I.ln,gm:=I.gm,lm:=I.lm,sz:=Q.z.trans I.sz,tn:=I.tn,ro:=I.ro,bn:=I.bn
  n4:=λs=>by rw [Q.n];exact I.n4 s
  nb:=K.nb
  le:=λj hj e=>by rw [Q.l] at hj;exact I.le j hj (K.le j hj e)
  uo:=λt ht=>by
   by_cases e:t=s
   ·rw [e];exact K.uo
   exact K.us t 0 0 e (I.uo t (List.forall_mem_cons.2 ⟨e,ht⟩))
  wo:=I.wo.set _ k1 k2
  ti:=λs=>(I.ti s).trans (and_congr_right λ_=>J.mem_iff)
  hb:=λy hy=>by
   obtain ⟨h1,h2,Y,U⟩:=I.hb y hy;exact ⟨(vg _ _ (U _ (List.mem_cons_self ..))).trans h1,h2,Y,λz V=>U z (List.mem_cons_of_mem _ V)⟩
  hh:=λz V=>by
   obtain ⟨h1,h2,Y,U,h5⟩:=I.hh z (List.mem_cons_of_mem _ V);exact ⟨(vg _ _ (hq z V)).trans h1,K.us _ _ _ (X z V) h2,Y.near Q (X z V),U,J.mem_iff.1 h5⟩
  qn:=(List.nodup_cons.1 I.qn).2
  nn:=(List.nodup_cons.1 I.nn).2
  fs:=List.forall_mem_cons.2 ⟨⟨(Q.n s).trans (U.trans hk),K.hd,K.wr,hL⟩,λf Z=>(I.fs f Z).near Q (ae f Z)⟩
  nf:=J.nodup_iff.1 I.nf
  di:=λs=>by rw [Q.n];exact (I.di s).trans J.mem_iff }⟩
theorem zbK {c':Nat} (I:Op g B F (A ++ .wt q s w c L k :: C) n T) (e:c'=if w=0 then L.length else c) (V:w<=8) (hk:k=Rec.needN w c') (hb:c'<=65536) (hn:n<=16128) :
  ACall prog 51 #[self q] T λv T'=>v = .int .i64 0/\Op g B (⟨s,w,c',L⟩ :: F) (A ++ C) 0 T':=by
 obtain ⟨fr,S,x,o,ts,I⟩:=I.hm;obtain ⟨g1,g2,⟨h3,X,Q⟩,_⟩:=I.hh _ (List.mem_cons_self ..);have Z:=I.gm;have Y:=I.ln;refine (zq7 S g.a g.p g.b g.c q _ x n _ _ T I.wts V c' e vd vd (by show 0<Sto.ns x.d s;rw [X,hk];exact Rec.zbl _ _)).mono λv T' ⟨K,y,U,J⟩=>⟨K,I.sealed hk ?_ U J⟩;by_cases w0:w=0
 ·rw [e,w0,if_pos rfl];unfold Rec.eachN;simp
 rw [e,if_neg w0,Q w0,zgt vd]
end
end Sto
end
section
open Go.RowKit Go.Shelf
open Mv Disk Num
namespace Sto
open Run (nameS)
theorem zo5 {α : Type} [DecidableEq α] : ∀ {l L:List α},l.Nodup->(∀ x ∈ l,x ∈ L)->l.length<=L.length
 | [],_,_,_=>Nat.zero_le _
 | x :: l,L,hn,hs=>by
  have I:=List.nodup_cons.1 hn;have Q:=zo5 (l:=l) (L:=L.erase x) I.2 λy J=>(List.mem_erase_of_ne (λe=>I.1 (by rw [<- e];exact J))).2 (hs y (List.mem_cons_of_mem _ J));have K:=hs x (List.mem_cons_self ..);rw [List.length_erase_of_mem K] at Q;have:=List.length_pos_of_mem K;simp only [List.length_cons];omega
theorem zug {d:D} {n:Nat} (hd:Dw d n) {L:List tt} (X:∀ s,ns d s<=40) (K:∀ s,0<ns d s->s ∈ L):used d.ext<=40*L.length:=by
 have I:=hd.r.ex.asc;have hs:∀ x ∈ d.ext,sec x=ns d x.1:=λx J=>by
  unfold ns;rw [if_pos (zaO.2 ⟨x,J,rfl⟩),zbB I J]
 have V:∀ l:List Ext,(∀ x ∈ l,x ∈ d.ext)->used l<=40*l.length:=λl=>by
  induction l with
  | nil=>intro _;exact Nat.zero_le _
  | cons x l Y =>
   intro h;have:=Y λy U=>h y (List.mem_cons_of_mem _ U);have:=X x.1;have:=hs x (h x (List.mem_cons_self ..));simp only [used,List.length_cons];omega
 have Z:(d.ext.map (·.1)).Nodup:=by
  rw [List.nodup_iff_pairwise_ne,List.pairwise_map];exact I.imp λ{a b} h e=>by rw [e,lt_irrefl] at h;cases h
 have Q:=zo5 Z (L:=L) λs hm=>by
  obtain ⟨x,J,rfl⟩:=List.mem_map.1 hm;exact K _ ((zcO hd x.1).1 (zaO.2 ⟨x,J,rfl⟩))
 rw [List.length_map] at Q;have:=V d.ext λ_ h=>h;omega
theorem zlJ {P:Nat->Bool}:∀ n,P n=false -> ∃ k,k<=n/\P k=false /\ ∀ j,j<k->P j=true
 | 0,h=>⟨0,Nat.le_refl _,h,λj I=>absurd I (Nat.not_lt_zero _)⟩
 | n+1,h=>by
  by_cases q:∃ j,j<=n/\P j=false
  ·obtain ⟨j,I,e⟩:=q;obtain ⟨k,U,Q,J⟩:=zlJ (P:=λi=>P (min i j)) n (by show P (min n j)=false;rw [Nat.min_eq_right I];exact e);by_cases K:k<=j
   ·exact ⟨k,by omega,by rw [show P k=P (min k j) from by rw [Nat.min_eq_left K]];exact Q,λi hi=>by have:=J i hi;rwa [show min i j=i from by omega] at this⟩
   have:=J j vd;rw [Nat.min_self] at this;rw [this] at e;cases e
  exact ⟨n+1,Nat.le_refl _,h,λj I=>by
   cases e:P j with
   | true=>rfl
   | false=>exact absurd ⟨j,by omega,e⟩ q⟩
theorem zuh {p s:tt} (h:pfx p s=true):s.extract 0 p.size=p:=by
 unfold pfx at h;rw [Bool.and_eq_true] at h;exact of_decide_eq_true h.2
theorem zwM (L:List tt) (hl:L.length<=9000):∃ k,k<=L.length/\L.any (pfx (nameS nT k))=false /\ ∀ j,j<k->L.any (pfx (nameS nT j))=true:=by
 by_cases q:∃ k,k<=L.length/\L.any (pfx (nameS nT k))=false
 ·obtain ⟨n,X,e⟩:=q;obtain ⟨k,V,Q,K⟩:=zlJ (P:=λk=>L.any (pfx (nameS nT k))) n e;exact ⟨k,by omega,Q,K⟩
 have h:∀ k,k<=L.length -> ∃ s ∈ L,s.extract 0 5=nameS nT k:=λk hk=>by
  cases e:L.any (pfx (nameS nT k)) with
  | false=>exact absurd ⟨k,hk,e⟩ q
  | true =>
   obtain ⟨s,hs,h⟩:=List.any_eq_true.1 e;have:=zuh h;rw [zcS] at this;exact ⟨s,hs,this⟩
 have:=zo5 (l:=(List.range (L.length+1)).map (nameS nT)) (L:=L.map λs=>s.extract 0 5) (by
  rw [List.nodup_iff_pairwise_ne,List.pairwise_map];refine (List.nodup_iff_pairwise_ne.1 List.nodup_range).imp_of_mem λ{a b} J hb I e=>I ?_;rw [List.mem_range] at J hb;exact zgw vd vd e) λt U=>by
  obtain ⟨k,hk,rfl⟩:=List.mem_map.1 U;obtain ⟨s,hs,e⟩:=h k (by rw [List.mem_range] at hk;omega);exact List.mem_map.2 ⟨s,hs,e⟩
 rw [List.length_map,List.length_map,List.length_range] at this;omega
theorem zeL (k:Nat):(nameS nT k).size=5:=by rw [zcS];rfl
theorem zh4 (k j:Nat):tld (nameS (nameS nT k) j)=true:=by
 unfold tld Run.nameS;simp only [ByteArray.data_append,Array.toList_append];rfl
theorem Sh.ok.far {x y:Pl} {h:Sh} (J:h.ok x) {D E:tt->Prop} {m:Nat} (K:Far x y D E m) (I : ¬ D h.nm):h.ok y:=by
 cases h with
 | rd=>exact Has.far J K I
 | wt=>exact ⟨J.1.far K I,(K.n _ I).trans J.2.1,J.2.2⟩
section
variable {g:Cx} {B:List (Nat × Blk)} {F:List Fl} {H:List Sh} {fr:Nat->Nat × Nat} {S S' T T':Mem} {x y:Pl} {o o':Option (Nat × Nat)} {ts ts':List tt} {n q w c m B0:Nat} {s:tt} {f:Fl}
theorem OpS.opened (I:OpS g B F H fr S T x o ts 0) (hq:Fresh S q) (hA:ArS (S.set q (rdB g.a ⟨f.n,f.w,f.c,0,0,0⟩)) g.a g.p g.b g.c y T') (hd:y.d=x.d) (J:y.fr=x.fr) (hm:f ∈ F) (hn:∀ h ∈ H,h.nm≠f.n):Op g B F (.rd q f.n f.w f.c 0 f.L true :: H) 0 T':=by
 have ne:∀ {t:Nat} {j:Blk},S.own t=some j->t≠q:=λh=>hq.ne h;have U:∀ z ∈ H,z.q≠q:=λz Q=>ne (I.hh z Q).1;have ef:∀ j,atF y j=atF x j:=λj=>by unfold atF;rw [J]
 exact ⟨upd fr q (0,0),_,y,o,ts,{
  ar:=hA,ps:=I.ps.same J hd,gm:=I.gm,lm:=I.lm,tn:=I.tn,ti:=I.ti,ro:=I.ro,bn:=I.bn,nf:=I.nf
  cl:=λe j V=>by rw [ef];rw [J] at V;exact I.cl e j V
  ln:=by rw [J];exact I.ln
  sz:=by rw [hd];exact I.sz
  n4:=λs=>by rw [hd];exact I.n4 s
  nb:=by
   rw [J];show _<=(List.map _ (_ :: H)).sum+_;rw [List.map_cons,List.sum_cons];have K:=I.nb;have:=zkB (y:=(0,0)) (fr:=fr) U;unfold hld at this K;omega
  le:=λj V e=>by rw [ef] at e;rw [J] at V;exact I.le j V e
  uo:=λs hs=>(I.uo s λh hh=>hs h (List.mem_cons_of_mem _ hh)).fr_ J
  wo:=I.wo.set _ (Ne.symm (ne I.wo.own)) λt c e=>ne (I.wo.gro.own t c e).1
  hb:=λy hy=>by
   obtain ⟨K,Y,X,Z⟩:=I.hb y hy;exact ⟨(vg _ _ (ne K)).trans K,Y,X,List.forall_mem_cons.2 ⟨ne K,Z⟩⟩
  hh:=List.forall_mem_cons.2 ⟨⟨by rw [show upd fr q (0,0) (Sh.rd q f.n f.w f.c 0 f.L true).q=(0,0) from zcz ..];exact vf _ _ _,by rw [show upd fr q (0,0) (Sh.rd q f.n f.w f.c 0 f.L true).q=(0,0) from zcz ..];exact (I.uo f.n λh hh=>Ne.symm (hn h hh)).fr_ J,(I.fs f hm).same J hd,λ_=>congrArg Prod.snd (zcz ..),List.mem_append_left _ (List.mem_map_of_mem hm)⟩,λz Q=>by
   obtain ⟨K,Y,X,Z,h5⟩:=I.hh z Q;rw [zeK _ _ (U z Q)];exact ⟨(vg _ _ (ne K)).trans K,Y.fr_ J,X.far (zrv (D:=No) (E:=No) J hd) id,Z,h5⟩⟩
  qn:=List.nodup_cons.2 ⟨λhm=>by obtain ⟨z,Q,e⟩:=List.mem_map.1 hm;exact U z Q e,I.qn⟩
  nn:=List.nodup_cons.2 ⟨λhm=>by obtain ⟨z,Q,e⟩:=List.mem_map.1 hm;exact hn z Q e,I.nn⟩
  fs:=λf aa=>(I.fs f aa).same J hd
  di:=λs=>by rw [hd];exact I.di s }⟩
theorem zcI (I:Op g B F H 0 T) (hm:f ∈ F) (V:1<=f.w) (U:f.w<=8) (hc:f.c<=65536) (Y:∀ h ∈ H,h.isW=true\/h.nm≠f.n) :
  ACall prog 102 #[self g.k,.string f.n] T λv T'=>∃ q,v = .tuple #[self q,.nilIface]/\Op g B F (.rd q f.n f.w f.c 0 f.L true :: H) 0 T':=by
 obtain ⟨fr,S,x,o,ts,I⟩:=I;have J:=I.fs f hm;exact (zt0 S g.a g.p g.b g.c g.k g.u _ x f.n 0 f.w f.c T I.ar I.wo.own I.ps ((Rec.zfc (Rec.zi4 (zgu I.ps (I.cl rfl) J)) f.n).symm.trans (Rec.zgi U hc (zgu I.ps (I.cl rfl) J))) V (Nat.le_trans (zue I.ps.d J.pos) (by decide))).mono λv T' ⟨q,y,K,Z,Q,hd,X⟩=>⟨q,K,I.opened Z Q hd X hm λh hh=>(Y h hh).elim (I.wne hm hh) id⟩
theorem zh5 (F:List Fl) (H:List Sh):(nms F H).length<=F.length+H.length:=by
 unfold nms;rw [List.length_append,List.length_map,List.length_map];exact Nat.add_le_add_left (List.length_filter_le _ _) _
theorem OpS.space (I:OpS g B F H fr S T x o ts n) (hl:F.length+H.length<=30) (hk:m<=40):(used x.d.ext:Int)+(m:Nat)<=x.d.size:=by
 have J:=zug I.ps.d I.n4 λs hs=>(I.di s).1 hs;have K:=zh5 F H;rw [I.sz];omega
theorem OpS.made (I:OpS g B F H fr S T x o ts n) (wt:WtS S' g.a g.p g.b g.c q ⟨s,w,0,0,0,0⟩ y n B0 [] T') (md:Made x y s m) (wo:WkS S' g.a g.k g.u o' ts') (kp:∀ t k,S.own t=some k->Away o t->t≠g.k->S'.own t=some k/\t≠q) (ro:S'.ro=S.ro) (na:∀ t c,o'=some (t,c)->S.own t=none \/ ∃ c',o=some (t,c')) (tn:ts'.Nodup) (ti:∀ t,t ∈ ts' <-> tld t=true/\(t=s\/t ∈ nms F H)) (hk:m<=40) (h0:0<m) (hs:s ∉ nms F H):Op g B F (.wt q s w 0 [] m :: H) n T' /\ ∀ h ∈ H,T'.own h.q=T.own h.q:=by
 have ef:∀ j,atF y j=atF x j:=λj=>by unfold atF;rw [md.fr]
 have V:∀ z ∈ H,S'.own z.q=some (z.blk g.a (fr z.q))/\z.q≠q:=λz J=>kp _ _ (I.hh z J).1 (I.hk J).2 (I.hk J).1;have K:(s :: nms F H).Perm (nms F (.wt q s w 0 [] m :: H)):=List.perm_middle.symm;have U:∀ z ∈ H,z.nm≠s:=λz J e=>hs (e ▸ (I.hh z J).2.2.2.2);have hf:=zrl md;exact ⟨⟨upd fr q (0,0),S',y,o',ts',{
  ar:=wt.ar,ps:=wt.ps,gm:=I.gm,lm:=I.lm,tn:=tn,wo:=wo,ro:=ro.trans I.ro,bn:=I.bn
  cl:=λe j Q=>by rw [ef];rw [md.fr] at Q;exact I.cl e j Q
  ln:=by rw [md.fr];exact I.ln
  sz:=md.z.trans I.sz
  n4:=λt=>by
   rw [md.n];split
   ·exact hk
   exact I.n4 t
  nb:=by
   rw [md.fr];show _<=(List.map _ (_ :: H)).sum+_;rw [List.map_cons,List.sum_cons];have X:=I.nb;have:=zkB (y:=(0,0)) (fr:=fr) λz J=>(V z J).2;unfold hld at this X;omega
  le:=λj Q e=>by rw [ef] at e;rw [md.fr] at Q;exact I.le j Q e
  uo:=λt ht=>(I.uo t λh hh=>ht h (List.mem_cons_of_mem _ hh)).fr_ md.fr
  ti:=λt=>by rw [ti t,<- K.mem_iff,List.mem_cons]
  hb:=λy hy=>by
   obtain ⟨X,h2,Z,h4⟩:=I.hb y hy;obtain ⟨h5,h6⟩:=kp _ _ X Z h2;refine ⟨h5,h2,λt c e q=>?_,List.forall_mem_cons.2 ⟨h6,h4⟩⟩;rcases na t c e with h | ⟨c',h⟩
   ·rw [q,X] at h;cases h
   exact Z t c' h q
  hh:=List.forall_mem_cons.2 ⟨⟨by rw [show upd fr q (0,0) (Sh.wt q s w 0 [] m).q=(0,0) from zcz ..];exact wt.ow,by rw [show upd fr q (0,0) (Sh.wt q s w 0 [] m).q=(0,0) from zcz ..];exact wt.us,⟨wt.wr,by show Sto.ns y.d s=m;rw [md.n,if_pos rfl],λ_=>rfl⟩,λ_=>congrArg Prod.snd (zcz ..),K.mem_iff.1 (List.mem_cons_self ..)⟩,λz J=>by
   obtain ⟨X,h2,Z,h4,h5⟩:=I.hh z J;rw [zeK _ _ (V z J).2];exact ⟨(V z J).1,h2.fr_ md.fr,Z.far hf (U z J),h4,K.mem_iff.1 (List.mem_cons_of_mem _ h5)⟩⟩
  qn:=List.nodup_cons.2 ⟨λhm=>by obtain ⟨z,J,e⟩:=List.mem_map.1 hm;exact (V z J).2 e,I.qn⟩
  nn:=List.nodup_cons.2 ⟨λhm=>by obtain ⟨z,J,e⟩:=List.mem_map.1 hm;exact U z J e,I.nn⟩
  fs:=λf Y=>(I.fs f Y).far hf λe=>hs (List.mem_append_left _ (List.mem_map.2 ⟨f,Y,e⟩))
  nf:=K.nodup_iff.1 (List.nodup_cons.2 ⟨hs,I.nf⟩)
  di:=λt=>by
   rw [md.n,<- K.mem_iff,List.mem_cons];by_cases e:s=t
   ·rw [if_pos e];exact ⟨λ_=>.inl e.symm,λ_=>h0⟩
   rw [if_neg e,I.di];exact ⟨.inr,λh=>h.resolve_left (Ne.symm e)⟩ }⟩,λh hh=>(zam wt.ar (V h hh).1).trans (zam I.ar (I.hh h hh).1).symm⟩
theorem zrz (I:Op g B F H n T) (hs:nm s) (Y:tld s=false) (K:s ∉ nms F H) (X:w<=8) (hc:c<=65536) (hk:Rec.needN w c<=40) (hl:F.length+H.length<=30) :
  ACall prog 19 #[self g.k,.string s,.int .i64 (w:Nat),.int .u64 (c:Nat)] T λv T'=>∃ q,v = .tuple #[self q,.nilIface]/\Op g B F (.wt q s w 0 [] (Rec.needN w c) :: H) n T' /\ ∀ h ∈ H,T'.own h.q=T.own h.q:=by
 obtain ⟨fr,S,x,o,ts,I⟩:=I;refine (zvV S g.a g.p g.b g.c g.k g.u _ x s w c n _ T I.ar I.wo.own I.ps hs (Nat.eq_zero_of_not_pos λe=>K ((I.di s).1 e)) X hc (I.space hl hk) (Nat.le_refl _)).mono λv T' ⟨q,y,U,J,V,Q⟩=>⟨q,U,?_⟩;refine I.made V Q (o':=o) (ts':=ts) (I.wo.set _ (Ne.symm (J.ne I.wo.own)) λt c e=>J.ne (I.wo.gro.own t c e).1) (λt k h _ _=>⟨(vg _ _ (J.ne h)).trans h,J.ne h⟩) rfl (λt c e=>.inr ⟨c,e⟩) I.tn (λt=>?_) hk (Rec.zbl _ _) K;rw [I.ti];exact and_congr_right λh=>⟨.inr,λe=>e.resolve_left λe=>by rw [e,Y] at h;cases h⟩
theorem zde (I:Op g B F H n T) (hs:nm s) (Z:tld s=true) (Q:s ∉ nms F H) (Y:w<=8) (hc:c<=65536) (hk:Rec.needN w c<=40) (hl:F.length+H.length<=30) :
  ACall prog 60 #[self g.k,.string s,.int .i64 (w:Nat),.int .u64 (c:Nat)] T λv T'=>∃ q,v = .tuple #[self q,.nilIface]/\Op g B F (.wt q s w 0 [] (Rec.needN w c) :: H) n T' /\ ∀ h ∈ H,T'.own h.q=T.own h.q:=by
 obtain ⟨fr,S,x,o,ts,I⟩:=I;have K:s ∉ ts:=λe=>Q ((I.ti s).1 e).2;have X:=zo5 I.tn λt h=>((I.ti t).1 h).2;have:=zh5 F H;refine (zt2 S g.a g.p g.b g.c g.k g.u o ts x s w c n _ T I.ar I.wo vd I.ps hs (Nat.eq_zero_of_not_pos λe=>Q ((I.di s).1 e)) Y hc (I.space hl hk) (Nat.le_refl _)).mono λv T' ⟨q,y,S',o',V,J⟩=>⟨q,V,?_⟩;refine I.made J.wt J.md J.wks J.kp J.ro J.na (List.nodup_append.2 ⟨I.tn,List.nodup_cons.2 ⟨List.not_mem_nil,List.nodup_nil⟩,λa U b hb e=>K (by rw [<- List.mem_singleton.1 hb,<- e];exact U)⟩) (λt=>?_) hk (Rec.zbl _ _) Q;rw [List.mem_append,List.mem_singleton,I.ti];exact ⟨λh=>h.elim (λh=>⟨h.1,.inr h.2⟩) λe=>⟨by rw [e];exact Z,.inl e⟩,λh=>h.2.elim .inr λe=>.inl ⟨h.1,e⟩⟩
theorem zo6 (I:Op g B F H n T) (hl:F.length+H.length<=30):∃ k,(nms F H).any (pfx (nameS nT k))=false/\ACall prog 107 #[self g.k] T λr T'=>r = .string (nameS nT k)/\T'=T:=by
 obtain ⟨fr,S,x,o,ts,I⟩:=I;have Q:=zh5 F H;obtain ⟨k,hk,J,K⟩:=zwM (nms F H) vd;exact ⟨k,J,zud S T g.a g.p g.b g.c g.k g.u _ x n k _ I.ar I.wo.own I.ps I.di vd K J⟩
theorem zb4 (I:Op g B F H n T) (hl:F.length+H.length<=30):∃ s,nm s/\tld s=true/\s ∉ nms F H/\ACall prog 58 #[self g.k] T λr T'=>r = .string s/\T'=T:=by
 obtain ⟨k,h,J⟩:=zo6 I hl;refine ⟨nameS (nameS nT k) 0,zlD (by rw [zeL];decide) 0,zh4 k 0,λhm=>?_,?_⟩
 ·have:=List.any_eq_false.1 h _ hm;rw [zlH] at this;exact this rfl
 skip
 refine k_E1 12 func58 ?_;refine r8_ ?_;refine cp_ rfl (J) ?_;refine cp_ rfl (Run.zfL (nameS nT k) 0 _ (by rw [zeL];decide) (by rw [zeL];decide) (by decide)) ?_;refine r14_ ?_;refine ⟨_,T,⟨_,_,rfl,rfl,rfl⟩,zae,?_⟩;exact ⟨rfl,rfl⟩
theorem zdf (I:Op g B F H 0 T) (hm:f ∈ F) (U:f.w=1) (hc:f.c<=65536) (V:∀ h ∈ H,h.isW=true\/h.nm≠f.n) :
  ACall prog 56 #[self g.k,.string f.n] T λv T'=>∃ q,v = .tuple #[self q,.nilIface]/\Op g B F (.rd q f.n 1 f.c 0 f.L true :: H) 0 T':=by
 have Q:=zcI I hm vd vd hc V;rw [U] at Q;refine k_E2 26 func56 ?_;refine r10_ ?_;refine ca_ rfl (Q) ?_;rintro _ X ⟨q,rfl,J⟩;obtain ⟨f0,Y,K⟩:=J.rq []
 (unfold rdB at K;dsimp only at K)
 refine r11_ ?_;refine rC (vh rfl rfl Er.eqNil) ?_;refine r9_ ?_;refine cF_ ?_;refine r11_ ?_;refine ⟨_,X,⟨_,_,rfl,⟨_,_,rfl,rfl,rfl⟩,rfl⟩,zae,?_⟩;exact ⟨q,rfl,J⟩
end
end Sto
end
section
open Go.RowKit Go.Shelf
attribute [local go_sem] Oper.semAt_some
def atV:Option tu->Nat
  | some (.int _ z)=>z.toNat
  | _=>0
set_option maxRecDepth 100000 in
theorem zv_ (l bq q n K:Nat) (h5:0<K) (J:Nat->tv->Prop) (Y:Nat->tu->tv->Prop) (Z:tv->Prop) (W:tv)
  (hc:∀ k W,J k W->W.cell? ⟨bq,0,none⟩=some (.pointer (some ⟨q,0,none⟩))/\W.cell? ⟨q,4,none⟩=some (.int .i64 ((K*k:Nat):Int)))
  (hN:∀ k W,k<n->J k W->Calls prog 188 #[.pointer (some ⟨q,0,none⟩)] W λe Q=>∃ g m c,e = .returned (.tuple #[.slice g m c,.bool true])/\Y k (.slice g m c) Q)
  (hE:∀ W,J n W->Calls prog 188 #[.pointer (some ⟨q,0,none⟩)] W λe Q=>e = .returned (.tuple #[.slice none 0 0,.bool false])/\Z Q)
  (hY:∀ k v W,k<n->Y k v W->YieldAt Fence.wide 4 prog l #[v] W λe Q=>e = .returned (.bool true)/\J (k+1) Q) (h0:J 0 W) :
  CallsIn Fence.wide 5 prog 187 #[.func (.yield l) #[] #[],.pointer (some ⟨bq,0,none⟩)] W λe Q=>(∃ v,e = .returned v)/\Z Q:=by
 refine callsIn_of_wp func187 rfl trivial ?_ rfl;simp only [ntmps187,List.size_toArray,List.length_cons,List.length_nil,Nat.reduceAdd,Nat.reduceSub,Array.replicate_succ,Array.replicate_zero,List.push_toArray,List.append_toArray,List.nil_append,List.cons_append]
 gi_wp2
 gi_loopw [] (λwr=>∃ k:Nat,k<=n/\J k wr) (λwr=>K*n-atV (wr.cell? ⟨q,4,none⟩))
 case atStart=>exact ⟨0,Nat.zero_le _,h0⟩
 case round =>
  obtain ⟨k,hk,X⟩:=hrel;obtain ⟨c1,c2⟩:=hc k wr X;by_cases I:k<n
  ·gi_wp2_with (refine ⟨trivial,?_⟩;gi_at_call 188;refine (callsIn_wide.2 (hN k wr I X)).mono ?_;rintro e w2 ⟨g,m,c,rfl,V⟩)
   obtain ⟨fn,tmps,assign,body,hy,hR⟩:=hY k _ w2 I V;simp only [hy,Oper.uponIn];refine ⟨λ_=>by decide,hR.mono ?_⟩;rintro e W3 ⟨rfl,U⟩
   gi_wp2
   go_roundw
   case rel=>exact ⟨k+1,I,U⟩
   case measure =>
    obtain ⟨_,d2⟩:=hc (k+1) W3 U;rw [c2,d2];have:=Nat.mul_le_mul_left K I;have e1:K*(k+1)=K*k+K:=(by rw [Nat.mul_add,Nat.mul_one]);simp only [atV,Int.toNat_natCast];rw [Nat.succ_eq_add_one] at this;omega
  obtain rfl:k=n:=by omega
  gi_wp2_with (refine ⟨trivial,?_⟩;gi_at_call 188;refine (callsIn_wide.2 (hE wr X)).mono ?_;rintro e w2 ⟨rfl,hZ⟩)
  case h_2 =>
   refine ⟨?_,?_⟩
   ·intro f e;cases e
   gi_wp2
   refine bodyPost_ret (results_none rfl _ _ _) rfl ?_;exact ⟨⟨_,rfl⟩,hZ⟩
namespace Mv
theorem zo7 {N:Nat} {g:tw} {p1:Tmp} {assign body:Code} {Q:Exit->Act->tv->Prop} {a:Act} {w w0:tv} {S0:Mem} (bq q n w5:Nat) (h5:0<w5) (I:Nat->Mem->Prop) (Y:Nat->tu->Mem->Prop) (Z:Mem->Prop) (E0:Env)
  (hG:Good N E0 a) (af:ev E0 g=some (.func (.func 187) #[] #[.pointer (some ⟨bq,0,none⟩)])) (ah:p1<N)
  (h0:∃ S,I 0 S/\Step S0 w0 S w)
  (hb:∀ k S,I k S->S.rd ⟨bq,0,none⟩=some (.pointer (some ⟨q,0,none⟩))/\S.rd ⟨q,4,none⟩=some (.int .i64 ((w5*k:Nat):Int)))
  (hN:∀ k S,k<n->I k S->ACall prog 188 #[.pointer (some ⟨q,0,none⟩)] S λr S'=>∃ g m c,r = .tuple #[.slice g m c,.bool true]/\Y k (.slice g m c) S')
  (hE:∀ S,I n S->ACall prog 188 #[.pointer (some ⟨q,0,none⟩)] S λr S'=>r = .tuple #[.slice none 0 0,.bool false]/\Z S')
  (V:∀ (l k:Nat) (v:tu) (S:Mem),k<n->Y k v S->GWP (some l) 4 [] prog N assign (Athen (GWP (some l) 4 [] prog N body (λe _ S'=>(e = .normal/\I (k+1) S')\/(e = .ret/\False))) (λ_ _ _=>False)) ((p1,v) :: E0) S)
  (aa:∀ (D:Nat) (S:Mem) (W:tv),Z S->Step S0 w0 S W->w0.heap.size<=D->W.heap[D]?=some (.deferred (some []))->Q .normal { a with defers:={ target:=.collected D,args:=#[] } :: [] } W) :
  (Code.rangeFunc g #[p1] assign body).wpIn Fence.wide 6 prog Q a w:=by
 obtain ⟨S1,hI,hs⟩:=h0;refine zj8 (ps:=[p1]) Z (λ_=>False) E0 hG af (by kernel_rfl) (by simp [ah]) hs (λl J Jx W view step X hj=>?_) aa (λ_ _ _ h=>h.elim);refine (zv_ l bq q n w5 h5 (λk W=>∃ S,I k S/\J S W) (λk v W=>∃ S,Y k v S/\J S W) (λW=>∃ S,Z S/\J S W) W (λk W ⟨S,U,K⟩=>⟨(view K).rd (hb k S U).1,(view K).rd (hb k S U).2⟩) (λk W hk ⟨S,U,K⟩=>(hN k S hk U W (view K)).mono λe W' ⟨r,S',he,⟨g',m,c,hr,hy⟩,st⟩=>⟨g',m,c,by rw [he,hr],S',hy,step K st⟩)
  (λW ⟨S,U,K⟩=>(hE S U W (view K)).mono λe W' ⟨r,S',he,⟨hr,hz⟩,st⟩=>⟨by rw [he,hr],S',hz,step K st⟩) (λk v W hk ⟨S,U,K⟩=>?_) ⟨S1,hI,hj⟩).mono λe W' ⟨U,K⟩=>⟨U,.inl K⟩
 obtain ⟨fn,t,a2,bo,hy,hr⟩:=X [v] (I (k+1)) (λ_=>False) K rfl (V l k v S hk U);exact ⟨fn,t,a2,bo,hy,hr.mono λe W' h=>h.resolve_right λ⟨_,_,h,_⟩=>h⟩
end Mv
end
section
open Go.RowKit Go.Shelf
open Mv Disk Num
namespace Sto
def rpB (q:Nat):Blk:=⟨97,[self q],1⟩
def allF (bq:Nat):tu:=.func (.func 187) #[] #[.pointer (some ⟨bq,0,none⟩)]
theorem zgx (T:Mem) (q:Nat):ACall prog 143 #[self q] T λr T'=>∃ bq,r=allF bq/\Fresh T bq/\T'=T.set bq (rpB q):=by
 unfold allF rpB;refine k_E1 4 func143 ?_;refine r2_ ?_;refine vo (zab rfl) rfl rfl ?_;intro I f1;refine nl_ ?_;refine r10_ ?_;refine ⟨_,_,⟨_,_,rfl,rfl,rfl⟩,Mem.Less.refl _,?_⟩;exact ⟨I,rfl,f1,rfl⟩
theorem Op.at_ {g:Cx} {B:List (Nat × Blk)} {F:List Fl} {A C:List Sh} {T:Mem} {n q w i:Nat} {s:tt} {rows:List (List Nat)} {z:Bool} (I:Op g B F (A ++ rdR q s w rows i z :: C) n T) {bq:Nat} (hb:(bq,rpB q) ∈ B):T.rd ⟨bq,0,none⟩=some (self q)/\T.rd ⟨q,4,none⟩=some (.int .i64 ((5*w*i:Nat):Int)):=by
 obtain ⟨f,h,e⟩:=Op.rq A I;exact ⟨zbP (I.o.mem _ hb) rfl,zbP e rfl⟩
theorem zdg {N:Nat} {gq:tw} {p1:Tmp} {assign body U:Code} {Q:Exit->Act->tv->Prop} {e:Act} {w1 w0:tv} {S0 M0:Mem} {fn:Func} {rs:List ResultVar} {R:tu->Mem->Prop} {g:Cx} {F:List Fl} {s:tt} {w:Nat} {rows:List (List Nat)} {q:Nat}
  (bq n0 z:Nat) (C:Nat->List Sh) (Inv:Nat->List (Nat × Blk)->Prop) (Y E1:Env) (hG:Mv.Good N Y e) (ac:ev Y gq=some (allF bq)) (ad:p1<N) (Z:1<=w) (h8:w<=8) (hc:rows.length<=100) (hr:RowsOK w rows) (hz:n0+z*100+40<=16384) (hl:∀ k,(C k).length<=7)
  (ah:∀ k B,Inv k B->(bq,rpB q) ∈ B) (h0:∃ z0 B,Inv 0 B/\Op g B F (rdR q s w rows 0 z0 :: C 0) n0 M0) (hs:Step S0 w0 M0 w1) (af:Sub E1 Y)
  (hQ:∀ a w,U.wpIn Fence.wide 6 prog (bodyPostM Fence.wide 6 prog fn (λe w'=>∃ v S',e = .returned v/\R v S'/\Step S0 w0 S' w')) a w->Q .normal a w)
  (ag:fn.results=rs.toArray)
  (K:∀ (l k V:Nat) (B:List (Nat × Blk)) (M:Mem) (hk:k<rows.length),Inv k B->Op g ((V,⟨31,rows[k].map nU,w⟩) :: B) F (rdR q s w rows (k+1) false :: C k) (n0+z*k+5*w) M ->
   GWP (some l) 4 [] prog N assign (Athen (GWP (some l) 4 [] prog N body (λe _ S'=>e = .normal /\ ∃ z0 B',Inv (k+1) B'/\Op g B' F (rdR q s w rows (k+1) z0 :: C (k+1)) (n0+z*(k+1)) S')) (λ_ _ _=>False)) ((p1,.slice (some ⟨V,0,none⟩) w w) :: Y) M)
  (X:∀ (D:Nat) (z0:Bool) (B:List (Nat × Blk)) (M:Mem),Inv rows.length B->Op g B F (rdR q s w rows rows.length z0 :: C rows.length) (n0+z*rows.length) M->GWP none 6 [{ target:=.collected D,args:=#[] }] prog N U (Aret prog rs R) E1 M) :
  (Code.rangeFunc gq #[p1] assign body).wpIn Fence.wide 6 prog Q e w1:=by
 have hb:∀ k,k<=rows.length->z*k<=z*100:=λk hk=>Nat.mul_le_mul_left _ (Nat.le_trans hk hc);refine zo7 bq q rows.length (5*w) vd (λk M=>k<=rows.length /\ ∃ z0 B,Inv k B/\Op g B F (rdR q s w rows k z0 :: C k) (n0+z*k) M) (λk v M=>∃ B V,∃ hk:k<rows.length,v = .slice (some ⟨V,0,none⟩) w w/\Inv k B/\Op g ((V,⟨31,rows[k].map nU,w⟩) :: B) F (rdR q s w rows (k+1) false :: C k) (n0+z*k+5*w) M) (λM=>∃ z0 B,Inv rows.length B/\Op g B F (rdR q s w rows rows.length z0 :: C rows.length) (n0+z*rows.length) M) Y hG ac ad ⟨M0,⟨Nat.zero_le _,h0⟩,hs⟩ (λk M ⟨_,z0,B,i,I⟩=>Op.at_ (A:=[]) I (ah k B i)) (λk M hk ⟨_,z0,B,i,I⟩=>?_) (λM ⟨_,z0,B,i,I⟩=>?_) (λl k v M hk ⟨B,V,aA,hv,i,I⟩=>?_) λD M W ⟨z0,B,i,I⟩ ae hD hK=>hQ _ _ (uJ ag ae hD hK (hG.sub af) (X D z0 B M i I))
 ·have:=hb k (Nat.le_of_lt hk);exact (zel [] I hr Z h8 vd hk vd (hl k)).mono λv M' ⟨b,e1,J⟩=>⟨_,_,_,e1,B,b,hk,rfl,i,J⟩
 ·exact (zb2 [] I Z h8 vd).mono λv M' ⟨e1,e2⟩=>⟨e1,z0,B,i,by rw [e2];exact I⟩
 subst hv;refine GWP.mono (K l k V B M hk i I) λe E S' hq=>?_;cases e with
 | normal=>exact GWP.mono hq λe E S' ⟨Z,h2⟩=>.inl ⟨Z,hk,h2⟩
 | _=>exact hq
end Sto
end
section
open Go.RowKit Go.Shelf
open Mv Disk Num
namespace Sto
section
variable {g:Cx} {B:List (Nat × Blk)} {F:List Fl} {H:List Sh} {T:Mem} {f:Fl}
theorem zhq {α : Type}:∀ (l:List α) {i:Nat} (h:i<l.length),(l[i] :: l.eraseIdx i).Perm l
 | _ :: _,0,_=>.refl _
 | x :: l,i+1,h=>(List.Perm.swap ..).trans ((zhq l (Nat.lt_of_succ_lt_succ h)).cons x)
theorem zbL (A:List Fl) (I:Op g B (A ++ f :: F) H 0 T) (Y:tld f.n=true) (hW:∀ h ∈ H,h.isW=true) (hl:(A ++ F).length+H.length<=60) :
  ACall prog 62 #[self g.k,.string f.n] T λv T'=>v = .nilIface/\Op g B (A ++ F) H 0 T':=by
 obtain ⟨fr,S,x,o,ts,I⟩:=I.perm (.refl _) List.perm_middle (.refl _);generalize U:A ++ F=F1 at *;have hn:∀ h ∈ H,h.nm≠f.n:=λh hh=>I.wne (List.mem_cons_self ..) hh (hW h hh);have ac:f.n ∈ nms (f :: F1) H:=List.mem_append_left _ (List.mem_cons_self ..);obtain ⟨i,hi,K⟩:=List.getElem_of_mem ((I.ti f.n).2 ⟨Y,ac⟩);have am:=zo5 I.tn λt h=>((I.ti t).1 h).2;have:=zh5 (f :: F1) H;have Z:=zhq ts hi;have ae:=Z.nodup_iff.2 I.tn;have Q:f.n ∉ nms F1 H/\(nms F1 H).Nodup:=List.nodup_cons.1 I.nf;have hu:Use x f.n 0 0:=I.uo _ λh hh=>Ne.symm (hn h hh);have hp:0<Sto.ns x.d f.n:=(I.di _).2 ac;refine (zuc S g.a g.p g.b g.c g.k g.u o ts x f.n i T I.ar I.wo hi (by simp only [List.length_cons] at this;omega) K (λj hj ah e=>ah ((List.getElem_inj (h₀:=hj) (h₁:=hi) I.tn).1 (e.trans K.symm))) I.ps hu (I.cl rfl) hp (Nat.le_trans (zue I.ps.d hp) (by decide))).mono λv T' ⟨hv,S',y,hA,U,hw,hk⟩=>⟨hv,fr,S',y,o,ts.eraseIdx i,?_⟩;have aj:S'.ro=S.ro:=((hk ⟨λ_=>none,S.ro⟩ ⟨λ_ _ h=>(by cases h),rfl⟩ rfl λ_ _ _=>rfl).2).symm;have kp:∀ t k,S.own t=some k->t≠g.k->Away o t->S'.own t=some k:=λt k h J V =>
  (hk ⟨λj=>if j=t then some k else none,S.ro⟩ ⟨λj r e=>by
   have e:(if j=t then some k else none)=some r:=e;by_cases q:j=t
   ·rw [if_pos q] at e;rw [q,<- e];exact h
   rw [if_neg q] at e;exact absurd e (by simp),rfl⟩ (if_neg (Ne.symm J)) λj c e=>if_neg λq=>V j c e q).1 t k (if_pos rfl)
 have fa:=U.fa;have X:∀ t,t ∈ nms (f :: F1) H <-> t=f.n\/t ∈ nms F1 H:=λt=>List.mem_cons;exact {
  ar:=hA,ps:=U.ps,cl:=λ_=>U.cl,gm:=I.gm,lm:=I.lm,ln:=fa.l.trans I.ln,sz:=fa.z.trans I.sz,wo:=hw,ro:=aj.trans I.ro,bn:=I.bn,qn:=I.qn,nn:=I.nn,nf:=Q.2
  n4:=λt=>by
   by_cases e:t=f.n
   ·rw [e,U.n0];exact Nat.zero_le _
   rw [fa.n t e];exact I.n4 t
  nb:=Nat.le_trans U.nb I.nb
  le:=λj hj e=>by rw [fa.l] at hj;exact I.le j hj (U.le j hj e)
  uo:=λt Y=>fa.u t (λe=>e.elim) (I.uo t Y)
  tn:=(List.nodup_cons.1 ae).2
  ti:=λt=>by
   have J:=I.ti t;rw [<- Z.mem_iff,List.mem_cons,K,X] at J;have V:f.n ∉ ts.eraseIdx i:=(by rw [<- K];exact (List.nodup_cons.1 ae).1);by_cases e:t=f.n
   ·rw [e];exact ⟨λh=>absurd h V,λh=>absurd h.2 Q.1⟩
   exact ⟨λh=>(J.1 (.inr h)).imp id λh=>h.resolve_left e,λh=>(J.2 ⟨h.1,.inr h.2⟩).resolve_left e⟩
  hb:=λy hy=>by
   obtain ⟨J,V,h3,h4⟩:=I.hb y hy;exact ⟨kp _ _ J V h3,V,h3,h4⟩
  hh:=λz hz=>by
   obtain ⟨J,V,h3,h4,h5⟩:=I.hh z hz;obtain ⟨k1,k2⟩:=I.hk hz;refine ⟨kp _ _ J k1 k2,?_,h3.far fa (hn z hz),h4,((X _).1 h5).resolve_left (hn z hz)⟩;exact U.us _ _ _ (hn z hz) V
  fs:=λt Y=>(I.fs t (List.mem_cons_of_mem _ Y)).far fa λe=>Q.1 (List.mem_append_left _ (List.mem_map.2 ⟨t,Y,e⟩))
  di:=λt=>by
   have J:=I.di t;rw [X] at J;by_cases e:t=f.n
   ·rw [e,U.n0];exact ⟨λh=>absurd h (Nat.lt_irrefl 0),λh=>absurd h Q.1⟩
   rw [fa.n t e,J];exact ⟨λh=>h.resolve_left e,.inr⟩ }
theorem Op.pick {F':List Fl} {H':List Sh} {n n':Nat} {T':Mem} (I:Op g B F H n T) (J:Op g B F' H' n' T') (D:List (Nat × Blk)) (Q:∀ y ∈ D,y ∈ B):(pickM T (D.map (·.1))).Less T' :=
 zcT (λk hk=>by
  obtain ⟨y,K,rfl⟩:=List.mem_map.1 hk;exact (J.o.mem _ (Q y K)).trans (I.o.mem _ (Q y K)).symm) (J.ro.trans I.ro.symm)
def OpnX (g:Cx) (B0:List (Nat × Blk)) (F:List Fl) (H0 H:List Sh) (f:tA) (caps:List tu) (s:tt) (w c:Nat):Prop :=
  goFn prog f=true /\ ∀ {B:List (Nat × Blk)} {n:Nat} {T:Mem},(∀ y ∈ B0,y ∈ B)->Op g B F H0 n T->ACall prog f (.int .i64 (w:Nat) :: .int .u64 (c:Nat) :: caps).toArray T λv T'=>∃ q,v = .tuple #[self q,.nilIface]/\Op g B F (.wt q s w 0 [] (Rec.needN w c) :: H) n T'
def Opn (g:Cx) (B0:List (Nat × Blk)) (f:tA) (caps:List tu) (s:tt):Prop :=
  ∀ {F:List Fl} {H:List Sh} {w c:Nat},s ∉ nms F H->w<=8->c<=65536->Rec.needN w c<=40->F.length+H.length<=30->OpnX g B0 F H H f caps s w c
end
end Sto
end
section
open Go.RowKit
open Mv Disk Num
namespace Sto
theorem maxI {P:tz} {N:Nat} {E:Env} {S:Mem} {dst:Option Nat} {ty:tx} {pos:String} {aft:Array Edge} {gd:Option (Nat × Bool)} {x y:tw} {i j:Int} {I:Array tx} (K:ev E x=some (.int .i64 i)) (J:ev E y=some (.int .i64 j)):ACalm P N ⟨dst,.call ⟨.builtin .max,#[x,y],I⟩,ty,pos,aft,gd⟩ E S (.int .i64 (max i j)):=by
 rcases Int.le_total i j with h | h
 ·rw [show max i j=j from Int.max_eq_right h];exact uQ K J h
 rw [show max i j=i from Int.max_eq_left h];exact uN K J h
theorem zwa (S:Mem) (a p b c wk:Nat) (u:W5) (tm:tu) (x:Pl) (n:Nat) (T:Mem) (h:ArS S a p b c x T) (Y:S.own wk=some (wkB a u tm)) (hp:Ps x n) :
  ACall prog 20 #[self wk,.nilIface] T λr T'=>∃ v c1 c2 Z,r = .tuple #[v,.agg #[.int .u64 c1,.int .u64 c2,.int .i64 Z],.int .i64 0]/\DkR T' v x.d/\T.Less T':=by
 have Q:=zam h Y;unfold wkB at Q;obtain ⟨i,oE,oW,ok,rfl⟩:=h;have X:=ok.rd (zfh hp) i;have U:=za0 (M:=devM S p x.d oE oW) (a:=a) (p:=p) (b:=b) (c:=c) (x:=x) (k:=i);generalize arM (devM S p x.d oE oW) a p b c x i=T at *;obtain ⟨qe,de,qw,dw,V,hE,hW⟩:=X;unfold arB at U;refine k_E2 90 func20 ?_;refine r2_ ?_;refine ARun.alloc (zab rfl) zas ?_;intro b4 f4;have J:=f4
 repeat ((with_reducible replace J:=zaa J);obtain ⟨J,_⟩:=J)
 have:=J.ne Q;have:=J.ne' Q
 have:=J.ne U;have:=J.ne' U
 have:=J.ne V;have:=J.ne' V
 refine nl_ ?_;refine ARun.alloc (zab rfl) zaR ?_;intro b5 f5;have I:=f5
 repeat ((with_reducible replace I:=zaa I);obtain ⟨I,_⟩:=I)
 have:=I.ne Q;have:=I.ne' Q
 have:=I.ne U;have:=I.ne' U
 have:=I.ne V;have:=I.ne' V
 refine nl_ ?_;refine r11_ ?_;refine rC (vh rfl rfl (zee underlying89)) ?_;refine r3_ ?_;refine cF_ ?_;refine r3_ ?_;refine rC (vh rfl rfl Er.neNil) ?_;refine r2_ ?_
 first|refine k_q 24 ?_|refine rG 24 (Calm.mkI (by kernel_rfl) rfl) ?_
 refine r6_ ?_;refine cF_ ?_;refine r4_ ?_;refine dr_ [i0_,i1_,i2_,i3_,i4_,i5_,i6_,i7_,i8_,i9_,i10_,i11_,i12_,i13_,i14_,i15_,i16_,i17_,i18_,i19_,i20_,i21_,i22_,i23_,i24_,i25_,i26_,i27_,i28_,i29_,i30_,i31_,i32_,i33_,i34_,i35_,i36_,i37_,i38_,i39_,o40_,o41_] [41] ?_;refine r38_ ?_;refine dC (hc:=maxI rfl rfl) (h:=?_);refine s1_ ?_;refine zac rfl ?_;refine ARun.alloc (zab rfl) zaR ?_;intro b7 f7;have K:=f7
 repeat ((with_reducible replace K:=zaa K);obtain ⟨K,_⟩:=K)
 have:=K.ne Q;have:=K.ne' Q
 have:=K.ne U;have:=K.ne' U
 have:=K.ne V;have:=K.ne' V
 refine nl_ ?_;refine zad ⟨ny_,?_⟩;refine zac rfl ?_;refine s1_ ?_;refine zad ⟨nz_,?_⟩;refine r3_ ?_;refine AWP.drawS (T.set b7 ⟨33,[.int .u64 (IntKind.u64.wrap (x.reads+0)),.int .u64 (IntKind.u64.wrap (x.writes+0)),.int .i64 (max i 0)],3⟩) zae [i0_,i1_,i2_,i3_,i4_,i5_,i6_,i7_,i8_,i9_,i10_,i11_,o12_,o13_,o14_,i15_] [] mixed (by kernel_rfl) ?_;refine r12_ ?_;refine zac rfl ?_;refine cp_ rfl (zoW _) ?_;refine zad ⟨ny_,?_⟩;refine zac rfl ?_;refine s1_ ?_;refine zad ⟨ny_,?_⟩;refine zac rfl ?_;refine s1_ ?_;refine zad ⟨ny_,?_⟩;refine r4_ ?_;refine ⟨_,_,⟨_,_,_,rfl,.inr ⟨zat,[_,_,_,_,_],zal,rds_,rfl⟩,⟨_,_,_,rfl,.inr ⟨zcq,[_,_,_],zaY,rds_,rfl⟩,⟨_,_,rfl,rfl,rfl⟩,rfl⟩,rfl⟩,Mem.Less.refl _,?_⟩;exact ⟨_,_,_,_,rfl,⟨qe,de,qw,dw,rfl,hE.less zae,hW.less zae⟩,zae⟩
end Sto
end
end Go.Proofs.YtbgjkpkakoggbaaGreatDoor
