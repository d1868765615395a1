/-
  Texts that belong together: Arn, Rdr1, Gro, Rdr2, Wtr1, Wtr2, Wtr3, Wtr4, Wtr5, Rdr3, Rdr4, Pool19, Sto6, Run1, Run2, Rdr5, Err, Flw1, LoserMath, Run3, Flw2, Flw3, Run4, Far, Run5, Run6, LoserMath2, Mg2, Mg3, Mg4, Mg5, Mg7, Srt1, Srt2, MgL0, NmS, Ls1, NmC.
-/
import Derived.Test.YtopiogkolaelnaaGreatDoorBSw4
import Derived.WideLaws
set_option maxHeartbeats 8000000
set_option maxRecDepth 100000
set_option linter.unusedVariables false
set_option linter.unusedSimpArgs false
set_option linter.unusedSectionVars false
namespace Go.Proofs.YtopiogkolaelnaaGreatDoor
open _root_.Go.Proofs.Tryz
section
open Go.RowKit
open Mv Disk
namespace Sto
theorem zbD {n:Nat} {S:Mem} {b:Nat} {o:Option (Nat × Nat)} {e:tx} {cs:List tu} {r:Blk} (A:∀ q c,o=some (q,c)->b≠q):(outN n S o e cs).set b r=outN n (S.set b r) o e cs:=by
 cases o with
 | none=>rfl
 | some C=>exact vC _ _ _ (Ne.symm (A _ _ rfl))
structure Beside (S:Mem) (a p b:Nat) (oE oW:Option (Nat × Nat)) (r:Nat):Prop where
  e:∀ q c,oE=some (q,c)->r≠q
  w:∀ q c,oW=some (q,c)->r≠q
  p:r≠p
  b:r≠b
  a:r≠a
theorem zj9 {S:Mem} {a p b c:Nat} {x:Pl} {oE oW:Option (Nat × Nat)} {k:Int} {r:Nat} (h:OkA S a p b c x oE oW) (A:Beside S a p b oE oW r) (k':Blk):OkA (S.set r k') a p b c x oE oW/\(arM (devM S p x.d oE oW) a p b c x k).set r k'=arM (devM (S.set r k') p x.d oE oW) a p b c x k:=by
 have e1:(outN 2 S oE extT (x.d.ext.flatMap extF)).set r k'=outN 2 (S.set r k') oE extT (x.d.ext.flatMap extF):=zbD A.e;have e2:(dkM S x.d oE oW).set r k'=dkM (S.set r k') x.d oE oW:=by
  unfold dkM;rw [zbD A.w,e1]
 have e3:(devM S p x.d oE oW).set r k'=devM (S.set r k') p x.d oE oW:=by
  unfold devM;rw [vC _ _ _ (Ne.symm A.p),e2]
 refine ⟨⟨⟨⟨h.v.dk.e.set A.e,?_⟩,?_⟩,?_,?_,h.ab,h.l⟩,?_⟩
 ·rw [<- e1];exact h.v.dk.w.set A.w
 ·rw [<- e2];exact zam h.v.fr (Ne.symm A.p)
 ·rw [<- e3];exact zam h.fb (Ne.symm A.b)
 ·rw [<- e3];exact zam h.fa (Ne.symm A.a)
 unfold arM;rw [vC _ _ _ (Ne.symm A.a),vC _ _ _ (Ne.symm A.b),e3]
theorem zec {S:Mem} {p:Nat} {d:D} {oE oW:Option (Nat × Nat)} {q:Nat} (h:Fresh (devM S p d oE oW) q):Fresh S q/\q≠p/\(∀ x c,oE=some (x,c)->q≠x) /\ ∀ x c,oW=some (x,c)->q≠x:=by
 unfold devM dkM at h;obtain ⟨J,C⟩:=zaa h;obtain ⟨A,I⟩:=zaN J;obtain ⟨Q,H⟩:=zaN A;exact ⟨Q,C,H,I⟩
theorem zeO {S:Mem} {a p b c:Nat} {x:Pl} {oE oW:Option (Nat × Nat)} {r:Nat} {k:Blk} (h:OkA S a p b c x oE oW) (A:S.own r=some k):Beside S a p b oE oW r where
 e:=λq c e=>(h.v.dk.e.own q c e).1.ne A
 w:=λq c e=>(zaN (h.v.dk.w.own q c e).1).1.ne A
 p:=by
  have:=h.v.fr;unfold dkM at this;exact (zaN (zaN this).1).1.ne A
 b:=(zec h.fb).1.ne A
 a:=(zec h.fa).1.ne A
theorem zmp {S:Mem} {a p b c:Nat} {x:Pl} {oE oW:Option (Nat × Nat)} {k:Int} {r:Nat} (h:Fresh (arM (devM S p x.d oE oW) a p b c x k) r):Fresh S r/\Beside S a p b oE oW r:=by
 unfold arM at h;obtain ⟨U,C⟩:=zaa h;obtain ⟨A,Q⟩:=zaa U;obtain ⟨H,I,J,V⟩:=zec A;exact ⟨H,⟨J,V,I,Q,C⟩⟩
theorem zcL {S T:Mem} {a p b c:Nat} {x:Pl} {r:Nat} {k:Blk} (h:ArS S a p b c x T) (C:S.own r=some k) (k':Blk):ArS (S.set r k') a p b c x (T.set r k'):=by
 obtain ⟨i,oE,oW,ok,rfl⟩:=h;obtain ⟨A,H⟩:=zj9 (k:=i) ok (zeO ok C) k';exact ⟨i,oE,oW,A,H⟩
theorem zaz {S T:Mem} {a p b c:Nat} {x:Pl} {r:Nat} (h:ArS S a p b c x T) (H:Fresh T r) (k':Blk):Fresh S r/\ArS (S.set r k') a p b c x (T.set r k'):=by
 obtain ⟨i,oE,oW,ok,rfl⟩:=h;obtain ⟨J,A⟩:=zmp H;obtain ⟨C,I⟩:=zj9 (k:=i) ok A k';exact ⟨J,⟨i,oE,oW,C,I⟩⟩
theorem zbb {S T:Mem} {a p b c:Nat} {x:Pl} (h:ArS S a p b c x T):S.Less T:=by
 obtain ⟨i,oE,oW,ok,rfl⟩:=h;exact ok.less i
theorem zah {S T:Mem} {a p b c:Nat} {x:Pl} (h:ArS S a p b c x T) {r:Nat} {k:Blk} (A:S.own r=some k):T.own r=some k:=(zbb h).1 r k A
theorem zdz {S T:Mem} {a p b c:Nat} {x:Pl} (h:ArS S a p b c x T) {f:tA} {args:Array tu} {R:tu->Mem->Prop} (g:∀ k oE oW,OkA S a p b c x oE oW->ACall prog f args (arM (devM S p x.d oE oW) a p b c x k) R):ACall prog f args T R:=by
 obtain ⟨i,oE,oW,ok,rfl⟩:=h;exact g i oE oW ok
theorem zeP {p:Pl} {n:Nat} (h:Ps p n):PW p where
 dr:=h.d.r
 fu:=by rw [h.d.f];decide
 nd:=h.d.u
 l1:=h.l1
 l2:=h.l2
 pn:=λx A=>by
  obtain ⟨i,hi,rfl⟩:=List.mem_iff_getElem.1 A;have:=h.ok i hi;rw [zaW hi] at this;rcases this with e | e | e
  ·rw [e];exact ⟨by decide,by decide⟩
  ·rw [e];exact ⟨by decide,by decide⟩
  exact ⟨e.p0,by have:=e.p1;omega⟩
/-! ### Frames of a file that are in use -/
structure Use (x:Pl) (s:ByteArray) (fr held:Nat):Prop where
  pins:∀ i,i<x.fr.length->(atF x i).holds->(atF x i).name=s->(atF x i).pins=if 0<held/\i=fr then 1 else 0
  at_:0<held->fr<x.fr.length/\isF s (held:Int) (atF x fr)=true
  z0:∀ i,i<x.fr.length->isF s 0 (atF x i)=false
theorem zf5 {s:tt} {k j:Int} {x:Fr} (h:isF s k x=true) (A:k≠j):isF s j x=false:=zbT λe=>A ((zap.1 h).2.1.symm.trans (zap.1 e).2.1)
structure Oth (x y:Pl) (s:ByteArray):Prop where
  back:∀ i,i<x.fr.length->(atF y i).name≠s->atF y i=atF x i
  on:∀ i,i<x.fr.length->(atF x i).name≠s -> ¬ (atF x i).idle->atF y i=atF x i
theorem Oth.refl (x:Pl) (s:tt):Oth x x s:=⟨λ_ _ _=>rfl,λ_ _ _ _=>rfl⟩
theorem Oth.trans {x y z:Pl} {s:tt} (h:Oth x y s) (g:Oth y z s) (H:y.fr.length=x.fr.length):Oth x z s :=
 ⟨λi hi A=>by
  have e:=g.back i vd A;rw [e] at A;exact e.trans (h.back i hi A),λi hi A C=>by
  have e:=h.on i hi A C;exact (g.on i vd (by rw [e];exact A) (by rw [e];exact C)).trans e⟩
theorem Use.busy {x:Pl} {s:tt} {fr held:Nat} (h:Use x s fr held) (A:0<held):(atF x fr).pins=1:=by
 obtain ⟨C,H⟩:=h.at_ A;obtain ⟨a,_,c⟩:=zap.1 H;rw [h.pins fr C a c,if_pos ⟨A,rfl⟩]
theorem Use.oth {x y:Pl} {s J:tt} {fr held:Nat} (h:Use x s fr held) (C:Oth x y J) (A:s≠J) (W:y.fr.length=x.fr.length):Use y s fr held where
 pins:=λi hi Q H=>by
  have e:=C.back i vd (by rw [H];exact A);rw [e] at Q H ⊢;exact h.pins i vd Q H
 at_:=λU=>by
  obtain ⟨V,I⟩:=h.at_ U;have e:=C.on fr V (by rw [(zap.1 I).2.2];exact A) (ztP (by rw [h.busy U];decide));exact ⟨by omega,by rw [e];exact I⟩
 z0:=λi hi=>zbT λe=>by
  obtain ⟨a,_,c⟩:=zap.1 e;rw [C.back i vd (by rw [c];exact A),h.z0 i vd] at e;cases e
theorem zv1 {d:D} {n:Nat} (hd:Dw d n) {s:tt} (h:0<ns d s):s≠ByteArray.empty:=by
 obtain ⟨x,A,rfl⟩:=zba.1 ((zc5 hd s).2 h);exact λe=>(hd.r.ex.ok x A).1.1 (by rw [e];rfl)
theorem Oth.le {x y:Pl} {n:Nat} {s:tt} (h:Oth x y s) (A:Ps y n) (hs:s≠ByteArray.empty) (H:y.fr.length=x.fr.length) {j:Nat} (C:j<x.fr.length) (e:(atF y j).leased=true):(atF x j).leased=true:=by
 rw [<- h.back j C (λe2=>?_)]
 ·exact e
 rcases A.ok j vd with q | q | q
 ·rw [q] at e;cases e
 ·rw [q] at e2;exact hs e2.symm
 rw [q.l] at e;cases e
theorem zoJ {p:Pl} {n:Nat} (hp:Ps p n) (hn:n<16384) (hb:nb p.fr<p.fr.length) {s:tt} {k fr:Nat} (hk:k<ns p.d s) (Q:0<k) (U:Use p s fr 0) :
  ∃ q i,pinP p s (k:Int)=(q,i,0)/\Ps q (n+1)/\Stays p q/\Use q s i k/\Oth p q s/\(atF q i).data=vw p s (k:Int)/\nb q.fr<=nb p.fr+1:=by
 have h0:∀ i,i<p.fr.length->isF s (k:Int) (atF p i)=true->(atF p i).pins=0:=λi hi h=>by
  obtain ⟨a,_,c⟩:=zap.1 h;rw [U.pins i hi a c,if_neg (λh=>absurd h.1 (Nat.lt_irrefl 0))]
 obtain ⟨q,i,h1,h2,h3,H,X,h6,h7,I,h9,J⟩:=zvV hp hn hb hk (λi hi h=>by rw [h0 i hi h];decide);obtain ⟨f1,f2,f3⟩:=zap.1 X;have V:(atF q i).pins=1:=by
  rw [h7];by_cases e:isF s (k:Int) (atF p i)=true
  ·rw [if_pos e,h0 i h2 e];rfl
  rw [if_neg e];rfl
 refine ⟨q,i,h1,h3,H,⟨λj C Y A=>?_,λ_=>⟨by rw [H.l];exact h2,X⟩,λj C=>?_⟩,⟨λj C A=>?_,λj C A W=>?_⟩,h6,h9⟩
 ·by_cases e:j=i
  ·subst e;rw [if_pos ⟨Q,rfl⟩,V]
  rw [if_neg (λh=>e h.2)];rw [I j e] at Y A ⊢;rw [U.pins j (by rw [H.l] at C;exact C) Y A,if_neg (λh=>absurd h.1 (Nat.lt_irrefl 0))]
 ·by_cases e:j=i
  ·subst e;exact zf5 X vd
  rw [I j e];exact U.z0 j (by rw [H.l] at C;exact C)
 ·by_cases e:j=i
  ·subst e;exact absurd f3 A
  exact I j e
 by_cases e:j=i
 ·subst e;rcases J with h | h
  ·exact absurd (zap.1 h).2.2 A
  exact absurd h W
 exact I j e
theorem ziT {p:Pl} {n:Nat} (hp:Ps p n) {s:tt} {k fr:Nat} (H:0<k) (J:Use p s fr k) :
  ∃ q,zgZ p (fr:Int)=(q,0)/\Ps q n/\Stays p q/\Use q s fr 0/\Oth p q s/\nb q.fr+1=nb p.fr:=by
 obtain ⟨h1,W⟩:=J.at_ H;have Q:=J.busy H;obtain ⟨q,g1,g2,U,X,g5,I,_,g8⟩:=zrc hp h1 W (by rw [Q];decide);obtain ⟨f1,f2,Y⟩:=zap.1 W;refine ⟨q,g1,g2,U,⟨λj C V A=>?_,λh=>absurd h (Nat.lt_irrefl 0),λj C=>?_⟩,⟨λj C A=>?_,λj C A ah=>?_⟩,g8 Q⟩
 ·rw [if_neg (λh=>absurd h.1 (Nat.lt_irrefl 0))];by_cases e:j=fr
  ·subst e;rw [g5,Q];rfl
  rw [I j e] at V A ⊢;rw [J.pins j (by rw [U.l] at C;exact C) V A,if_neg (λh=>e h.2)]
 ·by_cases e:j=fr
  ·subst e;exact zf5 X vd
  rw [I j e];exact J.z0 j (by rw [U.l] at C;exact C)
 ·by_cases e:j=fr
  ·subst e;exact absurd (zap.1 X).2.2 A
  exact I j e
 by_cases e:j=fr
 ·subst e;exact absurd Y A
 exact I j e
theorem zrm {p:Pl} {n:Nat} (hp:Ps p n) {s:tt} {k fr:Nat} (C:0<k) (H:Use p s fr k) {u:tt} {a:Nat} (ha:a+u.size<=64) :
  ∃ q,fillP p (fr:Int) (a:Int) u=(q,0)/\Ps q n/\q.fr.length=p.fr.length/\q.d=p.d/\Use q s fr k/\Oth p q s/\nb q.fr=nb p.fr /\ ∀ o (j:Nat),j<ns p.d o->vw q o (j:Int)=if s=o/\k=j then fillS (vw p s (k:Int)) (a:Int) u else vw p o (j:Int):=by
 obtain ⟨h1,V⟩:=H.at_ C;have W:=H.busy C;obtain ⟨q,g1,Y,g3,g4,Q,g6,I,g8,g9⟩:=ztR hp h1 V (by rw [W];decide) ha;obtain ⟨f1,f2,X⟩:=zap.1 V;refine ⟨q,g1,Y,g3,g4,⟨λj J U A=>?_,λ_=>⟨by omega,Q⟩,λj J=>?_⟩,⟨λj J A=>?_,λj J A aj=>?_⟩,g8,g9⟩
 ·by_cases e:j=fr
  ·subst e;rw [g6,W,if_pos ⟨C,rfl⟩]
  rw [I j e] at U A ⊢;exact H.pins j vd U A
 ·by_cases e:j=fr
  ·subst e;exact zf5 Q vd
  rw [I j e];exact H.z0 j vd
 ·by_cases e:j=fr
  ·subst e;exact absurd (zap.1 Q).2.2 A
  exact I j e
 by_cases e:j=fr
 ·subst e;exact absurd X A
 exact I j e
end Sto
end
section
open Go.RowKit
open Mv Disk
namespace Sto
theorem Ps.mono {p:Pl} {n m:Nat} (h:Ps p n) (k:n<=m):Ps p m:=⟨h.d.mono k,h.ok,h.ap,h.l1,h.l2⟩
structure Rd where
  nm:tt
  w:Nat
  ct:Nat
  at_:Nat
  fr:Nat
  held:Nat
def rdB (a:Nat) (r:Rd):Blk:=⟨130,[.pointer (some ⟨a,0,none⟩),.string r.nm,.int .i64 (r.w:Nat),.int .u64 (r.ct:Nat),.int .i64 (r.at_:Nat),.int .i64 (r.fr:Nat),.int .i64 (r.held:Nat),.int .i64 0],8⟩
def self (q:Nat):tu:=.pointer (some ⟨q,0,none⟩)
structure RdS (S:Mem) (a p b c q:Nat) (r:Rd) (x:Pl) (n B:Nat) (T:Mem):Prop where
  ar:ArS S a p b c x T
  ow:S.own q=some (rdB a r)
  ps:Ps x n
  us:Use x r.nm r.fr r.held
  nb:nb x.fr<=B+if 0<r.held then 1 else 0
structure RdT (S:Mem) (a p b c q:Nat) (r r':Rd) (x y:Pl) (n' B:Nat) (T':Mem):Prop where
  s:RdS (S.set q (rdB a r')) a p b c q r' y n' B T'
  st:Stays x y
  ot:Oth x y r.nm
  nm:r'.nm=r.nm
theorem RdT.refl {S:Mem} {a p b c q:Nat} {r:Rd} {x:Pl} {n B:Nat} {T:Mem} (h:RdS S a p b c q r x n B T):RdT S a p b c q r r x x n B T:=⟨by rw [vG _ _ _ h.ow];exact h,Stays.refl _,Oth.refl _ _,rfl⟩
theorem RdT.trans {S:Mem} {a p b c q:Nat} {r r' A:Rd} {x y z:Pl} {n n' B:Nat} {T T':Mem} (h:RdT S a p b c q r r' x y n B T) (g:RdT (S.set q (rdB a r')) a p b c q r' A y z n' B T'):RdT S a p b c q r A x z n' B T' :=
 ⟨by have:=g.s;rw [Mem.set_set] at this;exact this,h.st.trans g.st,h.ot.trans (by rw [<- h.nm];exact g.ot) h.st.l,g.nm.trans h.nm⟩
theorem zfk (S:Mem) (a p b c q:Nat) (r:Rd) (x:Pl) (n B:Nat) (T:Mem) (h:RdS S a p b c q r x n B T) :
  ACall prog 121 #[self q] T λv T'=>v = .tuple #[] /\ ∃ y,RdT S a p b c q r { r with held:=0 } x y n B T':=by
 have Q:=zah h.ar h.ow;unfold rdB at Q;by_cases C:0<r.held
 ·obtain ⟨y,e1,e2,e3,e4,e5,e6⟩:=ziT h.ps C h.us;have hc:=zdz h.ar (λk oE oW ok=>ziS a p b c x r.fr k S oE oW ok (zeP h.ps));rw [e1] at hc;have A:=h.nb;rw [if_pos C] at A;refine k_E1 19 func121 ?_;refine r9_ ?_;refine cT_ ?_;refine s1_ ?_;refine dr_ [i0_,i1_,i2_,i3_,i4_,i5_,i6_,i7_,o8_] [8] ?_;refine r8_ ?_;refine zac rfl ?_;refine ca_ rfl (hc) ?_;rintro _ U ⟨rfl,H⟩;have I:=zah H h.ow;unfold rdB at I;refine zad ⟨nz_,?_⟩;refine r8_ ?_;refine ⟨_,U.set q (rdB a { r with held:=0 }),rfl,zae,?_⟩;exact ⟨rfl,y,⟨zcL H h.ow _,vf _ _ _,e2,e4,by rw [if_neg (Nat.lt_irrefl 0)];omega⟩,e3,e5,rfl⟩
 have e0:r.held=0:=by omega
 have J:({ r with held:=0 }:Rd)=r:=by rw [<- e0]
 refine k_E1 19 func121 ?_;refine r9_ ?_;refine cF_ ?_;refine s1_ ?_;refine ⟨_,T,rfl,zae,?_⟩;exact ⟨rfl,x,by rw [J];exact RdT.refl h⟩
theorem ztZ (S:Mem) (a p b c q:Nat) (r:Rd) (x:Pl) (n B:Nat) (T:Mem) (h:RdS S a p b c q r x n B T) (W:r.at_<=4294967296) (X:1+r.at_ / 64<ns x.d r.nm) (Q:n<16384) (hB:B<x.fr.length) :
  ACall prog 256 #[self q] T λv T'=>v = .bool true /\ ∃ y f,RdT S a p b c q r { r with fr:=f,held:=1+r.at_ / 64 } x y (n+1) B T':=by
 have hq:=zah h.ar h.ow;unfold rdB at hq;by_cases Y:1+r.at_ / 64=r.held
 ·have er:({ r with fr:=r.fr,held:=1+r.at_ / 64 }:Rd)=r:=by rw [Y]
  refine k_E1 51 func256 ?_;refine r24_ ?_;refine rC (vi rfl rfl (zag (c:=true) (zaV _ _) (decide_eq_true vd))) ?_;refine r2_ ?_;refine cT_ ?_;refine r7_ ?_;refine ⟨_,T,⟨_,_,rfl,rfl,rfl⟩,zae,?_⟩;exact ⟨rfl,x,r.fr,by rw [er];have:=RdT.refl h;exact ⟨⟨this.s.ar,this.s.ow,this.s.ps.mono (Nat.le_succ n),this.s.us,this.s.nb⟩,this.st,this.ot,this.nm⟩⟩
 have H:=zfk S a p b c q r x n B T h;refine k_E1 51 func256 ?_;refine r24_ ?_;refine rC (vi rfl rfl (zag (c:=false) (zaV _ _) (decide_eq_false vd))) ?_;refine r2_ ?_;refine cF_ ?_;refine r5_ ?_;refine ca_ rfl (H) ?_;rintro _ T1 ⟨rfl,y,A⟩;have V:=zah A.s.ar A.s.ow;unfold rdB at V;have C:=A.s.nb;rw [if_neg (Nat.lt_irrefl 0)] at C;obtain ⟨z,i,e1,e2,e3,e4,e5,e6,e7⟩:=zoJ A.s.ps Q (by rw [A.st.l];omega) (s:=r.nm) (k:=1+r.at_ / 64) (by rw [A.st.n];exact X) vd A.s.us;have I:=zdz A.s.ar (λk oE oW ok=>zoF a p b c y r.nm ((1+r.at_ / 64:Nat):Int) k _ oE oW ok (zeP A.s.ps));rw [e1] at I;refine r2_ ?_;refine kw_ [0,2,3,15] ?_;refine s1_ ?_;refine dr_ [i0_,i1_,i2_,i3_,i4_,i5_,i6_,i7_,i8_,i9_,i10_,o11_,i12_,i13_,i14_,i15_,i16_,o17_,i18_,i19_,o20_] [11,17,20] ?_;refine r11_ ?_;refine zac rfl ?_;refine ca_ rfl (I) ?_;rintro _ T2 ⟨rfl,J⟩;have U:=zah J A.s.ow;unfold rdB at U;refine zad ⟨nz_,?_⟩;refine r5_ ?_;refine zac rfl ?_;refine s1_ ?_;refine zad ⟨nz_,?_⟩;refine r2_ ?_;refine zac rfl ?_;refine s1_ ?_;refine zad ⟨nz_,?_⟩;refine r12_ ?_;refine cT_ ?_;refine r19_ ?_;refine ⟨_,T2.set q (rdB a { r with fr:=i,held:=1+r.at_ / 64 }),⟨_,_,rfl,rfl,rfl⟩,zae,?_⟩;exact ⟨rfl,z,i,⟨by rw [<- Mem.set_set];exact zcL J A.s.ow _,vf _ _ _,e2,e4,by show nb z.fr<=B+if 0<1+r.at_ / 64 then 1 else 0;rw [if_pos vd];omega⟩,A.st.trans e3,A.ot.trans e5 A.st.l,rfl⟩
end Sto
end
section
open Go.RowKit
open Mv
namespace Mv
def RoFree (M:Mem) (b:Nat):Prop:=∀ a v,M.ro a=some v->a.block≠b
structure Gro (M:Mem) (o:Option (Nat × Nat)) (e:TypeId) (cs:List Value):Prop where
  nil:o=none->cs = []
  own:∀ b c,o=some (b,c)->M.own b=some ⟨e,cs,c⟩/\cs.length<=c/\RoFree M b
def Away (o:Option (Nat × Nat)) (b:Nat):Prop:=∀ q c,o=some (q,c)->q≠b
theorem Gro.empty (M:Mem) (e:tx):Gro M none e []:=⟨λ_=>rfl,λb c h=>by cases h⟩
theorem Gro.set {M:Mem} {o:Option (Nat × Nat)} {e:tx} {cs:List tu} (h:Gro M o e cs) {b:Nat} (r:Blk) (A:Away o b):Gro (M.set b r) o e cs :=
 ⟨h.nil,λq c eq=>⟨(vg _ _ (A q c eq)).trans (h.own q c eq).1,(h.own q c eq).2.1,(h.own q c eq).2.2⟩⟩
def delo (M:Mem):Option (Nat × Nat)->Mem
  | none=>M
  | some q=>M.del q.1
theorem zt0 (M:Mem) (o:Option (Nat × Nat)):(delo M o).ro=M.ro:=by cases o <;> rfl
theorem zed {M:Mem} {o:Option (Nat × Nat)} {x:Nat} {r:Blk} (A:M.own x=some r) (C:∀ c,o≠some (x,c)):(delo M o).own x=some r:=by
 cases o with
 | none=>exact A
 | some q=>exact (vj _ (λe=>C q.2 (by rw [e]))).trans A
section
variable {P:tz} {N:Nat} {E:Env} {M:Mem} {ops:Array Oper} {ty:tx} {pos:String} {aft:Array Edge}
end
end Mv
end
section
open Go.RowKit
open Mv Disk
namespace Sto
section
variable {P:tz} {N:Nat} {E:Env} {S:Mem} {dst:Option Nat} {ty:tx} {pos:String} {aft:Array Edge} {gd:Option (Nat × Bool)}
theorem uV {x y:tw} {i j:Int} {a b:Nat} {A:Array tx} (C:ev E x=some (.int .i64 i)) (H:ev E y=some (.int .i64 j)) (J:i=(a:Int)) (I:j=(b:Int)):ACalm P N ⟨dst,.call ⟨.builtin .min,#[x,y],A⟩,ty,pos,aft,gd⟩ E S (.int .i64 ((min a b:Nat):Int)):=by
 subst J I;rcases Nat.le_total a b with h | h
 ·rw [Nat.min_eq_left h];exact Mv.Calm.minL C H vd
 rw [Nat.min_eq_right h];exact Mv.Calm.minR C H vd
end
def byt (x:Pl) (s:tt) (j:Nat):UInt8:=(vw x s ((1+j / 64:Nat):Int)).data.toList.getD (j % 64) 0
def run (x:Pl) (s:tt) (j k:Nat):List UInt8:=(List.range k).map λi=>byt x s (j+i)
theorem zoK (x:Pl) (s:tt) (j k:Nat):(run x s j k).length=k:=by unfold run;simp
theorem zt1 (x:Pl) (s:tt) (j k i:Nat):run x s j (k+i)=run x s j k ++ run x s (j+k) i:=by
 unfold run;rw [List.range_add,List.map_append,List.map_map];congr 1;exact List.map_congr_left λa _=>by show byt x s (j+(k+a))=byt x s (j+k+a);rw [Nat.add_assoc]
theorem zv2 {x:Pl} {s:tt} {j k:Nat} (I:(vw x s ((1+j / 64:Nat):Int)).size=64) (h:k<=64-j % 64):(((vw x s ((1+j / 64:Nat):Int)).extract (j % 64) 64).extract 0 k).data.toList=run x s j k:=by
 have A:(vw x s ((1+j / 64:Nat):Int)).data.toList.length=64:=by rw [Array.length_toList];exact I
 have e:(((vw x s ((1+j / 64:Nat):Int)).extract (j % 64) 64).extract 0 k).data.toList=((vw x s ((1+j / 64:Nat):Int)).data.toList.drop (j % 64)).take k:=by
  rw [ByteArray.data_extract,ByteArray.data_extract,Array.toList_extract,Array.toList_extract];simp only [List.extract_eq_take_drop,List.drop_zero,Nat.sub_zero];rw [List.take_of_length_le (i:=64-j % 64) (by rw [List.length_drop,A];exact Nat.le_refl _)]
 rw [e];unfold run byt;refine List.ext_getElem (by rw [List.length_take,List.length_drop,List.length_map,List.length_range,A];omega) λi U J=>?_;have C:=J;rw [List.length_map,List.length_range] at C;have H:(j+i) / 64=j / 64:=by omega
 have Q:(j+i) % 64=j % 64+i:=by omega
 rw [List.getElem_take,List.getElem_drop,List.getElem_map,List.getElem_range,H,Q,List.getD_eq_getElem?_getD,List.getElem?_eq_getElem vd];rfl
theorem zt2 {S T:Mem} {a p b c:Nat} {x:Pl} {n:Nat} (h:ArS S a p b c x T) (A:Ps x n) {j:Nat} (C:j<x.fr.length) :
  ACall prog 257 #[.pointer (some ⟨a,0,none⟩),.int .i64 (j:Nat)] T λr S'=>r = .string (atF x j).data/\S'=T:=by
 obtain ⟨k,oE,oW,ok,rfl⟩:=h;exact zri a p b c x j k _ zbf (zj5 ok.ab ok.l A.l2) C
theorem RdT.mono {S:Mem} {a p b c q:Nat} {r r':Rd} {x y:Pl} {n n' B:Nat} {T:Mem} (h:RdT S a p b c q r r' x y n B T) (k:n<=n'):RdT S a p b c q r r' x y n' B T:=⟨⟨h.s.ar,h.s.ow,h.s.ps.mono k,h.s.us,h.s.nb⟩,h.st,h.ot,h.nm⟩
theorem RdT.seek {S:Mem} {a p b c q:Nat} {r r':Rd} {x y:Pl} {n B:Nat} {T:Mem} (h:RdT S a p b c q r r' x y n B T) (j:Nat):RdT S a p b c q r { r' with at_:=j } x y n B (T.set q (rdB a { r' with at_:=j })) :=
 ⟨⟨by have:=zcL h.s.ar h.s.ow (rdB a { r' with at_:=j });rwa [Mem.set_set] at this,vf _ _ _,h.s.ps,h.s.us,h.s.nb⟩,h.st,h.ot,h.nm⟩
structure BX where
  T:Mem
  y:Pl
  f:Nat
  hd:Nat
  k:Nat
  b:Nat
  c:Nat
theorem zrn (S:Mem) (a p b c q:Nat) (r:Rd) (x:Pl) (n B m:Nat) (T:Mem) (h:RdS S a p b c q r x n B T) (aG:0<m) (hm:m<=4096) (aF:r.at_+m<=4294967296) (hk:1+(r.at_+m-1) / 64<ns x.d r.nm) (hn:n+m<=16384) (hB:B<x.fr.length) :
  ACall prog 222 #[self q,.int .i64 (m:Nat)] T λv T'=>∃ y f hd M g c',v = .tuple #[.slice (some ⟨g,0,none⟩) m c',.bool true]/\m<=c'/\Fresh M g/\T'=M.set g ⟨5,cellsB (run x r.nm r.at_ m),c'⟩/\RdT S a p b c q r { r with at_:=r.at_+m,fr:=f,held:=hd } x y (n+m) B M:=by
 refine k_E2 54 func222 ?_;refine r9_ ?_;refine vS (zab rfl) zbn rfl rfl vd vd vd vd ?_;intro ao ad;have C:=ad
 repeat ((with_reducible replace C:=zaa C);obtain ⟨C,_⟩:=C)
 refine r5_ ?_;refine AWP.loop (X:=BX) (λX=>[(0,self q),(1,.int .i64 (m:Nat)),(6,.slice (some ⟨X.b,0,none⟩) X.k X.c)]) (λX=>X.T.set X.b ⟨5,cellsB (run x r.nm r.at_ X.k),X.c⟩) (λX=>RdT S a p b c q r { r with at_:=r.at_+X.k,fr:=X.f,held:=X.hd } x X.y (n+X.k) B X.T/\Fresh X.T X.b/\X.k<=m/\X.k<=X.c) (λX=>m-X.k) (⟨T,x,r.fr,r.held,0,ao,m⟩) ⟨rfl,rfl,rfl,trivial⟩ (zfZ (by rw [show ((m:Nat):Int).toNat*1=m from by omega,zaT];rfl)) (⟨RdT.refl h,ad,Nat.zero_le _,Nat.zero_le _⟩) ?_;rintro ⟨M,y,f,hd,k,g,cc⟩ ⟨Q,hf,af,V⟩;(try dsimp only at *);replace Q:RdT S a p b c q r { r with at_:=r.at_+k,fr:=f,held:=hd } x y (n+k) B M:=Q;replace hf:Fresh M g:=hf;replace af:k<=m:=af;replace V:k<=cc:=V;by_cases q1:k<m
 ·have hs:1+(r.at_+k) / 64<ns x.d r.nm:=by omega
  have hh:=(ztZ (S.set q (rdB a { r with at_:=r.at_+k,fr:=f,held:=hd })) a p b c q _ y (n+k) B M Q.s (by show r.at_+k<=_;omega) (by rw [Q.st.n];exact hs) vd (by rw [Q.st.l];exact hB)).frame (r:=⟨5,cellsB (run x r.nm r.at_ k),cc⟩) hf;refine r9_ ?_;refine cT_ ?_;refine r7_ ?_;refine ca_ rfl (hh) ?_;rintro _ S1 ⟨Sa,⟨rfl,z,f',hU⟩,U,h1⟩;rw [h1];clear h1 S1;have H:RdT S a p b c q r { r with at_:=r.at_+k,fr:=f',held:=1+(r.at_+k) / 64 } x z (n+k+1) B Sa:=Q.trans hU;have A:=zah H.s.ar H.s.ow
  (unfold rdB at A;dsimp only at A)
  have aq:q≠g:=λe=>by rw [e] at A;rw [U.1] at A;cases A
  have o1:=(vg Sa ⟨5,cellsB (run x r.nm r.at_ k),cc⟩ aq).trans A;obtain ⟨ai,ay⟩:=H.s.us.at_ (Nat.add_comm _ 1 ▸ Nat.succ_pos _);have hD:(atF z f').data=vw x r.nm ((1+(r.at_+k) / 64:Nat):Int):=by rw [<- zgm H.s.ps ai ay];exact H.st.v _ _ hs
  have ac:=(zt2 H.s.ar H.s.ps ai).frame (r:=⟨5,cellsB (run x r.nm r.at_ k),cc⟩) U;rw [hD] at ac;have hz:=zj6 h.ps hs;have ae:=λkk=>zv2 (k:=kk) hz;generalize vw x r.nm ((1+(r.at_+k) / 64:Nat):Int)=D at *;have hE:(D.extract ((r.at_+k) % 64) 64).size=64-(r.at_+k) % 64:=by rw [ByteArray.size_extract,hz];rfl
  refine r3_ ?_;refine cF_ ?_;refine r3_ ?_;refine dr_ [i0_,i1_,i2_,i3_,i4_,i5_,i6_,i7_,i9_,i10_,i11_,i12_,i13_,o8_,i14_,i15_] [] ?_;refine r13_ ?_;refine zac rfl ?_;refine ca_ rfl (ac) ?_;rintro _ S1 ⟨Sb,⟨rfl,av⟩,_,h1⟩;rw [h1,av];clear h1 S1;refine zad ⟨ny_,?_⟩;refine zia rfl rfl rfl rfl (zab rfl) (λ_=>vP underlying9 rfl (h:=64) (l:=(r.at_+k) % 64) (by rw [hz];exact zaU _ _) ⟨_,_,rfl,by omega,by omega,by omega⟩) ?_;generalize D.extract ((r.at_+k) % 64) 64=W at *;refine r11_ ?_;refine rC (uV (a:=64-(r.at_+k) % 64) (b:=m-k) rfl rfl vd vd) ?_;have au:min (64-(r.at_+k) % 64) (m-k)<=64-(r.at_+k) % 64:=Nat.min_le_left _ _;have aH:min (64-(r.at_+k) % 64) (m-k)<=m-k:=Nat.min_le_right _ _;have aB:0<min (64-(r.at_+k) % 64) (m-k):=Nat.lt_min.2 ⟨by omega,by omega⟩;have az:=ae _ au;generalize min (64-(r.at_+k) % 64) (m-k)=K at *;have aw:(W.extract 0 K).size=K:=by rw [ByteArray.size_extract,hE];omega
  refine r3_ ?_;refine kw_ [0,1,6,14,17,7,8] ?_;refine r5_ ?_;refine rC (vP underlying9 rfl (h:=K) (l:=0) ⟨_,_,rfl,by omega,by omega,by omega⟩ (zaU _ _)) ?_;generalize W.extract 0 K=Y at *;refine ub (zab rfl) zbn zaA rfl (vf _ _ _) (by rw [zaF,zoK]) rfl vd vd ?_;intro aj ah J aA;rw [Mem.del_set _ _ _ U.1] at J ⊢;rw [az,aw,<- zc1,<- zt1];have I:q≠aj:=λe=>by rw [e] at A;rw [J.1] at A;cases A
  have o2:=(vg Sa ⟨5,cellsB (run x r.nm r.at_ (k+K)),ah⟩ I).trans A;refine r16_ ?_;refine ⟨⟨Sa.set q (rdB a { r with at_:=r.at_+(k+K),fr:=f',held:=1+(r.at_+k) / 64 }),z,f',1+(r.at_+k) / 64,k+K,aj,ah⟩,?_,?_,?_,?_⟩<;>try dsimp only
  ·exact ⟨rfl,rfl,rfl,trivial⟩
  ·(rw [vC _ _ _ I];unfold rdB;dsimp only;rw [show ((r.at_+(k+K):Nat):Int)=((r.at_+k:Nat):Int)+(K:Int) from by omega];exact Mem.Less.refl _)
  ·exact ⟨((H.mono vd).seek (r.at_+(k+K))),zam J (Ne.symm I),by omega,by omega⟩
  omega
 obtain rfl:k=m:=by omega
 refine r9_ ?_;refine cF_ ?_;refine r13_ ?_;refine ⟨_,M.set g ⟨5,cellsB (run x r.nm r.at_ k),cc⟩,⟨_,_,rfl,⟨_,_,rfl,rfl,rfl⟩,rfl⟩,zae,?_⟩;exact ⟨y,f,hd,M,g,cc,rfl,V,hf,rfl,Q⟩
end Sto
end
section
open Go.RowKit
open Mv Disk
namespace Sto
theorem zmq {t u:tt} {a:Nat} (h:a+u.size<=t.size):(fillS t (a:Int) u).data.toList=t.data.toList.take a ++ (u.data.toList ++ t.data.toList.drop (a+u.size)):=by
 unfold fillS;have A:t.data.toList.length=t.size:=Array.length_toList;rw [ByteArray.data_append,ByteArray.data_append,ByteArray.data_extract,ByteArray.data_extract,Array.toList_append,Array.toList_append,Array.toList_extract,Array.toList_extract,Int.toNat_natCast];simp only [List.extract_eq_take_drop,List.drop_zero,Nat.sub_zero,List.append_assoc];rw [List.take_of_length_le (i:=t.size-(a+u.size)) (by rw [List.length_drop,A];exact Nat.le_refl _)]
theorem zoL {t u:tt} {a i:Nat} (h:a+u.size<=t.size):(fillS t (a:Int) u).data.toList.getD i 0=if a<=i/\i<a+u.size then u.data.toList.getD (i-a) 0 else t.data.toList.getD i 0:=by
 rw [zmq h];have A:t.data.toList.length=t.size:=Array.length_toList;have H:u.data.toList.length=u.size:=Array.length_toList;simp only [List.getD_eq_getElem?_getD];by_cases C:i<a
 ·rw [if_neg vd,List.getElem?_append_left (by rw [List.length_take,A];omega),List.getElem?_take_of_lt C]
 rw [List.getElem?_append_right (by rw [List.length_take,A];omega),List.length_take,A,Nat.min_eq_left vd];by_cases I:i<a+u.size
 ·rw [if_pos vd,List.getElem?_append_left vd]
 rw [if_neg vd,List.getElem?_append_right vd,H,List.getElem?_drop];congr 2;omega
structure Near (x y:Pl) (s:ByteArray):Prop where
  l:y.fr.length=x.fr.length
  z:y.d.size=x.d.size
  u:used y.d.ext=used x.d.ext
  n:∀ o,ns y.d o=ns x.d o
  v:∀ o (k:Nat),o≠s->k<ns x.d o->vw y o (k:Int)=vw x o (k:Int)
theorem Near.of {x y:Pl} (h:Stays x y) (s:tt):Near x y s:=⟨h.l,h.z,h.u,h.n,λo k _ A=>h.v o k A⟩
theorem Near.trans {x y z:Pl} {s:tt} (h:Near x y s) (g:Near y z s):Near x z s:=⟨g.l.trans h.l,g.z.trans h.z,g.u.trans h.u,λo=>(g.n o).trans (h.n o),λo k A C=>(g.v o k A (by rw [h.n];exact C)).trans (h.v o k A C)⟩
def Wrote (x:Pl) (s:tt) (L:List UInt8):Prop:=∀ j,1+j / 64<ns x.d s->byt x s j=L.getD j 0
theorem Wrote.stays {x y:Pl} {s:tt} {L:List UInt8} (h:Wrote x s L) (g:Stays x y):Wrote y s L:=λj A=>by
 rw [g.n] at A;rw [<- h j A];unfold byt;rw [g.v s _ A]
theorem Wrote.near {x y:Pl} {s o:tt} {L:List UInt8} (h:Wrote x s L) (g:Near x y o) (A:s≠o):Wrote y s L:=λj C=>by
 rw [g.n] at C;rw [<- h j C];unfold byt;rw [g.v s _ A C]
theorem Wrote.fill {x y:Pl} {n:Nat} {s u:tt} {L:List UInt8} (J:Ps x n) (h:Wrote x s L) (U:∀ o,ns y.d o=ns x.d o) (V:1+L.length / 64<ns x.d s) (W:L.length % 64+u.size<=64)
  (X:∀ o (j:Nat),j<ns x.d o->vw y o (j:Int)=if s=o/\1+L.length / 64=j then fillS (vw x s ((1+L.length / 64:Nat):Int)) ((L.length % 64:Nat):Int) u else vw x o (j:Int)):Wrote y s (L ++ u.data.toList):=λj C=>by
 rw [U] at C;have Y:u.data.toList.length=u.size:=Array.length_toList;have Q:=zj6 J V;have A:=h j C;unfold byt at A ⊢;rw [X s _ C,List.getD_eq_getElem?_getD (l:=L ++ u.data.toList)];rw [List.getD_eq_getElem?_getD (l:=L)] at A;by_cases q:1+L.length / 64=1+j / 64
 ·rw [if_pos ⟨rfl,q⟩,zoL (by rw [Q];exact W)];by_cases I:L.length % 64<=j % 64/\j % 64<L.length % 64+u.size
  ·rw [if_pos I,List.getElem?_append_right vd,List.getD_eq_getElem?_getD,show j % 64-L.length % 64=j-L.length from by omega]
  rw [if_neg I,q,A];by_cases H:j<L.length
  ·rw [List.getElem?_append_left H]
  rw [List.getElem?_eq_none vd,List.getElem?_eq_none (by rw [List.length_append];omega)]
 rw [if_neg (λe=>q e.2),A];by_cases H:j<L.length
 ·rw [List.getElem?_append_left H]
 rw [List.getElem?_eq_none vd,List.getElem?_eq_none (by rw [List.length_append];omega)]
end Sto
end
section
open Go.RowKit
open Mv Disk
namespace Sto
structure Wt where
  nm:tt
  w:Nat
  ct:Nat
  at_:Nat
  fr:Nat
  held:Nat
def wtB (a:Nat) (r:Wt):Blk:=⟨206,[.pointer (some ⟨a,0,none⟩),.string r.nm,.int .i64 (r.w:Nat),.int .u64 (r.ct:Nat),.int .i64 (r.at_:Nat),.int .i64 (r.fr:Nat),.int .i64 (r.held:Nat)],7⟩
structure WtS (S:Mem) (a p b c q:Nat) (r:Wt) (x:Pl) (n B:Nat) (L:List UInt8) (T:Mem):Prop where
  ar:ArS S a p b c x T
  ow:S.own q=some (wtB a r)
  ps:Ps x n
  us:Use x r.nm r.fr r.held
  nb:nb x.fr<=B+if 0<r.held then 1 else 0
  at_:r.at_=L.length
  wr:Wrote x r.nm L
structure WtT (S:Mem) (a p b c q:Nat) (r r':Wt) (x y:Pl) (n' B:Nat) (L:List UInt8) (T':Mem):Prop where
  s:WtS (S.set q (wtB a r')) a p b c q r' y n' B L T'
  st:Near x y r.nm
  ot:Oth x y r.nm
  nm:r'.nm=r.nm
theorem WtT.refl {S:Mem} {a p b c q:Nat} {r:Wt} {x:Pl} {n B:Nat} {L:List UInt8} {T:Mem} (h:WtS S a p b c q r x n B L T):WtT S a p b c q r r x x n B L T:=⟨by rw [vG _ _ _ h.ow];exact h,Near.of (Stays.refl _) _,Oth.refl _ _,rfl⟩
theorem WtT.trans {S:Mem} {a p b c q:Nat} {r r' A:Wt} {x y z:Pl} {n n' B:Nat} {L C:List UInt8} {T T':Mem} (h:WtT S a p b c q r r' x y n B L T) (g:WtT (S.set q (wtB a r')) a p b c q r' A y z n' B C T'):WtT S a p b c q r A x z n' B C T' :=
 ⟨by have:=g.s;rw [Mem.set_set] at this;exact this,h.st.trans (by rw [<- h.nm];exact g.st),h.ot.trans (by rw [<- h.nm];exact g.ot) h.st.l,g.nm.trans h.nm⟩
theorem WtT.mono {S:Mem} {a p b c q:Nat} {r r':Wt} {x y:Pl} {n n' B:Nat} {L:List UInt8} {T:Mem} (h:WtT S a p b c q r r' x y n B L T) (k:n<=n'):WtT S a p b c q r r' x y n' B L T:=⟨⟨h.s.ar,h.s.ow,h.s.ps.mono k,h.s.us,h.s.nb,h.s.at_,h.s.wr⟩,h.st,h.ot,h.nm⟩
theorem zlc (S:Mem) (a p b c q:Nat) (r:Wt) (x:Pl) (n B:Nat) (L:List UInt8) (T:Mem) (h:WtS S a p b c q r x n B L T) :
  ACall prog 169 #[self q] T λv T'=>v = .tuple #[] /\ ∃ y,WtT S a p b c q r { r with held:=0 } x y n B L T':=by
 have Q:=zah h.ar h.ow;unfold wtB at Q;by_cases C:0<r.held
 ·obtain ⟨y,e1,e2,e3,e4,e5,e6⟩:=ziT h.ps C h.us;have hc:=zdz h.ar (λk oE oW ok=>ziS a p b c x r.fr k S oE oW ok (zeP h.ps));rw [e1] at hc;have A:=h.nb;rw [if_pos C] at A;refine k_E1 19 func169 ?_;refine r9_ ?_;refine cT_ ?_;refine s1_ ?_;refine dr_ [i0_,i1_,i2_,i3_,i4_,i5_,i6_,i7_,o8_] [8] ?_;refine r8_ ?_;refine zac rfl ?_;refine ca_ rfl (hc) ?_;rintro _ U ⟨rfl,H⟩;have I:=zah H h.ow;unfold wtB at I;refine zad ⟨nz_,?_⟩;refine r8_ ?_;refine ⟨_,U.set q (wtB a { r with held:=0 }),rfl,zae,?_⟩;exact ⟨rfl,y,⟨zcL H h.ow _,vf _ _ _,e2,e4,by rw [if_neg (Nat.lt_irrefl 0)];omega,h.at_,h.wr.stays e3⟩,Near.of e3 _,e5,rfl⟩
 have e0:r.held=0:=by omega
 have J:({ r with held:=0 }:Wt)=r:=by rw [<- e0]
 refine k_E1 19 func169 ?_;refine r9_ ?_;refine cF_ ?_;refine s1_ ?_;refine ⟨_,T,rfl,zae,?_⟩;exact ⟨rfl,x,by rw [J];exact WtT.refl h⟩
end Sto
end
section
open Go.RowKit
open Mv Disk
namespace Sto
theorem zoM {S:Mem} {g c:Nat} {e:tx} {Y:List UInt8} (h:S.own g=some ⟨e,cellsB Y,c⟩) (o K:Nat):S.rds ⟨g,o,none⟩ (cellsB ((Y.drop o).take K)):=λj v A=>by
 rw [zaE,zdv h];unfold cellsB at A ⊢;rw [List.getElem?_map] at A ⊢;by_cases q:j<K
 ·rw [List.getElem?_take_of_lt q,List.getElem?_drop] at A;exact A
 rw [List.getElem?_eq_none (by rw [List.length_take];omega)] at A;cases A
theorem zro {p q:Pl} {i a:Int} {u:tt} (h:fillP p i a u=(q,0)):q=setP p i.toNat { atF p i.toNat with data:=fillS (atF p i.toNat).data a u,dirty:=true }:=by
 unfold fillP at h;split at h
 ·exact (Prod.mk.inj h).1.symm
 rename_i A;exact absurd (Prod.mk.inj h).2 A
theorem WtT.pin {S:Mem} {a p b c q:Nat} {r r':Wt} {x z A:Pl} {n B i k:Nat} {L:List UInt8} {U H:Mem} (C:WtT S a p b c q r r' x z n B L U) (Q:ArS (S.set q (wtB a r')) a p b c A H) (e2:Ps A (n+1)) (e3:Stays z A) (e4:Use A r.nm i k) (e5:Oth z A r.nm) (e7:nb A.fr<=nb z.fr+1) (V:0<k) (W:r'.held=0) :
  WtT S a p b c q r { r' with fr:=i,held:=k } x A (n+1) B L (H.set q (wtB a { r' with fr:=i,held:=k })):=by
 have I:=C.nm;have J:=C.s.nb;rw [W,if_neg (Nat.lt_irrefl 0)] at J;refine ⟨⟨by have:=zcL Q (vf _ _ _) (wtB a { r' with fr:=i,held:=k });rwa [Mem.set_set] at this,vf _ _ _,e2,by show Use A r'.nm i k;rw [I];exact e4,by show nb A.fr<=B+if 0<k then 1 else 0;rw [if_pos V];omega,C.s.at_,by show Wrote A r'.nm L;exact C.s.wr.stays e3⟩,C.st.trans (Near.of e3 _),C.ot.trans e5 C.st.l,I⟩
theorem WtT.fill {S:Mem} {a p b c q:Nat} {r r':Wt} {x z:Pl} {n B:Nat} {L:List UInt8} {Sa:Mem} (A:WtT S a p b c q r r' x z n B L Sa) (hh:r'.held=1+r'.at_ / 64) (u:tt) (X:r'.at_ % 64+u.size<=64) (hk:1+r'.at_ / 64<ns x.d r.nm) :
  ∃ J,∀ V,ArS (S.set q (wtB a r')) a p b c (setP z r'.fr { atF z r'.fr with data:=fillS (atF z r'.fr).data ((r'.at_ % 64:Nat):Int) u,dirty:=true }) V ->
   WtT S a p b c q r { r' with at_:=r'.at_+u.size } x J n B (L ++ u.data.toList) (V.set q (wtB a { r' with at_:=r'.at_+u.size })):=by
 have h0:0<r'.held:=by omega
 have H:=A.nm;have I:=A.s.at_;obtain ⟨J,g1,g2,g3,U,g5,g6,g7,Q⟩:=zrm A.s.ps h0 A.s.us X;have Y:=zro g1;rw [Int.toNat_natCast] at Y;refine ⟨J,λV hA=>?_⟩;rw [<- Y] at hA;have C:1+r'.at_ / 64<ns z.d r.nm:=by rw [A.st.n];exact hk
 rw [H,hh] at Q;have hb:=A.s.nb;refine ⟨⟨by have:=zcL hA (vf _ _ _) (wtB a { r' with at_:=r'.at_+u.size });rwa [Mem.set_set] at this,vf _ _ _,g2,g5,by show nb J.fr<=B+if 0<r'.held then 1 else 0;rw [g7];exact hb,by show r'.at_+u.size=_;rw [List.length_append,I,Array.length_toList];rfl,?_⟩,A.st.trans ⟨g3,by rw [U],by rw [U],λo=>by rw [U],λo k ho W=>by rw [Q o k W,if_neg (λe=>ho e.1.symm)]⟩,A.ot.trans (by rw [<- H];exact g6) A.st.l,H⟩;show Wrote J r'.nm _;rw [H];have hw:=A.s.wr;rw [H] at hw;rw [I] at Q C X;exact hw.fill A.s.ps (λo=>by rw [U]) C X Q
structure RX where
  T:Mem
  y:Pl
  f:Nat
  hd:Nat
  k:Nat
  o:Nat
theorem zv3 (S:Mem) (a p b c q:Nat) (r:Wt) (x:Pl) (n B:Nat) (L Y:List UInt8) (g C:Nat) (T:Mem) (h:WtS S a p b c q r x n B L T) (hg:Fresh T g) (aL:Y.length<=C) (hm:Y.length<=4096) (aF:r.at_+Y.length<=4294967296) (hk:1+(r.at_+Y.length-1) / 64<ns x.d r.nm) (hn:n+Y.length<=16384) (hB:B<x.fr.length) :
  ACall prog 168 #[self q,.slice (some ⟨g,0,none⟩) Y.length C] (T.set g ⟨5,cellsB Y,C⟩) λv T'=>v = .int .i64 0 /\ ∃ y f hd M,Fresh M g/\T'=M.set g ⟨5,cellsB Y,C⟩/\WtT S a p b c q r { r with at_:=r.at_+Y.length,fr:=f,held:=hd } x y (n+Y.length) B (L ++ Y) M:=by
 refine k_E2 86 func168 ?_;refine r7_ ?_;refine AWP.loop (X:=RX) (λX=>[(0,self q),(1,.slice (some ⟨g,X.o,none⟩) (Y.length-X.k) (C-X.k))]) (λX=>X.T.set g ⟨5,cellsB Y,C⟩) (λX=>WtT S a p b c q r { r with at_:=r.at_+X.k,fr:=X.f,held:=X.hd } x X.y (n+X.k) B (L ++ Y.take X.k) X.T/\Fresh X.T g/\X.k<=Y.length/\(X.k<Y.length->X.o=X.k)) (λX=>Y.length-X.k) (⟨T,x,r.fr,r.held,0,0⟩) ⟨rfl,rfl,trivial⟩ (Mem.Less.refl _) (⟨by rw [List.take_zero,List.append_nil];exact WtT.refl h,hg,Nat.zero_le _,λ_=>rfl⟩) ?_;rintro ⟨M,y,f,hd,k,o⟩ ⟨V,hf,an,aq⟩;(try dsimp only at *);replace V:WtT S a p b c q r { r with at_:=r.at_+k,fr:=f,held:=hd } x y (n+k) B (L ++ Y.take k) M:=V;replace hf:Fresh M g:=hf;replace an:k<=Y.length:=an;by_cases q1:k<Y.length
 ·obtain rfl:=aq q1;have hs:1+(r.at_+o) / 64<ns x.d r.nm:=by omega
  have U:=zah V.s.ar V.s.ow
  (unfold wtB at U;dsimp only at U)
  have H:q≠g:=λe=>by rw [e,hf.1] at U;cases U
  have o0:=(vg M ⟨5,cellsB Y,C⟩ H).trans U;refine r8_ ?_;refine cT_ ?_;refine r25_ ?_;refine AWP.join (X:=Mem × Pl × Nat) (λX=>[(0,self q),(1,.slice (some ⟨g,o,none⟩) (Y.length-o) (C-o))]) (λX=>X.1.set g ⟨5,cellsB Y,C⟩) (λX=>WtT S a p b c q r { r with at_:=r.at_+o,fr:=X.2.2,held:=1+(r.at_+o) / 64 } x X.2.1 (n+o+1) B (L ++ Y.take o) X.1/\Fresh X.1 g) ?_ ?_
  ·by_cases q2:1+(r.at_+o) / 64=hd
   ·subst q2;refine cF_ ?_;refine s1_ ?_;refine ⟨(M,y,f),?_,?_,?_⟩<;>try dsimp only
    ·exact ⟨V.mono (Nat.le_succ _),hf⟩
    ·exact ⟨rfl,rfl,trivial⟩
    exact Mem.Less.refl _
   have au:=(zlc (S.set q (wtB a { r with at_:=r.at_+o,fr:=f,held:=hd })) a p b c q _ y (n+o) B _ M V.s).frame (r:=⟨5,cellsB Y,C⟩) hf;refine cT_ ?_;refine r3_ ?_;refine ca_ rfl (au) ?_;rintro _ S1 ⟨Sa,⟨rfl,z,hU⟩,Q,W⟩;rw [W];clear W S1;have A:WtT S a p b c q r { r with at_:=r.at_+o,fr:=f,held:=0 } x z (n+o) B (L ++ Y.take o) Sa:=V.trans hU;have J:=zah A.s.ar A.s.ow
   (unfold wtB at J;dsimp only at J)
   have o1:=(vg Sa ⟨5,cellsB Y,C⟩ H).trans J;have aj:=A.s.nb;rw [if_neg (Nat.lt_irrefl 0)] at aj;obtain ⟨z2,i,e1,e2,e3,e4,e5,e6,e7⟩:=zoJ A.s.ps vd (by rw [A.st.l];omega) (s:=r.nm) (k:=1+(r.at_+o) / 64) (by rw [A.st.n];exact hs) vd A.s.us;have hp:=(zdz A.s.ar (λk oE oW ok=>zoF a p b c z r.nm ((1+(r.at_+o) / 64:Nat):Int) k _ oE oW ok (zeP A.s.ps))).frame (r:=⟨5,cellsB Y,C⟩) Q;rw [e1] at hp;refine r3_ ?_;refine dr_ [i0_,i1_,i2_,i3_,i4_,i5_,i6_,i7_,i8_,o9_,i10_,i11_,i12_,i13_,i14_] [9] ?_;refine r9_ ?_;refine zac rfl ?_;refine ca_ rfl (hp) ?_;rintro _ S1 ⟨Sb,⟨rfl,h2⟩,aa,W⟩;rw [W];clear W S1;have I:=zah h2 (vf _ _ _)
   (unfold wtB at I;dsimp only at I)
   have o2:=(vg Sb ⟨5,cellsB Y,C⟩ H).trans I;refine zad ⟨nz_,?_⟩;refine r7_ ?_;refine kw_ [0,1,12,5,24,6,7] ?_;refine r7_ ?_;refine cF_ ?_;refine r14_ ?_;refine ⟨(Sb.set q (wtB a { r with at_:=r.at_+o,fr:=i,held:=1+(r.at_+o) / 64 }),z2,i),?_,?_,?_⟩<;>try dsimp only
   ·exact ⟨A.pin h2 e2 e3 e4 e5 e7 vd rfl,zam aa (Ne.symm H)⟩
   ·exact ⟨rfl,rfl,trivial⟩
   (rw [vC _ _ _ H];unfold wtB;dsimp only;exact Mem.Less.refl _)
  rintro ⟨Sa,z,f'⟩ ⟨A,Q⟩;intro _ _ al ah;(try dsimp only at *);refine zau ?_;refine AWP.sub _ al (AWP.less _ ah ?_);clear al ah;replace A:WtT S a p b c q r { r with at_:=r.at_+o,fr:=f',held:=1+(r.at_+o) / 64 } x z (n+o+1) B (L ++ Y.take o) Sa:=A;replace Q:Fresh Sa g:=Q;have J:=zah A.s.ar A.s.ow
  (unfold wtB at J;dsimp only at J)
  have o1:=(vg Sa ⟨5,cellsB Y,C⟩ H).trans J;refine r16_ ?_;refine rC (uV (a:=Y.length-o) (b:=64-(r.at_+o) % 64) rfl rfl vd vd) ?_;have aH:min (Y.length-o) (64-(r.at_+o) % 64)<=Y.length-o:=Nat.min_le_left _ _;have aM:min (Y.length-o) (64-(r.at_+o) % 64)<=64-(r.at_+o) % 64:=Nat.min_le_right _ _;have aA:0<min (Y.length-o) (64-(r.at_+o) % 64):=Nat.lt_min.2 ⟨by omega,by omega⟩;generalize min (Y.length-o) (64-(r.at_+o) % 64)=K at *;have ai:((Y.drop o).take K).length=K:=by rw [List.length_take,List.length_drop];omega
  have ac:(bs ((Y.drop o).take K)).size=K:=by rw [zaJ];exact ai
  obtain ⟨ak,ax⟩:=A.s.us.at_ (Nat.add_comm _ 1 ▸ Nat.succ_pos _);obtain ⟨z2,hF⟩:=A.fill rfl (bs ((Y.drop o).take K)) (by rw [ac];show (r.at_+o) % 64+K<=64;omega) hs;have av:=(zdz A.s.ar (λk oE oW ok=>zrj a p b c z f' (((r.at_+o) % 64:Nat):Int) (bs ((Y.drop o).take K)) k _ oE oW ok (zeP A.s.ps) ak (zb0 (A.s.ps.ok _ ak) (zap.1 ax).1).z vd (by rw [ac];omega))).frame (r:=⟨5,cellsB Y,C⟩) Q;refine r4_ ?_;refine dr_ [i0_,i1_,i2_,i3_,i4_,i5_,i6_,i7_,i8_,i9_,i10_,i11_,i12_,o13_] [13] ?_;refine r11_ ?_;refine dP (hc:=λ_=>vM K underlying57 zci rfl rfl vd vd) (h:=?_);refine dC (hc:=vT zbs zaA rfl ai (zoM (vf _ _ _) o K)) (h:=?_);refine zac rfl ?_;refine ca_ rfl (av) ?_;rintro _ S1 ⟨Sb,⟨rfl,h2⟩,aa,W⟩;rw [W];clear W S1;have I:=zah h2 (vf _ _ _)
  (unfold wtB at I;dsimp only at I)
  have o2:=(vg Sb ⟨5,cellsB Y,C⟩ H).trans I;have hW:=hF Sb h2;rw [ac,bs_data,List.append_assoc,show Y.take o ++ (Y.drop o).take K=Y.take (o+K) from (List.take_add ..).symm] at hW;refine zad ⟨nz_,?_⟩;refine r15_ ?_;refine kw_ [0,1,8,9] ?_;refine r3_ ?_;refine rC (vX underlying57 zci rfl (zaU (C-o) (C-o)) (by simp) (zaU (Y.length-o) (C-o)) (l:=K) ⟨_,_,rfl,by omega,by omega,by omega⟩) ?_;refine r4_ ?_;refine ⟨⟨Sb.set q (wtB a { r with at_:=r.at_+o+K,fr:=f',held:=1+(r.at_+o) / 64 }),z2,f',1+(r.at_+o) / 64,o+K,if C-o=K then o else o+K*1⟩,?_,?_,?_,?_⟩<;>try dsimp only
  ·(refine ⟨rfl,?_,trivial⟩;rw [Nat.sub_add_eq,Nat.sub_add_eq];rfl)
  ·(rw [vC _ _ _ H];unfold wtB;dsimp only;rw [show ((r.at_+o+K:Nat):Int)=((r.at_+o:Nat):Int)+(K:Int) from by omega];exact Mem.Less.refl _)
  ·exact ⟨by rw [<- Nat.add_assoc r.at_];exact hW.mono vd,zam aa (Ne.symm H),by omega,λaJ=>by rw [if_neg vd];omega⟩
  omega
 obtain rfl:k=Y.length:=by omega
 rw [List.take_length] at V;refine r8_ ?_;refine cF_ ?_;refine r11_ ?_;refine ⟨_,_,⟨_,_,rfl,rfl,rfl⟩,Mem.Less.refl _,?_⟩;exact ⟨rfl,y,f,hd,M,hf,rfl,V⟩
end Sto
end
section
open Go.RowKit
open Mv Disk Num
namespace Sto
theorem WtT.count {S:Mem} {a p b c q:Nat} {r:Wt} {x:Pl} {n B:Nat} {L:List UInt8} {T:Mem} (h:WtS S a p b c q r x n B L T) (k:Nat):WtT S a p b c q r { r with ct:=k } x x n B L (T.set q (wtB a { r with ct:=k })) :=
 ⟨⟨zcL h.ar h.ow _,vf _ _ _,h.ps,h.us,h.nb,h.at_,h.wr⟩,Near.of (Stays.refl _) _,Oth.refl _ _,rfl⟩
theorem zsP (S:Mem) (a p b c q:Nat) (r:Wt) (x:Pl) (n B:Nat) (L:List UInt8) (v:tu) (xs:List Nat) (T:Mem) (h:WtS S a p b c q r x n B L T) (hv:RowR T v xs) (V:1<=xs.length) (h8:xs.length<=8) (hb:∀ x ∈ xs,x<18446744073709551616) (aE:r.ct<=4294967296) (ah:r.at_+5*xs.length<=4294967296) (hk:1+(r.at_+5*xs.length-1) / 64<ns x.d r.nm) (hn:n+5*xs.length<=16384) (hB:B<x.fr.length) :
  ACall prog 114 #[self q,v] T λrv T'=>rv = .int .i64 0 /\ ∃ y f hd,WtT S a p b c q r { r with ct:=r.ct+1,at_:=r.at_+5*xs.length,fr:=f,held:=hd } x y (n+5*xs.length) B (L ++ recB xs) T':=by
 obtain ⟨pa,cap,rfl,aF,an,W⟩:=id hv;obtain ⟨b0,off,rfl,af⟩:=W.resolve_left (by intro h;rw [h] at V;simp at V);have hC:=WtT.count h (r.ct+1);have hq:=zah h.ar h.ow;unfold wtB at hq;refine k_E2 35 func114 ?_;refine r10_ ?_;refine vS (zab rfl) zbn rfl rfl vd vd vd vd ?_;intro aj am;have A:=am
 repeat ((with_reducible replace A:=zaa A);obtain ⟨A,_⟩:=A)
 have:=A.ne hq;have:=A.ne' hq
 refine r3_ ?_;have em:(5*(xs.length:Int)).toNat=5*xs.length:=by omega
 simp only [em,Nat.mul_one,zaT,Int.toNat_zero,List.replicate_zero];refine r9_ ?_;refine AWP.loop (X:=Nat × Option (Nat × Nat)) (λx=>[(0,self q),(5,outV x.2 (5*x.1)),(13,.slice (some ⟨b0,off,none⟩) xs.length cap),(14,.int .i64 xs.length),(15,.int .i64 x.1)]) (λx=>outM T x.2 5 (cellsB (recB (xs.take x.1)))) (λx=>x.1<=xs.length/\OkO T x.2 (5*x.1)) (λx=>xs.length-x.1) ((0,some (aj,5*xs.length))) ⟨rfl,rfl,rfl,rfl,rfl,trivial⟩ (Mem.Less.refl _) (⟨Nat.zero_le _,zbE A (Nat.zero_le _)⟩) ?_;rintro ⟨k,o⟩ ⟨aC,ho⟩;(try dsimp only at *);refine r6_ ?_;refine vp rfl (λH=>?_) (λH=>?_)
 ·have H:k<xs.length:=by have:=of_decide_eq_true H;omega
  have W:=(af k H).less (zaG (e:=5) (cs:=cellsB (recB (xs.take k))) ho);have I:(cellsB (recB (xs.take k))).length=5*k:=by rw [zaF,za2,List.length_take];omega
  have aD:=zc0 xs[k];refine r14_ ?_;refine cp_ rfl (zfT xs[k] _ (hb _ (List.getElem_mem _))) ?_;refine ARun.alloc (zab rfl) zcT ?_;intro b8 f8;have U:=f8
  repeat ((with_reducible replace U:=zaa U);obtain ⟨U,_⟩:=U)
  refine nl_ ?_;refine r6_ ?_;refine vF (zab rfl) zbn rfl I (zcf ho I U) rfl (news:=cellsB (five xs[k])) rds_ rfl vd (zgP _) vd vd ?_;intro ag ai al;rw [<- zc1,<- ziB,<- List.take_succ_eq_append_getElem H];refine r9_ ?_;refine ⟨(k+1,some (ag,ai)),?_,?_,?_,?_⟩<;>try dsimp only
  ·exact ⟨rfl,rfl,rfl,rfl,zan vd,trivial⟩
  ·exact Mem.Less.refl _
  ·exact ⟨H,al⟩
  omega
 have H:k=xs.length:=by have:=of_decide_eq_false H;omega
 subst H;rw [List.take_length];obtain ⟨Q,co,rfl⟩:=ho.some vd;obtain ⟨Y,ak⟩:=ho.own Q co rfl;have J:q≠Q:=Y.ne hq;have C:=zv3 (S.set q (wtB a { r with ct:=r.ct+1 })) a p b c q _ x n B L (recB xs) Q co _ hC.s (zam Y (Ne.symm J)) (by rw [za2];exact ak) (by rw [za2];omega) (by rw [za2];exact ah) (by rw [za2];exact hk) (by rw [za2];exact hn) hB;rw [za2] at C;have o1:(outM T (some (Q,co)) 5 (cellsB (recB xs))).own q=_:=(vg _ _ J).trans hq;refine r14_ ?_;refine vk rfl rfl zai rfl o1 (show (3:Nat)<7 by decide) rfl ?_
 try simp only [k_ms,k_sz,k_ss,k_za,Nat.reduceAdd]
 refine r2_ ?_;refine kw_ [0,5,13,14,15,16] ?_;have eM:(outM T (some (Q,co)) 5 (cellsB (recB xs))).set q (wtB a { r with ct:=r.ct+1 })=(T.set q (wtB a { r with ct:=r.ct+1 })).set Q ⟨5,cellsB (recB xs),co⟩:=(vC _ _ _ J).symm;rw [<- eM] at C;refine r4_ ?_;refine ca_ rfl (C) ?_;rintro _ S1 ⟨rfl,y,f,hd,M,ae,V,hT⟩;rw [V];clear V S1;refine r4_ ?_;refine ⟨_,M,⟨_,_,rfl,rfl,rfl⟩,vh _ _ _ ae.1,?_⟩;exact ⟨rfl,y,f,hd,hC.trans hT⟩
end Sto
end
section
open Go.RowKit
open Mv Disk Num
namespace Sto
theorem Use.alike {x y:Pl} {s:tt} {fr held:Nat} (h:Use x s fr held) (g:Alike x y) (hl:y.fr.length=x.fr.length):Use y s fr held where
 pins:=λi hi Q V=>by
  obtain ⟨A,H,U,X,W⟩:=g i vd;unfold Fr.holds at Q;rw [A] at Q V;rw [U];exact h.pins i vd Q V
 at_:=λh0=>by
  obtain ⟨h1,Y⟩:=h.at_ h0;obtain ⟨A,H,U,X,W⟩:=g fr h1;obtain ⟨C,J,I⟩:=zap.1 Y;exact ⟨by omega,zap.2 ⟨by unfold Fr.holds;rw [A];exact C,by rw [H];exact J,by rw [A];exact I⟩⟩
 z0:=λi hi=>zbT λe=>by
  obtain ⟨A,H,U,X,W⟩:=g i vd;obtain ⟨C,J,I⟩:=zap.1 e;unfold Fr.holds at C;rw [A] at C I;rw [H] at J;have:=h.z0 i vd;rw [zap.2 ⟨C,J,I⟩] at this;cases this
theorem nb_le {p q:Pl} (H:q.fr.length=p.fr.length) (h:∀ j,j<p.fr.length->(atF p j).idle->(atF q j).idle):nb q.fr<=nb p.fr:=by
 have e:∀ r:Pl,nb r.fr=(List.range r.fr.length).countP (λj=>!decide (atF r j).idle):=λr=>by
  unfold nb
  conv=>lhs;rw [show r.fr=(List.range r.fr.length).map (λj=>atF r j) from List.ext_getElem (by simp) λi I J=>by simp [zaW I]]
  rw [List.countP_map];rfl
 rw [e q,e p,H];refine List.countP_mono_left λj C A=>?_;have:=h j (List.mem_range.1 C);simp only [Bool.not_eq_true',decide_eq_false_iff_not] at A ⊢;exact λe=>A (this e)
theorem zld {y:Pl} {s:tt} (h:∀ i,i<y.fr.length->(atF y i).holds->(atF y i).name≠s):Use y s 0 0 :=
 ⟨λi hi A C=>absurd C (h i hi A),λh=>absurd h (Nat.lt_irrefl 0),λi hi=>zbT λe=>h i hi (zap.1 e).1 (zap.1 e).2.2⟩
structure Sealed (x y:Pl) (s:ByteArray) (w ct B:Nat) (L:List UInt8):Prop where
  ps:Ps y 0
  st:Near x y s
  us:∀ o fr held,o≠s->Use x o fr held->Use y o fr held
  uo:Use y s 0 0
  hd:vw y s ((0:Nat):Int)=Rec.headS w ct
  wr:Wrote y s L
  cl:∀ j,j<y.fr.length->(atF y j).dirty=false
  nb:nb y.fr<=B
  le:∀ j,j<x.fr.length->(atF y j).leased=true->(atF x j).leased=true
theorem Sealed.of {S:Mem} {a p b c q:Nat} {r r':Wt} {x y z:Pl} {n B I w ct:Nat} {L C:List UInt8} {T:Mem} (h:WtT S a p b c q r r' x y n B L T) (g:Sealed y z r'.nm w ct I C) (J:0<ns y.d r.nm):Sealed x z r.nm w ct I C:=by
 have e:=h.nm;rw [e] at g;exact ⟨g.ps,h.st.trans g.st,λo f U A Q=>g.us o f U A (Q.oth h.ot A h.st.l),g.uo,g.hd,g.wr,g.cl,g.nb,λj H e=>h.ot.le h.s.ps (zv1 h.s.ps.d J) h.st.l H (g.le j (by rw [h.st.l];exact H) e)⟩
theorem zt3 {I J:Pl} {n B fr w ct:Nat} {s:tt} {L:List UInt8} (p1:Ps I n) (u1:Use I s fr 0) (n1:nb I.fr<=B) (w1:Wrote I s L) (hk:0<ns I.d s)
  (e2:Ps J 0) (e3:Stays I J) (e4:Alike I J) (e5:∀ j,j<I.fr.length->(atF J j).dirty=false) :
  ∃ d',writeD J.d s ((0:Nat):Int) (Rec.headS w ct)=(d',0)/\Right d' /\ ∀ k,PW { J with d:=settleD d' λ_=>true,writes:=k } /\ ∃ y,dropP { J with d:=settleD d' λ_=>true,writes:=k } s=(y,0)/\Sealed I y s w ct B L:=by
 have u2:=u1.alike e4 e3.l;obtain ⟨d',h1,h2,h3,h4,h5,h6⟩:=zrf e2 (by decide) (s:=s) (u:=Rec.headS w ct) (k:=0) (by rw [e3.n];exact hk) (Top.ziO w ct) u2.z0;obtain ⟨g1,g2⟩:=zoy h2;refine ⟨d',h1,h2.d.r,λk=>?_⟩;obtain ⟨C,A⟩ : ∃ C:Pl,C = { J with d:=settleD d' λ_=>true,writes:=k }:=⟨_,rfl⟩;rw [<- A];have Y:∀ j,atF C j=atF J j:=λj=>by rw [A];rfl
 have l3:C.fr.length=I.fr.length:=by rw [A];exact e3.l
 have p3:Ps C 0:=by rw [A];exact ⟨g1.d,g1.ok,g1.ap,g1.l1,g1.l2⟩
 have v3:∀ o (j:Nat),j<ns I.d o->vw C o (j:Int)=if s=o/\0=j then Rec.headS w ct else vw J o (j:Int):=λo j H=>by
  rw [<- e3.n] at H;rw [A];exact (g2.v o j (by show j<ns d' o;rw [h5];exact H)).trans (h6 o j H)
 have n3:∀ o,ns C.d o=ns I.d o:=λo=>by rw [A];exact (g2.n o).trans ((h5 o).trans (e3.n o))
 have ai:∀ i,i<C.fr.length->ofN s (atF C i)=true->(atF C i).pins=0/\(atF C i).dirty=false:=λi hi U=>by
  have U:(atF J i).holds/\(atF J i).name=s:=by rw [Y] at U;unfold ofN at U;exact of_decide_eq_true U
  rw [Y];refine ⟨?_,e5 i vd⟩;rw [u2.pins i (by rw [e3.l];omega) U.1 U.2,if_neg (λh=>absurd h.1 (Nat.lt_irrefl 0))]
 obtain ⟨y,k1,k2,W,k4,k5⟩:=zoz p3 ai;have ly:y.fr.length=I.fr.length:=W.l.trans l3;have aj:∀ j,ofN s (atF C j)=true->(atF C j).name=s:=λj U=>by unfold ofN at U;exact (of_decide_eq_true U).2
 refine ⟨zeP p3,y,k1,k2,⟨ly,W.z.trans (by rw [A];exact g2.z.trans (h3.trans e3.z)),W.u.trans (by rw [A];exact g2.u.trans (h4.trans e3.u)),λo=>(W.n o).trans (n3 o),λo j U H=>?_⟩,λo f hl U hu=>?_,zld λi hi Q V=>?_,?_,λj H=>?_,λj H=>?_,?_,λj H e=>?_⟩
 ·rw [W.v o j (by rw [n3];exact H),v3 o j H,if_neg (λh=>U h.1.symm),e3.v o j H]
 ·have hu:=hu.alike e4 e3.l;have key:∀ j,j<y.fr.length->(atF y j).holds->(atF y j).name=o->atF y j=atF J j:=λj H Q V=>by
   rw [k5 j vd] at Q V ⊢;by_cases q:ofN s (atF C j)=true
   ·rw [if_pos q] at Q;exact absurd Q n0
   rw [if_neg q,Y]
  refine ⟨λi hi Q V=>?_,λh0=>?_,λi hi=>zbT λe=>?_⟩
  ·have e:=key i hi Q V;rw [e] at Q V ⊢;exact hu.pins i (by rw [e3.l];omega) Q V
  ·obtain ⟨b1,b2⟩:=hu.at_ h0;have q : ¬ ofN s (atF C f)=true:=λq=>U (by have:=aj f q;rw [Y] at this;exact (zap.1 b2).2.2.symm.trans this);exact ⟨by rw [ly,<- e3.l];exact b1,by rw [k5 f (by rw [l3,<- e3.l];exact b1),if_neg q,Y];exact b2⟩
  obtain ⟨b1,b2,b3⟩:=zap.1 e;rw [key i hi b1 b3,hu.z0 i (by rw [e3.l];omega)] at e;cases e
 ·rw [k5 i vd] at Q V;by_cases q:ofN s (atF C i)=true
  ·rw [if_pos q] at Q;exact n0 Q
  rw [if_neg q] at Q V;exact q (by unfold ofN;exact decide_eq_true ⟨Q,V⟩)
 ·rw [W.v s 0 (by rw [n3];exact hk),v3 s 0 hk,if_pos ⟨rfl,rfl⟩]
 ·have X:1+j / 64<ns I.d s:=by rw [W.n,n3] at H;exact H
  rw [<- (w1.stays e3) j (by rw [e3.n];exact X)];unfold byt;rw [W.v s _ (by rw [n3];exact X),v3 s _ X,if_neg (λh=>by omega)]
 ·rw [k5 j vd];split
  ·rfl
  rw [Y];exact e5 j vd
 ·have:=nb_le (p:=C) (q:=y) W.l (λj H ak=>by
   rw [k5 j H];split
   ·exact .inl rfl
   exact ak)
  have e6:=zre e4 e3.l p1 e2;have e7:nb C.fr=nb J.fr:=by rw [A]
  omega
 rw [k5 j vd] at e;split at e
 ·cases e
 rw [Y,(e4 j H).2.2.2.1] at e;exact e
theorem zcx {S T:Mem} {a p b c:Nat} {x:Pl} (h:ArS S a p b c x T):∃ k,T.own a=some (arB p b c x k):=by
 obtain ⟨k,oE,oW,ok,rfl⟩:=h;exact ⟨k,zbf⟩
theorem zv4 {S T:Mem} {a p b c:Nat} {x:Pl} (h:ArS S a p b c x T) {r:Nat} {k:Blk} (A:S.own r=some k):r≠a:=by
 obtain ⟨_,oE,oW,ok,rfl⟩:=h;exact (zeO ok A).a
theorem zsQ {S T:Mem} {a p b c:Nat} {x:Pl} (h:ArS S a p b c x T) {x':Pl} (hd:x'.d=x.d) (A:x'.fr=x.fr) (k:Int):ArS S a p b c x' (T.set a (arB p b c x' k)):=by
 obtain ⟨i,oE,oW,ok,rfl⟩:=h;refine ⟨k,oE,oW,ok.like hd (by rw [A]),?_⟩;rw [zeN A,hd]
theorem zoN {S T:Mem} {a p b c:Nat} {x:Pl} {d':D} {v:tu} (h:ArS S a p b c x T) {f:tA} {args:Array tu}
  (hc:∀ oE oW,OkV S p x.d oE oW->ACall prog f args (devM S p x.d oE oW) λr S'=>∃ C A,OkV S p d' C A/\r=v/\S'=devM S p d' C A) :
  ACall prog f args T λr S'=>r=v/\ArS S a p b c { x with d:=d' } S':=by
 obtain ⟨k,oE,oW,ok,rfl⟩:=h;refine (zhI ok k (hc oE oW ok.v)).mono λr S' ⟨M,⟨H,J,I,Q,U⟩,fb,fa,e⟩=>?_;subst U;exact ⟨Q,k,H,J,⟨I,fb,fa,ok.ab,ok.l⟩,e⟩
theorem zj_ (S:Mem) (a p b c q:Nat) (r:Wt) (x:Pl) (n B:Nat) (L:List UInt8) (T:Mem) (h:WtS S a p b c q r x n B L T) (hw:1<=r.w) (ad:r.w<=8) (af:r.ct<18446744073709551616) (hn:n+x.fr.length<=16384) (hk:0<ns x.d r.nm) :
  ACall prog 115 #[self q] T λv T'=>v = .int .i64 0 /\ ∃ y,ArS (S.set q (wtB a { r with held:=0 })) a p b c y T'/\Sealed x y r.nm r.w r.ct B L:=by
 have hq:=zah h.ar h.ow;unfold wtB at hq;have W:=zlc S a p b c q r x n B L T h;refine k_E1 78 func115 ?_;refine r8_ ?_;refine ca_ rfl (W) ?_;rintro _ T1 ⟨rfl,x1,A⟩;have o1:=zah A.s.ar A.s.ow
 (unfold wtB at o1;dsimp only at o1)
 have Y:x1.fr.length=x.fr.length:=A.st.l;have C:=A.s.nb;rw [if_neg (Nat.lt_irrefl 0)] at C;obtain ⟨I,e1,e2,e3,e4,e5⟩:=zrd A.s.ps (by rw [Y];exact hn);have J:=zdz A.s.ar (λk oE oW ok=>zoH a p b c x1 k _ oE oW ok (zeP A.s.ps));rw [e1] at J;obtain ⟨d',w1,w2,w3⟩:=zt3 (w:=r.w) (ct:=r.ct) A.s.ps A.s.us C A.s.wr (by rw [A.st.n];exact hk) e2 e3 e4 e5;refine r21_ ?_;refine cF_ ?_;refine r9_ ?_;refine ca_ rfl (J) ?_;rintro _ T2 ⟨rfl,X⟩;have o2:=zah X A.s.ow
 (unfold wtB at o2;dsimp only at o2)
 obtain ⟨i2,aa⟩:=zcx X;unfold arB at aa;have ae:=zoN (v:=.int .i64 0) X (λoE oW ok=>by have:=zd2 p I.d r.nm ((0:Nat):Int) (Rec.headS r.w r.ct) _ oE oW ok e2.d.r (by rw [e2.d.f];decide);rw [w1] at this;exact this);refine r9_ ?_;refine kw_ [0,2,3,16,4,28] ?_;refine cF_ ?_;refine r4_ ?_;refine dr_ [i0_,i1_,i2_,i3_,i4_,i5_,i6_,i7_,i8_,i9_,i10_,i11_,i12_,i13_,i14_,i15_,o16_,o17_,i18_] [17] ?_;refine r16_ ?_;refine zac rfl ?_;refine cp_ rfl (Rec.zgR r.w r.ct _ ad af) ?_;refine zad ⟨ny_,?_⟩;refine zac rfl ?_;refine ca_ rfl (ae) ?_;rintro _ T3 ⟨rfl,V⟩;have o3:=zah V A.s.ow
 (unfold wtB at o3;dsimp only at o3)
 obtain ⟨i3,Q⟩:=zcx V;unfold arB at Q;dsimp only at Q;have av:=zv4 V A.s.ow;refine zad ⟨nz_,?_⟩;refine r9_ ?_;refine cF_ ?_;refine r17_ ?_;have h4:=zsQ V (x':={ I with d:=d',writes:=up1 I.writes }) rfl rfl i3;have H:=zoN (d':=settleD d' λ_=>true) (v:=.tuple #[]) h4 (λoE oW ok=>zfc p d' _ oE oW ok w2)
 (unfold arB up1 at H;dsimp only at H)
 refine r9_ ?_;refine ca_ rfl (H) ?_;rintro _ T4 ⟨rfl,h5⟩;have o5:=zah h5 A.s.ow
 (unfold wtB at o5;dsimp only at o5)
 obtain ⟨ac,y,k1,hS⟩:=w3 (up1 I.writes);have U:=zdz h5 (λk oE oW ok=>zla a p b c { I with d:=settleD d' λ_=>true,writes:=up1 I.writes } r.nm k _ oE oW ok ac);rw [k1] at U;refine r3_ ?_;refine dr_ [i0_,i1_,i2_,i3_,i4_,i5_,i6_,i7_,o8_,i9_] [8] ?_;refine r8_ ?_;refine zac rfl ?_;refine ca_ rfl (U) ?_;rintro _ T5 ⟨rfl,h6⟩;refine zad ⟨nz_,?_⟩;refine r3_ ?_;refine kw_ [0,2,3,16,4,28,5,49] ?_;refine s1_ ?_;refine ⟨_,T5,⟨_,_,rfl,rfl,rfl⟩,Mem.Less.refl _,?_⟩;exact ⟨rfl,y,h6,hS.of A (by rw [A.st.n];exact hk)⟩
structure Made (x y:Pl) (s:ByteArray) (m:Nat):Prop where
  fr:y.fr=x.fr
  z:y.d.size=x.d.size
  u:used y.d.ext=used x.d.ext+m
  n:∀ o,ns y.d o=if s=o then m else ns x.d o
  v:∀ o (j:Nat),j<ns x.d o->vw y o (j:Int)=vw x o (j:Int)
theorem zv5 {S T:Mem} {a p b c q:Nat} {x:Pl} {d':D} {s:tt} {w m n B:Nat} (hp:Ps x n) (V:ns x.d s=0) (hB:nb x.fr<=B) (U:Ps { x with d:=d' } n) (g3:d'.size=x.d.size) (g4:used d'.ext=used x.d.ext+m) (J:∀ o,ns d' o=if s=o then m else ns x.d o)
  (Y:∀ j:Nat,j<m->vw { x with d:=d' } s (j:Int)=zs) (g7:∀ o (j:Nat),j<ns x.d o->vw { x with d:=d' } o (j:Int)=vw x o (j:Int)) (h:ArS S a p b c { x with d:=d' } T) (hq:Fresh T q) :
  Fresh S q/\WtS (S.set q (wtB a ⟨s,w,0,0,0,0⟩)) a p b c q ⟨s,w,0,0,0,0⟩ { x with d:=d' } n B [] (T.set q (wtB a ⟨s,w,0,0,0,0⟩))/\Made x { x with d:=d' } s m:=by
 obtain ⟨W,Q⟩:=zaz h hq (wtB a ⟨s,w,0,0,0,0⟩);have A:∀ i,i<x.fr.length->(atF x i).holds->(atF x i).name≠s:=λi hi C e=>by
  have I:=zb0 (hp.ok i hi) C;have a1:=I.s0;have a2:=I.s1;rw [e,V] at a2;omega
 refine ⟨W,⟨Q,vf _ _ _,U,⟨λi hi C X=>absurd X (A i hi C),λh=>absurd h (Nat.lt_irrefl 0),λi hi=>zbT λe=>A i hi (zap.1 e).1 (zap.1 e).2.2⟩,hB,rfl,λj hj=>?_⟩,⟨rfl,g3,g4,J,g7⟩⟩;have H:1+j / 64<m:=by have:=J s;rw [if_pos rfl] at this;rw [<- this];exact hj
 unfold byt;rw [Y _ H];unfold zs;rw [bs_data,List.getD_eq_getElem?_getD,List.getElem?_replicate];split <;> rfl
theorem zw6 (S:Mem) (a p b c:Nat) (x:Pl) (s:tt) (w ct n B:Nat) (T:Mem) (h:ArS S a p b c x T) (U:Ps x n) (hs:nm s) (V:ns x.d s=0) (hw:w<=8) (ah:ct<=65536) (hr:(used x.d.ext:Int)+(Rec.needN w ct:Nat)<=x.d.size) (hB:nb x.fr<=B) :
  ACall prog 65 #[self a,.string s,.int .i64 (w:Nat),.int .u64 (ct:Nat)] T λv T'=>∃ q y,v = .tuple #[self q,.int .i64 0]/\Fresh S q/\WtS (S.set q (wtB a ⟨s,w,0,0,0,0⟩)) a p b c q ⟨s,w,0,0,0,0⟩ y n B [] T'/\Made x y s (Rec.needN w ct):=by
 obtain ⟨i1,Q⟩:=zcx h;unfold arB at Q;have C:=Rec.zfh (w:Int) ct;rw [show Rec.needP (w:Int) ct=(((Rec.needN w ct:Nat):Int),0) from by unfold Rec.needP;rw [if_neg vd,Int.toNat_natCast]] at C;unfold Rec.needV at C;obtain ⟨d',g1,X,g3,g4,g5,g6,g7⟩:=zvY U hs V (Rec.za7 w ct) hr;have J:=zoN (v:=.int .i64 0) h (λoE oW ok=>by have:=zjH p x.d s ((Rec.needN w ct:Nat):Int) S oE oW ok U.d.r;rw [g1] at this;exact this);refine k_E4 35 func65 ?_;refine r10_ ?_;refine cp_ rfl (C _) ?_;refine r14_ ?_;refine cT_ ?_;refine r7_ ?_;refine ca_ rfl (J) ?_;rintro _ T1 ⟨rfl,h2⟩;refine r10_ ?_;refine cF_ ?_;refine r8_ ?_;refine k_b7 rfl ?_;intro I H;have A:=H
 repeat ((with_reducible replace A:=zaa A);obtain ⟨A,_⟩:=A)
 refine nl_ ?_;refine r4_ ?_;refine kw_ [0,1,2,3,8,9,10,11,19,28] ?_;obtain ⟨Y,W,k3⟩:=zv5 (w:=w) U V hB X g3 g4 g5 g6 g7 h2 H;refine s1_ ?_;refine ⟨_,T1.set I (wtB a ⟨s,w,0,0,0,0⟩),⟨_,_,rfl,⟨_,_,rfl,rfl,rfl⟩,rfl⟩,zae,?_⟩;exact ⟨I,_,rfl,Y,W,k3⟩
end Sto
end
section
open Go.RowKit
open Mv Disk Num
theorem zrp (L:List UInt8) (g c o n m:Nat) (S:Mem) (C:S.own g=some ⟨5,cellsB L,c⟩) (U:o+5<=L.length) (Q:5<=n) (J:n<=140737488355328) :
  ACall prog 223 #[.slice (some ⟨g,o,none⟩) n m] S λr S'=>r = .int .u64 (ofB ((L.drop o).take 5):Nat)/\S'=S:=by
 refine k_E1 18 func223 ?_;refine r17_ ?_;refine AWP.loop (X:=Nat) (λx=>[(0,.slice (some ⟨g,o,none⟩) n m),(3,.int .u64 (ofB ((L.drop o).take x):Nat)),(5,.int .i64 x)]) (λx=>S) (λx=>x<=5) (λx=>5-x) (0) ⟨rfl,rfl,rfl,trivial⟩ (Mem.Less.refl _) (Nat.zero_le _) ?_;rintro k V;(try dsimp only at *);by_cases H:k<5
 ·have hd:(L.drop o).length=L.length-o:=List.length_drop;have A:=zvR (ofB ((L.drop o).take k)) (at8 (L.drop o) k) (ziA _ _ vd);rw [<- zkY _ _ vd] at A;have I:(cellsB L)[o+k]?=some (.int .u8 (nb (at8 (L.drop o) k))):=by
   rw [show at8 (L.drop o) k=L[o+k]'vd from by unfold at8;rw [List.getD_eq_getElem?_getD,List.getElem?_drop,List.getElem?_eq_getElem vd];rfl];unfold cellsB;rw [List.getElem?_map,List.getElem?_eq_getElem vd];rfl
  refine r6_ ?_;refine cT_ ?_;refine r16_ ?_;refine rC (Calm.load zlR rfl (zcq C (by rw [show o+((k:Nat):Int).toNat*1=o+k from by omega];exact I))) ?_;refine r11_ ?_;refine ⟨k+1,?_,?_,?_,?_⟩<;>try dsimp only
  ·exact ⟨rfl,zan A,zan vd,trivial⟩
  ·exact Mem.Less.refl _
  ·exact H
  omega
 obtain rfl:k=5:=by omega
 refine r6_ ?_;refine cF_ ?_;refine r12_ ?_;refine ⟨_,S,⟨_,_,rfl,rfl,rfl⟩,zae,?_⟩;exact ⟨rfl,rfl⟩
namespace Sto
open Rec (eachN)
theorem zoO (a q:Nat) (r:Rd) (T:Mem) (I:T.own q=some (rdB a r)) (Q:r.w<=8) (hc:r.ct<=65536) (U:r.at_<=4294967296) :
  ACall prog 221 #[self q] T λv T'=>v = .bool (decide (r.at_<eachN r.w*r.ct))/\T'=T:=by
 have H:eachN r.w<=40:=by unfold Rec.eachN;split <;> omega
 have V:eachN r.w*r.ct<=40*65536:=Nat.mul_le_mul H hc;have A:=λS=>Rec.zfg r.w S Q;have e1:((eachN r.w:Nat):Int)*((r.ct:Nat):Int)=((eachN r.w*r.ct:Nat):Int):=(Int.natCast_mul _ _).symm;unfold rdB at I;generalize eachN r.w*r.ct=m at *;refine k_E1 26 func221 ?_;refine r6_ ?_;refine dr_ [i0_,i1_,i2_,i3_,i4_,i5_,i6_,i7_,i8_,i9_,i10_,i11_,i12_,i13_,i15_,i16_,i17_,i18_,i19_,o14_,i20_,i21_,i22_,i23_] [] ?_;refine r4_ ?_;refine dP (hc:=λ_=>vi rfl rfl (zag (c:=true) (zaV _ _) (decide_eq_true rfl))) (h:=?_);refine r14_ ?_;refine zac rfl ?_;refine vv 5 true 8 rfl (zab rfl) rfl (zab rfl) zvs rfl (A _) ?_;rintro _ J ⟨rfl,C⟩;rw [C];clear C J;refine zad ⟨ny_,?_⟩
 first|refine k_d ?_|refine dG (hc:=λ_=>vi rfl rfl (ze_ (c:=(m:Int)) (by rw [e1];exact IntWalk.i64_in _ vd))) (h:=?_)
 first|refine k_d ?_|refine dG (hc:=λ_=>vi rfl rfl (zag (c:=decide (r.at_<m)) (za9 _ _) (by rw [decide_eq_decide];omega))) (h:=?_)
 refine r5_ ?_;refine ⟨_,T,⟨_,_,rfl,rfl,rfl⟩,zae,?_⟩;exact ⟨rfl,rfl⟩
end Sto
end
section
open Go.RowKit
open Mv Disk Num
namespace Sto
open Rec (eachN)
def five (L:List UInt8) (i:Nat):Nat:=ofB ((L.drop (5*i)).take 5)
def recN (L:List UInt8) (i w:Nat):List Nat:=(List.range w).map λj=>if j<i then five L j else 0
def recW (L:List UInt8) (w:Nat):List Nat:=(List.range w).map (five L)
theorem zrq (L:List UInt8) (i w:Nat):(recN L i w).length=w:=by unfold recN;simp
theorem zoP (L:List UInt8) (w:Nat):recN L 0 w=List.replicate w 0:=by
 unfold recN;refine List.ext_getElem (by simp) λj A C=>?_;simp
theorem zrr (L:List UInt8) (w:Nat):recN L w w=recW L w:=by
 unfold recN recW;exact List.map_congr_left λj A=>if_pos (List.mem_range.1 A)
def nU (n:Nat):tu:=.int .u64 (n:Int)
theorem zrs (L:List UInt8) {i w:Nat} (h:i<w):(recN L (i+1) w).map nU=((recN L i w).map nU).set i (nU (five L i)):=by
 rw [<- List.map_set];congr 1;unfold recN;refine List.ext_getElem (by simp) λj A C=>?_;rw [List.getElem_set,List.getElem_map,List.getElem_map,List.getElem_range];by_cases e:i=j
 ·subst e;rw [if_pos rfl,if_pos (Nat.lt_succ_self i)]
 rw [if_neg e];by_cases q:j<i
 ·rw [if_pos q,if_pos vd]
 rw [if_neg q,if_neg vd]
theorem zmr {M:Mem} {g k:Nat} {r r':Blk} (C:M.own g=none) (A:k≠g):(M.set k r').Less ((M.set g r).set k r'):=by
 rw [vC M _ _ (Ne.symm A)];exact vh _ _ _ ((vg _ _ (Ne.symm A)).trans C)
theorem ziU {w:Nat} (h:1<=w):eachN w=5*w:=by unfold Rec.eachN;rw [if_neg vd]
theorem zg1 (a q:Nat) (r:Rd) (T:Mem) (I:T.own q=some (rdB a r)) (J:r.w<=8) (hc:r.ct<=65536) (A:r.at_<=4294967296) (H:eachN r.w*r.ct<=r.at_) :
  ACall prog 167 #[self q] T λv T'=>v = .tuple #[.slice none 0 0,.bool false]/\T'=T:=by
 have C:=zoO a q r T I J hc A;rw [decide_eq_false vd] at C;refine k_E1 43 func167 ?_;refine r10_ ?_;refine cp_ rfl (C) ?_;refine r3_ ?_;refine cT_ ?_;refine r8_ ?_;refine ⟨_,T,⟨_,_,rfl,⟨_,_,rfl,rfl,rfl⟩,rfl⟩,zae,?_⟩;exact ⟨rfl,rfl⟩
theorem zoQ (S:Mem) (a p b c q:Nat) (r:Rd) (x:Pl) (n B:Nat) (T:Mem) (h:RdS S a p b c q r x n B T) (Y:1<=r.w) (hw:r.w<=8) (hc:r.ct<=65536) (am:r.at_+5*r.w<=5*r.w*r.ct) (hk:1+(r.at_+5*r.w-1) / 64<ns x.d r.nm) (hn:n+5*r.w<=16384) (hB:B<x.fr.length) :
  ACall prog 167 #[self q] T λv T'=>∃ y f hd M g,v = .tuple #[.slice (some ⟨g,0,none⟩) r.w r.w,.bool true]/\Fresh M g/\T'=M.set g ⟨27,(recW (run x r.nm r.at_ (5*r.w)) r.w).map nU,r.w⟩/\RdT S a p b c q r { r with at_:=r.at_+5*r.w,fr:=f,held:=hd } x y (n+5*r.w) B M:=by
 have Q:=ziU Y;have ag:5*r.w*r.ct<=40*65536:=Nat.mul_le_mul vd hc;have hq:=zah h.ar h.ow;have hm:=zoO a q r T hq hw hc vd;rw [Q,decide_eq_true vd] at hm;have U:=λS=>Rec.zfg r.w S hw;rw [Q] at U;have V:=zrn S a p b c q r x n B (5*r.w) T h vd vd vd hk hn hB;unfold rdB at hq;refine k_E1 43 func167 ?_;refine r10_ ?_;refine cp_ rfl (hm) ?_;refine r3_ ?_;refine cF_ ?_;refine r9_ ?_;refine cp_ rfl (U _) ?_;refine ca_ rfl (V) ?_;rintro _ S1 ⟨y,f,hd,M,g,J,rfl,an,hg,h1,hT⟩;rw [h1];clear h1 S1;have A:=zah hT.s.ar hT.s.ow
 (unfold rdB at A;dsimp only at A)
 have W:q≠g:=λe=>by rw [e] at A;rw [hg.1] at A;cases A
 have o1:=(vg M ⟨5,cellsB (run x r.nm r.at_ (5*r.w)),J⟩ W).trans A;have hL:=zoK x r.nm r.at_ (5*r.w);generalize run x r.nm r.at_ (5*r.w)=L at *;refine r14_ ?_;refine cF_ ?_;refine r8_ ?_;refine ARun.makeSlice (zab rfl) zbi rfl rfl vd vd vd vd ?_;intro H I;have C:=I
 repeat ((with_reducible replace C:=zaa C);obtain ⟨C,_⟩:=C)
 have:=C.ne A;have:=C.ne' A
 refine r11_ ?_;refine kw_ [0,2,3,10,4,5,22,6,29,30] ?_;refine s1_ ?_;refine AWP.loop (X:=Nat) (λi=>[(0,self q),(4,.slice (some ⟨g,0,none⟩) (5*r.w) J),(6,.slice (some ⟨H,0,none⟩) r.w r.w),(29,.int .i64 (r.w:Nat)),(30,.int .i64 (i:Nat))]) (λi=>(M.set g ⟨5,cellsB L,J⟩).set H ⟨27,(recN L i r.w).map nU,r.w⟩) (λi=>i<=r.w) (λi=>r.w-i) (0) ⟨rfl,rfl,rfl,rfl,rfl,trivial⟩ (zfZ (by rw [zoP,Int.toNat_natCast,Nat.mul_one,zaT,List.map_replicate];rfl)) (Nat.zero_le _) ?_;rintro i hi;(try dsimp only at *);by_cases q1:i<r.w
 ·have ac:=zrp L g J (5*i) (5*r.w-5*i) (J-5*i) ((M.set g ⟨5,cellsB L,J⟩).set H ⟨27,(recN L i r.w).map nU,r.w⟩) ((vg _ _ (zaa I).2.symm).trans (vf _ _ _)) vd vd vd;refine r6_ ?_;refine cT_ ?_;refine r16_ ?_;refine rC (Calm.as (v':=.slice (some ⟨g,5*i,none⟩) (5*r.w-5*i) (J-5*i)) (congrArg (λz=>Value.slice (some ⟨g,z,none⟩) (5*r.w-5*i) (J-5*i)) (show 0+5*i*1=5*i from by omega)) (vE (5*i) underlying57 zci rfl rfl vd vd vd)) ?_;refine cp_ rfl (ac) ?_;refine s1_ ?_;refine vk rfl rfl zai rfl (vf _ _ _) (by show 0+(i:Int).toNat*1<((recN L i r.w).map nU).length;rw [List.length_map,zrq];omega) rfl ?_
  try simp only [k_ms,k_sz,k_ss,k_za,Nat.reduceAdd]
  refine r8_ ?_;refine ⟨i+1,?_,?_,?_,?_⟩<;>try dsimp only
  ·exact ⟨rfl,rfl,rfl,rfl,zan vd,trivial⟩
  ·(rw [zrs L q1,show (i:Int).toNat*1=i from by omega];exact Mem.Less.refl _)
  ·exact q1
  omega
 obtain rfl:i=r.w:=by omega
 refine r6_ ?_;refine cF_ ?_;refine r13_ ?_;refine ⟨_,M.set H ⟨27,(recW L r.w).map nU,r.w⟩,⟨_,_,rfl,⟨_,_,rfl,rfl,rfl⟩,rfl⟩,(by rw [zrr];exact zmr hg.1 (zaa I).2),?_⟩;exact ⟨y,f,hd,M,H,rfl,(zaa I).1,rfl,hT⟩
end Sto
end
section
open Go.RowKit
open Mv Disk
theorem zt4 (n:Nat):madeL (frF F0) (n*7)=(List.replicate n F0).flatMap frF:=by
 have J:((List.replicate n F0).flatMap frF).length=n*7:=by rw [zas zfY];simp
 refine List.ext_getElem? λj=>?_;by_cases C:j<n*7
 ·have hi:j / 7<(List.replicate n F0).length:=by rw [List.length_replicate];omega
  have H:j % 7<(frF F0).length:=Nat.mod_lt _ (by decide);have h:=zdV zfY (List.replicate n F0) (j / 7) hi (j % 7) _ (by rw [List.getElem_replicate];exact List.getElem?_eq_getElem H);rw [show j / 7*7+j % 7=j from by omega] at h;rw [h,List.getElem?_eq_getElem (by rw [zbq];exact C)];congr 1;have I:(frF F0).toArray.size=7:=rfl;have:(madeL (frF F0) (n*7))[j]'(by rw [zbq];exact C)=(frF F0).toArray[j % 7]!:=by
   unfold madeL madeCells;simp [I]
  rw [this];have A:j % 7<7:=Nat.mod_lt _ (by decide);generalize j % 7=q at *
  match q,A with
  | 0,_=>rfl
  | 1,_=>rfl
  | 2,_=>rfl
  | 3,_=>rfl
  | 4,_=>rfl
  | 5,_=>rfl
  | 6,_=>rfl
 rw [List.getElem?_eq_none (by rw [zbq];omega),List.getElem?_eq_none vd]
def newP (d:D) (n:Nat):Pl:=⟨d,List.replicate n F0,0,0,0⟩
theorem zee (d:D) (n:Nat):(newP d n).fr.length=n:=by unfold newP;simp
theorem zt5 (p n:Nat) (d:D) (T:Mem) (U:1<=n) (V:n<=256) :
  ACall prog 55 #[.pointer (some ⟨p,0,none⟩),.int .i64 (n:Nat)] T λr S'=>∃ a b,r = .pointer (some ⟨a,0,none⟩)/\Fresh T b/\Fresh T a/\a≠b/\S'=arM T a p b n (newP d n) 0:=by
 refine k_E2 10 func55 ?_;refine r9_ ?_;refine ARun.makeSlice (zab rfl) znk rfl rfl vd vd vd vd ?_;intro Q I;have C:=I
 repeat ((with_reducible replace C:=zaa C);obtain ⟨C,_⟩:=C)
 refine s1_ ?_;refine vD (cs:=[_,_,_,_,_,_]) (zab rfl) rfl ?_;intro J H;have A:=H
 repeat ((with_reducible replace A:=zaa A);obtain ⟨A,_⟩:=A)
 refine nl_ ?_;refine r4_ ?_;refine ⟨_,arM T J p Q n (newP d n) 0,⟨_,_,rfl,rfl,rfl⟩,zfZ (by unfold arM arB frB;rw [zee,show (newP d n).fr.flatMap frF=madeL (frF F0) (n*7) from (zt4 n).symm];rfl),?_⟩;exact ⟨J,Q,rfl,I,(zaa H).1,(zaa H).2,rfl⟩
end
section
open Go.RowKit
open Mv Disk Num
namespace Sto
theorem zeQ (d:D) (m i:Nat):atF (newP d m) i=F0:=by
 unfold atF newP;rw [List.getD_eq_getElem?_getD,List.getElem?_replicate];split <;> rfl
theorem zrt {d:D} {m n:Nat} (hd:Dw d n) (A:1<=m) (C:m<=256):Ps (newP d m) n where
 d:=hd
 ok:=λi _=>.inl (zeQ d m i)
 ap:=λi j _ _ _ h=>by rw [zeQ] at h;exact n0 h.1
 l1:=by rw [zee];exact A
 l2:=by rw [zee];exact C
theorem zt6 (d:D) (m:Nat) (s:tt):Use (newP d m) s 0 0 where
 pins:=λi _ A _=>by rw [zeQ] at A;exact absurd A n0
 at_:=λh=>absurd h (Nat.lt_irrefl 0)
 z0:=λi _=>by rw [zeQ];exact zeb _ _
theorem zsR (d:D) (m:Nat) (s:tt) (k:Int):vw (newP d m) s k=seen d s k:=zf0 λi _=>by rw [zeQ];exact zeb _ _
theorem zv6 (d:D) (m:Nat):nb (newP d m).fr=0:=by
 unfold nb newP;rw [List.countP_replicate,if_neg];simp [show F0.idle from .inl rfl]
structure Has (x:Pl) (s:ByteArray) (w c:Nat) (L:List UInt8):Prop where
  n:ns x.d s=Rec.needN w c
  h:vw x s ((0:Nat):Int)=Rec.headS w c
  b:Wrote x s L
  l:L.length=Rec.eachN w*c
theorem Has.pos {x:Pl} {s:tt} {w c:Nat} {L:List UInt8} (h:Has x s w c L):0<ns x.d s:=by rw [h.n];exact Rec.za7 w c
theorem Has.stays {x y:Pl} {s:tt} {w c:Nat} {L:List UInt8} (h:Has x s w c L) (g:Stays x y):Has y s w c L :=
 ⟨(g.n s).trans h.n,(g.v s 0 h.pos).trans h.h,h.b.stays g,h.l⟩
theorem Has.near {x y:Pl} {s o:tt} {w c:Nat} {L:List UInt8} (h:Has x s w c L) (g:Near x y o) (A:s≠o):Has y s w c L :=
 ⟨(g.n s).trans h.n,(g.v s 0 A h.pos).trans h.h,h.b.near g A,h.l⟩
theorem Has.made {x y:Pl} {s o:tt} {w c m:Nat} {L:List UInt8} (h:Has x s w c L) (g:Made x y o m) (A:s≠o):Has y s w c L:=by
 have e:ns y.d s=ns x.d s:=by rw [g.n,if_neg (Ne.symm A)]
 refine ⟨e.trans h.n,(g.v s 0 h.pos).trans h.h,λj C=>?_,h.l⟩;rw [e] at C;rw [<- h.b j C];unfold byt;rw [g.v s _ C]
theorem zru (l:List UInt8) (k j:Nat):(l ++ List.replicate k 0).getD j 0=l.getD j 0:=by
 rw [List.getD_eq_getElem?_getD,List.getD_eq_getElem?_getD];by_cases q:j<l.length
 ·rw [List.getElem?_append_left q]
 rw [List.getElem?_append_right vd,List.getElem?_replicate,List.getElem?_eq_none (l:=l) vd];split <;> rfl
theorem ziV (s:tt) (i t:Nat) (h:t<64):(Rec.secAt s i).data.toList.getD t 0=s.data.toList.getD (64*i+t) 0:=by
 unfold Rec.secAt;rw [Lib.extract_data,List.getD_eq_getElem?_getD,List.getD_eq_getElem?_getD,List.getElem?_take_of_lt vd,List.getElem?_drop]
theorem zoR (s:tt) (j:Nat):(Rec.padS s).data.toList.getD j 0=s.data.toList.getD j 0:=by rw [Rec.zfU,zru]
theorem zoS {d:D} {s body:tt} {w c m n:Nat} (hd:Dw d n) (h:Rec.FileR d s w c body) (J:body.size=Rec.eachN w*c):Has (newP d m) s w c body.data.toList:=by
 have e0:=zcZ hd.r hd.u s 0;rw [h.head] at e0;have C:(placeD d s 0).2=0:=by
  by_cases q:(placeD d s 0).2=0
  ·exact q
  rw [if_pos q] at e0;exact absurd (Prod.mk.inj e0).2.symm q
 rw [if_neg (by rw [C];simp)] at e0;obtain ⟨I,_,_⟩:=zd6 C;have Q:ns d s=Rec.needN w c:=by
  have:=Rec.zdM hd.r hd.u I;rw [h.size] at this;have:=(Prod.mk.inj this).1;unfold ns;rw [if_pos I];omega
 refine ⟨Q,?_,λj A=>?_,?_⟩
 ·rw [zsR];exact (Prod.mk.inj e0).1.symm
 ·have A:1+j / 64<ns d s:=A;unfold byt;rw [zsR];have H:=h.secs (j / 64) vd;rw [show (j / 64+1:Nat)=1+j / 64 from Nat.add_comm _ _,zcZ hd.r hd.u,zcK A,if_neg (by simp)] at H;rw [(Prod.mk.inj H).1,ziV _ _ _ vd,zoR,show 64*(j / 64)+j % 64=j from by omega]
 rw [Array.length_toList];exact J
theorem zt7 {x:Pl} {n:Nat} (A:Ps x n) (hc:∀ j,j<x.fr.length->(atF x j).dirty=false) (s:tt) (k:Int):vw x s k=seen x.d s k:=by
 rcases ztN (p:=x) s k with ⟨i,hi,e⟩ | e
 ·rw [zgm A hi e];obtain ⟨a,b,c⟩:=zap.1 e;rw [(zb0 (A.ok i hi) a).c (hc i hi),b,c]
 exact zf0 e
theorem zhN {x:Pl} {n:Nat} (A:Ps x n) (hc:∀ j,j<x.fr.length->(atF x j).dirty=false) {s:tt} {w c:Nat} {L:List UInt8} (h:Has x s w c L):Rec.FileR x.d s w c (bs L):=by
 have I:has x.d.ext s=true:=(zc5 A.d s).2 h.pos;have J:∀ k:Nat,k<ns x.d s->readO x.d s (k:Int)=(vw x s (k:Int),0):=λk C=>by
  rw [zcZ A.d.r A.d.u,zcK C,if_neg (by simp),zt7 A hc]
 refine ⟨(J 0 h.pos).trans (by rw [h.h]),λi hi=>?_,?_⟩
 ·have C:i+1<ns x.d s:=by rw [h.n];omega
  rw [J _ C];refine Prod.ext ?_ rfl;show vw x s ((i+1:Nat):Int)=_;have V:=zj6 A C;have H:(bs L).size=L.length:=zaJ L;have X:(Rec.secAt (Rec.padS (bs L)) i).size=64:=Rec.zgM (by
   rw [Rec.zdd,H,h.l];unfold Rec.needN at hi;omega)
  apply zbG;have l1:(vw x s ((i+1:Nat):Int)).data.toList.length=64:=by rw [Array.length_toList];exact V
  have l2:(Rec.secAt (Rec.padS (bs L)) i).data.toList.length=64:=by rw [Array.length_toList];exact X
  refine List.ext_getElem (by rw [l1,l2]) λt W U=>?_;have Q:t<64:=by omega
  have e1:=h.b (64*i+t) vd;unfold byt at e1;rw [show 1+(64*i+t) / 64=i+1 from by omega,show (64*i+t) % 64=t from by omega] at e1;have e2:=ziV (Rec.padS (bs L)) i t Q;rw [zoR,bs_data,<- e1] at e2;rw [List.getD_eq_getElem?_getD,List.getElem?_eq_getElem U,List.getD_eq_getElem?_getD,List.getElem?_eq_getElem W] at e2;exact e2.symm
 rw [Rec.zdM A.d.r A.d.u I];have:=h.n;unfold ns at this;rw [if_pos I] at this;rw [this]
/-! ### Records -/
theorem zka {α β : Type} (f : α->List β) (n:Nat):∀ (l:List α),(∀ r ∈ l,(f r).length=n) -> ∀ (i:Nat) (hi:i<l.length) (t:Nat),t<n->(l.flatMap f)[n*i+t]?=(f l[i])[t]?
 | [],_,i,hi,_,_=>by cases hi
 | x :: l,hl,0,_,t,ht=>by
  have:=hl x (List.mem_cons_self ..);rw [List.flatMap_cons,Nat.mul_zero,Nat.zero_add,List.getElem?_append_left vd];rfl
 | x :: l,hl,i+1,hi,t,ht=>by
  have:=hl x (List.mem_cons_self ..);have A:i<l.length:=by simpa using hi
  rw [List.flatMap_cons,List.getElem?_append_right (by rw [this,Nat.mul_add,Nat.mul_one];omega),this,Nat.mul_add,Nat.mul_one,show n*i+n+t-n=n*i+t from by omega,zka f n l (λr C=>hl r (List.mem_cons_of_mem _ C)) i A t ht];rfl
theorem zhO {α β : Type} (f : α->List β) (n:Nat):∀ (l:List α),(∀ r ∈ l,(f r).length=n)->(l.flatMap f).length=n*l.length
 | [],_=>rfl
 | x :: l,hl=>by
  rw [List.flatMap_cons,List.length_append,zhO f n l (λr A=>hl r (List.mem_cons_of_mem _ A)),hl x (List.mem_cons_self ..),List.length_cons,Nat.mul_add,Nat.mul_one,Nat.add_comm]
def RowsOK (w:Nat) (l:List (List Nat)):Prop:=∀ r ∈ l,r.length=w /\ ∀ n ∈ r,n<top
theorem zd9 (r:List Nat):(recB r).length=5*r.length:=zhO Num.five 5 r λ_ _=>rfl
theorem zoT {r:List Nat} (h:∀ n ∈ r,n<top):recW (recB r) r.length=r:=by
 unfold recW;refine List.ext_getElem (by simp) λi C A=>?_;rw [List.getElem_map,List.getElem_range];unfold Sto.five;have e:((recB r).drop (5*i)).take 5=Num.five r[i]:=by
  refine List.ext_getElem? λt=>?_;by_cases q:t<5
  ·rw [List.getElem?_take_of_lt q,List.getElem?_drop];exact zka Num.five 5 r (λ_ _=>rfl) i A t q
  rw [List.getElem?_eq_none (by rw [List.length_take];omega),List.getElem?_eq_none (by show 5<=t;omega)]
 rw [e,zhB _ (h _ (List.getElem_mem A))]
theorem zoU {x:Pl} {s:tt} {w c:Nat} {rows:List (List Nat)} (h:Has x s w c (rows.flatMap recB)) (U:1<=w) (hc:rows.length=c) (I:RowsOK w rows) {i:Nat} (hi:i<rows.length):recW (run x s (5*w*i) (5*w)) w=rows[i]:=by
 have C:∀ r ∈ rows,(recB r).length=5*w:=λr H=>by rw [zd9,(I r H).1]
 have H:=I _ (List.getElem_mem hi);have A:5*w*(i+1)<=5*w*c:=Nat.mul_le_mul_left _ vd;rw [Nat.mul_add,Nat.mul_one] at A;have e:run x s (5*w*i) (5*w)=recB rows[i]:=by
  unfold run;refine List.ext_getElem (by rw [List.length_map,List.length_range,C _ (List.getElem_mem hi)]) λt J Q=>?_;rw [List.length_map,List.length_range] at J;rw [List.getElem_map,List.getElem_range,h.b (5*w*i+t) (by
   rw [h.n];unfold Rec.needN Rec.eachN;rw [if_neg vd];omega),List.getD_eq_getElem?_getD,zka recB (5*w) rows C i hi t J,List.getElem?_eq_getElem Q]
  rfl
 rw [e];have:=zoT H.2;rwa [H.1] at this
theorem zsS {x:Pl} {s:tt} {w c:Nat} {L:List UInt8} (h:Has x s w c L) (C:1<=w) {i:Nat} (hi:i<c):5*w*i+5*w<=5*w*c/\1+(5*w*i+5*w-1) / 64<ns x.d s:=by
 have A:5*w*(i+1)<=5*w*c:=Nat.mul_le_mul_left _ vd;rw [Nat.mul_add,Nat.mul_one] at A;refine ⟨A,?_⟩;rw [h.n];unfold Rec.needN Rec.eachN;rw [if_neg vd];omega
theorem zef {w:Nat} {rows:List (List Nat)} (H:1<=w) (A:RowsOK w rows):(rows.flatMap recB).length=Rec.eachN w*rows.length:=by
 rw [zhO recB (5*w) rows (λr C=>by rw [zd9,(A r C).1])];unfold Rec.eachN;rw [if_neg vd]
end Sto
end
section
open Go.RowKit
open Mv
namespace Run
theorem zv7 {P:tz} {t:tx} {x y:tw} {i j:Int} {a b:Nat} (hi:i=(a:Int)) (A:j=(b:Int)) (C:0<b) (H:a<=9223372036854775807):Bin P .quo t x y (.int .i64 i) (.int .i64 j) (.int .i64 ((a / b:Nat):Int)):=by
 subst hi A;refine zkC vd ?_;rw [<- Int.ofNat_tdiv];have:=Nat.div_le_self a b;generalize a / b=q at *;exact IntWalk.i64_in _ vd
def sizeN (m w:Nat):Nat:=64*(m-8) / (5*w)
theorem zrv (m w:Nat) (S:Mem) (H:24<=m) (I:m<=256) (A:1<=w) (C:w<=8) :
  ACall prog 227 #[.int .i64 (m:Nat),.int .i64 (w:Nat)] S λr S'=>r = .tuple #[.int .i64 (sizeN m w:Nat),.int .i64 0]/\S'=S:=by
 unfold sizeN;refine k_E2 26 func227 ?_;refine r15_ ?_;refine cF_ ?_;refine r15_ ?_;refine cF_ ?_;refine r10_ ?_;refine rC (vi rfl rfl (zv7 (a:=64*(m-8)) (b:=5*w) vd vd vd vd)) ?_;refine r5_ ?_;refine ⟨_,S,⟨_,_,rfl,⟨_,_,rfl,rfl,rfl⟩,rfl⟩,zae,?_⟩;exact ⟨rfl,rfl⟩
theorem zrw {m w:Nat} (H:24<=m) (C:w<=8) (A:1<=w):1<=sizeN m w:=by
 unfold sizeN;exact (Nat.le_div_iff_mul_le vd).2 vd
theorem zoV (m w:Nat) (A:m<=256):sizeN m w<=16384:=by
 unfold sizeN;have:=Nat.div_le_self (64*(m-8)) (5*w);omega
theorem ziW (s:tt) (S:Mem) (A:s.size≠0) (C:s.size<=12):ACall prog 163 #[.string s] S λr S'=>r = .bool true/\S'=S:=by
 refine k_E1 10 func163 ?_;refine r8_ ?_;refine rC (vi rfl rfl (zag (zaP _ _) (zbh (λe=>A (by rw [e];rfl))))) ?_;refine r9_ ?_;refine ⟨_,S,⟨_,_,rfl,rfl,rfl⟩,zae,?_⟩;exact ⟨rfl,rfl⟩
def dig (i k:Nat):UInt8:=UInt8.ofNat (48+i / 10 ^ k % 10)
theorem zv8 (i k:Nat):nb (dig i k)=48+((i / 10 ^ k:Nat):Int) % 10:=by
 unfold nb dig;rw [UInt8.toNat_ofNat'];generalize i / 10 ^ k=q;omega
def nameS (s:tt) (i:Nat):tt:=s ++ bs [dig i 3,dig i 2,dig i 1,dig i 0]
def digs (i k:Nat):List UInt8:=[if 4<=k then dig i 3 else 0,if 3<=k then dig i 2 else 0,if 2<=k then dig i 1 else 0,if 1<=k then dig i 0 else 0]
theorem zoW (i:Nat) {k:Nat} (h:k<4):(cellsB (digs i k)).set (3-k) (.int .u8 (nb (dig i k)))=cellsB (digs i (k+1)):=by
 match k,h with
 | 0,_=>rfl
 | 1,_=>rfl
 | 2,_=>rfl
 | 3,_=>rfl
theorem zfl (s:tt) (i:Nat) (S:Mem) (Y:s.size≠0) (W:s.size<=12) (hi:i<=9999) :
  ACall prog 110 #[.string s,.int .i64 (i:Nat)] S λr S'=>r = .tuple #[.string (nameS s i),.int .i64 0]/\S'=S:=by
 have V:=ziW s S Y W;refine k_E2 36 func110 ?_;refine r10_ ?_;refine cp_ rfl (V) ?_;refine r11_ ?_;refine cF_ ?_;refine r4_ ?_;refine ARun.alloc (zab rfl) zjw ?_;intro U f6;have A:=f6
 repeat ((with_reducible replace A:=zaa A);obtain ⟨A,_⟩:=A)
 refine nl_ ?_;refine r9_ ?_;refine AWP.loop (X:=Nat) (λk=>[(0,.string s),(1,.int .i64 ((i / 10 ^ k:Nat):Int)),(6,.pointer (some ⟨U,0,none⟩)),(19,.int .i64 (k:Nat))]) (λk=>S.set U ⟨243,cellsB (digs i k),4⟩) (λk=>k<=4) (λk=>4-k) (0) ⟨rfl,zan (by rw [Nat.pow_zero,Nat.div_one]),rfl,rfl,trivial⟩ (Mem.Less.refl _) (Nat.zero_le _) ?_;rintro k Q;(try dsimp only at *);have Q:k<=4:=Q;by_cases J:k<4
 ·have C:=zoW i J;have H:i / 10 ^ k / 10=i / 10 ^ (k+1):=by rw [Nat.div_div_eq_div_mul,Nat.pow_succ]
  have I:=zv8 i k;have aa:=Nat.div_le_self i (10 ^ k);generalize i / 10 ^ k=q at *;refine r6_ ?_;refine cT_ ?_;refine r17_ ?_;refine rC (Calm.as (congrArg (Value.int .u8) I.symm) (Calm.conv rfl (zbz underlying3 underlying5 (IntWalk.u8_in _ vd)))) ?_;refine s1_ ?_;refine vk rfl rfl zci rfl (vf _ _ _) (by show 0+(3-(k:Int)).toNat*1<4;omega) rfl ?_
  try simp only [k_ms,k_sz,k_ss,k_za,Nat.reduceAdd]
  refine r14_ ?_;refine ⟨k+1,?_,?_,?_,?_⟩<;>try dsimp only
  ·exact ⟨rfl,zan (by rw [<- H];omega),rfl,zan vd,trivial⟩
  ·(rw [<- C,show (3-(k:Int)).toNat*1=3-k from by omega];exact Mem.Less.refl _)
  ·exact J
  omega
 obtain rfl:k=4:=by omega
 refine r6_ ?_;refine cF_ ?_;refine r9_ ?_;refine rC (vT zbs zaA rfl (l:=[dig i 3,dig i 2,dig i 1,dig i 0]) rfl (zb_ (r:=⟨243,cellsB (digs i 4),4⟩) (vf _ _ _))) ?_;refine rC (vi rfl rfl (zbF (by rw [zaJ];show s.size+4<=_;omega))) ?_;refine r4_ ?_;refine kw_ [0,1,6,19,20,4,5] ?_;refine s1_ ?_;refine ⟨_,S,⟨_,_,rfl,⟨_,_,rfl,rfl,rfl⟩,rfl⟩,zae,?_⟩;exact ⟨rfl,rfl⟩
end Run
end
section
open Go.RowKit
open Mv Disk Num
namespace Sto
structure Grew (S S':Mem) (q:Nat):Prop where
  own:∀ t k,t≠q->S.own t=some k->S'.own t=some k
  ro:S'.ro=S.ro
theorem Grew.refl (S:Mem) (q:Nat):Grew S S q:=⟨λ_ _ _ h=>h,rfl⟩
theorem Grew.set {S S':Mem} {q:Nat} (h:Grew S S' q) (k:Blk):Grew S (S'.set q k) q:=⟨λt r A C=>(vg _ _ A).trans (h.own t r A C),h.ro⟩
theorem Grew.new {S S':Mem} {q g:Nat} (h:Grew S S' q) (H:S'.own g=none) (k:Blk):Grew S (S'.set g k) q:=⟨λt r C A=>by
 have:=h.own t r C A;exact (vg _ _ (λe=>by rw [e,H] at this;cases this)).trans this,h.ro⟩
theorem RdS.new {S:Mem} {a p b c q:Nat} {r:Rd} {x:Pl} {n B:Nat} {T:Mem} (h:RdS S a p b c q r x n B T) {g:Nat} (H:Fresh T g) (k:Blk):Fresh S g/\q≠g/\RdS (S.set g k) a p b c q r x n B (T.set g k):=by
 obtain ⟨C,I⟩:=zaz h.ar H k;have A:q≠g:=C.ne h.ow;exact ⟨C,A,I,(vg _ _ A).trans h.ow,h.ps,h.us,h.nb⟩
structure GI (S:Mem) (a p b c q:Nat) (r:Rd) (x:Pl) (n B:Nat) (rows:List (List Nat)) (i0:Nat) (Z M R:Mem) (r':Rd) (y:Pl) (o:Option (Nat × Nat)) (hs:List Value):Prop where
  rd:RdS Z a p b c q r' y (n+5*r.w*hs.length) B M
  nm:r'.nm=r.nm
  w:r'.w=r.w
  ct:r'.ct=r.ct
  at_:r'.at_=5*r.w*(i0+hs.length)
  le:i0+hs.length<=rows.length
  gr:Grew S Z q
  st:Stays x y
  ot:Oth x y r.nm
  oo:OkO M o hs.length
  rl:R.Less Z
  rq:R.own q=none
  rn:∀ t k,S.own t=some k->R.own t=none
  rr:∀ i (h:i<hs.length),RowR R hs[i] (rows.getD (i0+i) [])
def noMem (S:Mem):Mem:=⟨λ_=>none,S.ro⟩
theorem GI.start {S:Mem} {a p b c q:Nat} {r:Rd} {x:Pl} {n B:Nat} {rows:List (List Nat)} {i0:Nat} {T:Mem} (h:RdS S a p b c q r x n B T) (A:r.at_=5*r.w*i0) (hi:i0<=rows.length):GI S a p b c q r x n B rows i0 S T (noMem S) r x none [] where
 rd:=h
 nm:=rfl
 w:=rfl
 ct:=rfl
 at_:=A
 le:=hi
 gr:=Grew.refl _ _
 st:=Stays.refl _
 ot:=Oth.refl _ _
 oo:=zbO T
 rl:=⟨λ_ _ h=>(by cases h),rfl⟩
 rq:=rfl
 rn:=λ_ _ _=>rfl
 rr:=λi h=>absurd h (Nat.not_lt_zero i)
theorem zdQ {S:Mem} {g w:Nat} {A:List Nat} {e:tx} (C:A.length=w) (H:w<=8) (h:S.own g=some ⟨e,A.map nU,w⟩):RowR S (.slice (some ⟨g,0,none⟩) w w) A :=
 vN h List.prefix_rfl C (Nat.le_refl _) vd
theorem GI.next {S:Mem} {a p b c q:Nat} {r:Rd} {x:Pl} {n B:Nat} {rows:List (List Nat)} {i0:Nat} {Z M R:Mem} {r':Rd} {y:Pl} {o:Option (Nat × Nat)} {hs:List tu} (h:GI S a p b c q r x n B rows i0 Z M R r' y o hs)
  {H:Rd} {z:Pl} {W:Mem} {g:Nat} {A:List Nat} {e:tx} {o2:Option (Nat × Nat)} {w:Nat} (hw:w=r.w) (ad:r.w<=8) (hg:Fresh W g) (X:RdT Z a p b c q r' H y z (n+5*r.w*hs.length+5*w) B W)
  (ae:H.w=r'.w) (ag:H.ct=r'.ct) (ac:H.at_=r'.at_+5*w) (af:i0+hs.length<rows.length) (Q:A=rows[i0+hs.length]) (aa:A.length=w) (ho:OkO (W.set g ⟨e,A.map nU,w⟩) o2 (hs.length+1)) :
  GI S a p b c q r x n B rows i0 ((Z.set q (rdB a H)).set g ⟨e,A.map nU,w⟩) (W.set g ⟨e,A.map nU,w⟩) (R.set g ⟨e,A.map nU,w⟩) H z o2 (hs ++ [.slice (some ⟨g,0,none⟩) w w]):=by
 subst hw;obtain ⟨f1,I,h2⟩:=X.s.new hg ⟨e,A.map nU,r.w⟩;have V:(hs ++ [Value.slice (some ⟨g,0,none⟩) r.w r.w]).length=hs.length+1:=by rw [List.length_append];rfl
 have C:(Z.set q (rdB a H)).own g=none:=f1.1;have Y:R.own g=none:=by
  cases e:R.own g with
  | none=>rfl
  | some k =>
   have:=h.rl.own e;rw [vg _ _ (Ne.symm I)] at C;rw [C] at this;cases this
 refine ⟨by rw [V,Nat.mul_add,Nat.mul_one,<- Nat.add_assoc];exact h2,X.nm.trans h.nm,ae.trans h.w,ag.trans h.ct,by rw [V,ac,h.at_,<- Nat.add_assoc,Nat.mul_add (5*r.w) (i0+hs.length),Nat.mul_one],by rw [V];omega,(h.gr.set _).new C _,h.st.trans X.st,h.ot.trans (by rw [<- h.nm];exact X.ot) h.st.l,by rw [V];exact ho,Mv.Less.set (zao h.rl h.rq) g _,(vg _ _ I).trans h.rq,λt k ht=>?_,λi hi=>?_⟩
 ·have U:t≠g:=λe=>by
   by_cases J:t=q
   ·exact I (J.symm.trans e)
   have:=(vg Z (rdB a H) J).trans (h.gr.own t k J ht);rw [e,C] at this;cases this
  exact (vg _ _ U).trans (h.rn t k ht)
 rw [V] at hi;by_cases J:i<hs.length
 ·rw [List.getElem_append_left J];exact (h.rr i J).less (vh _ _ _ Y)
 obtain rfl:i=hs.length:=by omega
 rw [List.getElem_append_right (Nat.le_refl _)];simp only [Nat.sub_self,List.getElem_cons_zero];rw [List.getD_eq_getElem?_getD,List.getElem?_eq_getElem af,Option.getD_some,<- Q];exact zdQ aa ad (vf _ _ _)
theorem GI.rest {S:Mem} {a p b c q:Nat} {r:Rd} {x:Pl} {n B:Nat} {rows:List (List Nat)} {i0:Nat} {Z M R:Mem} {r':Rd} {y:Pl} {o:Option (Nat × Nat)} {hs:List tu} (h:GI S a p b c q r x n B rows i0 Z M R r' y o hs)
  {A:Rd} {z:Pl} {J:Mem} (C:RdT Z a p b c q r' A y z (n+5*r.w*hs.length) B J) (I:A.w=r'.w) (H:A.ct=r'.ct) (Q:A.at_=r'.at_) (U:OkO J o hs.length) :
  GI S a p b c q r x n B rows i0 (Z.set q (rdB a A)) J R A z o hs :=
 ⟨C.s,C.nm.trans h.nm,I.trans h.w,H.trans h.ct,Q.trans h.at_,h.le,h.gr.set _,h.st.trans C.st,h.ot.trans (by rw [<- h.nm];exact C.ot) h.st.l,U,zao h.rl h.rq,h.rq,h.rn,h.rr⟩
structure GX where
  Z:Mem
  M:Mem
  R:Mem
  r:Rd
  y:Pl
  o:Option (Nat × Nat)
  hs:List tu
theorem zms (S:Mem) (a p b c q:Nat) (r:Rd) (x:Pl) (n B N i0:Nat) (T:Mem) (rows:List (List Nat)) (h:RdS S a p b c q r x n B T) (hH:Has x r.nm r.w rows.length (rows.flatMap recB)) (hr:RowsOK r.w rows) (W:r.ct=rows.length) (Q:1<=r.w) (ac:r.w<=8) (hc:rows.length<=65536) (al:r.at_=5*r.w*i0) (am:i0<=rows.length) (hN:N<=16384) (hn:n+5*r.w*rows.length<=16384) (hB:B<x.fr.length) :
  ACall prog 229 #[self q,.int .i64 (N:Nat)] T λv T'=>∃ X:GX,v=outV X.o X.hs.length/\X.hs.length=min N (rows.length-i0)/\T'=outN 1 X.M X.o 22 X.hs/\GI S a p b c q r x n B rows i0 X.Z X.M X.R X.r X.y X.o X.hs/\X.r.held=0:=by
 refine k_E2 26 func229 ?_;refine r12_ ?_;refine AWP.loop (X:=GX) (λX=>[(0,self q),(1,.int .i64 (N:Nat)),(5,outV X.o X.hs.length)]) (λX=>outN 1 X.M X.o 22 X.hs) (λX=>GI S a p b c q r x n B rows i0 X.Z X.M X.R X.r X.y X.o X.hs/\X.hs.length<=N) (λX=>N-X.hs.length) (⟨S,T,noMem S,r,x,none,[]⟩) ⟨rfl,rfl,rfl,trivial⟩ (Mem.Less.refl _) (⟨GI.start h al am,Nat.zero_le _⟩) ?_;rintro ⟨Z,M,R,C,y,o,hs⟩ ⟨A,ae⟩;(try dsimp only at *);replace A:GI S a p b c q r x n B rows i0 Z M R C y o hs:=A;replace ae:hs.length<=N:=ae;have av:=A.le;obtain ⟨pa,ca,ag⟩:=zbj A.oo;by_cases q1:hs.length<N
 ·refine r4_ ?_;refine rC (vL underlying26 (congrArg some ag)) ?_;refine r4_ ?_;refine cT_ ?_;by_cases q2:i0+hs.length<rows.length
  ·obtain ⟨b1,b2⟩:=zsS hH Q q2;have ao:5*r.w*rows.length<=40*65536:=Nat.mul_le_mul vd hc;have V:=(zoQ Z a p b c q C y _ B M A.rd (by rw [A.w];exact Q) (by rw [A.w];exact ac) (by rw [A.ct,W];exact hc) (by rw [A.at_,A.w,A.ct,W];exact b1) (by rw [A.at_,A.w,A.nm,A.st.n];exact b2) (by rw [A.w];have:5*r.w*(i0+hs.length)=5*r.w*i0+5*r.w*hs.length:=Nat.mul_add _ _ _;omega) (by rw [A.st.l];exact hB)).frameO (n:=1) (e:=22) (cs:=hs) A.oo;have ak:recW (run y C.nm C.at_ (5*C.w)) C.w=rows[i0+hs.length]:=(by rw [A.nm,A.at_,A.w];exact zoU (hH.stays A.st) Q rfl hr q2);rw [ak] at V;refine r6_ ?_;refine ca_ rfl (V) ?_;rintro _ S1 ⟨U,⟨z,f,hd,M2,g,rfl,hg,I,hT⟩,H,J⟩;rw [J,I];rw [I] at H;clear J S1 I U;refine r14_ ?_;refine cF_ ?_;have ah:=zch (e:=22) (cs:=hs) H (Nat.mul_one _).symm;refine r5_ ?_;refine vu (zab rfl) zcS rfl rfl ?_;intro aD af;have Y:=af
   repeat ((with_reducible replace Y:=zaa Y);obtain ⟨Y,_⟩:=Y)
   refine vJ (n:=1) (o:=o) (k:=hs.length) (m:=1) (cs:=hs) (news:=[.slice (some ⟨g,0,none⟩) C.w C.w]) (zab rfl) zcS rfl rfl (Nat.mul_one _).symm H (ah.temp af) rfl (zfy (vf _ _ _) List.prefix_rfl) rfl (λv hv=>by rw [List.mem_singleton.1 hv];rfl) vd vd ?_;intro o2 an;refine r4_ ?_;refine ⟨⟨(Z.set q (rdB a { C with at_:=C.at_+5*C.w,fr:=f,held:=hd })).set g ⟨27,(rows[i0+hs.length]).map nU,C.w⟩,M2.set g ⟨27,(rows[i0+hs.length]).map nU,C.w⟩,R.set g ⟨27,(rows[i0+hs.length]).map nU,C.w⟩,{ C with at_:=C.at_+5*C.w,fr:=f,held:=hd },z,o2,hs ++ [.slice (some ⟨g,0,none⟩) C.w C.w]⟩,?_,?_,?_,?_⟩<;>try dsimp only
   ·exact ⟨rfl,rfl,by rw [List.length_append];rfl,trivial⟩
   ·exact Mem.Less.refl _
   ·exact ⟨A.next A.w ac hg hT rfl rfl rfl q2 rfl ((hr _ (List.getElem_mem q2)).1.trans A.w.symm) an,by rw [List.length_append];exact q1⟩
   (rw [List.length_append];show N-(hs.length+1)<N-hs.length;omega)
  have e2:i0+hs.length=rows.length:=by omega
  have V:=(zg1 a q C M (zah A.rd.ar A.rd.ow) (by rw [A.w];exact ac) (by rw [A.ct,W];exact hc) (by rw [A.at_,e2];have:5*r.w*rows.length<=40*65536:=Nat.mul_le_mul vd hc;omega) (by rw [A.at_,A.w,A.ct,W,e2,ziU Q];exact Nat.le_refl _)).frameO (n:=1) (e:=22) (cs:=hs) A.oo;refine r6_ ?_;refine ca_ rfl (V) ?_;rintro _ S1 ⟨U,⟨rfl,I⟩,H,J⟩;rw [J,I];clear J S1 I H U;refine r14_ ?_;refine kw_ [0,1,5,11,6,7,18] ?_;refine cT_ ?_;have aa:=(zfk Z a p b c q C y _ B M A.rd).frameO (n:=1) (e:=22) (cs:=hs) A.oo;refine r9_ ?_;refine ca_ rfl (aa) ?_;rintro _ S1 ⟨U,⟨_,z,hT⟩,H,J⟩;rw [J];clear J S1;refine r9_ ?_;refine ⟨_,outN 1 U o 22 hs,⟨_,_,rfl,rfl,rfl⟩,Mem.Less.refl _,?_⟩;exact ⟨⟨Z.set q (rdB a { C with held:=0 }),U,R,{ C with held:=0 },z,o,hs⟩,rfl,by show hs.length=_;omega,rfl,A.rest hT rfl rfl rfl H,rfl⟩
 refine r4_ ?_;refine rC (vL underlying26 (congrArg some ag)) ?_;refine r4_ ?_;refine cF_ ?_;have aa:=(zfk Z a p b c q C y _ B M A.rd).frameO (n:=1) (e:=22) (cs:=hs) A.oo;refine r8_ ?_;refine ca_ rfl (aa) ?_;rintro _ S1 ⟨U,⟨_,z,hT⟩,H,J⟩;rw [J];clear J S1;refine r8_ ?_;refine kw_ [0,1,5,11,4] ?_;refine s1_ ?_;refine ⟨_,outN 1 U o 22 hs,⟨_,_,rfl,rfl,rfl⟩,Mem.Less.refl _,?_⟩;exact ⟨⟨Z.set q (rdB a { C with held:=0 }),U,R,{ C with held:=0 },z,o,hs⟩,rfl,by show hs.length=_;omega,rfl,A.rest hT rfl rfl rfl H,rfl⟩
end Sto
end
section
open Go.RowKit
open Mv Disk Num
namespace Sto
theorem zt8 (S:Mem) (a p b c:Nat) (x:Pl) (s:tt) (n w ct:Nat) (T:Mem) (h:ArS S a p b c x T) (J:Ps x n) (Q:Rec.headD x.d s=(w,ct,0)) :
  ACall prog 161 #[self a,.string s] T λv T'=>∃ q,v = .tuple #[self q,.int .i64 0]/\Fresh T q/\T'=T.set q (rdB a ⟨s,w,ct,0,0,0⟩):=by
 obtain ⟨k,oE,oW,ok,rfl⟩:=h;have I:=zbf (M:=devM S p x.d oE oW) (a:=a) (p:=p) (b:=b) (c:=c) (x:=x) (k:=k);have hd:=Rec.zgV p x.d s _ (ok.rd (zeP J) k) J.d.r;rw [Q] at hd;generalize arM (devM S p x.d oE oW) a p b c x k=T at *;unfold arB at I;unfold Rec.formV at hd;refine k_E2 28 func161 ?_;refine r13_ ?_;refine cp_ rfl (hd) ?_;refine r16_ ?_;refine cF_ ?_;refine r9_ ?_;refine vD (cs:=[_,_,_,_,_,_,_,_]) (zab rfl) rfl ?_;intro C H;have A:=H
 repeat ((with_reducible replace A:=zaa A);obtain ⟨A,_⟩:=A)
 have:=A.ne I;have:=A.ne' I
 refine nl_ ?_;refine r5_ ?_;refine ⟨_,T.set C (rdB a ⟨s,w,ct,0,0,0⟩),⟨_,_,rfl,⟨_,_,rfl,rfl,rfl⟩,rfl⟩,zae,?_⟩;exact ⟨C,rfl,H,rfl⟩
end Sto
end
section
open Go.RowKit
open Mv
namespace Mv
end Mv
namespace Er
theorem under:prog.underlying 63=some (.interface (prog.methodsAt 63)):=by kernel_rfl
theorem eqNil {x:tw} {c:tu}:Bin prog .eql 63 x (.const c) .nilIface .nilIface (.bool true):=λw=>by
 have:=run_eql_nil_nil (P:=prog) (w:=w) 63 under;simpa [eqGuard] using this
theorem neNil {x:tw} {c:tu}:Bin prog .neq 63 x (.const c) .nilIface .nilIface (.bool false):=λw=>by
 have:=run_neq_nil_nil (P:=prog) (w:=w) 63 under;simpa [eqGuard] using this
theorem eqHeld {x y:tw} (T:tx) (v:tu):Bin prog .eql 63 x y .nilIface (.iface T v) (.bool false):=λw=>by
 have:=run_eql_iface_nil_left (P:=prog) (w:=w) T v under;simpa [eqGuard] using this
instance : TGo prog 67 := ⟨by kernel_rfl⟩
theorem isNil (T:tx) (v:tu) (S:Mem):ACall prog 67 #[.nilIface,.iface T v] S λr S'=>r = .bool false/\S'=S:=by
 refine k_E2 22 func67 ?_;refine r9_ ?_;refine rC (vi rfl rfl eqNil) ?_;refine r2_ ?_
 first|refine k_q 8 ?_|refine rG 8 (vi rfl rfl eqNil) ?_
 refine r3_ ?_;refine cT_ ?_;refine r4_ ?_;refine rC (vi rfl rfl (eqHeld _ _)) ?_;refine r5_ ?_;refine ⟨_,S,⟨_,_,rfl,rfl,rfl⟩,zae,?_⟩;exact ⟨rfl,rfl⟩
end Er
end
section
open Go.RowKit
open Mv Disk Num
namespace Sto
theorem zbc (s:tt) (S:Mem):ACall prog 53 #[.string s,.int .i64 0] S λr S'=>r = .nilIface/\S'=S:=by
 refine k_E2 13 func53 ?_;refine r12_ ?_;refine cT_ ?_;refine r7_ ?_;refine ⟨_,S,⟨_,_,rfl,rfl,rfl⟩,zae,?_⟩;exact ⟨rfl,rfl⟩
theorem zoX (S:Mem):ACall prog 66 #[.nilIface] S λr S'=>r = .int .i64 0/\S'=S:=by
 refine k_E1 13 func66 ?_;refine r7_ ?_;refine ARun.alloc (zab rfl) zey ?_;intro H C;have A:=C
 repeat ((with_reducible replace A:=zaa A);obtain ⟨A,_⟩:=A)
 refine nl_ ?_;refine r6_ ?_;refine rC (vi rfl rfl Er.eqNil) ?_;refine r2_ ?_
 first|refine k_q 6 ?_|refine rG 6 (Calm.mkI (by kernel_rfl) rfl) ?_
 refine r5_ ?_;refine cT_ ?_;refine r7_ ?_;refine ⟨_,S,⟨_,_,rfl,rfl,rfl⟩,zae,?_⟩;exact ⟨rfl,rfl⟩
structure W5 where
  v1:tu
  v2:tu
  v3:tu
  v4:tu
  v5:tu
def wkB (a:Nat) (u:W5) (tm:tu):Blk:=⟨120,[.pointer (some ⟨a,0,none⟩),u.v1,u.v2,u.v3,u.v4,u.v5,tm,.int .u64 0,.int .u64 0,.int .i64 0],10⟩
theorem zt9 {M:Mem} {d:D} {oE oW:Option (Nat × Nat)} (h:OkD M d oE oW) {w:Nat} {r r':Blk} (A:M.own w=some r):(M.set w r').Less ((dkM M d oE oW).set w r'):=Mv.Less.set h.less w r'
theorem zg2 {S:Mem} {p:Nat} {d:D} {oE oW:Option (Nat × Nat)} (h:OkV S p d oE oW) {w:Nat} (J:Fresh (devM S p d oE oW) w) (k:Blk):Fresh S w/\OkV (S.set w k) p d oE oW/\(devM S p d oE oW).set w k=devM (S.set w k) p d oE oW:=by
 obtain ⟨I,C,A,H⟩:=zec J;have e1:(outN 2 S oE extT (d.ext.flatMap extF)).set w k=outN 2 (S.set w k) oE extT (d.ext.flatMap extF):=zbD A;have e2:(dkM S d oE oW).set w k=dkM (S.set w k) d oE oW:=by
  unfold dkM;rw [zbD H,e1]
 refine ⟨I,⟨⟨h.dk.e.set A,by rw [<- e1];exact h.dk.w.set H⟩,by rw [<- e2];exact zam h.fr (Ne.symm C)⟩,?_⟩;unfold devM;rw [vC _ _ _ (Ne.symm C),e2]
theorem begun {S:Mem} {p w a b c:Nat} {d:D} {oE oW:Option (Nat × Nat)} {x:Pl} {k:Blk} (C:OkV S p d oE oW) (U:Fresh (devM S p d oE oW) w) (fb:Fresh ((devM S p d oE oW).set w k) b) (fa:Fresh ((devM S p d oE oW).set w k) a) (H:a≠b) (Q:x.fr.length<=c) (J:x.d=d) (k':Blk) :
  ArS (S.set w k') a p b c x ((arM ((devM S p d oE oW).set w k) a p b c x 0).set w k'):=by
 obtain ⟨V,I,A⟩:=zg2 C U k;have h:ArS (S.set w k) a p b c x (arM ((devM S p d oE oW).set w k) a p b c x 0):=by
  subst J;exact ⟨0,oE,oW,⟨I,by rw [<- A];exact fb,by rw [<- A];exact fa,H,Q⟩,by rw [A]⟩
 have:=zcL h (vf _ _ _) k';rwa [Mem.set_set] at this
theorem zrx (v:tu) (d:D) (m:Nat) (S:Mem) (hd:DkR S v d) (hz:Dz d) (ho:openD d=(d,0)) (X:24<=m) (h2:m<=256) :
  ACall prog 22 #[v,.int .i64 (m:Nat)] S λr T=>∃ S0 wk a p b u,r = .tuple #[self wk,.nilIface]/\S.Less S0/\Fresh S0 wk/\ArS (S0.set wk (wkB a u (.slice none 0 0))) a p b m (newP d m) T:=by
 have Y:=λM h=>zd1 v d M (DkR.less hd h) hz;obtain ⟨pe,ce,pw,cw,rfl,hE,hW⟩:=id hd;refine k_E2 51 func22 ?_;refine r2_ ?_;refine k_b5 rfl ?_;intro b2 f2;have g2:=f2
 repeat ((with_reducible replace g2:=zaa g2);obtain ⟨g2,_⟩:=g2)
 refine nl_ ?_;refine r7_ ?_;refine ca_ rfl (Y _ zae) ?_;rintro _ S1 ad;rw [ho] at ad;obtain ⟨p,oE,oW,I,rfl,X⟩:=ad;rw [X];clear X S1;have ao:=vh S b2 ⟨31,[.int .i64 d.size,.slice pe d.ext.length ce,.slice pw d.waits.length cw,.int .i64 d.fuse,.bool d.down],5⟩ f2.1;dsimp only at I ⊢;generalize S.set b2 ⟨31,[.int .i64 d.size,.slice pe d.ext.length ce,.slice pw d.waits.length cw,.int .i64 d.fuse,.bool d.down],5⟩=S0 at *;have hp:(devM S0 p d oE oW).own p=some (devB d oE oW):=vf _ _ _;unfold devB at hp;refine r14_ ?_;refine vD (cs:=[_,_,_,_,_,_,_,_,_,_]) (zab rfl) rfl ?_;intro C W;have H:=W
 repeat ((with_reducible replace H:=zaa H);obtain ⟨H,_⟩:=H)
 have:=H.ne hp;have:=H.ne' hp
 refine nl_ ?_;refine r3_ ?_;obtain ⟨ah,aw,e1⟩:=zg2 I W ⟨120,[.pointer none,.int .i64 d.size,outV oE d.ext.length,outV oW d.waits.length,.int .i64 d.fuse,.bool d.down,.slice none 0 0,.int .u64 0,.int .u64 0,.int .i64 0],10⟩;refine r9_ ?_;refine cF_ ?_;refine r7_ ?_;refine cF_ ?_;refine r7_ ?_;refine kw_ [0,1,2,4,5,6,7,8,20,26,31] ?_;refine cF_ ?_;have aq:DkR (devM S0 p d oE oW) (dkV d oE oW) d:=(I.dk.dk (by have:=hz.el;omega) (by have:=hz.wl;omega)).less (vh _ _ _ I.fr.1);refine r10_ ?_;refine ca_ rfl (zkO _ d _ (aq.less (vh _ _ _ W.1)) hz.el hz.wl) ?_;rintro _ S1 ⟨aE,aB,A,rfl,X⟩;rw [X];clear X S1;unfold dkV;obtain ⟨U,V,am⟩:=zbj A.e;obtain ⟨J,Q,al⟩:=zbj A.w;rw [am,al];have ae:=A.less.own (vf (devM S0 p d oE oW) C ⟨120,[.pointer none,.int .i64 d.size,outV oE d.ext.length,outV oW d.waits.length,.int .i64 d.fuse,.bool d.down,.slice none 0 0,.int .u64 0,.int .u64 0,.int .i64 0],10⟩);refine r2_ ?_;refine ARun.store rfl rfl zar ae (show 1+5<=10 by decide) (by simp [Value.cells,Value.oneCell']) ?_
 try simp only [k_ms,k_sz,k_ss,k_za,Nat.reduceAdd]
 refine r2_ ?_;refine AWP.less ((devM S0 p d oE oW).set C ⟨120,[.pointer none,.int .i64 d.size,.slice U d.ext.length V,.slice J d.waits.length Q,.int .i64 d.fuse,.bool d.down,.slice none 0 0,.int .u64 0,.int .u64 0,.int .i64 0],10⟩) (by have:=zt9 A (r':=⟨120,[.pointer none,.int .i64 d.size,.slice U d.ext.length V,.slice J d.waits.length Q,.int .i64 d.fuse,.bool d.down,.slice none 0 0,.int .u64 0,.int .u64 0,.int .i64 0],10⟩) (vf _ _ _);rw [Mem.set_set] at this;exact this) ?_;have aa:=vf (devM S0 p d oE oW) C ⟨120,[.pointer none,.int .i64 d.size,.slice U d.ext.length V,.slice J d.waits.length Q,.int .i64 d.fuse,.bool d.down,.slice none 0 0,.int .u64 0,.int .u64 0,.int .i64 0],10⟩;refine r5_ ?_;refine ca_ rfl (zt5 p m d _ vd h2) ?_;rintro _ S1 ⟨a,b,rfl,fb,fa,an,X⟩;rw [X];clear X S1;have ai:=fa.ne aa;have aj:=fb.ne aa;have aF:(arM ((devM S0 p d oE oW).set C ⟨120,[.pointer none,.int .i64 d.size,.slice U d.ext.length V,.slice J d.waits.length Q,.int .i64 d.fuse,.bool d.down,.slice none 0 0,.int .u64 0,.int .u64 0,.int .i64 0],10⟩) a p b m (newP d m) 0).own C=_:=(vg _ _ ai).trans ((vg _ _ aj).trans aa);have hA:=begun I W fb fa an (by rw [zee];exact Nat.le_refl _) (x:=newP d m) rfl;refine r13_ ?_;refine ⟨_,_,⟨_,_,rfl,⟨_,_,rfl,rfl,rfl⟩,rfl⟩,Mem.Less.refl _,?_⟩;exact ⟨S0,C,a,p,b,⟨.int .i64 d.size,.slice U d.ext.length V,.slice J d.waits.length Q,.int .i64 d.fuse,.bool d.down⟩,rfl,ao,ah,hA _⟩
end Sto
end
section
namespace Loser
open Num
theorem zbu (a b c:List Nat) (C:lessB a b=true) (A:lessB b c=true):lessB a c=true:=by
 induction a generalizing b c with
 | nil=>cases b with
  | nil=>simp [lessB] at C
  | cons y b=>cases c with
   | nil=>simp [lessB] at A
   | cons z c=>rfl
 | cons x a J =>
  cases b with
  | nil=>simp [lessB] at C
  | cons y b =>
   cases c with
   | nil=>simp [lessB] at A
   | cons z c =>
    simp only [lessB,Bool.or_eq_true,decide_eq_true_eq,Bool.and_eq_true] at C A ⊢;rcases C with C | ⟨C,I⟩ <;> rcases A with A | ⟨A,H⟩
    ·left;omega
    ·left;omega
    ·left;omega
    right;exact ⟨by omega,J b c I H⟩
def key (ks:List (List Nat)) (a:Nat):List Nat:=ks.getD a []
end Loser
end
section
open Go.RowKit
open Mv Disk Num Loser
namespace Sto
structure RowV (R:Mem) where
  v:tu
  l:List Nat
  h:Sl 1 u64s R v l
instance (R:Mem):Inhabited (RowV R):=⟨⟨_,[],Sl.nil _ _ _⟩⟩
def cfR {R:Mem} (x y:RowV R):Int:=cmpB x.l y.l
theorem zle {R:Mem} (x y:RowV R):ltOf cfR x y=lessB x.l y.l:=zhC x.l y.l
theorem zmt (a b c:List Nat) (C:lessB a b=false) (A:lessB b c=false):lessB a c=false:=by
 cases e:lessB a c with
 | false=>rfl
 | true =>
  exfalso;cases e1:lessB b a with
  | true =>
   have:=zbu _ _ _ e1 e;rw [A] at this;cases this
  | false =>
   have:=za3 _ _ C e1;subst this;rw [A] at e;cases e
theorem swoR (R:Mem):Go.Sort.SWO (ltOf (cfR (R:=R))) :=
 ⟨λa=>by rw [zle];exact zaD _,λa b c A C=>by rw [zle] at *;exact zbu _ _ _ A C,λa b c A C=>by rw [zle] at *;exact zmt _ _ _ A C⟩
def SortedR (l:List (List Nat)):Prop:=l.Pairwise λa b=>lessB b a=false
theorem rowVs {R:Mem}:∀ (hs:List tu) (rows:List (List Nat)),hs.length=rows.length->(∀ i (h:i<hs.length),RowR R hs[i] (rows.getD i [])) -> ∃ L:List (RowV R),L.map RowV.v=hs/\L.map (·.l)=rows
 | [],[],_,_=>⟨[],rfl,rfl⟩
 | [],_ :: _,h,_=>by simp at h
 | _ :: _,[],h,_=>by simp at h
 | v :: hs,r :: rows,h,g=>by
  obtain ⟨L,A,C⟩:=rowVs hs rows (by simpa using h) (λi hi=>by have:=g (i+1) (by simpa using hi);simpa using this);exact ⟨⟨v,r,g 0 (Nat.succ_pos _)⟩ :: L,by rw [List.map_cons,A],by rw [List.map_cons,C]⟩
theorem zry {R:Mem} (x y:RowV R) (w:tv) (A:View R w):Calls prog 263 #[x.v,y.v] w λe w'=>e = .returned (.int .i64 (cfR x y))/\w'=w:=by
 have h:=ziM x.v y.v x.l y.l R x.h y.h w A
 go_enter func263,ntmps263
 go_wp2_with (go_at_call 83;refine h.mono ?_;rintro e w' ⟨rfl,rfl⟩)
 go_ret
 exact ⟨by simp [cfR],rfl⟩
theorem zrz {R M:Mem} (L:List (RowV R)) (W:R.Less M) (g U room:Nat) (X:Fresh M g) (Y:L.length<=65536) :
  ACall prog 262 #[.slice (some ⟨g,0,none⟩) L.length U,.func (.func 263) #[] #[]] (M.set g ⟨22,L.map RowV.v,room⟩) λr S'=>r = .tuple #[] /\ ∃ A:List (RowV R),A.Perm L/\SortedR (A.map (·.l))/\S'=M.set g ⟨22,A.map RowV.v,room⟩ :=
 (zsL (P:=prog) (f:=262) (g:=263) (cb:=#[]) (enc:=RowV.v) (cf:=cfR) L rfl vd X (λw Q x y=>by
   show Calls prog 263 #[x.v,y.v] w _;exact (zry x y w (Q.less W)).mono λe w' ⟨V,Q⟩=>⟨V,0,#[],by rw [Q,Go.Sort.grow_empty];rfl⟩)
  λd w J H C I=>Tryz.slices_SortFunc_f262 RowV.v (λx=>by obtain ⟨_,_,e,_⟩:=x.h;rw [e];rfl) cfR (swoR R) 263 #[] g 0 U d w (λ_ _=>zbg (by kernel_rfl) _ _) J H C I).mono λr S' ⟨J,A,H,C,I⟩=>⟨J,A,H,List.pairwise_map.2 (C.imp λ{x y} h=>by rw [<- zle];exact decide_eq_false h),I⟩
theorem zoY {R:Mem} (l:List (RowV R)) {k:Nat} (h:k<(l.map (·.l)).length):((l.map (·.l)).take k).flatMap recB ++ recB (l[k]'(by simpa using h)).l=((l.map (·.l)).take (k+1)).flatMap recB:=by
 rw [List.take_succ_eq_append_getElem h,List.flatMap_append,List.getElem_map];simp
structure QX where
  T:Mem
  y:Pl
  f:Nat
  hd:Nat
  k:Nat
theorem zrA (S:Mem) (a p b c q:Nat) (s:tt) (w:Nat) (x:Pl) (n B:Nat) (M R:Mem) (g cc room:Nat) (hs:List tu) (rows:List (List Nat)) (h:WtS S a p b c q ⟨s,w,0,0,0,0⟩ x n B [] M) (hg:Fresh M g) (hR:R.Less S) (ak:R.own q=none) (hl:hs.length=rows.length) (aa:∀ i (h:i<hs.length),RowR R hs[i] (rows.getD i []))
  (hr:RowsOK w rows) (J:1<=w) (h8:w<=8) (hc:rows.length<=65536) (U:ns x.d s=Rec.needN w rows.length) (hn:n+5*w*rows.length+x.fr.length<=16384) (hB:B<x.fr.length) :
  ACall prog 230 #[self q,.slice (some ⟨g,0,none⟩) rows.length cc] (M.set g ⟨22,hs,room⟩) λv T'=>v = .nilIface /\ ∃ r' y C,C.Perm rows/\SortedR C/\ArS (S.set q (wtB a r')) a p b c y T'/\Sealed x y s w rows.length B (C.flatMap recB):=by
 obtain ⟨V,v1,v2⟩:=rowVs hs rows hl aa;have vl:V.length=rows.length:=by rw [<- v2,List.length_map]
 have af:R.Less M:=hR.trans (zbb h.ar);have I:=zrz V af g cc room hg vd;rw [vl,v1] at I;have ax:5*w*rows.length<=40*65536:=Nat.mul_le_mul vd hc;refine k_E2 27 func230 ?_;refine r8_ ?_;refine ca_ rfl (I) ?_;rintro _ S1 ⟨rfl,A,s1,s2,J⟩;rw [J];clear J S1;have u1:(A.map (·.l)).Perm rows:=by rw [<- v2];exact s1.map _
 have ul:A.length=rows.length:=by rw [s1.length_eq,vl]
 have an:RowsOK w (A.map (·.l)):=λr hm=>hr r (u1.mem_iff.1 hm);have ah:∀ i (hi:i<A.length),A[i].l.length=w /\ ∀ n ∈ A[i].l,n<Num.top:=λi hi=>an _ (List.mem_map_of_mem (List.getElem_mem hi));clear s1 v1 v2 aa;refine r11_ ?_;refine AWP.loop (X:=QX) (λX=>[(0,self q),(10,.slice (some ⟨g,0,none⟩) rows.length cc),(11,.int .i64 (rows.length:Nat)),(12,.int .i64 (X.k:Nat))]) (λX=>X.T.set g ⟨22,A.map RowV.v,room⟩) (λX=>WtT S a p b c q ⟨s,w,0,0,0,0⟩ ⟨s,w,X.k,5*w*X.k,X.f,X.hd⟩ x X.y (n+5*w*X.k) B (((A.map (·.l)).take X.k).flatMap recB) X.T/\Fresh X.T g/\X.k<=rows.length) (λX=>rows.length-X.k) (⟨M,x,0,0,0⟩) ⟨rfl,rfl,rfl,rfl,trivial⟩ (Mem.Less.refl _) (⟨WtT.refl h,hg,Nat.zero_le _⟩) ?_;rintro ⟨T,y,f,hd,k⟩ ⟨H,hf,hk⟩;(try dsimp only at *);replace H:WtT S a p b c q ⟨s,w,0,0,0,0⟩ ⟨s,w,k,5*w*k,f,hd⟩ x y (n+5*w*k) B (((A.map (·.l)).take k).flatMap recB) T:=H;replace hf:Fresh T g:=hf;replace hk:k<=rows.length:=hk;by_cases q1:k<rows.length
 ·have W:k<A.length:=by omega
  obtain ⟨e1,e2⟩:=ah k W;have al:5*w*(k+1)<=5*w*rows.length:=Nat.mul_le_mul_left _ q1;rw [Nat.mul_add,Nat.mul_one] at al;have ai:R.Less T:=(zao hR ak).trans (zbb H.s.ar);have Y:=(zsP (S.set q (wtB a ⟨s,w,k,5*w*k,f,hd⟩)) a p b c q _ y (n+5*w*k) B _ (A[k].v) (A[k].l) T H.s (A[k].h.less ai) vd vd (λz hz=>Nat.lt_of_lt_of_le (e2 z hz) (by decide)) (by show k<=_;omega) (by rw [e1];show 5*w*k+5*w<=_;omega) (by rw [e1,H.st.n,U];show 1+(5*w*k+5*w-1) / 64<_;unfold Rec.needN Rec.eachN;rw [if_neg vd];omega) (by rw [e1];omega) (by rw [H.st.l];exact hB)).frame (r:=⟨22,A.map RowV.v,room⟩) hf;refine r6_ ?_;refine cT_ ?_;refine r7_ ?_;refine rC (Calm.load zbW rfl (v:=A[k].v) (zcq (vf _ _ _) (by show (A.map RowV.v)[0+(k:Int).toNat*1]?=_;rw [show 0+(k:Int).toNat*1=k from by omega,List.getElem?_map,List.getElem?_eq_getElem W];rfl))) ?_;refine r7_ ?_;refine ca_ rfl (Y) ?_;rintro _ S1 ⟨Sa,⟨rfl,z,f',ae,hU⟩,Q,J⟩;rw [J];clear J S1;refine cp_ rfl (zbc _ _) ?_;refine r6_ ?_;refine rC (vi rfl rfl Er.neNil) ?_;refine r2_ ?_;refine cF_ ?_;rw [e1,zoY _ (by rw [List.length_map];exact W),show n+5*w*k+5*w=n+5*w*(k+1) from by rw [Nat.mul_add,Nat.mul_one,Nat.add_assoc]] at hU;refine r8_ ?_;refine ⟨⟨Sa,z,f',ae,k+1⟩,?_,?_,?_,?_⟩<;>try dsimp only
  ·exact ⟨rfl,rfl,rfl,rfl,trivial⟩
  ·exact Mem.Less.refl _
  ·exact ⟨by rw [show 5*w*(k+1)=5*w*k+5*w from by rw [Nat.mul_add,Nat.mul_one]];exact H.trans hU,Q,q1⟩
  omega
 obtain rfl:k=rows.length:=by omega
 have ag:=(zj_ (S.set q (wtB a ⟨s,w,rows.length,5*w*rows.length,f,hd⟩)) a p b c q _ y (n+5*w*rows.length) B _ T H.s J h8 (by show rows.length<_;omega) (by rw [H.st.l];omega) (by rw [H.st.n,U];exact Rec.za7 _ _)).frame (r:=⟨22,A.map RowV.v,room⟩) hf;refine r6_ ?_;refine cF_ ?_;refine r8_ ?_;refine ca_ rfl (ag) ?_;rintro _ S1 ⟨Sa,⟨rfl,z,hA,hS⟩,Q,J⟩;rw [J];clear J S1;refine cp_ rfl (zbc _ _) ?_;rw [Mem.set_set] at hA;rw [List.take_of_length_le (by rw [List.length_map];omega)] at hS;refine r3_ ?_;refine kw_ [0,10,11,12,13,4] ?_;refine s1_ ?_;refine ⟨_,Sa,⟨_,_,rfl,rfl,rfl⟩,vh _ _ _ Q.1,?_⟩;exact ⟨rfl,_,z,A.map (·.l),u1,s2,hA,Sealed.of H hS (by rw [H.st.n,U];exact Rec.za7 _ _)⟩
end Sto
end
section
open Go.RowKit
open Mv Disk Num
namespace Sto
theorem zkb (S:Mem) (a p b c wk:Nat) (u:W5) (W:tu) (x:Pl) (s:tt) (n w ct:Nat) (T:Mem) (h:ArS S a p b c x T) (hw:S.own wk=some (wkB a u W)) (Q:Ps x n) (X:Rec.headD x.d s=(w,ct,0)) (I:1<=w) (hs:s.size<=1024) :
  ACall prog 108 #[self wk,.string s] T λv T'=>∃ q y,v = .tuple #[self q,.nilIface]/\Fresh S q/\ArS (S.set q (rdB a ⟨s,w,ct,0,0,0⟩)) a p b c y T'/\y.d=x.d/\y.fr=x.fr:=by
 have H:=zah h hw;unfold wkB at H;have C:=zt8 S a p b c x s n w ct T h Q X;refine k_E2 41 func108 ?_;refine r13_ ?_;refine ca_ rfl (C) ?_;rintro _ Y ⟨q,rfl,J,I⟩;rw [I];clear I Y;obtain ⟨k1,A⟩:=zaz h J (rdB a ⟨s,w,ct,0,0,0⟩);have o1:=(vg T (rdB a ⟨s,w,ct,0,0,0⟩) (J.ne H)).trans H;obtain ⟨i,U⟩:=zcx A;unfold arB at U;have oq:=vf T q (rdB a ⟨s,w,ct,0,0,0⟩);have ac:=zv4 A (vf S q (rdB a ⟨s,w,ct,0,0,0⟩));generalize T.set q (rdB a ⟨s,w,ct,0,0,0⟩)=T1 at *;unfold rdB at oq;refine r22_ ?_;have V:=zsQ A (x':={ x with reads:=up1 x.reads }) rfl rfl i;refine r14_ ?_;refine cF_ ?_;refine r6_ ?_;refine rC (vi rfl rfl (zbF (by show 5+s.size<=_;omega))) ?_;refine s1_ ?_;refine cp_ rfl (zbc _ _) ?_;refine r5_ ?_;refine ⟨_,_,⟨_,_,rfl,⟨_,_,rfl,rfl,rfl⟩,rfl⟩,Mem.Less.refl _,?_⟩;exact ⟨q,{ x with reads:=up1 x.reads },rfl,k1,V,rfl,rfl⟩
theorem zv9 (S:Mem) (a p b c wk:Nat) (u:W5) (V:tu) (x:Pl) (s:tt) (w ct n B:Nat) (T:Mem) (h:ArS S a p b c x T) (A:S.own wk=some (wkB a u V)) (I:Ps x n) (hs:nm s) (Y:ns x.d s=0) (hw:w<=8) (H:ct<=65536) (X:(used x.d.ext:Int)+(Rec.needN w ct:Nat)<=x.d.size) (Q:nb x.fr<=B) :
  ACall prog 25 #[self wk,.string s,.int .i64 (w:Nat),.int .u64 (ct:Nat)] T λv T'=>∃ q y,v = .tuple #[self q,.nilIface]/\Fresh S q/\WtS (S.set q (wtB a ⟨s,w,0,0,0,0⟩)) a p b c q ⟨s,w,0,0,0,0⟩ y n B [] T'/\Made x y s (Rec.needN w ct):=by
 have hq:=zah h A;unfold wkB at hq;have C:=zw6 S a p b c x s w ct n B T h I hs Y hw H X Q;have W:=hs.2;refine k_E4 28 func25 ?_;refine r15_ ?_;refine ca_ rfl (C) ?_;rintro _ T1 ⟨q,y,rfl,k1,U,J⟩;refine r11_ ?_;refine rC (vi rfl rfl (zbF (by show 6+s.size<=_;omega))) ?_;refine s1_ ?_;refine cp_ rfl (zbc _ _) ?_;refine r5_ ?_;refine ⟨_,T1,⟨_,_,rfl,⟨_,_,rfl,rfl,rfl⟩,rfl⟩,zae,?_⟩;exact ⟨q,y,rfl,k1,U,J⟩
end Sto
end
section
open Go.RowKit
open Mv Disk Num
namespace Sto
theorem zt_ {S:Mem} {t:Nat} {k:Blk} (h:S.own t=some k):(S.del t).set t k=S:=by
 have:(S.del t).set t k=S.set t k:=by
  cases S;simp only [Mem.set,Mem.del,Mem.mk.injEq,and_true];funext i;by_cases e:i=t
  ·simp [e]
  simp [e]
 rw [this,vG _ _ _ h]
theorem zhP {S:Mem} (t:Nat):(S.del t).Less S:=⟨λb r h=>by
 by_cases e:b=t
 ·subst e;simp [Mem.del] at h
 rwa [vj _ e] at h,rfl⟩
theorem zlf {S S':Mem} {o:Option (Nat × Nat)} {n:Nat} (h:OkO S o n) (A:S'.Less S):OkO S' o n:=⟨h.nil,λb c e=>⟨(h.own b c e).1.less A,(h.own b c e).2⟩⟩
theorem ziX {n:Nat} {S S':Mem} {o:Option (Nat × Nat)} {e:tx} {cs:List tu} (A:S'.Less S):(outN n S' o e cs).Less (outN n S o e cs):=by
 cases o with
 | none=>exact A
 | some q=>exact Mv.Less.set A _ _
theorem ziY {n:Nat} {S:Mem} {o:Option (Nat × Nat)} {e:tx} {cs:List tu} {t:Nat} (h:S.own t=none) (A:∀ q c,o=some (q,c)->t≠q):(outN n S o e cs).own t=none:=by
 cases o with
 | none=>exact h
 | some q=>exact (vg _ _ (A q.1 q.2 rfl)).trans h
theorem zv_ {S T:Mem} {a p b c:Nat} {x:Pl} {t:Nat} {k:Blk} (h:ArS S a p b c x T) (I:S.own t=some k):∃ H,ArS (S.del t) a p b c x H/\T=H.set t k/\H.own t=none:=by
 obtain ⟨i,oE,oW,ok,rfl⟩:=h;have A:=zeO ok I;have Q:=zhP (S:=S) t;have l1:(outN 2 (S.del t) oE extT (x.d.ext.flatMap extF)).Less (outN 2 S oE extT (x.d.ext.flatMap extF)):=ziX Q;have l2:(dkM (S.del t) x.d oE oW).Less (dkM S x.d oE oW):=ziX l1;have U:(devM (S.del t) p x.d oE oW).Less (devM S p x.d oE oW):=Mv.Less.set l2 _ _;have C:OkA (S.del t) a p b c x oE oW:=⟨⟨⟨zlf ok.v.dk.e Q,zlf ok.v.dk.w l1⟩,ok.v.fr.less l2⟩,ok.fb.less U,ok.fa.less U,ok.ab,ok.l⟩;obtain ⟨_,J⟩:=zj9 (k:=i) C ⟨A.e,A.w,A.p,A.b,A.a⟩ k;rw [zt_ I] at J;have hd:(S.del t).own t=none:=by simp [Mem.del]
 have V:(arM (devM (S.del t) p x.d oE oW) a p b c x i).own t=none:=by
  unfold arM devM;rw [vg _ _ A.a,vg _ _ A.b,vg _ _ A.p];exact ziY (ziY hd A.e) A.w
 exact ⟨_,⟨i,oE,oW,C,rfl⟩,J.symm,V⟩
structure WkS (S:Mem) (a wk:Nat) (u:W5) (o:Option (Nat × Nat)) (ts:List ByteArray):Prop where
  own:S.own wk=some (wkB a u (outV o ts.length))
  gro:Gro S o 9 (ts.map Value.string)
theorem WkS.away {S:Mem} {a wk:Nat} {u:W5} {o:Option (Nat × Nat)} {ts:List tt} (h:WkS S a wk u o ts) {t:Nat} {k:Blk} (C:S.own t=some k) (A:k.elem≠9):Away o t:=λq c e eq=>by
 subst eq;have:=(h.gro.own q c e).1;rw [C] at this;exact A (by rw [Option.some.inj this])
theorem WkS.awk {S:Mem} {a wk:Nat} {u:W5} {o:Option (Nat × Nat)} {ts:List tt} (h:WkS S a wk u o ts):Away o wk:=h.away h.own (by show ¬ 120=9;decide)
theorem WkS.set {S:Mem} {a wk:Nat} {u:W5} {o:Option (Nat × Nat)} {ts:List tt} (h:WkS S a wk u o ts) {t:Nat} (k:Blk) (A:t≠wk) (C:Away o t):WkS (S.set t k) a wk u o ts:=⟨(vg _ _ (Ne.symm A)).trans h.own,h.gro.set k C⟩
theorem zwa {S T:Mem} {a p b c:Nat} {x:Pl} {wk:Nat} {u:W5} {o:Option (Nat × Nat)} {ts:List tt} (h:ArS S a p b c x T) (Y:WkS S a wk u o ts):∃ A,ArS (delo S o) a p b c x A/\A.Less T /\ ∀ t r,Fresh T t->AppO (T.set t r) A o 9 (ts.map Value.string):=by
 cases o with
 | none=>exact ⟨T,h,Mem.Less.refl _,λt r I=>⟨λ_=>⟨Y.gro.nil rfl,vh _ _ _ I.1⟩,λb c e=>(by cases e)⟩⟩
 | some q =>
  obtain ⟨X,b2,b3⟩:=Y.gro.own q.1 q.2 rfl;obtain ⟨A,g1,Q,W⟩:=zv_ h X;refine ⟨A,g1,by rw [Q];exact vh _ _ _ W,λt r I=>⟨λe=>(by cases e),λb' c' e=>?_⟩⟩;cases e;dsimp only at *;have V:T.own b'=some ⟨9,ts.map Value.string,c'⟩:=zah h X;have U:b'≠t:=I.ne V;refine ⟨(vg _ _ U).trans V,⟨λi k hi=>?_,by rw [Q];rfl⟩⟩;have H:i≠b':=λe=>by rw [e,W] at hi;cases hi
  have C:T.own i=some k:=by rw [Q];exact (vg _ _ H).trans hi
  have J:i≠t:=I.ne C;rw [vj _ H,vg _ _ J];exact C
structure Temped (S:Mem) (a p b c wk:Nat) (u:W5) (o:Option (Nat × Nat)) (ts:List ByteArray) (x:Pl) (s:ByteArray) (w ct n B:Nat) (T':Mem) (q:Nat) (y:Pl) (S':Mem) (o':Option (Nat × Nat)):Prop where
  wt:WtS S' a p b c q ⟨s,w,0,0,0,0⟩ y n B [] T'
  md:Made x y s (Rec.needN w ct)
  wks:WkS S' a wk u o' (ts ++ [s])
  kp:∀ t k,S.own t=some k->Away o t->t≠wk->S'.own t=some k/\t≠q
  ro:S'.ro=S.ro
  new:S.own q=none
  na:∀ t c,o'=some (t,c)->S.own t=none \/ ∃ c',o=some (t,c')
theorem temped {S T1 T2:Mem} {a p b c wk q A H:Nat} {u:W5} {o:Option (Nat × Nat)} {ts:List tt} {x y:Pl} {s:tt} {w ct n B:Nat} (I:WtS (S.set q (wtB a ⟨s,w,0,0,0,0⟩)) a p b c q ⟨s,w,0,0,0,0⟩ y n B [] T1) (k3:Made x y s (Rec.needN w ct)) (ak:WkS S a wk u o ts) (V:q≠wk) (ah:Away o q) (Q:Fresh S q)
  (Y:Fresh (delo (S.set q (wtB a ⟨s,w,0,0,0,0⟩)) o) A) (ae:(delo (S.set q (wtB a ⟨s,w,0,0,0,0⟩)) o).own wk=some (wkB a u (outV o ts.length))) (J:(delo (S.set q (wtB a ⟨s,w,0,0,0,0⟩)) o).own q=some (wtB a ⟨s,w,0,0,0,0⟩)) (U:wk≠A) (W:q≠A) (hc:ts.length+1<=H)
  (m3:ArS (((delo (S.set q (wtB a ⟨s,w,0,0,0,0⟩)) o).set A ⟨9,ts.map Value.string ++ [.string s],H⟩).set wk (wkB a u (outV (some (A,H)) (ts.length+1)))) a p b c y T2) :
  Temped S a p b c wk u o ts x s w ct n B T2 q y (((delo (S.set q (wtB a ⟨s,w,0,0,0,0⟩)) o).set A ⟨9,ts.map Value.string ++ [.string s],H⟩).set wk (wkB a u (outV (some (A,H)) (ts.length+1)))) (some (A,H)) where
 wt:=⟨m3,(vg _ _ V).trans ((vg _ _ W).trans J),I.ps,I.us,I.nb,I.at_,I.wr⟩
 md:=k3
 wks:=⟨by rw [List.length_append];exact vf _ _ _,⟨λe=>(by cases e),λq' c' e=>by
  cases e;refine ⟨(vg _ _ (Ne.symm U)).trans ?_,by rw [List.length_map,List.length_append];exact hc,λa v hv=>Y.2 a v hv⟩;rw [List.map_append];exact vf _ _ _⟩⟩
 kp:=λt k ht ha X=>by
  have C:t≠q:=Q.ne ht;have hd:(delo (S.set q (wtB a ⟨s,w,0,0,0,0⟩)) o).own t=some k:=zed ((vg _ _ C).trans ht) (λc e=>ha t c e rfl);exact ⟨(vg _ _ X).trans ((vg _ _ (Y.ne hd)).trans hd),C⟩
 ro:=by
  show (delo (S.set q (wtB a ⟨s,w,0,0,0,0⟩)) o).ro=S.ro;rw [zt0];rfl
 new:=Q.1
 na:=λt c e=>by
  cases e;by_cases h:∃ c',o=some (A,c')
  ·exact .inr h
  refine .inl ?_;cases e:S.own A with
  | none=>rfl
  | some k =>
   have C:A≠q:=Q.ne e;have hd:(delo (S.set q (wtB a ⟨s,w,0,0,0,0⟩)) o).own A=some k:=zed ((vg _ _ C).trans e) (λc e'=>h ⟨c,e'⟩);rw [Y.1] at hd;cases hd
theorem zoZ (S:Mem) (a p b c wk:Nat) (u:W5) (o:Option (Nat × Nat)) (ts:List tt) (x:Pl) (s:tt) (w ct n B:Nat) (T:Mem) (h:ArS S a p b c x T) (C:WkS S a wk u o ts) (au:ts.length<=10000) (hp:Ps x n) (hs:nm s) (h0:ns x.d s=0) (hw:w<=8) (aj:ct<=65536) (hr:(used x.d.ext:Int)+(Rec.needN w ct:Nat)<=x.d.size) (hB:nb x.fr<=B) :
  ACall prog 117 #[self wk,.string s,.int .i64 (w:Nat),.int .u64 (ct:Nat)] T λv T'=>∃ q y S' o',v = .tuple #[self q,.nilIface]/\Temped S a p b c wk u o ts x s w ct n B T' q y S' o':=by
 have ad:=zv9 S a p b c wk u _ x s w ct n B T h C.own hp hs h0 hw aj hr hB;refine k_E4 34 func117 ?_;refine r12_ ?_;refine ca_ rfl (ad) ?_;rintro _ T1 ⟨q,y,rfl,k1,k2,k3⟩;have W:q≠wk:=Ne.symm (k1.ne C.own);have Q:Away o q:=λt c e eq=>k1.ne (C.gro.own t c e).1 eq;have I:=C.set (wtB a ⟨s,w,0,0,0,0⟩) W Q;obtain ⟨T0,g1,g2,g3⟩:=zwa k2.ar I;have o1:=zah k2.ar I.own;unfold wkB at o1;refine r11_ ?_;refine rC (vi rfl rfl Er.eqNil) ?_;refine r2_ ?_;refine cT_ ?_;refine r7_ ?_;refine vu (zab rfl) za1 rfl rfl ?_;intro av V;have A:=V
 repeat ((with_reducible replace A:=zaa A);obtain ⟨A,_⟩:=A)
 have:=A.ne o1;have:=A.ne' o1
 refine vF (S:=T0) (zab rfl) za1 rfl (by rw [List.length_map]) (g3 _ _ V) rfl (news:=[.string s]) (zb_ (r:=⟨9,[.string s],1⟩) (vf _ _ _)) rfl (by decide) (λv hv=>by rw [List.mem_singleton.1 hv];rfl) vd vd ?_;intro Y cn af;obtain ⟨j1,j2⟩:=af.own Y cn rfl;obtain ⟨m1,m2⟩:=zaz g1 j1 ⟨9,ts.map Value.string ++ [.string s],cn⟩;have H:(delo (S.set q (wtB a ⟨s,w,0,0,0,0⟩)) o).own wk=some (wkB a u (outV o ts.length)):=zed I.own (λc e=>I.awk wk c e rfl);have U:(delo (S.set q (wtB a ⟨s,w,0,0,0,0⟩)) o).own q=some (wtB a ⟨s,w,0,0,0,0⟩):=zed (vf _ _ _) (λc e=>Q q c e rfl);have J:wk≠Y:=m1.ne H;have ah:q≠Y:=m1.ne U;have o2:=zah m2 ((vg _ _ J).trans H);have m3:=zcL m2 ((vg _ _ J).trans H) (wkB a u (outV (some (Y,cn)) (ts.length+1)));unfold wkB at o2;unfold outM
 skip
 refine r2_ ?_;refine vk rfl rfl zfH rfl o2 (show 6<10 by decide) rfl ?_
 try simp only [k_ms,k_sz,k_ss,k_za,Nat.reduceAdd]
 refine r2_ ?_;have X:=temped (n:=n) (B:=B) k2 k3 C W Q k1 m1 H U J ah j2 m3;refine r9_ ?_;refine ⟨_,_,⟨_,_,rfl,⟨_,_,rfl,rfl,rfl⟩,rfl⟩,Mem.Less.refl _,?_⟩;exact ⟨q,y,_,_,rfl,X⟩
end Sto
end
section
open Go.RowKit
open Mv Disk Num
namespace Sto
theorem zrB (p:Pl):idlesP p+nb p.fr=p.fr.length:=by
 unfold idlesP nb;have:=(List.length_eq_countP_add_countP (λx:Fr=>decide x.idle) (l:=p.fr)).symm;simpa using this
theorem zkc {p q:Pl} (J:q.fr.length=p.fr.length) (h:∀ j,j<p.fr.length->atF q j=atF p j \/ ¬ (atF q j).holds) {s:tt} (H:Use p s 0 0):Use q s 0 0 :=
 ⟨λj I A C=>by
  rcases h j vd with e | e
  ·rw [e] at A C ⊢;exact H.pins j vd A C
  ·exact absurd A e,λh=>absurd h (Nat.lt_irrefl 0),λj I=>by
  rcases h j vd with e | e
  ·rw [e];exact H.z0 j vd
  exact zbT λq=>e (zap.1 q).1⟩
theorem zrC {p:Pl} {k n:Nat} (J:Ps p n) (U:n<16384) (hc:∀ j,j<p.fr.length->(atF p j).dirty=false) (Q:nb p.fr+k<=p.fr.length):∃ q C,leaseP p (k:Int)=(q,C,0)/\C.length=k/\Ps q n/\Stays p q/\(∀ j,j<q.fr.length->(atF q j).dirty=false)/\(∀ s,Use p s 0 0->Use q s 0 0)/\nb q.fr=nb p.fr+k /\ ∀ j,j<p.fr.length->(atF q j).leased=true->(atF p j).leased=true\/(j:Int) ∈ C:=by
 obtain ⟨q,C,W,g0,X,H,I,_,V⟩:=zk8 k [] J U hc Q;refine ⟨q,C,?_,by rw [g0];simp,X,H,λj A=>?_,λs Y=>zkc H.l (λj A=>(I j A).imp_right λe=>by rw [e.1];exact n1) Y,V,λj A e=>?_⟩
 ·unfold leaseP;have:=zrB p;rw [if_neg vd,if_neg vd,Int.toNat_natCast,W]
 ·rcases I j (by rw [<- H.l];exact A) with e | e
  ·rw [e];exact hc j (by rw [<- H.l];exact A)
  rw [e.1];rfl
 rcases I j A with q | q
 ·rw [q] at e;exact .inl e
 exact .inr q.2
theorem zsT {p q:Pl} {i e:Int} (h:ret1 p i=(q,e)) (j:Nat):atF q j=atF p j\/atF q j=F0:=by
 unfold ret1 at h;split at h
 ·rw [<- (Prod.mk.inj h).1];exact .inl rfl
 split at h
 ·rw [<- (Prod.mk.inj h).1];exact .inl rfl
 rename_i A _;rw [<- (Prod.mk.inj h).1,zaL F0 vd];split
 ·exact .inr rfl
 exact .inl rfl
theorem zwb {p q:Pl} {i e:Int} (h:ret1 p i=(q,e)) (A:q.fr.length=p.fr.length) (hc:∀ j,j<p.fr.length->(atF p j).dirty=false):∀ j,j<q.fr.length->(atF q j).dirty=false:=λj C=>by
 rcases zsT h j with e | e <;> rw [e]
 ·exact hc j vd
 rfl
theorem zkd {p q:Pl} {i e:Int} (h:ret1 p i=(q,e)) (A:q.fr.length=p.fr.length) {s:tt} (C:Use p s 0 0):Use q s 0 0:=zkc A (λj _=>(zsT h j).imp_right λe=>by rw [e];exact n0) C
theorem zua {p:Pl} {n:Nat} (C:Ps p n) (h:nb p.fr=0) {j:Nat} (A:j<p.fr.length) (e:(atF p j).leased=true):False:=by
 have:=List.countP_eq_zero.1 h _ (List.getElem_mem A);rw [<- zaW A] at this;rcases C.ok j A with q | q | q
 ·rw [q] at e;cases e
 ·rw [q] at this;exact this (by simp [zvW])
 rw [q.l] at e;cases e
theorem zub {p:Pl} {n:Nat} (C:Ps p n) (J:∀ j,j<p.fr.length -> ¬ (atF p j).leased=true) (H:∀ o,Use p o 0 0):nb p.fr=0:=List.countP_eq_zero.2 λx I=>by
 obtain ⟨j,A,rfl⟩:=List.getElem_of_mem I;rw [<- zaW A];have:(atF p j).idle:=by
  rcases C.ok j A with q | q | q
  ·exact .inl q
  ·exact absurd (by rw [q];rfl) (J j A)
  exact .inr ⟨q.h,by rw [(H (atF p j).name).pins j A q.h rfl,if_neg (λh=>absurd h.1 (Nat.lt_irrefl 0))]⟩
 simp [this]
theorem zwc {p q:Pl} {n:Nat} {i e:Int} (H:Ps p n) (h:ret1 p i=(q,e)) (J:q.fr.length=p.fr.length) {j:Nat} (I:j<p.fr.length) (hd:(atF q j).leased=true):(atF p j).leased=true/\(j:Int)≠i:=by
 unfold ret1 at h;split at h
 ·rename_i C;rw [<- (Prod.mk.inj h).1] at hd;exact ⟨hd,by omega⟩
 split at h
 ·rename_i C A;rw [<- (Prod.mk.inj h).1] at hd;exact ⟨hd,λq=>by rw [<- q,Int.toNat_natCast,hd] at A;cases A⟩
 rename_i C _;rw [<- (Prod.mk.inj h).1,zaL F0 vd] at hd;split at hd
 ·cases hd
 rename_i q;exact ⟨hd,λe=>q (by rw [<- e];rfl)⟩
/-! ### Names -/
open Run (nameS dig)
theorem zbM (s:tt) (i:Nat):(nameS s i).size=s.size+4:=by
 unfold Run.nameS;rw [ByteArray.size_append,zaJ];rfl
theorem zhQ {i j k:Nat} (h:dig i k=dig j k):i / 10 ^ k % 10=j / 10 ^ k % 10:=by
 unfold Run.dig at h;have:=congrArg UInt8.toNat h;rw [UInt8.toNat_ofNat',UInt8.toNat_ofNat'] at this;generalize i / 10 ^ k=a at *;generalize j / 10 ^ k=b at *;omega
theorem zf6 {s:tt} {i j:Nat} (hi:i<=9999) (U:j<=9999) (h:nameS s i=nameS s j):i=j:=by
 unfold Run.nameS at h;have C:=congrArg (λb:tt=>b.data.toList) h;simp only [ByteArray.data_append,Array.toList_append,bs_data] at C;have A:=List.append_cancel_left C;simp only [List.cons.injEq,and_true] at A;obtain ⟨Q,I,H,J⟩:=A;have W:=zhQ Q;have Y:=zhQ I;have X:=zhQ H;have V:=zhQ J;omega
theorem zlg {s:tt} (A:s.size<=12) (i:Nat):nm (nameS s i):=by
 unfold nm;rw [zbM];omega
theorem zke {w c:Nat} (h:w<=8):Rec.needN w c<=2+c:=by
 unfold Rec.needN;have:=Nat.mul_le_mul_right c (Rec.zfe h);omega
end Sto
end
section
open Go.RowKit
open Mv Disk
namespace Sto
theorem Use.fr_ {x y:Pl} {s:tt} {f A:Nat} (h:Use x s f A) (e:y.fr=x.fr):Use y s f A:=by
 have a:∀ i,atF y i=atF x i:=λi=>by unfold atF;rw [e]
 exact ⟨λi hi C H=>by rw [a] at C H ⊢;exact h.pins i (by rw [<- e];exact hi) C H,λI=>by rw [a,e];exact h.at_ I,λi hi=>by rw [a];exact h.z0 i (by rw [<- e];exact hi)⟩
theorem Use.z {x:Pl} {s:tt} {f:Nat} (h:Use x s f 0):Use x s 0 0 :=
 ⟨λi hi A C=>(h.pins i hi A C).trans (by rw [if_neg (λh=>absurd h.1 (Nat.lt_irrefl 0)),if_neg (λh=>absurd h.1 (Nat.lt_irrefl 0))]),λh=>absurd h (Nat.lt_irrefl 0),h.z0⟩
def No:tt->Prop:=λ_=>False
structure Far (x y:Pl) (D E:ByteArray->Prop) (k:Nat):Prop where
  l:y.fr.length=x.fr.length
  z:y.d.size=x.d.size
  q:used y.d.ext<=used x.d.ext+k
  n:∀ o,¬ D o->Sto.ns y.d o=Sto.ns x.d o
  v:∀ o (k:Nat),¬ D o->k<Sto.ns x.d o->vw y o (k:Int)=vw x o (k:Int)
  u:∀ o,¬ E o->Use x o 0 0->Use y o 0 0
theorem Far.refl (x:Pl) (D E:tt->Prop):Far x x D E 0:=⟨rfl,rfl,Nat.le_refl _,λ_ _=>rfl,λ_ _ _ _=>rfl,λ_ _ h=>h⟩
theorem Far.trans {x y z:Pl} {D E:tt->Prop} {j k:Nat} (h:Far x y D E j) (g:Far y z D E k):Far x z D E (j+k) :=
 ⟨g.l.trans h.l,g.z.trans h.z,by have:=h.q;have:=g.q;omega,λo A=>(g.n o A).trans (h.n o A),λo k A C=>(g.v o k A (by rw [h.n o A];exact C)).trans (h.v o k A C),λo A H=>g.u o A (h.u o A H)⟩
theorem Far.mono {x y:Pl} {D E D' E':tt->Prop} {j k:Nat} (h:Far x y D E j) (hd:∀ o,D o->D' o) (H:∀ o,E o->E' o) (C:j<=k):Far x y D' E' k :=
 ⟨h.l,h.z,Nat.le_trans h.q (Nat.add_le_add_left C _),λo A=>h.n o λe=>A (hd o e),λo j A I=>h.v o j (λe=>A (hd o e)) I,λo A J=>h.u o (λe=>A (H o e)) J⟩
theorem zo0 {x y:Pl} {E:tt->Prop} (h:Stays x y) (u:∀ o,¬ E o->Use x o 0 0->Use y o 0 0):Far x y No E 0:=⟨h.l,h.z,by rw [h.u];exact Nat.le_refl _,λo _=>h.n o,λo k _ A=>h.v o k A,u⟩
theorem zsU {x y:Pl} {s:tt} (h:Stays x y) (g:Oth x y s):Far x y No (λo=>o=s) 0:=zo0 h λo A C=>C.oth g A h.l
theorem zwd {x y:Pl} {s:tt} (h:Near x y s) (g:Oth x y s):Far x y (λo=>o=s) (λo=>o=s) 0:=⟨h.l,h.z,by rw [h.u];exact Nat.le_refl _,λo _=>h.n o,λo k A C=>h.v o k A C,λo A H=>H.oth g A h.l⟩
theorem zhR {x y:Pl} {s:tt} {w ct B:Nat} {L:List UInt8} (h:Sealed x y s w ct B L):Far x y (λo=>o=s) No 0:=⟨h.st.l,h.st.z,by rw [h.st.u];exact Nat.le_refl _,λo _=>h.st.n o,λo k A C=>h.st.v o k A C,λo _ H=>by
 by_cases e:o=s
 ·subst e;exact h.uo
 exact h.us o 0 0 e H⟩
theorem zfm {x y:Pl} {s:tt} {m:Nat} (h:Made x y s m):Far x y (λo=>o=s) No m:=⟨by rw [h.fr],h.z,by rw [h.u];exact Nat.le_refl _,λo A=>by rw [h.n,if_neg (Ne.symm A)],λo k _ C=>h.v o k C,λo _ H=>H.fr_ h.fr⟩
theorem Wrote.far {x y:Pl} {s:tt} {L:List UInt8} {D E:tt->Prop} {k:Nat} (h:Wrote x s L) (g:Far x y D E k) (hs : ¬ D s):Wrote y s L:=λj A=>by
 rw [g.n s hs] at A;rw [<- h j A];unfold byt;rw [g.v s _ hs A]
theorem Has.far {x y:Pl} {s:tt} {w c:Nat} {L:List UInt8} {D E:tt->Prop} {k:Nat} (h:Has x s w c L) (g:Far x y D E k) (hs : ¬ D s):Has y s w c L :=
 ⟨(g.n s hs).trans h.n,(g.v s 0 hs h.pos).trans h.h,h.b.far g hs,h.l⟩
end Sto
end
section
open Go.RowKit
open Mv Disk Num
namespace Sto
open Run (nameS)
theorem WkS.grew {S S':Mem} {a wk q:Nat} {u:W5} {o:Option (Nat × Nat)} {ts:List tt} (h:WkS S a wk u o ts) (g:Grew S S' q) (J:q≠wk) (C:Away o q):WkS S' a wk u o ts where
 own:=g.own wk _ (Ne.symm J) h.own
 gro:=⟨h.gro.nil,λt c e=>by
  obtain ⟨H,I,Q⟩:=h.gro.own t c e;exact ⟨g.own t _ (C t c e) H,I,λz v A=>Q z v (by rw [<- g.ro];exact A)⟩⟩
theorem zuc {S:Mem} {t C a:Nat} {r:Rd} {k:Blk} (h:S.own t=some (rdB a r)) (h':S.own C=some k) (A:k.elem≠130):t≠C:=λe=>by
 subst e;rw [h] at h';exact A (by rw [<- Option.some.inj h'];rfl)
def isRun (pre:tt):tt->Prop:=λs=>∃ j,j<=9999/\s=nameS pre j
def isRunOr (fn pre:tt):tt->Prop:=λs=>s=fn\/isRun pre s
structure RunI (a p b c wk q:Nat) (u:W5) (fn pre:ByteArray) (w m N:Nat) (rows:List (List Nat)) (ts0:List ByteArray) (x0:Pl) (Z M:Mem) (y:Pl) (f:Nat) (o:Option (Nat × Nat)) (ts:List ByteArray) (done:List (List (List Nat))) (i0:Nat) (K:Mem) (ll:List Int):Prop where
  e0:i0=min (done.length*N) rows.length
  ar:ArS Z a p b c y M
  ps:Ps y 0
  ow:Z.own q=some (rdB a ⟨fn,w,rows.length,5*w*i0,f,0⟩)
  wks:WkS Z a wk u o ts
  te:ts=ts0 ++ (List.range done.length).map (nameS pre)
  us:Use y fn f 0
  nb:nb y.fr<=m-8
  ln:y.fr.length=m
  hs:Has y fn w rows.length (rows.flatMap recB)
  dn:∀ j (h:j<done.length),Has y (nameS pre j) w done[j].length (done[j].flatMap recB)
  no:∀ j,done.length<=j->j<=9999->ns y.d (nameS pre j)=0
  fa:Far x0 y (isRun pre) (isRunOr fn pre) (2*done.length+i0)
  pm:done.flatten.Perm (rows.take i0)
  so:∀ r ∈ done,SortedR r/\RowsOK w r/\r ≠ []
  cl:∀ j,j<y.fr.length->(atF y j).dirty=false
  mn:done.length=0\/(done.length-1)*N<rows.length
  ud2:∀ j,j<done.length->Use y (nameS pre j) 0 0
  kb:K.Less Z
  kq:K.own q=none
  kw:K.own wk=none
  ko:∀ t c,o=some (t,c)->K.own t=none
  le:∀ j,j<y.fr.length->(atF y j).leased=true->(j:Int) ∈ ll
theorem RunI.tl {a p b c wk q:Nat} {u:W5} {fn pre:tt} {w m N:Nat} {rows:List (List Nat)} {ts0:List tt} {x0:Pl} {Z M:Mem} {y:Pl} {f:Nat} {o:Option (Nat × Nat)} {ts:List tt} {done:List (List (List Nat))} {i0:Nat} {K:Mem} {ll:List Int} (h:RunI a p b c wk q u fn pre w m N rows ts0 x0 Z M y f o ts done i0 K ll):ts.length=ts0.length+done.length:=by rw [h.te];simp
theorem RunI.qwk {a p b c wk q:Nat} {u:W5} {fn pre:tt} {w m N:Nat} {rows:List (List Nat)} {ts0:List tt} {x0:Pl} {Z M:Mem} {y:Pl} {f:Nat} {o:Option (Nat × Nat)} {ts:List tt} {done:List (List (List Nat))} {i0:Nat} {K:Mem} {ll:List Int} (h:RunI a p b c wk q u fn pre w m N rows ts0 x0 Z M y f o ts done i0 K ll):q≠wk/\Away o q :=
 ⟨zuc h.ow h.wks.own (by show ¬ 120=130;decide),h.wks.away h.ow (by show ¬ 130=9;decide)⟩
theorem RunI.rd {a p b c wk q:Nat} {u:W5} {fn pre:tt} {w m N:Nat} {rows:List (List Nat)} {ts0:List tt} {x0:Pl} {Z M:Mem} {y:Pl} {f:Nat} {o:Option (Nat × Nat)} {ts:List tt} {done:List (List (List Nat))} {i0:Nat} {K:Mem} {ll:List Int} (h:RunI a p b c wk q u fn pre w m N rows ts0 x0 Z M y f o ts done i0 K ll):RdS Z a p b c q ⟨fn,w,rows.length,5*w*i0,f,0⟩ y 0 (m-8) M :=
 ⟨h.ar,h.ow,h.ps,h.us,by show _<=_+if 0<0 then 1 else 0;rw [if_neg (Nat.lt_irrefl 0)];exact h.nb⟩
theorem RunI.next {a p b c wk q:Nat} {u:W5} {fn pre:tt} {w m N:Nat} {rows:List (List Nat)} {ts0:List tt} {x0:Pl} {Z M:Mem} {y:Pl} {f:Nat} {o:Option (Nat × Nat)} {ts:List tt} {done:List (List (List Nat))} {i0:Nat} {K:Mem} {ll:List Int} (h:RunI a p b c wk q u fn pre w m N rows ts0 x0 Z M y f o ts done i0 K ll)
  {X:GX} (H:GI Z a p b c q ⟨fn,w,rows.length,5*w*i0,f,0⟩ y 0 (m-8) rows i0 X.Z X.M X.R X.r X.y X.o X.hs) (hk:X.hs.length=min N (rows.length-i0)) (hh:X.r.held=0) (aC:i0<rows.length) (hN:1<=N) (h8:w<=8) (h1:1<=w) (hr:RowsOK w rows) (aa:done.length<=9999) (ac:∀ j,fn≠nameS pre j)
  {S' T2 T3:Mem} {y2 y3:Pl} {q2 n2:Nat} {o2:Option (Nat × Nat)} (I:Temped X.Z a p b c wk u o ts X.y (nameS pre done.length) w X.hs.length n2 (m-8) T2 q2 y2 S' o2)
  {r':Wt} {A:List (List Nat)} (hp:A.Perm ((rows.drop i0).take X.hs.length)) (av:SortedR A) (hA:ArS (S'.set q2 (wtB a r')) a p b c y3 T3) (J:Sealed y2 y3 (nameS pre done.length) w X.hs.length (m-8) (A.flatMap recB)) :
  RunI a p b c wk q u fn pre w m N rows ts0 x0 (S'.set q2 (wtB a r')) T3 y3 X.r.fr o2 (ts ++ [nameS pre done.length]) (done ++ [A]) (i0+X.hs.length) K ll:=by
 obtain ⟨d1,d2⟩:=h.qwk;have hl:A.length=X.hs.length:=by rw [hp.length_eq,List.length_take,List.length_drop];omega
 have aD:X.r=⟨fn,w,rows.length,5*w*(i0+X.hs.length),X.r.fr,0⟩:=by
  have e1:=H.nm;have e2:=H.w;have e3:=H.ct;have e4:=H.at_;dsimp only at e1 e2 e3 e4;cases e:X.r with
  | mk a1 a2 a3 a4 a5 a6 =>
   rw [e] at e1 e2 e3 e4 hh;dsimp only at e1 e2 e3 e4 hh;rw [e1,e2,e3,e4,hh]
 have ai:=H.rd.ow;have ay:=h.wks.grew H.gr d1 d2;obtain ⟨k1,k2⟩:=I.kp q _ ai (ay.away ai (by show ¬ 130=9;decide)) d1;have ax:q2≠wk:=λe=>by
  have:=I.wt.ow;rw [e,I.wks.own] at this;have:=congrArg Blk.elem (Option.some.inj this);exact absurd (show 120=206 from this) (by decide)
 have aw:∀ s,ns X.y.d s=ns y.d s:=H.st.n;have aj:∀ j,j<done.length->nameS pre j≠nameS pre done.length:=λj U e=>by have:=zf6 vd aa e;omega
 have aL:=zke (c:=X.hs.length) h8;have Y:∀ {s:tt} {cc:Nat} {L:List UInt8},s≠nameS pre done.length->Has y s w cc L->Has y3 s w cc L:=λhs hH=>((hH.stays H.st).made I.md hs).near J.st hs;have Q:RowsOK w A:=λr hm=>hr r (List.mem_of_mem_drop (List.mem_of_mem_take (hp.mem_iff.1 hm)));have ag:Has y3 (nameS pre done.length) w A.length (A.flatMap recB):=by
  refine ⟨?_,by rw [hl];exact J.hd,J.wr,zef h1 Q⟩;rw [J.st.n,I.md.n,if_pos rfl,hl]
 have C:(done ++ [A]).length=done.length+1:=by rw [List.length_append];rfl
 have e0:=h.e0;have aE:i0=done.length*N:=by omega
 have W:K.Less X.Z:=⟨λt k V=>H.gr.own t k (λe=>by rw [e,h.kq] at V;cases V) (h.kb.own V),h.kb.2.trans H.gr.ro.symm⟩;have az:K.Less S':=⟨λt k V=>(I.kp t k (W.own V) (λg cc e eq=>by subst eq;rw [h.ko g cc e] at V;cases V) (λeq=>by rw [eq,h.kw] at V;cases V)).1,W.2.trans I.ro.symm⟩;have ak:K.own q2=none:=by
  cases e:K.own q2 with
  | none=>rfl
  | some k =>
   have:=W.own e;rw [I.new] at this;cases this
 have aB:∀ s,s≠fn->Use y s 0 0->Use y2 s 0 0:=λs hs hu=>(hu.oth H.ot hs H.st.l).fr_ I.md.fr;refine ⟨?_,hA,J.ps,?_,I.wks.set _ ax (I.wks.away I.wt.ow (by show ¬ 206=9;decide)),by rw [C,List.range_succ,List.map_append,h.te,List.append_assoc];rfl,?_,J.nb,J.st.l.trans ((congrArg List.length I.md.fr).trans (H.st.l.trans h.ln)),Y (ac _) h.hs,λj U=>?_,λj U ah=>?_,?_,?_,λr hm=>?_,J.cl,.inr (by rw [C,Nat.add_sub_cancel,<- aE];exact aC),λj U=>?_,?_,h.kq,h.kw,λt c e=>?_,λj U e=>?_⟩
 ·rw [C,Nat.add_mul,Nat.one_mul];omega
 ·rw [<- aD];exact (vg _ _ k2).trans k1
 ·refine J.us _ _ _ (ac _) (Use.fr_ ?_ I.md.fr);have hu:=H.rd.us;rw [hh,H.nm] at hu;exact hu
 ·by_cases q1:j<done.length
  ·rw [List.getElem_append_left q1];exact Y (aj j q1) (h.dn j q1)
  obtain rfl:j=done.length:=by rw [C] at U;omega
  rw [List.getElem_append_right (Nat.le_refl _)];simp only [Nat.sub_self,List.getElem_cons_zero];exact ag
 ·rw [C] at U;rw [J.st.n,I.md.n,if_neg (λe=>by have:=zf6 aa ah e;omega),aw];exact h.no j vd ah
 ·refine (h.fa.trans (((zsU H.st H.ot).mono (λ_ e=>e.elim) (λo e=>.inl e) (Nat.le_refl _)).trans (((zfm I.md).trans (zhR J)).mono (λo e=>⟨_,aa,e⟩) (λ_ e=>e.elim) (Nat.le_refl _)))).mono (λ_ e=>e) (λ_ e=>e) ?_;rw [C];omega
 ·rw [List.flatten_append,List.flatten_singleton,List.take_add];exact h.pm.append hp
 ·rcases List.mem_append.1 hm with hm | hm
  ·exact h.so r hm
  rw [List.mem_singleton.1 hm];exact ⟨av,Q,λe=>by rw [e] at hl;simp at hl;omega⟩
 ·rw [C] at U;by_cases q1:j=done.length
  ·subst q1;exact J.uo
  exact J.us _ _ _ (aj j vd) (aB _ (Ne.symm (ac j)) (h.ud2 j vd))
 ·exact zao az ak
 ·rcases I.na t c e with h' | ⟨c',h'⟩
  ·cases e2:K.own t with
   | none=>rfl
   | some k=>rw [W.own e2] at h';cases h'
  exact h.ko t c' h'
 have hy:y3.fr.length=y.fr.length:=J.st.l.trans ((congrArg List.length I.md.fr).trans H.st.l);have e2:=J.le j (by rw [I.md.fr,H.st.l,<- hy];exact U) e;rw [show atF y2 j=atF X.y j from by unfold atF;rw [I.md.fr]] at e2;exact h.le j (by rw [<- hy];exact U) (H.ot.le H.rd.ps (zv1 h.ps.d h.hs.pos) H.st.l (by rw [<- hy];exact U) e2)
end Sto
end
section
open Go.RowKit
open Mv Disk Num
namespace Sto
open Run (nameS sizeN)
structure RuX where
  Z:Mem
  M:Mem
  y:Pl
  f:Nat
  o:Option (Nat × Nat)
  ts:List tt
  done:List (List (List Nat))
  i0:Nat
structure RunE (a p b c wk:Nat) (u:W5) (fn pre:ByteArray) (w m N:Nat) (rows:List (List Nat)) (ts0:List ByteArray) (x0:Pl) (Z M:Mem) (y:Pl) (o:Option (Nat × Nat)) (ts:List ByteArray) (done:List (List (List Nat))) (K:Mem) (ll:List Int):Prop where
  ar:ArS Z a p b c y M
  ps:Ps y 0
  wks:WkS Z a wk u o ts
  us:Use y fn 0 0
  dn:∀ j (h:j<done.length),Has y (nameS pre j) w done[j].length (done[j].flatMap recB)
  fa:Far x0 y (isRun pre) (isRunOr fn pre) (2*done.length+rows.length)
  no:∀ j,done.length<=j->j<=9999->ns y.d (nameS pre j)=0
  pm:done.flatten.Perm rows
  so:∀ r ∈ done,SortedR r/\RowsOK w r/\r ≠ []
  cl:∀ j,j<y.fr.length->(atF y j).dirty=false
  mn:done.length=0\/(done.length-1)*N<rows.length
  te:ts=ts0 ++ (List.range done.length).map (nameS pre)
  ln:y.fr.length=m
  ud2:∀ j,j<done.length->Use y (nameS pre j) 0 0
  kb:K.Less Z
  ko:∀ t c,o=some (t,c)->K.own t=none
  le:∀ j,j<y.fr.length->(atF y j).leased=true->(j:Int) ∈ ll
theorem RunE.ret {a p b c wk:Nat} {u:W5} {fn pre:tt} {w m N:Nat} {rows:List (List Nat)} {ts0:List tt} {x0:Pl} {Z M H:Mem} {y z:Pl} {o:Option (Nat × Nat)} {ts:List tt} {done:List (List (List Nat))} {i e:Int} {K:Mem} {ll:List Int} (h:RunE a p b c wk u fn pre w m N rows ts0 x0 Z M y o ts done K (i :: ll)) (C:ret1 y i=(z,e)) (I:Ps z 0) (hs:Stays y z) (J:ArS Z a p b c z H):RunE a p b c wk u fn pre w m N rows ts0 x0 Z H z o ts done K ll :=
 ⟨J,I,h.wks,zkd C hs.l h.us,λj A=>(h.dn j A).stays hs,h.fa.trans ((zo0 (E:=No) hs λo _ U=>zkd C hs.l U).mono (λ_ e=>e.elim) (λ_ e=>e.elim) (Nat.le_refl _)),λj V Q=>(hs.n _).trans (h.no j V Q),h.pm,h.so,zwb C hs.l h.cl,h.mn,h.te,hs.l.trans h.ln,λj A=>zkd C hs.l (h.ud2 j A),h.kb,h.ko,λj A e2=>by
  obtain ⟨e3,e4⟩:=zwc h.ps C hs.l (by rw [<- hs.l];exact A) e2;exact (List.mem_cons.1 (h.le j (by rw [<- hs.l];exact A) e3)).resolve_left e4⟩
theorem RunI.done {a p b c wk q:Nat} {u:W5} {fn pre:tt} {w m N:Nat} {rows:List (List Nat)} {ts0:List tt} {x0:Pl} {Z M:Mem} {y:Pl} {f:Nat} {o:Option (Nat × Nat)} {ts:List tt} {done:List (List (List Nat))} {i0:Nat} {K:Mem} {ll:List Int} (h:RunI a p b c wk q u fn pre w m N rows ts0 x0 Z M y f o ts done i0 K ll) (hi : ¬ i0<rows.length):RunE a p b c wk u fn pre w m N rows ts0 x0 Z M y o ts done K ll:=by
 have e:=h.e0;have hi:i0=rows.length:=by omega
 subst hi;exact ⟨h.ar,h.ps,h.wks,h.us.z,h.dn,h.fa,h.no,by have:=h.pm;rwa [List.take_length] at this,h.so,h.cl,h.mn,h.te,h.ln,h.ud2,h.kb,h.ko,h.le⟩
theorem RunI.start {S T:Mem} {a p b c wk q:Nat} {u:W5} {fn pre:tt} {w m N:Nat} {rows:List (List Nat)} {x:Pl} {y:Pl} {U:Option (Nat × Nat)} {ts0:List tt} (h:ArS S a p b c y T) (hq:S.own q=some (rdB a ⟨fn,w,rows.length,0,0,0⟩)) (I:WkS S a wk u U ts0) (X:Ps y 0) (A:Stays x y) (H:∀ j,j<y.fr.length->(atF y j).dirty=false) (C:∀ s,Use x s 0 0->Use y s 0 0) (W:Sto.nb y.fr<=m-8) (J:x.fr.length=m)
  (hH:Has x fn w rows.length (rows.flatMap recB)) (V:Use x fn 0 0) (Q:∀ j,ns x.d (nameS pre j)=0) {K:Mem} (k1:K.Less S) (k2:K.own q=none) (k3:K.own wk=none) (k4:∀ t c,U=some (t,c)->K.own t=none) {ll:List Int} (Y:∀ j,j<y.fr.length->(atF y j).leased=true->(j:Int) ∈ ll):RunI a p b c wk q u fn pre w m N rows ts0 x S T y 0 U ts0 [] 0 K ll where
 e0:=by simp
 ar:=h
 ps:=X
 ow:=hq
 wks:=I
 te:=by simp
 us:=C fn V
 nb:=W
 ln:=A.l.trans J
 hs:=hH.stays A
 dn:=λj h=>absurd h (Nat.not_lt_zero j)
 no:=λj _ _=>(A.n _).trans (Q j)
 fa:=(zo0 A λo _ h=>C o h).mono (λ_ e=>e.elim) (λ_ e=>e) (Nat.zero_le _)
 pm:=by simp
 so:=λr hr=>by cases hr
 cl:=H
 mn:=.inl rfl
 ud2:=λj h=>absurd h (Nat.not_lt_zero j)
 kb:=k1
 kq:=k2
 kw:=k3
 ko:=k4
 le:=Y
theorem zo1 {Z J S' M T' R:Mem} {a p b c wk q H:Nat} {u:W5} {o V oh:Option (Nat × Nat)} {ts:List tt} {r U:Rd} {x y y2:Pl} {n X B W i0 w ct:Nat} {rows:List (List Nat)} {hs:List tu} {s:tt} (Q:WkS Z a wk u o ts) (A:GI Z a p b c q r x n B rows i0 J M R U y oh hs) (I:Temped J a p b c wk u o ts y s w ct X W T' H y2 S' V):R.Less S'/\R.own H=none:=by
 refine ⟨⟨λt k C=>(I.kp t k (A.rl.own C) (λg Y e eq=>?_) (λeq=>?_)).1,A.rl.2.trans I.ro.symm⟩,?_⟩
 ·subst eq;have:=A.rn _ _ (Q.gro.own g Y e).1;rw [C] at this;cases this
 ·subst eq;have:=A.rn _ _ Q.own;rw [C] at this;cases this
 cases e:R.own H with
 | none=>rfl
 | some k =>
  have:=A.rl.own e;rw [I.new] at this;cases this
theorem zrD (rows:List (List Nat)) (i0 k:Nat) {i:Nat} (h:i<k):((rows.drop i0).take k).getD i []=rows.getD (i0+i) []:=by
 rw [List.getD_eq_getElem?_getD,List.getD_eq_getElem?_getD,List.getElem?_take_of_lt h,List.getElem?_drop]
theorem zrE (S:Mem) (a p b c wk q:Nat) (u:W5) (fn pre:tt) (w m:Nat) (rows:List (List Nat)) (x:Pl) (T:Mem) (h:ArS S a p b c x T) (hq:S.own q=some (rdB a ⟨fn,w,rows.length,0,0,0⟩)) (o0:Option (Nat × Nat)) (ts0:List tt) (au:WkS S a wk u o0 ts0) (bQ:ts0.length<=9) (av:Ps x 0) (ag:x.fr.length=m) (ai:Sto.nb x.fr=0) (bp:∀ j,j<x.fr.length->(atF x j).dirty=false) (a3:Use x fn 0 0)
  (hH:Has x fn w rows.length (rows.flatMap recB)) (aT:24<=m) (aV:m<=256) (h1:1<=w) (h8:w<=8) (hr:RowsOK w rows) (hc:rows.length<=9990) (bX:5*w*rows.length+5*w*rows.length+512<=16384) (bh:pre.size≠0) (aO:pre.size<=12) (bq:∀ j,fn≠nameS pre j) (bb:∀ j,ns x.d (nameS pre j)=0) (bj:(used x.d.ext:Int)+rows.length+2*(rows.length / sizeN m w:Nat)+2<=x.d.size) (K:Mem) (k1:K.Less S) (k2:K.own q=none) (k3:K.own wk=none) (k4:∀ t c,o0=some (t,c)->K.own t=none) :
  ACall prog 171 #[self wk,self q,.string pre] T λv T'=>∃ Z y o ts done,v = .tuple #[.int .i64 (List.length done:Nat),.nilIface]/\RunE a p b c wk u fn pre w m (sizeN m w) rows ts0 x Z T' y o ts done K []:=by
 have a1:=Run.zrv m w;have hN:=Run.zrw aT h8 h1;have bY:=Run.zoV m w aV;obtain ⟨xq,l,aL,bB,br,aw,a4,bw,aP,bz⟩:=zrC (k:=m-8) av vd bp vd;rw [ai,Nat.zero_add] at aP;rw [show ((m-8:Nat):Int)=(m:Int)-8 from by omega] at aL;have aa:=zdz h (λk oE oW ok=>zoI a p b c x ((m:Int)-8) k S oE oW ok (zeP av));rw [aL] at aa;have bM:=zuc hq au.own (by show ¬ 120=130;decide);have oT:=zah h au.own;obtain ⟨i1,aD⟩:=zcx h;have oq:=zah h hq;unfold wkB at oT;unfold arB at aD;unfold rdB at oq;dsimp only at oq;rw [ag] at aD;generalize sizeN m w=N at *;refine k_E3 120 func171 ?_;refine r26_ ?_;refine cp_ rfl (a1 _ aT aV h1 h8) ?_;refine r15_ ?_;refine ca_ rfl (aa) ?_;rintro _ S1 ⟨v,rfl,i2,az,ak,ol,am,Y,rfl,C⟩;rw [C];clear C S1;dsimp only at am Y ⊢;rw [bB] at Y ⊢;obtain ⟨V,U,rfl⟩:=Y.some vd;obtain ⟨ay,cb⟩:=Y.own V U rfl;have aW:ArS S a p b c xq (arM (devM S p xq.d az ak) a p b c xq i2):=⟨i2,az,ak,am,rfl⟩;have an:RunI a p b c wk q u fn pre w m N rows ts0 x S _ _ 0 o0 ts0 [] 0 K l:=RunI.start aW hq au br aw a4 bw (Nat.le_of_eq aP) ag hH a3 bb k1 k2 k3 k4 (λj hj e=>(bz j (by rw [<- aw.l];exact hj) e).resolve_left λe2=>zua av ai (by rw [<- aw.l];exact hj) e2);clear am Y aW aa;generalize arM (devM S p xq.d az ak) a p b c xq i2=M0 at *;refine r7_ ?_;refine AWP.less (M0.set V ⟨3,l.flatMap i64s,U*1⟩) (Mem.Less.refl _) ?_;have W:=zah an.ar hq
 (unfold rdB at W;dsimp only at W)
 have bi:q≠V:=ay.ne' W |>.symm
 have be:=(vg M0 ⟨3,l.flatMap i64s,U*1⟩ bi).trans W;refine r7_ ?_;refine cF_ ?_;refine r18_ ?_;refine kw_ [0,1,2,6,7,8,9,11,12,51,13,14] ?_;refine s1_ ?_;refine AWP.loop (X:=RuX) (λX=>[(0,self wk),(1,self q),(2,.string pre),(9,.int .i64 (N:Nat)),(11,.slice (some ⟨V,0,none⟩) (m-8) U),(13,.int .i64 (X.done.length:Nat)),(14,.int .i64 ((rows.length:Int)-((X.done.length*N:Nat):Int)))]) (λX=>X.M.set V ⟨3,l.flatMap i64s,U*1⟩) (λX=>RunI a p b c wk q u fn pre w m N rows ts0 x X.Z X.M X.y X.f X.o X.ts X.done X.i0 K l/\Fresh X.M V) (λX=>rows.length-X.i0) (⟨S,M0,xq,0,o0,ts0,[],0⟩) ⟨rfl,rfl,rfl,rfl,rfl,rfl,zan (by simp),trivial⟩ (Mem.Less.refl _) (⟨an,ay⟩) ?_;rintro ⟨Z,M,y,f,o,ts,done,i0⟩ ⟨H,hf⟩;(try dsimp only at *);clear an ay W be;replace H:RunI a p b c wk q u fn pre w m N rows ts0 x Z M y f o ts done i0 K l:=H;replace hf:Fresh M V:=hf;have e0:=H.e0;by_cases q1:i0<rows.length
 ·have ba:i0=done.length*N:=by omega
  have b2:done.length<=i0:=by rw [ba];exact Nat.le_mul_of_pos_right _ vd
  have bP:done.length<=rows.length / N:=by rw [Nat.le_div_iff_mul_le vd];omega
  have a2:=(zms Z a p b c q _ y 0 (m-8) N i0 M rows H.rd H.hs hr rfl h1 h8 vd rfl vd vd (by show 0+5*w*rows.length<=_;omega) (by rw [H.ln];omega)).frame (r:=⟨3,l.flatMap i64s,U*1⟩) hf;refine r7_ ?_;refine cT_ ?_;refine r8_ ?_;refine ca_ rfl (a2) ?_;rintro _ S1 ⟨Sa,⟨⟨Z1,M1,R1,r1,y1,oh,A⟩,rfl,aQ,ae,I,aj⟩,ao,C⟩;rw [C];clear C S1;dsimp only at aQ ae I aj ao ⊢;obtain ⟨g,ch,rfl⟩:=I.oo.some vd;obtain ⟨hg,bK⟩:=I.oo.own g ch rfl;replace ae:Sa=M1.set g ⟨22,A,ch*1⟩:=ae;subst ae;obtain ⟨a9,b1⟩:=zaa ao;obtain ⟨d1,d2⟩:=H.qwk;have bf:=I.rd.ow;have bg:=H.wks.grew I.gr d1 d2;have bk:r1.w=w:=I.w;have ac:=zah I.rd.ar bf
  (unfold rdB at ac;rw [bk] at ac)
  have qg:q≠g:=(hg.ne ac);have a7:q≠V:=(a9.ne ac);have bd:=(vg M1 ⟨22,A,ch*1⟩ qg).trans ac;have bN:=(vg (M1.set g ⟨22,A,ch*1⟩) ⟨3,l.flatMap i64s,U*1⟩ a7).trans bd;have Q:((rows.drop i0).take A.length).length=A.length:=by rw [List.length_take,List.length_drop];omega
  have bE:=zke (c:=A.length) h8;have bT:=H.fa.q;refine r10_ ?_;refine cp_ rfl (zbc _ _) ?_;refine r6_ ?_;refine rC (vi rfl rfl Er.neNil) ?_;refine r2_ ?_;refine cF_ ?_;refine r6_ ?_;refine cp_ rfl (Run.zfl pre done.length _ bh aO vd) ?_;have a5:=((zoZ Z1 a p b c wk u o ts y1 (nameS pre done.length) w A.length (0+5*w*A.length) (m-8) M1 I.rd.ar bg (by rw [H.tl];omega) I.rd.ps (zlg aO _) (by rw [I.st.n];exact H.no _ (Nat.le_refl _) vd) h8 vd (by rw [I.st.u,I.st.z,H.fa.z];omega) (by have:=I.rd.nb;rw [aj,if_neg (Nat.lt_irrefl 0)] at this;exact this)).frame (r:=⟨22,A,ch*1⟩) hg).frame (r:=⟨3,l.flatMap i64s,U*1⟩) ao;refine r7_ ?_;refine kw_ [0,1,2,9,11,13,14,60,15,16,73,17] ?_;refine r11_ ?_;refine ca_ rfl (a5) ?_;rintro _ S1 ⟨Sb,⟨Sc,⟨q2,y2,S',o2,rfl,hT⟩,bc,bv⟩,bt,C⟩;rw [C];clear C S1;subst bv;refine r11_ ?_;refine rC (vi rfl rfl Er.eqNil) ?_;refine r2_ ?_;refine cT_ ?_;obtain ⟨bm,aR⟩:=zo1 H.wks I hT;have aI:y2.fr.length=m:=(congrArg List.length hT.md.fr).trans (I.st.l.trans H.ln);have ce:5*w*A.length<=5*w*rows.length:=Nat.mul_le_mul_left _ vd;have aG:=(zrA S' a p b c q2 (nameS pre done.length) w y2 (0+5*w*A.length) (m-8) Sc R1 g ch (ch*1) A ((rows.drop i0).take A.length) hT.wt bc bm aR Q.symm (λi hi=>by rw [zrD rows i0 _ hi];exact I.rr i hi) (λr hm=>hr r (List.mem_of_mem_drop (List.mem_of_mem_take hm))) h1 h8 vd (by rw [hT.md.n,if_pos rfl,Q]) (by rw [Q,aI];omega) (by rw [aI];omega)).frame (r:=⟨3,l.flatMap i64s,U*1⟩) bt;rw [Q] at aG;refine r3_ ?_;refine ca_ rfl (aG) ?_;rintro _ S1 ⟨Sd,⟨rfl,r',y3,ax,hp,bo,hA,hS⟩,J,C⟩;rw [C];clear C S1;refine r7_ ?_;refine rC (vi rfl rfl Er.neNil) ?_;refine r2_ ?_;refine cF_ ?_;refine r9_ ?_;refine kw_ [0,1,2,9,11,13,14,60,15,16,73,17,19,20,96,101] ?_;refine r7_ ?_;refine ⟨⟨S'.set q2 (wtB a r'),Sd,y3,r1.fr,o2,ts ++ [nameS pre done.length],done ++ [ax],i0+A.length⟩,?_,?_,?_,?_⟩<;>try dsimp only
  ·exact ⟨rfl,rfl,rfl,rfl,rfl,zan (by rw [List.length_append];simp),zan (by rw [List.length_append,List.length_singleton,Nat.add_mul,Nat.one_mul];omega),trivial⟩
  ·exact Mem.Less.refl _
  ·exact ⟨H.next (X:=⟨Z1,M1,R1,r1,y1,some (g,ch),A⟩) I aQ aj q1 hN h8 h1 hr vd bq hT hp bo hA hS,J⟩
  omega
 refine r7_ ?_;refine cF_ ?_;refine r14_ ?_;refine AWP.loop (X:=Mem × Pl × Nat) (λX=>[(0,self wk),(13,.int .i64 (done.length:Nat)),(106,.slice (some ⟨V,0,none⟩) (m-8) U),(107,.int .i64 ((m-8:Nat):Int)),(108,.int .i64 (X.2.2:Nat))]) (λX=>X.1.set V ⟨3,l.flatMap i64s,U*1⟩) (λX=>RunE a p b c wk u fn pre w m N rows ts0 x Z X.1 X.2.1 o ts done K (l.drop X.2.2)/\Fresh X.1 V/\X.2.2<=m-8) (λX=>m-8-X.2.2) ((M,y,0)) ⟨rfl,rfl,rfl,rfl,rfl,trivial⟩ (Mem.Less.refl _) (⟨H.done q1,hf,Nat.zero_le _⟩) ?_;rintro ⟨M3,y3,i⟩ ⟨hE,J,hi⟩;(try dsimp only at *);clear H e0 hf;replace hE:RunE a p b c wk u fn pre w m N rows ts0 x Z M3 y3 o ts done K (l.drop i):=hE;replace J:Fresh M3 V:=J;replace hi:i<=m-8:=hi;by_cases q2:i<m-8
 ·have aN:i<l.length:=by omega
  have al:=zah hE.ar hE.wks.own;unfold wkB at al;have bn:wk≠V:=J.ne al;have bV:=(vg M3 ⟨3,l.flatMap i64s,U*1⟩ bn).trans al;obtain ⟨li,aF⟩ : ∃ li,li=l[i]:=⟨_,rfl⟩;obtain ⟨z,e,r1,r2,r3⟩:=zvX hE.ps li;have aK:=(zdz hE.ar (λk oE oW ok=>zmo a p b c y3 li k Z oE oW ok (zeP hE.ps))).frame (r:=⟨3,l.flatMap i64s,U*1⟩) J;rw [r1] at aK;refine r6_ ?_;refine cT_ ?_;refine r7_ ?_;refine rC (Calm.load zaq rfl (v:=.int .i64 li) (zcq (vf _ _ _) (by show (l.flatMap i64s)[0+(i:Int).toNat*1]?=_;have:=zdV zj8 l i aN 0 (.int .i64 li) (by rw [aF];rfl);rw [show i*1+0=0+(i:Int).toNat*1 from by omega] at this;exact this))) ?_;refine r9_ ?_;refine ca_ rfl (aK) ?_;rintro _ S1 ⟨Sa,⟨_,hA⟩,bC,C⟩;rw [C];clear C S1;refine r8_ ?_;refine ⟨(Sa,z,i+1),?_,?_,?_,?_⟩<;>try dsimp only
  ·exact ⟨rfl,rfl,rfl,rfl,rfl,trivial⟩
  ·exact Mem.Less.refl _
  ·exact ⟨RunE.ret (by rw [aF,<- List.drop_eq_getElem_cons aN];exact hE) r1 r2 r3 hA,bC,q2⟩
  (show m-8-(i+1)<m-8-i;omega)
 refine r6_ ?_;refine cF_ ?_;refine r13_ ?_;refine ⟨_,M3,⟨_,_,rfl,⟨_,_,rfl,rfl,rfl⟩,rfl⟩,vh _ _ _ J.1,?_⟩;exact ⟨Z,y3,o,ts,done,rfl,by rw [List.drop_eq_nil_of_le vd] at hE;exact hE⟩
end Sto
end
section
namespace Loser
open Num
theorem zo2 (A:List (List Nat)) (i:Nat) (h:i<A.length):key A i=A[i]:=by simp [key,List.getD,h]
end Loser
end
section
open Go.RowKit
open Mv Disk Num Loser
namespace Sto
def srB (q:Nat) (lv:tu):Blk:=⟨324,[self q,lv],2⟩
def LastV (T:Mem) (lv:tu) (last:List Nat):Prop:=(lv = .slice none 0 0/\last = []) \/ ∃ g w,lv = .slice (some ⟨g,0,none⟩) w w/\RowR T lv last
end Sto
end
section
open Go.RowKit
open Mv Disk Num Loser
namespace Sto
end Sto
end
section
open Go.RowKit
open Mv Disk Num Loser
namespace Sto
theorem zhS {x y:Pl} (A:y.fr=x.fr) (hd:y.d=x.d) (s:tt) (k:Int):vw y s k=vw x s k:=by
 unfold vw atF;rw [A,hd]
theorem Ps.same {x y:Pl} {n:Nat} (h:Ps x n) (A:y.fr=x.fr) (hd:y.d=x.d):Ps y n:=by
 have a:∀ i,atF y i=atF x i:=λi=>by unfold atF;rw [A]
 exact ⟨by rw [hd];exact h.d,λi hi=>by rw [a,hd];exact h.ok i (by rw [<- A];exact hi),λi j H I C=>by rw [a,a];exact h.ap i j (by rw [<- A];exact H) (by rw [<- A];exact I) C,by rw [A];exact h.l1,by rw [A];exact h.l2⟩
theorem Has.same {x y:Pl} {s:tt} {w c:Nat} {L:List UInt8} (h:Has x s w c L) (A:y.fr=x.fr) (hd:y.d=x.d):Has y s w c L :=
 ⟨by rw [hd];exact h.n,by rw [zhS A hd];exact h.h,λj C=>by rw [hd] at C;rw [<- h.b j C];unfold byt;rw [zhS A hd],h.l⟩
def strs (s:tt):List tu:=[.string s]
def sumL (files:List (List (List Nat))):Nat:=(files.map List.length).sum
end Sto
end
section
open Go.RowKit
open Mv Disk Num Loser
namespace Sto
def bxB (q:Nat):Blk:=⟨73,[self q],1⟩
theorem za5 {S:Mem} {s t:Nat} {j k:Blk} (h:S.own s=some j) (h':S.own t=some k) (A:j.elem≠k.elem):s≠t:=λe=>by
 subst e;rw [h] at h';exact A (by rw [Option.some.inj h'])
theorem zw7:73≠130:=by decide
theorem zw8:73≠206:=by decide
end Sto
end
section
open Go.RowKit
open Mv Disk Num Loser
namespace Sto
theorem Wrote.same {x y:Pl} {s:tt} {L:List UInt8} (h:Wrote x s L) (C:y.fr=x.fr) (hd:y.d=x.d):Wrote y s L:=λj A=>by
 rw [hd] at A;rw [<- h j A];unfold byt;rw [zhS C hd]
theorem zg3 {x y:Pl} {wt:Wt} {w B:Nat} {out:List (List Nat)} {s:tt} (C:1<=w) (I:RowsOK w out) (h:Sealed x y wt.nm wt.w wt.ct B (out.flatMap recB)) (H:wt.w=w) (hc:wt.ct=out.length) (hs:wt.nm=s) (A:ns x.d wt.nm=Rec.needN w out.length):Has y s w out.length (out.flatMap recB):=by
 rw [hs,H,hc] at h;rw [hs] at A;exact ⟨(h.st.n s).trans A,h.hd,h.wr,zef C I⟩
end Sto
end
section
open Go.RowKit
open Mv Disk Num
namespace Sto
theorem zud {d:D} (hd:Dw d 0) {s:tt} (h:0<ns d s) :
  ∃ d',freeD d s=(d',0)/\Dw d' 0/\(∀ o,ns d' o=if s=o then 0 else ns d o)/\(∀ o (j:Nat),s≠o->j<ns d o->seen d' o (j:Int)=seen d o (j:Int))/\used d'.ext<=used d.ext/\d'.size=d.size:=by
 have Q:=(zc5 hd s).2 h;have W:d.waits = []:=List.length_eq_zero_iff.1 (Nat.le_zero.1 hd.w);have J:d.ext.eraseIdx (pos d.ext s)=dropE d.ext s:=(zfP hd.r.ex.asc Q).symm;have I:=zqB hd.r.ex.asc s;have C:∀ o,has (dropE d.ext s) o=true <-> s≠o/\has d.ext o=true:=λo=>by
  rw [zba,zba];constructor
  ·rintro ⟨x,U,rfl⟩;obtain ⟨h1,Y⟩:=zhz.1 U;exact ⟨Ne.symm Y,x,h1,rfl⟩
  rintro ⟨A,x,U,rfl⟩;exact ⟨x,zhz.2 ⟨U,Ne.symm A⟩,rfl⟩
 have H:∀ o,s≠o->has d.ext o=true->exOf (dropE d.ext s) o=exOf d.ext o:=λo A X=>by
  obtain ⟨hm,V⟩:=zbw hd.r.ex.asc X;have:=zbQ I (zhz.2 ⟨hm,by rw [V];exact Ne.symm A⟩);rwa [V] at this
 refine ⟨forgetD (eraseD d s) s,by unfold freeD;rw [if_pos Q],⟨zl4 hd.r Q,hd.f,hd.u,?_⟩,λo=>?_,λo j A hj=>?_,?_,rfl⟩
 ·show (filt s d.waits).length<=0;rw [W];exact Nat.le_refl 0
 ·unfold ns;show (if has (d.ext.eraseIdx _) o=true then sec (exOf (d.ext.eraseIdx _) o) else 0)=_;rw [J];by_cases e:s=o
  ·rw [if_pos e,if_neg (λq=>((C o).1 q).1 e)]
  rw [if_neg e];by_cases q:has d.ext o=true
  ·rw [if_pos q,if_pos ((C o).2 ⟨e,q⟩),H o e q]
  rw [if_neg q,if_neg (λg=>q ((C o).1 g).2)]
 ·have q:has d.ext o=true:=(zc5 hd o).2 vd;unfold seen;show seeW allK (filt s d.waits) o (j:Int) ((exOf (d.ext.eraseIdx _) o).2.extract _ _) (filt s d.waits).length=_;rw [J,H o A q,W];rfl
 show used (d.ext.eraseIdx _)<=_;rw [J];exact zl_ _ _
structure Freed (x y:Pl) (s:ByteArray):Prop where
  ps:Ps y 0
  cl:∀ j,j<y.fr.length->(atF y j).dirty=false
  fa:Far x y (λo=>o=s) No 0
  n0:Sto.ns y.d s=0
  nb:Sto.nb y.fr<=Sto.nb x.fr
theorem zue {x:Pl} {s:tt} {f:Nat} (hp:Ps x 0) (W:Use x s f 0) (hc:∀ j,j<x.fr.length->(atF x j).dirty=false) (h:0<ns x.d s) :
  ∃ y d',dropP x s=(y,0)/\Ps y 0/\freeD y.d s=(d',0)/\Freed x { y with d:=d' } s:=by
 obtain ⟨y,k1,I,C,k4,U⟩:=zoz hp (s:=s) (λi hi H=>by
  have H:(atF x i).holds/\(atF x i).name=s:=by unfold ofN at H;exact of_decide_eq_true H
  exact ⟨by rw [W.pins i hi H.1 H.2,if_neg (λh=>absurd h.1 (Nat.lt_irrefl 0))],hc i hi⟩)
 obtain ⟨d',g1,g2,X,g4,g5,g6⟩:=zud I.d (s:=s) (by rw [C.n];exact h);have aa:∀ i,i<y.fr.length->(atF y i).holds->(atF y i).name≠s:=λi hi J V=>by
  rw [U i (by rw [<- C.l];exact hi)] at J V;by_cases q:ofN s (atF x i)=true
  ·rw [if_pos q] at J;exact n0 J
  rw [if_neg q] at J V;exact q (by unfold ofN;exact decide_eq_true ⟨J,V⟩)
 have hv:∀ o (j:Nat),o≠s->j<ns y.d o->vw { y with d:=d' } o (j:Int)=vw y o (j:Int):=λo j H A=>by
  unfold vw;show (if y.fr.findIdx (isF o j)<y.fr.length then (atF y _).data else seen d' o j)=_;rw [g4 o j (Ne.symm H) A]
 refine ⟨y,d',k1,I,g1,⟨g2,λi hi=>?_,I.ap,I.l1,I.l2⟩,λj A=>?_,⟨C.l,g6.trans C.z,Nat.le_trans g5 (Nat.le_of_eq C.u),λo H=>(X o).trans (by rw [if_neg (Ne.symm H)];exact C.n o),λo j H A=>(hv o j H (by rw [C.n];exact A)).trans (C.v o j A),λo _ W=>zkc (p:=x) (q:={ y with d:=d' }) C.l (λj A=>by
  show atF y j=atF x j \/ ¬ (atF y j).holds;rw [U j A];split
  ·exact .inr n0
  ·exact .inl rfl) W⟩,(X s).trans (if_pos rfl),nb_le (p:=x) (q:=y) C.l λj A ac=>by
  rw [U j A];split
  ·exact .inl rfl
  exact ac⟩
 ·rcases I.ok i hi with e | e | e
  ·exact .inl e
  ·exact .inr (.inl e)
  have Q:=aa i hi e.h;have h0:=e.s0;have h1:=e.s1;refine .inr (.inr ⟨e.h,e.l,e.p0,e.p1,e.z,h0,?_,λhd=>?_⟩)
  ·show (atF y i).sector<(ns d' (atF y i).name:Int);rw [X,if_neg (Ne.symm Q)];exact h1
  have Y:=e.c hd;show (atF y i).data=seen d' (atF y i).name (atF y i).sector;obtain ⟨k,hk⟩ : ∃ k:Nat,(atF y i).sector=k:=⟨_,(Int.toNat_of_nonneg h0).symm⟩;rw [Y];rw [hk] at h1 ⊢;exact (g4 _ k (Ne.symm Q) vd).symm
 show (atF y j).dirty=false;have A:j<x.fr.length:=by rw [<- C.l];exact A
 rw [U j A];split
 ·rfl
 exact hc j A
theorem zuf {S T:Mem} {a p b c:Nat} {x:Pl} {d':D} {v:tu} (h:ArS S a p b c x T) {f:tA} {args:Array tu}
  (hc:∀ oE oW,OkV S p x.d oE oW->ACall prog f args (devM S p x.d oE oW) λr S'=>∃ C A,OkV S p d' C A/\r=v/\S'=devM S p d' C A) :
  ACall prog f args T λr S'=>r=v/\ArS S a p b c { x with d:=d' } S'/\S'.own a=T.own a:=by
 obtain ⟨k,oE,oW,ok,rfl⟩:=h;refine (zhI ok k (hc oE oW ok.v)).mono λr S' ⟨M,⟨H,J,I,Q,U⟩,fb,fa,e⟩=>?_;subst U;exact ⟨Q,⟨k,H,J,⟨I,fb,fa,ok.ab,ok.l⟩,e⟩,by rw [e,zbf,zbf]⟩
def pickM (S:Mem) (D:List Nat):Mem:=⟨λk=>if k ∈ D then S.own k else none,S.ro⟩
theorem zca {S:Mem} {D:List Nat} {k:Nat} (h:k ∈ D):(pickM S D).own k=S.own k:=if_pos h
theorem zeg {S T:Mem} {D:List Nat} (h:∀ k ∈ D,T.own k=S.own k) (C:T.ro=S.ro):(pickM S D).Less T:=⟨λk r A=>(by
 by_cases q:k ∈ D
 ·rw [h k q,<- zca q];exact A
 rw [show (pickM S D).own k=none from if_neg q] at A;cases A),C.symm⟩
theorem zkf (n s:tt) (nb:Nat) (S:Mem) (A:S.own nb=some ⟨9,[.string s],1⟩):ACall prog 124 #[.string n,.pointer (some ⟨nb,0,none⟩)] S λr S'=>r = .bool (decide (n=s))/\S'=S:=by
 refine k_E2 7 func124 ?_;refine r14_ ?_;refine ⟨_,S,⟨_,_,rfl,rfl,rfl⟩,zae,?_⟩;exact ⟨rfl,rfl⟩
theorem zrF (T:Mem) (g I:Nat) (ts:List tt) (s:tt) (nb i:Nat) (hi:i<ts.length) (W:ts.length<=9) (hs:ts[i]=s) (V:∀ j (h:j<ts.length),j<i->ts[j]≠s) (U:T.own g=some ⟨9,ts.map Value.string,I⟩) (J:T.own nb=some ⟨9,[.string s],1⟩) :
  ACall prog 180 #[.slice (some ⟨g,0,none⟩) ts.length I,.func (.func 124) #[] #[.pointer (some ⟨nb,0,none⟩)]] T λr T'=>r = .int .i64 (i:Nat)/\T'=T:=by
 refine k_E2 19 func180 ?_;refine r14_ ?_;refine AWP.loop (X:=Nat) (λj=>[(0,.slice (some ⟨g,0,none⟩) ts.length I),(1,.func (.func 124) #[] #[.pointer (some ⟨nb,0,none⟩)]),(7,.int .i64 (ts.length:Nat)),(8,.int .i64 (j:Nat))]) (λ_=>T) (λj=>j<=i) (λj=>i-j) (0) ⟨rfl,rfl,rfl,rfl,trivial⟩ (Mem.Less.refl _) (Nat.zero_le _) ?_;rintro j Q;(try dsimp only at *);replace Q:j<=i:=Q;have A:j<ts.length:=by omega
 refine r6_ ?_;refine cT_ ?_;by_cases q:j=i
 ·subst q;refine r16_ ?_;refine rC (Calm.load zaB rfl (v:=.string ts[j]) (zbe (g:=Value.string) j A U vd)) ?_;refine vq (zab rfl) znq rfl rfl (zkf ts[j] s nb _ J) ?_;rintro _ H ⟨rfl,C⟩;rw [C,decide_eq_true hs];clear C H;refine r2_ ?_;refine cT_ ?_;refine r12_ ?_;refine ⟨_,T,⟨_,_,rfl,rfl,rfl⟩,zae,?_⟩;exact ⟨rfl,rfl⟩
 refine r10_ ?_;refine kw_ [0,1,7,8,9,5] ?_;refine r6_ ?_;refine rC (Calm.load zaB rfl (v:=.string ts[j]) (zbe (g:=Value.string) j A U vd)) ?_;refine vq (zab rfl) znq rfl rfl (zkf ts[j] s nb _ J) ?_;rintro _ H ⟨rfl,C⟩;rw [C,decide_eq_false (V j A vd)];clear C H;refine r2_ ?_;refine cF_ ?_;refine r8_ ?_;refine ⟨j+1,?_,?_,?_,?_⟩<;>try dsimp only
 ·exact ⟨rfl,rfl,rfl,rfl,trivial⟩
 ·exact Mem.Less.refl _
 ·(show j+1<=i;omega)
 omega
def dlL (ts:List tt) (i m:Nat):List tt:=(ts.eraseIdx i).take m ++ ts.drop m
theorem zsV (ts:List tt) {i m:Nat} (hi:i<ts.length) (A:m<ts.length):(dlL ts i m).length=ts.length:=by
 unfold dlL;rw [List.length_append,List.length_take,List.length_eraseIdx_of_lt hi,List.length_drop];omega
theorem zrG (ts:List tt) {i m k:Nat} (hi:i<ts.length) (C:m<ts.length):(dlL ts i m)[k]?=if k<m then (if k<i then ts[k]? else ts[k+1]?) else ts[k]?:=by
 unfold dlL;have A:((ts.eraseIdx i).take m).length=m:=by rw [List.length_take,List.length_eraseIdx_of_lt hi];omega
 by_cases q:k<m
 ·rw [if_pos q,List.getElem?_append_left vd,List.getElem?_take_of_lt q,List.getElem?_eraseIdx]
 rw [if_neg q,List.getElem?_append_right vd,A,List.getElem?_drop];congr 1;omega
theorem zrH (ts:List tt) {i:Nat} (hi:i<ts.length):dlL ts i i=ts:=List.ext_getElem? λk=>by
 rw [zrG ts hi hi];split
 ·rfl
 rfl
theorem zwf (ts:List tt) {i m:Nat} (hi:i<=m) (A:m+1<ts.length):(dlL ts i m).set m ts[m+1]=dlL ts i (m+1):=List.ext_getElem? λk=>by
 rw [zrG ts vd A,List.getElem?_set,zsV ts vd vd,zrG ts vd vd];by_cases e:m=k
 ·subst e;rw [if_pos rfl,if_pos vd,if_pos (Nat.lt_succ_self _),if_neg vd,List.getElem?_eq_getElem A]
 rw [if_neg e];by_cases q:k<m
 ·rw [if_pos q,if_pos (show k<m+1 by omega)]
 rw [if_neg q,if_neg (show ¬ k<m+1 by omega)]
theorem zwg (ts:List tt) {i:Nat} (hi:i<ts.length):(dlL ts i (ts.length-1)).take (ts.length-1)=ts.eraseIdx i:=by
 have A:=List.length_eraseIdx_of_lt hi;unfold dlL;rw [List.take_of_length_le (l:=ts.eraseIdx i) vd,List.take_left' A]
theorem Mv.ACall.cut {P:tz} {f:tA} {args:Array tu} {S T:Mem} {v:tu} {b m:Nat} {e:tx} {cs:List tu} (h:ACall P f args S λr S'=>r=v /\ ∃ zs,S'=T.set b ⟨e,cs ++ zs,m⟩):ACall P f args S λr S'=>r=v/\S'=T.set b ⟨e,cs,m⟩:=λw I =>
 (h w I).mono λx w' ⟨r,S',H,⟨A,zs,J⟩,st⟩=>by
  subst J;exact ⟨r,_,H,⟨A,rfl⟩,⟨st.view.shr (zjp (List.prefix_append _ _) (Nat.le_refl _)),st.os,st.tape,st.output,st.size,st.block,λk C=>st.dom k (zne k C),st.ro⟩⟩
theorem zwh (T:Mem) (g A:Nat) (ts:List tt) (s:tt) (nb i:Nat) (hi:i<ts.length) (U:ts.length<=9) (hs:ts[i]=s) (W:∀ j (h:j<ts.length),j≠i->ts[j]≠s) (hg:T.own g=some ⟨9,ts.map Value.string,A⟩) (Y:T.own nb=some ⟨9,[.string s],1⟩) (Q:nb≠g) (hc:ts.length<=A) :
  ACall prog 123 #[.slice (some ⟨g,0,none⟩) ts.length A,.func (.func 124) #[] #[.pointer (some ⟨nb,0,none⟩)]] T λr T'=>r = .slice (some ⟨g,0,none⟩) (ts.length-1) A/\T'=T.set g ⟨9,(ts.eraseIdx i).map Value.string,A⟩:=by
 refine Mv.ACall.cut ?_;have J:=zrF T g A ts s nb i hi U hs (λj h ad=>W j h vd) hg Y;refine k_E2 42 func123 ?_;refine r9_ ?_;refine cp_ rfl (J) ?_;refine r10_ ?_;refine cF_ ?_;refine r11_ ?_;refine AWP.loop (X:=Nat) (λm=>[(0,.slice (some ⟨g,0,none⟩) ts.length A),(1,.func (.func 124) #[] #[.pointer (some ⟨nb,0,none⟩)]),(5,.int .i64 (m:Nat)),(6,.int .i64 ((m:Int)+1))]) (λm=>T.set g ⟨9,(dlL ts i m).map Value.string,A⟩) (λm=>i<=m/\m<ts.length) (λm=>ts.length-m) (i) ⟨rfl,rfl,rfl,rfl,trivial⟩ (by rw [zrH ts hi,vG _ _ _ hg];exact Mem.Less.refl _) (⟨Nat.le_refl _,hi⟩) ?_;rintro m ⟨H,C⟩;(try dsimp only at *);replace H:i<=m:=H;replace C:m<ts.length:=C;have ag:=zsV ts hi C;have I:=vf T g ⟨9,(dlL ts i m).map Value.string,A⟩;by_cases q:m+1<ts.length
 ·have hd:=zwf ts H q;have V:(dlL ts i m)[m+1]'vd=ts[m+1]:=by have h:=zrG ts (k:=m+1) hi C;rw [if_neg vd,List.getElem?_eq_getElem vd,List.getElem?_eq_getElem q] at h;exact Option.some.inj h
  refine r9_ ?_;refine cT_ ?_;refine r9_ ?_;refine rC (Calm.load zaB rfl (v:=.string ts[m+1]) (by rw [<- V];exact zbe (g:=Value.string) (m+1) vd I vd)) ?_;refine r3_ ?_;refine kw_ [0,1,5,6,19,7] ?_;refine r4_ ?_;refine vq (zab rfl) znq rfl rfl (zkf ts[m+1] s nb _ ((vg _ _ Q).trans Y)) ?_;rintro _ S1 ⟨rfl,h1⟩;rw [h1,decide_eq_false (W (m+1) q vd)];clear h1 S1;refine r3_ ?_;refine cT_ ?_;refine r6_ ?_;refine vk rfl rfl zbP rfl I (by show 0+(m:Int).toNat*1<_;rw [List.length_map];omega) rfl ?_
  try simp only [k_ms,k_sz,k_ss,k_za,Nat.reduceAdd]
  refine r15_ ?_;refine ⟨m+1,?_,?_,?_,?_⟩<;>try dsimp only
  ·exact ⟨rfl,rfl,rfl,rfl,trivial⟩
  ·(rw [<- hd,List.map_set,show (m:Int).toNat*1=m from by omega];exact Mem.Less.refl _)
  ·exact ⟨by omega,q⟩
  omega
 obtain rfl:m=ts.length-1:=by omega
 refine r9_ ?_;refine cF_ ?_;refine r9_ ?_;refine rC (Calm.as (v':=.slice (some ⟨g,ts.length-1,none⟩) 1 (A-(ts.length-1))) (by rw [show 0+(ts.length-1)*1=ts.length-1 from by omega,show ts.length-(ts.length-1)=1 from by omega]) <| vE (ts.length-1) underlying118 zbP rfl rfl rfl vd vd) ?_;refine v_ (k:=1) za1 rfl (by simp [Value.oneCell']) rfl I (by rw [List.length_map];omega) (.inl (by rw [List.length_map];omega)) ?_;intro zs af;refine r2_ ?_;refine kw_ [0,1,5,6,19] ?_;refine r4_ ?_;refine rC (vM (ts.length-1) underlying118 zbP rfl rfl rfl vd) ?_;refine r4_ ?_;refine ⟨_,_,⟨_,_,rfl,rfl,rfl⟩,Mem.Less.refl _,?_⟩;exact ⟨rfl,zs,by rw [Mem.set_set];unfold spl;rw [<- List.map_take,zwg ts hi,List.drop_eq_nil_of_le (by rw [List.length_map];omega),List.append_nil]⟩
theorem zo3 (S:Mem) (a p b c wk:Nat) (u:W5) (o:Option (Nat × Nat)) (ts:List tt) (x:Pl) (s:tt) (i:Nat) (T:Mem) (h:ArS S a p b c x T) (W:WkS S a wk u o ts) (hi:i<ts.length) (aI:ts.length<=9) (aK:ts[i]=s) (aH:∀ j (h:j<ts.length),j≠i->ts[j]≠s) (hp:Ps x 0) (hu:Use x s 0 0) (hc:∀ j,j<x.fr.length->(atF x j).dirty=false) (hn:0<ns x.d s) (hs:s.size<=1024) :
  ACall prog 63 #[self wk,.string s] T λv T'=>v = .nilIface /\ ∃ S' y,ArS S' a p b c y T'/\Freed x y s/\WkS S' a wk u o (ts.eraseIdx i) /\ ∀ K:Mem,K.Less S->K.own wk=none->(∀ t c,o=some (t,c)->K.own t=none)->K.Less S':=by
 obtain ⟨⟨g,A⟩,rfl⟩ : ∃ r,o=some r:=by
  cases o with
  | none=>have h0:=List.map_eq_nil_iff.1 (W.gro.nil rfl);subst h0;exact absurd hi (Nat.not_lt_zero _)
  | some r=>exact ⟨r,rfl⟩
 have J:S.own wk=some (wkB a u (.slice (some ⟨g,0,none⟩) ts.length A)):=W.own;obtain ⟨hg,aw,aL⟩:=W.gro.own g A rfl;have ag:=W.awk g A rfl;rw [List.length_map] at aw;have aQ:=List.length_eraseIdx_of_lt hi;obtain ⟨y,d',r1,r2,r3,r4⟩:=zue hp hu hc hn;have aq:=zdz h (λk oE oW ok=>zla a p b c x s k S oE oW ok (zeP hp));rw [r1] at aq;have ow:=zah h J;obtain ⟨i0,oA⟩:=zcx h;unfold wkB at ow;unfold arB at oA;refine k_E2 32 func63 ?_;refine r2_ ?_;refine vB (zab rfl) rfl rfl ?_;intro I f3;have g3:=f3
 repeat ((with_reducible replace g3:=zaa g3);obtain ⟨g3,_⟩:=g3)
 refine nl_ ?_;refine r3_ ?_;obtain ⟨M0,p3,pw,aj⟩ : ∃ M0:Mem,M0.own I=some ⟨9,[.string s],1⟩/\M0.own wk=_ /\ ∀ U:Mem,U.own I=some ⟨9,[.string s],1⟩->U.own wk=T.own wk->U.ro=T.ro->M0.Less U:=⟨pickM (T.set I ⟨9,[.string s],1⟩) [I,wk],(zca (by simp)).trans (vf _ _ _),(zca (by simp)).trans ((vg _ _ (f3.ne ow)).trans ow),λU h1 h2 h4=>zeg (λk hk=>by
  simp only [List.mem_cons,List.not_mem_nil,or_false] at hk;rcases hk with rfl | rfl
  ·rw [h1,vf]
  rw [h2,vg _ _ (f3.ne ow)]) h4⟩
 have ad:M0.Less (T.set I ⟨9,[.string s],1⟩):=aj _ (vf _ _ _) (vg _ _ (f3.ne ow)) rfl;refine s1_ ?_;refine AWP.drawS (M0) zae [i0_,i1_,i2_,i3_,i4_,o5_] [] mixed (by kernel_rfl) ?_;refine r5_ ?_;refine zac rfl ?_;refine ca_ rfl (aq.frame f3) ?_;rintro _ S1 ⟨Y,⟨_,hA⟩,hf,C⟩;rw [C];clear C S1;have aG:M0.Less (Y.set I ⟨9,[.string s],1⟩):=aj _ (vf _ _ _) (by rw [vg _ _ (hf.ne (zah hA J)),zah hA J,zah h J]) (((zbb hA).2.symm).trans (zbb h).2);have af:=zah hA J;have av:=zah hA hg;have n1:=hf.ne af;have n2:=hf.ne av;have aO:=(vg Y ⟨9,[.string s],1⟩ n1).trans af;have aR:=(vg Y ⟨9,[.string s],1⟩ n2).trans av;have aP:=zwh (Y.set I ⟨9,[.string s],1⟩) g A ts s I i hi aI aK aH aR (vf _ _ _) (Ne.symm n2) aw;unfold wkB at aO;refine zad ⟨ny_,?_⟩;refine r10_ ?_;refine ca_ rfl (aP) ?_;rintro _ S1 ⟨rfl,C⟩;rw [C,vC _ _ _ (Ne.symm n2)];clear C S1;have aM:=zcL hA hg ⟨9,(ts.eraseIdx i).map Value.string,A⟩;have ay:=(vg (Y.set g ⟨9,(ts.eraseIdx i).map Value.string,A⟩) ⟨9,[.string s],1⟩ n1).trans ((vg Y ⟨9,(ts.eraseIdx i).map Value.string,A⟩ (Ne.symm ag)).trans af);unfold wkB at ay;refine r2_ ?_;refine vk rfl rfl zfH rfl ay (show 6<10 from by decide) rfl ?_
 try simp only [k_ms,k_sz,k_ss,k_za,Nat.reduceAdd]
 refine r2_ ?_;have X:=zcL aM ((vg S ⟨9,(ts.eraseIdx i).map Value.string,A⟩ (Ne.symm ag)).trans J) (wkB a u (.slice (some ⟨g,0,none⟩) (ts.length-1) A));have H:=zam (r:=wkB a u (.slice (some ⟨g,0,none⟩) (ts.length-1) A)) (zam (r:=⟨9,(ts.eraseIdx i).map Value.string,A⟩) hf (Ne.symm n2)) (Ne.symm n1);refine AWP.less (((Y.set g ⟨9,(ts.eraseIdx i).map Value.string,A⟩).set wk (wkB a u (.slice (some ⟨g,0,none⟩) (ts.length-1) A))).set I ⟨9,[.string s],1⟩) (by rw [vC _ _ _ n1];exact Mem.Less.refl _) ?_;have V:=zah X (vf _ wk (wkB a u (.slice (some ⟨g,0,none⟩) (ts.length-1) A)));obtain ⟨i5,Q⟩:=zcx X;have aE:=(zuf (v:=.int .i64 0) X (λoE oW ok=>by have:=zqv p y.d s _ oE oW ok r2.d.r;rw [r3] at this;exact this)).frame (r:=⟨9,[.string s],1⟩) H;have ax:WkS ((S.set g ⟨9,(ts.eraseIdx i).map Value.string,A⟩).set wk (wkB a u (.slice (some ⟨g,0,none⟩) (ts.length-1) A))) a wk u (some (g,A)) (ts.eraseIdx i):=⟨by rw [aQ];exact vf _ _ _,⟨λe=>(by cases e),λt c e=>by
  cases e;exact ⟨(vg _ _ ag).trans (vf _ _ _),by rw [List.length_map];omega,aL⟩⟩⟩
 generalize (Y.set g ⟨9,(ts.eraseIdx i).map Value.string,A⟩).set wk (wkB a u (.slice (some ⟨g,0,none⟩) (ts.length-1) A))=Sb at *;have ao:=(vg Sb ⟨9,[.string s],1⟩ (H.ne V)).trans V;have aA:=(vg Sb ⟨9,[.string s],1⟩ (H.ne Q)).trans Q;unfold wkB at ao;unfold arB at aA;obtain ⟨M1,m3,mw,ma,ad⟩ : ∃ M1:Mem,M1.own I=some ⟨9,[.string s],1⟩/\M1.own wk=_/\M1.own a=_ /\ ∀ T:Mem,T.own I=some ⟨9,[.string s],1⟩->T.own wk=Sb.own wk->T.own a=Sb.own a->T.ro=Sb.ro->M1.Less T:=⟨pickM (Sb.set I ⟨9,[.string s],1⟩) [I,wk,a],(zca (by simp)).trans (vf _ _ _),(zca (by simp)).trans ao,(zca (by simp)).trans aA,λT h1 h2 h3 h4=>zeg (λk hk=>by
  simp only [List.mem_cons,List.not_mem_nil,or_false] at hk;rcases hk with rfl | rfl | rfl
  ·rw [h1,vf]
  ·rw [h2,vg _ _ (H.ne V)]
  rw [h3,vg _ _ (H.ne Q)]) h4⟩
 have aj:M1.Less (Sb.set I ⟨9,[.string s],1⟩):=ad _ (vf _ _ _) (vg _ _ (H.ne V)) (vg _ _ (H.ne Q)) rfl;refine s1_ ?_;refine AWP.drawS (M1) zae [i0_,i1_,i2_,i3_,i4_,i5_,i6_,i7_,i8_,i9_,o10_,o11_,i12_] [] mixed (by kernel_rfl) ?_;refine s1_ ?_;refine dP (hc:=λ_=>vi rfl rfl (zbF (by show 5+s.size<=_;omega))) (h:=?_);refine r8_ ?_;refine zac rfl ?_;refine ca_ rfl (aE) ?_;rintro _ S1 ⟨Sc,⟨rfl,ae,am⟩,ai,C⟩;rw [C];clear C S1;have au:=zah ae (vf _ wk (wkB a u (.slice (some ⟨g,0,none⟩) (ts.length-1) A)));have aG:M1.Less (Sc.set I ⟨9,[.string s],1⟩):=ad _ (vf _ _ _) (by rw [vg _ _ (ai.ne au),au,V]) (by rw [vg _ _ (ai.ne (am.trans Q)),am]) (((zbb ae).2.symm).trans (zbb X).2);refine zad ⟨ny_,?_⟩;refine zac rfl ?_;refine cp_ rfl (zbc _ _) ?_;refine zad ⟨ny_,?_⟩;refine r4_ ?_;refine ⟨_,Sc,⟨_,_,rfl,rfl,rfl⟩,vh _ _ _ ai.1,?_⟩;exact ⟨rfl,_,_,ae,r4,ax,λK k1 k2 k3=>zao (zao k1 (k3 _ _ rfl)) k2⟩
end Sto
end
section
open Go.RowKit
open Mv Disk Num
namespace Sto
open Run (nameS sizeN)
def names (s:tt) (n:Nat):List tt:=(List.range n).map (nameS s)
theorem ziZ (s:tt) (n:Nat):(names s n).length=n:=by simp [names]
theorem zmu (s:tt) (n:Nat):names s (n+1)=names s n ++ [nameS s n]:=by simp [names,List.range_succ]
def nT:tt:=⟨#[126]⟩
theorem zsW (m:Nat) (S:Mem) (A:24<=m) (C:m<=256):ACall prog 172 #[.int .i64 (m:Nat)] S λr S'=>r = .tuple #[.int .i64 ((m-6:Nat):Int),.int .i64 0]/\S'=S:=by
 refine k_E1 12 func172 ?_;refine r15_ ?_;refine cF_ ?_;refine r7_ ?_;refine cF_ ?_;refine r12_ ?_;refine ⟨_,S,⟨_,_,rfl,⟨_,_,rfl,rfl,rfl⟩,rfl⟩,zae,?_⟩;exact ⟨by rw [show ((m-6:Nat):Int)=(m:Int)-6 from by omega];rfl,rfl⟩
def pfx (p s:tt):Bool:=decide (p.size<=s.size) && decide (s.extract 0 p.size=p)
theorem zlh (n x p:tt) (kb:Nat) (S:Mem) (C:S.own kb=some ⟨9,[.string p],1⟩) (J:p.size<=1024) (Q:n.size<=1024) :
  ACall prog 164 #[.agg #[.string n,.string x],.pointer (some ⟨kb,0,none⟩)] S λr S'=>r = .bool (pfx p n)/\S'=S:=by
 unfold pfx;by_cases q:p.size<=n.size
 ·rw [decide_eq_true q,Bool.true_and];refine k_E2 19 func164 ?_;refine r2_ ?_;refine vD (cs:=[_,_]) (zab rfl) rfl ?_;intro I H;have A:=H
  repeat ((with_reducible replace A:=zaa A);obtain ⟨A,_⟩:=A)
  have:=A.ne C;have:=A.ne' C
  refine nl_ ?_;refine r4_ ?_;refine dr_ [i0_,i1_,i2_,i3_,i4_,i5_,i6_,i7_,i8_,i9_,i10_,i11_,i12_,i13_,i14_,i15_] [] ?_;refine r5_ ?_;refine dP (hc:=λ_=>vi rfl rfl (zag (zcP _ _) (decide_eq_true vd))) (h:=?_);refine r5_ ?_
  first|refine k_d ?_|refine dG (hc:=λ_=>vP underlying9 rfl (s:=n) (lo:=none) (hi:=some (.tmp 14)) (h:=p.size) (l:=0) ⟨_,_,rfl,by omega,by omega,by omega⟩ (zaU _ _)) (h:=?_)
  refine r7_ ?_;refine ⟨_,S,⟨_,_,rfl,rfl,rfl⟩,zae,?_⟩;exact ⟨rfl,rfl⟩
 rw [decide_eq_false q,Bool.false_and];refine k_E2 19 func164 ?_;refine r2_ ?_;refine vD (cs:=[_,_]) (zab rfl) rfl ?_;intro I H;have A:=H
 repeat ((with_reducible replace A:=zaa A);obtain ⟨A,_⟩:=A)
 have:=A.ne C;have:=A.ne' C
 refine nl_ ?_;refine r4_ ?_;refine dr_ [i0_,i1_,i2_,i3_,i4_,i5_,i6_,i7_,i8_,i9_,i10_,i11_,i12_,i13_,i14_,i15_] [] ?_;refine r5_ ?_;refine dP (hc:=λ_=>vi rfl rfl (zag (zcP _ _) (decide_eq_false vd))) (h:=?_);refine r13_ ?_;refine ⟨_,S,⟨_,_,rfl,rfl,rfl⟩,zae,?_⟩;exact ⟨rfl,rfl⟩
theorem zrI (v:tu) (l:List Ext) (p:tt) (kb k:Nat) (S:Mem) (hl:Sl 2 extF S v l) (W:S.own kb=some ⟨9,[.string p],1⟩) (V:p.size<=1024) (hz:∀ x ∈ l,x.1.size<=1024) (ad:k<=l.length) (I:∀ j (h:j<l.length),j<k->pfx p l[j].1=false) (Q:∀ h:k<l.length,pfx p l[k].1=true) :
  ACall prog 130 #[v,.func (.func 164) #[] #[.pointer (some ⟨kb,0,none⟩)]] S λr S'=>r = .int .i64 (if k<l.length then (k:Int) else -1)/\S'=S:=by
 obtain ⟨a,cap,rfl,A,h2,Y⟩:=id hl;refine k_E2 19 func130 ?_;refine r14_ ?_;refine AWP.loop (X:=Nat) (λi=>[(0,.slice a l.length cap),(1,.func (.func 164) #[] #[.pointer (some ⟨kb,0,none⟩)]),(7,.int .i64 l.length),(8,.int .i64 i)]) (λi=>S) (λi=>i<=k) (λi=>l.length-i) (0) ⟨rfl,rfl,rfl,rfl,trivial⟩ (Mem.Less.refl _) (Nat.zero_le _) ?_;rintro i hi;(try dsimp only at *);replace hi:i<=k:=hi;by_cases hc:i<l.length
 ·have C:=hz _ (List.getElem_mem hc);refine r6_ ?_;refine cT_ ?_;obtain ⟨b,off,rfl,U⟩:=Y.resolve_left (λe=>by subst e;simp at hc);have H:=U i hc;unfold extF at H;by_cases q:i=k
  ·subst q;refine r17_ ?_;refine vq (zab rfl) zsw rfl rfl (zlh l[i].1 l[i].2 p kb _ W V C) ?_;rintro _ J ⟨rfl,A⟩;rw [A,Q hc];clear A J;refine r2_ ?_;refine cT_ ?_;refine r12_ ?_;refine ⟨_,S,⟨_,_,rfl,rfl,rfl⟩,zae,?_⟩;exact ⟨by rw [if_pos hc];rfl,rfl⟩
  refine r10_ ?_;refine kw_ [0,1,7,8,9,5] ?_;refine r7_ ?_;refine vq (zab rfl) zsw rfl rfl (zlh l[i].1 l[i].2 p kb _ W V C) ?_;rintro _ J ⟨rfl,A⟩;rw [A,I i hc vd];clear A J;refine r2_ ?_;refine cF_ ?_;refine r8_ ?_;refine ⟨i+1,?_,?_,?_,?_⟩<;>try dsimp only
  ·exact ⟨rfl,rfl,rfl,rfl,trivial⟩
  ·exact Mem.Less.refl _
  ·(show i+1<=k;omega)
  omega
 refine r6_ ?_;refine cF_ ?_;refine r11_ ?_;refine ⟨_,S,⟨_,_,rfl,rfl,rfl⟩,zae,?_⟩;exact ⟨by rw [if_neg vd];rfl,rfl⟩
theorem zli (v:tu) (l:List Ext) (p:tt) (kb:Nat) (S:Mem) (I:Sl 2 extF S v l) (V:S.own kb=some ⟨9,[.string p],1⟩) (J:p.size<=1024) (Q:∀ x ∈ l,x.1.size<=1024) :
  ACall prog 165 #[v,.func (.func 164) #[] #[.pointer (some ⟨kb,0,none⟩)]] S λr S'=>r = .bool (l.any λx=>pfx p x.1)/\S'=S:=by
 obtain ⟨k,A⟩ : ∃ k,k=l.findIdx λx=>pfx p x.1:=⟨_,rfl⟩;have h:=zrI v l p kb k S I V J Q (by rw [A];exact List.findIdx_le_length) (λj W C=>by rw [A] at C;simpa using List.not_of_lt_findIdx C) (λH=>by subst A;exact List.findIdx_getElem (w:=H));have U:(l.any λx=>pfx p x.1)=decide (k<l.length):=by
  rw [A,Bool.eq_iff_iff,List.any_eq_true,decide_eq_true_iff,List.findIdx_lt_length]
 rw [U];obtain ⟨a,cap,rfl,_⟩:=id I;by_cases q:k<l.length
 ·rw [if_pos q] at h;rw [decide_eq_true q];refine k_E2 9 func165 ?_;refine r9_ ?_;refine cp_ rfl (h) ?_;refine rC (vi rfl rfl (zag (zcP _ _) (decide_eq_true vd))) ?_;refine r4_ ?_;refine ⟨_,S,⟨_,_,rfl,rfl,rfl⟩,zae,?_⟩;exact ⟨rfl,rfl⟩
 rw [if_neg q] at h;rw [decide_eq_false q];refine k_E2 9 func165 ?_;refine r9_ ?_;refine cp_ rfl (h) ?_;refine r5_ ?_;refine ⟨_,S,⟨_,_,rfl,rfl,rfl⟩,zae,?_⟩;exact ⟨rfl,rfl⟩
theorem zwi {S T:Mem} {a p b c:Nat} {x:Pl} {n:Nat} (h:ArS S a p b c x T) (A:Ps x n):RdV T p x.d:=by
 obtain ⟨k,oE,oW,ok,rfl⟩:=h;exact ok.rd (zeP A) k
theorem zo4 {x:Pl} {n:Nat} (H:Ps x n) {L:List tt} (C:∀ o,0<Sto.ns x.d o <-> o ∈ L) (f:tt->Bool):(x.d.ext.any λe=>f e.1)=L.any f:=by
 rw [Bool.eq_iff_iff,List.any_eq_true,List.any_eq_true];constructor
 ·rintro ⟨e,A,h⟩;exact ⟨e.1,(C _).1 ((zc5 H.d e.1).1 (zba.2 ⟨e,A,rfl⟩)),h⟩
 rintro ⟨o,I,h⟩;obtain ⟨e,A,rfl⟩:=zba.1 ((zc5 H.d o).2 ((C o).2 I));exact ⟨e,A,h⟩
theorem zo5 (S T:Mem) (a p b c wk:Nat) (u:W5) (tm:tu) (x:Pl) (n k:Nat) (L:List tt) (h:ArS S a p b c x T) (U:S.own wk=some (wkB a u tm)) (J:Ps x n) (hL:∀ o,0<Sto.ns x.d o <-> o ∈ L) (ai:k<=9) (hk:∀ j,j<k->L.any (pfx (nameS nT j))=true) (W:L.any (pfx (nameS nT k))=false) :
  ACall prog 111 #[self wk] T λr T'=>r = .string (nameS nT k)/\T'=T:=by
 have ow:=zah h U;obtain ⟨i1,Q⟩:=zcx h;have V:=zwi h J;obtain ⟨qe,de,qw,dw,oP,hE,hW⟩:=id V;have C:∀ j,(nameS nT j).size=5:=λj=>by rw [zbM];rfl
 have H:∀ e ∈ x.d.ext,e.1.size<=1024:=λe he=>by have:=(J.d.r.ex.ok e he).1.2;omega
 unfold wkB at ow;unfold arB at Q;refine k_E1 30 func111 ?_;refine r11_ ?_;refine AWP.loop (X:=Nat) (λi=>[(0,self wk),(3,.int .i64 (i:Nat))]) (λ_=>T) (λi=>i<=k) (λi=>k-i) (0) ⟨rfl,rfl,trivial⟩ (Mem.Less.refl _) (Nat.zero_le _) ?_;rintro i hi;(try dsimp only at *);replace hi:i<=k:=hi;refine r5_ ?_;refine cp_ rfl (Run.zfl nT i _ (by decide) (by decide) vd) ?_;refine r3_ ?_;refine ARun.alloc (zab rfl) zfA ?_;intro b4 f4;have A:=f4
 repeat ((with_reducible replace A:=zaa A);obtain ⟨A,_⟩:=A)
 have:=A.ne ow;have:=A.ne' ow
 have:=A.ne Q;have:=A.ne' Q
 have:=A.ne oP;have:=A.ne' oP
 refine nl_ ?_;refine r4_ ?_;by_cases q:i=k
 ·subst q;refine r20_ ?_;refine ca_ rfl (zli (.slice qe x.d.ext.length de) x.d.ext (nameS nT i) b4 _ (hE.less zae) (vf _ _ _) (by rw [C];decide) H) ?_;rintro _ Y ⟨rfl,I⟩;rw [I,zo4 J hL,W];clear I Y;refine r3_ ?_;refine cT_ ?_;refine r11_ ?_;refine ⟨_,T,⟨_,_,rfl,rfl,rfl⟩,zae,?_⟩;exact ⟨rfl,rfl⟩
 refine r6_ ?_;refine kw_ [0,3,4,6] ?_;refine r14_ ?_;refine ca_ rfl (zli (.slice qe x.d.ext.length de) x.d.ext (nameS nT i) b4 _ (hE.less zae) (vf _ _ _) (by rw [C];decide) H) ?_;rintro _ Y ⟨rfl,I⟩;rw [I,zo4 J hL,hk i vd];clear I Y;refine r3_ ?_;refine cF_ ?_;refine r9_ ?_;refine ⟨i+1,?_,?_,?_,?_⟩<;>try dsimp only
 ·exact ⟨rfl,rfl,trivial⟩
 ·exact zae
 ·(show i+1<=k;omega)
 omega
structure DX where
  T:Mem
  i:Int
theorem zug {R:Mem->Prop} (T:Mem) (wk H J rn:Nat) (s:tt) (Q:T.own H=some ⟨9,[.string s],rn⟩) (A:ACall prog 63 #[self wk,.string s] T λv T'=>v = .nilIface/\R T') :
  ACall prog 176 #[self wk,.slice (some ⟨H,0,none⟩) 1 J] T λv T'=>v = .nilIface/\R T':=by
 refine k_E2 21 func176 ?_;refine r14_ ?_;refine AWP.loop (X:=DX) (λX=>[(0,self wk),(8,.slice (some ⟨H,0,none⟩) 1 J),(9,.int .i64 1),(10,.int .i64 X.i)]) (λX=>X.T) (λX=>(X.i=0/\X.T=T)\/(X.i=1/\R X.T)) (λX=>(1-X.i).toNat) (⟨T,0⟩) ⟨rfl,rfl,rfl,rfl,trivial⟩ (Mem.Less.refl _) (.inl ⟨rfl,rfl⟩) ?_;rintro ⟨M,i⟩ C;(try dsimp only at *);replace C:(i=0/\M=T)\/(i=1/\R M):=C;rcases C with ⟨rfl,rfl⟩ | ⟨rfl,I⟩
 ·refine r6_ ?_;refine cT_ ?_;refine r15_ ?_;refine ca_ rfl (A) ?_;rintro _ U ⟨rfl,I⟩;refine r6_ ?_;refine rC (vi rfl rfl Er.neNil) ?_;refine r2_ ?_;refine cF_ ?_;refine r8_ ?_;refine ⟨⟨U,1⟩,?_,?_,?_,?_⟩<;>try dsimp only
  ·exact ⟨rfl,rfl,rfl,rfl,trivial⟩
  ·exact Mem.Less.refl _
  ·exact .inr ⟨rfl,I⟩
  decide
 refine r6_ ?_;refine cF_ ?_;refine r11_ ?_;refine ⟨_,M,⟨_,_,rfl,rfl,rfl⟩,zae,?_⟩;exact ⟨rfl,I⟩
theorem zo6 (S:Mem) (a p b c wk U A:Nat) (u:W5) (o:Option (Nat × Nat)) (ts:List tt) (x:Pl) (s:tt) (w ct n B:Nat) (T:Mem) (h:ArS S a p b c x T) (H:WkS S a wk u o ts) (J:S.own U=some ⟨68,[self wk],1⟩) (Q:S.own A=some ⟨9,[.string s],1⟩) (X:ts.length<=9) (V:Ps x n) (hs:nm s) (h0:Sto.ns x.d s=0) (hw:w<=8) (C:ct<=65536) (Y:(used x.d.ext:Int)+(Rec.needN w ct:Nat)<=x.d.size) (W:Sto.nb x.fr<=B) :
  ACall prog 116 #[.int .i64 (w:Nat),.int .u64 (ct:Nat),.pointer (some ⟨U,0,none⟩),.pointer (some ⟨A,0,none⟩)] T λv T'=>∃ q y S' o',v = .tuple #[self q,.nilIface]/\Temped S a p b c wk u o ts x s w ct n B T' q y S' o':=by
 have I:=zoZ S a p b c wk u o ts x s w ct n B T h H vd V hs h0 hw C Y W;have o1:=zah h J;have o2:=zah h Q;refine k_E4 15 func116 ?_;refine r12_ ?_;refine ca_ rfl (I) ?_;rintro _ T1 ⟨q,y,S',o',rfl,hT⟩;refine r7_ ?_;refine ⟨_,T1,⟨_,_,rfl,⟨_,_,rfl,rfl,rfl⟩,rfl⟩,zae,?_⟩;exact ⟨q,y,S',o',rfl,hT⟩
end Sto
end
section
open Go.RowKit
open Mv Disk Num
namespace Top
open Rec Sto Run
theorem zwj {d:D} {s:tt} {w c:Nat} {body:tt} (hd:Dw d 0) (hs:nm s) (h0:Sto.ns d s=0) (hr:(used d.ext:Int)+(needN w c:Nat)<=d.size) (hb:body.size=eachN w*c) (hn:needN w c<=16384) :
  ∃ z,putP d s w c body=(z,0)/\Dw z 0/\z.size=d.size/\used z.ext=used d.ext+needN w c /\ ∀ o,Sto.ns z o=if s=o then needN w c else Sto.ns d o:=by
 have I:=za7 w c;obtain ⟨e,e1,e2,e3,e4,e5,_,_⟩:=zsM hd hs h0 I hr;have J:Sto.ns e s=needN w c:=by rw [e5,if_pos rfl]
 have Q:has e.ext s=true:=(zc5 e2 s).2 vd;have H:sec (exOf e.ext s)=needN w c:=by
  have:=J;unfold Sto.ns at this;rwa [if_pos Q] at this
 have hw:e.waits = []:=List.eq_nil_of_length_eq_zero (by have:=e2.w;omega);have C:(padS body).size=64*(needN w c-1):=by rw [zdd,hb];unfold needN;omega
 have V:=zgX e2.f hw Q H hn C (needN w c-1) vd;have A:=(zcH e2.r e2.u (by rw [e2.f];decide) s (padS body) (needN w c-1)).1;unfold putP;rw [e1,if_neg (by simp),V,if_neg (by simp)];rw [V] at A;simp only at A ⊢;have hD:Dw { e with waits:=secsW s (padS body) (needN w c-1) } (needN w c-1):=⟨A,e2.f,e2.u,by show (secsW s (padS body) (needN w c-1)).length<=_;unfold secsW;simp⟩;obtain ⟨s1,s2,X,U,_⟩:=zfX hD;obtain ⟨f,f1,f2,W,f4,f5,_⟩:=zfW s1 (by decide) (k:=0) (s:=s) (data:=headS w c) (by rw [U];show 0<Sto.ns e s;omega) (ziO w c);obtain ⟨Y,t2,t3,t4,_⟩:=zfX f2;have f1:writeD (settleD { e with waits:=secsW s (padS body) (needN w c-1) } λ_=>true) s 0 (headS w c)=(f,0):=f1;refine ⟨_,?_,Y,t2.trans (W.trans (s2.trans e3)),t3.trans ((congrArg used f4).trans (X.trans e4)),λo=>(t4 o).trans ((f5 o).trans ((U o).trans (e5 o)))⟩;unfold sealD;rw [f1,if_pos rfl]
theorem zmv {n:Int} {s:tt} {w:Nat} {l:List (List Nat)} (J:0<=n) (U:n<=16384) (hs:nm s) (h1:1<=w) (h8:w<=8) (W:l.all (rowOK w)=true) (hc:40*l.length+127<=64*n) :
  ∃ z,writeP (freshD n) s w l=(z,0)/\Dw z 0/\z.size=n/\used z.ext=needN w l.length/\(∀ o,o≠s->Sto.ns z o=0)/\FileR z s w l.length (bs (l.flatMap recB)):=by
 have X:=zhF W;have A:(bs (l.flatMap recB)).size=eachN w*l.length:=by
  show (bs (recsB l)).size=_;rw [zaJ,zbL l w λx hx=>(X x hx).1];unfold eachN;rw [if_neg vd,Nat.mul_comm]
 have I:64*needN w l.length<=64+(40*l.length+63):=by
  have:=Nat.mul_le_mul_right l.length (zfe h8);unfold needN;omega
 have hd:Dw (freshD n) 0:=⟨zdP J U,rfl,rfl,Nat.le_refl _⟩;obtain ⟨z,C,z2,z3,z4,Y⟩:=zwj (s:=s) (w:=w) (c:=l.length) (body:=bs (l.flatMap recB)) hd hs rfl (by show ((0:Nat):Int)+_<=n;omega) A vd;have H:writeP (freshD n) s (w:Int) l=putP (freshD n) s w l.length (bs (l.flatMap recB)):=by
  unfold writeP;rw [if_neg vd,Int.toNat_natCast,if_pos W,zdb (zdP J U) rfl]
 obtain ⟨z',Q,_,_,_,_,_,_,_,_,V,_⟩:=zou (d:=freshD n) (s:=s) (w:=(w:Int)) (l:=l) (by show (-1:Int)<=_;decide) (by rw [H,C]);rw [H,C] at Q;obtain rfl:z=z':=congrArg Prod.fst Q;rw [Int.toNat_natCast] at V;refine ⟨z,H.trans C,z2,z3,z4.trans (Nat.zero_add _),λo ho=>?_,V⟩;rw [Y,if_neg (Ne.symm ho)];rfl
theorem zg4 {w:Nat} {l:List (List Nat)} (h:l.all (rowOK w)=true):RowsOK w l:=λr C=>by
 have A:=(List.all_eq_true.1 h) r C;unfold rowOK recOK at A;simp only [Bool.and_eq_true,decide_eq_true_eq,List.all_eq_true] at A;exact ⟨A.2,λn H=>A.1.2 n H⟩
def ErrO (S:Mem):Prop:=∃ u v,S.Knows ⟨1,0,none⟩ [.iface u v]
theorem zrJ {M:Mem} {a b:Nat} {A B C E:Blk} (J:Fresh (M.set a A) b):(M.set a C).Less ((((M.set a A).set b B).set a C).set b E):=by
 obtain ⟨Q,I⟩:=zaa J;refine ⟨λk r H=>?_,rfl⟩;by_cases e:k=b
 ·subst e;rw [vg _ _ I,Q.1] at H;cases H
 rw [vg _ _ e];by_cases e2:k=a
 ·subst e2;rw [vf] at H ⊢;exact H
 rw [vg _ _ e2] at H ⊢;rw [vg _ _ e,vg _ _ e2];exact H
end Top
end
section
open Go.RowKit
open Mv Disk Num
namespace Sto
theorem zuh {d:D} {n:Nat} (hd:Dw d n) {s:tt} (h:0<Sto.ns d s):s.size<=16:=by
 obtain ⟨x,A,rfl⟩:=zba.1 ((zc5 hd s).2 h);exact (hd.r.ex.ok x A).1.2
theorem WkS.less {S S':Mem} {a wk:Nat} {u:W5} {o:Option (Nat × Nat)} {ts:List tt} (h:WkS S a wk u o ts) (A:S.Less S'):WkS S' a wk u o ts :=
 ⟨A.own h.own,⟨h.gro.nil,λt c e=>⟨A.own (h.gro.own t c e).1,(h.gro.own t c e).2.1,λz v C=>(h.gro.own t c e).2.2 z v (by rw [A.2];exact C)⟩⟩⟩
theorem WkS.del {S:Mem} {a wk:Nat} {u:W5} {o:Option (Nat × Nat)} {ts:List tt} (h:WkS S a wk u o ts) {t:Nat} (A:wk≠t) (C:Away o t):WkS (S.del t) a wk u o ts :=
 ⟨(vj _ A).trans h.own,⟨h.gro.nil,λq c e=>⟨(vj _ (C q c e)).trans (h.gro.own q c e).1,(h.gro.own q c e).2⟩⟩⟩
theorem zaS (S:Mem) (t:Nat):(S.del t).Less S:=zhP t
theorem zaI {K S:Mem} {t:Nat} (h:K.Less S) (C:K.own t=none):K.Less (S.del t):=⟨λk r A=>by
 rw [vj _ (λe=>by rw [e,C] at A;cases A)];exact h.own A,h.2⟩
theorem zaj {K S:Mem} {t:Nat} (h:K.Less S) (A:S.own t=none):K.own t=none:=by
 cases e:K.own t with
 | none=>rfl
 | some k=>rw [h.own e] at A;cases A
theorem zi0 (S:Mem) (o:Option (Nat × Nat)):(delo S o).Less S:=by
 cases o with
 | none=>exact Mem.Less.refl _
 | some q=>exact zhP _
theorem zo7 {K S:Mem} {o:Option (Nat × Nat)} (h:K.Less S) (A:∀ t c,o=some (t,c)->K.own t=none):K.Less (delo S o):=by
 cases o with
 | none=>exact h
 | some q=>exact zaI h (A q.1 q.2 rfl)
theorem zf7 {S:Mem} {o:Option (Nat × Nat)} {t:Nat} (h:S.own t=none \/ ∃ c,o=some (t,c)):(delo S o).own t=none:=by
 rcases h with h | ⟨c,rfl⟩
 ·exact zaj (zi0 S o) h
 simp [delo,Mem.del]
theorem zds {x y:Pl} {D E:tt->Prop} (A:y.fr=x.fr) (hd:y.d=x.d):Far x y D E 0:=⟨by rw [A],by rw [hd],by rw [hd];exact Nat.le_refl _,λo _=>by rw [hd],λo k _ _=>zhS A hd _ _,λo _ C=>C.fr_ A⟩
structure NmS (K:Mem) (a p b c wk:Nat) (u:W5) (m:Nat) (S T:Mem) (x:Pl) (o:Option (Nat × Nat)) (ts L:List ByteArray):Prop where
  ar:ArS S a p b c x T
  ps:Ps x 0
  cl:∀ j,j<x.fr.length->(atF x j).dirty=false
  us:∀ s,Use x s 0 0
  nb:Sto.nb x.fr=0
  ln:x.fr.length=m
  wo:WkS S a wk u o ts
  kb:K.Less S
  kw:K.own wk=none
  ko:∀ t c,o=some (t,c)->K.own t=none
  di:∀ s,0<Sto.ns x.d s <-> s ∈ L
theorem NmS.ns0 {K S T:Mem} {a p b c wk m:Nat} {u:W5} {x:Pl} {o:Option (Nat × Nat)} {ts L:List tt} (h:NmS K a p b c wk u m S T x o ts L) {s:tt} (hs:s ∉ L):Sto.ns x.d s=0 :=
 Nat.eq_zero_of_not_pos λe=>hs ((h.di s).1 e)
theorem NmS.new {K S T:Mem} {a p b c wk m r:Nat} {u:W5} {x:Pl} {o:Option (Nat × Nat)} {ts L:List tt} (h:NmS K a p b c wk u m S T x o ts L) (J:Fresh T r) (k:Blk):NmS (K.set r k) a p b c wk u m (S.set r k) (T.set r k) x o ts L:=by
 obtain ⟨C,I⟩:=zaz h.ar J k;have H:r≠wk:=Ne.symm (C.ne h.wo.own);have A:Away o r:=λt c e=>C.ne (h.wo.gro.own t c e).1;exact ⟨I,h.ps,h.cl,h.us,h.nb,h.ln,h.wo.set k H A,Mv.Less.set h.kb r k,(vg _ _ (Ne.symm H)).trans h.kw,λt c e=>(vg _ _ (A t c e)).trans (h.ko t c e),h.di⟩
theorem NmS.put {K S T:Mem} {a p b c wk m r:Nat} {u:W5} {x:Pl} {o:Option (Nat × Nat)} {ts L:List tt} {k:Blk} (h:NmS K a p b c wk u m S T x o ts L) (A:K.own r=some k) (k':Blk):NmS (K.set r k') a p b c wk u m (S.set r k') (T.set r k') x o ts L:=by
 have C:r≠wk:=λe=>by have:=h.kw;rw [<- e,A] at this;cases this
 have H:Away o r:=λt c e e2=>by have:=h.ko t c e;rw [e2,A] at this;cases this
 exact ⟨zcL h.ar (h.kb.own A) k',h.ps,h.cl,h.us,h.nb,h.ln,h.wo.set k' C H,Mv.Less.set h.kb r k',(vg _ _ (Ne.symm C)).trans h.kw,λt c e=>(vg _ _ (H t c e)).trans (h.ko t c e),h.di⟩
theorem NmS.less {K C S T:Mem} {a p b c wk m:Nat} {u:W5} {x:Pl} {o:Option (Nat × Nat)} {ts L:List tt} (h:NmS K a p b c wk u m S T x o ts L) (A:C.Less K):NmS C a p b c wk u m S T x o ts L :=
 ⟨h.ar,h.ps,h.cl,h.us,h.nb,h.ln,h.wo,A.trans h.kb,zaj A h.kw,λt c e=>zaj A (h.ko t c e),h.di⟩
def NmE (K:Mem) (a p b c wk:Nat) (u:W5) (m:Nat) (x:Pl) (ts L:List tt) (D:tt->Prop) (k:Nat) (T:Mem) (R:Pl->Prop):Prop :=
  ∃ S y o,NmS K a p b c wk u m S T y o ts L/\Far x y D No k/\R y
theorem zeh (p:tt) (j:Nat):pfx p (Run.nameS p j)=true:=by
 unfold pfx;rw [Bool.and_eq_true];refine ⟨decide_eq_true (by rw [zbM];omega),decide_eq_true ?_⟩;unfold Run.nameS;apply zbG;rw [Lib.extract_data,ByteArray.data_append,Array.toList_append];show ((p.data.toList ++ _).drop 0).take (p.data.size-0)=_;rw [List.drop_zero,Nat.sub_zero,List.take_left' (Array.length_toList ..)]
end Sto
end
section
open Go.RowKit
open Mv
namespace Sto
def oneT (hk ht:tu):Blk:=⟨362,[hk,ht],2⟩
def oneZ:Blk:=⟨3,[.int .i64 0],1⟩
def oneK (h:tu):Blk:=⟨22,[h],1⟩
theorem zui (p g:Nat) (S:Mem) (V:Fresh S p) :
  ACall prog 280 #[.pointer (some ⟨p,0,none⟩)] (S.set p (oneT (.slice (some ⟨g,0,none⟩) 1 1) (.slice none 0 0))) λr S'=>r = .tuple #[] /\ ∃ z,Fresh (S.set p (oneT (.slice (some ⟨g,0,none⟩) 1 1) (.slice none 0 0))) z/\S'=(S.set p (oneT (.slice (some ⟨g,0,none⟩) 1 1) (.slice (some ⟨z,0,none⟩) 1 1))).set z oneZ:=by
 unfold oneT oneZ;refine k_E1 80 func280 ?_;have e1:((1:Nat):Int).toNat=1:=rfl;have e2:madeL [Value.int .i64 0] 1 = [.int .i64 0]:=by rw [zaT];rfl
 have e3:madeL [Value.int .i64 0] 2 = [.int .i64 0,.int .i64 0]:=by rw [zaT];rfl
 refine r15_ ?_;refine ARun.makeSlice (zab rfl) zat rfl rfl vd vd vd vd ?_;intro A J;have H:=J
 repeat ((with_reducible replace H:=zaa H);obtain ⟨H,_⟩:=H)
 refine r6_ ?_;have U:=J.ne (vf S p _);rw [vC _ _ _ (Ne.symm U),Mem.set_set];simp only [Nat.mul_one,e1,e2];have e4:(2*((1:Nat):Int)).toNat=2:=rfl;refine r4_ ?_;refine ARun.makeSlice (zab rfl) zat rfl rfl vd vd vd vd ?_;intro I Q;have C:=Q
 repeat ((with_reducible replace C:=zaa C);obtain ⟨C,_⟩:=C)
 refine r3_ ?_;simp only [Nat.mul_one,e4,e3];refine r8_ ?_;refine AWP.loop (X:=Nat) (λx=>[(0,.pointer (some ⟨p,0,none⟩)),(2,.int .i64 1),(3,.slice (some ⟨I,0,none⟩) 2 2),(23,.int .i64 1),(24,.int .i64 (x:Int))]) (λx=>((S.set p ⟨362,[.slice (some ⟨g,0,none⟩) 1 1,.slice (some ⟨A,0,none⟩) 1 1],2⟩).set A ⟨3,[.int .i64 0],1⟩).set I ⟨3,[.int .i64 0,.int .i64 0],2⟩) (λx=>x<=1) (λx=>1-x) (0) ⟨rfl,rfl,rfl,rfl,rfl,trivial⟩ (Mem.Less.refl _) (Nat.zero_le _) ?_;rintro i hi;(try dsimp only at *);by_cases q:i=0
 ·subst q;refine r6_ ?_;refine cT_ ?_;refine r21_ ?_;refine kw_ [0,2,3,23,24,25,4] ?_;refine r5_ ?_;refine ⟨1,?_,?_,?_,?_⟩<;>try dsimp only
  ·exact ⟨rfl,rfl,rfl,rfl,rfl,trivial⟩
  ·exact zae
  ·exact Nat.le_refl 1
  decide
 obtain rfl:i=1:=by omega
 refine r6_ ?_;refine cF_ ?_;refine r14_ ?_;refine AWP.loop (X:=Nat) (λx=>[(0,.pointer (some ⟨p,0,none⟩)),(2,.int .i64 1),(5,.int .i64 0)]) (λx=>((S.set p ⟨362,[.slice (some ⟨g,0,none⟩) 1 1,.slice (some ⟨A,0,none⟩) 1 1],2⟩).set A ⟨3,[.int .i64 0],1⟩).set I ⟨3,[.int .i64 0,.int .i64 0],2⟩) (λx=>x<=1) (λx=>1-x) (1) ⟨rfl,rfl,rfl,trivial⟩ (Mem.Less.refl _) (Nat.le_refl 1) ?_;rintro j _;(try dsimp only at *);refine r7_ ?_;refine cF_ ?_;refine r11_ ?_;refine cF_ ?_;refine s1_ ?_;refine ⟨_,((S.set p ⟨362,[.slice (some ⟨g,0,none⟩) 1 1,.slice (some ⟨A,0,none⟩) 1 1],2⟩).set A ⟨3,[.int .i64 0],1⟩),rfl,zae,?_⟩;exact ⟨rfl,A,J,rfl⟩
theorem zw9 (g:Nat) (S:Mem):ACall prog 266 #[.slice (some ⟨g,0,none⟩) 1 1] S λr S'=>∃ t z,r = .pointer (some ⟨t,0,none⟩)/\Fresh S t/\Fresh (S.set t (oneT (.slice (some ⟨g,0,none⟩) 1 1) (.slice none 0 0))) z/\S'=(S.set t (oneT (.slice (some ⟨g,0,none⟩) 1 1) (.slice (some ⟨z,0,none⟩) 1 1))).set z oneZ:=by
 have Q:=λp=>zui p g S;unfold oneT oneZ at *;refine k_E1 11 func266 ?_;refine r10_ ?_;refine vD (cs:=[_,_]) (zab rfl) rfl ?_;intro I C;have A:=C
 repeat ((with_reducible replace A:=zaa A);obtain ⟨A,_⟩:=A)
 refine nl_ ?_;refine r6_ ?_;refine ca_ rfl (Q I C) ?_;rintro _ U ⟨rfl,z,J,H⟩;rw [H];clear H U;refine r9_ ?_;refine ⟨_,_,⟨_,_,rfl,rfl,rfl⟩,Mem.Less.refl _,?_⟩;exact ⟨I,z,rfl,C,J,rfl⟩
theorem zsX (t g z:Nat) (k:tu) (n:Nat) (C:∃ a c,k = .slice a n c) (S:Mem) (I:S.own t=some (oneT (.slice (some ⟨g,0,none⟩) 1 1) (.slice (some ⟨z,0,none⟩) 1 1))) (H:S.own g=some (oneK k)) (A:S.own z=some oneZ) :
  ACall prog 267 #[.pointer (some ⟨t,0,none⟩)] S λr S'=>r = .tuple #[.int .i64 0,.bool (decide (0<n))]/\S'=S:=by
 obtain ⟨a,c,rfl⟩:=C;unfold oneT at I;unfold oneK at H;unfold oneZ at A;refine k_E1 23 func267 ?_;refine r19_ ?_;refine dr_ [i0_,i1_,i2_,i3_,i4_,i5_,i6_,i7_,i8_,i9_,i10_,i11_,i12_] [] ?_;refine r10_ ?_;refine dP (hc:=λ_=>vi rfl rfl (zag (c:=decide (0<n)) (zev _ _) (decide_eq_decide.2 vd))) (h:=?_);refine r5_ ?_;refine ⟨_,S,⟨_,_,rfl,⟨_,_,rfl,rfl,rfl⟩,rfl⟩,zae,?_⟩;exact ⟨rfl,rfl⟩
theorem zg5 (t g z:Nat) (k k':tu) (S:Mem) (H:S.own t=some (oneT (.slice (some ⟨g,0,none⟩) 1 1) (.slice (some ⟨z,0,none⟩) 1 1))) (I:S.own g=some (oneK k)) (C:S.own z=some oneZ) (J:k'.cells = #[k']/\k'.oneCell'=true) :
  ACall prog 268 #[.pointer (some ⟨t,0,none⟩),k'] S λr S'=>r = .tuple #[]/\S'=S.set g (oneK k'):=by
 unfold oneT at H;unfold oneK at *;unfold oneZ at C;have n1:=(show t≠g from λe=>by rw [e,I] at H;cases H);have U:=(show z≠g from λe=>by rw [e,I] at C;cases C);have Q:=(vg S ⟨22,[k'],1⟩ n1).trans H;have A:=(vg S ⟨22,[k'],1⟩ U).trans C;refine k_E2 68 func268 ?_;refine r22_ ?_;refine vk rfl rfl zcA J.1 I (show 0<1 by decide) J.2 ?_
 try simp only [k_ms,k_sz,k_ss,k_za,Nat.reduceAdd]
 refine r18_ ?_;refine AWP.loop (X:=Nat) (λx=>[(0,.pointer (some ⟨t,0,none⟩)),(4,.int .i64 0),(5,.int .i64 0)]) (λx=>S.set g ⟨22,[k'],1⟩) (λx=>x<=1) (λx=>1-x) (1) ⟨rfl,rfl,rfl,trivial⟩ (Mem.Less.refl _) (Nat.le_refl 1) ?_;rintro j _;(try dsimp only at *);refine r7_ ?_;refine cF_ ?_;refine r13_ ?_;refine vk rfl rfl zbk rfl A (show 0<1 by decide) rfl ?_
 try simp only [k_ms,k_sz,k_ss,k_za,Nat.reduceAdd]
 refine s1_ ?_;refine ⟨_,S.set g ⟨22,[k'],1⟩,rfl,(by have e:=vG _ _ _ A;exact e.symm ▸ Mem.Less.refl _),?_⟩;exact ⟨rfl,rfl⟩
end Sto
end
section
open Go.RowKit
open Mv Disk Num
namespace Sto
def b01 (h:Nat):Nat:=if 0<h then 1 else 0
structure CpS (K:Mem) (a p b c q qw:Nat) (fn s:ByteArray) (w w2:Nat) (rows:List (List Nat)) (tot:Nat) (x0:Pl) (S T:Mem) (x:Pl) (n i f h wf wh:Nat) (out:List (List Nat)):Prop where
  ar:ArS S a p b c x T
  oq:S.own q=some (rdB a ⟨fn,w,rows.length,5*w*i,f,h⟩)
  ow:S.own qw=some (wtB a ⟨s,w2,out.length,5*w2*out.length,wf,wh⟩)
  ps:Ps x n
  ur:Use x fn f h
  uw:Use x s wf wh
  nb:Sto.nb x.fr<=b01 h+b01 wh
  hs:Has x fn w rows.length (rows.flatMap recB)
  wr:Wrote x s (out.flatMap recB)
  ns:Sto.ns x.d s=Rec.needN w2 tot
  ok:RowsOK w2 out
  fa:Far x0 x (λo=>o=s) (λo=>o=fn\/o=s) 0
  kb:K.Less S
  kq:K.own q=none
  kw:K.own qw=none
  ne:fn≠s
theorem zsY (h:Nat):b01 h<=1:=by unfold b01;split <;> omega
section
variable {K S T:Mem} {a p b c q qw:Nat} {fn s:tt} {w w2:Nat} {rows:List (List Nat)} {tot:Nat} {x0 x:Pl} {n i f h wf wh:Nat} {out:List (List Nat)}
theorem CpS.qq (H:CpS K a p b c q qw fn s w w2 rows tot x0 S T x n i f h wf wh out):q≠qw:=zuc H.oq H.ow (by show ¬ 206=130;decide)
theorem CpS.rds (H:CpS K a p b c q qw fn s w w2 rows tot x0 S T x n i f h wf wh out):RdS S a p b c q ⟨fn,w,rows.length,5*w*i,f,h⟩ x n (b01 wh) T:=⟨H.ar,H.oq,H.ps,H.ur,by have:=H.nb;rw [Nat.add_comm] at this;exact this⟩
theorem CpS.wts (H:CpS K a p b c q qw fn s w w2 rows tot x0 S T x n i f h wf wh out) (A:1<=w2):WtS S a p b c qw ⟨s,w2,out.length,5*w2*out.length,wf,wh⟩ x n (b01 h) (out.flatMap recB) T:=⟨H.ar,H.ow,H.ps,H.uw,H.nb,by rw [zef A H.ok,ziU A],H.wr⟩
theorem CpS.new (H:CpS K a p b c q qw fn s w w2 rows tot x0 S T x n i f h wf wh out) {r:Nat} (C:Fresh T r) (k:Blk):CpS (K.set r k) a p b c q qw fn s w w2 rows tot x0 (S.set r k) (T.set r k) x n i f h wf wh out:=by
 obtain ⟨A,I⟩:=zaz H.ar C k;exact ⟨I,(vg _ _ (A.ne H.oq)).trans H.oq,(vg _ _ (A.ne H.ow)).trans H.ow,H.ps,H.ur,H.uw,H.nb,H.hs,H.wr,H.ns,H.ok,H.fa,Mv.Less.set H.kb r k,(vg _ _ (A.ne H.oq)).trans H.kq,(vg _ _ (A.ne H.ow)).trans H.kw,H.ne⟩
theorem CpS.less (H:CpS K a p b c q qw fn s w w2 rows tot x0 S T x n i f h wf wh out) {C:Mem} (A:C.Less K):CpS C a p b c q qw fn s w w2 rows tot x0 S T x n i f h wf wh out :=
 ⟨H.ar,H.oq,H.ow,H.ps,H.ur,H.uw,H.nb,H.hs,H.wr,H.ns,H.ok,H.fa,A.trans H.kb,zaj A H.kq,zaj A H.kw,H.ne⟩
theorem CpS.put (H:CpS K a p b c q qw fn s w w2 rows tot x0 S T x n i f h wf wh out) {r:Nat} {k:Blk} (A:K.own r=some k) (k':Blk):CpS (K.set r k') a p b c q qw fn s w w2 rows tot x0 (S.set r k') (T.set r k') x n i f h wf wh out:=by
 have C:q≠r:=λe=>by have:=H.kq;rw [e,A] at this;cases this
 have I:qw≠r:=λe=>by have:=H.kw;rw [e,A] at this;cases this
 exact ⟨zcL H.ar (H.kb.own A) k',(vg _ _ C).trans H.oq,(vg _ _ I).trans H.ow,H.ps,H.ur,H.uw,H.nb,H.hs,H.wr,H.ns,H.ok,H.fa,Mv.Less.set H.kb r k',(vg _ _ C).trans H.kq,(vg _ _ I).trans H.kw,H.ne⟩
theorem CpS.rdt (H:CpS K a p b c q qw fn s w w2 rows tot x0 S T x n i f h wf wh out) {T':Mem} {y:Pl} {n' i' C h':Nat} (A:RdT S a p b c q ⟨fn,w,rows.length,5*w*i,f,h⟩ ⟨fn,w,rows.length,5*w*i',C,h'⟩ x y n' (b01 wh) T'):CpS K a p b c q qw fn s w w2 rows tot x0 (S.set q (rdB a ⟨fn,w,rows.length,5*w*i',C,h'⟩)) T' y n' i' C h' wf wh out :=
 ⟨A.s.ar,A.s.ow,(vg _ _ (Ne.symm H.qq)).trans H.ow,A.s.ps,A.s.us,H.uw.oth A.ot (Ne.symm H.ne) A.st.l,by have:=A.s.nb;rw [Nat.add_comm] at this;exact this,H.hs.stays A.st,H.wr.stays A.st,(A.st.n s).trans H.ns,H.ok,H.fa.trans ((zsU A.st A.ot).mono (λ_ e=>e.elim) (λ_ e=>.inl e) (Nat.le_refl _)),zao H.kb H.kq,H.kq,H.kw,H.ne⟩
theorem zkg (H:CpS K a p b c q qw fn s w w2 rows tot x0 S T x n i f h wf wh out) (X:RowsOK w rows) (Q:1<=w) (h8:w<=8) (hc:rows.length<=65536) (hi:i<rows.length) (W:n+5*w<=16384) (hl:2<=x.fr.length) :
  ACall prog 167 #[self q] T λv T'=>∃ g S' x' C h',v = .tuple #[.slice (some ⟨g,0,none⟩) w w,.bool true]/\K.own g=none/\x'.fr.length=x.fr.length/\CpS (K.set g ⟨27,rows[i].map nU,w⟩) a p b c q qw fn s w w2 rows tot x0 S' T' x' (n+5*w) (i+1) C h' wf wh out:=by
 obtain ⟨b1,b2⟩:=zsS H.hs Q hi;have hb:=zsY wh;have J:=zoQ S a p b c q _ x n (b01 wh) T H.rds Q h8 hc b1 b2 W vd;refine J.mono λv T' ⟨y,C,h',M,g,Y,U,A,V⟩=>?_;rw [show recW (run x fn (5*w*i) (5*w)) w=rows[i] from zoU H.hs Q rfl X hi] at A;subst A;have I:=H.rdt (i':=i+1) (by rw [Nat.mul_add,Nat.mul_one];exact V);exact ⟨g,_,y,C,h',Y,zaj I.kb (zaz I.ar U ⟨27,[],0⟩).1.1,V.st.l,I.new U _⟩
theorem zeR (H:CpS K a p b c q qw fn s w w2 rows tot x0 S T x n rows.length f h wf wh out) (C:1<=w) (I:w<=8) (hc:rows.length<=65536) :
  ACall prog 167 #[self q] T λv T'=>v = .tuple #[.slice none 0 0,.bool false]/\T'=T:=by
 have A:5*w*rows.length<=40*65536:=Nat.mul_le_mul vd hc;exact zg1 a q _ T (zah H.ar H.oq) I hc (by show 5*w*rows.length<=_;omega) (by show Rec.eachN w*rows.length<=5*w*rows.length;rw [ziU C];exact Nat.le_refl _)
theorem zfn (H:CpS K a p b c q qw fn s w w2 rows tot x0 S T x n i f h wf wh out) :
  ACall prog 121 #[self q] T λv T'=>v = .tuple #[] /\ ∃ S' x',x'.fr.length=x.fr.length/\CpS K a p b c q qw fn s w w2 rows tot x0 S' T' x' n i f 0 wf wh out :=
 (zfk S a p b c q _ x n (b01 wh) T H.rds).mono λv T' ⟨C,y,A⟩=>⟨C,_,y,A.st.l,H.rdt A⟩
theorem zlj (H:CpS K a p b c q qw fn s w w2 rows tot x0 S T x n i f h wf wh out) (v:tu) (A:List Nat) (V:RowR T v A) (Q:A.length=w2 /\ ∀ z ∈ A,z<Num.top) (h1:1<=w2) (h8:w2<=8) (ho:out.length<tot) (ht:tot<=65536) (hn:n+5*w2<=16384) (hl:2<=x.fr.length) :
  ACall prog 114 #[self qw,v] T λY T'=>Y = .int .i64 0 /\ ∃ S' x' I J,x'.fr.length=x.fr.length/\CpS K a p b c q qw fn s w w2 rows tot x0 S' T' x' (n+5*w2) i f h I J (out ++ [A]):=by
 have hb:=zsY h;have X:5*w2*(out.length+1)<=5*w2*tot:=Nat.mul_le_mul_left _ ho;rw [Nat.mul_add,Nat.mul_one] at X;have ac:5*w2*tot<=40*65536:=Nat.mul_le_mul vd ht;have U:=zsP S a p b c qw _ x n (b01 h) _ v A T (H.wts h1) V vd vd (λz hz=>Nat.lt_of_lt_of_le (Q.2 z hz) (by decide)) (by show out.length<=_;omega) (by rw [Q.1];show 5*w2*out.length+_<=_;omega) (by rw [Q.1];show 1+(5*w2*out.length+_-1) / 64<_;rw [show Sto.ns x.d (Wt.nm ⟨s,w2,out.length,5*w2*out.length,wf,wh⟩)=Rec.needN w2 tot from H.ns];unfold Rec.needN;rw [ziU h1];omega) (by rw [Q.1];exact hn) vd;refine U.mono λY T' ⟨V,y,I,J,C⟩=>?_;rw [Q.1] at C;have W:(out ++ [A]).length=out.length+1:=by rw [List.length_append];rfl
 have e:({ nm:=s,w:=w2,ct:=out.length+1,at_:=5*w2*out.length+5*w2,fr:=I,held:=J }:Wt)=⟨s,w2,(out ++ [A]).length,5*w2*(out ++ [A]).length,I,J⟩:=by rw [W,Nat.mul_add,Nat.mul_one]
 have C:WtT S a p b c qw ⟨s,w2,out.length,5*w2*out.length,wf,wh⟩ ⟨s,w2,(out ++ [A]).length,5*w2*(out ++ [A]).length,I,J⟩ x y (n+5*w2) (b01 h) (out.flatMap recB ++ recB A) T':=by rw [<- e];exact C
 refine ⟨V,S.set qw (wtB a ⟨s,w2,(out ++ [A]).length,5*w2*(out ++ [A]).length,I,J⟩),y,I,J,C.st.l,C.s.ar,(vg _ _ H.qq).trans H.oq,C.s.ow,C.s.ps,H.ur.oth C.ot H.ne C.st.l,C.s.us,C.s.nb,H.hs.near C.st H.ne,?_,(C.st.n s).trans H.ns,λr hm=>?_,H.fa.trans ((zwd C.st C.ot).mono (λ_ e=>e) (λ_ e=>.inr e) (Nat.le_refl _)),zao H.kb H.kw,H.kq,H.kw,H.ne⟩
 ·have:=C.s.wr;rw [List.flatMap_append];simp only [List.flatMap_cons,List.flatMap_nil,List.append_nil];exact this
 rcases List.mem_append.1 hm with hm | hm
 ·exact H.ok r hm
 rw [List.mem_singleton.1 hm];exact Q
theorem zo8 (H:CpS K a p b c q qw fn s w w2 rows tot x0 S T x n i f 0 wf wh out) (J:1<=w2) (h8:w2<=8) (U:out.length=tot) (hb:tot<=65536) (Y:n+x.fr.length<=16384) (Q:∀ o,o≠fn->Use x0 o 0 0) :
  ACall prog 115 #[self qw] T λv T'=>v = .int .i64 0 /\ ∃ S' y,ArS S' a p b c y T'/\S'.own qw≠none/\K.Less S'/\Ps y 0/\(∀ j,j<y.fr.length->(atF y j).dirty=false)/\(∀ o,Use y o 0 0)/\Sto.nb y.fr=0/\Far x0 y (λo=>o=s) No 0/\Has y s w2 tot (out.flatMap recB) /\ ∀ R:Mem,R.Less S->R.own qw=none->R.Less S':=by
 refine (zj_ S a p b c qw _ x n _ _ T (H.wts J) J h8 (show out.length<_ by omega) Y (by show 0<Sto.ns x.d s;rw [H.ns];exact Rec.za7 _ _)).mono λv T' ⟨hv,y,X,C⟩=>?_;have W:∀ o,Use y o 0 0:=λo=>by
  by_cases e:o=s
  ·subst e;exact C.uo
  refine C.us o 0 0 e ?_;by_cases e2:o=fn
  ·subst e2;exact H.ur.z
  exact H.fa.u o (λh=>h.elim e2 e) (Q o e2)
 have A:=zhR C;refine ⟨hv,_,y,X,by rw [vf];simp,zao H.kb H.kw,C.ps,C.cl,W,Nat.le_zero.1 C.nb,⟨A.l.trans H.fa.l,A.z.trans H.fa.z,Nat.le_trans A.q H.fa.q,λo I=>(A.n o I).trans (H.fa.n o I),λo k I V=>(A.v o k I (by rw [H.fa.n o I];exact V)).trans (H.fa.v o k I V),λo _ _=>W o⟩,?_,λR hR hq=>zao hR hq⟩;rw [<- U];exact zg3 J H.ok C rfl rfl rfl (by show Sto.ns x.d s=_;rw [H.ns,U])
end
end Sto
end
end Go.Proofs.YtopiogkolaelnaaGreatDoor
