/-
  Texts that belong together: SortOU, SortY, Sort2OU, Sort3OU, OdFU, Od4, TlC, VLos11, SwL1, LaidM.
-/
import Derived.Test.YtopiogkolaelnaaGreatDoorBSw7
import Derived.Test.YtopiogkolaelnaaGreatDoorRows
import Derived.Stop.Joined
import Derived.ProofKit
set_option maxHeartbeats 8000000
set_option maxRecDepth 100000
set_option linter.unusedVariables false
set_option linter.unusedSimpArgs false
set_option linter.unusedSectionVars false
namespace Go.Proofs.YtopiogkolaelnaaGreatDoor
open _root_.Go.Proofs.Tryz
section
open Go.RowKit
open Mv Srt
open Go.Sort (swp insInner insOuter insertionSort siftDown heapBuild heapPop heapSort scanUp scanDown partLoop partition partEqLoop partitionEqual scanSorted shiftDown shiftUp partialIns partialInsertionSort order2 median medianAdjacent choosePivot reverseLoop reverseRange breakStep breakPatterns pdq bitsLen xorNext Hint)
def encU (x:Nat):tu:=.int .u64 (x:Int)
theorem zuS (x:Nat) (S:Mem):ACall prog 143 #[encU x] S λr S'=>r = .bool false/\S'=S:=by
 unfold encU;refine k_E1 6 func143 ?_;refine r14_ ?_;refine ⟨_,S,⟨_,_,rfl,rfl,rfl⟩,zae,?_⟩;exact ⟨rfl,rfl⟩
theorem za8 (x y:Nat) (S:Mem):ACall prog 138 #[encU x,encU y] S λr S'=>r = .bool (ltN x y)/\S'=S:=by
 have A:decide ((x:Int)<(y:Int))=ltN x y:=by unfold ltN;rw [Bool.eq_iff_iff];simp
 have C:=zuS x S;unfold encU at *;refine k_E2 17 func138 ?_;refine r8_ ?_;refine cp_ rfl (C) ?_;refine r8_ ?_
 first|refine k_q 12 ?_|refine rG 12 (vi rfl rfl (zag (za9 _ _) A)) ?_
 refine r5_ ?_;refine ⟨_,S,⟨_,_,rfl,rfl,rfl⟩,zae,?_⟩;exact ⟨rfl,rfl⟩
theorem zuT {S:Mem} (b room n cap:Nat) (hb:Fresh S b) (hn:n<=1048576) (d:Array Nat) (R:Rw (λ_=>True) n d) (ia Y:Int) (a e:Nat) (H:ia=a) (he:Y=e) (ac:a<=n) (ae:e<=n) :
  ACall prog 196 #[.slice (some ⟨b,0,none⟩) n cap,.int .i64 ia,.int .i64 Y] (S.set b ⟨27,(d).toList.map encU,room⟩) λr S'=>S'=S.set b ⟨27,(insertionSort ltN d a e).toList.map encU,room⟩/\Rw (λ_=>True) n (insertionSort ltN d a e):=by
 subst H he;refine k_E3 49 func196 ?_;refine r8_ ?_;refine AWP.loop (X:=Nat × Array Nat) (λx=>[(0,.slice (some ⟨b,0,none⟩) n cap),(1,.int .i64 a),(2,.int .i64 e),(6,.int .i64 x.1)]) (λx=>S.set b ⟨27,(x.2).toList.map encU,room⟩) (λx=>a<x.1/\(x.1<=n\/e<=x.1)/\Rw (λ_=>True) n x.2/\insOuter ltN a e x.1 x.2=insertionSort ltN d a e) (λx=>e-x.1) ((a+1,d)) ⟨sb_,sb_,sb_,sb_,trivial⟩ (Mem.Less.refl _) (⟨by omega,by omega,R,rfl⟩) ?_;rintro ⟨i,V⟩ ⟨h1,h2,U,J⟩;(try dsimp only at *);have z1:=U.size;by_cases hi:i<e
 ·refine r8_ ?_;refine cT_ ?_;refine r11_ ?_;refine AWP.loop (X:=Nat × Array Nat) (λx=>[(0,.slice (some ⟨b,0,none⟩) n cap),(1,.int .i64 a),(2,.int .i64 e),(6,.int .i64 i),(7,.int .i64 x.1)]) (λx=>S.set b ⟨27,(x.2).toList.map encU,room⟩) (λx=>x.1<=i/\Rw (λ_=>True) n x.2/\insInner ltN a x.1 x.2=insInner ltN a i V) (λx=>x.1) ((i,V)) ⟨rfl,rfl,rfl,rfl,rfl,trivial⟩ (Mem.Less.refl _) (⟨Nat.le_refl _,U,rfl⟩) ?_;rintro ⟨j,I⟩ ⟨k1,A,Q⟩;(try dsimp only at *);have z2:=A.size;have C:=zr8 ltN (a:=a) (d:=V) hi;by_cases H:a<j
  ·obtain ⟨j,rfl⟩ : ∃ q,j=q+1:=⟨j-1,by omega⟩;refine r2_ ?_;refine dr_ [i0_,i1_,i2_,i3_,i4_,i5_,i6_,i7_,i8_,i9_,i10_,i11_,i12_,o13_,i14_] [] ?_;refine r7_ ?_
   first|refine k_d ?_|refine dL (hc:=Calm.load zaf rfl (zak (k:=j+1) own_ rw_ rw_)) (h:=?_)
   refine r4_ ?_
   first|refine k_d ?_|refine dL (hc:=Calm.load zaf rfl (zak (k:=j) own_ rw_ rw_)) (h:=?_)
   refine zac rfl ?_;refine vv 3 true 19 rfl (zab rfl) rfl (zab rfl) zc_ rfl (za8 _ _ _) ?_;rintro _ _ ⟨rfl,rfl⟩;refine zad ⟨ny_,?_⟩;refine r3_ ?_;refine vp rfl (λW=>?_) (λW=>?_)
   ·refine r4_ ?_;refine dr_ [i0_,i1_,i2_,i3_,i4_,i5_,i6_,i7_,i8_,i9_,i10_,i11_,i12_,i13_,i14_,o15_,i16_,o17_] [15,17] ?_;refine r9_ ?_;refine dC (hc:=Calm.load zaf rfl (zak (k:=j) own_ rw_ rw_)) (h:=?_);refine r3_ ?_;refine dC (hc:=Calm.load zaf rfl (zak (k:=j+1) own_ rw_ rw_)) (h:=?_);refine s1_ ?_;refine zac rfl ?_;refine vm encU (j+1) rfl rfl zai ⟨rfl,rfl⟩ own_ rw_ rw_ ?_
    try simp only [k_ms,k_sz,k_ss,k_za,Nat.reduceAdd]
    refine zad ⟨nz_,?_⟩;refine s1_ ?_;refine zac rfl ?_;refine vm encU (j) rfl rfl zai ⟨rfl,rfl⟩ own_ rw_ rw_ ?_
    try simp only [k_ms,k_sz,k_ss,k_za,Nat.reduceAdd]
    refine zad ⟨nz_,?_⟩;refine r3_ ?_;refine kw_ [0,1,2,6,7,30] ?_;refine r6_ ?_;refine ⟨(j,swp I (j+1) j),?_,?_,?_,?_⟩<;>try dsimp only
    ·exact ⟨sb_,sb_,sb_,sb_,sb_,trivial⟩
    ·exact Mem.Less.refl _
    ·exact ⟨by omega,A.swp _ _ vd vd,(zwA ltN H W).trans Q⟩
    omega
   refine r12_ ?_;refine ⟨(i+1,I),?_,?_,?_,?_⟩<;>try dsimp only
   ·exact ⟨sb_,sb_,sb_,sb_,trivial⟩
   ·exact Mem.Less.refl _
   ·exact ⟨by omega,by omega,A,by rw [<- Q,<- zwB ltN W] at C;exact C.trans J⟩
   omega
  refine r2_ ?_;refine dr_ [i0_,i1_,i2_,i3_,i4_,i5_,i6_,i7_,i8_,i9_,i10_,i11_,i12_,o13_,i14_] [] ?_;refine r7_ ?_
  first|refine k_d ?_|refine dL (hc:=Calm.load zaf rfl (zak (k:=j+1) own_ rw_ rw_)) (h:=?_)
  refine r4_ ?_
  first|refine k_d ?_|refine dL (hc:=Calm.load zaf rfl (zak (k:=j) own_ rw_ rw_)) (h:=?_)
  refine zac rfl ?_;refine s1_ ?_;refine zad ⟨ny_,?_⟩;refine r3_ ?_;refine cF_ ?_;refine r12_ ?_;refine ⟨(i+1,I),?_,?_,?_,?_⟩<;>try dsimp only
  ·exact ⟨sb_,sb_,sb_,sb_,trivial⟩
  ·exact Mem.Less.refl _
  ·exact ⟨by omega,by omega,A,by rw [<- Q,<- zuG ltN H] at C;exact C.trans J⟩
  omega
 refine r8_ ?_;refine cF_ ?_;refine r4_ ?_;refine ⟨_,_,rfl,Mem.Less.refl _,?_⟩;rw [<- J,<- zpG ltN hi];exact ⟨rfl,U⟩
theorem zlC {S:Mem} (b room n cap:Nat) (hb:Fresh S b) (hn:n<=1048576) (d:Array Nat) (R:Rw (λ_=>True) n d) (il ih Y:Int) (lo hi first:Nat) (el:il=lo) (eh:ih=hi) (ef:Y=first) (U:lo<=n) (ad:first+hi<=n) :
  ACall prog 245 #[.slice (some ⟨b,0,none⟩) n cap,.int .i64 il,.int .i64 ih,.int .i64 Y] (S.set b ⟨27,(d).toList.map encU,room⟩) λr S'=>S'=S.set b ⟨27,(siftDown ltN hi first lo d).toList.map encU,room⟩/\Rw (λ_=>True) n (siftDown ltN hi first lo d):=by
 subst el eh ef;refine k_E4 76 func245 ?_;refine r7_ ?_;refine AWP.loop (X:=Nat × Array Nat) (λx=>[(0,.slice (some ⟨b,0,none⟩) n cap),(2,.int .i64 hi),(3,.int .i64 first),(8,.int .i64 x.1)]) (λx=>S.set b ⟨27,(x.2).toList.map encU,room⟩) (λx=>x.1<=n/\Rw (λ_=>True) n x.2/\siftDown ltN hi first x.1 x.2=siftDown ltN hi first lo d) (λx=>n+1-x.1) ((lo,d)) ⟨rfl,rfl,rfl,rfl,trivial⟩ (Mem.Less.refl _) (⟨U,R,rfl⟩) ?_;rintro ⟨r,Q⟩ ⟨h1,I,J⟩;(try dsimp only at *);have z1:=I.size;by_cases hc:hi<=2*r+1
 ·refine r9_ ?_;refine r8_ ?_;refine cT_ ?_;refine r5_ ?_;refine ⟨_,_,rfl,Mem.Less.refl _,?_⟩;rw [<- J,<- zpH ltN hc];exact ⟨rfl,I⟩
 refine r9_ ?_;refine r8_ ?_;refine kw_ [0,2,3,8,9,16] ?_;refine cF_ ?_;by_cases W:2*r+2<hi
 ·refine r4_ ?_;refine dr_ [i0_,i1_,i2_,i3_,i4_,i5_,i6_,i7_,i8_,i9_,i10_,i11_,i12_,i13_,i14_,i15_,i16_,i17_,o18_,i19_] [] ?_;refine r10_ ?_
  first|refine k_d ?_|refine dL (hc:=Calm.load zaf rfl (zak (k:=first+(2*r+1)) own_ rw_ rw_)) (h:=?_)
  refine r6_ ?_
  first|refine k_d ?_|refine dL (hc:=Calm.load zaf rfl (zak (k:=first+(2*r+2)) own_ rw_ rw_)) (h:=?_)
  refine zac rfl ?_;refine vv 4 true 21 rfl (zab rfl) rfl (zab rfl) zc_ rfl (za8 _ _ _) ?_;rintro _ _ ⟨rfl,rfl⟩;refine zad ⟨ny_,?_⟩;refine r3_ ?_;refine vp rfl (λV=>?_) (λV=>?_)
  ·have C:child ltN hi first r Q=2*r+2:=if_pos ⟨W,V⟩
   refine r8_ ?_;refine dr_ [i0_,i1_,i2_,i3_,i4_,i5_,i6_,i7_,i8_,i9_,i10_,i11_,o12_,i13_] [] ?_;refine r5_ ?_;refine dC (hc:=Calm.load zaf rfl (zak (k:=first+r) own_ rw_ rw_)) (h:=?_);refine r5_ ?_;refine dC (hc:=Calm.load zaf rfl (zak (k:=first+(2*r+2)) own_ rw_ rw_)) (h:=?_);refine zac rfl ?_;refine ca_ rfl (za8 _ _ _) ?_;rintro _ _ ⟨rfl,rfl⟩;refine zad ⟨ny_,?_⟩;refine r3_ ?_;refine vp rfl (λA=>?_) (λA=>?_)
   ·have A:=nt_ A;refine r5_ ?_;refine ⟨_,_,rfl,Mem.Less.refl _,?_⟩;rw [<- J,<- zgf ltN hc (by rw [C];exact A)];exact ⟨rfl,I⟩
   have A:=nf_ A;refine r3_ ?_;refine dr_ [i0_,i1_,i2_,i3_,i4_,i5_,i6_,i7_,i8_,i9_,i10_,i11_,i12_,i13_,i14_,i15_,i16_,i17_,i18_,i19_,i20_,o21_,i22_,o23_] [21,23] ?_;refine r13_ ?_;refine dC (hc:=Calm.load zaf rfl (zak (k:=first+(2*r+2)) own_ rw_ rw_)) (h:=?_);refine r5_ ?_;refine dC (hc:=Calm.load zaf rfl (zak (k:=first+r) own_ rw_ rw_)) (h:=?_);refine s1_ ?_;refine zac rfl ?_;refine vm encU (first+r) rfl rfl zai ⟨rfl,rfl⟩ own_ rw_ rw_ ?_
   try simp only [k_ms,k_sz,k_ss,k_za,Nat.reduceAdd]
   refine zad ⟨nz_,?_⟩;refine s1_ ?_;refine zac rfl ?_;refine vm encU (first+(2*r+2)) rfl rfl zai ⟨rfl,rfl⟩ own_ rw_ rw_ ?_
   try simp only [k_ms,k_sz,k_ss,k_za,Nat.reduceAdd]
   refine zad ⟨nz_,?_⟩;refine r8_ ?_;refine ⟨(2*r+2,swp Q (first+r) (first+(2*r+2))),?_,?_,?_,?_⟩<;>try dsimp only
   ·exact ⟨sb_,sb_,sb_,sb_,trivial⟩
   ·exact Mem.Less.refl _
   ·exact ⟨by omega,I.swp _ _ vd vd,by have H:=zkp ltN hc (by rw [C];exact A);rw [C] at H;exact H.trans J⟩
   omega
  have C:child ltN hi first r Q=2*r+1:=if_neg (λh=>Bool.noConfusion (V.symm.trans h.2))
  refine r4_ ?_;refine dr_ [i0_,i1_,i2_,i3_,i4_,i5_,i6_,i7_,i8_,i9_,i10_,i11_,o12_,i13_] [] ?_;refine r5_ ?_;refine dC (hc:=Calm.load zaf rfl (zak (k:=first+r) own_ rw_ rw_)) (h:=?_);refine r5_ ?_;refine dC (hc:=Calm.load zaf rfl (zak (k:=first+(2*r+1)) own_ rw_ rw_)) (h:=?_);refine zac rfl ?_;refine ca_ rfl (za8 _ _ _) ?_;rintro _ _ ⟨rfl,rfl⟩;refine zad ⟨ny_,?_⟩;refine r3_ ?_;refine kw_ [0,2,3,8,9,16,36,52] ?_;refine vp rfl (λA=>?_) (λA=>?_)
  ·have A:=nt_ A;refine r5_ ?_;refine ⟨_,_,rfl,Mem.Less.refl _,?_⟩;rw [<- J,<- zgf ltN hc (by rw [C];exact A)];exact ⟨rfl,I⟩
  have A:=nf_ A;refine r3_ ?_;refine dr_ [i0_,i1_,i2_,i3_,i4_,i5_,i6_,i7_,i8_,i9_,i10_,i11_,i12_,i13_,i14_,i15_,i16_,i17_,i18_,i19_,i20_,o21_,i22_,o23_] [21,23] ?_;refine r13_ ?_;refine dC (hc:=Calm.load zaf rfl (zak (k:=first+(2*r+1)) own_ rw_ rw_)) (h:=?_);refine r5_ ?_;refine dC (hc:=Calm.load zaf rfl (zak (k:=first+r) own_ rw_ rw_)) (h:=?_);refine s1_ ?_;refine zac rfl ?_;refine vm encU (first+r) rfl rfl zai ⟨rfl,rfl⟩ own_ rw_ rw_ ?_
  try simp only [k_ms,k_sz,k_ss,k_za,Nat.reduceAdd]
  refine zad ⟨nz_,?_⟩;refine s1_ ?_;refine zac rfl ?_;refine vm encU (first+(2*r+1)) rfl rfl zai ⟨rfl,rfl⟩ own_ rw_ rw_ ?_
  try simp only [k_ms,k_sz,k_ss,k_za,Nat.reduceAdd]
  refine zad ⟨nz_,?_⟩;refine r8_ ?_;refine ⟨(2*r+1,swp Q (first+r) (first+(2*r+1))),?_,?_,?_,?_⟩<;>try dsimp only
  ·exact ⟨sb_,sb_,sb_,sb_,trivial⟩
  ·exact Mem.Less.refl _
  ·exact ⟨by omega,I.swp _ _ vd vd,by have H:=zkp ltN hc (by rw [C];exact A);rw [C] at H;exact H.trans J⟩
  omega
 refine r4_ ?_;refine dr_ [i0_,i1_,i2_,i3_,i4_,i5_,i6_,i7_,i8_,i9_,i10_,i11_,i12_,i13_,i14_,i15_,i16_,i17_,o18_,i19_] [] ?_;refine r10_ ?_
 first|refine k_d ?_|refine dL (hc:=Calm.load zaf rfl (zak (k:=first+(2*r+1)) own_ rw_ rw_)) (h:=?_)
 refine r6_ ?_
 first|refine k_d ?_|refine dL (hc:=Calm.load zaf rfl (zak (k:=first+(2*r+2)) own_ rw_ rw_)) (h:=?_)
 refine zac rfl ?_;refine s1_ ?_;refine zad ⟨ny_,?_⟩;refine r3_ ?_;refine cF_ ?_;have C:child ltN hi first r Q=2*r+1:=if_neg (λh=>W h.1)
 refine r4_ ?_;refine dr_ [i0_,i1_,i2_,i3_,i4_,i5_,i6_,i7_,i8_,i9_,i10_,i11_,o12_,i13_] [] ?_;refine r5_ ?_;refine dC (hc:=Calm.load zaf rfl (zak (k:=first+r) own_ rw_ rw_)) (h:=?_);refine r5_ ?_;refine dC (hc:=Calm.load zaf rfl (zak (k:=first+(2*r+1)) own_ rw_ rw_)) (h:=?_);refine zac rfl ?_;refine ca_ rfl (za8 _ _ _) ?_;rintro _ _ ⟨rfl,rfl⟩;refine zad ⟨ny_,?_⟩;refine r3_ ?_;refine vp rfl (λA=>?_) (λA=>?_)
 ·have A:=nt_ A;refine r5_ ?_;refine ⟨_,_,rfl,Mem.Less.refl _,?_⟩;rw [<- J,<- zgf ltN hc (by rw [C];exact A)];exact ⟨rfl,I⟩
 have A:=nf_ A;refine r3_ ?_;refine dr_ [i0_,i1_,i2_,i3_,i4_,i5_,i6_,i7_,i8_,i9_,i10_,i11_,i12_,i13_,i14_,i15_,i16_,i17_,i18_,i19_,i20_,o21_,i22_,o23_] [21,23] ?_;refine r13_ ?_;refine dC (hc:=Calm.load zaf rfl (zak (k:=first+(2*r+1)) own_ rw_ rw_)) (h:=?_);refine r5_ ?_;refine dC (hc:=Calm.load zaf rfl (zak (k:=first+r) own_ rw_ rw_)) (h:=?_);refine s1_ ?_;refine zac rfl ?_;refine vm encU (first+r) rfl rfl zai ⟨rfl,rfl⟩ own_ rw_ rw_ ?_
 try simp only [k_ms,k_sz,k_ss,k_za,Nat.reduceAdd]
 refine zad ⟨nz_,?_⟩;refine s1_ ?_;refine zac rfl ?_;refine vm encU (first+(2*r+1)) rfl rfl zai ⟨rfl,rfl⟩ own_ rw_ rw_ ?_
 try simp only [k_ms,k_sz,k_ss,k_za,Nat.reduceAdd]
 refine zad ⟨nz_,?_⟩;refine r8_ ?_;refine ⟨(2*r+1,swp Q (first+r) (first+(2*r+1))),?_,?_,?_,?_⟩<;>try dsimp only
 ·exact ⟨sb_,sb_,sb_,sb_,trivial⟩
 ·exact Mem.Less.refl _
 ·exact ⟨by omega,I.swp _ _ vd vd,by have H:=zkp ltN hc (by rw [C];exact A);rw [C] at H;exact H.trans J⟩
 omega
theorem zsf {S:Mem} (b room n cap:Nat) (V:Fresh S b) (U:n<=1048576) (d:Array Nat) (R:Rw (λ_=>True) n d) (I H:Int) (a e:Nat) (ha:I=a) (he:H=e) (ag:a<e) (ah:e<=n) :
  ACall prog 197 #[.slice (some ⟨b,0,none⟩) n cap,.int .i64 I,.int .i64 H] (S.set b ⟨27,(d).toList.map encU,room⟩) λr S'=>S'=S.set b ⟨27,(heapSort ltN d a e).toList.map encU,room⟩/\Rw (λ_=>True) n (heapSort ltN d a e):=by
 subst ha he;obtain ⟨L,rfl⟩ : ∃ L,e=a+L:=⟨e-a,by omega⟩;have hH:heapPop ltN a L (heapBuild ltN L a ((L-1) / 2+1) d)=heapSort ltN d a (a+L):=by unfold heapSort;rw [Nat.add_sub_cancel_left]
 refine k_E3 56 func197 ?_;refine r29_ ?_;refine AWP.loop (X:=Nat × Array Nat) (λx=>[(0,.slice (some ⟨b,0,none⟩) n cap),(6,.int .i64 a),(7,.int .i64 0),(8,.int .i64 L),(9,.int .i64 ((x.1:Int)-1))]) (λx=>S.set b ⟨27,(x.2).toList.map encU,room⟩) (λx=>x.1<=L/\Rw (λ_=>True) n x.2/\heapPop ltN a L (heapBuild ltN L a x.1 x.2)=heapSort ltN d a (a+L)) (λx=>x.1) (((L-1) / 2+1,d)) ⟨sb_,sb_,sb_,sb_,sb_,trivial⟩ (Mem.Less.refl _) (⟨by omega,R,hH⟩) ?_;rintro ⟨k,C⟩ ⟨h1,Y,Q⟩;(try dsimp only at *);by_cases hk:0<k
 ·obtain ⟨k,rfl⟩ : ∃ q,k=q+1:=⟨k-1,by omega⟩;refine r7_ ?_;refine cT_ ?_;refine r9_ ?_;refine ca_ rfl (zlC b room n cap V U C Y _ _ _ k L a rw_ rw_ rfl vd vd) ?_;rintro _ _ ⟨rfl,A⟩;refine r3_ ?_;refine kw_ [0,6,7,8,9,19] ?_;refine r6_ ?_;refine ⟨(k,siftDown ltN L a k C),?_,?_,?_,?_⟩<;>try dsimp only
  ·exact ⟨sb_,sb_,sb_,sb_,sb_,trivial⟩
  ·exact Mem.Less.refl _
  ·exact ⟨by omega,A,Q⟩
  omega
 obtain rfl:k=0:=by omega
 refine r7_ ?_;refine cF_ ?_;refine r13_ ?_;refine AWP.loop (X:=Nat × Array Nat) (λx=>[(0,.slice (some ⟨b,0,none⟩) n cap),(6,.int .i64 a),(7,.int .i64 0),(10,.int .i64 ((x.1:Int)-1))]) (λx=>S.set b ⟨27,(x.2).toList.map encU,room⟩) (λx=>x.1<=L/\Rw (λ_=>True) n x.2/\heapPop ltN a x.1 x.2=heapSort ltN d a (a+L)) (λx=>x.1) ((L,C)) ⟨sb_,sb_,sb_,sb_,trivial⟩ (Mem.Less.refl _) (⟨Nat.le_refl _,Y,Q⟩) ?_;rintro ⟨k,J⟩ ⟨k1,A,W⟩;(try dsimp only at *);have z2:=A.size;by_cases hk:0<k
 ·obtain ⟨k,rfl⟩ : ∃ q,k=q+1:=⟨k-1,by omega⟩;refine r7_ ?_;refine cT_ ?_;refine r5_ ?_;refine dr_ [i0_,i1_,i2_,i3_,i4_,i5_,i6_,i7_,i8_,i9_,i10_,i11_,i12_,i13_,i14_,i15_,i16_,o17_,i18_,o19_] [17,19] ?_;refine r11_ ?_;refine dC (hc:=Calm.load zaf rfl (zak (k:=a+k) own_ rw_ rw_)) (h:=?_);refine r3_ ?_;refine dC (hc:=Calm.load zaf rfl (zak (k:=a) own_ rw_ rw_)) (h:=?_);refine s1_ ?_;refine zac rfl ?_;refine vm encU (a) rfl rfl zai ⟨rfl,rfl⟩ own_ rw_ rw_ ?_
  try simp only [k_ms,k_sz,k_ss,k_za,Nat.reduceAdd]
  refine zad ⟨nz_,?_⟩;refine s1_ ?_;refine zac rfl ?_;refine vm encU (a+k) rfl rfl zai ⟨rfl,rfl⟩ own_ rw_ rw_ ?_
  try simp only [k_ms,k_sz,k_ss,k_za,Nat.reduceAdd]
  refine zad ⟨nz_,?_⟩;refine r7_ ?_;refine ca_ rfl (zlC b room n cap V U (swp J a (a+k)) (A.swp _ _ vd vd) _ _ _ 0 k a rfl rw_ rfl vd vd) ?_;rintro _ _ ⟨rfl,R3⟩;refine r3_ ?_;refine kw_ [0,6,7,10,30] ?_;refine r6_ ?_;refine ⟨(k,siftDown ltN k a 0 (swp J a (a+k))),?_,?_,?_,?_⟩<;>try dsimp only
  ·exact ⟨sb_,sb_,sb_,sb_,trivial⟩
  ·exact Mem.Less.refl _
  ·exact ⟨by omega,R3,W⟩
  omega
 obtain rfl:k=0:=by omega
 refine r7_ ?_;refine cF_ ?_;refine r4_ ?_;refine ⟨_,_,rfl,Mem.Less.refl _,?_⟩;rw [<- W];exact ⟨rfl,A⟩
theorem zsg {S:Mem} (b room n cap:Nat) (hb:Fresh S b) (hn:n<=1048576) (d:Array Nat) (R:Rw (λ_=>True) n d) (ia ie ip:Int) (a e p:Nat) (ha:ia=a) (he:ie=e) (ak:ip=p) (aE:a<=p) (aG:p<e) (aD:e<=n) :
  ACall prog 203 #[.slice (some ⟨b,0,none⟩) n cap,.int .i64 ia,.int .i64 ie,.int .i64 ip] (S.set b ⟨27,(d).toList.map encU,room⟩) λr S'=>PartR Nat (λx:Array Nat=>S.set b ⟨27,(x).toList.map encU,room⟩) (λ_=>True) n (partition ltN d a e p) a e r S':=by
 subst ha he ak;obtain ⟨J,rfl⟩ : ∃ J,e=J+1:=⟨e-1,by omega⟩;have R0:=R.swp a p vd vd;have z:=R.size;obtain ⟨C,aa⟩ : ∃ C,C=swp d a p:=⟨_,rfl⟩;rw [<- aa] at R0;have z0:=R0.size;refine k_E4 168 func203 ?_;refine r7_ ?_;refine dr_ [i0_,i1_,i2_,i3_,i4_,i5_,i6_,i7_,i8_,i9_,i10_,i11_,i12_,o13_,i14_,o15_] [13,15] ?_;refine r7_ ?_;refine dC (hc:=Calm.load zaf rfl (zak (k:=p) own_ rw_ rw_)) (h:=?_);refine r3_ ?_;refine dC (hc:=Calm.load zaf rfl (zak (k:=a) own_ rw_ rw_)) (h:=?_);refine s1_ ?_;refine zac rfl ?_;refine vm encU (a) rfl rfl zai ⟨rfl,rfl⟩ own_ rw_ rw_ ?_
 try simp only [k_ms,k_sz,k_ss,k_za,Nat.reduceAdd]
 refine zad ⟨nz_,?_⟩;refine s1_ ?_;refine zac rfl ?_;refine vm encU (p) rfl rfl zai ⟨rfl,rfl⟩ own_ rw_ rw_ ?_
 try simp only [k_ms,k_sz,k_ss,k_za,Nat.reduceAdd]
 refine zad ⟨nz_,?_⟩;refine r2_ ?_;refine AWP.less (S.set b ⟨27,(C).toList.map encU,room⟩) (by rw [aa];exact Mem.Less.refl _) ?_;refine r11_ ?_;refine AWP.join (X:=Nat) (λx=>[(0,.slice (some ⟨b,0,none⟩) n cap),(1,.int .i64 a),(10,.int .i64 x),(11,.int .i64 J)]) (λ_=>S.set b ⟨27,(C).toList.map encU,room⟩) (λx=>a+1<=x/\x<=J+1/\x=scanUp (λx=>ltN x C[a]!) C (J) (a+1)) ?_ ?_
 ·refine s1_ ?_;refine AWP.loop (X:=Nat) (λx=>[(0,.slice (some ⟨b,0,none⟩) n cap),(1,.int .i64 a),(10,.int .i64 x),(11,.int .i64 J)]) (λ_=>S.set b ⟨27,(C).toList.map encU,room⟩) (λx=>a+1<=x/\x<=J+1/\scanUp (λx=>ltN x C[a]!) C (J) x=scanUp (λx=>ltN x C[a]!) C (J) (a+1)) (λx=>J+1-x) ((a+1)) ⟨sb_,sb_,sb_,sb_,trivial⟩ (Mem.Less.refl _) (⟨by omega,by omega,rfl⟩) ?_;rintro i ⟨q1,q2,Y⟩;(try dsimp only at *);by_cases U:i<=J
  ·refine r2_ ?_;refine dr_ [i0_,i1_,i2_,i3_,i4_,i5_,i6_,i7_,i8_,i9_,i10_,i11_,o12_,i13_] [] ?_;refine r7_ ?_
   first|refine k_d ?_|refine dL (hc:=Calm.load zaf rfl (zak (k:=i) own_ rw_ rw_)) (h:=?_)
   refine r3_ ?_
   first|refine k_d ?_|refine dL (hc:=Calm.load zaf rfl (zak (k:=a) own_ rw_ rw_)) (h:=?_)
   refine zac rfl ?_;refine vv 3 true 33 rfl (zab rfl) rfl (zab rfl) zc_ rfl (za8 _ _ _) ?_;rintro _ _ ⟨rfl,rfl⟩;refine zad ⟨ny_,?_⟩;refine r3_ ?_;refine vp rfl (λW=>?_) (λW=>?_)
   ·refine r10_ ?_;refine ⟨i+1,?_,?_,?_,?_⟩<;>try dsimp only
    ·exact ⟨sb_,sb_,sb_,sb_,trivial⟩
    ·exact Mem.Less.refl _
    ·exact ⟨by omega,by omega,(zuH (p:=(λx=>ltN x C[a]!)) U (by simp only [W,Bool.not_true,Bool.not_false])).trans Y⟩
    omega
   refine r4_ ?_;refine ⟨i,?_,?_,?_⟩<;>try dsimp only
   ·exact ⟨by omega,by omega,(zuI (p:=(λx=>ltN x C[a]!)) (by simp only [W,Bool.not_true,Bool.not_false])).trans Y⟩
   ·exact ⟨sb_,sb_,sb_,sb_,trivial⟩
   exact Mem.Less.refl _
  refine r2_ ?_;refine dr_ [i0_,i1_,i2_,i3_,i4_,i5_,i6_,i7_,i8_,i9_,i10_,i11_,o12_,i13_] [] ?_;refine r7_ ?_
  first|refine k_d ?_|refine dL (hc:=Calm.load zaf rfl (zak (k:=i) own_ rw_ rw_)) (h:=?_)
  refine r3_ ?_
  first|refine k_d ?_|refine dL (hc:=Calm.load zaf rfl (zak (k:=a) own_ rw_ rw_)) (h:=?_)
  refine zac rfl ?_;refine s1_ ?_;refine zad ⟨ny_,?_⟩;refine r3_ ?_;refine cF_ ?_;refine r4_ ?_;refine ⟨i,?_,?_,?_⟩<;>try dsimp only
  ·exact ⟨by omega,by omega,(zpI (p:=(λx=>ltN x C[a]!)) U).trans Y⟩
  ·exact ⟨sb_,sb_,sb_,sb_,trivial⟩
  exact Mem.Less.refl _
 rintro A ⟨b1,b2,hU⟩;intro _ _ I H;(try dsimp only at *);refine zau ?_;refine AWP.sub _ I (AWP.less _ H ?_);clear I H;refine s1_ ?_;refine AWP.join (X:=Nat) (λx=>[(0,.slice (some ⟨b,0,none⟩) n cap),(1,.int .i64 a),(10,.int .i64 A),(11,.int .i64 x)]) (λ_=>S.set b ⟨27,(C).toList.map encU,room⟩) (λx=>a<=x/\x<=J/\x=scanDown (λx=>!ltN x C[a]!) C A J) ?_ ?_
 ·refine s1_ ?_;refine AWP.loop (X:=Nat) (λx=>[(0,.slice (some ⟨b,0,none⟩) n cap),(1,.int .i64 a),(10,.int .i64 A),(11,.int .i64 x)]) (λ_=>S.set b ⟨27,(C).toList.map encU,room⟩) (λx=>a<=x/\x<=J/\scanDown (λx=>!ltN x C[a]!) C A x=scanDown (λx=>!ltN x C[a]!) C A J) (λx=>x) (J) ⟨sb_,sb_,sb_,sb_,trivial⟩ (Mem.Less.refl _) (⟨by omega,by omega,rfl⟩) ?_;rintro j ⟨q1,q2,Y⟩;(try dsimp only at *);by_cases U:A<=j
  ·obtain ⟨j,rfl⟩ : ∃ q,j=q+1:=⟨j-1,by omega⟩;refine r2_ ?_;refine dr_ [i0_,i1_,i2_,i3_,i4_,i5_,i6_,i7_,i8_,i9_,i10_,i11_,o12_,i13_,i14_] [] ?_;refine r7_ ?_
   first|refine k_d ?_|refine dL (hc:=Calm.load zaf rfl (zak (k:=j+1) own_ rw_ rw_)) (h:=?_)
   refine r3_ ?_
   first|refine k_d ?_|refine dL (hc:=Calm.load zaf rfl (zak (k:=a) own_ rw_ rw_)) (h:=?_)
   refine zac rfl ?_;refine vv 3 true 49 rfl (zab rfl) rfl (zab rfl) zc_ rfl (za8 _ _ _) ?_;rintro _ _ ⟨rfl,rfl⟩;refine zad ⟨ny_,?_⟩;refine r4_ ?_;refine kw_ [0,1,10,11,60] ?_;refine vp rfl (λW=>?_) (λW=>?_)
   ·have W:=nt_ W;refine r10_ ?_;refine ⟨j,?_,?_,?_,?_⟩<;>try dsimp only
    ·exact ⟨sb_,sb_,sb_,sb_,trivial⟩
    ·exact Mem.Less.refl _
    ·exact ⟨by omega,by omega,(zkq (p:=(λx=>!ltN x C[a]!)) U (by simp only [W,Bool.not_true,Bool.not_false])).trans Y⟩
    omega
   have W:=nf_ W;refine r4_ ?_;refine ⟨(j+1),?_,?_,?_⟩<;>try dsimp only
   ·exact ⟨by omega,by omega,(zkr (p:=(λx=>!ltN x C[a]!)) vd (by simp only [W,Bool.not_true,Bool.not_false])).trans Y⟩
   ·exact ⟨sb_,sb_,sb_,sb_,trivial⟩
   exact Mem.Less.refl _
  refine r2_ ?_;refine dr_ [i0_,i1_,i2_,i3_,i4_,i5_,i6_,i7_,i8_,i9_,i10_,i11_,o12_,i13_,i14_] [] ?_;refine r7_ ?_
  first|refine k_d ?_|refine dL (hc:=Calm.load zaf rfl (zak (k:=j+1) own_ rw_ rw_)) (h:=?_)
  refine r3_ ?_
  first|refine k_d ?_|refine dL (hc:=Calm.load zaf rfl (zak (k:=a) own_ rw_ rw_)) (h:=?_)
  refine zac rfl ?_;refine s1_ ?_;refine zad ⟨ny_,?_⟩;refine r4_ ?_;refine cF_ ?_;refine r4_ ?_;refine ⟨j,?_,?_,?_⟩<;>try dsimp only
  ·exact ⟨by omega,by omega,(zh5 (p:=(λx=>!ltN x C[a]!)) U).trans Y⟩
  ·exact ⟨sb_,sb_,sb_,sb_,trivial⟩
  exact Mem.Less.refl _
 rintro V ⟨b3,b4,hD⟩;intro _ _ I H;(try dsimp only at *);refine zau ?_;refine AWP.sub _ I (AWP.less _ H ?_);clear I H;by_cases hx:V<A
 ·refine r8_ ?_;refine cT_ ?_;refine s1_ ?_;refine dr_ [i0_,i1_,i2_,i3_,i4_,i5_,i6_,i7_,i8_,i9_,i10_,i11_,i12_,o13_,i14_,o15_] [13,15] ?_;refine r7_ ?_;refine dC (hc:=Calm.load zaf rfl (zak (k:=a) own_ rw_ rw_)) (h:=?_);refine r3_ ?_;refine dC (hc:=Calm.load zaf rfl (zak (k:=V) own_ rw_ rw_)) (h:=?_);refine s1_ ?_;refine zac rfl ?_;refine vm encU (V) rfl rfl zai ⟨rfl,rfl⟩ own_ rw_ rw_ ?_
  try simp only [k_ms,k_sz,k_ss,k_za,Nat.reduceAdd]
  refine zad ⟨nz_,?_⟩;refine s1_ ?_;refine zac rfl ?_;refine vm encU (a) rfl rfl zai ⟨rfl,rfl⟩ own_ rw_ rw_ ?_
  try simp only [k_ms,k_sz,k_ss,k_za,Nat.reduceAdd]
  refine zad ⟨nz_,?_⟩;refine r11_ ?_;refine ⟨_,_,⟨_,_,rfl,⟨_,_,rfl,rfl,rfl⟩,rfl⟩,Mem.Less.refl _,?_⟩;exact zpL ltN aa hU hD hx (R0.swp _ _ vd vd) vd vd
 refine r8_ ?_;refine kw_ [0,1,10,11,65] ?_;refine cF_ ?_;refine r3_ ?_;refine dr_ [i0_,i1_,i2_,i3_,i4_,i5_,i6_,i7_,i8_,i9_,i10_,i11_,i12_,o13_,i14_,o15_] [13,15] ?_;have R1:=R0.swp A V vd vd;have ay:partLoop ltN a (A+1) (V-1) (swp C A V)=partLoop ltN a (A+1) (V-1) (swp C A V):=rfl;refine r7_ ?_;refine dC (hc:=Calm.load zaf rfl (zak (k:=V) own_ rw_ rw_)) (h:=?_);refine r3_ ?_;refine dC (hc:=Calm.load zaf rfl (zak (k:=A) own_ rw_ rw_)) (h:=?_);refine s1_ ?_;refine zac rfl ?_;refine vm encU (A) rfl rfl zai ⟨rfl,rfl⟩ own_ rw_ rw_ ?_
 try simp only [k_ms,k_sz,k_ss,k_za,Nat.reduceAdd]
 refine zad ⟨nz_,?_⟩;refine s1_ ?_;refine zac rfl ?_;refine vm encU (V) rfl rfl zai ⟨rfl,rfl⟩ own_ rw_ rw_ ?_
 try simp only [k_ms,k_sz,k_ss,k_za,Nat.reduceAdd]
 refine zad ⟨nz_,?_⟩;refine r17_ ?_;refine AWP.join (X:=Nat × Array Nat) (λx=>[(0,.slice (some ⟨b,0,none⟩) n cap),(1,.int .i64 a),(11,.int .i64 x.1)]) (λx=>S.set b ⟨27,(x.2).toList.map encU,room⟩) (λx=>a<=x.1/\x.1<=J/\Rw (λ_=>True) n x.2/\(x.1,x.2)=partLoop ltN a (A+1) (V-1) (swp C A V)) ?_ ?_
 ·refine s1_ ?_;refine AWP.loop (X:=Nat × Nat × Array Nat) (λx=>[(0,.slice (some ⟨b,0,none⟩) n cap),(1,.int .i64 a),(10,.int .i64 x.1),(11,.int .i64 x.2.1)]) (λx=>S.set b ⟨27,(x.2.2).toList.map encU,room⟩) (λx=>a+1<=x.1/\x.1<=J+1/\a<=x.2.1/\x.2.1<=J/\Rw (λ_=>True) n x.2.2/\partLoop ltN a x.1 x.2.1 x.2.2=partLoop ltN a (A+1) (V-1) (swp C A V)) (λx=>J+1-x.1) ((A+1,V-1,swp C A V)) ⟨sb_,sb_,sb_,sb_,trivial⟩ (Mem.Less.refl _) (⟨by dsimp only;omega,by dsimp only;omega,by dsimp only;omega,by dsimp only;omega,R1,rfl⟩) ?_;rintro ⟨I2,J2,Q⟩ ⟨m1,m2,m4,m5,R2,m3⟩;(try dsimp only at *);have z2:=R2.size;refine r2_ ?_;refine AWP.join (X:=Nat) (λx=>[(0,.slice (some ⟨b,0,none⟩) n cap),(1,.int .i64 a),(10,.int .i64 x),(11,.int .i64 J2)]) (λ_=>S.set b ⟨27,(Q).toList.map encU,room⟩) (λx=>a+1<=x/\x<=J+1/\x=scanUp (λx=>ltN x Q[a]!) Q (J2) I2) ?_ ?_
  ·refine s1_ ?_;refine AWP.loop (X:=Nat) (λx=>[(0,.slice (some ⟨b,0,none⟩) n cap),(1,.int .i64 a),(10,.int .i64 x),(11,.int .i64 J2)]) (λ_=>S.set b ⟨27,(Q).toList.map encU,room⟩) (λx=>a+1<=x/\x<=J+1/\scanUp (λx=>ltN x Q[a]!) Q (J2) x=scanUp (λx=>ltN x Q[a]!) Q (J2) I2) (λx=>J+1-x) (I2) ⟨sb_,sb_,sb_,sb_,trivial⟩ (Mem.Less.refl _) (⟨by omega,by omega,rfl⟩) ?_;rintro i ⟨q1,q2,Y⟩;(try dsimp only at *);by_cases U:i<=J2
   ·refine r2_ ?_;refine dr_ [i0_,i1_,i2_,i3_,i4_,i5_,i6_,i7_,i8_,i9_,i10_,i11_,o12_,i13_] [] ?_;refine r7_ ?_
    first|refine k_d ?_|refine dL (hc:=Calm.load zaf rfl (zak (k:=i) own_ rw_ rw_)) (h:=?_)
    refine r3_ ?_
    first|refine k_d ?_|refine dL (hc:=Calm.load zaf rfl (zak (k:=a) own_ rw_ rw_)) (h:=?_)
    refine zac rfl ?_;refine vv 3 true 102 rfl (zab rfl) rfl (zab rfl) zc_ rfl (za8 _ _ _) ?_;rintro _ _ ⟨rfl,rfl⟩;refine zad ⟨ny_,?_⟩;refine r3_ ?_;refine vp rfl (λW=>?_) (λW=>?_)
    ·refine r10_ ?_;refine ⟨i+1,?_,?_,?_,?_⟩<;>try dsimp only
     ·exact ⟨sb_,sb_,sb_,sb_,trivial⟩
     ·exact Mem.Less.refl _
     ·exact ⟨by omega,by omega,(zuH (p:=(λx=>ltN x Q[a]!)) U (by simp only [W,Bool.not_true,Bool.not_false])).trans Y⟩
     omega
    refine r4_ ?_;refine ⟨i,?_,?_,?_⟩<;>try dsimp only
    ·exact ⟨by omega,by omega,(zuI (p:=(λx=>ltN x Q[a]!)) (by simp only [W,Bool.not_true,Bool.not_false])).trans Y⟩
    ·exact ⟨sb_,sb_,sb_,sb_,trivial⟩
    exact Mem.Less.refl _
   refine r2_ ?_;refine dr_ [i0_,i1_,i2_,i3_,i4_,i5_,i6_,i7_,i8_,i9_,i10_,i11_,o12_,i13_] [] ?_;refine r7_ ?_
   first|refine k_d ?_|refine dL (hc:=Calm.load zaf rfl (zak (k:=i) own_ rw_ rw_)) (h:=?_)
   refine r3_ ?_
   first|refine k_d ?_|refine dL (hc:=Calm.load zaf rfl (zak (k:=a) own_ rw_ rw_)) (h:=?_)
   refine zac rfl ?_;refine s1_ ?_;refine zad ⟨ny_,?_⟩;refine r3_ ?_;refine kw_ [0,1,10,11,112] ?_;refine cF_ ?_;refine r4_ ?_;refine ⟨i,?_,?_,?_⟩<;>try dsimp only
   ·exact ⟨by omega,by omega,(zpI (p:=(λx=>ltN x Q[a]!)) U).trans Y⟩
   ·exact ⟨sb_,sb_,sb_,sb_,trivial⟩
   exact Mem.Less.refl _
  rintro A ⟨b1,b2,hU⟩;intro _ _ I H;(try dsimp only at *);refine zau ?_;refine AWP.sub _ I (AWP.less _ H ?_);clear I H;refine s1_ ?_;refine AWP.join (X:=Nat) (λx=>[(0,.slice (some ⟨b,0,none⟩) n cap),(1,.int .i64 a),(10,.int .i64 A),(11,.int .i64 x)]) (λ_=>S.set b ⟨27,(Q).toList.map encU,room⟩) (λx=>a<=x/\x<=J/\x=scanDown (λx=>!ltN x Q[a]!) Q A J2) ?_ ?_
  ·refine s1_ ?_;refine AWP.loop (X:=Nat) (λx=>[(0,.slice (some ⟨b,0,none⟩) n cap),(1,.int .i64 a),(10,.int .i64 A),(11,.int .i64 x)]) (λ_=>S.set b ⟨27,(Q).toList.map encU,room⟩) (λx=>a<=x/\x<=J/\scanDown (λx=>!ltN x Q[a]!) Q A x=scanDown (λx=>!ltN x Q[a]!) Q A J2) (λx=>x) (J2) ⟨sb_,sb_,sb_,sb_,trivial⟩ (Mem.Less.refl _) (⟨by omega,by omega,rfl⟩) ?_;rintro j ⟨q1,q2,Y⟩;(try dsimp only at *);by_cases U:A<=j
   ·obtain ⟨j,rfl⟩ : ∃ q,j=q+1:=⟨j-1,by omega⟩;refine r2_ ?_;refine dr_ [i0_,i1_,i2_,i3_,i4_,i5_,i6_,i7_,i8_,i9_,i10_,i11_,o12_,i13_,i14_] [] ?_;refine r7_ ?_
    first|refine k_d ?_|refine dL (hc:=Calm.load zaf rfl (zak (k:=j+1) own_ rw_ rw_)) (h:=?_)
    refine r3_ ?_
    first|refine k_d ?_|refine dL (hc:=Calm.load zaf rfl (zak (k:=a) own_ rw_ rw_)) (h:=?_)
    refine zac rfl ?_;refine vv 3 true 118 rfl (zab rfl) rfl (zab rfl) zc_ rfl (za8 _ _ _) ?_;rintro _ _ ⟨rfl,rfl⟩;refine zad ⟨ny_,?_⟩;refine r4_ ?_;refine vp rfl (λW=>?_) (λW=>?_)
    ·have W:=nt_ W;refine r10_ ?_;refine ⟨j,?_,?_,?_,?_⟩<;>try dsimp only
     ·exact ⟨sb_,sb_,sb_,sb_,trivial⟩
     ·exact Mem.Less.refl _
     ·exact ⟨by omega,by omega,(zkq (p:=(λx=>!ltN x Q[a]!)) U (by simp only [W,Bool.not_true,Bool.not_false])).trans Y⟩
     omega
    have W:=nf_ W;refine r4_ ?_;refine ⟨(j+1),?_,?_,?_⟩<;>try dsimp only
    ·exact ⟨by omega,by omega,(zkr (p:=(λx=>!ltN x Q[a]!)) vd (by simp only [W,Bool.not_true,Bool.not_false])).trans Y⟩
    ·exact ⟨sb_,sb_,sb_,sb_,trivial⟩
    exact Mem.Less.refl _
   refine r2_ ?_;refine dr_ [i0_,i1_,i2_,i3_,i4_,i5_,i6_,i7_,i8_,i9_,i10_,i11_,o12_,i13_,i14_] [] ?_;refine r7_ ?_
   first|refine k_d ?_|refine dL (hc:=Calm.load zaf rfl (zak (k:=j+1) own_ rw_ rw_)) (h:=?_)
   refine r3_ ?_
   first|refine k_d ?_|refine dL (hc:=Calm.load zaf rfl (zak (k:=a) own_ rw_ rw_)) (h:=?_)
   refine zac rfl ?_;refine s1_ ?_;refine zad ⟨ny_,?_⟩;refine r4_ ?_;refine cF_ ?_;refine r4_ ?_;refine ⟨j,?_,?_,?_⟩<;>try dsimp only
   ·exact ⟨by omega,by omega,(zh5 (p:=(λx=>!ltN x Q[a]!)) U).trans Y⟩
   ·exact ⟨sb_,sb_,sb_,sb_,trivial⟩
   exact Mem.Less.refl _
  rintro V ⟨b3,b4,hD⟩;intro _ _ I H;(try dsimp only at *);refine zau ?_;refine AWP.sub _ I (AWP.less _ H ?_);clear I H;by_cases hx:V<A
  ·refine r8_ ?_;refine cT_ ?_;refine r5_ ?_;refine ⟨(V,Q),?_,?_,?_⟩<;>try dsimp only
   ·exact ⟨by omega,by omega,R2,(zpJ ltN hU hD hx).trans m3⟩
   ·exact ⟨sb_,sb_,sb_,trivial⟩
   exact Mem.Less.refl _
  refine r8_ ?_;refine cF_ ?_;refine r3_ ?_;refine dr_ [i0_,i1_,i2_,i3_,i4_,i5_,i6_,i7_,i8_,i9_,i10_,i11_,i12_,o13_,i14_,o15_] [13,15] ?_;refine r7_ ?_;refine dC (hc:=Calm.load zaf rfl (zak (k:=V) own_ rw_ rw_)) (h:=?_);refine r3_ ?_;refine dC (hc:=Calm.load zaf rfl (zak (k:=A) own_ rw_ rw_)) (h:=?_);refine s1_ ?_;refine zac rfl ?_;refine vm encU (A) rfl rfl zai ⟨rfl,rfl⟩ own_ rw_ rw_ ?_
  try simp only [k_ms,k_sz,k_ss,k_za,Nat.reduceAdd]
  refine zad ⟨nz_,?_⟩;refine s1_ ?_;refine zac rfl ?_;refine vm encU (V) rfl rfl zai ⟨rfl,rfl⟩ own_ rw_ rw_ ?_
  try simp only [k_ms,k_sz,k_ss,k_za,Nat.reduceAdd]
  refine zad ⟨nz_,?_⟩;refine r2_ ?_;refine kw_ [0,1,10,11,134] ?_;refine r14_ ?_;refine ⟨(A+1,V-1,swp Q A V),?_,?_,?_,?_⟩<;>try dsimp only
  ·exact ⟨sb_,sb_,sb_,sb_,trivial⟩
  ·exact Mem.Less.refl _
  ·exact ⟨by omega,by omega,by omega,by omega,R2.swp _ _ vd vd,(zuJ ltN hU hD hx).trans m3⟩
  (have:I2<=A:=by rw [hU];exact Go.Sort.scanUp_ge _ _ _ _);omega
 rintro ⟨j3,d3⟩ ⟨t1,t2,R3,t3⟩;intro _ _ I H;(try dsimp only at *);refine zau ?_;refine AWP.sub _ I (AWP.less _ H ?_);clear I H;have z3:=R3.size;refine s1_ ?_;refine dr_ [i0_,i1_,i2_,i3_,i4_,i5_,i6_,i7_,i8_,i9_,i10_,i11_,i12_,o13_,i14_,o15_] [13,15] ?_;refine r7_ ?_;refine dC (hc:=Calm.load zaf rfl (zak (k:=a) own_ rw_ rw_)) (h:=?_);refine r3_ ?_;refine dC (hc:=Calm.load zaf rfl (zak (k:=j3) own_ rw_ rw_)) (h:=?_);refine s1_ ?_;refine zac rfl ?_;refine vm encU (j3) rfl rfl zai ⟨rfl,rfl⟩ own_ rw_ rw_ ?_
 try simp only [k_ms,k_sz,k_ss,k_za,Nat.reduceAdd]
 refine zad ⟨nz_,?_⟩;refine s1_ ?_;refine zac rfl ?_;refine vm encU (a) rfl rfl zai ⟨rfl,rfl⟩ own_ rw_ rw_ ?_
 try simp only [k_ms,k_sz,k_ss,k_za,Nat.reduceAdd]
 refine zad ⟨nz_,?_⟩;refine r10_ ?_;refine ⟨_,_,⟨_,_,rfl,⟨_,_,rfl,rfl,rfl⟩,rfl⟩,Mem.Less.refl _,?_⟩;exact zpM ltN aa hU hD hx t3 (R3.swp _ _ vd vd) vd vd
theorem zmP {S:Mem} (b room n cap:Nat) (hb:Fresh S b) (hn:n<=1048576) (d:Array Nat) (R:Rw (λ_=>True) n d) (ia ie ip:Int) (a e p:Nat) (ha:ia=a) (he:ie=e) (af:ip=p) (ax:a<=p) (ay:p<e) (aw:e<=n) :
  ACall prog 202 #[.slice (some ⟨b,0,none⟩) n cap,.int .i64 ia,.int .i64 ie,.int .i64 ip] (S.set b ⟨27,(d).toList.map encU,room⟩) λr S'=>PartEqR Nat (λx:Array Nat=>S.set b ⟨27,(x).toList.map encU,room⟩) (λ_=>True) n (partitionEqual ltN d a e p) a e r S':=by
 subst ha he af;obtain ⟨J,rfl⟩ : ∃ J,e=J+1:=⟨e-1,by omega⟩;have R0:=R.swp a p vd vd;have z:=R.size;obtain ⟨d0,Y⟩ : ∃ d0,d0=swp d a p:=⟨_,rfl⟩;rw [<- Y] at R0;have z0:=R0.size;refine k_E4 84 func202 ?_;refine r6_ ?_;refine dr_ [i0_,i1_,i2_,i3_,i4_,i5_,i6_,i7_,i8_,i9_,i10_,i11_,i12_,o13_,i14_,o15_] [13,15] ?_;refine r7_ ?_;refine dC (hc:=Calm.load zaf rfl (zak (k:=p) own_ rw_ rw_)) (h:=?_);refine r3_ ?_;refine dC (hc:=Calm.load zaf rfl (zak (k:=a) own_ rw_ rw_)) (h:=?_);refine s1_ ?_;refine zac rfl ?_;refine vm encU (a) rfl rfl zai ⟨rfl,rfl⟩ own_ rw_ rw_ ?_
 try simp only [k_ms,k_sz,k_ss,k_za,Nat.reduceAdd]
 refine zad ⟨nz_,?_⟩;refine s1_ ?_;refine zac rfl ?_;refine vm encU (p) rfl rfl zai ⟨rfl,rfl⟩ own_ rw_ rw_ ?_
 try simp only [k_ms,k_sz,k_ss,k_za,Nat.reduceAdd]
 refine zad ⟨nz_,?_⟩;refine r2_ ?_;refine AWP.less (S.set b ⟨27,(d0).toList.map encU,room⟩) (by rw [Y];exact Mem.Less.refl _) ?_;refine r12_ ?_;refine AWP.loop (X:=Nat × Nat × Array Nat) (λx=>[(0,.slice (some ⟨b,0,none⟩) n cap),(1,.int .i64 a),(9,.int .i64 x.1),(10,.int .i64 x.2.1)]) (λx=>S.set b ⟨27,(x.2.2).toList.map encU,room⟩) (λx=>a+1<=x.1/\x.1<=J+1/\a<=x.2.1/\x.2.1<=J/\Rw (λ_=>True) n x.2.2/\partEqLoop ltN a x.1 x.2.1 x.2.2=partEqLoop ltN a (a+1) J d0) (λx=>J+1-x.1) ((a+1,J,d0)) ⟨sb_,sb_,sb_,sb_,trivial⟩ (Mem.Less.refl _) (⟨by dsimp only;omega,by dsimp only;omega,by dsimp only;omega,by dsimp only;omega,R0,rfl⟩) ?_;rintro ⟨I2,V,A⟩ ⟨m1,m2,m4,m5,R2,m3⟩;(try dsimp only at *);have z2:=R2.size;refine r2_ ?_;refine AWP.join (X:=Nat) (λx=>[(0,.slice (some ⟨b,0,none⟩) n cap),(1,.int .i64 a),(9,.int .i64 x),(10,.int .i64 V)]) (λ_=>S.set b ⟨27,(A).toList.map encU,room⟩) (λx=>a+1<=x/\x<=J+1/\x=scanUp (λx=>!ltN A[a]! x) A (V) I2) ?_ ?_
 ·refine s1_ ?_;refine AWP.loop (X:=Nat) (λx=>[(0,.slice (some ⟨b,0,none⟩) n cap),(1,.int .i64 a),(9,.int .i64 x),(10,.int .i64 V)]) (λ_=>S.set b ⟨27,(A).toList.map encU,room⟩) (λx=>a+1<=x/\x<=J+1/\scanUp (λx=>!ltN A[a]! x) A (V) x=scanUp (λx=>!ltN A[a]! x) A (V) I2) (λx=>J+1-x) (I2) ⟨sb_,sb_,sb_,sb_,trivial⟩ (Mem.Less.refl _) (⟨by omega,by omega,rfl⟩) ?_;rintro i ⟨q1,q2,W⟩;(try dsimp only at *);by_cases H:i<=V
  ·refine r2_ ?_;refine dr_ [i0_,i1_,i2_,i3_,i4_,i5_,i6_,i7_,i8_,i9_,i10_,i11_,o12_,i13_,i14_] [] ?_;refine r7_ ?_
   first|refine k_d ?_|refine dL (hc:=Calm.load zaf rfl (zak (k:=a) own_ rw_ rw_)) (h:=?_)
   refine r3_ ?_
   first|refine k_d ?_|refine dL (hc:=Calm.load zaf rfl (zak (k:=i) own_ rw_ rw_)) (h:=?_)
   refine zac rfl ?_;refine vv 3 true 32 rfl (zab rfl) rfl (zab rfl) zc_ rfl (za8 _ _ _) ?_;rintro _ _ ⟨rfl,rfl⟩;refine zad ⟨ny_,?_⟩;refine r4_ ?_;refine vp rfl (λU=>?_) (λU=>?_)
   ·have U:=nt_ U;refine r10_ ?_;refine ⟨i+1,?_,?_,?_,?_⟩<;>try dsimp only
    ·exact ⟨sb_,sb_,sb_,sb_,trivial⟩
    ·exact Mem.Less.refl _
    ·exact ⟨by omega,by omega,(zuH (p:=(λx=>!ltN A[a]! x)) H (by simp only [U,Bool.not_true,Bool.not_false])).trans W⟩
    omega
   have U:=nf_ U;refine r4_ ?_;refine ⟨i,?_,?_,?_⟩<;>try dsimp only
   ·exact ⟨by omega,by omega,(zuI (p:=(λx=>!ltN A[a]! x)) (by simp only [U,Bool.not_true,Bool.not_false])).trans W⟩
   ·exact ⟨sb_,sb_,sb_,sb_,trivial⟩
   exact Mem.Less.refl _
  refine r2_ ?_;refine dr_ [i0_,i1_,i2_,i3_,i4_,i5_,i6_,i7_,i8_,i9_,i10_,i11_,o12_,i13_,i14_] [] ?_;refine r7_ ?_
  first|refine k_d ?_|refine dL (hc:=Calm.load zaf rfl (zak (k:=a) own_ rw_ rw_)) (h:=?_)
  refine r3_ ?_
  first|refine k_d ?_|refine dL (hc:=Calm.load zaf rfl (zak (k:=i) own_ rw_ rw_)) (h:=?_)
  refine zac rfl ?_;refine s1_ ?_;refine zad ⟨ny_,?_⟩;refine r4_ ?_;refine cF_ ?_;refine r4_ ?_;refine ⟨i,?_,?_,?_⟩<;>try dsimp only
  ·exact ⟨by omega,by omega,(zpI (p:=(λx=>!ltN A[a]! x)) H).trans W⟩
  ·exact ⟨sb_,sb_,sb_,sb_,trivial⟩
  exact Mem.Less.refl _
 rintro C ⟨b1,b2,hU⟩;intro _ _ Q I;(try dsimp only at *);refine zau ?_;refine AWP.sub _ Q (AWP.less _ I ?_);clear Q I;refine s1_ ?_;refine AWP.join (X:=Nat) (λx=>[(0,.slice (some ⟨b,0,none⟩) n cap),(1,.int .i64 a),(9,.int .i64 C),(10,.int .i64 x)]) (λ_=>S.set b ⟨27,(A).toList.map encU,room⟩) (λx=>a<=x/\x<=J/\x=scanDown (λx=>ltN A[a]! x) A C V) ?_ ?_
 ·refine s1_ ?_;refine AWP.loop (X:=Nat) (λx=>[(0,.slice (some ⟨b,0,none⟩) n cap),(1,.int .i64 a),(9,.int .i64 C),(10,.int .i64 x)]) (λ_=>S.set b ⟨27,(A).toList.map encU,room⟩) (λx=>a<=x/\x<=J/\scanDown (λx=>ltN A[a]! x) A C x=scanDown (λx=>ltN A[a]! x) A C V) (λx=>x) (V) ⟨sb_,sb_,sb_,sb_,trivial⟩ (Mem.Less.refl _) (⟨by omega,by omega,rfl⟩) ?_;rintro j ⟨q1,q2,W⟩;(try dsimp only at *);by_cases H:C<=j
  ·obtain ⟨j,rfl⟩ : ∃ q,j=q+1:=⟨j-1,by omega⟩;refine r2_ ?_;refine dr_ [i0_,i1_,i2_,i3_,i4_,i5_,i6_,i7_,i8_,i9_,i10_,i11_,o12_,i13_] [] ?_;refine r7_ ?_
   first|refine k_d ?_|refine dL (hc:=Calm.load zaf rfl (zak (k:=a) own_ rw_ rw_)) (h:=?_)
   refine r3_ ?_
   first|refine k_d ?_|refine dL (hc:=Calm.load zaf rfl (zak (k:=j+1) own_ rw_ rw_)) (h:=?_)
   refine zac rfl ?_;refine vv 3 true 49 rfl (zab rfl) rfl (zab rfl) zc_ rfl (za8 _ _ _) ?_;rintro _ _ ⟨rfl,rfl⟩;refine zad ⟨ny_,?_⟩;refine r3_ ?_;refine kw_ [0,1,9,10,59] ?_;refine vp rfl (λU=>?_) (λU=>?_)
   ·refine r10_ ?_;refine ⟨j,?_,?_,?_,?_⟩<;>try dsimp only
    ·exact ⟨sb_,sb_,sb_,sb_,trivial⟩
    ·exact Mem.Less.refl _
    ·exact ⟨by omega,by omega,(zkq (p:=(λx=>ltN A[a]! x)) H (by simp only [U,Bool.not_true,Bool.not_false])).trans W⟩
    omega
   refine r4_ ?_;refine ⟨(j+1),?_,?_,?_⟩<;>try dsimp only
   ·exact ⟨by omega,by omega,(zkr (p:=(λx=>ltN A[a]! x)) vd (by simp only [U,Bool.not_true,Bool.not_false])).trans W⟩
   ·exact ⟨sb_,sb_,sb_,sb_,trivial⟩
   exact Mem.Less.refl _
  refine r2_ ?_;refine dr_ [i0_,i1_,i2_,i3_,i4_,i5_,i6_,i7_,i8_,i9_,i10_,i11_,o12_,i13_] [] ?_;refine r7_ ?_
  first|refine k_d ?_|refine dL (hc:=Calm.load zaf rfl (zak (k:=a) own_ rw_ rw_)) (h:=?_)
  refine r3_ ?_
  first|refine k_d ?_|refine dL (hc:=Calm.load zaf rfl (zak (k:=j+1) own_ rw_ rw_)) (h:=?_)
  refine zac rfl ?_;refine s1_ ?_;refine zad ⟨ny_,?_⟩;refine r3_ ?_;refine cF_ ?_;refine r4_ ?_;refine ⟨j,?_,?_,?_⟩<;>try dsimp only
  ·exact ⟨by omega,by omega,(zh5 (p:=(λx=>ltN A[a]! x)) H).trans W⟩
  ·exact ⟨sb_,sb_,sb_,sb_,trivial⟩
  exact Mem.Less.refl _
 rintro j2 ⟨b3,b4,hD⟩;intro _ _ Q I;(try dsimp only at *);refine zau ?_;refine AWP.sub _ Q (AWP.less _ I ?_);clear Q I;by_cases hx:j2<C
 ·refine r8_ ?_;refine cT_ ?_;refine r13_ ?_;refine ⟨_,_,⟨_,_,rfl,rfl,rfl⟩,Mem.Less.refl _,?_⟩;exact zmI ltN Y ((zks ltN hU hD hx).trans m3) R2 vd vd
 refine r8_ ?_;refine cF_ ?_;refine r3_ ?_;refine dr_ [i0_,i1_,i2_,i3_,i4_,i5_,i6_,i7_,i8_,i9_,i10_,i11_,i12_,o13_,i14_,o15_] [13,15] ?_;refine r7_ ?_;refine dC (hc:=Calm.load zaf rfl (zak (k:=j2) own_ rw_ rw_)) (h:=?_);refine r3_ ?_;refine dC (hc:=Calm.load zaf rfl (zak (k:=C) own_ rw_ rw_)) (h:=?_);refine s1_ ?_;refine zac rfl ?_;refine vm encU (C) rfl rfl zai ⟨rfl,rfl⟩ own_ rw_ rw_ ?_
 try simp only [k_ms,k_sz,k_ss,k_za,Nat.reduceAdd]
 refine zad ⟨nz_,?_⟩;refine s1_ ?_;refine zac rfl ?_;refine vm encU (j2) rfl rfl zai ⟨rfl,rfl⟩ own_ rw_ rw_ ?_
 try simp only [k_ms,k_sz,k_ss,k_za,Nat.reduceAdd]
 refine zad ⟨nz_,?_⟩;refine r2_ ?_;refine kw_ [0,1,9,10,64] ?_;refine r14_ ?_;refine ⟨(C+1,j2-1,swp A C j2),?_,?_,?_,?_⟩<;>try dsimp only
 ·exact ⟨sb_,sb_,sb_,sb_,trivial⟩
 ·exact Mem.Less.refl _
 ·exact ⟨by omega,by omega,by omega,by omega,R2.swp _ _ vd vd,(zpK ltN hU hD hx).trans m3⟩
 (have:I2<=C:=by rw [hU];exact Go.Sort.scanUp_ge _ _ _ _);omega
end
section
open Go.RowKit
open Mv
namespace Srt
open Go.Sort (swp order2 median medianAdjacent choosePivot breakStep breakPatterns scanSorted shiftDown shiftUp partialIns partialInsertionSort bitsLen xorNext Hint)
theorem zlD (S:Mem) {b c:Nat} (r r' x:Blk) (h:b≠c):((S.set b r).set c x).set b r'=(S.set b r').set c x:=by
 rw [vC _ _ _ (Ne.symm h),Mem.set_set]
def hintI:Hint->Int
  | .unknown=>0
  | .increasing=>1
  | .decreasing=>2
section
variable {α : Type} [Inhabited α] (lt : α -> α->Bool)
theorem zky {d:Array α} {a e k n x y k':Nat} (h:(x,y,k')=order2 lt d a e k) (A:a<n) (C:e<n):x<n/\y<n/\k'<=k+1:=by
 unfold order2 at h;split at h <;> (simp only [Prod.mk.injEq] at h;omega)
theorem zgj {d:Array α} {a e o k p k' lo hi:Nat} (h:(p,k')=median lt d a e o k) (J:lo<=a/\a<hi) (Q:lo<=e/\e<hi) (I:lo<=o/\o<hi):(lo<=p/\p<hi)/\k'<=k+3:=by
 have C:=Go.Sort.median_mem lt d a e o k;rw [<- h] at C;have H:k'<=k+3:=by
  unfold median at h;simp only [Prod.mk.injEq] at h;rw [h.2];have A:∀ x y z,(order2 lt d x y z).2.2<=z+1:=λx y z=>by unfold order2;split <;> simp
  have:=A (order2 lt d a e k).1 (order2 lt d (order2 lt d a e k).2.1 o (order2 lt d a e k).2.2).1 (order2 lt d (order2 lt d a e k).2.1 o (order2 lt d a e k).2.2).2.2;have:=A (order2 lt d a e k).2.1 o (order2 lt d a e k).2.2;have:=A a e k;omega
 refine ⟨?_,H⟩;simp only at C;omega
theorem zgk {d:Array α} {a k p k' lo hi:Nat} (h:(p,k')=medianAdjacent lt d a k) (A:lo<a) (C:a+1<hi):(lo<=p/\p<hi)/\k'<=k+3 :=
 zgj lt (h.trans rfl) vd vd vd
end
theorem zlE {k:Nat} (A : ¬ k=0) (C : ¬ k=12):(if k=0 then Hint.increasing else if k=12 then Hint.decreasing else Hint.unknown) = .unknown:=by rw [if_neg A,if_neg C]
theorem zuU {i j h:Int} (e:i=j):Mv.one [.int .i64 i,.int .i64 h] = .tuple #[.int .i64 j,.int .i64 h]:=by rw [e];rfl
theorem zuV (a b:Nat) (C:a<18446744073709551616) (A:b<18446744073709551616):bits .and .u64 (a:Int) (b:Int)=((a &&& b:Nat):Int):=by
 have h:a &&& b<2 ^ 64:=Nat.and_lt_two_pow _ vd;show IntKind.u64.wrap (((BitVec.ofInt 64 (a:Int)) &&& (BitVec.ofInt 64 (b:Int))).toNat:Int)=_;rw [BitVec.ofInt_natCast,BitVec.ofInt_natCast,BitVec.toNat_and,BitVec.toNat_ofNat,BitVec.toNat_ofNat,Nat.mod_eq_of_lt vd,Nat.mod_eq_of_lt vd];exact IntWalk.u64_in _ vd
theorem zuW (m:Nat) (A:1<=m) (C:m<18446744073709551616):IntKind.u64.wrap ((m:Int)-1)=((m-1:Nat):Int):=by
 rw [show ((m:Int)-1)=((m-1:Nat):Int) by omega];exact IntWalk.u64_in _ vd
section
variable {α : Type} [Inhabited α]
def bpR (a L mo ba:Nat):Nat->UInt64 × Array α->UInt64 × Array α
  | 0,st=>st
  | k+1,st=>bpR a L mo ba k (breakStep a L mo st (ba+(2-k)))
theorem zlF (a L A C k:Nat) (r:UInt64) (d:Array α):bpR a L A C (k+1) (r,d)=bpR a L A C k (xorNext r,swp d (C+(2-k)) (a+(if L<=(xorNext r).toNat &&& (A-1) then ((xorNext r).toNat &&& (A-1))-L else (xorNext r).toNat &&& (A-1)))):=rfl
theorem zxh {d:Array α} {a L:Nat} (A:8<=L):breakPatterns d a (a+L)=(bpR a L (1 <<< bitsLen L) (a+L / 4*2-1) 3 (UInt64.ofNat L,d)).2:=by
 unfold breakPatterns;simp only [Nat.add_sub_cancel_left];rw [if_pos A];rfl
end
theorem zwJ (L:Nat) (A:0<L) (h:L<=1048576):1<=1 <<< bitsLen L/\1 <<< bitsLen L<=2*L:=by
 rw [Nat.one_shiftLeft];exact ⟨Nat.one_le_two_pow,Go.Sort.two_pow_bitsLen_le A⟩
section
variable {α : Type} [Inhabited α] (lt : α -> α->Bool)
theorem zpU {okP : α->Prop} {n a e s i:Nat} {d A:Array α} {M:Array α->Mem} {r:tu} {S':Mem} (C:partialIns lt a e (s+1) i A=partialInsertionSort lt d a e)
  (h:(scanSorted lt A e i=e/\r = .bool true/\S'=M A)\/(¬ scanSorted lt A e i=e/\e-a<50/\r = .bool false/\S'=M A)) (R:Rw okP n A) :
  r = .bool (partialInsertionSort lt d a e).2/\S'=M (partialInsertionSort lt d a e).1/\Rw okP n (partialInsertionSort lt d a e).1:=by
 rw [<- C];unfold partialIns;rcases h with ⟨h,rfl,rfl⟩ | ⟨h,H,rfl,rfl⟩
 ·simp only [if_pos h];exact ⟨trivial,trivial,R⟩
 simp only [if_neg h,if_pos H];exact ⟨trivial,trivial,R⟩
theorem zuX {a e s i w:Nat} {A V C W:Array α} (X:w+1=scanSorted lt A e i) (H : ¬ w+1=e) (U : ¬ e-a<50) (Q:V=swp A (w+1) w) (I:C=if w+1-a >= 2 then shiftDown lt w V else V)
  (J:W=if e-(w+1) >= 2 then shiftUp lt e (w+1+1) C else C):partialIns lt a e s (w+1) W=partialIns lt a e (s+1) i A:=by
 rw [partialIns.eq_def lt a e (s+1) i A];simp only [<- X,if_neg H,if_neg U,Nat.add_sub_cancel,<- Q,<- I,<- J]
end
/-! ### The recursion, stage by stage -/
section
open Go.Sort (pdq insertionSort heapSort reverseRange partition partitionEqual)
variable {α : Type} [Inhabited α] (lt : α -> α->Bool)
def pdq3 (d3:Array α) (a b l:Nat) (w1 w2:Bool) (pv:Nat):Array α :=
  if (decide (a > 0) && !lt d3[a-1]! d3[pv]!)=true then
    (if a<(partitionEqual lt d3 a b pv).1/\(partitionEqual lt d3 a b pv).1<=b then pdq lt (partitionEqual lt d3 a b pv).2 (partitionEqual lt d3 a b pv).1 b l w1 w2 else (partitionEqual lt d3 a b pv).2)
  else
    (if a<=(partition lt d3 a b pv).1/\(partition lt d3 a b pv).1<b then
      (if (partition lt d3 a b pv).1-a<b-(partition lt d3 a b pv).1 then
        pdq lt (pdq lt (partition lt d3 a b pv).2.2 a (partition lt d3 a b pv).1 l true true) ((partition lt d3 a b pv).1+1) b l (decide ((partition lt d3 a b pv).1-a >= (b-a) / 8)) (partition lt d3 a b pv).2.1
      else
        pdq lt (pdq lt (partition lt d3 a b pv).2.2 ((partition lt d3 a b pv).1+1) b l true true) a (partition lt d3 a b pv).1 l (decide (b-(partition lt d3 a b pv).1 >= (b-a) / 8)) (partition lt d3 a b pv).2.1)
    else (partition lt d3 a b pv).2.2)
def pdq2 (d2:Array α) (a b l:Nat) (w1 w2:Bool) (pv:Nat) (hi:Hint):Array α :=
  if (w1 && w2 && decide (hi = .increasing))=true then (if (partialInsertionSort lt d2 a b).2=true then (partialInsertionSort lt d2 a b).1 else pdq3 lt (partialInsertionSort lt d2 a b).1 a b l w1 w2 pv)
  else pdq3 lt d2 a b l w1 w2 pv
def pdq1 (d1:Array α) (a b l:Nat) (w1 w2:Bool):Array α :=
  if (choosePivot lt d1 a b).2 = .decreasing then pdq2 lt (reverseRange d1 a b) a b l w1 w2 (b-1-((choosePivot lt d1 a b).1-a)) .increasing
  else pdq2 lt d1 a b l w1 w2 (choosePivot lt d1 a b).1 (choosePivot lt d1 a b).2
theorem zuY {d:Array α} {a b l:Nat} {A w2:Bool} (h:b-a<=12):pdq lt d a b l A w2=insertionSort lt d a b:=by rw [pdq,if_pos h]
theorem zsh {d:Array α} {a b l:Nat} {C w2:Bool} (h : ¬ b-a<=12) (A:l=0):pdq lt d a b l C w2=heapSort lt d a b:=by rw [pdq,if_neg h,if_pos A]
theorem zxi {d:Array α} {a b l:Nat} {A w2:Bool} (h : ¬ b-a<=12) (U : ¬ l=0):pdq lt d a b l A w2=pdq1 lt (if !A then breakPatterns d a b else d) a b (if !A then l-1 else l) A w2:=by
 rw [pdq,if_neg h,if_neg U];dsimp only;unfold pdq1 pdq2 pdq3;generalize (if (!A)=true then breakPatterns d a b else d)=C;generalize (if (!A)=true then l-1 else l)=l2;generalize choosePivot lt C a b=c;obtain ⟨p0,I⟩:=c;dsimp only;by_cases hd:I = .decreasing
 ·subst hd;simp only [if_true];generalize partialInsertionSort lt (reverseRange C a b) a b=q;obtain ⟨Q,H⟩:=q;cases A <;> cases w2 <;> cases H <;> simp
 simp only [if_neg hd];by_cases J:(A && w2 && decide (I=Hint.increasing))=true
 ·simp only [if_pos J];generalize partialInsertionSort lt C a b=q;obtain ⟨Q,H⟩:=q;cases H <;> simp
 simp only [if_neg J];simp
end
theorem zuZ {h:Hint} (hd : ¬ h = .decreasing):hintI h<2/\0<=hintI h:=by cases h <;> simp_all [hintI]
theorem zwK (h:Hint):decide (hintI h=1)=decide (h = .increasing):=by cases h <;> rfl
theorem wbv_ {p q:Prop} [Decidable p] [Decidable q] (h:p <-> q):some (Value.bool (decide p))=some (Value.bool (decide q)):=by
 congr 2;rw [decide_eq_decide];exact h
end Srt
end
section
open Go.RowKit
open Mv Srt
open Go.Sort (swp insInner insOuter insertionSort siftDown heapBuild heapPop heapSort scanUp scanDown partLoop partition partEqLoop partitionEqual scanSorted shiftDown shiftUp partialIns partialInsertionSort order2 median medianAdjacent choosePivot reverseLoop reverseRange breakStep breakPatterns pdq bitsLen xorNext Hint)
theorem zu0 {S:Mem} (b room n cap:Nat) (hb:Fresh S b) (hn:n<=1048576) (d:Array Nat) (R:Rw (λ_=>True) n d) (J I:Int) (a e:Nat) (U:J=a) (V:I=e) (W:a<e) (Y:e<=n) :
  ACall prog 200 #[.slice (some ⟨b,0,none⟩) n cap,.int .i64 J,.int .i64 I] (S.set b ⟨27,(d).toList.map encU,room⟩) λr S'=>S'=S.set b ⟨27,(reverseRange d a e).toList.map encU,room⟩/\Rw (λ_=>True) n (reverseRange d a e):=by
 subst U V;refine k_E3 32 func200 ?_;refine r14_ ?_;refine AWP.loop (X:=Nat × Nat × Array Nat) (λx=>[(0,.slice (some ⟨b,0,none⟩) n cap),(6,.int .i64 x.1),(7,.int .i64 x.2.1)]) (λx=>S.set b ⟨27,(x.2.2).toList.map encU,room⟩) (λx=>x.1<=n/\x.2.1<e/\Rw (λ_=>True) n x.2.2/\reverseLoop x.1 x.2.1 x.2.2=reverseRange d a e) (λx=>x.2.1) ((a,e-1,d)) ⟨sb_,sb_,sb_,trivial⟩ (Mem.Less.refl _) (⟨by dsimp only;omega,by dsimp only;omega,R,rfl⟩) ?_;rintro ⟨i,j,Q⟩ ⟨h1,h2,C,H⟩;(try dsimp only at *);have z1:=C.size;by_cases A:i<j
 ·refine r8_ ?_;refine cT_ ?_;refine r4_ ?_;refine dr_ [i0_,i1_,i2_,i3_,i4_,i5_,i6_,i7_,i8_,i9_,i10_,i11_,i12_,o13_,i14_,o15_] [13,15] ?_;refine r7_ ?_;refine dC (hc:=Calm.load zaf rfl (zak (k:=j) own_ rw_ rw_)) (h:=?_);refine r3_ ?_;refine dC (hc:=Calm.load zaf rfl (zak (k:=i) own_ rw_ rw_)) (h:=?_);refine s1_ ?_;refine zac rfl ?_;refine vm encU (i) rfl rfl zai ⟨rfl,rfl⟩ own_ rw_ rw_ ?_
  try simp only [k_ms,k_sz,k_ss,k_za,Nat.reduceAdd]
  refine zad ⟨nz_,?_⟩;refine s1_ ?_;refine zac rfl ?_;refine vm encU (j) rfl rfl zai ⟨rfl,rfl⟩ own_ rw_ rw_ ?_
  try simp only [k_ms,k_sz,k_ss,k_za,Nat.reduceAdd]
  refine zad ⟨nz_,?_⟩;refine r9_ ?_;refine kw_ [0,6,7,13] ?_;refine r7_ ?_;refine ⟨(i+1,j-1,swp Q i j),?_,?_,?_,?_⟩<;>try dsimp only
  ·exact ⟨sb_,sb_,sb_,trivial⟩
  ·exact Mem.Less.refl _
  ·exact ⟨by omega,by omega,C.swp _ _ vd vd,(zwE A).trans H⟩
  omega
 refine r8_ ?_;refine cF_ ?_;refine r4_ ?_;refine ⟨_,_,rfl,Mem.Less.refl _,?_⟩;rw [<- H,<- zuK A];exact ⟨rfl,C⟩
theorem zeW {S:Mem} (b room n cap:Nat) (U:Fresh S b) (V:n<=1048576) (d:Array Nat) (R:Rw (λ_=>True) n d) (c:Nat) (hc:Fresh S c) (Q:c≠b) (H C:Int) (a e k:Nat) (I:H=a) (J:C=e) (W:a<n) (X:e<n) (Y:k<=1000) :
  ACall prog 273 #[.slice (some ⟨b,0,none⟩) n cap,.int .i64 H,.int .i64 C,.pointer (some ⟨c,0,none⟩)] ((S.set b ⟨27,(d).toList.map encU,room⟩).set c ⟨3,[.int .i64 ((k:Nat):Int)],1⟩) λr S'=>r = .tuple #[.int .i64 ((order2 ltN d a e k).1:Nat),.int .i64 ((order2 ltN d a e k).2.1:Nat)]/\S'=(S.set b ⟨27,(d).toList.map encU,room⟩).set c ⟨3,[.int .i64 (((order2 ltN d a e k).2.2:Nat):Int)],1⟩:=by
 subst I J;have z:=R.size;refine k_E4 28 func273 ?_;refine r8_ ?_;refine dr_ [i0_,i1_,i2_,i3_,i4_,i5_,i6_,i7_,o8_] [] ?_;refine r3_ ?_;refine dC (hc:=Calm.load zaf rfl (zak (k:=e) own_ rw_ rw_)) (h:=?_);refine r3_ ?_;refine dC (hc:=Calm.load zaf rfl (zak (k:=a) own_ rw_ rw_)) (h:=?_);refine zac rfl ?_;refine ca_ rfl (za8 _ _ _) ?_;rintro _ _ ⟨rfl,rfl⟩;refine zad ⟨ny_,?_⟩;refine r2_ ?_;refine vp rfl (λA=>?_) (λA=>?_)
 ·have A:ltN d[e]! d[a]! = true:=A;refine r20_ ?_;refine ⟨_,_,⟨_,_,rfl,⟨_,_,rfl,rfl,rfl⟩,rfl⟩,Mem.Less.refl _,?_⟩;exact ⟨by rw [order2,if_pos A];rfl,by rw [order2,if_pos A];rfl⟩
 have A:ltN d[e]! d[a]! = false:=A;refine r11_ ?_;refine ⟨_,_,⟨_,_,rfl,⟨_,_,rfl,rfl,rfl⟩,rfl⟩,Mem.Less.refl _,?_⟩;exact ⟨by rw [order2,if_neg (by intro h;exact Bool.noConfusion (A.symm.trans h))];rfl,by rw [order2,if_neg (by intro h;exact Bool.noConfusion (A.symm.trans h))]⟩
theorem zeX {S:Mem} (b room n cap:Nat) (X:Fresh S b) (W:n<=1048576) (d:Array Nat) (R:Rw (λ_=>True) n d) (c:Nat) (hc:Fresh S c) (A:c≠b) (ia ie io:Int) (a e o k:Nat) (ea:ia=a) (ee:ie=e) (eo:io=o) (ha:a<n) (he:e<n) (ho:o<n) (hk:k<=900) :
  ACall prog 249 #[.slice (some ⟨b,0,none⟩) n cap,.int .i64 ia,.int .i64 ie,.int .i64 io,.pointer (some ⟨c,0,none⟩)] ((S.set b ⟨27,(d).toList.map encU,room⟩).set c ⟨3,[.int .i64 ((k:Nat):Int)],1⟩) λr S'=>r = .int .i64 ((median ltN d a e o k).1:Nat)/\S'=(S.set b ⟨27,(d).toList.map encU,room⟩).set c ⟨3,[.int .i64 (((median ltN d a e o k).2:Nat):Int)],1⟩:=by
 subst ea ee eo;obtain ⟨⟨Q,V,k1⟩,I⟩ : ∃ q,q=order2 ltN d a e k:=⟨_,rfl⟩;obtain ⟨⟨x2,y2,k2⟩,H⟩ : ∃ q,q=order2 ltN d V o k1:=⟨_,rfl⟩;obtain ⟨⟨x3,y3,k3⟩,C⟩ : ∃ q,q=order2 ltN d Q x2 k2:=⟨_,rfl⟩;have J:=zky ltN I ha he;have m2:=zky ltN H J.2.1 ho;have m3:=zky ltN C J.1 m2.1;have U:=zeW b room n cap X W d R c hc A a e a e k rfl rfl ha he vd;have c2:=zeW b room n cap X W d R c hc A V o V o k1 rfl rfl J.2.1 ho vd;have Y:=zeW b room n cap X W d R c hc A Q x2 Q x2 k2 rfl rfl J.1 m2.1 vd;have hm:median ltN d a e o k=(y3,k3):=by
  unfold median;simp only [<- I,<- H,<- C]
 rw [hm];rw [<- I] at U;rw [<- H] at c2;rw [<- C] at Y;dsimp only at U c2 Y ⊢;clear I H C hm;refine k_E5 36 func249 ?_;refine r11_ ?_;refine ca_ rfl (U) ?_;rintro _ _ ⟨rfl,rfl⟩;refine r13_ ?_;refine ca_ rfl (c2) ?_;rintro _ _ ⟨rfl,rfl⟩;refine r13_ ?_;refine ca_ rfl (Y) ?_;rintro _ _ ⟨rfl,rfl⟩;refine r14_ ?_;refine ⟨_,_,⟨_,_,rfl,rfl,rfl⟩,Mem.Less.refl _,?_⟩;exact ⟨rfl,rfl⟩
theorem zeY {S:Mem} (b room n cap:Nat) (H:Fresh S b) (I:n<=1048576) (d:Array Nat) (R:Rw (λ_=>True) n d) (c:Nat) (hc:Fresh S c) (A:c≠b) (C:Int) (a k:Nat) (J:C=a) (V:0<a) (U:a+1<n) (Q:k<=900) :
  ACall prog 248 #[.slice (some ⟨b,0,none⟩) n cap,.int .i64 C,.pointer (some ⟨c,0,none⟩)] ((S.set b ⟨27,(d).toList.map encU,room⟩).set c ⟨3,[.int .i64 ((k:Nat):Int)],1⟩) λr S'=>r = .int .i64 ((medianAdjacent ltN d a k).1:Nat)/\S'=(S.set b ⟨27,(d).toList.map encU,room⟩).set c ⟨3,[.int .i64 (((medianAdjacent ltN d a k).2:Nat):Int)],1⟩:=by
 subst J;obtain ⟨a,rfl⟩ : ∃ q,a=q+1:=⟨a-1,by omega⟩;refine k_E3 15 func248 ?_;refine r14_ ?_;refine ca_ rfl (zeX b room n cap H I d R c hc A _ _ _ a (a+1) (a+2) k om_ rfl om_ vd vd vd Q) ?_;rintro _ _ ⟨rfl,rfl⟩;refine r4_ ?_;refine ⟨_,_,⟨_,_,rfl,rfl,rfl⟩,Mem.Less.refl _,?_⟩;exact ⟨rfl,rfl⟩
theorem zpV {S:Mem} (b room n cap:Nat) (W:Fresh S b) (V:n<=1048576) (d:Array Nat) (R:Rw (λ_=>True) n d) (ia ie:Int) (a e:Nat) (ha:ia=a) (he:ie=e) (ax:a<e) (ay:e<=n) :
  ACall prog 199 #[.slice (some ⟨b,0,none⟩) n cap,.int .i64 ia,.int .i64 ie] (S.set b ⟨27,(d).toList.map encU,room⟩) λr S'=>r = .tuple #[.int .i64 ((choosePivot ltN d a e).1:Nat),.int .i64 (hintI (choosePivot ltN d a e).2)]/\S'=S.set b ⟨27,(d).toList.map encU,room⟩/\a<=(choosePivot ltN d a e).1/\(choosePivot ltN d a e).1<e:=by
 subst ha he;obtain ⟨L,rfl⟩ : ∃ L,e=a+L:=⟨e-a,by omega⟩;have z:=R.size;refine k_E3 57 func199 ?_;by_cases h8:8<=L
 ·refine r14_ ?_;refine r2_ ?_;refine ARun.alloc (zab rfl) zig ?_;intro Q f9;have C:=f9
  repeat ((with_reducible replace C:=zaa C);obtain ⟨C,_⟩:=C)
  refine nl_ ?_;refine r39_ ?_;refine kw_ [0,1,2,6,7,8,9,10,11,12,32] ?_;refine cT_ ?_;by_cases X:50<=L
  ·refine r7_ ?_;refine cT_ ?_;obtain ⟨⟨i1,I⟩,Y⟩ : ∃ q,q=medianAdjacent ltN d (a+L / 4*1) 0:=⟨_,rfl⟩;obtain ⟨⟨j1,k2⟩,q2⟩ : ∃ q,q=medianAdjacent ltN d (a+L / 4*2) I:=⟨_,rfl⟩;obtain ⟨⟨o1,k3⟩,q3⟩ : ∃ q,q=medianAdjacent ltN d (a+L / 4*3) k2:=⟨_,rfl⟩;obtain ⟨⟨pv,k⟩,J⟩ : ∃ q,q=median ltN d i1 j1 o1 k3:=⟨_,rfl⟩;have m1:=zgk ltN Y (lo:=a) (hi:=a+L) vd vd;have m2:=zgk ltN q2 (lo:=a) (hi:=a+L) vd vd;have m3:=zgk ltN q3 (lo:=a) (hi:=a+L) vd vd;have H:=zgj ltN J (lo:=a) (hi:=a+L) m1.1 m2.1 m3.1;have n1:=m1.2;have n2:=m2.2;have n3:=m3.2;have n4:=H.2
   have A:choosePivot ltN d a (a+L)=(pv,if k=0 then .increasing else if k=12 then .decreasing else .unknown):=(by unfold choosePivot;simp only [Nat.add_sub_cancel_left,if_pos h8,if_pos X,<- Y,<- q2,<- q3,<- J]);replace H:=H.1;refine r4_ ?_;refine ca_ rfl ((Y ▸ zeY b room n cap W V d R Q C (by assumption) _ (a+L / 4*1) 0 om_ vd vd vd)) ?_;rintro _ _ ⟨rfl,rfl⟩;refine r7_ ?_;refine ca_ rfl ((q2 ▸ zeY b room n cap W V d R Q C (by assumption) _ (a+L / 4*2) I om_ vd vd vd)) ?_;rintro _ _ ⟨rfl,rfl⟩;refine r6_ ?_;refine ca_ rfl ((q3 ▸ zeY b room n cap W V d R Q C (by assumption) _ (a+L / 4*3) k2 om_ vd vd vd)) ?_;rintro _ _ ⟨rfl,rfl⟩;refine r8_ ?_;refine ca_ rfl ((J ▸ zeX b room n cap W V d R Q C (by assumption) _ _ _ i1 j1 o1 k3 rfl rfl rfl vd vd vd vd)) ?_;rintro _ _ ⟨rfl,rfl⟩;refine r3_ ?_;refine kw_ [0,1,2,6,7,8,9,10,11,12,32,34] ?_;by_cases U:k=0
   ·subst U;refine r12_ ?_;refine cT_ ?_;refine r9_ ?_;refine ⟨_,S.set b ⟨27,(d).toList.map encU,room⟩,⟨_,_,rfl,⟨_,_,rfl,rfl,rfl⟩,rfl⟩,zae,?_⟩;exact ⟨by rw [A];rfl,rfl,by rw [A];exact H⟩
   refine r12_ ?_;refine cF_ ?_;by_cases I:k=12
   ·subst I;refine r6_ ?_;refine cT_ ?_;refine r7_ ?_;refine kw_ [0,1,2,6,7,8,9,10,11,12,32,34,49,51,54] ?_;refine r2_ ?_;refine ⟨_,S.set b ⟨27,(d).toList.map encU,room⟩,⟨_,_,rfl,⟨_,_,rfl,rfl,rfl⟩,rfl⟩,zae,?_⟩;exact ⟨by rw [A];rfl,rfl,by rw [A];exact H⟩
   refine r6_ ?_;refine cF_ ?_;refine r9_ ?_;refine ⟨_,S.set b ⟨27,(d).toList.map encU,room⟩,⟨_,_,rfl,⟨_,_,rfl,rfl,rfl⟩,rfl⟩,zae,?_⟩;exact ⟨by rw [A,zlE U I];rfl,rfl,by rw [A];exact H⟩
  refine r7_ ?_;refine cF_ ?_;obtain ⟨⟨pv,k⟩,J⟩ : ∃ q,q=median ltN d (a+L / 4*1) (a+L / 4*2) (a+L / 4*3) 0:=⟨_,rfl⟩;have H:=zgj ltN J (lo:=a) (hi:=a+L) vd vd vd;have n4:=H.2;have A:choosePivot ltN d a (a+L)=(pv,if k=0 then .increasing else if k=12 then .decreasing else .unknown):=by unfold choosePivot;simp only [Nat.add_sub_cancel_left,if_pos h8,if_neg X,<- J]
  replace H:=H.1;refine r7_ ?_;refine ca_ rfl ((J ▸ zeX b room n cap W V d R Q C (by assumption) _ _ _ (a+L / 4*1) (a+L / 4*2) (a+L / 4*3) 0 om_ om_ om_ vd vd vd vd)) ?_;rintro _ _ ⟨rfl,rfl⟩;refine r3_ ?_;by_cases U:k=0
  ·subst U;refine r12_ ?_;refine kw_ [0,1,2,6,7,8,9,10,11,12,32,34,49,51] ?_;refine cT_ ?_;refine r9_ ?_;refine ⟨_,S.set b ⟨27,(d).toList.map encU,room⟩,⟨_,_,rfl,⟨_,_,rfl,rfl,rfl⟩,rfl⟩,zae,?_⟩;exact ⟨by rw [A];rfl,rfl,by rw [A];exact H⟩
  refine r12_ ?_;refine cF_ ?_;by_cases I:k=12
  ·subst I;refine r6_ ?_;refine cT_ ?_;refine r9_ ?_;refine ⟨_,S.set b ⟨27,(d).toList.map encU,room⟩,⟨_,_,rfl,⟨_,_,rfl,rfl,rfl⟩,rfl⟩,zae,?_⟩;exact ⟨by rw [A];rfl,rfl,by rw [A];exact H⟩
  refine r6_ ?_;refine kw_ [0,1,2,6,7,8,9,10,11,12,32,34,49,51,54] ?_;refine cF_ ?_;refine r9_ ?_;refine ⟨_,S.set b ⟨27,(d).toList.map encU,room⟩,⟨_,_,rfl,⟨_,_,rfl,rfl,rfl⟩,rfl⟩,zae,?_⟩;exact ⟨by rw [A,zlE U I];rfl,rfl,by rw [A];exact H⟩
 refine r14_ ?_;refine r2_ ?_;refine ARun.alloc (zab rfl) zig ?_;intro Q f9;have C:=f9
 repeat ((with_reducible replace C:=zaa C);obtain ⟨C,_⟩:=C)
 refine nl_ ?_;refine r32_ ?_;refine kw_ [0,1,2,6,7,8,9,10,11,12] ?_;refine r7_ ?_;refine cF_ ?_;have A:choosePivot ltN d a (a+L)=(a+L / 4*2,.increasing):=by unfold choosePivot;simp only [Nat.add_sub_cancel_left,if_neg h8];rfl
 refine r14_ ?_;refine cT_ ?_;refine r9_ ?_;refine ⟨_,S.set b ⟨27,(d).toList.map encU,room⟩,⟨_,_,rfl,⟨_,_,rfl,rfl,rfl⟩,rfl⟩,zae,?_⟩;exact ⟨by rw [A];exact zuU om_,rfl,by rw [A];exact ⟨by show a<=a+L / 4*2;omega,by show a+L / 4*2<a+L;omega⟩⟩
theorem zu1 {S:Mem} (b room n cap:Nat) (hb:Fresh S b) (hn:n<=1048576) (d:Array Nat) (R:Rw (λ_=>True) n d) (ia ie:Int) (a e:Nat) (ha:ia=a) (he:ie=e) (ao:a<=e) (aq:e<=n) :
  ACall prog 198 #[.slice (some ⟨b,0,none⟩) n cap,.int .i64 ia,.int .i64 ie] (S.set b ⟨27,(d).toList.map encU,room⟩) λr S'=>S'=S.set b ⟨27,(breakPatterns d a e).toList.map encU,room⟩/\Rw (λ_=>True) n (breakPatterns d a e):=by
 subst ha he;obtain ⟨L,rfl⟩ : ∃ L,e=a+L:=⟨e-a,by omega⟩;have z:=R.size;by_cases h8:8<=L
 ·have J:=zxh (d:=d) (a:=a) h8;have aj:=zwJ L vd vd;generalize ac:1 <<< bitsLen L=H at *;generalize ai:a+L / 4*2-1=A at *;have ad:((UInt64.ofNat L).toNat:Nat)=L:=by rw [UInt64.toNat_ofNat'];exact Nat.mod_eq_of_lt vd
  refine k_E3 65 func198 ?_;refine r14_ ?_;refine cT_ ?_;refine r3_ ?_;refine rC (Calm.conv rfl (zbz underlying3 underlying339 (IntWalk.u64_in _ vd))) ?_;refine ARun.alloc (zab rfl) zjx ?_;intro V f7;have U:=f7
  repeat ((with_reducible replace U:=zaa U);obtain ⟨U,_⟩:=U)
  refine nl_ ?_;refine r3_ ?_;refine AWP.less ((S.set b ⟨27,(d).toList.map encU,room⟩).set V (xorB (UInt64.ofNat L).toNat)) (by unfold xorB;rw [ad,show ((a+L:Nat):Int)-(a:Int)=(L:Int) by omega];exact Mem.Less.refl _) ?_;refine r3_ ?_;refine ca_ rfl ((ac ▸ zwF _ L om_ vd _)) ?_;rintro _ _ ⟨rfl,rfl⟩;refine r14_ ?_;refine kw_ [0,1,2,6,15,7,8,9] ?_;refine s1_ ?_;refine AWP.loop (X:=Nat × UInt64 × Array Nat) (λx=>[(0,.slice (some ⟨b,0,none⟩) n cap),(1,.int .i64 a),(6,.int .i64 L),(7,.pointer (some ⟨V,0,none⟩)),(8,.int .u64 H),(9,.int .i64 ((A+(3-x.1):Nat):Int))]) (λx=>(S.set b ⟨27,(x.2.2).toList.map encU,room⟩).set V (xorB (x.2.1).toNat)) (λx=>x.1<=3/\Rw (λ_=>True) n x.2.2/\bpR a L H A x.1 x.2=bpR a L H A 3 (UInt64.ofNat L,d)) (λx=>x.1) ((3,UInt64.ofNat L,d)) ⟨sb_,sb_,sb_,sb_,sb_,sb_,trivial⟩ (Mem.Less.refl _) (⟨Nat.le_refl _,R,rfl⟩) ?_;rintro ⟨k,r,d1⟩ ⟨h1,W,h3⟩;(try dsimp only at *);have z1:=W.size;by_cases hk:0<k
  ·obtain ⟨k,rfl⟩ : ∃ q,k=q+1:=⟨k-1,by omega⟩;refine r13_ ?_;refine cT_ ?_;obtain ⟨r',I⟩ : ∃ r',r'=xorNext r:=⟨_,rfl⟩;obtain ⟨o,Y⟩ : ∃ o,o=r'.toNat &&& (H-1):=⟨_,rfl⟩;have al:o<=H-1:=(by rw [Y];exact Nat.and_le_right);have Q:=zuV r'.toNat (H-1) r'.toNat_lt vd;rw [<- Y] at Q;refine r6_ ?_;refine ca_ rfl ((I ▸ zuL V r _ (zam U (by assumption)))) ?_;rintro _ _ ⟨rfl,rfl⟩;refine s1_ ?_;refine rC (vi rfl rfl (zkB (zuW H vd vd))) ?_;refine rC (vi rfl rfl (zp6 Q)) ?_;refine r4_ ?_;by_cases C:L<=o
   ·refine r8_ ?_;refine cT_ ?_;refine r7_ ?_;refine dr_ [i0_,i1_,i2_,i3_,i4_,i5_,i6_,i7_,i8_,i9_,i10_,i11_,i12_,i13_,i14_,i15_,i16_,o17_,i18_,o19_] [17,19] ?_;refine r11_ ?_;refine dC (hc:=Calm.load zaf rfl (zak (k:=a+(o-L)) own_ rw_ rw_)) (h:=?_);refine r3_ ?_;refine dC (hc:=Calm.load zaf rfl (zak (k:=A+(2-k)) own_ rw_ rw_)) (h:=?_);refine s1_ ?_;refine zac rfl ?_;refine vm encU (A+(2-k)) rfl rfl zai ⟨rfl,rfl⟩ own_ rw_ rw_ ?_
    try simp only [k_ms,k_sz,k_ss,k_za,Nat.reduceAdd]
    refine zad ⟨nz_,?_⟩;refine s1_ ?_;refine zac rfl ?_;refine vm encU (a+(o-L)) rfl rfl zai ⟨rfl,rfl⟩ own_ rw_ rw_ ?_
    try simp only [k_ms,k_sz,k_ss,k_za,Nat.reduceAdd]
    refine zad ⟨nz_,?_⟩;refine r3_ ?_;refine kw_ [0,1,6,7,8,9,33,10,43] ?_;refine r6_ ?_;refine ⟨(k,r',swp d1 (A+(2-k)) (a+(o-L))),?_,?_,?_,?_⟩<;>try dsimp only
    ·exact ⟨sb_,sb_,sb_,sb_,sb_,sb_,trivial⟩
    ·rw [zlD _ _ _ _ (by first | assumption | (apply Ne.symm;assumption))];exact Mem.Less.refl _
    ·exact ⟨by omega,W.swp _ _ vd vd,by rw [<- h3,zlF,<- I,<- Y,if_pos C]⟩
    omega
   refine r8_ ?_;refine cF_ ?_;refine r2_ ?_;refine dr_ [i0_,i1_,i2_,i3_,i4_,i5_,i6_,i7_,i8_,i9_,i10_,i11_,i12_,i13_,i14_,i15_,i16_,o17_,i18_,o19_] [17,19] ?_;refine r11_ ?_;refine dC (hc:=Calm.load zaf rfl (zak (k:=a+o) own_ rw_ rw_)) (h:=?_);refine r3_ ?_;refine dC (hc:=Calm.load zaf rfl (zak (k:=A+(2-k)) own_ rw_ rw_)) (h:=?_);refine s1_ ?_;refine zac rfl ?_;refine vm encU (A+(2-k)) rfl rfl zai ⟨rfl,rfl⟩ own_ rw_ rw_ ?_
   try simp only [k_ms,k_sz,k_ss,k_za,Nat.reduceAdd]
   refine zad ⟨nz_,?_⟩;refine s1_ ?_;refine zac rfl ?_;refine vm encU (a+o) rfl rfl zai ⟨rfl,rfl⟩ own_ rw_ rw_ ?_
   try simp only [k_ms,k_sz,k_ss,k_za,Nat.reduceAdd]
   refine zad ⟨nz_,?_⟩;refine r9_ ?_;refine ⟨(k,r',swp d1 (A+(2-k)) (a+o)),?_,?_,?_,?_⟩<;>try dsimp only
   ·exact ⟨sb_,sb_,sb_,sb_,sb_,sb_,trivial⟩
   ·rw [zlD _ _ _ _ (by first | assumption | (apply Ne.symm;assumption))];exact Mem.Less.refl _
   ·exact ⟨by omega,W.swp _ _ vd vd,by rw [<- h3,zlF,<- I,<- Y,if_neg C]⟩
   omega
  obtain rfl:k=0:=by omega
  refine r13_ ?_;refine cF_ ?_;refine r4_ ?_;refine ⟨_,S.set b ⟨27,(d1).toList.map encU,room⟩,rfl,zae,?_⟩;rw [J,<- h3];exact ⟨rfl,W⟩
 have J:breakPatterns d a (a+L)=d:=by unfold breakPatterns;simp only [Nat.add_sub_cancel_left];rw [if_neg vd]
 rw [J];refine k_E3 65 func198 ?_;refine r14_ ?_;refine kw_ [0,1,2,6,15] ?_;refine cF_ ?_;refine s1_ ?_;refine ⟨_,_,rfl,Mem.Less.refl _,?_⟩;exact ⟨rfl,R⟩
theorem zsi {S:Mem} (b room n cap:Nat) (hb:Fresh S b) (hn:n<=1048576) (d:Array Nat) (R:Rw (λ_=>True) n d) (ia ie:Int) (a e:Nat) (ha:ia=a) (he:ie=e) (aA:a<e) (aB:e<=n) :
  ACall prog 201 #[.slice (some ⟨b,0,none⟩) n cap,.int .i64 ia,.int .i64 ie] (S.set b ⟨27,(d).toList.map encU,room⟩) λr S'=>r = .bool (partialInsertionSort ltN d a e).2/\S'=S.set b ⟨27,((partialInsertionSort ltN d a e).1).toList.map encU,room⟩/\Rw (λ_=>True) n (partialInsertionSort ltN d a e).1:=by
 subst ha he;refine k_E3 133 func201 ?_;refine r19_ ?_;refine AWP.loop (X:=Nat × Nat × Array Nat) (λx=>[(0,.slice (some ⟨b,0,none⟩) n cap),(1,.int .i64 a),(2,.int .i64 e),(7,.int .i64 x.2.1),(8,.int .i64 ((5-x.1:Nat):Int))]) (λx=>S.set b ⟨27,(x.2.2).toList.map encU,room⟩) (λx=>x.1<=5/\a+1<=x.2.1/\x.2.1<=e/\Rw (λ_=>True) n x.2.2/\partialIns ltN a e x.1 x.2.1 x.2.2=partialInsertionSort ltN d a e) (λx=>x.1) ((5,a+1,d)) ⟨sb_,sb_,sb_,sb_,sb_,trivial⟩ (Mem.Less.refl _) (⟨Nat.le_refl _,by dsimp only;omega,by dsimp only;omega,R,rfl⟩) ?_;rintro ⟨s,i,d1⟩ ⟨h1,h2,h4,R1,h3⟩;(try dsimp only at *);have z1:=R1.size;by_cases hs:0<s
 ·obtain ⟨s,rfl⟩ : ∃ q,s=q+1:=⟨s-1,by omega⟩;refine r7_ ?_;refine cT_ ?_;refine r5_ ?_;refine AWP.join (X:=Nat) (λx=>[(0,.slice (some ⟨b,0,none⟩) n cap),(1,.int .i64 a),(2,.int .i64 e),(7,.int .i64 x),(8,.int .i64 ((5-(s+1):Nat):Int))]) (λ_=>S.set b ⟨27,(d1).toList.map encU,room⟩) (λx=>a+1<=x/\x<=e/\x=scanSorted ltN d1 e i) ?_ ?_
  ·refine s1_ ?_;refine AWP.loop (X:=Nat) (λx=>[(0,.slice (some ⟨b,0,none⟩) n cap),(1,.int .i64 a),(2,.int .i64 e),(7,.int .i64 x),(8,.int .i64 ((5-(s+1):Nat):Int))]) (λ_=>S.set b ⟨27,(d1).toList.map encU,room⟩) (λx=>a+1<=x/\x<=e/\scanSorted ltN d1 e x=scanSorted ltN d1 e i) (λx=>e-x) (i) ⟨sb_,sb_,sb_,sb_,sb_,trivial⟩ (Mem.Less.refl _) (⟨h2,h4,rfl⟩) ?_;rintro x ⟨q1,q2,q3⟩;(try dsimp only at *);by_cases hx:x<e
   ·obtain ⟨x,rfl⟩ : ∃ q,x=q+1:=⟨x-1,by omega⟩;refine r2_ ?_;refine dr_ [i0_,i1_,i2_,i3_,i4_,i5_,i6_,i7_,i8_,i9_,i10_,i11_,i12_,o13_,i14_,i15_] [] ?_;refine r7_ ?_
    first|refine k_d ?_|refine dL (hc:=Calm.load zaf rfl (zak (k:=x+1) own_ rw_ rw_)) (h:=?_)
    refine r4_ ?_
    first|refine k_d ?_|refine dL (hc:=Calm.load zaf rfl (zak (k:=x) own_ rw_ rw_)) (h:=?_)
    refine zac rfl ?_;refine vv 3 true 20 rfl (zab rfl) rfl (zab rfl) zc_ rfl (za8 _ _ _) ?_;rintro _ _ ⟨rfl,rfl⟩;refine zad ⟨ny_,?_⟩;refine r4_ ?_;refine vp rfl (λA=>?_) (λA=>?_)
    ·have A:=nt_ A;refine r10_ ?_;refine ⟨x+1+1,?_,?_,?_,?_⟩<;>try dsimp only
     ·exact ⟨sb_,sb_,sb_,sb_,sb_,trivial⟩
     ·exact Mem.Less.refl _
     ·exact ⟨by omega,by omega,(zxb ltN hx (by rw [Nat.add_sub_cancel];exact A)).trans q3⟩
     omega
    have A:=nf_ A;refine r4_ ?_;refine ⟨(x+1),?_,?_,?_⟩<;>try dsimp only
    ·exact ⟨by omega,by omega,(zxc ltN (by rw [Nat.add_sub_cancel];exact A)).trans q3⟩
    ·exact ⟨sb_,sb_,sb_,sb_,sb_,trivial⟩
    exact Mem.Less.refl _
   refine r2_ ?_;refine dr_ [i0_,i1_,i2_,i3_,i4_,i5_,i6_,i7_,i8_,i9_,i10_,i11_,i12_,o13_,i14_,i15_] [] ?_;refine r7_ ?_
   first|refine k_d ?_|refine dL (hc:=Calm.load zaf rfl (zak (k:=x+1) own_ rw_ rw_)) (h:=?_)
   refine r4_ ?_
   first|refine k_d ?_|refine dL (hc:=Calm.load zaf rfl (zak (k:=x) own_ rw_ rw_)) (h:=?_)
   refine zac rfl ?_;refine s1_ ?_;refine zad ⟨ny_,?_⟩;refine r4_ ?_;refine cF_ ?_;refine r4_ ?_;refine ⟨x,?_,?_,?_⟩<;>try dsimp only
   ·exact ⟨by omega,by omega,(zwC ltN hx).trans q3⟩
   ·exact ⟨sb_,sb_,sb_,sb_,sb_,trivial⟩
   exact Mem.Less.refl _
  rintro x ⟨b1,b2,hS⟩;intro _ _ H C;(try dsimp only at *);refine zau ?_;refine AWP.sub _ H (AWP.less _ C ?_);clear H C;by_cases ac:x=e
  ·refine r8_ ?_;refine kw_ [0,1,2,7,8,37] ?_;refine cT_ ?_;refine r12_ ?_;refine ⟨_,_,⟨_,_,rfl,rfl,rfl⟩,Mem.Less.refl _,?_⟩;exact zpU (M:=λx=>S.set b ⟨27,(x).toList.map encU,room⟩) ltN h3 (.inl ⟨hS ▸ ac,rfl,rfl⟩) R1
  refine r8_ ?_;refine cF_ ?_;by_cases af:e-a<50
  ·refine r11_ ?_;refine cT_ ?_;refine r12_ ?_;refine ⟨_,_,⟨_,_,rfl,rfl,rfl⟩,Mem.Less.refl _,?_⟩;exact zpU (M:=λx=>S.set b ⟨27,(x).toList.map encU,room⟩) ltN h3 (.inr ⟨hS ▸ ac,af,rfl,rfl⟩) R1
  refine r11_ ?_;refine cF_ ?_;obtain ⟨w,rfl⟩ : ∃ q,x=q+1:=⟨x-1,by omega⟩;refine r3_ ?_;refine dr_ [i0_,i1_,i2_,i3_,i4_,i5_,i6_,i7_,i8_,i9_,i10_,i11_,i12_,i13_,i14_,o15_,i16_,o17_] [15,17] ?_;have R2:=R1.swp (w+1) w vd vd;obtain ⟨J,W⟩ : ∃ J,J=swp d1 (w+1) w:=⟨_,rfl⟩;rw [<- W] at R2;refine r9_ ?_;refine dC (hc:=Calm.load zaf rfl (zak (k:=w) own_ rw_ rw_)) (h:=?_);refine r3_ ?_;refine dC (hc:=Calm.load zaf rfl (zak (k:=w+1) own_ rw_ rw_)) (h:=?_);refine s1_ ?_;refine zac rfl ?_;refine vm encU (w+1) rfl rfl zai ⟨rfl,rfl⟩ own_ rw_ rw_ ?_
  try simp only [k_ms,k_sz,k_ss,k_za,Nat.reduceAdd]
  refine zad ⟨nz_,?_⟩;refine s1_ ?_;refine zac rfl ?_;refine vm encU (w) rfl rfl zai ⟨rfl,rfl⟩ own_ rw_ rw_ ?_
  try simp only [k_ms,k_sz,k_ss,k_za,Nat.reduceAdd]
  refine zad ⟨nz_,?_⟩;refine r2_ ?_;refine AWP.less (S.set b ⟨27,(J).toList.map encU,room⟩) (by rw [W];exact Mem.Less.refl _) ?_;have z2:=R2.size;refine r9_ ?_;refine kw_ [0,1,2,7,8,37,41,61] ?_;refine AWP.join (X:=Array Nat) (λx=>[(0,.slice (some ⟨b,0,none⟩) n cap),(1,.int .i64 a),(2,.int .i64 e),(7,.int .i64 ((w+1:Nat):Int)),(8,.int .i64 ((5-(s+1):Nat):Int))]) (λx=>S.set b ⟨27,(x).toList.map encU,room⟩) (λx=>Rw (λ_=>True) n x/\x=(if w+1-a >= 2 then shiftDown ltN w J else J)) ?_ ?_
  ·by_cases U:2<=w+1-a
   ·refine cT_ ?_;refine r8_ ?_;refine AWP.loop (X:=Nat × Array Nat) (λx=>[(0,.slice (some ⟨b,0,none⟩) n cap),(1,.int .i64 a),(2,.int .i64 e),(7,.int .i64 ((w+1:Nat):Int)),(8,.int .i64 ((5-(s+1):Nat):Int)),(9,.int .i64 x.1)]) (λx=>S.set b ⟨27,(x.2).toList.map encU,room⟩) (λx=>x.1<=w/\Rw (λ_=>True) n x.2/\shiftDown ltN x.1 x.2=shiftDown ltN w J) (λx=>x.1) ((w,J)) ⟨sb_,sb_,sb_,sb_,sb_,sb_,trivial⟩ (Mem.Less.refl _) (⟨Nat.le_refl _,R2,rfl⟩) ?_;rintro ⟨j,I⟩ ⟨k1,Q,V⟩;(try dsimp only at *);have z3:=Q.size;by_cases hj:0<j
    ·obtain ⟨j,rfl⟩ : ∃ q,j=q+1:=⟨j-1,by omega⟩;refine r7_ ?_;refine cT_ ?_;refine r6_ ?_;refine dr_ [i0_,i1_,i2_,i3_,i4_,i5_,i6_,i7_,i8_,o9_,i10_] [] ?_;refine r3_ ?_;refine dC (hc:=Calm.load zaf rfl (zak (k:=j+1) own_ rw_ rw_)) (h:=?_);refine r4_ ?_;refine dC (hc:=Calm.load zaf rfl (zak (k:=j) own_ rw_ rw_)) (h:=?_);refine zac rfl ?_;refine ca_ rfl (za8 _ _ _) ?_;rintro _ _ ⟨rfl,rfl⟩;refine zad ⟨ny_,?_⟩;refine r3_ ?_;refine vp rfl (λA=>?_) (λA=>?_)
     ·have A:=nt_ A;refine r6_ ?_;refine ⟨I,?_,?_,?_⟩<;>try dsimp only
      ·exact ⟨Q,by rw [if_pos U,<- V,<- zxe ltN A]⟩
      ·exact ⟨sb_,sb_,sb_,sb_,sb_,trivial⟩
      exact Mem.Less.refl _
     have A:=nf_ A;refine r2_ ?_;refine dr_ [i0_,i1_,i2_,i3_,i4_,i5_,i6_,i7_,i8_,i9_,i10_,i11_,i12_,i13_,i14_,o15_,i16_,o17_] [15,17] ?_;refine r9_ ?_;refine dC (hc:=Calm.load zaf rfl (zak (k:=j) own_ rw_ rw_)) (h:=?_);refine r3_ ?_;refine dC (hc:=Calm.load zaf rfl (zak (k:=j+1) own_ rw_ rw_)) (h:=?_);refine s1_ ?_;refine zac rfl ?_;refine vm encU (j+1) rfl rfl zai ⟨rfl,rfl⟩ own_ rw_ rw_ ?_
     try simp only [k_ms,k_sz,k_ss,k_za,Nat.reduceAdd]
     refine zad ⟨nz_,?_⟩;refine s1_ ?_;refine zac rfl ?_;refine vm encU (j) rfl rfl zai ⟨rfl,rfl⟩ own_ rw_ rw_ ?_
     try simp only [k_ms,k_sz,k_ss,k_za,Nat.reduceAdd]
     refine zad ⟨nz_,?_⟩;refine r9_ ?_;refine ⟨(j,swp I (j+1) j),?_,?_,?_,?_⟩<;>try dsimp only
     ·exact ⟨sb_,sb_,sb_,sb_,sb_,sb_,trivial⟩
     ·exact Mem.Less.refl _
     ·exact ⟨by omega,Q.swp _ _ vd vd,(zxd ltN A).trans V⟩
     omega
    obtain rfl:j=0:=(by omega);refine r7_ ?_;refine kw_ [0,1,2,7,8,9,65] ?_;refine cF_ ?_;refine r4_ ?_;refine ⟨I,?_,?_,?_⟩<;>try dsimp only
    ·exact ⟨Q,by rw [if_pos U,<- V];rfl⟩
    ·exact ⟨sb_,sb_,sb_,sb_,sb_,trivial⟩
    exact Mem.Less.refl _
   refine cF_ ?_;refine s1_ ?_;refine ⟨J,?_,?_,?_⟩<;>try dsimp only
   ·exact ⟨R2,by rw [if_neg U]⟩
   ·exact ⟨sb_,sb_,sb_,sb_,sb_,trivial⟩
   exact Mem.Less.refl _
  rintro I ⟨Q,ai⟩;intro _ _ H C;(try dsimp only at *);refine zau ?_;refine AWP.sub _ H (AWP.less _ C ?_);clear H C;have z3:=Q.size;refine r8_ ?_;refine AWP.join (X:=Array Nat) (λx=>[(0,.slice (some ⟨b,0,none⟩) n cap),(1,.int .i64 a),(2,.int .i64 e),(7,.int .i64 ((w+1:Nat):Int)),(8,.int .i64 ((5-(s+1):Nat):Int))]) (λx=>S.set b ⟨27,(x).toList.map encU,room⟩) (λx=>Rw (λ_=>True) n x/\x=(if e-(w+1) >= 2 then shiftUp ltN e (w+1+1) I else I)) ?_ ?_
  ·by_cases U:2<=e-(w+1)
   ·refine cT_ ?_;refine r8_ ?_;refine AWP.loop (X:=Nat × Array Nat) (λx=>[(0,.slice (some ⟨b,0,none⟩) n cap),(1,.int .i64 a),(2,.int .i64 e),(7,.int .i64 ((w+1:Nat):Int)),(8,.int .i64 ((5-(s+1):Nat):Int)),(10,.int .i64 x.1)]) (λx=>S.set b ⟨27,(x.2).toList.map encU,room⟩) (λx=>w+1+1<=x.1/\x.1<=e/\Rw (λ_=>True) n x.2/\shiftUp ltN e x.1 x.2=shiftUp ltN e (w+1+1) I) (λx=>e-x.1) ((w+1+1,I)) ⟨sb_,sb_,sb_,sb_,sb_,sb_,trivial⟩ (Mem.Less.refl _) (⟨Nat.le_refl _,by dsimp only;omega,Q,rfl⟩) ?_;rintro ⟨j,d4⟩ ⟨k1,k2,Y,V⟩;(try dsimp only at *);have z4:=Y.size;by_cases hj:j<e
    ·obtain ⟨j,rfl⟩ : ∃ q,j=q+1:=⟨j-1,by omega⟩;refine r8_ ?_;refine cT_ ?_;refine r6_ ?_;refine dr_ [i0_,i1_,i2_,i3_,i4_,i5_,i6_,i7_,i8_,o9_,i10_] [] ?_;refine r3_ ?_;refine dC (hc:=Calm.load zaf rfl (zak (k:=j+1) own_ rw_ rw_)) (h:=?_);refine r4_ ?_;refine dC (hc:=Calm.load zaf rfl (zak (k:=j) own_ rw_ rw_)) (h:=?_);refine zac rfl ?_;refine ca_ rfl (za8 _ _ _) ?_;rintro _ _ ⟨rfl,rfl⟩;refine zad ⟨ny_,?_⟩;refine r3_ ?_;refine vp rfl (λA=>?_) (λA=>?_)
     ·have A:=nt_ A;refine r6_ ?_;refine ⟨d4,?_,?_,?_⟩<;>try dsimp only
      ·exact ⟨Y,by rw [if_pos U,<- V,<- zxg ltN (by rw [Nat.add_sub_cancel];exact A)]⟩
      ·exact ⟨sb_,sb_,sb_,sb_,sb_,trivial⟩
      exact Mem.Less.refl _
     have A:=nf_ A;refine r2_ ?_;refine dr_ [i0_,i1_,i2_,i3_,i4_,i5_,i6_,i7_,i8_,i9_,i10_,i11_,i12_,i13_,i14_,o15_,i16_,o17_] [15,17] ?_;refine r9_ ?_;refine dC (hc:=Calm.load zaf rfl (zak (k:=j) own_ rw_ rw_)) (h:=?_);refine r3_ ?_;refine dC (hc:=Calm.load zaf rfl (zak (k:=j+1) own_ rw_ rw_)) (h:=?_);refine s1_ ?_;refine zac rfl ?_;refine vm encU (j+1) rfl rfl zai ⟨rfl,rfl⟩ own_ rw_ rw_ ?_
     try simp only [k_ms,k_sz,k_ss,k_za,Nat.reduceAdd]
     refine zad ⟨nz_,?_⟩;refine s1_ ?_;refine zac rfl ?_;refine vm encU (j) rfl rfl zai ⟨rfl,rfl⟩ own_ rw_ rw_ ?_
     try simp only [k_ms,k_sz,k_ss,k_za,Nat.reduceAdd]
     refine zad ⟨nz_,?_⟩;refine r3_ ?_;refine kw_ [0,1,2,7,8,10,103,116] ?_;refine r6_ ?_;refine ⟨(j+1+1,swp d4 (j+1) j),?_,?_,?_,?_⟩<;>try dsimp only
     ·exact ⟨sb_,sb_,sb_,sb_,sb_,sb_,trivial⟩
     ·exact Mem.Less.refl _
     ·exact ⟨by omega,by omega,Y.swp _ _ vd vd,(zxf ltN (j:=j+1) hj (by rw [Nat.add_sub_cancel];exact A)).trans V⟩
     omega
    refine r8_ ?_;refine cF_ ?_;refine r4_ ?_;refine ⟨d4,?_,?_,?_⟩<;>try dsimp only
    ·exact ⟨Y,by rw [if_pos U,<- V,<- zwD ltN hj]⟩
    ·exact ⟨sb_,sb_,sb_,sb_,sb_,trivial⟩
    exact Mem.Less.refl _
   refine cF_ ?_;refine s1_ ?_;refine ⟨I,?_,?_,?_⟩<;>try dsimp only
   ·exact ⟨Q,by rw [if_neg U]⟩
   ·exact ⟨sb_,sb_,sb_,sb_,sb_,trivial⟩
   exact Mem.Less.refl _
  rintro d4 ⟨Y,al⟩;intro _ _ H C;(try dsimp only at *);refine zhg ?_;refine zau ?_;refine AWP.sub _ H (AWP.less _ C ?_);clear H C;refine r6_ ?_;refine ⟨(s,w+1,d4),?_,?_,?_,?_⟩<;>try dsimp only
  ·exact ⟨sb_,sb_,sb_,sb_,sb_,trivial⟩
  ·exact Mem.Less.refl _
  ·exact ⟨by omega,by omega,by omega,Y,(zuX ltN hS vd af W ai al).trans h3⟩
  omega
 obtain rfl:s=0:=by omega
 refine r7_ ?_;refine cF_ ?_;refine r11_ ?_;refine ⟨_,_,⟨_,_,rfl,rfl,rfl⟩,Mem.Less.refl _,?_⟩;rw [<- h3];exact ⟨rfl,rfl,R1⟩
end
section
open Go.RowKit
open Mv Srt
open Go.Sort (swp insInner insOuter insertionSort siftDown heapBuild heapPop heapSort scanUp scanDown partLoop partition partEqLoop partitionEqual scanSorted shiftDown shiftUp partialIns partialInsertionSort order2 median medianAdjacent choosePivot reverseLoop reverseRange breakStep breakPatterns pdq bitsLen xorNext Hint)
theorem zu2 {S:Mem} (b room n cap:Nat) (hb:Fresh S b) (hn:n<=1048576):∀ (m:Nat) (d:Array Nat) (R:Rw (λ_=>True) n d) (ia ie il:Int) (a e A:Nat),ia=a->ie=e->il=A->a<=e->e<=n->A<=1000->e-a=m ->
  ACall prog 136 #[.slice (some ⟨b,0,none⟩) n cap,.int .i64 ia,.int .i64 ie,.int .i64 il] (S.set b ⟨27,(d).toList.map encU,room⟩) λr S'=>S'=S.set b ⟨27,(pdq ltN d a e A true true).toList.map encU,room⟩/\Rw (λ_=>True) n (pdq ltN d a e A true true):=by
 intro m
 induction m using Nat.strongRecOn with
 | _ m ih =>
 intro d R ia ie il a e A ha he hl aB aO aJ hm;subst ha he hl;refine k_E4 134 func136 ?_;refine r11_ ?_;refine AWP.loop (X:=Nat × Nat × Nat × Bool × Bool × Array Nat) (λx=>[(0,.slice (some ⟨b,0,none⟩) n cap),(1,.int .i64 x.1),(2,.int .i64 x.2.1),(3,.int .i64 x.2.2.1),(8,.bool x.2.2.2.1),(9,.bool x.2.2.2.2.1)]) (λx=>S.set b ⟨27,(x.2.2.2.2.2).toList.map encU,room⟩) (λx=>x.1<=x.2.1/\x.2.1<=e/\Rw (λ_=>True) n x.2.2.2.2.2/\x.2.1-x.1<=m/\x.2.2.1<=A/\pdq ltN x.2.2.2.2.2 x.1 x.2.1 x.2.2.1 x.2.2.2.1 x.2.2.2.2.1=pdq ltN d a e A true true) (λx=>x.2.1-x.1) ((a,e,A,true,true,d)) ⟨sb_,sb_,sb_,sb_,sb_,sb_,trivial⟩ (Mem.Less.refl _) (⟨aB,Nat.le_refl _,R,by dsimp only;omega,Nat.le_refl _,rfl⟩) ?_;rintro ⟨C,e1,l1,U,w2,d0⟩ ⟨h1,h2,R0,h4,h5,H⟩;(try dsimp only at *);have z0:=R0.size;by_cases ad:e1-C<=12
 ·refine r9_ ?_;refine r7_ ?_;refine cT_ ?_;refine r5_ ?_;refine ca_ rfl (zuT b room n cap hb hn d0 R0 _ _ C e1 rfl rfl vd vd) ?_;rintro _ _ ⟨rfl,Y⟩;refine r7_ ?_;refine ⟨_,_,rfl,Mem.Less.refl _,?_⟩;rw [<- H,zuY ltN ad];exact ⟨rfl,Y⟩
 refine r9_ ?_;refine r7_ ?_;refine kw_ [0,1,2,3,8,9,10,23] ?_;refine cF_ ?_;by_cases aj:l1=0
 ·refine r9_ ?_;refine cT_ ?_;refine r5_ ?_;refine ca_ rfl (zsf b room n cap hb hn d0 R0 _ _ C e1 rfl rfl vd vd) ?_;rintro _ _ ⟨rfl,Y⟩;refine r7_ ?_;refine ⟨_,_,rfl,Mem.Less.refl _,?_⟩;rw [<- H,zsh ltN ad aj];exact ⟨rfl,Y⟩
 refine r9_ ?_;refine cF_ ?_;rw [zxi ltN ad aj] at H;refine r9_ ?_;refine AWP.join (X:=Nat × Array Nat) (λx=>[(0,.slice (some ⟨b,0,none⟩) n cap),(1,.int .i64 C),(2,.int .i64 e1),(3,.int .i64 x.1),(8,.bool U),(9,.bool w2),(10,.int .i64 ((e1-C:Nat):Int))]) (λx=>S.set b ⟨27,(x.2).toList.map encU,room⟩) (λx=>x.1<=l1/\Rw (λ_=>True) n x.2/\pdq1 ltN x.2 C e1 x.1 U w2=pdq ltN d a e A true true) ?_ ?_
 ·cases U
  ·refine cT_ ?_;refine r5_ ?_;refine ca_ rfl (zu1 b room n cap hb hn d0 R0 _ _ C e1 rfl rfl vd vd) ?_;rintro _ _ ⟨rfl,Y⟩;refine r2_ ?_;refine kw_ [0,1,2,3,8,9,10,23,29,35] ?_;refine r5_ ?_;refine ⟨(l1-1,breakPatterns d0 C e1),?_,?_,?_⟩<;>try dsimp only
   ·exact ⟨by omega,Y,H⟩
   ·exact ⟨sb_,sb_,sb_,sb_,sb_,sb_,sb_,trivial⟩
   exact Mem.Less.refl _
  refine cF_ ?_;refine s1_ ?_;refine ⟨(l1,d0),?_,?_,?_⟩<;>try dsimp only
  ·exact ⟨Nat.le_refl _,R0,H⟩
  ·exact ⟨sb_,sb_,sb_,sb_,sb_,sb_,sb_,trivial⟩
  exact Mem.Less.refl _
 rintro ⟨l2,d1⟩ ⟨k1,Y,H⟩;intro _ _ J I;(try dsimp only at *);refine zau ?_;refine AWP.sub _ J (AWP.less _ I ?_);clear J I;have z1:=Y.size;obtain ⟨⟨p0,ht⟩,aq⟩ : ∃ q,q=choosePivot ltN d1 C e1:=⟨_,rfl⟩;refine r5_ ?_;refine ca_ rfl ((aq ▸ zpV b room n cap hb hn d1 Y _ _ C e1 rfl rfl vd vd)) ?_;rintro _ _ ⟨rfl,rfl,g1,g2⟩;dsimp only at g1 g2;rw [pdq1,<- aq] at H;dsimp only at H;refine r14_ ?_;refine AWP.join (X:=Nat × Hint × Array Nat) (λx=>[(0,.slice (some ⟨b,0,none⟩) n cap),(1,.int .i64 C),(2,.int .i64 e1),(3,.int .i64 l2),(8,.bool U),(9,.bool w2),(10,.int .i64 ((e1-C:Nat):Int)),(11,.int .i64 x.1),(12,.int .i64 (hintI x.2.1))]) (λx=>S.set b ⟨27,(x.2.2).toList.map encU,room⟩) (λx=>C<=x.1/\x.1<e1/\Rw (λ_=>True) n x.2.2/\pdq2 ltN x.2.2 C e1 l2 U w2 x.1 x.2.1=pdq ltN d a e A true true) ?_ ?_
 ·by_cases ae:ht = .decreasing
  ·subst ae;refine cT_ ?_;refine r5_ ?_;refine ca_ rfl (zu0 b room n cap hb hn d1 Y _ _ C e1 rfl rfl vd vd) ?_;rintro _ _ ⟨rfl,R2⟩;refine r16_ ?_;refine ⟨(e1-1-(p0-C),.increasing,reverseRange d1 C e1),?_,?_,?_⟩<;>try dsimp only
   ·exact ⟨by omega,by omega,R2,by rw [if_pos rfl] at H;exact H⟩
   ·exact ⟨sb_,sb_,sb_,sb_,sb_,sb_,sb_,sb_,sb_,trivial⟩
   exact Mem.Less.refl _
  have aM:=zuZ ae;refine cF_ ?_;refine s1_ ?_;refine ⟨(p0,ht,d1),?_,?_,?_⟩<;>try dsimp only
  ·exact ⟨g1,g2,Y,by rw [if_neg ae] at H;exact H⟩
  ·exact ⟨sb_,sb_,sb_,sb_,sb_,sb_,sb_,sb_,sb_,trivial⟩
  exact Mem.Less.refl _
 rintro ⟨Q,hi,d2⟩ ⟨g1,g2,R2,H⟩;intro _ _ J I;(try dsimp only at *);refine zau ?_;refine AWP.sub _ J (AWP.less _ I ?_);clear J I;have z2:=R2.size;have aC:=zwK hi;refine r2_ ?_;refine AWP.join (X:=Bool) (λx=>[(0,.slice (some ⟨b,0,none⟩) n cap),(1,.int .i64 C),(2,.int .i64 e1),(3,.int .i64 l2),(8,.bool U),(9,.bool w2),(10,.int .i64 ((e1-C:Nat):Int)),(11,.int .i64 Q),(68,.bool x)]) (λx=>S.set b ⟨27,(d2).toList.map encU,room⟩) (λx=>x=(U && w2 && decide (hi = .increasing))) ?_ ?_
 ·cases U
  ·refine r10_ ?_;refine ⟨false,?_,?_,?_⟩<;>try dsimp only
   ·rfl
   ·exact ⟨sb_,sb_,sb_,sb_,sb_,sb_,sb_,sb_,sb_,trivial⟩
   exact Mem.Less.refl _
  cases w2
  ·refine r10_ ?_;refine ⟨false,?_,?_,?_⟩<;>try dsimp only
   ·rfl
   ·exact ⟨sb_,sb_,sb_,sb_,sb_,sb_,sb_,sb_,sb_,trivial⟩
   exact Mem.Less.refl _
  refine r7_ ?_
  first|refine k_q 65 ?_|refine rG 65 (vi rfl rfl (zag (zaV _ _) aC)) ?_
  refine r2_ ?_;refine ⟨(decide (hi = .increasing)),?_,?_,?_⟩<;>try dsimp only
  ·simp
  ·exact ⟨sb_,sb_,sb_,sb_,sb_,sb_,sb_,sb_,sb_,trivial⟩
  exact Mem.Less.refl _
 rintro x hx;intro _ _ J I;(try dsimp only at *);refine zau ?_;refine AWP.sub _ J (AWP.less _ I ?_);clear J I;rw [pdq2,<- hx] at H;refine AWP.join (X:=Array Nat) (λx=>[(0,.slice (some ⟨b,0,none⟩) n cap),(1,.int .i64 C),(2,.int .i64 e1),(3,.int .i64 l2),(8,.bool U),(9,.bool w2),(10,.int .i64 ((e1-C:Nat):Int)),(11,.int .i64 Q)]) (λx=>S.set b ⟨27,(x).toList.map encU,room⟩) (λx=>Rw (λ_=>True) n x/\pdq3 ltN x C e1 l2 U w2 Q=pdq ltN d a e A true true) ?_ ?_
 ·cases x
  ·refine cF_ ?_;refine s1_ ?_;refine ⟨d2,?_,?_,?_⟩<;>try dsimp only
   ·exact ⟨R2,H⟩
   ·exact ⟨sb_,sb_,sb_,sb_,sb_,sb_,sb_,sb_,trivial⟩
   exact Mem.Less.refl _
  refine cT_ ?_;obtain ⟨⟨W,pb⟩,an⟩ : ∃ q,q=partialInsertionSort ltN d2 C e1:=⟨_,rfl⟩;rw [if_pos rfl,<- an] at H;dsimp only at H;refine r5_ ?_;refine ca_ rfl ((an ▸ zsi b room n cap hb hn d2 R2 _ _ C e1 rfl rfl vd vd)) ?_;rintro _ _ ⟨rfl,rfl,R3⟩;refine r2_ ?_;refine kw_ [0,1,2,3,8,9,10,11,68,72] ?_;cases pb
  ·refine cF_ ?_;refine s1_ ?_;refine ⟨W,?_,?_,?_⟩<;>try dsimp only
   ·exact ⟨R3,H⟩
   ·exact ⟨sb_,sb_,sb_,sb_,sb_,sb_,sb_,sb_,trivial⟩
   exact Mem.Less.refl _
  refine cT_ ?_;refine r6_ ?_;refine ⟨_,_,rfl,Mem.Less.refl _,?_⟩;rw [<- H];exact ⟨rfl,R3⟩
 rintro W ⟨R3,H⟩;intro _ _ J I;(try dsimp only at *);refine zau ?_;refine AWP.sub _ J (AWP.less _ I ?_);clear J I;clear hx;have z3:=R3.size;refine r2_ ?_;refine AWP.join (X:=Bool) (λx=>[(0,.slice (some ⟨b,0,none⟩) n cap),(1,.int .i64 C),(2,.int .i64 e1),(3,.int .i64 l2),(8,.bool U),(9,.bool w2),(10,.int .i64 ((e1-C:Nat):Int)),(11,.int .i64 Q),(87,.bool x)]) (λx=>S.set b ⟨27,(W).toList.map encU,room⟩) (λx=>x=(decide (C > 0) && !ltN W[C-1]! W[Q]!)) ?_ ?_
 ·by_cases h0:0<C
  ·refine dr_ [i0_,i1_,i2_,i3_,i4_,i5_,i6_,i7_,i8_,i9_,i10_,i11_,o12_,i13_,i14_] [] ?_;refine r7_ ?_
   first|refine k_d ?_|refine dL (hc:=Calm.load zaf rfl (zak (k:=C-1) own_ rw_ rw_)) (h:=?_)
   refine r3_ ?_
   first|refine k_d ?_|refine dL (hc:=Calm.load zaf rfl (zak (k:=Q) own_ rw_ rw_)) (h:=?_)
   refine zac rfl ?_;refine vv 2 true 75 rfl (zab rfl) rfl (zab rfl) zc_ rfl (za8 _ _ _) ?_;rintro _ _ ⟨rfl,rfl⟩;refine zad ⟨ny_,?_⟩;refine r3_ ?_;refine ⟨(!ltN W[C-1]! W[Q]!),?_,?_,?_⟩<;>try dsimp only
   ·rw [decide_eq_true h0];rfl
   ·exact ⟨sb_,sb_,sb_,sb_,sb_,sb_,sb_,sb_,sb_,trivial⟩
   exact Mem.Less.refl _
  refine dr_ [i0_,i1_,i2_,i3_,i4_,i5_,i6_,i7_,i8_,i9_,i10_,i11_,o12_,i13_,i14_] [] ?_;refine r7_ ?_
  first|refine k_d ?_|refine dL (hc:=Calm.load zaf rfl (zak (k:=C-1) own_ rw_ rw_)) (h:=?_)
  refine r3_ ?_
  first|refine k_d ?_|refine dL (hc:=Calm.load zaf rfl (zak (k:=Q) own_ rw_ rw_)) (h:=?_)
  refine zac rfl ?_;refine s1_ ?_;refine zad ⟨ny_,?_⟩;refine r3_ ?_;refine ⟨false,?_,?_,?_⟩<;>try dsimp only
  ·rw [decide_eq_false h0];rfl
  ·exact ⟨sb_,sb_,sb_,sb_,sb_,sb_,sb_,sb_,sb_,trivial⟩
  exact Mem.Less.refl _
 rintro x hx;intro _ _ J I;(try dsimp only at *);refine zau ?_;refine AWP.sub _ J (AWP.less _ I ?_);clear J I;rw [pdq3,<- hx] at H;cases x
 ·refine cF_ ?_;obtain ⟨⟨md,ap,d4⟩,V⟩ : ∃ q,q=partition ltN W C e1 Q:=⟨_,rfl⟩;rw [if_neg Bool.false_ne_true,<- V] at H;dsimp only at H;refine r8_ ?_;refine ca_ rfl ((V ▸ zsg b room n cap hb hn W R3 _ _ _ C e1 Q rfl rfl rfl vd vd vd)) ?_;rintro _ _ ⟨rfl,rfl,R4,g3,g4⟩;dsimp only at R4 g3 g4;rw [if_pos ⟨g3,g4⟩] at H;refine r7_ ?_;by_cases av:md-C<e1-md
  ·rw [if_pos av] at H;refine r32_ ?_;refine kw_ [0,1,2,3,8,9,10,11,87,14,15,16,17,18,113] ?_;refine cT_ ?_;refine r14_ ?_;refine ca_ rfl (ih (md-C) vd d4 R4 _ _ _ C md l2 rfl rfl rfl vd vd vd rfl) ?_;rintro _ _ ⟨rfl,R5⟩;refine r9_ ?_;refine ⟨(md+1,e1,l2,decide (md-C >= (e1-C) / 8),ap,pdq ltN d4 C md l2 true true),?_,?_,?_,?_⟩<;>try dsimp only
   ·exact ⟨sb_,sb_,sb_,sb_,wbv_ vd,sb_,trivial⟩
   ·exact Mem.Less.refl _
   ·exact ⟨by omega,by omega,R5,by omega,by omega,H⟩
   omega
  rw [if_neg av] at H;refine r25_ ?_;refine kw_ [0,1,2,3,8,9,10,11,87,14,15,16,17,18] ?_;refine r7_ ?_;refine cF_ ?_;refine r15_ ?_;refine ca_ rfl (ih (e1-(md+1)) vd d4 R4 _ _ _ (md+1) e1 l2 om_ rfl rfl vd vd vd rfl) ?_;rintro _ _ ⟨rfl,R5⟩;refine r8_ ?_;refine ⟨(C,md,l2,decide (e1-md >= (e1-C) / 8),ap,pdq ltN d4 (md+1) e1 l2 true true),?_,?_,?_,?_⟩<;>try dsimp only
  ·exact ⟨sb_,sb_,sb_,sb_,wbv_ vd,sb_,trivial⟩
  ·exact Mem.Less.refl _
  ·exact ⟨by omega,by omega,R5,by omega,by omega,H⟩
  omega
 refine cT_ ?_;obtain ⟨⟨md,d4⟩,V⟩ : ∃ q,q=partitionEqual ltN W C e1 Q:=⟨_,rfl⟩;rw [if_pos rfl,<- V] at H;dsimp only at H;refine r6_ ?_;refine ca_ rfl ((V ▸ zmP b room n cap hb hn W R3 _ _ _ C e1 Q rfl rfl rfl vd vd vd)) ?_;rintro _ _ ⟨rfl,rfl,R4,g3,g4⟩;dsimp only at R4 g3 g4;rw [if_pos ⟨g3,g4⟩] at H;refine r9_ ?_;refine kw_ [0,1,2,3,8,9,10,11,87,13] ?_;refine r4_ ?_;refine ⟨(md,e1,l2,U,w2,d4),?_,?_,?_,?_⟩<;>try dsimp only
 ·exact ⟨sb_,sb_,sb_,sb_,sb_,sb_,trivial⟩
 ·exact Mem.Less.refl _
 ·exact ⟨by omega,by omega,R4,by omega,by omega,H⟩
 omega
theorem zsj {S:Mem} (b room n cap:Nat) (C:Fresh S b) (A:n<=1048576) (d:Array Nat) (R:Rw (λ_=>True) n d) :
  ACall prog 75 #[.slice (some ⟨b,0,none⟩) n cap] (S.set b ⟨27,(d).toList.map encU,room⟩) λr S'=>S'=S.set b ⟨27,(pdq ltN d 0 n (bitsLen n) true true).toList.map encU,room⟩/\Rw (λ_=>True) n (pdq ltN d 0 n (bitsLen n) true true):=by
 have I:=zeo n A;refine k_E1 11 func75 ?_;refine r12_ ?_;refine ca_ rfl (zlA n vd _) ?_;rintro _ _ ⟨rfl,rfl⟩;refine ca_ rfl (zu2 b room n cap C A (n-0) d R _ _ _ 0 n (bitsLen n) rfl rfl rfl (Nat.zero_le _) (Nat.le_refl _) vd rfl) ?_;rintro _ _ ⟨rfl,H⟩;refine s1_ ?_;refine ⟨_,_,rfl,Mem.Less.refl _,?_⟩;exact ⟨rfl,H⟩
theorem zsk (S:Mem):ACall prog 196 #[.slice none 0 0,.int .i64 0,.int .i64 0] S λr S'=>S'=S:=by
 refine k_E3 49 func196 ?_;refine r8_ ?_;refine AWP.loop (X:=Unit) (λ_=>[(0,.slice none 0 0),(2,.int .i64 0),(6,.int .i64 1)]) (λ_=>S) (λ_=>True) (λ_=>0) (()) ⟨sb_,sb_,sb_,trivial⟩ (Mem.Less.refl _) (trivial) ?_;rintro _ _;(try dsimp only at *);refine r8_ ?_;refine cF_ ?_;refine r4_ ?_;refine ⟨_,S,rfl,Mem.Less.refl _,?_⟩;exact rfl
theorem zsl (S:Mem):ACall prog 136 #[.slice none 0 0,.int .i64 0,.int .i64 0,.int .i64 0] S λr S'=>S'=S:=by
 refine k_E4 134 func136 ?_;refine r11_ ?_;refine AWP.loop (X:=Unit) (λ_=>[(0,.slice none 0 0),(1,.int .i64 0),(2,.int .i64 0)]) (λ_=>S) (λ_=>True) (λ_=>0) (()) ⟨rfl,rfl,rfl,trivial⟩ (Mem.Less.refl _) (trivial) ?_;rintro _ _;(try dsimp only at *);refine r16_ ?_;refine cT_ ?_;refine r5_ ?_;refine ca_ rfl (zsk S) ?_;rintro _ C A;rw [A];clear A C;refine r7_ ?_;refine ⟨_,S,rfl,Mem.Less.refl _,?_⟩;exact rfl
theorem zpW (S:Mem):ACall prog 75 #[.slice none 0 0] S λr S'=>S'=S:=by
 refine k_E1 11 func75 ?_;refine r12_ ?_;refine cp_ rfl (zlA 0 vd _) ?_;refine ca_ rfl (zsl S) ?_;rintro _ C A;rw [A];clear A C;refine s1_ ?_;refine ⟨_,S,rfl,Mem.Less.refl _,?_⟩;exact rfl
end
section
open Go.RowKit
open Mv Num Loser Srt
theorem zmQ (v:tu) (x:Nat) (D:List Nat) (S:Mem) (hv:Sl 1 (λy=>[encU y]) S v D) (hs:D.Pairwise (· < ·)) (V:x ∈ D) (hl:D.length<=1048576) :
  ACall prog 77 #[v,encU x] S λr S'=>r = .tuple #[.int .i64 (cntL D x:Nat),.bool true]/\S'=S:=by
 obtain ⟨a,cap,rfl,h1,h2,h3⟩:=id hv;obtain ⟨b,o,rfl,A⟩:=h3.resolve_left (λe=>by rw [e] at V;cases V);refine k_E2 54 func77 ?_;refine r22_ ?_;refine AWP.loop (X:=Nat × Nat) (λy=>[(0,.slice (some ⟨b,o,none⟩) D.length cap),(1,encU x),(6,.int .i64 D.length),(7,.int .i64 y.1),(8,.int .i64 y.2)]) (λy=>S) (λy=>y.1<=y.2/\y.2<=D.length/\(∀ k (A:k<D.length),k<y.1->D[k]<x) /\ ∀ k (A:k<D.length),y.2<=k->x<=D[k]) (λy=>y.2-y.1) ((0,D.length)) ⟨rfl,rfl,rfl,rfl,rfl,trivial⟩ (Mem.Less.refl _) (⟨Nat.zero_le _,Nat.le_refl _,λk _ h=>absurd h (Nat.not_lt_zero _),λk A h=>absurd A (Nat.not_lt.2 h)⟩) ?_;rintro ⟨i,j⟩ ⟨q1,q2,Q,W⟩;(try dsimp only at *);by_cases ad:i<j
 ·refine r8_ ?_;refine cT_ ?_;obtain ⟨m,hm⟩ : ∃ m,m=(i+j) / 2:=⟨_,rfl⟩;have C:m<D.length:=by omega
  have ai:S.Knows ⟨b,o+m*1,none⟩ [encU D[m]]:=A m C;have e2:((i:Int)+j) / 2 ^ Int.toNat 1=(m:Int):=by rw [hm];show ((i:Int)+j) / 2=_;omega
  have e3:IntKind.i64.wrap (((i:Int)+j) / 2 ^ Int.toNat 1)=(m:Int):=by rw [e2];exact IntWalk.i64_in _ vd
  refine r14_ ?_;refine AWP.sub [(0,.slice (some ⟨b,o,none⟩) D.length cap),(1,encU x),(6,.int .i64 D.length),(7,.int .i64 i),(8,.int .i64 j),(9,.int .i64 m),(15,.bool true)] ⟨rfl,rfl,rfl,rfl,rfl,by first | exact congrArg (λq=>some (Value.int .i64 q)) e2 | exact congrArg (λq=>some (Value.int .i64 q)) e3,rfl,trivial⟩ ?_;refine r7_ ?_;refine cp_ rfl (za8 D[m] x _) ?_;refine r2_ ?_;refine kw_ [0,1,6,7,8,15,9,27] ?_;refine vp rfl (λI=>?_) (λI=>?_)
  ·refine r7_ ?_;refine ⟨(m+1,j),?_,?_,?_,?_⟩<;>try dsimp only
   ·exact ⟨sq_,sq_,sq_,sq_,sq_,trivial⟩
   ·exact Mem.Less.refl _
   ·exact ⟨by omega,q2,λk A h=>by have hd:D[m]<x:=of_decide_eq_true I;rcases Nat.lt_or_ge k m with h' | h';(have:=List.pairwise_iff_getElem.1 hs k m A C h';omega);(obtain rfl:k=m:=vd;exact hd),W⟩
   omega
  refine r6_ ?_;refine ⟨(i,m),?_,?_,?_,?_⟩<;>try dsimp only
  ·exact ⟨sq_,sq_,sq_,sq_,sq_,trivial⟩
  ·exact Mem.Less.refl _
  ·exact ⟨by omega,by omega,Q,λk A h=>by have hd : ¬ D[m]<x:=of_decide_eq_false I;rcases Nat.lt_or_ge m k with h' | h';(have:=List.pairwise_iff_getElem.1 hs m k C A h';omega);(obtain rfl:k=m:=vd;omega)⟩
  omega
 obtain rfl:i=j:=by omega
 refine r8_ ?_;refine cF_ ?_;have Y:=zwH D x i q2 Q W;obtain ⟨k,H,aa⟩:=List.getElem_of_mem V;have J:i<D.length:=by rcases Nat.lt_or_ge i D.length with h | h;(exact h);(have:=Q k H vd;omega)
 have U:D[i]=x:=by rcases Nat.lt_trichotomy i k with h | h | h;(have:=List.pairwise_iff_getElem.1 hs i k J H h;have:=W i J (Nat.le_refl _);omega);(subst h;exact aa);(have:=Q k H h;omega)
 have ah:S.Knows ⟨b,o+i*1,none⟩ [encU x]:=by rw [<- U];exact A i J
 rw [Y];unfold encU at *;refine r35_ ?_;refine ⟨_,S,⟨_,_,rfl,⟨_,_,rfl,rfl,rfl⟩,rfl⟩,zae,?_⟩;exact ⟨rfl,rfl⟩
theorem zpX (v:tu) (l:List Nat) (S:Mem) (Q:Sl 1 (λy=>[encU y]) S v l) (X:l.length<=4096) :
  ACall prog 74 #[v] S λr S'=>∃ o,OkO S o l.length/\r=outV o l.length/\S'=outM S o 27 (l.map encU):=by
 obtain ⟨a,cap,rfl,h1,W,U⟩:=id Q;cases a with
 | none =>
  obtain rfl:l = []:=U.resolve_right (λ⟨b,o,e,_⟩=>by cases e);refine k_E1 8 func74 ?_;refine r12_ ?_;refine cT_ ?_;refine r7_ ?_;refine ⟨_,S,⟨_,_,rfl,rfl,rfl⟩,zae,?_⟩;exact ⟨none,zbO _,rfl,rfl⟩
 | some Y =>
  have A:=zs9 Q;refine k_E1 8 func74 ?_;refine r12_ ?_;refine cF_ ?_;refine r4_ ?_;refine uh (zab rfl) zbi ?_;intro V H;have I:=H
  repeat ((with_reducible replace I:=zaa I);obtain ⟨I,_⟩:=I)
  refine s1_ ?_;refine vJ (n:=1) (o:=some (V,0)) (k:=0) (m:=l.length) (cs:=[]) (news:=l.map encU) (zab rfl) zbi rfl rfl rfl (zbE H (Nat.zero_le _)) (zwy (zbE H (Nat.zero_le _)) rfl) rfl (A.less (vh _ _ _ H.1)) (by rw [List.length_map,Nat.mul_one]) (zpD (λ_=>rfl) _) vd vd ?_;intro J C;rw [Nat.zero_add] at C;refine r4_ ?_;refine ⟨_,_,⟨_,_,rfl,rfl,rfl⟩,Mem.Less.refl _,?_⟩;exact ⟨J,C,by show outV J (0+l.length)=_;rw [Nat.zero_add],by rw [zh4];rfl⟩
theorem zsm (A:List Nat) (k:Nat) (zs:List tu) (h:zs.length=A.length-k):spl (A.map encU) k zs=(A.take k).map encU ++ zs:=by
 unfold spl;rw [List.drop_of_length_le (by rw [List.length_map];omega),List.append_nil,List.map_take]
theorem zkz (b room cap:Nat) (L:List Nat) (n:Nat) (Y:L.length=n) (S:Mem) (hb:Fresh S b) (hL:L.Pairwise (· <= ·)) (aB:n<=4096) (hc:n<=cap) :
  ACall prog 76 #[.slice (some ⟨b,0,none⟩) n cap] (S.set b ⟨27,L.map encU,room⟩) λr S'=>∃ (D:List Nat) (zs:List tu),r = .slice (some ⟨b,0,none⟩) D.length cap/\S'=S.set b ⟨27,D.map encU ++ zs,room⟩/\D.Pairwise (· < ·)/\(∀ x ∈ L,x ∈ D)/\D.length<=n:=by
 have V:∀ i j (hi:i<L.length) (hj:j<L.length),i<j->L.getD i 0<=L.getD j 0:=λi j hi hj ac=>by rw [zal _ _ _ hi,zal _ _ _ hj];exact List.pairwise_iff_getElem.1 hL i j hi hj ac
 have C:∀ (c:List tu),(S.set b ⟨27,c,room⟩).own b=some ⟨27,c,room⟩:=λc=>vf _ _ _;by_cases h2:n<2
 ·skip
  refine k_E1 61 func76 ?_;refine r13_ ?_;refine cT_ ?_;refine r8_ ?_;refine ⟨_,_,⟨_,_,rfl,rfl,rfl⟩,Mem.Less.refl _,?_⟩;exact ⟨L,[],by rw [Y];rfl,by rw [List.append_nil],by (match L,Y with | [],_=>exact List.Pairwise.nil | [x],_=>exact List.pairwise_singleton _ _ | _ :: _ :: _,h=>simp at h;omega),λx J=>J,by omega⟩
 refine k_E1 61 func76 ?_;refine r13_ ?_;refine cF_ ?_;refine r9_ ?_;refine AWP.loop (X:=Nat) (λk=>[(0,.slice (some ⟨b,0,none⟩) n cap),(3,.int .i64 k)]) (λk=>S.set b ⟨27,L.map encU,room⟩) (λk=>1<=k/\k<=n /\ ∀ i,i+1<k->L.getD i 0<L.getD (i+1) 0) (λk=>n-k) (1) ⟨rfl,rfl,trivial⟩ (Mem.Less.refl _) (⟨Nat.le_refl _,by omega,λi h=>by have h':i+1<1:=h;omega⟩) ?_;rintro k ⟨q1,q2,q3⟩;(try dsimp only at *);by_cases hk:k<n
 ·refine r9_ ?_;refine cT_ ?_;obtain ⟨j,rfl⟩ : ∃ j,k=j+1:=⟨k-1,by omega⟩;obtain ⟨x,J⟩ : ∃ x,x=L.getD (j+1) 0:=⟨_,rfl⟩;obtain ⟨y,W⟩ : ∃ y,y=L.getD j 0:=⟨_,rfl⟩;have ae:L[j+1]'vd=x:=by rw [J,zal _ _ _ vd]
  have al:L[j]'vd=y:=by rw [W,zal _ _ _ vd]
  have ay:y<=x:=by rw [J,W];exact V j (j+1) vd vd vd
  refine r5_ ?_;refine dr_ [i0_,i1_,i2_,i3_,i4_,i5_,i6_,i7_,i8_,i9_] [] ?_;refine r3_ ?_;refine dC (hc:=Calm.as (show encU (L[j+1]'vd) = .int .u64 (x:Int) by rw [ae];rfl) (Calm.load zaf rfl (zbe (g:=encU) (j+1) vd (C _) rw_))) (h:=?_);refine r4_ ?_;refine dC (hc:=Calm.as (show encU (L[j]'vd) = .int .u64 (y:Int) by rw [al];rfl) (Calm.load zaf rfl (zbe (g:=encU) j vd (C _) rw_))) (h:=?_);refine r3_ ?_;refine kw_ [0,3,13,25] ?_;by_cases he:x=y
  ·refine cT_ ?_;have af:=CpI.start (L:=L) (k:=j+1) vd vd q3 (by rw [<- J,he,W];rfl);refine r8_ ?_;refine AWP.sub [(0,.slice (some ⟨b,0,none⟩) n cap),(3,.int .i64 ((j+1:Nat):Int)),(4,.slice (some ⟨b,j+1,none⟩) (n-(j+1)) (cap-(j+1)))] ⟨rfl,rfl,by show some _=some _;rw [Int.toNat_natCast,if_neg vd,Nat.zero_add,Nat.mul_one],trivial⟩ ?_;refine r7_ ?_;refine AWP.loop (X:=List Nat × Nat × Nat) (λz=>[(0,.slice (some ⟨b,0,none⟩) n cap),(3,.int .i64 z.2.1),(4,.slice (some ⟨b,j+1,none⟩) (n-(j+1)) (cap-(j+1))),(5,.int .i64 z.2.2)]) (λz=>S.set b ⟨27,z.1.map encU,room⟩) (λz=>1<=z.2.2/\j+1+z.2.2<=n/\CpI L z.1 z.2.1 (j+1+z.2.2)) (λz=>n-z.2.2) ((L,j+1,1)) ⟨rfl,rfl,rfl,rfl,trivial⟩ (Mem.Less.refl _) (⟨Nat.le_refl _,hk,af⟩) ?_;rintro ⟨A,k,c⟩ ⟨r1,r2,I⟩;(try dsimp only at *);have rA:=I.1;have rk:=I.2.2.1;by_cases ao:c<n-(j+1)
   ·refine r9_ ?_;refine cT_ ?_;obtain ⟨q,hq⟩ : ∃ q,q=j+c:=⟨_,rfl⟩;have ai:j+1+c=q+1:=(by omega);rw [ai] at I rk;have H:q+1<L.length:=(by omega);obtain ⟨w,U⟩ : ∃ w,w=L.getD (q+1) 0:=⟨_,rfl⟩;obtain ⟨u,hu⟩ : ∃ u,u=L.getD q 0:=⟨_,rfl⟩;have Q:A[q+1]'vd=w:=(by rw [U,<- I.2.2.2.2.1 (q+1) vd,zal _ _ _ vd]);have ad:A[q]'vd=u:=(by rw [hu,<- I.2.2.2.2.1 q vd,zal _ _ _ vd]);have av:u<=w:=(by rw [U,hu];exact V q (q+1) vd vd vd);refine r5_ ?_;refine dr_ [i0_,i1_,i2_,i3_,i4_,i5_,i6_,i7_,i8_,i9_] [] ?_;refine r3_ ?_;refine dC (hc:=Calm.as (show encU (A[q+1]'vd) = .int .u64 (w:Int) by rw [Q];rfl) (Calm.load zaf rfl (zbe (g:=encU) (q+1) vd (C _) vd))) (h:=?_);refine r4_ ?_;refine dC (hc:=Calm.as (show encU (A[q]'vd) = .int .u64 (u:Int) by rw [ad];rfl) (Calm.load zaf rfl (zbe (g:=encU) q vd (C _) vd))) (h:=?_);refine r3_ ?_;by_cases ak:w=u
    ·refine cF_ ?_;refine r9_ ?_;refine ⟨(A,k,c+1),?_,?_,?_,?_⟩<;>try dsimp only
     ·exact ⟨sq_,sq_,sq_,sq_,trivial⟩
     ·exact Mem.Less.refl _
     ·exact ⟨by omega,by omega,by rw [show j+1+(c+1)=q+1+1 by omega];exact I.same H (by rw [<- U,ak,hu];rfl)⟩
     omega
    refine cT_ ?_;refine r7_ ?_;refine rC (Calm.as (show encU (A[q+1]'vd) = .int .u64 (w:Int) by rw [Q];rfl) (Calm.load zaf rfl (zbe (g:=encU) (q+1) vd (C _) vd))) ?_;refine r4_ ?_;rw [Int.toNat_natCast,Nat.mul_one];refine r7_ ?_;refine kw_ [0,3,4,5,32,44] ?_;refine r6_ ?_;refine ⟨(A.set k w,k+1,c+1),?_,?_,?_,?_⟩<;>try dsimp only
    ·exact ⟨sq_,sq_,sq_,sq_,trivial⟩
    ·rw [List.map_set];exact Mem.Less.refl _
    ·exact ⟨by omega,by omega,by rw [show j+1+(c+1)=q+1+1 by omega,U];exact I.more H (by rw [<- U,Nat.add_sub_cancel,<- hu];omega)⟩
    omega
   refine r9_ ?_;refine cF_ ?_;have H:j+1+c=L.length:=(by omega);rw [H] at I;obtain ⟨d1,d2,d3,d4⟩:=I.done;refine r10_ ?_;refine v_ (b:=b) (o:=k) (k:=n-k) (c:=cap-k) zbi rfl (λv hv=>by simp at hv;rw [hv];rfl) (by show some _=some _;rw [Int.toNat_natCast,if_neg vd,Nat.zero_add,Nat.mul_one]) (C _) (by simp;omega) (.inl (by simp;omega)) ?_;intro zs ag;refine r16_ ?_;refine ⟨_,_,⟨_,_,rfl,rfl,rfl⟩,Mem.Less.refl _,?_⟩;exact ⟨A.take k,zs,by rw [d3];rfl,by rw [zsm A k zs (by rw [Nat.mul_one] at ag;omega),Mem.set_set],d1,d2,by omega⟩
  refine cF_ ?_;refine r9_ ?_;refine ⟨j+2,?_,?_,?_,?_⟩<;>try dsimp only
  ·exact ⟨sq_,sq_,trivial⟩
  ·exact Mem.Less.refl _
  ·exact ⟨by omega,hk,λi hi=>by rcases Nat.lt_or_ge (i+1) (j+1) with h | h;(exact q3 i h);(obtain rfl:i=j:=vd;rw [<- J,<- W];omega)⟩
  omega
 obtain rfl:k=n:=by omega
 refine r9_ ?_;refine cF_ ?_;refine r11_ ?_;refine kw_ [0,3,13,2] ?_;refine s1_ ?_;refine ⟨_,_,⟨_,_,rfl,rfl,rfl⟩,Mem.Less.refl _,?_⟩;exact ⟨L,[],by rw [Y];rfl,by rw [List.append_nil],zgi L (by rw [Y];exact q3),λx J=>J,by omega⟩
theorem zjc (S:Mem):ACall prog 76 #[.slice none 0 0] S λr S'=>r = .slice none 0 0/\S'=S:=by
 refine k_E1 61 func76 ?_;refine r13_ ?_;refine cT_ ?_;refine r8_ ?_;refine ⟨_,S,⟨_,_,rfl,rfl,rfl⟩,zae,?_⟩;exact ⟨rfl,rfl⟩
theorem zpY (v:tu) (l:List Nat) (S:Mem) (hv:Sl 1 (λy=>[encU y]) S v l) (hl:l.length<=4096) :
  ACall prog 30 #[v] S λr S'=>∃ D:List Nat,(∀ x ∈ l,x ∈ D)/\D.length<=l.length/\RdL gI (l.map (cntL D)) S r S':=by
 obtain ⟨a,cap,rfl,h1,h2,h3⟩:=id hv;obtain ⟨n,V⟩ : ∃ n,n=l.length:=⟨_,rfl⟩;have W:=zpX _ l S hv hl;rw [<- V] at W hl h1 ⊢;refine k_E1 34 func30 ?_;refine r8_ ?_;refine ca_ rfl (W) ?_;rintro _ _ ⟨o,ho,rfl,rfl⟩;refine r3_ ?_;cases o
 ·obtain rfl:n=0:=ho.nil rfl;have U:l = []:=List.length_eq_zero_iff.1 V.symm;refine r3_ ?_;refine ca_ rfl (zpW _) ?_;rintro _ S1 e1;rw [e1];clear e1 S1;refine r5_ ?_;refine cp_ rfl (zjc _) ?_;refine r7_ ?_;refine ARun.makeSlice (zab rfl) zat rfl rfl vd vd vd vd ?_;intro C I;have A:=I
  repeat ((with_reducible replace A:=zaa A);obtain ⟨A,_⟩:=A)
  refine r12_ ?_;refine AWP.loop (X:=Unit) (λx=>[(4,.slice (some ⟨C,0,none⟩) 0 0),(17,.int .i64 0),(18,.int .i64 0)]) (λx=>S.set C ⟨3,[],0⟩) (λx=>l = []) (λx=>0) (()) ⟨rfl,rfl,rfl,trivial⟩ (by rw [zaT];exact Mem.Less.refl _) (U) ?_;rintro _ _;(try dsimp only at *);refine r6_ ?_;refine cF_ ?_;refine r11_ ?_;refine kw_ [4,17,18,19,2] ?_;refine s1_ ?_;refine ⟨_,_,⟨_,_,rfl,rfl,rfl⟩,Mem.Less.refl _,?_⟩;exact ⟨[],(λx hx=>absurd (U ▸ hx:x ∈ ([] : List Nat)) (List.not_mem_nil)),Nat.zero_le _,vh _ _ _ I.1,by rw [U];exact vN (g:=gI) (l:=[]) (vf _ _ _) List.prefix_rfl rfl (Nat.le_refl _) (by decide)⟩
 rename_i q;obtain ⟨b,c⟩:=q;obtain ⟨fb,aj⟩:=ho.own b c rfl;have hR:Rw (λ_=>True) n l.toArray:=⟨by simp [V],λ_ _=>trivial⟩;have H:=zsj (S:=S) b c n c fb vd l.toArray hR;obtain ⟨d',Q⟩ : ∃ d',d'=Go.Sort.pdq ltN l.toArray 0 n (Go.Sort.bitsLen n) true true:=⟨_,rfl⟩;obtain ⟨hp,hs⟩:=zmO l n V.symm d' Q;rw [<- Q] at H;obtain ⟨L,hL⟩ : ∃ L,L=d'.toList:=⟨_,rfl⟩;rw [<- hL] at H hp hs;have ad:L.length=n:=by rw [hp.length_eq];exact V.symm
 clear Q hR hL;refine r3_ ?_;refine ca_ rfl (H) ?_;rintro _ _ ⟨rfl,_⟩;refine r5_ ?_;refine ca_ rfl (zkz b c c L n ad S fb hs hl aj) ?_;rintro _ _ ⟨D,zs,rfl,rfl,ae,ag,ak⟩;have ac:∀ x ∈ l,x ∈ D:=λx hx=>ag x (hp.mem_iff.2 hx);obtain ⟨M,hM⟩ : ∃ M,M=S.set b ⟨27,D.map encU ++ zs,c⟩:=⟨_,rfl⟩;have aa:S.Less M:=by rw [hM];exact vh _ _ _ fb.1
 have am:Sl 1 (λy=>[encU y]) M (.slice (some ⟨b,0,none⟩) D.length c) D:=by rw [hM];exact vN (g:=encU) (l:=D) (vf _ _ _) (List.prefix_append _ _) rfl vd vd
 rw [<- hM];refine r7_ ?_;refine ARun.makeSlice (zab rfl) zat rfl rfl vd vd vd vd ?_;intro C I;have A:=I
 repeat ((with_reducible replace A:=zaa A);obtain ⟨A,_⟩:=A)
 refine r3_ ?_;rw [show madeL [Value.int .i64 0] (((n:Nat):Int).toNat*1)=([] : List Nat).map gI ++ List.replicate (n-0) (gI 0) by rw [zaT,Nat.mul_one];rfl,Nat.mul_one,Int.toNat_natCast];refine r9_ ?_;refine AWP.loop (X:=Nat) (λx=>[(3,.slice (some ⟨b,0,none⟩) D.length c),(4,.slice (some ⟨C,0,none⟩) n n),(16,.slice a n cap),(17,.int .i64 n),(18,.int .i64 x)]) (λx=>M.set C ⟨3,((l.take x).map (cntL D)).map gI ++ List.replicate (n-x) (gI 0),n⟩) (λx=>x<=n) (λx=>n-x) (0) ⟨rfl,rfl,rfl,rfl,rfl,trivial⟩ (Mem.Less.refl _) (Nat.zero_le _) ?_;rintro i hi;(try dsimp only at *);by_cases hc:i<n
 ·refine r6_ ?_;refine cT_ ?_;have J:i<l.length:=by omega
  obtain ⟨vb,vo,rfl,hk⟩:=h3.resolve_left (λe=>by rw [e] at J;exact absurd J (Nat.not_lt_zero _));have Y:M.Less (M.set C ⟨3,((l.take i).map (cntL D)).map gI ++ List.replicate (n-i) (gI 0),n⟩):=vh _ _ _ I.1;have aA:Mem.Knows (M.set C ⟨3,((l.take i).map (cntL D)).map gI ++ List.replicate (n-i) (gI 0),n⟩) ⟨vb,vo+i*1,none⟩ [encU l[i]]:=(hk i J).less (aa.trans Y);have aw:(((l.take i).map (cntL D)).map gI ++ List.replicate (n-i) (gI 0)).length=n:=by simp;omega
  refine r18_ ?_;refine cp_ rfl (zmQ _ l[i] D _ (am.less Y) ae (ac _ (List.getElem_mem J)) vd) ?_;refine r8_ ?_;refine kw_ [3,4,16,17,18,19,5,6] ?_;simp only [Nat.zero_add,Nat.mul_one,Int.toNat_natCast];have key:(((l.take i).map (cntL D)).map gI ++ List.replicate (n-i) (gI 0)).set i (gI (cntL D l[i]))=((l.take (i+1)).map (cntL D)).map gI ++ List.replicate (n-(i+1)) (gI 0):=by rw [zhu gI ((l.take i).map (cntL D)) 0 n i (cntL D l[i]) (by simp;omega) hc,show (l.take i).map (cntL D) ++ [cntL D l[i]]=(l.take (i+1)).map (cntL D) by rw [List.take_succ_eq_append_getElem J,List.map_append];rfl]
  refine AWP.less (M.set C ⟨3,((l.take (i+1)).map (cntL D)).map gI ++ List.replicate (n-(i+1)) (gI 0),n⟩) (by rw [<- key];exact Mem.Less.refl _) ?_;refine r5_ ?_;refine ⟨i+1,?_,?_,?_,?_⟩<;>try dsimp only
  ·exact ⟨sq_,sq_,sq_,sq_,sq_,trivial⟩
  ·exact Mem.Less.refl _
  ·exact hc
  omega
 obtain rfl:i=n:=by omega
 refine r6_ ?_;refine cF_ ?_;rw [Nat.sub_self,List.replicate_zero,List.append_nil,List.take_of_length_le vd];refine r12_ ?_;refine ⟨_,_,⟨_,_,rfl,rfl,rfl⟩,Mem.Less.refl _,?_⟩;exact ⟨D,ac,ak,aa.trans (vh _ _ _ I.1),vN (g:=gI) (l:=l.map (cntL D)) (vf _ _ _) List.prefix_rfl (by rw [List.length_map];exact V.symm) (Nat.le_refl _) vd⟩
def EndsN (l:List Nat) (S:Mem) (r:tu) (S':Mem):Prop:=(l.length<=4096 /\ ∃ u,r = .tuple #[u,.int .i64 0]/\OwnL gI 3 (Ord.endsR l l.length) S u S')\/(4096<l.length/\r = .tuple #[.slice none 0 0,.int .i64 1]/\S'=S)
theorem zsn (v:tu) (l:List Nat) (S:Mem) (J:RowR S v l) :
  ACall prog 10 #[v] S (EndsN l S):=by
 obtain ⟨va,vc,rfl,v1,v2,v3⟩:=id J;by_cases A:4096<l.length
 ·skip
  refine k_E1 10 func10 ?_;refine r14_ ?_;refine cT_ ?_;refine r8_ ?_;refine ⟨_,S,⟨_,_,rfl,⟨_,_,rfl,rfl,rfl⟩,rfl⟩,zae,?_⟩;exact .inr ⟨A,rfl,rfl⟩
 skip
 refine k_E1 10 func10 ?_;refine r14_ ?_;refine cF_ ?_;refine r5_ ?_;refine ca_ rfl (zpY _ l S J vd) ?_;rintro u W ⟨D,Q,ac,C,U⟩;refine ca_ rfl (zse u l (l.map (cntL D)) W U (by rw [List.length_map]) vd (λx V=>by obtain ⟨y,_,rfl⟩:=List.mem_map.1 V;have:=zps D y;omega) (zwI l D Q)) ?_;rintro X Y ⟨M2,H,I⟩;refine r5_ ?_;refine ⟨_,Y,⟨_,_,rfl,⟨_,_,rfl,rfl,rfl⟩,rfl⟩,Mem.Less.refl _,?_⟩;exact .inl ⟨by omega,X,rfl,M2,C.trans H,I⟩
theorem zpZ (v:tu) (l:List Nat) (S:Mem) (C:RowR S v l) :
  ACall prog 10 #[v] S (EndsR l S):=(zsn v l S C).mono λr S' h=>by
 rcases h with ⟨h,u,e,A⟩ | h
 ·exact .inl ⟨h,u,e,A.rd (by rw [(Ord.zdt l).len];omega)⟩
 exact .inr h
end
section
open Go.RowKit
open Mv
namespace Top
theorem zwL (S:Mem):ACall prog 37 #[.int .u64 5] S λr S'=>r = .int .i64 3/\S'=S:=by
 refine k_E1 25 func37 ?_;refine r12_ ?_;refine cF_ ?_;refine r9_ ?_;refine cF_ ?_;refine r9_ ?_;refine cF_ ?_;refine r6_ ?_;refine rC (Calm.conv rfl (zbz underlying27 underlying5 (show IntKind.u8.wrap 5=5 from by decide))) ?_;refine rC (Calm.as (v':=.int .u8 3) (show Value.int .u8 (nb (at8 _ 5))=Value.int .u8 3 from rfl) (vV (j:=5) (zav zaA) rfl rfl (by decide +kernel))) ?_;refine r6_ ?_;refine ⟨_,S,⟨_,_,rfl,rfl,rfl⟩,zae,?_⟩;exact ⟨rfl,rfl⟩
theorem zp0 (S:Mem):ACall prog 36 #[.int .i64 3] S λr S'=>r = .bool true/\S'=S:=by
 refine k_E1 9 func36 ?_;refine r17_ ?_;refine ⟨_,S,⟨_,_,rfl,rfl,rfl⟩,zae,?_⟩;exact ⟨rfl,rfl⟩
def bgN (x:Bool):Nat:=if x then 0 else 1
def wB (u n:Int):Blk:=⟨97,[.slice none 0 0,.int .u64 u,.int .i64 n],3⟩
def aS:tt:=⟨#[160]⟩
theorem zu3 (S:Mem):ACall prog 35 #[.agg #[.string ByteArray.empty,.int .i64 0]] S λr S'=>r = .int .i64 0/\S'=S:=by
 refine k_E1 40 func35 ?_;refine r2_ ?_;refine vD (cs:=[_,_]) (zab rfl) rfl ?_;intro C f1;have A:=f1
 repeat ((with_reducible replace A:=zaa A);obtain ⟨A,_⟩:=A)
 refine nl_ ?_;refine r27_ ?_;refine cF_ ?_;refine r29_ ?_;refine cF_ ?_;refine r8_ ?_;refine ⟨_,S,⟨_,_,rfl,rfl,rfl⟩,zae,?_⟩;exact ⟨rfl,rfl⟩
theorem zu4 (S:Mem):ACall prog 35 #[.agg #[.string aS,.int .i64 3]] S λr S'=>r = .int .i64 0/\S'=S:=by
 refine k_E1 40 func35 ?_;refine r2_ ?_;refine vD (cs:=[_,_]) (zab rfl) rfl ?_;intro C f1;have A:=f1
 repeat ((with_reducible replace A:=zaa A);obtain ⟨A,_⟩:=A)
 refine nl_ ?_;refine r17_ ?_
 first|refine k_q 12 ?_|refine rG 12 (Calm.as (v':=.int .i64 1) (show Value.int .i64 (aS.size:Nat) = .int .i64 1 from rfl) (ui (zav zaA) rfl)) ?_
 refine r9_ ?_;refine cF_ ?_;refine r7_ ?_;refine rC (Calm.as (v':=.int .i64 3) (show Value.int .i64 (3 % 8) = .int .i64 3 from rfl) (vi rfl rfl (zhf vd vd))) ?_;refine r12_ ?_
 first|refine k_q 28 ?_|refine rG 28 (Calm.as (v':=.int .i64 1) (show Value.int .i64 (aS.size:Nat) = .int .i64 1 from rfl) (ui (zav zaA) rfl)) ?_
 first|refine k_q 28 ?_|refine rG 28 (Calm.as (v':=.int .i64 0) (show Value.int .i64 (IntKind.i64.wrap (1-1)) = .int .i64 0 from rfl) (vi rfl rfl (zjf _ _))) ?_
 first|refine k_q 28 ?_|refine rG 28 (Calm.as (v':=.int .u8 160) (show Value.int .u8 (nb (at8 aS.data.toList 0)) = .int .u8 160 from rfl) (vV (j:=0) (zav zaA) rfl rfl (by decide +kernel))) ?_
 refine s1_ ?_
 first|refine k_q 28 ?_|refine rG 28 (Calm.as (v':=.int .u8 0) (show Value.int .u8 (IntKind.u8.wrap (160*2 ^ (3:Int).toNat)) = .int .u8 0 from congrArg (Value.int .u8) (by decide)) (vi rfl rfl zwR)) ?_
 refine r4_ ?_;refine cF_ ?_;refine r8_ ?_;refine ⟨_,S,⟨_,_,rfl,rfl,rfl⟩,zae,?_⟩;exact ⟨rfl,rfl⟩
theorem zu5 (p:Nat) (S:Mem) (U:Fresh S p) :
  ACall prog 38 #[.pointer (some ⟨p,0,none⟩),.agg #[.string ByteArray.empty,.int .i64 0]] (S.set p (wB 0 0)) λr S'=>r = .tuple #[]/\S'=S.set p (wB 0 0):=by
 refine k_E2 27 func38 ?_;refine r2_ ?_;refine vD (cs:=[_,_]) (zab rfl) rfl ?_;intro H J;have C:=J
 repeat ((with_reducible replace C:=zaa C);obtain ⟨C,_⟩:=C)
 refine nl_ ?_;refine r6_ ?_;refine ARun.alloc (zab rfl) zjv ?_;intro I Q;have A:=Q
 repeat ((with_reducible replace A:=zaa A);obtain ⟨A,_⟩:=A)
 refine nl_ ?_;refine r9_ ?_;refine AWP.loop (X:=Unit) (λx=>[(0,.pointer (some ⟨p,0,none⟩)),(3,.pointer (some ⟨H,0,none⟩)),(4,.pointer (some ⟨I,0,none⟩)),(5,.int .i64 0)]) (λx=>((S.set p (wB 0 0)).set H ⟨48,[.string ByteArray.empty,.int .i64 0],2⟩).set I ⟨169,[.string ByteArray.empty,.int .i64 0],2⟩) (λx=>True) (λx=>0) (()) ⟨rfl,rfl,rfl,rfl,trivial⟩ zae (trivial) ?_;rintro x _;(try dsimp only at *);refine r9_ ?_;refine cF_ ?_;refine r4_ ?_;refine ⟨_,S.set p (wB 0 0),rfl,zae,?_⟩;exact ⟨rfl,rfl⟩
theorem zwM (p:Nat) (S:Mem) (A:Fresh S p):ACall prog 39 #[.pointer (some ⟨p,0,none⟩),.int .u64 5,.int .i64 3] (S.set p (wB 0 0)) λr S'=>r = .tuple #[]/\S'=S.set p (wB 5 3):=by
 unfold wB;refine k_E3 74 func39 ?_;refine s1_ ?_;refine AWP.loop (X:=Bool) (λx=>[(0,.pointer (some ⟨p,0,none⟩)),(1,.int .u64 5),(2,.int .i64 (bif x then 0 else 3))]) (λx=>S.set p ⟨97,[.slice none 0 0,.int .u64 (bif x then 5 else 0),.int .i64 (bif x then 3 else 0)],3⟩) (λx=>0<1) (bgN) (false) ⟨rfl,rfl,rfl,trivial⟩ (Mem.Less.refl _) (Nat.zero_lt_one) ?_;rintro x _;(try dsimp only at *);cases x
 ·simp only [cond_true,cond_false];refine r7_ ?_;refine cT_ ?_;refine r16_ ?_;refine dr_ [i0_,i1_,i2_,i3_,i4_,i5_,i6_,i7_,i8_,i9_] [] ?_;refine r13_ ?_;refine dr_ [i0_,i1_,i2_,i3_,i4_,i5_,i6_,i7_,i8_,i9_,i10_,i11_,i12_,i13_,i14_,i15_,i16_,i17_,o18_,i19_,i20_,o21_] [18,21] ?_;refine r18_ ?_;refine zac rfl ?_;refine s1_ ?_;refine zad ⟨nz_,?_⟩;refine r2_ ?_;refine zac rfl ?_;refine s1_ ?_;refine zad ⟨nz_,?_⟩;refine r10_ ?_;refine kw_ [0,1,2,9,6,7] ?_;refine r9_ ?_;refine cF_ ?_;refine r3_ ?_;refine ⟨true,?_,?_,?_,?_⟩<;>try dsimp only
  ·exact ⟨rfl,rfl,rfl,trivial⟩
  ·exact zae
  ·exact Nat.zero_lt_one
  decide
 simp only [cond_true,cond_false];refine r7_ ?_;refine cF_ ?_;refine r4_ ?_;refine ⟨_,_,rfl,Mem.Less.refl _,?_⟩;exact ⟨rfl,rfl⟩
theorem zwN (p:Nat) (S:Mem) (h:S.own p=some (wB 5 3)):ACall prog 93 #[.pointer (some ⟨p,0,none⟩)] S λr S'=>r = .int .i64 3/\S'=S:=by
 unfold wB at h;refine k_E1 14 func93 ?_;refine r6_ ?_;refine dr_ [i0_,i1_,i2_,i3_,i4_,i5_,i6_,i7_,i8_,i9_,i10_,i11_] [] ?_;refine r15_ ?_;refine ⟨_,S,⟨_,_,rfl,rfl,rfl⟩,zae,?_⟩;exact ⟨rfl,rfl⟩
theorem zu6 (p:Nat) (S:Mem) (X:Fresh S p):ACall prog 40 #[.pointer (some ⟨p,0,none⟩)] (S.set p (wB 5 3)) λr S'=>r = .agg #[.string aS,.int .i64 3]/\S'=S.set p (wB 5 3):=by
 have V:=zwN p;unfold wB at *;refine k_E1 37 func40 ?_;refine r2_ ?_;refine ARun.alloc (zab rfl) zeE ?_;intro b2 W;have H:=W
 repeat ((with_reducible replace H:=zaa H);obtain ⟨H,_⟩:=H)
 refine nl_ ?_;refine r21_ ?_;refine cT_ ?_;refine dr_ [i0_,i1_,i2_,i3_,i4_,i5_,i6_,i7_,i8_,i9_,i10_,i11_,i12_,i13_,i14_,i15_,i16_,o17_,o18_,i19_] [18] ?_;refine r15_ ?_;refine dP (hc:=λ_=>Calm.as (v':=.int .u64 160) (show Value.int .u64 (IntKind.u64.wrap (5*2 ^ (5:Int).toNat)) = .int .u64 160 from congrArg (Value.int .u64) (by decide)) (vi rfl rfl (zew (a:=5) (b:=5) (by decide) (by decide)))) (h:=?_);refine dC (hc:=Calm.conv rfl (zbz underlying27 underlying5 (show IntKind.u8.wrap 160=160 from by decide))) (h:=?_);refine zac rfl ?_;refine vu (zab rfl) zbn rfl rfl ?_;intro Q I;have C:=I
 repeat ((with_reducible replace C:=zaa C);obtain ⟨C,_⟩:=C)
 refine zad ⟨ny_,?_⟩;refine zac rfl ?_;refine ue (zab rfl) zbn rfl rfl (news:=[_]) rds_ rfl vd vd vd ?_;intro bn Y J U;have A:=J
 repeat ((with_reducible replace A:=zaa A);obtain ⟨A,_⟩:=A)
 refine zad ⟨nz_,?_⟩;refine r4_ ?_;refine dr_ [i0_,i1_,i2_,o3_,i4_,o5_] [5] ?_;refine s1_ ?_;refine dC (hc:=Calm.as (v':=.string aS) rfl (vT zbs zaA rfl (l:=[160]) rfl rds_)) (h:=?_);refine s1_ ?_;refine zac rfl ?_;refine cp_ rfl (V _ own_) ?_;refine zad ⟨ny_,?_⟩;refine s1_ ?_;refine zac rfl ?_;refine s1_ ?_;refine zad ⟨nz_,?_⟩;refine r3_ ?_;refine ⟨_,S.set p ⟨97,[.slice none 0 0,.int .u64 5,.int .i64 3],3⟩,⟨_,_,_,rfl,.inr ⟨zfF,[_,_],zeD,rds_,rfl⟩,rfl,rfl⟩,zae,?_⟩;exact ⟨rfl,rfl⟩
theorem zwO (S:Mem):ACall prog 92 #[.agg #[.string aS,.int .i64 3],.int .i64 0,.int .i64 3] S λr S'=>r = .int .u64 5/\S'=S:=by
 refine k_E3 46 func92 ?_;refine r2_ ?_;refine vD (cs:=[_,_]) (zab rfl) rfl ?_;intro C H;have A:=H
 repeat ((with_reducible replace A:=zaa A);obtain ⟨A,_⟩:=A)
 refine nl_ ?_;refine r10_ ?_;refine AWP.loop (X:=Bool) (λx=>[(1,.int .i64 (bif x then 3 else 0)),(2,.int .i64 (bif x then 0 else 3)),(3,.pointer (some ⟨C,0,none⟩)),(7,.int .u64 (bif x then 5 else 0))]) (λx=>S.set C ⟨169,[.string aS,.int .i64 3],2⟩) (λx=>0<1) (bgN) (false) ⟨rfl,rfl,rfl,rfl,trivial⟩ (Mem.Less.refl _) (Nat.zero_lt_one) ?_;rintro x _;(try dsimp only at *);cases x
 ·simp only [cond_true,cond_false];refine r7_ ?_;refine cT_ ?_;refine r6_ ?_;refine rC (Calm.as (v':=.int .i64 0) (show Value.int .i64 (0 % 8) = .int .i64 0 from rfl) (vi rfl rfl (zhf (a:=0) (b:=8) (by decide) (by decide)))) ?_;refine r13_ ?_;refine dr_ [i0_,i1_,i2_,i3_,i4_,i5_,i6_,i7_,i8_,i9_,i10_,i11_,i12_,i13_,i14_,i15_] [] ?_;refine r4_ ?_;refine dP (hc:=λ_=>Calm.as (v':=.int .i64 0) (show Value.int .i64 (IntKind.i64.wrap ((0:Int).tdiv 8)) = .int .i64 0 from congrArg (Value.int .i64) (by decide)) (vi rfl rfl (zjh (a:=0) (b:=8) (by decide)))) (h:=?_);refine dC (hc:=Calm.as (v':=.int .u8 160) (show Value.int .u8 (nb (at8 aS.data.toList 0)) = .int .u8 160 from rfl) (vV (j:=0) (zav zaA) rfl rfl (by decide +kernel))) (h:=?_);refine r30_ ?_;refine ⟨true,?_,?_,?_,?_⟩<;>try dsimp only
  ·exact ⟨rfl,rfl,rfl,rfl,trivial⟩
  ·exact zae
  ·exact Nat.zero_lt_one
  decide
 simp only [cond_true,cond_false];refine r7_ ?_;refine kw_ [1,2,3,7,12] ?_;refine cF_ ?_;refine r12_ ?_;refine ⟨_,S,⟨_,_,rfl,rfl,rfl⟩,zae,?_⟩;exact ⟨rfl,rfl⟩
theorem zxj (S:Mem):ACall prog 41 #[.agg #[.string aS,.int .i64 3],.int .i64 0,.int .i64 3] S λr S'=>r = .int .u64 5/\S'=S:=by
 refine k_E3 12 func41 ?_;refine r2_ ?_;refine vD (cs:=[_,_]) (zab rfl) rfl ?_;intro H C;have A:=C
 repeat ((with_reducible replace A:=zaa A);obtain ⟨A,_⟩:=A)
 refine nl_ ?_;refine r9_ ?_;refine cp_ rfl (zwO _) ?_;refine r4_ ?_;refine ⟨_,S,⟨_,_,rfl,rfl,rfl⟩,zae,?_⟩;exact ⟨rfl,rfl⟩
theorem zwP (S:Mem):ACall prog 14 #[.agg #[.string aS,.int .i64 3],.int .i64 0,.int .i64 3] S λr S'=>r = .tuple #[.int .u64 5,.int .i64 0]/\S'=S:=by
 refine k_E3 39 func14 ?_;refine r2_ ?_;refine vD (cs:=[_,_]) (zab rfl) rfl ?_;intro H C;have A:=C
 repeat ((with_reducible replace A:=zaa A);obtain ⟨A,_⟩:=A)
 refine nl_ ?_;refine r8_ ?_;refine cp_ rfl (zu4 _) ?_;refine r9_ ?_;refine cF_ ?_;refine r7_ ?_;refine cp_ rfl (zp0 _) ?_;refine r14_ ?_;refine cF_ ?_;refine r11_ ?_;refine cF_ ?_;refine r8_ ?_;refine cp_ rfl (zxj _) ?_;refine r4_ ?_;refine kw_ [0,1,2,3,6,7,8,12,14,28] ?_;refine s1_ ?_;refine ⟨_,S,⟨_,_,rfl,⟨_,_,rfl,rfl,rfl⟩,rfl⟩,zae,?_⟩;exact ⟨rfl,rfl⟩
theorem zwQ (S:Mem):ACall prog 13 #[.agg #[.string ByteArray.empty,.int .i64 0],.int .u64 5,.int .i64 3] S λr S'=>r = .tuple #[.agg #[.string aS,.int .i64 3],.int .i64 0]/\S'=S:=by
 have V:=zu5;have Q:=zwM;have U:=zu6;unfold wB at *;refine k_E3 45 func13 ?_;refine r2_ ?_;refine vD (cs:=[_,_]) (zab rfl) rfl ?_;intro b3 X;have J:=X
 repeat ((with_reducible replace J:=zaa J);obtain ⟨J,_⟩:=J)
 refine nl_ ?_;refine ARun.alloc (zab rfl) zeE ?_;intro b6 f6;have I:=f6
 repeat ((with_reducible replace I:=zaa I);obtain ⟨I,_⟩:=I)
 refine nl_ ?_;refine r7_ ?_;refine cp_ rfl (zu3 _) ?_;refine r9_ ?_;refine cF_ ?_;refine r7_ ?_;refine cp_ rfl (zp0 _) ?_;refine r3_ ?_;refine vv 3 false 20 rfl (zab rfl) rfl (zab rfl) zwY rfl (zwL _) ?_;rintro _ Y ⟨rfl,W⟩;rw [W];clear W Y;refine r6_ ?_;refine cF_ ?_;refine r10_ ?_;refine cF_ ?_;refine r6_ ?_;refine vD (cs:=[_,_,_]) (zab rfl) rfl ?_;intro H C;have A:=C
 repeat ((with_reducible replace A:=zaa A);obtain ⟨A,_⟩:=A)
 refine nl_ ?_;refine r3_ ?_;refine kw_ [0,1,2,3,6,7,8,13,16,27,9] ?_;refine r4_ ?_;refine cp_ rfl (V H _ C) ?_;refine r7_ ?_;refine ca_ rfl (Q H _ C) ?_;rintro _ S9 ⟨rfl,h9⟩;rw [h9];clear h9 S9;refine r5_ ?_;refine cp_ rfl (U H _ C) ?_;refine r5_ ?_;refine ⟨_,S,⟨_,_,_,rfl,.inr ⟨zfF,[_,_],zeD,rds_,rfl⟩,⟨_,_,rfl,rfl,rfl⟩,rfl⟩,zae,?_⟩;exact ⟨rfl,rfl⟩
theorem zeZ (S:Mem):ACall prog 4 #[] S λr S'=>r = .bool true/\S'=S:=by
 refine ACall.enter (rs:=[.tmp 0]) 30 [] func4 rfl rfl (Nat.le_of_ble_eq_true rfl) rfl trivial ?_;refine r8_ ?_;refine cp_ rfl (zwQ _) ?_;refine r3_ ?_;refine ARun.alloc (zab rfl) zeE ?_;intro C f1;have A:=f1
 repeat ((with_reducible replace A:=zaa A);obtain ⟨A,_⟩:=A)
 refine nl_ ?_;refine r7_ ?_;refine cp_ rfl (zwP _) ?_;refine r28_ ?_;refine ⟨_,S,⟨_,_,rfl,rfl,rfl⟩,zae,?_⟩;exact ⟨rfl,rfl⟩
end Top
end
section
open Go.RowKit
open Mv Num Loser
theorem zu7 {S:Mem} {Q:Option Addr} {n U:Nat} {C:List (List Nat)} (h:SlOf RowR S (.slice Q n U) C) (j:Nat) (J:j<C.length):∃ b off g,Q=some ⟨b,off,none⟩/\S.Knows ⟨b,off+j*1,none⟩ [g]/\RowR S g (key C j):=by
 obtain ⟨V,A,⟨Y,W,e,a1,a2,X⟩,H⟩:=h;cases e;obtain ⟨b,off,rfl,I⟩:=X.resolve_left (by intro h;rw [h] at A;simp at A;omega);exact ⟨b,off,V[j]'vd,rfl,I j vd,by rw [zo2 C j J];exact H j J vd⟩
end
section
open Go.RowKit
open Mv Disk Num Sto Run Skew
namespace Top
structure YX where
  M:Mem
  i:Nat
  o:Option (Nat × Nat)
  hs:List tu
structure KX where
  i:Nat
  o:Option (Nat × Nat)
theorem zh8 (v:tu) (l:List Nat) (S:Mem) (hl:RowR S v l) (cg:l.length<=17592186043904) (bK:∀ n ∈ l,n<18446744073709551616) (a7:ErrO S) :
  ACall prog 3 #[v] S λr S'=>r = .bool true:=by
 obtain ⟨pk,ck,rfl,l1,l2,l3⟩:=id hl;obtain ⟨eu,ex,hE⟩:=a7;by_cases hc:chkL l=0
 ·by_cases bY:60<l.length
  ·skip
   refine k_E1 132 func3 ?_;refine r8_ ?_;refine cp_ rfl (zeZ _) ?_;refine r3_ ?_;refine cF_ ?_;refine r6_ ?_;refine ca_ rfl (zem _ l _ hl) ?_;rintro _ V ⟨rfl,C⟩;rw [C,hc];clear C V;refine r4_ ?_
   first|refine k_q 29 ?_|refine rG 29 (vi rfl rfl (zag (zev _ _) (decide_eq_true vd))) ?_
   refine r3_ ?_;refine cT_ ?_;refine r7_ ?_;refine ⟨_,_,⟨_,_,rfl,rfl,rfl⟩,zae,?_⟩;rfl
  have ai:=zpE hc;have H:=ai.2.2;have aR:=zux ai.1;have bW:=zaY l;have b5:numP l.length<=41:=by rw [zdR];have:=zdg l.length;omega
  have aI:∀ z ∈ l,1<=z/\z<Num.top:=λz hz=>⟨ai.2.1 z hz,H z hz⟩;refine k_E1 132 func3 ?_;refine r8_ ?_;refine cp_ rfl (zeZ _) ?_;refine r3_ ?_;refine cF_ ?_;refine r6_ ?_;refine ca_ rfl (zem _ l _ hl) ?_;rintro _ V ⟨rfl,C⟩;rw [C,hc];clear C V;refine r4_ ?_
  first|refine k_q 29 ?_|refine rG 29 (vi rfl rfl (zag (zev _ _) (decide_eq_false vd))) ?_
  refine r3_ ?_;refine cF_ ?_;refine r16_ ?_;refine AWP.loop (X:=YX) (λX=>[(0,.slice pk l.length ck),(3,outV X.o X.hs.length),(34,.slice pk l.length ck),(35,.int .i64 (l.length:Int)),(36,.int .i64 (X.i:Int))]) (λX=>outM X.M X.o 22 X.hs) (λX=>X.i<=l.length/\X.hs.length=X.i/\GrowI RowR S X.M X.o X.hs (oneL (l.take X.i))) (λX=>l.length-X.i) (⟨S,0,none,[]⟩) ⟨rfl,rfl,rfl,rfl,rfl,trivial⟩ (Mem.Less.refl _) (⟨Nat.zero_le _,rfl,GrowI.nil _ _⟩) ?_;rintro ⟨M,i,o,hs⟩ ⟨hi,aA,J⟩;(try dsimp only at *);replace hi:i<=l.length:=hi;replace aA:hs.length=i:=aA;replace J:GrowI RowR S M o hs (oneL (l.take i)):=J;by_cases q:i<l.length
  ·refine r6_ ?_;refine cT_ ?_;obtain ⟨b1,o1,rfl,aZ⟩:=l3.resolve_left (λe=>by rw [e] at q;exact absurd q (Nat.not_lt_zero _));have a8:=(aZ i q).less (J.less.trans (zaG (e:=22) (cs:=hs) J.ok));have a9:oneL (l.take (i+1))=oneL (l.take i) ++ [[l[i]]]:=(by unfold oneL;rw [List.take_succ_eq_append_getElem q,List.map_append];rfl);generalize l[i]=z at *;unfold u64s at a8;refine r11_ ?_;refine kw_ [0,3,34,35,36,37,5] ?_;refine r3_ ?_;refine vu (zab rfl) zbi rfl rfl ?_;intro Q aa;have Y:=aa
   repeat ((with_reducible replace Y:=zaa Y);obtain ⟨Y,_⟩:=Y)
   rw [zkG _ _ _ _ _ _ (zcz aa).2];refine vu (zab rfl) zcS rfl rfl ?_;intro bP aw;have ag:=aw
   repeat ((with_reducible replace ag:=zaa ag);obtain ⟨ag,_⟩:=ag)
   refine vF (zab rfl) zcS rfl rfl (zcf (J.ok.set (zcz aa).2) rfl aw) rfl (news:=[_]) rds_ rfl vd (by simp [Value.oneCell']) vd vd ?_;intro a3 bk aj;have aD:RowR (M.set Q ⟨27,[.int .u64 (z:Int)],1⟩) (.slice (some ⟨Q,0,none⟩) 1 1) [z]:=vN (g:=nU) (vf _ _ _) List.prefix_rfl rfl (Nat.le_refl _) (by decide);have aN:=J.step zde (vh M Q _ (zcz aa).1.1) aD aj;rw [<- a9] at aN;refine r9_ ?_;refine ⟨⟨M.set Q ⟨27,[.int .u64 (z:Int)],1⟩,i+1,some (a3,bk),hs ++ [.slice (some ⟨Q,0,none⟩) 1 1]⟩,?_,?_,?_,?_⟩<;>try dsimp only
   ·exact ⟨rfl,sq_,rfl,rfl,rfl,trivial⟩
   ·exact Mem.Less.refl _
   ·exact ⟨q,by rw [List.length_append];show hs.length+1=i+1;omega,aN⟩
   omega
  obtain rfl:i=l.length:=by omega
  refine r6_ ?_;refine cF_ ?_;rw [List.take_length] at J;have aB:SlOf RowR (outM M o 22 hs) (outV o hs.length) (oneL l):=J.slOf zde vd;have aL:S.Less (outM M o 22 hs):=J.less.trans (zaG J.ok);have A:=hl.less aL;have hE:=hE.less aL;obtain ⟨ra,rc,bb⟩:=zbj J.ok;rw [bb] at aB ⊢;generalize outM M o 22 hs=M1 at *;obtain ⟨z,z1,z2,z3,z4,z5⟩:=zuy H vd;have aC:Dz (freshD 500):=zhw (zdP (by decide) (by decide)) (by decide);have bn:Dz z:=zhw z2.r (by rw [z2.f];decide);have bi:openD z=(z,0):=zdK z2.r z2.u;have c0:∀ S,ACall prog 6 #[.int .i64 500] S (DkRes (freshD 500,0) S):=λS=>by have:=znw 500 S;rw [zml (by decide) (by decide)] at this;exact this
  have c1:=λv vl S hd hl=>Rec.zoa v (freshD 500) nA ((1:Nat):Int) (oneL l) vl S hd aC hl (zuw H);rw [z1] at c1;have c2:=λv S hd hE=>zpu v z nA nB l S eu ex hd bn bi z2 z5 (zg4 (zbK H)) aI vd (by decide) (by decide) (by decide) (by decide) z4 z3 hE;clear aC z1;generalize bM:freshD 500=z0 at *;refine r7_ ?_;refine ca_ rfl (c0 _) ?_;rintro _ M2 ⟨v2,rfl,ak,af⟩;have af:DkR M2 _ z0:=af;obtain ⟨bV,b8,bG,b0,rfl,_⟩:=id af;refine r3_ ?_;refine ARun.alloc (zab rfl) zaC ?_;intro b6 f6;have g6:=f6
  repeat ((with_reducible replace g6:=zaa g6);obtain ⟨g6,_⟩:=g6)
  refine nl_ ?_;refine r8_ ?_;refine ca_ rfl ((c1 _ _ M2 af (aB.less zde ak)).frame f6) ?_;rintro _ V ⟨M3,⟨v3,rfl,ax,ae⟩,fa,C⟩;rw [C];clear C V;have ae:DkR M3 _ z:=ae;obtain ⟨b9,cb,b7,cf,rfl,_⟩:=id ae;refine r10_ ?_;refine ca_ rfl ((c2 _ M3 ae (hE.less (ak.trans ax))).frame fa) ?_;rintro _ V ⟨M4,⟨v4,y,nn,k1,k2,k3,rfl,bd,I,aM,bo⟩,fb,C⟩;rw [C];clear C V;obtain ⟨bc,aX,aV,bh,rfl,_⟩:=id I;refine r5_ ?_;refine ARun.alloc (zab rfl) zcB ?_;intro bH aO;have ac:=aO
  repeat ((with_reducible replace ac:=zaa ac);obtain ⟨ac,_⟩:=ac)
  refine nl_ ?_;refine r6_ ?_;refine AWP.less (M4.set b6 ⟨31,[.int .i64 y.d.size,.slice bc y.d.ext.length aX,.slice aV y.d.waits.length bh,.int .i64 y.d.fuse,.bool y.d.down],5⟩) (zrJ aO) ?_;have g6:=fb;have A:=A.less ((ak.trans ax).trans bd);have c4:=λv S h=>Rec.zq9 v y.d nB S h (zhw aM.r (by rw [aM.f];decide));unfold Rec.ReadR at c4;rw [Rec.zot (by decide) (by decide) (by rw [zaO];omega) (zbK aR) (by rw [zaO];exact bo)] at c4;simp only at c4;refine named (S:=M4) (b:=b6) g6.1 ?_;intro T6 ay aJ;replace A:=A.less ay;replace I:=I.less ay;refine r3_ ?_;refine ca_ rfl (c4 _ _ I) ?_;rintro _ W ⟨v6,rfl,ah,al⟩;replace A:=A.less ah;replace I:=I.less ah;replace aJ:=ah.own aJ;obtain ⟨bO,am,⟨aH,aF,rfl,_⟩,_⟩:=id al;rw [am,zaO] at al ⊢;refine r9_ ?_;refine kw_ [0,3,34,35,36,37,6,7,8,11,13,14] ?_;refine r14_ ?_;refine AWP.loop (X:=KX) (λX=>[(0,.slice pk l.length ck),(7,.int .i64 0),(8,.int .i64 0),(11,.int .i64 0),(14,.int .i64 0),(13,.slice aH (red l).length aF),(15,outV X.o X.i),(69,.slice aH (red l).length aF),(70,.int .i64 ((red l).length:Int)),(71,.int .i64 (X.i:Int))]) (λX=>outM W X.o 27 (((red l).take X.i).map nU)) (λX=>X.i<=(red l).length/\OkO W X.o X.i) (λX=>(red l).length-X.i) (⟨0,none⟩) ⟨rfl,rfl,rfl,rfl,rfl,rfl,rfl,rfl,rfl,rfl,trivial⟩ (Mem.Less.refl _) (⟨Nat.zero_le _,zbO _⟩) ?_;rintro ⟨i,o⟩ ⟨hi,ho⟩;(try dsimp only at *);replace hi:i<=(red l).length:=hi;replace ho:OkO W o i:=ho;have hS:W.Less (outM W o 27 (((red l).take i).map nU)):=zaG ho;by_cases q:i<(red l).length
  ·refine r6_ ?_;refine cT_ ?_;obtain ⟨a1,o1,g1,rfl,k1,x1⟩:=zu7 al i (by rw [zaO];exact q);rw [Loser.zo2 _ _ (by rw [zaO];exact q),zpg _ q] at x1;have aY:=List.take_succ_eq_append_getElem q;have ce:=aR _ (List.getElem_mem q);generalize (red l)[i]=n at *;obtain ⟨xa,xc,rfl,_,_,x3⟩:=x1;obtain ⟨xb,xo,rfl,bj⟩:=x3.resolve_left (by simp);have bU:(outM W o 27 (((red l).take i).map nU)).Knows ⟨xb,xo+0*1,none⟩ [.int .u64 (n:Int)]:=(bj 0 (by simp)).less hS;replace k1:(outM W o 27 (((red l).take i).map nU)).Knows ⟨a1,o1+i*1,none⟩ [.slice (some ⟨xb,xo,none⟩) 1 xc]:=Mem.Knows.less k1 hS;refine r19_ ?_;refine cF_ ?_;refine r7_ ?_;refine vu (zab rfl) zbi rfl rfl ?_;intro bN az;have ad:=az
   repeat ((with_reducible replace ad:=zaa ad);obtain ⟨ad,_⟩:=ad)
   refine vF (zab rfl) zbi rfl (by rw [List.length_map,List.length_take];omega) (zcf ho (by rw [List.length_map,List.length_take];omega) az) rfl (news:=[nU n]) rds_ rfl vd (by simp [Value.oneCell',nU]) vd vd ?_;intro be bp aj;refine r9_ ?_;refine ⟨⟨i+1,some (be,bp)⟩,?_,?_,?_,?_⟩<;>try dsimp only
   ·exact ⟨rfl,rfl,rfl,rfl,rfl,rfl,sq_,rfl,rfl,rfl,trivial⟩
   ·show Mem.Less (outM _ _ _ _) _;rw [aY,List.map_append];exact Mem.Less.refl _
   ·exact ⟨q,aj⟩
   omega
  obtain rfl:i=(red l).length:=by omega
  refine r6_ ?_;refine cF_ ?_;rw [List.take_length];have bm:W.Less (outM W o 27 ((red l).map nU)):=zaG ho;have U:RowR (outM W o 27 ((red l).map nU)) (outV o (red l).length) (red l):=zhi (g:=nU) ho rfl vd;replace A:=A.less bm;obtain ⟨oa,oc,aW⟩:=zbj ho;rw [aW] at U ⊢;generalize outM W o 27 ((red l).map nU)=M7 at *;have aP:=Ord.zdt (red l);have ch:=aP.len;refine r8_ ?_;refine ca_ rfl (zpZ _ (red l) M7 U) ?_;rintro _ M8 ba;obtain ⟨_,u4,rfl,bl,av⟩:=ba.resolve_right (λh=>by have:=h.1;omega);obtain ⟨a4,cd,rfl,_⟩:=id av;replace A:=A.less bl;generalize Ord.endsR (red l) (red l).length=e at *;refine r11_ ?_;refine ca_ rfl (zmL _ _ l e M8 A (zh2 av) vd hc aP) ?_;rintro _ M9 ⟨u5,rfl,bf,au⟩;obtain ⟨a5,c5,rfl,_⟩:=id au;replace A:=A.less bf;refine r7_ ?_;refine kw_ [0,7,8,11,14,13,15,69,70,71,72,18,19,20,21] ?_;refine r3_ ?_;refine ca_ rfl (zpZ _ l M9 A) ?_;rintro _ bT a0;obtain ⟨_,u6,rfl,aQ,aG⟩:=a0.resolve_right (λh=>by have:=h.1;omega);obtain ⟨a6,c6,rfl,_⟩:=id aG;refine r38_ ?_;refine vv 26 true 127 rfl (zab rfl) rfl (zab rfl) zwV rfl (zgo _ _ _ _ _ (zh2 (au.less aQ)) (zh2 aG)) ?_;rintro _ V ⟨rfl,C⟩;rw [C,decide_eq_true (Eq.refl _)];clear C V;refine r5_ ?_;refine ⟨_,_,⟨_,_,rfl,rfl,rfl⟩,zae,?_⟩;rfl
 have e1:=zs_ hc;refine k_E1 132 func3 ?_;refine r8_ ?_;refine cp_ rfl (zeZ _) ?_;refine r3_ ?_;refine cF_ ?_;refine r6_ ?_;refine ca_ rfl (zem _ l _ hl) ?_;rintro _ V ⟨rfl,C⟩;rw [C,e1];clear C V;refine r8_ ?_;refine cT_ ?_;refine r7_ ?_;refine ⟨_,_,⟨_,_,rfl,rfl,rfl⟩,zae,?_⟩;rfl
end Top
theorem zgp (H:Option Addr) (C A:Nat) (l:List Nat) (W:tv) (w0:Sl 1 (λx:Nat=>[Value.int .u64 (x:Int)]) (roM W) (.slice H C A) l) (I:∀ n ∈ l,n<18446744073709551616) (Q:l.length<=17592186043904) (J:Top.ErrO (roM W)) :
  Calls prog 3 #[.slice H C A] W λe w'=>e = .returned (.bool true)/\Below W.heap.size W w' :=
 ACall.callsW (Top.zh8 _ l _ w0 Q I J)
end
end Go.Proofs.YtopiogkolaelnaaGreatDoor
